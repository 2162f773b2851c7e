/- Words and contracts, part 9. -/
import Derived.Test.YtbfhfjpfjkdcfaaGreatDoorRows
import Derived.Test.YtbfhfjpfjkdcfaaGreatDoorZ8
namespace Go.Proofs.YtbfhfjpfjkdcfaaGreatDoor
open Go.RowKit Go.ChangeShapes Go.WideShapes Go.Sort Go.Proofs

theorem split_mem_len (b : UInt8) : ∀ (l p : List UInt8), p ∈ splitL b l → p.length ≤ l.length := by
  intro l
  induction l with
  | nil => intro p hp; simp [splitL] at hp; subst hp; simp
  | cons c l ih =>
    intro p hp
    rw [splitL_cons] at hp
    split at hp
    · rcases List.mem_cons.1 hp with rfl | hp
      · simp
      · have := ih p hp; simp; omega
    · split at hp
      · rename_i hs; exact absurd hs (splitL_ne _ _)
      · rename_i x t hs
        rcases List.mem_cons.1 hp with rfl | hp
        · have := ih x (by rw [hs]; simp); simp; omega
        · have := ih p (by rw [hs]; simp [hp]); simp; omega
set_option maxRecDepth 100000 in
set_option maxHeartbeats 2000000 in
theorem chParse_many (l : List UInt8) (w : World) (hl : l.length ≤ 1048576) (hn : 13 < (splitL 10 l).length) : Calls Tryz.prog 43 #[.string (bS l)] w (AnsP w (specR l)) := by
  have HL := Lib.hid (l1Split_s l 10 w hl)
  have HD := Lib.hid (show specR l = none by unfold specR; rw [if_pos hn])
  have j : (13 : Int) < ((splitL 10 l).length : Int) := by omega
  clear hn
  go_enter Tryz.func43, Tryz.ntmps43
  go_wp2_with (go_at_call 60; refine (HL.out).mono ?_)
  rintro e w1 ⟨v, rfl, ⟨A, c, rfl, _, _⟩, hb⟩
  generalize (splitL 10 l).length = n at *
  go_wp2_with fail
  go_ret2
  rw [HD.out]
  exact AnsP.nil hb
set_option maxRecDepth 100000 in
set_option maxHeartbeats 4000000 in
theorem chParse_some (l : List UInt8) (w : World) (hl : l.length ≤ 1048576) (n : Nat) (hnn : (splitL 10 l).length = n + 1) (hn : n ≤ 12) : Calls Tryz.prog 43 #[.string (bS l)] w (AnsP w (specR l)) := by
  have HL := Lib.hid (l1Split_s l 10 w hl)
  have HI : specR l = match allP 6 (splitL 10 l).dropLast with
      | none => none
      | some o => if goodO o = true ∧ textO o = l then some o else none := by unfold specR; rw [if_neg (by omega)]; rfl
  replace HI := Lib.hid HI
  have HB := Lib.hid (fun p => split_mem_len 10 l p)
  obtain ⟨ls, hls⟩ : ∃ ls, ls = splitL 10 l := ⟨_, rfl⟩
  rw [← hls] at HL HI HB hnn
  have HN := Lib.hid hnn
  clear hls
  go_enter Tryz.func43, Tryz.ntmps43
  go_wp2_with (go_at_call 60; refine (HL.out).mono ?_)
  rintro e w1 ⟨v, rfl, hs, hb⟩
  obtain ⟨A, c, rfl, hc, hr⟩ := hs
  have HS := Lib.hid (show Strs w1 (.slice A ls.length c) ls from ⟨A, c, rfl, hc, hr⟩)
  clear hr
  rw [hnn] at hc HS ⊢
  have j : ¬ (13 : Int) < ((n : Int) + 1) := by omega
  clear hnn
  go_wp2_with fail
  go_loopw [5, 21] (fun v i wr => ∃ (k : Nat) (o : List (Nat × Nat)), k ≤ n ∧ i = .int .i64 k ∧ o.length = k ∧ allP 6 (ls.take k) = some o ∧ OwnR w1.heap.size wr v k (xO o) (yO o) ∧ Below w1.heap.size w1 wr) (fun _ i _ => n - (intOf i).toNat)
  case atStart => exact ⟨0, [], by omega, rfl, rfl, rfl, OwnR.nil _ _ _ _, Below.refl _ _⟩
  case round =>
    obtain ⟨k, o, hk, rfl, hok, hall, how, hbr⟩ := hrel
    have HA := Lib.hid hall
    have HO := Lib.hid hok
    have hbw := up_trans hb hbr
    clear hall hok
    by_cases hlt : k < n
    · obtain ⟨p, hp⟩ : ∃ p, ls[k]? = some p := ⟨ls[k]'(by rw [HN.out]; omega), List.getElem?_eq_getElem _⟩
      obtain ⟨b, q, rfl, hx⟩ := HS.out.at hp
      have hx1 := up_keep hbr hx
      have hpl : p.length ≤ 1048576 := by have := HB.out p (List.mem_of_getElem? hp); omega
      have HP := Lib.hid (stParse_s p wr hpl)
      have HQ := Lib.hid (show ls.dropLast[k]? = some p by rw [List.getElem?_dropLast, if_pos (by rw [HN.out]; omega)]; exact hp)
      have HQ2 := Lib.hid hp
      clear hx hp hpl
      cases hsp : spP 6 p with
      | none =>
        rw [hsp, show spW none = .tuple #[.agg #[.int .i64 0, .int .i64 0], .bool false] from rfl] at HP
        have HF := Lib.hid (allP_bad HQ.out hsp)
        clear hsp
        go_wp2_with (go_at_call 61; refine (HP.out).mono ?_; rintro e w2 ⟨rfl, hb2⟩)
        go_ret2
        rw [HI.out, HF.out]
        exact AnsP.nil (by (repeat (first | with_reducible exact Below.refl _ _ | with_reducible assumption | with_reducible refine up_alloc ?_ _ | with_reducible refine up_drew ?_ | with_reducible refine up_drewN ?_ _ | (with_reducible refine up_set ?_ ?hset _; case hset => first | (simp; done) | (simp; omega) | omega) | with_reducible refine up_trans ?_ (by with_reducible assumption))))
      | some a =>
        obtain ⟨x, y⟩ := a
        rw [hsp, show spW (some (x, y)) = .tuple #[.agg #[.int .i64 (x : Int), .int .i64 (y : Int)], .bool true] from rfl] at HP
        have HF := Lib.hid (show allP 6 (ls.take (k + 1)) = some (o ++ [(x, y)]) by rw [take_step HQ2.out]; exact allP_snoc hsp HA.out)
        have hX := (xO_new o (x, y) (k := k) HO.out.symm).1
        have hY := (xO_new o (x, y) (k := k) HO.out.symm).2
        replace how := how.congP (X' := xO (o ++ [(x, y)])) (Y' := yO (o ++ [(x, y)])) (fun i hi => (xO_old o (x, y) (by rw [HO.out]; exact hi)).1.symm) (fun i hi => (xO_old o (x, y) (by rw [HO.out]; exact hi)).2.symm)
        obtain ⟨U, hU⟩ : ∃ U, U = xO (o ++ [(x, y)]) := ⟨_, rfl⟩
        obtain ⟨V, hV⟩ : ∃ V, V = yO (o ++ [(x, y)]) := ⟨_, rfl⟩
        rw [← hU] at hX how
        rw [← hV] at hY how
        have HU := Lib.hid hU
        have HV := Lib.hid hV
        clear hsp hU hV
        go_wp2_with (first | (go_at_call 61; refine (HP.out).mono ?_; rintro e w2 ⟨rfl, hb2⟩) | (at_builtin; refine wpList_app_spot_e rfl (.tmp 32) (.tmp 34) rfl w1.heap.size _ k U V rfl rfl (by simp) (how.up (by (repeat (first | with_reducible exact Below.refl _ _ | with_reducible assumption | with_reducible refine up_alloc ?_ _ | with_reducible refine up_drew ?_ | with_reducible refine up_drewN ?_ _ | (with_reducible refine up_set ?_ ?hset _; case hset => first | (simp; done) | (simp; omega) | omega) | with_reducible refine up_trans ?_ (by with_reducible assumption))))) (show Below w1.heap.size w1 _ from (by (repeat (first | with_reducible exact Below.refl _ _ | with_reducible assumption | with_reducible refine up_alloc ?_ _ | with_reducible refine up_drew ?_ | with_reducible refine up_drewN ?_ _ | (with_reducible refine up_set ?_ ?hset _; case hset => first | (simp; done) | (simp; omega) | omega) | with_reducible refine up_trans ?_ (by with_reducible assumption))))).size (by omega) hX hY ?_; intro v2 w2 ho2 hb2))
        go_roundw
        case rel => exact ⟨k + 1, o ++ [(x, y)], by omega, by go_num, by simp [HO.out], HF.out, by rw [← HU.out, ← HV.out]; exact ho2, (show Below w1.heap.size w1 _ from (by (repeat (first | with_reducible exact Below.refl _ _ | with_reducible assumption | with_reducible refine up_alloc ?_ _ | with_reducible refine up_drew ?_ | with_reducible refine up_drewN ?_ _ | (with_reducible refine up_set ?_ ?hset _; case hset => first | (simp; done) | (simp; omega) | omega) | with_reducible refine up_trans ?_ (by with_reducible assumption))))).trans hb2⟩
        case measure => simp [intOf]; omega
    · have e : k = n := by omega
      subst e
      have hT := HA.out
      rw [show ls.take k = ls.dropLast by rw [List.dropLast_eq_take, HN.out]; rfl] at hT
      have HT := Lib.hid hT
      clear hT
      obtain ⟨A', c', rfl, hc', hcm⟩ := how.shape
      have HW := Lib.hid how
      clear how
      have HG := Lib.hid (chGood_g _ k _ _ wr HW.out.ownS.spots (by omega))
      cases hg : goodO o with
      | false =>
        rw [show chartB k (xO o) (yO o) = false by rw [← HO.out]; exact hg] at HG
        have HD := Lib.hid (show specR l = none by rw [HI.out, HT.out]; simp only; rw [if_neg (by rw [hg]; rintro ⟨h, _⟩; cases h)])
        clear hg
        go_wp2_with (go_at_call 25; refine (HG.out).mono ?_; rintro e w2 ⟨rfl, hb2⟩)
        go_ret2
        rw [HD.out]
        exact AnsP.nil (by (repeat (first | with_reducible exact Below.refl _ _ | with_reducible assumption | with_reducible refine up_alloc ?_ _ | with_reducible refine up_drew ?_ | with_reducible refine up_drewN ?_ _ | (with_reducible refine up_set ?_ ?hset _; case hset => first | (simp; done) | (simp; omega) | omega) | with_reducible refine up_trans ?_ (by with_reducible assumption))))
      | true =>
        have hch : chartB k (xO o) (yO o) = true := by rw [← HO.out]; exact hg
        obtain ⟨_, hsp, _⟩ := chartB_iff.1 hch
        rw [hch] at HG
        have HX := Lib.hid (fun W (hW : Below wr.heap.size wr W) => chText_s (.slice A' k c') k _ _ W (HW.out.ownS.spots.up hW) hn (fun i hi => by have := spotB_iff.1 (hsp i hi); exact this))
        have htx : txL (xO o) (yO o) k = textO o := by unfold textO; rw [HO.out]
        rw [htx] at HX
        by_cases ht : textO o = l
        · have HD := Lib.hid (show specR l = some o by rw [HI.out, HT.out]; simp only; rw [if_pos ⟨hg, ht⟩])
          rw [ht] at HX
          clear hg hch hsp htx ht
          go_wp2_with (first | (go_at_call 25; refine (HG.out).mono ?_; rintro e w2 ⟨rfl, hb2⟩) | (go_at_call 26; refine (HX.out _ (by (repeat (first | with_reducible exact Below.refl _ _ | with_reducible assumption | with_reducible refine up_alloc ?_ _ | with_reducible refine up_drew ?_ | with_reducible refine up_drewN ?_ _ | (with_reducible refine up_set ?_ ?hset _; case hset => first | (simp; done) | (simp; omega) | omega) | with_reducible refine up_trans ?_ (by with_reducible assumption))))).mono ?_; rintro e w3 ⟨rfl, hb3⟩))
          go_ret2
          rw [HD.out]
          have ho := HW.out.ownS.up (show Below wr.heap.size wr w3 from (by (repeat (first | with_reducible exact Below.refl _ _ | with_reducible assumption | with_reducible refine up_alloc ?_ _ | with_reducible refine up_drew ?_ | with_reducible refine up_drewN ?_ _ | (with_reducible refine up_set ?_ ?hset _; case hset => first | (simp; done) | (simp; omega) | omega) | with_reducible refine up_trans ?_ (by with_reducible assumption)))))
          rw [← HO.out] at ho
          have ho := ho.more hb.size
          exact ⟨_, by rw [HO.out]; rfl, ho, by (repeat (first | with_reducible exact Below.refl _ _ | with_reducible assumption | with_reducible refine up_alloc ?_ _ | with_reducible refine up_drew ?_ | with_reducible refine up_drewN ?_ _ | (with_reducible refine up_set ?_ ?hset _; case hset => first | (simp; done) | (simp; omega) | omega) | with_reducible refine up_trans ?_ (by with_reducible assumption)))⟩
        · have HD := Lib.hid (show specR l = none by rw [HI.out, HT.out]; simp only; rw [if_neg (fun h => ht h.2)])
          have hne : ((bS (textO o)).toList == (bS l).toList) = false := by rw [bS_list, bS_list]; simpa using ht
          have hne2 : ¬ (bS (textO o)).toList = (bS l).toList := by rw [bS_list, bS_list]; exact ht
          clear hg hch hsp htx ht
          generalize bS (textO o) = T at *
          generalize bS l = L at *
          go_wp2_with (first | (go_at_call 25; refine (HG.out).mono ?_; rintro e w2 ⟨rfl, hb2⟩) | (go_at_call 26; refine (HX.out _ (by (repeat (first | with_reducible exact Below.refl _ _ | with_reducible assumption | with_reducible refine up_alloc ?_ _ | with_reducible refine up_drew ?_ | with_reducible refine up_drewN ?_ _ | (with_reducible refine up_set ?_ ?hset _; case hset => first | (simp; done) | (simp; omega) | omega) | with_reducible refine up_trans ?_ (by with_reducible assumption))))).mono ?_; rintro e w3 ⟨rfl, hb3⟩))
          go_ret2
          rw [HD.out]
          exact AnsP.nil (by (repeat (first | with_reducible exact Below.refl _ _ | with_reducible assumption | with_reducible refine up_alloc ?_ _ | with_reducible refine up_drew ?_ | with_reducible refine up_drewN ?_ _ | (with_reducible refine up_set ?_ ?hset _; case hset => first | (simp; done) | (simp; omega) | omega) | with_reducible refine up_trans ?_ (by with_reducible assumption))))
theorem chParse_s (l : List UInt8) (w : World) (hl : l.length ≤ 1048576) : Calls Tryz.prog 43 #[.string (bS l)] w (AnsP w (specR l)) := by
  by_cases hn : 13 < (splitL 10 l).length
  · exact chParse_many l w hl hn
  · have h0 : (splitL 10 l).length ≠ 0 := by simpa using splitL_ne 10 l
    exact chParse_some l w hl ((splitL 10 l).length - 1) (by omega) (by omega)
set_option maxRecDepth 100000 in
set_option maxHeartbeats 1000000 in
theorem specParseChart_s (l : List UInt8) (w : World) (hl : l.length ≤ 1048576) : Calls Tryz.prog 22 #[.string (bS l)] w (AnsP w (specR l)) := by
  have HC := Lib.hid (chParse_s l w hl)
  go_enter Tryz.func22, Tryz.ntmps22
  go_wp2_with (go_at_call 43; refine (HC.out).mono ?_)
  rintro e w1 ⟨v, rfl, ho, hb⟩
  go_wp2_with fail
  go_ret2
  exact ⟨v, rfl, ho, hb⟩
end Go.Proofs.YtbfhfjpfjkdcfaaGreatDoor
namespace Go.Proofs.YtbfhfjpfjkdcfaaGreatDoor
open Go.RowKit Go.Sort Go.ChangeShapes Go.WideShapes

set_option maxHeartbeats 1000000 in
theorem iMirror_any (v : Value) (n : Nat) (X Y : Nat → Int) (hn : n ≤ 1048576) (w : World) (h : Spots w v n X Y) :
    Calls Tryz.prog 8 #[v] w (AnsSB w (sel (chartB n X Y) n) (fun i => 1280 - X i) Y (chartB n X Y)) := by
  have HV := h
  obtain ⟨A, c, rfl, hnc, hrow⟩ := h
  cases hc : chartB n X Y with
  | false =>
    clear hrow
    go_enter Tryz.func8, Tryz.ntmps8
    go_wp2_with ((go_at_call 18; refine (isChart_g _ _ _ _ _ (by first | exact Spots.up (by with_reducible assumption) (by (repeat (first | with_reducible exact Below.refl _ _ | with_reducible assumption | with_reducible refine up_alloc ?_ _ | with_reducible refine up_drew ?_ | with_reducible refine up_drewN ?_ _ | (with_reducible refine up_set ?_ ?hset _; case hset => first | (simp; done) | (simp; omega) | omega) | with_reducible refine up_trans ?_ (by with_reducible assumption)))) | exact OwnS.spots (OwnS.up (by with_reducible assumption) (by (repeat (first | with_reducible exact Below.refl _ _ | with_reducible assumption | with_reducible refine up_alloc ?_ _ | with_reducible refine up_drew ?_ | with_reducible refine up_drewN ?_ _ | (with_reducible refine up_set ?_ ?hset _; case hset => first | (simp; done) | (simp; omega) | omega) | with_reducible refine up_trans ?_ (by with_reducible assumption)))))) (by omega)).mono ?_; rintro e w1 ⟨rfl, hb⟩))
    go_ret2
    exact AnsSB.nil (by (repeat (first | with_reducible exact Below.refl _ _ | with_reducible assumption | with_reducible refine up_alloc ?_ _ | with_reducible refine up_drew ?_ | with_reducible refine up_drewN ?_ _ | (with_reducible refine up_set ?_ ?hset _; case hset => first | (simp; done) | (simp; omega) | omega) | with_reducible refine up_trans ?_ (by with_reducible assumption))))
  | true =>
    go_enter Tryz.func8, Tryz.ntmps8
    go_wp2_with ((go_at_call 18; refine (isChart_g _ _ _ _ _ (by first | exact Spots.up (by with_reducible assumption) (by (repeat (first | with_reducible exact Below.refl _ _ | with_reducible assumption | with_reducible refine up_alloc ?_ _ | with_reducible refine up_drew ?_ | with_reducible refine up_drewN ?_ _ | (with_reducible refine up_set ?_ ?hset _; case hset => first | (simp; done) | (simp; omega) | omega) | with_reducible refine up_trans ?_ (by with_reducible assumption)))) | exact OwnS.spots (OwnS.up (by with_reducible assumption) (by (repeat (first | with_reducible exact Below.refl _ _ | with_reducible assumption | with_reducible refine up_alloc ?_ _ | with_reducible refine up_drew ?_ | with_reducible refine up_drewN ?_ _ | (with_reducible refine up_set ?_ ?hset _; case hset => first | (simp; done) | (simp; omega) | omega) | with_reducible refine up_trans ?_ (by with_reducible assumption)))))) (by omega)).mono ?_; rintro e w1 ⟨rfl, hb⟩))
    have hb1 : Below w.heap.size w w1 := by (repeat (first | with_reducible exact Below.refl _ _ | with_reducible assumption | with_reducible refine up_alloc ?_ _ | with_reducible refine up_drew ?_ | with_reducible refine up_drewN ?_ _ | (with_reducible refine up_set ?_ ?hset _; case hset => first | (simp; done) | (simp; omega) | omega) | with_reducible refine up_trans ?_ (by with_reducible assumption)))
    go_loopw [4, 13] (fun v i wr => ∃ k : Nat, k ≤ n ∧ i = .int .i64 k ∧ OwnR w.heap.size wr v k (fun i => 1280 - X i) Y ∧ Below w.heap.size w wr) (fun _ i _ => n - (intOf i).toNat)
    case atStart => exact ⟨0, by omega, rfl, OwnR.empty hb1.size _ _, up_alloc hb1 _⟩
    case round =>
      obtain ⟨k, hk, rfl, how, hbr⟩ := hrel
      by_cases hlt : k < n
      · obtain ⟨b, o, rfl, hr⟩ := hrow (by omega)
        have c1 := up_keep hbr (hr k hlt).1
        have c2 := up_keep hbr (hr k hlt).2
        have hsp := (chartB_iff.1 hc).2.1 k hlt
        rw [spotB_iff] at hsp
        obtain ⟨⟨s1, s2⟩, s3, s4⟩ := hsp
        clear hr hrow hc HV hb hb1
        go_wp2_with (at_builtin; refine wpList_app_spot rfl (.tmp 17) (.tmp 24) rfl w.heap.size _ k (fun i => 1280 - X i) Y rfl rfl (by simp) (how.up (by (repeat (first | with_reducible exact Below.refl _ _ | with_reducible assumption | with_reducible refine up_alloc ?_ _ | with_reducible refine up_drew ?_ | with_reducible refine up_drewN ?_ _ | (with_reducible refine up_set ?_ ?hset _; case hset => first | (simp; done) | (simp; omega) | omega) | with_reducible refine up_trans ?_ (by with_reducible assumption))))) (by have := hbr.size; simp; omega) (by omega) ?_; intro v2 w2 ho2 hb2)
        go_roundw
        case rel => exact ⟨k + 1, by omega, by go_num, ho2, (up_alloc hbr _).trans hb2⟩
        case measure => simp [intOf]; omega
      · have e : k = n := by omega
        subst e
        go_wp2_with fail
        go_ret2
        exact ⟨_, rfl, how.ownS, hbr⟩
set_option maxHeartbeats 400000 in
theorem stMirror_any (x y : Int) (h0 : 0 ≤ x) (h1 : x ≤ 1280) (w : World) :
    Calls Tryz.prog 27 #[.agg #[.int .i64 x, .int .i64 y]] w (Ans w (.agg #[.int .i64 (1280 - x), .int .i64 y])) := by
  go_enter Tryz.func27, Tryz.ntmps27
  go_wp2
  refine bodyPost_ret (v := .agg #[.int .i64 (1280 - x), .int .i64 y]) (by simp [results, Tryz.results27, go_sem]) rfl ?_
  exact ⟨rfl, by (repeat (first | with_reducible exact Below.refl _ _ | with_reducible assumption | with_reducible refine up_alloc ?_ _ | with_reducible refine up_drew ?_ | with_reducible refine up_drewN ?_ _ | (with_reducible refine up_set ?_ ?hset _; case hset => first | (simp; done) | (simp; omega) | omega) | with_reducible refine up_trans ?_ (by with_reducible assumption)))⟩
set_option maxHeartbeats 1000000 in
theorem sMirror_any (v : Value) (n : Nat) (X Y : Nat → Int) (hn : n ≤ 1048576) (w : World) (h : Spots w v n X Y) :
    Calls Tryz.prog 9 #[v] w (AnsSB w (sel (chartB n X Y) n) (fun i => 1280 - X i) Y (chartB n X Y)) := by
  have HV := h
  obtain ⟨A, c, rfl, hnc, hrow⟩ := h
  cases hc : chartB n X Y with
  | false =>
    clear hrow
    go_enter Tryz.func9, Tryz.ntmps9
    go_wp2_with ((go_at_call 25; refine (chGood_g _ _ _ _ _ (by first | exact Spots.up (by with_reducible assumption) (by (repeat (first | with_reducible exact Below.refl _ _ | with_reducible assumption | with_reducible refine up_alloc ?_ _ | with_reducible refine up_drew ?_ | with_reducible refine up_drewN ?_ _ | (with_reducible refine up_set ?_ ?hset _; case hset => first | (simp; done) | (simp; omega) | omega) | with_reducible refine up_trans ?_ (by with_reducible assumption)))) | exact OwnS.spots (OwnS.up (by with_reducible assumption) (by (repeat (first | with_reducible exact Below.refl _ _ | with_reducible assumption | with_reducible refine up_alloc ?_ _ | with_reducible refine up_drew ?_ | with_reducible refine up_drewN ?_ _ | (with_reducible refine up_set ?_ ?hset _; case hset => first | (simp; done) | (simp; omega) | omega) | with_reducible refine up_trans ?_ (by with_reducible assumption)))))) (by omega)).mono ?_; rintro e w1 ⟨rfl, hb⟩))
    go_ret2
    exact AnsSB.nil (by (repeat (first | with_reducible exact Below.refl _ _ | with_reducible assumption | with_reducible refine up_alloc ?_ _ | with_reducible refine up_drew ?_ | with_reducible refine up_drewN ?_ _ | (with_reducible refine up_set ?_ ?hset _; case hset => first | (simp; done) | (simp; omega) | omega) | with_reducible refine up_trans ?_ (by with_reducible assumption))))
  | true =>
    go_enter Tryz.func9, Tryz.ntmps9
    go_wp2_with ((go_at_call 25; refine (chGood_g _ _ _ _ _ (by first | exact Spots.up (by with_reducible assumption) (by (repeat (first | with_reducible exact Below.refl _ _ | with_reducible assumption | with_reducible refine up_alloc ?_ _ | with_reducible refine up_drew ?_ | with_reducible refine up_drewN ?_ _ | (with_reducible refine up_set ?_ ?hset _; case hset => first | (simp; done) | (simp; omega) | omega) | with_reducible refine up_trans ?_ (by with_reducible assumption)))) | exact OwnS.spots (OwnS.up (by with_reducible assumption) (by (repeat (first | with_reducible exact Below.refl _ _ | with_reducible assumption | with_reducible refine up_alloc ?_ _ | with_reducible refine up_drew ?_ | with_reducible refine up_drewN ?_ _ | (with_reducible refine up_set ?_ ?hset _; case hset => first | (simp; done) | (simp; omega) | omega) | with_reducible refine up_trans ?_ (by with_reducible assumption)))))) (by omega)).mono ?_; rintro e w1 ⟨rfl, hb⟩))
    have hb1 : Below w.heap.size w w1 := by (repeat (first | with_reducible exact Below.refl _ _ | with_reducible assumption | with_reducible refine up_alloc ?_ _ | with_reducible refine up_drew ?_ | with_reducible refine up_drewN ?_ _ | (with_reducible refine up_set ?_ ?hset _; case hset => first | (simp; done) | (simp; omega) | omega) | with_reducible refine up_trans ?_ (by with_reducible assumption)))
    go_loopw [4, 12] (fun v i wr => ∃ k : Nat, k ≤ n ∧ i = .int .i64 k ∧ OwnR w.heap.size wr v k (fun i => 1280 - X i) Y ∧ Below w.heap.size w wr) (fun _ i _ => n - (intOf i).toNat)
    case atStart => exact ⟨0, by omega, rfl, OwnR.nil _ _ _ _, hb1⟩
    case round =>
      obtain ⟨k, hk, rfl, how, hbr⟩ := hrel
      by_cases hlt : k < n
      · obtain ⟨b, o, rfl, hr⟩ := hrow (by omega)
        have c1 := up_keep hbr (hr k hlt).1
        have c2 := up_keep hbr (hr k hlt).2
        have hsp := (chartB_iff.1 hc).2.1 k hlt
        rw [spotB_iff] at hsp
        obtain ⟨⟨s1, s2⟩, s3, s4⟩ := hsp
        clear hr hrow hc HV hb hb1
        go_wp2_with (first
          | (go_at_call 27; refine (stMirror_any _ _ (by omega) (by omega) _).mono ?_; rintro e w1 ⟨rfl, hb⟩)
          | (at_builtin; refine wpList_app_spot rfl (.tmp 16) (.tmp 19) rfl w.heap.size _ (k) (fun i => 1280 - X i) (Y) rfl rfl (by simp) (OwnR.up how (by (repeat (first | with_reducible exact Below.refl _ _ | with_reducible assumption | with_reducible refine up_alloc ?_ _ | with_reducible refine up_drew ?_ | with_reducible refine up_drewN ?_ _ | (with_reducible refine up_set ?_ ?hset _; case hset => first | (simp; done) | (simp; omega) | omega) | with_reducible refine up_trans ?_ (by with_reducible assumption))))) (show Below w.heap.size w _ from (by (repeat (first | with_reducible exact Below.refl _ _ | with_reducible assumption | with_reducible refine up_alloc ?_ _ | with_reducible refine up_drew ?_ | with_reducible refine up_drewN ?_ _ | (with_reducible refine up_set ?_ ?hset _; case hset => first | (simp; done) | (simp; omega) | omega) | with_reducible refine up_trans ?_ (by with_reducible assumption))))).size (by omega) ?_; intro v2 w2 ho2 hb2; replace hb2 := (show Below w.heap.size w _ from (by (repeat (first | with_reducible exact Below.refl _ _ | with_reducible assumption | with_reducible refine up_alloc ?_ _ | with_reducible refine up_drew ?_ | with_reducible refine up_drewN ?_ _ | (with_reducible refine up_set ?_ ?hset _; case hset => first | (simp; done) | (simp; omega) | omega) | with_reducible refine up_trans ?_ (by with_reducible assumption))))).trans hb2))
        go_roundw
        case rel => exact ⟨k + 1, by omega, by go_num, ho2, hb2⟩
        case measure => simp [intOf]; omega
      · have e : k = n := by omega
        subst e
        go_wp2_with fail
        go_ret2
        exact ⟨_, rfl, how.ownS, hbr⟩
end Go.Proofs.YtbfhfjpfjkdcfaaGreatDoor
