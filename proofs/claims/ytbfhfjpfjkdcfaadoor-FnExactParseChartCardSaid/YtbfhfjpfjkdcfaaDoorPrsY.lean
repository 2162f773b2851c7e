/-
  Both sides read a chart.
-/
import Derived.Test.YtbfhfjpfjkdcfaaDoorRows
import Derived.Test.YtbfhfjpfjkdcfaaDoorBase
import Derived.Test.YtbfhfjpfjkdcfaaDoorSpot
import Derived.Test.YtbfhfjpfjkdcfaaDoorSlice
import Derived.Test.YtbfhfjpfjkdcfaaDoorGrow
import Derived.Test.YtbfhfjpfjkdcfaaDoorAppend
import Derived.Test.YtbfhfjpfjkdcfaaDoorAppendE
import Derived.Test.YtbfhfjpfjkdcfaaDoorForm
import Derived.Test.YtbfhfjpfjkdcfaaDoorChart
import Derived.Test.YtbfhfjpfjkdcfaaDoorTxtP
import Derived.Test.YtbfhfjpfjkdcfaaDoorPrsP
import Derived.Test.YtbfhfjpfjkdcfaaDoorPrsN
import Derived.Test.YtbfhfjpfjkdcfaaDoorPrsS
import Derived.Test.YtbfhfjpfjkdcfaaDoorPrsF
import Derived.Test.YtbfhfjpfjkdcfaaDoorPrsC
import Derived.Test.YtbfhfjpfjkdcfaaDoorPrsD
import Derived.Test.YtbfhfjpfjkdcfaaDoorPrsX
namespace Go.Proofs.YtbfhfjpfjkdcfaaDoor
open Go.RowKit Go.ChangeShapes Go.WideShapes Go.Sort Go.Proofs

theorem allP_snoc {m : Nat} {a : Nat × Nat} {p : List UInt8} (hp : spP m p = some a) : ∀ {ls : List (List UInt8)} {o : List (Nat × Nat)}, allP m ls = some o → allP m (ls ++ [p]) = some (o ++ [a])
  | [], o, h => by
    obtain rfl := Option.some.inj h
    simp [allP, hp]
  | l :: t, o, h => by
    unfold allP at h
    cases hs : spP m l with
    | none => rw [hs] at h; cases h
    | some b =>
      rw [hs] at h
      simp only at h
      obtain ⟨r, hr, rfl⟩ := Option.map_eq_some_iff.1 h
      rw [List.cons_append, allP, hs]
      simp only
      rw [allP_snoc hp hr]
      rfl
theorem allP_bad {m : Nat} : ∀ {ls : List (List UInt8)} {k : Nat} {p : List UInt8}, ls[k]? = some p → spP m p = none → allP m ls = none
  | [], k, p, h, _ => by simp at h
  | l :: t, 0, p, h, hp => by
    simp at h
    subst h
    unfold allP
    rw [hp]
  | l :: t, k + 1, p, h, hp => by
    unfold allP
    cases hs : spP m l with
    | none => rfl
    | some b =>
      simp only
      rw [allP_bad (ls := t) (k := k) (by simpa using h) hp]
      rfl
theorem take_step {α : Type} {l : List α} {k : Nat} {a : α} (h : l[k]? = some a) : l.take (k + 1) = l.take k ++ [a] := by
  rw [List.take_add_one, h]; rfl
theorem xO_old (o : List (Nat × Nat)) (a : Nat × Nat) {i : Nat} (h : i < o.length) : xO (o ++ [a]) i = xO o i ∧ yO (o ++ [a]) i = yO o i := by
  unfold xO yO
  simp [List.getD, List.getElem?_append_left h]
theorem xO_new (o : List (Nat × Nat)) (a : Nat × Nat) {k : Nat} (h : k = o.length) : xO (o ++ [a]) k = (a.1 : Int) ∧ yO (o ++ [a]) k = (a.2 : Int) := by
  subst h
  unfold xO yO
  simp
theorem OwnR.congP {base : Nat} {w : World} {v : Value} {n : Nat} {X Y X' Y' : Nat → Int} (h : OwnR base w v n X Y) (hx : ∀ i, i < n → X i = X' i) (hy : ∀ i, i < n → Y i = Y' i) : OwnR base w v n X' Y' := by
  unfold OwnR at h ⊢
  rw [← cells2_cong hx hy]
  exact h
/-- What a reading of a chart hands back. -/
def AnsP (w : World) (o : Option (List (Nat × Nat))) (e : Ending) (w' : World) : Prop := AnsSB w (o.getD []).length (xO (o.getD [])) (yO (o.getD [])) o.isSome e w'
theorem AnsP.nil {w w' : World} (hb : Below w.heap.size w w') : AnsP w none (.returned (.tuple #[.slice none 0 0, .bool false])) w' := AnsSB.nil hb
theorem Strs.at {w : World} {A : Option Addr} {n c : Nat} {ls : List (List UInt8)} (h : Strs w (.slice A n c) ls) {k : Nat} {p : List UInt8} (hp : ls[k]? = some p) : ∃ b o, A = some ⟨b, o, none⟩ ∧ w.cell? ⟨b, o + k, none⟩ = some (.string (bS p)) := by
  obtain ⟨A', c', e, hc, hr⟩ := h
  cases e
  obtain ⟨b, o, rfl, hx⟩ := hr (by have := (List.getElem?_eq_some_iff.1 hp).1; omega)
  exact ⟨b, o, rfl, hx k p hp⟩
theorem lines_len {l : List UInt8} {ls : List (List UInt8)} (h : linesR l = some ls) {k : Nat} {p : List UInt8} (hp : ls[k]? = some p) : p.length ≤ l.length := by
  have key : ∀ (b : UInt8) (l : List UInt8) (p : List UInt8), p ∈ splitL b l → p.length ≤ l.length := by
    intro b l
    induction l with
    | nil => intro p hp; simp [splitL] at hp; subst hp; simp
    | cons c l ih =>
      intro p hp
      rw [splitL_cons] at hp
      split at hp
      · rcases List.mem_cons.1 hp with rfl | hp
        · simp
        · have := ih p hp; simp; omega
      · split at hp
        · rename_i hs; exact absurd hs (splitL_ne _ _)
        · rename_i x t hs
          rcases List.mem_cons.1 hp with rfl | hp
          · have := ih x (by rw [hs]; simp); simp; omega
          · have := ih p (by rw [hs]; simp [hp]); simp; omega
  have hm := List.mem_of_getElem? hp
  unfold linesR at h
  split at h
  · obtain rfl := Option.some.inj h; simp at hm
  · split at h
    · obtain rfl := Option.some.inj h
      have := key _ _ _ hm
      simp at this; omega
    · cases h
set_option maxRecDepth 100000 in
set_option maxHeartbeats 2000000 in
theorem parseChart_none (l : List UInt8) (w : World) (hl : l.length ≤ 1048576) (hm : MaxW w) (h : linesR l = none) : Calls Tryd.prog 6 #[.string (bS l)] w (AnsP w (implR l)) := by
  have HL := Lib.hid (linesOf_s l w hl hm)
  rw [h] at HL
  have HD := Lib.hid (show implR l = none by unfold implR; rw [h])
  clear h hm
  go_enter Tryd.func6, Tryd.ntmps6
  go_wp2_with (go_at_call 15; refine (HL.out).mono ?_; rintro e w1 ⟨rfl, hb⟩)
  go_ret2
  rw [HD.out]
  exact AnsP.nil hb
set_option maxRecDepth 100000 in
set_option maxHeartbeats 2000000 in
theorem parseChart_many (l : List UInt8) (w : World) (hl : l.length ≤ 1048576) (hm : MaxW w) (ls : List (List UInt8)) (h : linesR l = some ls) (hn : 12 < ls.length) : Calls Tryd.prog 6 #[.string (bS l)] w (AnsP w (implR l)) := by
  have HL := Lib.hid (linesOf_s l w hl hm)
  rw [h] at HL
  have HD := Lib.hid (show implR l = none by unfold implR; rw [h]; simp only; rw [if_pos hn])
  have j : (12 : Int) < (ls.length : Int) := by omega
  clear h hm hn
  go_enter Tryd.func6, Tryd.ntmps6
  go_wp2_with (go_at_call 15; refine (HL.out).mono ?_)
  rintro e w1 ⟨v, rfl, ⟨A, c, rfl, _, _⟩, hb⟩
  generalize ls.length = n at *
  go_wp2_with fail
  go_ret2
  rw [HD.out]
  exact AnsP.nil hb
set_option maxRecDepth 100000 in
set_option maxHeartbeats 4000000 in
theorem parseChart_some (l : List UInt8) (w : World) (hl : l.length ≤ 1048576) (hm : MaxW w) (ls : List (List UInt8)) (h : linesR l = some ls) (hn : ls.length ≤ 12) : Calls Tryd.prog 6 #[.string (bS l)] w (AnsP w (implR l)) := by
  have HL := Lib.hid (linesOf_s l w hl hm)
  rw [h] at HL
  have HI : implR l = match allP 9 ls with
      | none => none
      | some o => if goodO o = true then some o else none := by unfold implR; rw [h]; simp only; rw [if_neg (by omega)]; rfl
  replace HI := Lib.hid HI
  have HB := Lib.hid (fun k p => lines_len h (k := k) (p := p))
  clear h
  go_enter Tryd.func6, Tryd.ntmps6
  go_wp2_with (go_at_call 15; refine (HL.out).mono ?_)
  rintro e w1 ⟨v, rfl, hs, hb⟩
  obtain ⟨A, c, rfl, hc, hr⟩ := hs
  have HS := Lib.hid (show Strs w1 (.slice A ls.length c) ls from ⟨A, c, rfl, hc, hr⟩)
  clear hr
  obtain ⟨n, hnn⟩ : ∃ n, n = ls.length := ⟨_, rfl⟩
  have HN := Lib.hid hnn
  rw [← hnn] at hn hc HS ⊢
  have j : ¬ (12 : Int) < (n : Int) := by omega
  clear hnn
  go_wp2_with fail
  go_loopw [6, 26] (fun v i wr => ∃ (k : Nat) (o : List (Nat × Nat)), k ≤ n ∧ i = .int .i64 k ∧ o.length = k ∧ allP 9 (ls.take k) = some o ∧ OwnR w1.heap.size wr v k (xO o) (yO o) ∧ Below w1.heap.size w1 wr) (fun _ i _ => n - (intOf i).toNat)
  case atStart => exact ⟨0, [], by omega, rfl, rfl, rfl, OwnR.empty (Nat.le_refl _) _ _, below_alloc _ _⟩
  case round =>
    obtain ⟨k, o, hk, rfl, hok, hall, how, hbr⟩ := hrel
    have HA := Lib.hid hall
    have HO := Lib.hid hok
    have hbw := up_trans hb hbr
    clear hall hok
    by_cases hlt : k < n
    · obtain ⟨p, hp⟩ : ∃ p, ls[k]? = some p := ⟨ls[k]'(by rw [← HN.out]; exact hlt), List.getElem?_eq_getElem _⟩
      obtain ⟨b, q, rfl, hx⟩ := HS.out.at hp
      have hx1 := up_keep hbr hx
      have hpl : p.length ≤ 1048576 := by have := HB.out k p hp; omega
      have HP := Lib.hid (parseSpot_s p wr hpl (hm.up hbw))
      have HQ := Lib.hid hp
      clear hx hp hpl
      cases hsp : spP 9 p with
      | none =>
        rw [hsp, show spV none = .tuple #[.agg #[.int .i64 0, .int .i64 0], .bool false] from rfl] at HP
        have HF := Lib.hid (allP_bad HQ.out hsp)
        clear hsp
        go_wp2_with (go_at_call 16; refine (HP.out).mono ?_; rintro e w2 ⟨rfl, hb2⟩)
        go_ret2
        rw [HI.out, HF.out]
        exact AnsP.nil (by (repeat (first | with_reducible exact Below.refl _ _ | with_reducible assumption | with_reducible refine up_alloc ?_ _ | with_reducible refine up_drew ?_ | with_reducible refine up_drewN ?_ _ | (with_reducible refine up_set ?_ ?hset _; case hset => first | (simp; done) | (simp; omega) | omega) | with_reducible refine up_trans ?_ (by with_reducible assumption))))
      | some a =>
        obtain ⟨x, y⟩ := a
        rw [hsp, show spV (some (x, y)) = .tuple #[.agg #[.int .i64 (x : Int), .int .i64 (y : Int)], .bool true] from rfl] at HP
        have HF := Lib.hid (show allP 9 (ls.take (k + 1)) = some (o ++ [(x, y)]) by rw [take_step HQ.out]; exact allP_snoc hsp HA.out)
        have hX := (xO_new o (x, y) (k := k) HO.out.symm).1
        have hY := (xO_new o (x, y) (k := k) HO.out.symm).2
        replace how := how.congP (X' := xO (o ++ [(x, y)])) (Y' := yO (o ++ [(x, y)])) (fun i hi => (xO_old o (x, y) (by rw [HO.out]; exact hi)).1.symm) (fun i hi => (xO_old o (x, y) (by rw [HO.out]; exact hi)).2.symm)
        obtain ⟨U, hU⟩ : ∃ U, U = xO (o ++ [(x, y)]) := ⟨_, rfl⟩
        obtain ⟨V, hV⟩ : ∃ V, V = yO (o ++ [(x, y)]) := ⟨_, rfl⟩
        rw [← hU] at hX how
        rw [← hV] at hY how
        have HU := Lib.hid hU
        have HV := Lib.hid hV
        clear hsp hU hV
        go_wp2_with (first | (go_at_call 16; refine (HP.out).mono ?_; rintro e w2 ⟨rfl, hb2⟩) | (at_builtin; refine wpList_app_spot_e rfl (.tmp 37) (.tmp 39) rfl w1.heap.size _ k U V rfl rfl (by simp) (how.up (by (repeat (first | with_reducible exact Below.refl _ _ | with_reducible assumption | with_reducible refine up_alloc ?_ _ | with_reducible refine up_drew ?_ | with_reducible refine up_drewN ?_ _ | (with_reducible refine up_set ?_ ?hset _; case hset => first | (simp; done) | (simp; omega) | omega) | with_reducible refine up_trans ?_ (by with_reducible assumption))))) (show Below w1.heap.size w1 _ from (by (repeat (first | with_reducible exact Below.refl _ _ | with_reducible assumption | with_reducible refine up_alloc ?_ _ | with_reducible refine up_drew ?_ | with_reducible refine up_drewN ?_ _ | (with_reducible refine up_set ?_ ?hset _; case hset => first | (simp; done) | (simp; omega) | omega) | with_reducible refine up_trans ?_ (by with_reducible assumption))))).size (by omega) hX hY ?_; intro v2 w2 ho2 hb2))
        go_roundw
        case rel => exact ⟨k + 1, o ++ [(x, y)], by omega, by go_num, by simp [HO.out], HF.out, by rw [← HU.out, ← HV.out]; exact ho2, (show Below w1.heap.size w1 _ from (by (repeat (first | with_reducible exact Below.refl _ _ | with_reducible assumption | with_reducible refine up_alloc ?_ _ | with_reducible refine up_drew ?_ | with_reducible refine up_drewN ?_ _ | (with_reducible refine up_set ?_ ?hset _; case hset => first | (simp; done) | (simp; omega) | omega) | with_reducible refine up_trans ?_ (by with_reducible assumption))))).trans hb2⟩
        case measure => simp [intOf]; omega
    · have e : k = n := by omega
      subst e
      have hT := HA.out
      rw [List.take_of_length_le (by rw [← HN.out]; exact Nat.le_refl _)] at hT
      have HT := Lib.hid hT
      clear hT
      obtain ⟨A', c', rfl, hc', hcm⟩ := how.shape
      have HW := Lib.hid how
      clear how
      cases hg : goodO o with
      | false =>
        have HG := Lib.hid (asForm_s _ k _ _ wr HW.out.ownS.spots (by omega))
        rw [show chartB k (xO o) (yO o) = false by rw [← HO.out]; exact hg] at HG
        rw [show (if false = true then Value.slice A' k c' else .slice none 0 0) = .slice none 0 0 from rfl] at HG
        have HD := Lib.hid (show implR l = none by rw [HI.out, HT.out]; simp only; rw [if_neg (by rw [hg]; decide)])
        clear hg
        go_wp2_with (go_at_call 17; refine (HG.out).mono ?_; rintro e w2 ⟨rfl, hb2⟩)
        go_ret2
        rw [HD.out]
        exact AnsP.nil (by (repeat (first | with_reducible exact Below.refl _ _ | with_reducible assumption | with_reducible refine up_alloc ?_ _ | with_reducible refine up_drew ?_ | with_reducible refine up_drewN ?_ _ | (with_reducible refine up_set ?_ ?hset _; case hset => first | (simp; done) | (simp; omega) | omega) | with_reducible refine up_trans ?_ (by with_reducible assumption))))
      | true =>
        have HG := Lib.hid (asForm_s _ k _ _ wr HW.out.ownS.spots (by omega))
        rw [show chartB k (xO o) (yO o) = true by rw [← HO.out]; exact hg] at HG
        rw [show (if true = true then Value.slice A' k c' else .slice none 0 0) = .slice A' k c' from rfl] at HG
        have HD := Lib.hid (show implR l = some o by rw [HI.out, HT.out]; simp only; rw [if_pos hg])
        clear hg
        go_wp2_with (go_at_call 17; refine (HG.out).mono ?_; rintro e w2 ⟨rfl, hb2⟩)
        go_ret2
        rw [HD.out]
        have ho := HW.out.ownS.up hb2
        rw [← HO.out] at ho
        have ho := ho.more hb.size
        exact ⟨_, by rw [HO.out]; rfl, ho, by (repeat (first | with_reducible exact Below.refl _ _ | with_reducible assumption | with_reducible refine up_alloc ?_ _ | with_reducible refine up_drew ?_ | with_reducible refine up_drewN ?_ _ | (with_reducible refine up_set ?_ ?hset _; case hset => first | (simp; done) | (simp; omega) | omega) | with_reducible refine up_trans ?_ (by with_reducible assumption)))⟩
theorem parseChart_s (l : List UInt8) (w : World) (hl : l.length ≤ 1048576) (hm : MaxW w) : Calls Tryd.prog 6 #[.string (bS l)] w (AnsP w (implR l)) := by
  cases h : linesR l with
  | none => exact parseChart_none l w hl hm h
  | some ls =>
    by_cases hn : 12 < ls.length
    · exact parseChart_many l w hl hm ls h hn
    · exact parseChart_some l w hl hm ls h (by omega)
end Go.Proofs.YtbfhfjpfjkdcfaaDoor
