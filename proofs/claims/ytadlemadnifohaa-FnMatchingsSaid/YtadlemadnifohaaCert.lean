/-
  LeastCertificate on both sides.
-/
import Derived.Test.YtadlemadnifohaaRows
import Derived.Test.YtadlemadnifohaaBase
import Derived.Test.YtadlemadnifohaaSpot
import Derived.Test.YtadlemadnifohaaSlice
import Derived.Test.YtadlemadnifohaaLawS
import Derived.Test.YtadlemadnifohaaMark
import Derived.Test.YtadlemadnifohaaAppend
import Derived.Test.YtadlemadnifohaaAppendE
import Derived.Test.YtadlemadnifohaaForm
import Derived.Test.YtadlemadnifohaaInts
import Derived.Test.YtadlemadnifohaaIntsL
import Derived.Test.YtadlemadnifohaaCopyI
import Derived.Test.YtadlemadnifohaaTurned
import Derived.Test.YtadlemadnifohaaTrans
import Derived.Test.YtadlemadnifohaaMatch
import Derived.Test.YtadlemadnifohaaRowsI
import Derived.Test.YtadlemadnifohaaCosts
import Derived.Test.YtadlemadnifohaaMatS
import Derived.Test.YtadlemadnifohaaMatchP
import Derived.Test.YtadlemadnifohaaMatchQ
import Derived.Test.YtadlemadnifohaaOnes
import Derived.Test.YtadlemadnifohaaTable
import Derived.Test.YtadlemadnifohaaLeast
import Derived.Test.YtadlemadnifohaaLeastM
import Derived.Test.YtadlemadnifohaaCertP
import Derived.StillTailTactics
import Derived.BigQuiet
import Derived.Deep.RegionHeld3
namespace Go.Proofs.Ytadlemadnifohaa
open Go.RowKit Go.ChangeShapes Go.WideShapes Go.Sort

def flagM : Value → Nat
  | .bool true => 1
  | _ => 0
def colsM (w : World) (b n : Nat) : Nat := colsN n (fun j => intOf ((w.cell? ⟨b, j, none⟩).getD (.int .i64 0)))
theorem colsM_row {w : World} {b n : Nat} {X : Nat → Int} (h : Row1 w b 0 n X) : colsM w b n = colsN n X := colsN_congr (fun j hj => by rw [h.at0 hj]; rfl)
/-- Returned: the rows' and the columns' numbers in new memory, the columns' made first, and a Bool. -/
def AnsCert (w : World) (l : Nat) (Y X : Nat → Int) (q : Bool) (e : Ending) (w' : World) : Prop :=
  ∃ u v wm, e = .returned (.tuple #[u, v, .bool q]) ∧ OwnI w.heap.size wm v l X ∧ Below w.heap.size w wm ∧ OwnI wm.heap.size w' u l Y ∧ Below wm.heap.size wm w'
theorem AnsCert.nil {w w' : World} {Y X : Nat → Int} (hb : Below w.heap.size w w') : AnsCert w 0 Y X false (.returned (.tuple #[.slice none 0 0, .slice none 0 0, .bool false])) w' :=
  ⟨_, _, w', rfl, OwnI.nil, hb, OwnI.nil, Below.refl _ _⟩
theorem OwnI.turnlo {base lo hi : Nat} {wx w w' : World} {v : Value} {n : Nat} {X X' : Nat → Int} (hx : Ints wx v n X') (h : OwnI base w v n X) (ht : Turned lo hi w w') (hl : wx.heap.size ≤ lo) : OwnI base w' v n X := by
  obtain ⟨A, c, rfl, hc, hr⟩ := h
  obtain ⟨A', c', e, _, hr'⟩ := hx
  cases e
  exact ⟨_, _, rfl, hc, fun hn => by
    obtain ⟨b, o, rfl, h1, h2, h⟩ := hr hn
    obtain ⟨b', o', e', h2'⟩ := hr' hn
    cases e'
    have := h2'.lt hn
    exact ⟨b, o, rfl, h1, ht.free h2 (h.lt hn) (.inl (by omega)), h.turn ht (.inl (by omega))⟩⟩
set_option maxRecDepth 100000 in
set_option maxHeartbeats 4000000 in
theorem iLeastCertificate_g (v : Value) (n : Nat) (R : Nat → Nat) (F : Nat → Nat → Int) (w : World) (h : IRows w v n R F) (hn : n ≤ 1048576) (hR : ∀ i, i < n → R i ≤ 1048576) :
    Calls Try.prog 8 #[v] w (AnsCert w (sel (acB n R F) n) (lcR n F) (lcC n F) (acB n R F)) := by
  have HA := Lib.hid (areCosts_g v n R F w h hn hR)
  cases e1 : acB n R F with
  | false =>
    rw [e1] at HA
    obtain ⟨A, c, rfl, _⟩ := h.shape
    clear h hR e1
    go_enter Try.func8, Try.ntmps8
    go_wp2_with (go_at_call 24; refine (HA.out).mono ?_; rintro e w1 ⟨rfl, hb1⟩)
    go_ret3
    exact AnsCert.nil hb1
  | true =>
    rw [e1] at HA
    obtain ⟨⟨n1, n12⟩, _, hF⟩ := acB_iff e1
    obtain ⟨b, o, c, B, O, C, rfl, hM⟩ := mat_of h e1
    have HL := Lib.hid (fun W (hW : Below w.heap.size w W) => by
      have := leastMatching_m b o c n F B O C W (hM.up hW) n1 n12 (fun i k hi hk => by have := hF i k hi hk; omega) (tab_low (by omega) n12 hF 0)
      rw [tab_same n12 hF] at this
      exact (show Calls Try.prog 33 #[.slice (some ⟨b, o, none⟩) n c] W (AnsI W n (lmP n F)) from this))
    have HSr := Lib.hid (fun t i k hi hk => stg_rng (n := n) (F := F) n1 n12 hF t i k hi hk)
    have HSx := Lib.hid (fun t => stg_fix (n := n) (F := F) n12 hF t)
    have HP := Lib.hid (lcP_perm (n := n) (F := F) n12 hF).1
    have HM := Lib.hid hM
    have HF := Lib.hid hF
    clear h hR e1 hF hM
    obtain ⟨i0, hi0, hz0, hz1, hz2⟩ := info_parts info_int
    have hmk : ∀ W : World, (Instr.makeSlice 25 (.int .i64 (n : Int)) (.int .i64 (n : Int))).run Try.prog W = .ok (.slice (some ⟨W.heap.size, 0, none⟩) n n) (W.alloc (.cells (madeCells #[.int .i64 0] n) 3)) := fun W => by
      have := run_make_rowN (P := Try.prog) 25 3 i0 _ Try.underlying25 hi0 hz0 .i64 .i64 n n (Nat.le_refl _) (by rw [hz2]; omega) (by omega) W
      rw [this, hz1, Nat.mul_one]; rfl
    clear hi0 hz0 hz1 hz2 i0
    go_enter Try.func8, Try.ntmps8
    go_wp2_with (go_at_call 24; refine (HA.out).mono ?_; rintro e w1 ⟨rfl, hb1⟩)
    refine (HL.out _ hb1).mono ?_
    rintro e w2 ⟨v1, rfl, hv1, hb2⟩
    have hw2 := up_trans hb1 hb2
    obtain ⟨A1, c1, rfl, _, hr1⟩ := hv1
    obtain ⟨b1, o1, rfl, hbb1, _, hrq⟩ := hr1 (by omega)
    have HPl := Lib.hid hrq
    have hblt := hrq.lt (by omega)
    clear hr1 hrq
    go_wp2_with fail
    go_loopw [7] (fun ch wr => ∃ (t : Nat) (q : Bool), ch = .bool q ∧ Below w2.heap.size w2 wr ∧ w2.heap.size + 1 ≤ wr.heap.size ∧ Free wr w2.heap.size ∧ Row1 wr w2.heap.size 0 n (stg n F t 0 0) ∧
        (q = false → ∀ j, j < n → lcC n F j = stg n F t 0 0 j)) (fun ch wr => colsM wr w2.heap.size n + flagM ch)
    case atStart => exact ⟨0, true, rfl, below_alloc _ _, by simp, free_made _ _ _, (row1_made _ _ _).cong (fun j _ => (stg_zero j).symm), fun h => by cases h⟩
    case round =>
      obtain ⟨t, q, rfl, hb, hs, hf, hr, hx⟩ := hrel
      have HR := Lib.hid hr
      have HFr := Lib.hid hf
      have HX := Lib.hid hx
      clear hr hf hx
      cases q with
      | false =>
        have HC := Lib.hid (HX.out rfl)
        clear HX
        have hwr := hw2.trans (hb.mono hw2.size)
        go_wp2_with fail
        obtain ⟨w4, rfl⟩ : ∃ W : World, W = wr := ⟨_, rfl⟩
        go_loopw [13, 71] (fun v i wx => ∃ k : Nat, k ≤ n ∧ i = .int .i64 k ∧ OwnN w4.heap.size wx v k (lcR n F) ∧ Below w4.heap.size w4 wx) (fun _ i _ => n - (intOf i).toNat)
        case atStart => exact ⟨0, by omega, rfl, OwnN.empty (Nat.le_refl _) _, below_alloc _ _⟩
        case round =>
          obtain ⟨k, hk, rfl, how, hbx⟩ := hrel
          by_cases hlt : k < n
          · have HXk0 := Lib.hid (show lcR n F k = F k (lcP n F k) - stg n F t 0 0 (lcP n F k) by
              show F k (lcP n F k) - lcC n F (lcP n F k) = _
              rw [HC.out _ (HP.out k hlt)])
            have hpn0 := HP.out k hlt
            have d2 := up_keep hbx (up_keep hb (HPl.out k hlt))
            rw [lmP_lcP] at d2
            obtain ⟨p, hp⟩ : ∃ p, lcP n F k = p := ⟨_, rfl⟩
            rw [hp] at HXk0 hpn0 d2
            have HXk := Lib.hid HXk0.out
            have hpn := hpn0
            clear hp hpn0 HXk0
            have hww := hwr.trans (hbx.mono hwr.size)
            have d0 := up_keep hww (HM.out.row k hlt)
            have d1 := up_keep hww (HM.out.at hlt hpn)
            have d3 := up_keep hbx (HR.out.at0 hpn)
            have g1 := HF.out k p hlt hpn
            have g2 := HSr.out t 0 0 (by omega) (by omega) p hpn
            have j1 : (p : Int) < (n : Int) := by omega
            have j2 : (k : Int) < (n : Int) := by omega
            have hz0 : IntKind.i64.wrap (F k p - stg n F t 0 0 p) = F k p - stg n F t 0 0 p := IntWalk.i64_in _ (by omega)
            go_wp2_with fail
            go_region_held3 (fun w' => w'.cell? ⟨b, o + k, none⟩ = some (.slice (some ⟨B k, O k, none⟩) n (C k)) ∧ w'.cell? ⟨B k, O k + p, none⟩ = some (.int .i64 (F k p)) ∧ w'.cell? ⟨w2.heap.size, p, none⟩ = some (.int .i64 (stg n F t 0 0 p)))
              (first | exact ⟨by assumption, by assumption, by assumption⟩ | go_keep)
              (first | (refine step_app_int rfl (.tmp 76) (.tmp 89) rfl w4.heap.size _ k (lcR n F) rfl rfl HXk.out (by simp [go_sem, hz0]) (OwnN.up how (by (repeat (first | with_reducible exact Below.refl _ _ | with_reducible assumption | with_reducible refine up_alloc ?_ _ | with_reducible refine up_drew ?_ | with_reducible refine up_drewN ?_ _ | (with_reducible refine up_set ?_ ?hset _; case hset => first | (simp; done) | (simp; omega) | omega) | with_reducible refine up_trans ?_ (by with_reducible assumption))))) (show Below w4.heap.size w4 _ from (by (repeat (first | with_reducible exact Below.refl _ _ | with_reducible assumption | with_reducible refine up_alloc ?_ _ | with_reducible refine up_drew ?_ | with_reducible refine up_drewN ?_ _ | (with_reducible refine up_set ?_ ?hset _; case hset => first | (simp; done) | (simp; omega) | omega) | with_reducible refine up_trans ?_ (by with_reducible assumption))))).size (by omega) ?_; intro v2 w9 ho2 hb9 _ _; replace hb9 := (show Below w4.heap.size w4 _ from (by (repeat (first | with_reducible exact Below.refl _ _ | with_reducible assumption | with_reducible refine up_alloc ?_ _ | with_reducible refine up_drew ?_ | with_reducible refine up_drewN ?_ _ | (with_reducible refine up_set ?_ ?hset _; case hset => first | (simp; done) | (simp; omega) | omega) | with_reducible refine up_trans ?_ (by with_reducible assumption))))).trans hb9; have y0 := up_keep hb9 (up_keep hwr (HM.out.row k hlt)); have y1 := up_keep hb9 (up_keep hwr (HM.out.at hlt hpn)); have y2 := up_keep hb9 (HR.out.at0 hpn)))
            go_wp2_with fail
            go_roundw
            case rel => exact ⟨k + 1, by omega, by go_num, ho2, hb9⟩
            case measure => simp [intOf]; omega
          · have e : k = n := by omega
            have how2 := how
            rw [e] at how2
            clear how
            have hk2 : ¬ (k : Int) < (n : Int) := by omega
            clear e hlt
            go_wp2_with fail
            go_ret3
            exact ⟨_, _, w4, rfl, ⟨_, _, rfl, Nat.le_refl _, fun _ => ⟨_, _, rfl, hw2.size, HFr.out, HR.out.cong (fun j hj => (HC.out j hj).symm)⟩⟩, hwr, how2.ownI, hbx⟩
      | true =>
        clear HX
        go_wp2_with fail
        obtain ⟨w4, rfl⟩ : ∃ W : World, W = wr := ⟨_, rfl⟩
        go_loopw [7, 27] (fun ch i wx => ∃ (k : Nat) (q : Bool), k ≤ n ∧ i = .int .i64 k ∧ ch = .bool q ∧ Below w2.heap.size w2 wx ∧ w2.heap.size + 1 ≤ wx.heap.size ∧ Free wx w2.heap.size ∧ Row1 wx w2.heap.size 0 n (stg n F t k 0) ∧
            (q = false → ∀ j, j < n → stg n F t k 0 j = stg n F t 0 0 j) ∧ (q = true → ∃ j, j < n ∧ stg n F t k 0 j < stg n F t 0 0 j)) (fun _ i _ => n - (intOf i).toNat)
        case atStart => exact ⟨0, false, by omega, rfl, rfl, hb, hs, HFr.out, HR.out, fun _ _ _ => rfl, fun h => by cases h⟩
        case round =>
          obtain ⟨i, q, hi, rfl, rfl, hbx, hsx, hfx, hrx, hq0, hq1⟩ := hrel
          have HR1 := Lib.hid hrx
          have HF1 := Lib.hid hfx
          have HQ0 := Lib.hid hq0
          have HQ1 := Lib.hid hq1
          clear hrx hfx hq0 hq1
          by_cases hlt : i < n
          · have hwx := hw2.trans (hbx.mono hw2.size)
            have d0 := up_keep hwx (HM.out.row i hlt)
            have j2 : (i : Int) < (n : Int) := by omega
            go_wp2_with fail
            clear d0 hwx
            obtain ⟨w5, rfl⟩ : ∃ W : World, W = wr := ⟨_, rfl⟩
            go_loopw [7, 34] (fun ch i' wx => ∃ (k : Nat) (q : Bool), k ≤ n ∧ i' = .int .i64 k ∧ ch = .bool q ∧ Below w2.heap.size w2 wx ∧ w2.heap.size + 1 ≤ wx.heap.size ∧ Free wx w2.heap.size ∧ Row1 wx w2.heap.size 0 n (stg n F t i k) ∧
                (q = false → ∀ j, j < n → stg n F t i k j = stg n F t 0 0 j) ∧ (q = true → ∃ j, j < n ∧ stg n F t i k j < stg n F t 0 0 j)) (fun _ i _ => n - (intOf i).toNat)
            case atStart => exact ⟨0, q, by omega, rfl, rfl, hbx, hsx, HF1.out, HR1.out, HQ0.out, HQ1.out⟩
            case round =>
              clear HR1 HF1 HQ0 HQ1
              obtain ⟨k, q', hk, rfl, rfl, hby, hsy, hfy, hry, hq0, hq1⟩ := hrel
              have HR1 := Lib.hid hry
              have HF1 := Lib.hid hfy
              have HQ0 := Lib.hid hq0
              have HQ1 := Lib.hid hq1
              clear hry hfy hq0 hq1
              by_cases hkn : k < n
              · have hpn0 := HP.out i hlt
                have d2 := up_keep hby (HPl.out i hlt)
                rw [lmP_lcP] at d2
                have HS0 := Lib.hid (fun j => stg_step (n := n) (F := F) t i k j)
                obtain ⟨p, hp⟩ : ∃ p, lcP n F i = p := ⟨_, rfl⟩
                rw [hp] at hpn0 d2 HS0
                have hpn := hpn0
                have HS := Lib.hid HS0.out
                clear hp hpn0 HS0
                have hwx := hw2.trans (hby.mono hw2.size)
                have d0 := up_keep hwx (HM.out.at hlt hkn)
                have d1 := up_keep hwx (HM.out.at hlt hpn)
                have x0 := HR1.out.at0 hpn
                have x1 := HR1.out.at0 hkn
                have g1 := HF.out i p hlt hpn
                have g2 := HF.out i k hlt hkn
                have g3 := HSr.out t i k hlt (by omega) p hpn
                have g4 := HSr.out t i k hlt (by omega) k hkn
                have j1 : (p : Int) < (n : Int) := by omega
                have j3 : (k : Int) < (n : Int) := by omega
                have hz0 : IntKind.i64.wrap (F i k - F i p) = F i k - F i p := IntWalk.i64_in _ (by omega)
                have hz1 : IntKind.i64.wrap (F i k - F i p + stg n F t i k p) = F i k - F i p + stg n F t i k p := IntWalk.i64_in _ (by omega)
                have HLe := Lib.hid (stg_le (n := n) (F := F) t i k)
                by_cases hc : F i k - F i p + stg n F t i k p < stg n F t i k k
                · have HCc := Lib.hid hc
                  have hdec : decide (F i k - F i p + stg n F t i k p < stg n F t i k k) = true := decide_eq_true hc
                  clear hc
                  go_wp2_with fail
                  go_quiet (fail)
                  have hbd : Below wr.heap.size wr (wr.drewN nq) := up_drewN (Below.refl _ _) nq
                  have HRd := Lib.hid (HR1.out.up hbd)
                  have HFd := Lib.hid (HF1.out.up (by omega) hbd)
                  have hbd1 := hby.trans (hbd.mono hby.size)
                  have hsd := hbd.size
                  clear x0 x1 d0 d1 d2 hz0 hz1 hbd hwx
                  generalize wr.drewN nq = w6 at *
                  have x1 := HRd.out.at0 hkn
                  have f0 := HFd.out k
                  go_wp2_with fail
                  go_roundw
                  case rel =>
                    refine ⟨k + 1, true, by omega, by go_num, rfl, hbd1.setCell (Nat.le_refl _) _, by rw [size_set]; omega, HFd.out.set _ _, (HRd.out.put0 hkn _).cong (fun j hj => ?_), fun h => (by cases h), fun _ => ⟨k, hkn, ?_⟩⟩
                    · rw [HS.out j]
                      have := HCc.out
                      by_cases e : j = k
                      · rw [if_pos e, if_pos e]; omega
                      · rw [if_neg e, if_neg e]
                    · rw [HS.out k, if_pos rfl]
                      have := HCc.out
                      have := HLe.out k
                      omega
                  case measure => simp [intOf]; omega
                · have HCc := Lib.hid hc
                  have hdec : decide (F i k - F i p + stg n F t i k p < stg n F t i k k) = false := decide_eq_false hc
                  clear hc
                  go_wp2_with fail
                  go_quiet (fail)
                  have hbd : Below wr.heap.size wr (wr.drewN nq) := up_drewN (Below.refl _ _) nq
                  have HRd := Lib.hid (HR1.out.up hbd)
                  have HFd := Lib.hid (HF1.out.up (by omega) hbd)
                  have hbd1 := hby.trans (hbd.mono hby.size)
                  have hsd := hbd.size
                  clear x0 x1 d0 d1 d2 hz0 hz1 hbd hwx
                  generalize wr.drewN nq = w6 at *
                  have x1 := HRd.out.at0 hkn
                  have f0 := HFd.out k
                  go_wp2_with fail
                  go_roundw
                  case rel =>
                    have HS' : ∀ j, stg n F t i (k + 1) j = stg n F t i k j := fun j => by
                      rw [HS.out j]
                      have := HCc.out
                      by_cases e : j = k
                      · rw [if_pos e, e]; omega
                      · rw [if_neg e]
                    refine ⟨k + 1, q', by omega, by go_num, rfl, hbd1, by omega, HFd.out, HRd.out.cong (fun j hj => (HS' j).symm), fun h j hj => by rw [HS' j]; exact HQ0.out h j hj, fun h => ?_⟩
                    obtain ⟨j, hj, hl⟩ := HQ1.out h
                    exact ⟨j, hj, by rw [HS' j]; exact hl⟩
                  case measure => simp [intOf]; omega
              · have e : k = n := by omega
                subst e
                go_wp2_with fail
                go_roundw
                case rel => exact ⟨i + 1, q', by omega, by go_num, rfl, hby, hsy, HF1.out, HR1.out, HQ0.out, HQ1.out⟩
                case measure => simp [intOf]; omega
          · have e : i = n := by omega
            subst e
            go_wp2_with fail
            go_roundw
            case rel => exact ⟨t + 1, q, rfl, hbx, hsx, HF1.out, HR1.out, fun h j hj => (HSx.out t (HQ0.out h) j hj).symm⟩
            case measure =>
              rw [colsM_row HR1.out, colsM_row HR.out]
              cases q with
              | false =>
                rw [colsN_congr (HQ0.out rfl)]
                simp [flagM]
              | true =>
                have hq := colsN_lt (X := stg i F t i 0) (Y := stg i F t 0 0) (fun j hj => ⟨(HSr.out (t + 1) 0 0 (by omega) (by omega) j hj).1, stg_le (n := i) (F := F) t i 0 j⟩) (HQ1.out rfl)
                show colsN i (stg i F t i 0) + 1 < colsN i (stg i F t 0 0) + 1
                omega
set_option maxRecDepth 100000 in
set_option maxHeartbeats 4000000 in
theorem sLeastCertificate_g (v : Value) (n : Nat) (R : Nat → Nat) (F : Nat → Nat → Int) (w : World) (h : IRows w v n R F) (hn : n ≤ 1048576) (hR : ∀ i, i < n → R i ≤ 1048576) :
    Calls Try.prog 9 #[v] w (AnsCert w (sel (acB n R F) n) (lcR n F) (lcC n F) (acB n R F)) := by
  have HA := Lib.hid (maGood_g v n R F w h hn hR)
  cases e1 : acB n R F with
  | false =>
    rw [e1] at HA
    obtain ⟨A, c, rfl, _⟩ := h.shape
    clear h hR e1
    go_enter Try.func9, Try.ntmps9
    go_wp2_with (go_at_call 35; refine (HA.out).mono ?_; rintro e w1 ⟨rfl, hb1⟩)
    go_ret3
    exact AnsCert.nil hb1
  | true =>
    rw [e1] at HA
    obtain ⟨⟨n1, n12⟩, _, hF⟩ := acB_iff e1
    obtain ⟨b, o, c, B, O, C, rfl, hM⟩ := mat_of h e1
    have HL := Lib.hid (fun W (hW : Below w.heap.size w W) => by
      have := maLeast_m b o c n F B O C W (hM.up hW) n1 n12 (fun i k hi hk => by have := hF i k hi hk; omega) (tab_low (by omega) n12 hF 0)
      exact (show Calls Try.prog 36 #[.slice (some ⟨b, o, none⟩) n c] W (AnsII W n (lmP n F) (lmS n F)) from this))
    have HSr := Lib.hid (fun t i k hi hk => stg_rng (n := n) (F := F) n1 n12 hF t i k hi hk)
    have HSx := Lib.hid (fun t => stg_fix (n := n) (F := F) n12 hF t)
    have HP := Lib.hid (lcP_perm (n := n) (F := F) n12 hF).1
    have HM := Lib.hid hM
    have HF := Lib.hid hF
    clear h hR e1 hF hM
    obtain ⟨i0, hi0, hz0, hz1, hz2⟩ := info_parts info_int
    have hmk : ∀ W : World, (Instr.makeSlice 25 (.int .i64 (n : Int)) (.int .i64 (n : Int))).run Try.prog W = .ok (.slice (some ⟨W.heap.size, 0, none⟩) n n) (W.alloc (.cells (madeCells #[.int .i64 0] n) 3)) := fun W => by
      have := run_make_rowN (P := Try.prog) 25 3 i0 _ Try.underlying25 hi0 hz0 .i64 .i64 n n (Nat.le_refl _) (by rw [hz2]; omega) (by omega) W
      rw [this, hz1, Nat.mul_one]; rfl
    clear hi0 hz0 hz1 hz2 i0
    go_enter Try.func9, Try.ntmps9
    go_wp2_with (go_at_call 35; refine (HA.out).mono ?_; rintro e w1 ⟨rfl, hb1⟩)
    refine (HL.out _ hb1).mono ?_
    rintro e w2 ⟨v1, rfl, hv1, hb2⟩
    have hw2 := up_trans hb1 hb2
    obtain ⟨A1, c1, rfl, _, hr1⟩ := hv1
    obtain ⟨b1, o1, rfl, hbb1, _, hrq⟩ := hr1 (by omega)
    have HPl := Lib.hid hrq
    have hblt := hrq.lt (by omega)
    clear hr1 hrq
    go_wp2_with fail
    go_loopw [28] (fun ch wr => ∃ t : Nat, t ≤ n ∧ ch = .int .i64 t ∧ Below w2.heap.size w2 wr ∧ w2.heap.size + 1 ≤ wr.heap.size ∧ Free wr w2.heap.size ∧ Row1 wr w2.heap.size 0 n (stg n F t 0 0)) (fun i _ => n - (intOf i).toNat)
    case atStart => exact ⟨0, by omega, rfl, below_alloc _ _, by simp, free_made _ _ _, (row1_made _ _ _).cong (fun j _ => (stg_zero j).symm)⟩
    case round =>
      obtain ⟨t, ht, rfl, hb, hs, hf, hr⟩ := hrel
      have HR := Lib.hid hr
      have HFr := Lib.hid hf
      clear hr hf
      by_cases htn : t < n
      · go_wp2_with fail
        obtain ⟨w4, rfl⟩ : ∃ W : World, W = wr := ⟨_, rfl⟩
        go_loopw [32] (fun i wx => ∃ k : Nat, k ≤ n ∧ i = .int .i64 k ∧ Below w2.heap.size w2 wx ∧ w2.heap.size + 1 ≤ wx.heap.size ∧ Free wx w2.heap.size ∧ Row1 wx w2.heap.size 0 n (stg n F t k 0)) (fun i _ => n - (intOf i).toNat)
        case atStart => exact ⟨0, by omega, rfl, hb, hs, HFr.out, HR.out⟩
        case round =>
          obtain ⟨i, hi, rfl, hbx, hsx, hfx, hrx⟩ := hrel
          have HR1 := Lib.hid hrx
          have HF1 := Lib.hid hfx
          clear hrx hfx
          by_cases hlt : i < n
          · have hwx := hw2.trans (hbx.mono hw2.size)
            have d0 := up_keep hwx (HM.out.row i hlt)
            have j2 : (i : Int) < (n : Int) := by omega
            go_wp2_with fail
            clear d0 hwx
            obtain ⟨w5, rfl⟩ : ∃ W : World, W = wr := ⟨_, rfl⟩
            go_loopw [39] (fun i' wx => ∃ k : Nat, k ≤ n ∧ i' = .int .i64 k ∧ Below w2.heap.size w2 wx ∧ w2.heap.size + 1 ≤ wx.heap.size ∧ Free wx w2.heap.size ∧ Row1 wx w2.heap.size 0 n (stg n F t i k)) (fun i _ => n - (intOf i).toNat)
            case atStart => exact ⟨0, by omega, rfl, hbx, hsx, HF1.out, HR1.out⟩
            case round =>
              clear HR1 HF1
              obtain ⟨k, hk, rfl, hby, hsy, hfy, hry⟩ := hrel
              have HR1 := Lib.hid hry
              have HF1 := Lib.hid hfy
              clear hry hfy
              by_cases hkn : k < n
              · have hpn0 := HP.out i hlt
                have d2 := up_keep hby (HPl.out i hlt)
                rw [lmP_lcP] at d2
                have HS0 := Lib.hid (fun j => stg_step (n := n) (F := F) t i k j)
                obtain ⟨p, hp⟩ : ∃ p, lcP n F i = p := ⟨_, rfl⟩
                rw [hp] at hpn0 d2 HS0
                have hpn := hpn0
                have HS := Lib.hid HS0.out
                clear hp hpn0 HS0
                have hwx := hw2.trans (hby.mono hw2.size)
                have d0 := up_keep hwx (HM.out.at hlt hkn)
                have d1 := up_keep hwx (HM.out.at hlt hpn)
                have x0 := HR1.out.at0 hpn
                have x1 := HR1.out.at0 hkn
                have f0 := HF1.out k
                have g1 := HF.out i p hlt hpn
                have g2 := HF.out i k hlt hkn
                have g3 := HSr.out t i k hlt (by omega) p hpn
                have g4 := HSr.out t i k hlt (by omega) k hkn
                have j1 : (p : Int) < (n : Int) := by omega
                have j3 : (k : Int) < (n : Int) := by omega
                have hz0 : IntKind.i64.wrap (stg n F t i k p + F i k) = stg n F t i k p + F i k := IntWalk.i64_in _ (by omega)
                have hz1 : IntKind.i64.wrap (stg n F t i k p + F i k - F i p) = stg n F t i k p + F i k - F i p := IntWalk.i64_in _ (by omega)
                have HA := Lib.hid (show ∀ W, Calls Try.prog 37 #[.int .i64 (stg n F t i k k), .int .i64 (stg n F t i k p + F i k - F i p)] W (fun e w2 => e = .returned (.int .i64 (min (stg n F t i k k) (stg n F t i k p + F i k - F i p))) ∧ w2 = W) from fun W => (l1Least_any _ _ W).mono fun _ _ ⟨p, q⟩ => ⟨p, q.symm⟩)
                go_wp2_with fail
                refine wp_region_still_tail 25 (by kernel_rfl) (by kernel_rfl) ?_
                simp only [List.take_succ_cons, List.take_zero, List.drop_succ_cons, List.drop_zero]
                repeat (first | still_step | (refine wpStill_step (fun K hK => ?_); go_simp; (with_reducible refine ⟨_, HA.out _, hK _ ?_⟩); clear hK K))
                refine wpStill_nil ?_
                have hbd : Below wr.heap.size wr wr.drew := up_drew (Below.refl _ _)
                have HRd := Lib.hid (HR1.out.up hbd)
                have HFd := Lib.hid (HF1.out.up (by omega) hbd)
                have hbd1 := hby.trans (hbd.mono hby.size)
                have hsd := hbd.size
                change wpList _ _ _ _ _ wr.drew
                clear x0 x1 d0 d1 d2 f0 hz0 hz1 hbd hwx
                generalize wr.drew = w6 at *
                have x0 := HRd.out.at0 hkn
                have f0 := HFd.out k
                go_wp2_with fail
                go_roundw
                case rel =>
                  refine ⟨k + 1, by omega, by go_num, hbd1.setCell (Nat.le_refl _) _, by rw [size_set]; omega, HFd.out.set _ _, (HRd.out.put0 hkn _).cong (fun j hj => ?_)⟩
                  rw [HS.out j]
                  by_cases e : j = k
                  · rw [if_pos e, if_pos e]; omega
                  · rw [if_neg e, if_neg e]
                case measure => simp [intOf]; omega
              · have e : k = n := by omega
                subst e
                go_wp2_with fail
                go_roundw
                case rel => exact ⟨i + 1, by omega, by go_num, hby, hsy, HF1.out, HR1.out⟩
                case measure => simp [intOf]; omega
          · have e : i = n := by omega
            subst e
            go_wp2_with fail
            go_roundw
            case rel => exact ⟨t + 1, by omega, by go_num, hbx, hsx, HF1.out, HR1.out⟩
            case measure => simp [intOf]; omega
      · have e : t = n := by omega
        have HR2 := Lib.hid (show Row1 wr w2.heap.size 0 n (stg n F n 0 0) by have hq := HR.out; rw [e] at hq; exact hq)
        clear HR
        have HR := Lib.hid HR2.out
        have HC := Lib.hid (show ∀ j, j < n → lcC n F j = stg n F n 0 0 j from fun _ _ => rfl)
        have htn2 : ¬ (t : Int) < (n : Int) := by omega
        clear e htn HR2
        have hwr := hw2.trans (hb.mono hw2.size)
        go_wp2_with fail
        obtain ⟨w4, rfl⟩ : ∃ W : World, W = wr := ⟨_, rfl⟩
        go_loopw [12, 74] (fun v i wx => ∃ k : Nat, k ≤ n ∧ i = .int .i64 k ∧ OwnN w4.heap.size wx v k (lcR n F) ∧ Below w4.heap.size w4 wx) (fun _ i _ => n - (intOf i).toNat)
        case atStart => exact ⟨0, by omega, rfl, OwnN.nil _ _ _, Below.refl _ _⟩
        case round =>
          obtain ⟨k, hk, rfl, how, hbx⟩ := hrel
          by_cases hlt : k < n
          · have HXk0 := Lib.hid (show lcR n F k = F k (lcP n F k) - stg n F n 0 0 (lcP n F k) by
              show F k (lcP n F k) - lcC n F (lcP n F k) = _
              rw [HC.out _ (HP.out k hlt)])
            have hpn0 := HP.out k hlt
            have d2 := up_keep hbx (up_keep hb (HPl.out k hlt))
            rw [lmP_lcP] at d2
            obtain ⟨p, hp⟩ : ∃ p, lcP n F k = p := ⟨_, rfl⟩
            rw [hp] at HXk0 hpn0 d2
            have HXk := Lib.hid HXk0.out
            have hpn := hpn0
            clear hp hpn0 HXk0
            have hww := hwr.trans (hbx.mono hwr.size)
            have d0 := up_keep hww (HM.out.row k hlt)
            have d1 := up_keep hww (HM.out.at hlt hpn)
            have d3 := up_keep hbx (HR.out.at0 hpn)
            have g1 := HF.out k p hlt hpn
            have g2 := HSr.out n 0 0 (by omega) (by omega) p hpn
            have j1 : (p : Int) < (n : Int) := by omega
            have j2 : (k : Int) < (n : Int) := by omega
            have hz0 : IntKind.i64.wrap (F k p - stg n F n 0 0 p) = F k p - stg n F n 0 0 p := IntWalk.i64_in _ (by omega)
            go_wp2_with fail
            go_region_held3 (fun w' => w'.cell? ⟨b, o + k, none⟩ = some (.slice (some ⟨B k, O k, none⟩) n (C k)) ∧ w'.cell? ⟨B k, O k + p, none⟩ = some (.int .i64 (F k p)) ∧ w'.cell? ⟨w2.heap.size, p, none⟩ = some (.int .i64 (stg n F n 0 0 p)))
              (first | exact ⟨by assumption, by assumption, by assumption⟩ | go_keep)
              (first | (refine step_app_int rfl (.tmp 79) (.tmp 92) rfl w4.heap.size _ k (lcR n F) rfl rfl HXk.out (by simp [go_sem, hz0]) (OwnN.up how (by (repeat (first | with_reducible exact Below.refl _ _ | with_reducible assumption | with_reducible refine up_alloc ?_ _ | with_reducible refine up_drew ?_ | with_reducible refine up_drewN ?_ _ | (with_reducible refine up_set ?_ ?hset _; case hset => first | (simp; done) | (simp; omega) | omega) | with_reducible refine up_trans ?_ (by with_reducible assumption))))) (show Below w4.heap.size w4 _ from (by (repeat (first | with_reducible exact Below.refl _ _ | with_reducible assumption | with_reducible refine up_alloc ?_ _ | with_reducible refine up_drew ?_ | with_reducible refine up_drewN ?_ _ | (with_reducible refine up_set ?_ ?hset _; case hset => first | (simp; done) | (simp; omega) | omega) | with_reducible refine up_trans ?_ (by with_reducible assumption))))).size (by omega) ?_; intro v2 w9 ho2 hb9 _ _; replace hb9 := (show Below w4.heap.size w4 _ from (by (repeat (first | with_reducible exact Below.refl _ _ | with_reducible assumption | with_reducible refine up_alloc ?_ _ | with_reducible refine up_drew ?_ | with_reducible refine up_drewN ?_ _ | (with_reducible refine up_set ?_ ?hset _; case hset => first | (simp; done) | (simp; omega) | omega) | with_reducible refine up_trans ?_ (by with_reducible assumption))))).trans hb9; have y0 := up_keep hb9 (up_keep hwr (HM.out.row k hlt)); have y1 := up_keep hb9 (up_keep hwr (HM.out.at hlt hpn)); have y2 := up_keep hb9 (HR.out.at0 hpn)))
            go_wp2_with fail
            go_roundw
            case rel => exact ⟨k + 1, by omega, by go_num, ho2, hb9⟩
            case measure => simp [intOf]; omega
          · have e : k = n := by omega
            have how2 := how
            rw [e] at how2
            clear how
            have hk2 : ¬ (k : Int) < (n : Int) := by omega
            clear e hlt
            go_wp2_with fail
            go_ret3
            exact ⟨_, _, w4, rfl, ⟨_, _, rfl, Nat.le_refl _, fun _ => ⟨_, _, rfl, hw2.size, HFr.out, HR.out.cong (fun j hj => (HC.out j hj).symm)⟩⟩, hwr, how2.ownI, hbx⟩
end Go.Proofs.Ytadlemadnifohaa
