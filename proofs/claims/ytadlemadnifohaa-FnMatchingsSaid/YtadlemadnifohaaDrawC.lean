/-
  The reference's draws of costs: rows of numbers in new memory.
-/
import Derived.Test.YtadlemadnifohaaRows
import Derived.Test.YtadlemadnifohaaBase
import Derived.Test.YtadlemadnifohaaSpot
import Derived.Test.YtadlemadnifohaaSlice
import Derived.Test.YtadlemadnifohaaLawS
import Derived.Test.YtadlemadnifohaaMark
import Derived.Test.YtadlemadnifohaaInts
import Derived.Test.YtadlemadnifohaaIntsL
import Derived.Test.YtadlemadnifohaaTurned
import Derived.Test.YtadlemadnifohaaTrans
import Derived.BigQuiet
import Derived.Test.YtadlemadnifohaaCur
import Derived.Test.YtadlemadnifohaaDrawP
import Derived.Test.YtadlemadnifohaaCopyI
import Derived.Test.YtadlemadnifohaaRowsI
import Derived.Test.YtadlemadnifohaaCosts
import Derived.Test.YtadlemadnifohaaRowB
import Derived.Test.YtadlemadnifohaaDrawN
import Derived.Deep.CutRange
import Derived.Deep.DeepCutAuto
namespace Go.Proofs.Ytadlemadnifohaa
open Go.RowKit Go.ChangeShapes Go.WideShapes Go.Sort

def lenV : Value → Nat
  | .slice _ n _ => n
  | _ => 0
theorem OwnN.store {base : Nat} {w : World} {g n c : Nat} {X : Nat → Int} (h : OwnN base w (.slice (some ⟨g, 0, none⟩) n c) n X) {J : Nat} (hJ : J < n) (z : Int) :
    OwnN base (w.setCell ⟨g, J, none⟩ (.int .i64 z)) (.slice (some ⟨g, 0, none⟩) n c) n (fun i => if i = J then z else X i) ∧ w.grownBy (w.setCell ⟨g, J, none⟩ (.int .i64 z)) (some g) := by
  obtain ⟨s1, s2⟩ := World.ownsRow.stored h J (.int .i64 z)
  refine ⟨?_, s2⟩
  have : (cells1 X n).set J (.int .i64 z) = cells1 (fun i => if i = J then z else X i) n := by
    apply List.ext_getElem?
    intro i
    rw [List.getElem?_set]
    by_cases e : J = i
    · subst e
      rw [if_pos rfl, cells1_len, if_pos hJ, cells1_get _ _ _ hJ, if_pos rfl]
    · rw [if_neg e]
      by_cases hi : i < n
      · rw [cells1_get _ _ _ hi, cells1_get _ _ _ hi, if_neg (Ne.symm e)]
      · rw [List.getElem?_eq_none (by rw [cells1_len]; omega), List.getElem?_eq_none (by rw [cells1_len]; omega)]
  unfold OwnN
  rw [← this]; exact s1
theorem OwnN.at {base : Nat} {w : World} {g n c : Nat} {X : Nat → Int} (h : OwnN base w (.slice (some ⟨g, 0, none⟩) n c) n X) {J : Nat} (hJ : J < n) : w.cell? ⟨g, J, none⟩ = some (.int .i64 (X J)) ∧ w.frozen? ⟨g, J, none⟩ = false := by
  refine ⟨?_, World.ownsRow.frozenAt h J⟩
  have h' : w.ownsRow base 3 1 (.slice (some ⟨g, 0, none⟩) n c) n (cells1 X n) := h
  rw [World.ownsRow.cellAt h' J (by omega)]
  exact cells1_get X n J hJ
/-- Returned: rows of numbers in new memory; beside it only the cursor has turned. -/
def AnsCosts (w : World) (p K : Nat) (e : Ending) (w' : World) : Prop := ∃ v n R F L, e = .returned v ∧ OwnBL w.heap.size w' v n R F L ∧ n ≤ 13 ∧ (∀ i, i < n → R i ≤ 14) ∧ CurAt w' p K ∧ Turned p (p + 1) w w'
theorem OwnBL.headKept {base : Nat} {w w' : World} {n g c : Nat} {R : Nat → Nat} {F : Nat → Nat → Int} {L : Nat → Value} (h : OwnBL base w (.slice (some ⟨g, 0, none⟩) n c) n R F L) {I : Nat} (hI : I < n) {row : Option Nat} (hg : w.grownBy w' row)
    (hr : ∀ k, row = some k → (L I).ownBlock = some k) : w'.cell? ⟨g, I, none⟩ = some (L I) ∧ w'.frozen? ⟨g, I, none⟩ = false := by
  have hq1 : w'.ownsRow base 25 1 (.slice (some ⟨g, 0, none⟩) n c) n (cellsV L n) := World.ownsRow.kept h.head hg (.inr (fun e => h.apart I hI g (hr g e.symm) rfl))
  refine ⟨?_, World.ownsRow.frozenAt hq1 I⟩
  rw [World.ownsRow.cellAt hq1 I (by omega)]
  exact cellsV_get L n I hI
set_option maxRecDepth 100000 in
set_option maxHeartbeats 8000000 in
theorem cur_costs (p K : Nat) (w : World) (h : CurAt w p K) (hK : K ≤ 1000000) :
    Calls Try.prog 43 #[.pointer (some ⟨p, 0, none⟩)] w (AnsCosts w p (K + 500)) := by
  have hpw := h.lt
  go_enter Try.func43, Try.ntmps43
  go_wp2_with fail
  refine (cur_pick p K 5 _ h (by omega) (by omega)).mono ?_
  rintro e w1 ⟨x, rfl, hx, hc1, ht1⟩
  go_upto_if 12 with (refine (cur_one p (K + 2) 20 _ hc1 (by omega) (by omega)).mono ?_; rintro e w2 ⟨q, rfl, hc2, ht2⟩)
  go_cut [3] (fun n wx => ∃ N : Nat, n = .int .i64 N ∧ N ≤ 13 ∧ CurAt wx p (K + 6) ∧ Turned p (p + 1) w wx)
  case first =>
    cases q with
    | false =>
      go_wp2_with fail
      go_meet
      exact ⟨x + 1, by first | rfl | go_num, by omega, hc2.more (by omega), ht1.trans ht2⟩
    | true =>
      have hpl : p < w2.heap.size := hc2.lt
      go_wp2_with fail
      refine (cur_among p (K + 4) _ 4 0 13 _ (hc2.up (below_alloc _ _)) (by omega) (by omega) (by omega) hpl (by intro i hi; match i, hi with | 0, _ => exact ⟨0, by simp [go_sem], by omega, by omega⟩ | 1, _ => exact ⟨8, by simp [go_sem], by omega, by omega⟩ | 2, _ => exact ⟨12, by simp [go_sem], by omega, by omega⟩ | 3, _ => exact ⟨13, by simp [go_sem], by omega, by omega⟩ | (k + 4), hi => omega)).mono ?_
      rintro e w3 ⟨y, rfl, hy, hc3, ht3⟩
      obtain ⟨Y, rfl⟩ : ∃ Y : Nat, y = Y := ⟨y.toNat, by omega⟩
      go_wp2_with fail
      go_meet
      exact ⟨Y, rfl, by omega, hc3, ((ht1.trans ht2).trans (Turned.of_below (below_alloc _ _))).trans ht3⟩
  case rest =>
    obtain ⟨N, rfl, hN, hc4, ht4⟩ := hcut
    clear h hc1 ht1 hc2 ht2
    have hpl : p < wc.heap.size := hc4.lt
    go_wp2_with fail
    refine (cur_among p (K + 6) _ 4 3 60000 _ (hc4.up (below_alloc _ _)) (by omega) (by omega) (by omega) hpl (by intro i hi; match i, hi with | 0, _ => exact ⟨3, by simp [go_sem], by omega, by omega⟩ | 1, _ => exact ⟨10, by simp [go_sem], by omega, by omega⟩ | 2, _ => exact ⟨100, by simp [go_sem], by omega, by omega⟩ | 3, _ => exact ⟨60000, by simp [go_sem], by omega, by omega⟩ | (k + 4), hi => omega)).mono ?_
    rintro e w3 ⟨y, rfl, hy, hc5, ht5⟩
    obtain ⟨M, rfl⟩ : ∃ M : Nat, y = M := ⟨y.toNat, by omega⟩
    have ht6 := (ht4.trans (Turned.of_below (below_alloc _ _))).trans ht5
    clear hc4 ht4 ht5 hpl
    go_wp2_with fail
    go_loopw [5] (fun q wr => ∃ k R F L, k ≤ N ∧ OwnBL w.heap.size wr q k R F L ∧ (∀ i, i < k → R i = N) ∧ CurAt wr p (K + 8 + 30 * k) ∧ Turned p (p + 1) w wr) (fun q _ => N - lenV q)
    case atStart => exact ⟨0, fun _ => 0, fun _ _ => 0, fun _ => .bool true, by omega, OwnBL.nil _ _ _ _ _, fun i hi => absurd hi (by omega), hc5.more (by omega), ht6⟩
    case round =>
      clear hc5 ht6
      obtain ⟨k, R, F, L, hk, how, hR, hc, ht⟩ := hrel
      have HR := Lib.hid hR
      clear hR
      by_cases hlt : k < N
      · obtain ⟨A, c, rfl, hnc⟩ := how.shape
        have j1 : (k : Int) < (N : Int) := by omega
        have how2 := Lib.hid how
        have hs := ht.size
        clear how
        obtain ⟨w4, rfl⟩ : ∃ W : World, W = wr := ⟨_, rfl⟩
        go_wp2_with fail
        go_loopw [6] (fun r wi => ∃ m X, m ≤ N ∧ OwnN w4.heap.size wi r m X ∧ CurAt wi p (K + 8 + 30 * k + 2 * m) ∧ Turned p (p + 1) w4 wi) (fun r _ => N - lenV r)
        case atStart => exact ⟨0, fun _ => 0, by omega, OwnN.nil _ _ _, hc.more (by omega), Turned.refl _ _ _⟩
        case round =>
          clear hc
          obtain ⟨m, X, hm, hom, hcm, htm⟩ := hrel
          obtain ⟨A2, c2, e2, hnc2, _⟩ := hom.shape
          have hom2 := Lib.hid hom
          clear hom
          by_cases hlt2 : m < N
          · subst e2
            have j2 : (m : Int) < (N : Int) := by omega
            go_wp2_with fail
            refine (cur_pick p _ M _ hcm (by omega) (by omega)).mono ?_
            rintro e w5 ⟨y, rfl, hyM, hc5, ht5⟩
            have hs5 := ht5.size
            have hsm := htm.size
            have hox : OwnN w4.heap.size w5 _ m (fun i => if i = m then (y : Int) else X i) := (hom2.out.turn ht5 (by omega)).cong (fun i hi => by rw [if_neg (by omega)])
            have HOX := Lib.hid hox
            clear hox
            go_wp2_with (at_builtin; refine wpList_app_int2 rfl (.tmp 27) (.tmp 31) rfl w4.heap.size _ m (fun i => if i = m then (y : Int) else X i) rfl rfl (if_pos rfl) (by simp [go_sem]) (OwnN.up HOX.out (show Below w5.heap.size w5 _ from (by (repeat (first | with_reducible exact Below.refl _ _ | with_reducible assumption | with_reducible refine up_alloc ?_ _ | with_reducible refine up_drew ?_ | with_reducible refine up_drewN ?_ _ | (with_reducible refine up_set ?_ ?hset _; case hset => first | (simp; done) | (simp; omega) | omega) | with_reducible refine up_trans ?_ (by with_reducible assumption)))))) (Nat.le_trans (show w4.heap.size ≤ w5.heap.size from by omega) (show Below w5.heap.size w5 _ from (by (repeat (first | with_reducible exact Below.refl _ _ | with_reducible assumption | with_reducible refine up_alloc ?_ _ | with_reducible refine up_drew ?_ | with_reducible refine up_drewN ?_ _ | (with_reducible refine up_set ?_ ?hset _; case hset => first | (simp; done) | (simp; omega) | omega) | with_reducible refine up_trans ?_ (by with_reducible assumption))))).size) (by omega) ?_; intro v2 w6 ho2 hb2 _ _; replace hb2 := (show Below w4.heap.size w5 _ from (below_alloc _ _).mono (by omega)).trans hb2)
            obtain ⟨A3, c3, e3, _, _⟩ := ho2.shape
            subst e3
            go_roundw
            case rel =>
              exact ⟨m + 1, _, by omega, ho2, (hc5.below hb2 (by omega)).more (by omega), (htm.trans ht5).far hb2⟩
            case measure => simp [lenV]; omega
          · have e : m = N := by omega
            subst e2
            subst e
            go_wp2_with (at_builtin; refine wpList_app_rowN (wa := w4) rfl (.tmp 33) (.tmp 35) rfl w.heap.size _ k R F L rfl rfl (by simp [go_sem]) how2.out hs (htm.trans (Turned.of_below (show Below wr.heap.size wr _ from (by (repeat (first | with_reducible exact Below.refl _ _ | with_reducible assumption | with_reducible refine up_alloc ?_ _ | with_reducible refine up_drew ?_ | with_reducible refine up_drewN ?_ _ | (with_reducible refine up_set ?_ ?hset _; case hset => first | (simp; done) | (simp; omega) | omega) | with_reducible refine up_trans ?_ (by with_reducible assumption))))))) hpw (OwnN.up hom2.out (show Below wr.heap.size wr _ from (by (repeat (first | with_reducible exact Below.refl _ _ | with_reducible assumption | with_reducible refine up_alloc ?_ _ | with_reducible refine up_drew ?_ | with_reducible refine up_drewN ?_ _ | (with_reducible refine up_set ?_ ?hset _; case hset => first | (simp; done) | (simp; omega) | omega) | with_reducible refine up_trans ?_ (by with_reducible assumption)))))) (by omega) ?_; intro v3 w6 ho3 hb3; replace hb3 := (show Below w.heap.size wr _ from (below_alloc _ _).mono (by have := htm.size; omega)).trans hb3)
            obtain ⟨A3, c3, e3, _⟩ := ho3.shape
            subst e3
            go_roundw
            case rel =>
              exact ⟨k + 1, _, _, _, by omega, ho3, fun i hi => by
                by_cases e5 : i = k
                · simp only [if_pos e5]
                · simp only [if_neg e5]; exact HR.out i (by omega), (hcm.below hb3 hpw).more (by omega), (ht.trans htm).far hb3⟩
            case measure => simp [lenV]; omega
      · have e : k = N := by omega
        subst e
        by_cases h0 : k = 0
        · subst h0
          obtain ⟨A, c, e1, hnc⟩ := how.shape
          subst e1
          have HO := Lib.hid how
          clear how
          go_wp2_with fail
          go_ret
          exact ⟨_, 0, R, F, L, rfl, HO.out, by omega, fun i hi => absurd hi (by omega), hc.more (by omega), ht⟩
        · obtain ⟨g, c, e1, _, hfg, hbg, hlg, _⟩ := how.row (I := 0) (by omega)
          subst e1
          have j3 : (k : Int) > 0 := by omega
          have HO := Lib.hid how
          clear how
          go_wp2_with fail
          refine (cur_pick p _ k _ hc (by omega) (by omega)).mono ?_
          rintro e w6 ⟨I, rfl, hI, hc6, ht6⟩
          have hIk : I < k := by omega
          have jI : (I : Int) < (k : Int) := by omega
          have how6 := HO.out.turn ht6 hpw
          obtain ⟨g', c', e1, hcell, _⟩ := how6.row hIk
          injection e1 with e2 _ e4
          injection e2 with e2
          injection e2 with e2 _ _
          subst e2
          subst e4
          have hRI := HR.out I hIk
          have hNI := how6.rows I hIk
          rw [hRI] at hNI
          obtain ⟨gb, cb, eL, hgb, hgl⟩ := World.ownsRow.form hNI (by omega)
          have HL := Lib.hid eL
          rw [eL] at hcell
          clear eL hNI
          have ht7 := ht.trans ht6
          have HO6 := Lib.hid how6
          clear how6
          go_wp2_with fail
          refine (cur_pick p _ 30 _ hc6 (by omega) (by omega)).mono ?_
          rintro e w7 ⟨y, rfl, hy, hc7, ht8⟩
          have HO7 := Lib.hid (HO6.out.turn ht8 hpw)
          have ht9 := ht7.trans ht8
          clear hcell
          by_cases y0 : y = 0
          · subst y0
            go_wp2_with fail
            refine (cur_pick p _ k _ hc7 (by omega) (by omega)).mono ?_
            rintro e w8 ⟨J, rfl, hJ, hc8, ht10⟩
            have hJk : J < k := by omega
            have jJ : (J : Int) < (k : Int) := by omega
            have ht11 := ht9.trans ht10
            have HO8 := Lib.hid (HO7.out.turn ht10 hpw)
            have hpl : p < w8.heap.size := hc8.lt
            go_wp2_with fail
            refine (cur_among p _ _ 3 (-1) 2100001 _ (hc8.up (below_alloc _ _)) (by omega) (by omega) (by omega) hpl (by intro i hi; match i, hi with | 0, _ => exact ⟨(-1), by simp [go_sem], by omega, by omega⟩ | 1, _ => exact ⟨2100000, by simp [go_sem], by omega, by omega⟩ | 2, _ => exact ⟨2100001, by simp [go_sem], by omega, by omega⟩ | (k + 3), hi => omega)).mono ?_
            rintro e w9 ⟨z, rfl, hz, hc9, ht12⟩
            have ht13 := (ht11.trans (Turned.of_below (below_alloc _ _))).trans ht12
            have how9 := ((HO8.out.up (below_alloc _ _)).turn ht12 hpw)
            have hNI := how9.rows I hIk
            rw [hRI, HL.out] at hNI
            obtain ⟨c9, f9⟩ := hNI.at hJk
            have HN9 := Lib.hid hNI
            have HO9 := Lib.hid how9
            clear hNI how9
            go_wp2_with fail
            go_ret
            obtain ⟨s1, s2⟩ := HN9.out.store hJk z
            have hb9 : Below w.heap.size w9 (w9.setCell ⟨gb, J, none⟩ (.int .i64 z)) := (Below.refl _ _).setCell hgb _
            refine ⟨_, k, R, _, L, rfl, HO9.out.change hIk s2 (fun q hq => by rw [HL.out]; exact hq) (by rw [hRI, HL.out]; exact s1), by omega, fun i hi => by have := HR.out i hi; omega, (hc9.below hb9 hpw).more (by omega), ht13.far hb9⟩
          · have jy0 : ¬ (y : Int) = 0 := by omega
            by_cases y1 : y = 1
            · subst y1
              have hz1 : k - 1 < k := by omega
              have HOA := fun o => Lib.hid (HO7.out.up (below_alloc w7 o))
              have hNI := HO7.out.rows (k - 1) hz1
              rw [HR.out (k - 1) hz1] at hNI
              obtain ⟨gz, cz, eZ, hgz, hgzl⟩ := World.ownsRow.form hNI (by omega)
              obtain ⟨g', c', e1, hcell, _⟩ := HO7.out.row hz1
              injection e1 with e2 _ e4
              injection e2 with e2
              injection e2 with e2 _ _
              subst e2
              subst e4
              rw [eZ] at hcell hNI
              have hox : OwnN w.heap.size w7 (.slice (some ⟨gz, 0, none⟩) k cz) k (fun i => if i = k then (5 : Int) else F (k - 1) i) := OwnN.cong hNI (fun i hi => by rw [if_neg (by omega)])
              have HOX := Lib.hid hox
              have HZ := Lib.hid eZ
              have HT9 := Lib.hid ht9
              have hs9 := ht9.size
              clear hox hNI eZ ht9
              go_wp2_with (at_builtin; refine wpList_app_int2 rfl (.tmp 66) (.tmp 67) rfl w.heap.size _ k (fun i => if i = k then (5 : Int) else F (k - 1) i) rfl rfl (if_pos rfl) (by simp [go_sem]) (OwnN.up HOX.out (show Below w7.heap.size w7 _ from (by (repeat (first | with_reducible exact Below.refl _ _ | with_reducible assumption | with_reducible refine up_alloc ?_ _ | with_reducible refine up_drew ?_ | with_reducible refine up_drewN ?_ _ | (with_reducible refine up_set ?_ ?hset _; case hset => first | (simp; done) | (simp; omega) | omega) | with_reducible refine up_trans ?_ (by with_reducible assumption)))))) (Nat.le_trans hs9 (show Below w7.heap.size w7 _ from (by (repeat (first | with_reducible exact Below.refl _ _ | with_reducible assumption | with_reducible refine up_alloc ?_ _ | with_reducible refine up_drew ?_ | with_reducible refine up_drewN ?_ _ | (with_reducible refine up_set ?_ ?hset _; case hset => first | (simp; done) | (simp; omega) | omega) | with_reducible refine up_trans ?_ (by with_reducible assumption))))).size) (by omega) ?_; intro v2 w9 ho2 hb2 hg2 hv2; obtain ⟨c9, f9⟩ := (HOA _).out.headKept hz1 hg2 (fun q hq => by rw [HZ.out]; exact hq); obtain ⟨A9, q9, e9, _, _⟩ := ho2.shape; subst e9)
              go_ret
              obtain ⟨L', F', hF⟩ := (HOA _).out.lay hz1 rfl hg2 (fun q hq => by rw [HZ.out]; exact hq) ho2 (by rw [HZ.out]; exact hv2)
              have hb3 : Below w.heap.size w7 w9 := ((below_alloc w7 _).mono hs9).trans hb2
              have hb9 := hb3.trans ((Below.refl w.heap.size w9).setCell (p := ⟨g, k - 1, none⟩) hbg (.slice A9 (k + 1) q9))
              exact ⟨_, k, _, _, _, rfl, hF, by omega, fun i hi => by have := HR.out i hi; split <;> omega, (hc7.below hb9 hpw).more (by omega), HT9.out.far hb9⟩
            · have jy1 : ¬ (y : Int) = 1 := by omega
              go_wp2_with fail
              go_ret
              exact ⟨_, k, R, F, L, rfl, HO7.out, by omega, fun i hi => by have := HR.out i hi; omega, hc7.more (by omega), ht9⟩
end Go.Proofs.Ytadlemadnifohaa
