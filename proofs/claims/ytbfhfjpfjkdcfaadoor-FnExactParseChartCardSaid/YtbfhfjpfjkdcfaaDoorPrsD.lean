/-
  The program reads a spot.
-/
import Derived.Test.YtbfhfjpfjkdcfaaDoorRows
import Derived.Test.YtbfhfjpfjkdcfaaDoorBase
import Derived.Test.YtbfhfjpfjkdcfaaDoorSpot
import Derived.Test.YtbfhfjpfjkdcfaaDoorSlice
import Derived.Test.YtbfhfjpfjkdcfaaDoorTxtP
import Derived.Test.YtbfhfjpfjkdcfaaDoorPrsP
import Derived.Test.YtbfhfjpfjkdcfaaDoorPrsN
import Derived.Test.YtbfhfjpfjkdcfaaDoorPrsC
namespace Go.Proofs.YtbfhfjpfjkdcfaaDoor
open Go.RowKit Go.ChangeShapes Go.WideShapes Go.Sort Go.Proofs

def spV (o : Option (Nat × Nat)) : Value := match o with
  | some (x, y) => .tuple #[.agg #[.int .i64 (x : Int), .int .i64 (y : Int)], .bool true]
  | none => .tuple #[.agg #[.int .i64 0, .int .i64 0], .bool false]
set_option maxRecDepth 100000 in
set_option maxHeartbeats 2000000 in
theorem parseSpot_s (l : List UInt8) (w : World) (hl : l.length ≤ 1048576) (hm : MaxW w) : Calls Tryd.prog 16 #[.string (bS l)] w (Ans w (spV (spP 9 l))) := by
  cases hc : cut1 44 l with
  | none =>
    have HC := Lib.hid (fun (W : World) (hW : Below w.heap.size w W) => cut_no 44 l W hl (hm.up hW) hc)
    have HD := Lib.hid (show spV (spP 9 l) = .tuple #[.agg #[.int .i64 0, .int .i64 0], .bool false] by unfold spP; rw [hc]; rfl)
    clear hc hm
    go_enter Tryd.func16, Tryd.ntmps16
    have g0 := (cell_new2 w (.int .i64 0) (.int .i64 0) 38).1
    have g1 := (cell_new2 w (.int .i64 0) (.int .i64 0) 38).2
    go_wp2_with ((go_at_call 27; refine (from0 (HC.out _ (by (repeat (first | with_reducible exact Below.refl _ _ | with_reducible assumption | with_reducible refine up_alloc ?_ _ | with_reducible refine up_drew ?_ | with_reducible refine up_drewN ?_ _ | (with_reducible refine up_set ?_ ?hset _; case hset => first | (simp; done) | (simp; omega) | omega) | with_reducible refine up_trans ?_ (by with_reducible assumption))))) (by first | exact hb0 | exact up_alloc hb0 _ | exact up_drew hb0 | exact up_drewN hb0 _ | exact Below.refl _ _)).mono ?_; rintro e w1 ⟨rfl, hb0⟩; obtain ⟨hc0, hf0⟩ := bcell hb0; have hz0 := hb0.size; simp at hz0; have hz1 : w.heap.size < w1.heap.size := (by omega); try have hz2 : w.heap.size + 1 < w1.heap.size := (by omega)))
    refine bodyPost_ret (v := .tuple #[.agg #[.int .i64 0, .int .i64 0], .bool false]) (by simp [results, Tryd.results16, go_sem, *]) rfl ?_
    rw [HD.out]
    exact ⟨rfl, by first | (repeat (first | with_reducible exact Below.refl _ _ | with_reducible assumption | with_reducible refine up_alloc ?_ _ | with_reducible refine up_drew ?_ | with_reducible refine up_drewN ?_ _ | (with_reducible refine up_set ?_ ?hset _; case hset => first | (simp; done) | (simp; omega) | omega) | with_reducible refine up_trans ?_ (by with_reducible assumption))) | skip⟩
  | some z =>
    obtain ⟨p, q⟩ := z
    obtain ⟨hpq, _⟩ := cut1_some.1 hc
    have hll : p.length ≤ 1048576 ∧ q.length ≤ 1048576 := by
      have := congrArg List.length hpq
      simp at this
      omega
    have HC := Lib.hid (fun (W : World) (hW : Below w.heap.size w W) => cut_yes 44 l p q W hl (hm.up hW) hc)
    have HP := Lib.hid (fun (W : World) (hW : Below w.heap.size w W) => readSteps_s p W hll.1 (hm.up hW))
    have HQ := Lib.hid (fun (W : World) (hW : Below w.heap.size w W) => readSteps_s q W hll.2 (hm.up hW))
    have hr : spP 9 l = match rdL 9 p, rdL 9 q with
      | some x, some y => if x ≤ 1280 ∧ y ≤ 672 then some (x, y) else none
      | _, _ => none := by unfold spP; rw [hc]; rfl
    clear hc hpq hll hm hl
    cases hp : rdL 9 p with
    | none =>
      cases hq : rdL 9 q with
      | none =>
        have HD := Lib.hid (show spV (spP 9 l) = .tuple #[.agg #[.int .i64 0, .int .i64 0], .bool false] by rw [hr, hp, hq]; rfl)
        rw [hp, show natV none = .tuple #[.int .i64 0, .bool false] from rfl] at HP
        rw [hq, show natV none = .tuple #[.int .i64 0, .bool false] from rfl] at HQ
        clear hr hp hq
        go_enter Tryd.func16, Tryd.ntmps16
        have g0 := (cell_new2 w (.int .i64 0) (.int .i64 0) 38).1
        have g1 := (cell_new2 w (.int .i64 0) (.int .i64 0) 38).2
        go_wp2_with (first | (go_at_call 27; refine (from0 (HC.out _ (by (repeat (first | with_reducible exact Below.refl _ _ | with_reducible assumption | with_reducible refine up_alloc ?_ _ | with_reducible refine up_drew ?_ | with_reducible refine up_drewN ?_ _ | (with_reducible refine up_set ?_ ?hset _; case hset => first | (simp; done) | (simp; omega) | omega) | with_reducible refine up_trans ?_ (by with_reducible assumption))))) (by first | exact hb0 | exact up_alloc hb0 _ | exact up_drew hb0 | exact up_drewN hb0 _ | exact Below.refl _ _)).mono ?_; rintro e w1 ⟨rfl, hb0⟩; obtain ⟨hc0, hf0⟩ := bcell hb0; have hz0 := hb0.size; simp at hz0; have hz1 : w.heap.size < w1.heap.size := (by omega); try have hz2 : w.heap.size + 1 < w1.heap.size := (by omega)) | (go_at_call 28; (with_reducible show Calls Tryd.prog _ #[.string (bS p)] _ _); refine (from0 (HP.out _ (by (repeat (first | with_reducible exact Below.refl _ _ | with_reducible assumption | with_reducible refine up_alloc ?_ _ | with_reducible refine up_drew ?_ | with_reducible refine up_drewN ?_ _ | (with_reducible refine up_set ?_ ?hset _; case hset => first | (simp; done) | (simp; omega) | omega) | with_reducible refine up_trans ?_ (by with_reducible assumption))))) hb0).mono ?_; rintro e w2 ⟨rfl, hb2⟩; obtain ⟨hc2, hf2⟩ := bcell hb2; have hz2 : w.heap.size < w2.heap.size := by have := hb2.size; simp at this; omega) | (go_at_call 28; (with_reducible show Calls Tryd.prog _ #[.string (bS q)] _ _); refine (from0 (HQ.out _ (by (repeat (first | with_reducible exact Below.refl _ _ | with_reducible assumption | with_reducible refine up_alloc ?_ _ | with_reducible refine up_drew ?_ | with_reducible refine up_drewN ?_ _ | (with_reducible refine up_set ?_ ?hset _; case hset => first | (simp; done) | (simp; omega) | omega) | with_reducible refine up_trans ?_ (by with_reducible assumption))))) hb2).mono ?_; rintro e w3 ⟨rfl, hb3⟩; obtain ⟨hc3, hf3⟩ := bcell hb3; have hz3 : w.heap.size < w3.heap.size := by have := hb3.size; simp at this; omega))
        refine bodyPost_ret (v := .tuple #[.agg #[.int .i64 0, .int .i64 0], .bool false]) (by simp [results, Tryd.results16, go_sem, *]) rfl ?_
        rw [HD.out]
        exact ⟨rfl, by (repeat (first | with_reducible exact Below.refl _ _ | with_reducible assumption | with_reducible refine up_alloc ?_ _ | with_reducible refine up_drew ?_ | with_reducible refine up_drewN ?_ _ | (with_reducible refine up_set ?_ ?hset _; case hset => first | (simp; done) | (simp; omega) | omega) | with_reducible refine up_trans ?_ (by with_reducible assumption)))⟩
      | some y =>
        have HD := Lib.hid (show spV (spP 9 l) = .tuple #[.agg #[.int .i64 0, .int .i64 0], .bool false] by rw [hr, hp, hq]; rfl)
        rw [hp, show natV none = .tuple #[.int .i64 0, .bool false] from rfl] at HP
        rw [hq, show natV (some y) = .tuple #[.int .i64 (y : Int), .bool true] from rfl] at HQ
        clear hr hp hq
        go_enter Tryd.func16, Tryd.ntmps16
        have g0 := (cell_new2 w (.int .i64 0) (.int .i64 0) 38).1
        have g1 := (cell_new2 w (.int .i64 0) (.int .i64 0) 38).2
        go_wp2_with (first | (go_at_call 27; refine (from0 (HC.out _ (by (repeat (first | with_reducible exact Below.refl _ _ | with_reducible assumption | with_reducible refine up_alloc ?_ _ | with_reducible refine up_drew ?_ | with_reducible refine up_drewN ?_ _ | (with_reducible refine up_set ?_ ?hset _; case hset => first | (simp; done) | (simp; omega) | omega) | with_reducible refine up_trans ?_ (by with_reducible assumption))))) (by first | exact hb0 | exact up_alloc hb0 _ | exact up_drew hb0 | exact up_drewN hb0 _ | exact Below.refl _ _)).mono ?_; rintro e w1 ⟨rfl, hb0⟩; obtain ⟨hc0, hf0⟩ := bcell hb0; have hz0 := hb0.size; simp at hz0; have hz1 : w.heap.size < w1.heap.size := (by omega); try have hz2 : w.heap.size + 1 < w1.heap.size := (by omega)) | (go_at_call 28; (with_reducible show Calls Tryd.prog _ #[.string (bS p)] _ _); refine (from0 (HP.out _ (by (repeat (first | with_reducible exact Below.refl _ _ | with_reducible assumption | with_reducible refine up_alloc ?_ _ | with_reducible refine up_drew ?_ | with_reducible refine up_drewN ?_ _ | (with_reducible refine up_set ?_ ?hset _; case hset => first | (simp; done) | (simp; omega) | omega) | with_reducible refine up_trans ?_ (by with_reducible assumption))))) hb0).mono ?_; rintro e w2 ⟨rfl, hb2⟩; obtain ⟨hc2, hf2⟩ := bcell hb2; have hz2 : w.heap.size < w2.heap.size := by have := hb2.size; simp at this; omega) | (go_at_call 28; (with_reducible show Calls Tryd.prog _ #[.string (bS q)] _ _); refine (from0 (HQ.out _ (by (repeat (first | with_reducible exact Below.refl _ _ | with_reducible assumption | with_reducible refine up_alloc ?_ _ | with_reducible refine up_drew ?_ | with_reducible refine up_drewN ?_ _ | (with_reducible refine up_set ?_ ?hset _; case hset => first | (simp; done) | (simp; omega) | omega) | with_reducible refine up_trans ?_ (by with_reducible assumption))))) hb2).mono ?_; rintro e w3 ⟨rfl, hb3⟩; obtain ⟨hc3, hf3⟩ := bcell hb3; have hz3 : w.heap.size < w3.heap.size := by have := hb3.size; simp at this; omega))
        refine bodyPost_ret (v := .tuple #[.agg #[.int .i64 0, .int .i64 0], .bool false]) (by simp [results, Tryd.results16, go_sem, *]) rfl ?_
        rw [HD.out]
        exact ⟨rfl, by (repeat (first | with_reducible exact Below.refl _ _ | with_reducible assumption | with_reducible refine up_alloc ?_ _ | with_reducible refine up_drew ?_ | with_reducible refine up_drewN ?_ _ | (with_reducible refine up_set ?_ ?hset _; case hset => first | (simp; done) | (simp; omega) | omega) | with_reducible refine up_trans ?_ (by with_reducible assumption)))⟩
    | some x =>
      cases hq : rdL 9 q with
      | none =>
        have HD := Lib.hid (show spV (spP 9 l) = .tuple #[.agg #[.int .i64 0, .int .i64 0], .bool false] by rw [hr, hp, hq]; rfl)
        rw [hp, show natV (some x) = .tuple #[.int .i64 (x : Int), .bool true] from rfl] at HP
        rw [hq, show natV none = .tuple #[.int .i64 0, .bool false] from rfl] at HQ
        clear hr hp hq
        go_enter Tryd.func16, Tryd.ntmps16
        have g0 := (cell_new2 w (.int .i64 0) (.int .i64 0) 38).1
        have g1 := (cell_new2 w (.int .i64 0) (.int .i64 0) 38).2
        go_wp2_with (first | (go_at_call 27; refine (from0 (HC.out _ (by (repeat (first | with_reducible exact Below.refl _ _ | with_reducible assumption | with_reducible refine up_alloc ?_ _ | with_reducible refine up_drew ?_ | with_reducible refine up_drewN ?_ _ | (with_reducible refine up_set ?_ ?hset _; case hset => first | (simp; done) | (simp; omega) | omega) | with_reducible refine up_trans ?_ (by with_reducible assumption))))) (by first | exact hb0 | exact up_alloc hb0 _ | exact up_drew hb0 | exact up_drewN hb0 _ | exact Below.refl _ _)).mono ?_; rintro e w1 ⟨rfl, hb0⟩; obtain ⟨hc0, hf0⟩ := bcell hb0; have hz0 := hb0.size; simp at hz0; have hz1 : w.heap.size < w1.heap.size := (by omega); try have hz2 : w.heap.size + 1 < w1.heap.size := (by omega)) | (go_at_call 28; (with_reducible show Calls Tryd.prog _ #[.string (bS p)] _ _); refine (from0 (HP.out _ (by (repeat (first | with_reducible exact Below.refl _ _ | with_reducible assumption | with_reducible refine up_alloc ?_ _ | with_reducible refine up_drew ?_ | with_reducible refine up_drewN ?_ _ | (with_reducible refine up_set ?_ ?hset _; case hset => first | (simp; done) | (simp; omega) | omega) | with_reducible refine up_trans ?_ (by with_reducible assumption))))) hb0).mono ?_; rintro e w2 ⟨rfl, hb2⟩; obtain ⟨hc2, hf2⟩ := bcell hb2; have hz2 : w.heap.size < w2.heap.size := by have := hb2.size; simp at this; omega) | (go_at_call 28; (with_reducible show Calls Tryd.prog _ #[.string (bS q)] _ _); refine (from0 (HQ.out _ (by (repeat (first | with_reducible exact Below.refl _ _ | with_reducible assumption | with_reducible refine up_alloc ?_ _ | with_reducible refine up_drew ?_ | with_reducible refine up_drewN ?_ _ | (with_reducible refine up_set ?_ ?hset _; case hset => first | (simp; done) | (simp; omega) | omega) | with_reducible refine up_trans ?_ (by with_reducible assumption))))) hb2).mono ?_; rintro e w3 ⟨rfl, hb3⟩; obtain ⟨hc3, hf3⟩ := bcell hb3; have hz3 : w.heap.size < w3.heap.size := by have := hb3.size; simp at this; omega))
        refine bodyPost_ret (v := .tuple #[.agg #[.int .i64 0, .int .i64 0], .bool false]) (by simp [results, Tryd.results16, go_sem, *]) rfl ?_
        rw [HD.out]
        exact ⟨rfl, by (repeat (first | with_reducible exact Below.refl _ _ | with_reducible assumption | with_reducible refine up_alloc ?_ _ | with_reducible refine up_drew ?_ | with_reducible refine up_drewN ?_ _ | (with_reducible refine up_set ?_ ?hset _; case hset => first | (simp; done) | (simp; omega) | omega) | with_reducible refine up_trans ?_ (by with_reducible assumption)))⟩
      | some y =>
        rw [hp, show natV (some x) = .tuple #[.int .i64 (x : Int), .bool true] from rfl] at HP
        rw [hq, show natV (some y) = .tuple #[.int .i64 (y : Int), .bool true] from rfl] at HQ
        rw [hp, hq] at hr
        simp only at hr
        have HI := Lib.hid (isSpot_any (x : Int) (y : Int))
        cases hs : spotB (x : Int) (y : Int) with
        | true =>
          have h7 := spotB_iff.1 hs
          rw [hs] at HI
          rw [if_pos (by omega)] at hr
          have HD := Lib.hid (show spV (spP 9 l) = .tuple #[.agg #[.int .i64 (x : Int), .int .i64 (y : Int)], .bool true] by rw [hr]; rfl)
          clear hr hp hq hs h7
          go_enter Tryd.func16, Tryd.ntmps16
          have g0 := (cell_new2 w (.int .i64 0) (.int .i64 0) 38).1
          have g1 := (cell_new2 w (.int .i64 0) (.int .i64 0) 38).2
          go_wp2_with (first | (go_at_call 27; refine (from0 (HC.out _ (by (repeat (first | with_reducible exact Below.refl _ _ | with_reducible assumption | with_reducible refine up_alloc ?_ _ | with_reducible refine up_drew ?_ | with_reducible refine up_drewN ?_ _ | (with_reducible refine up_set ?_ ?hset _; case hset => first | (simp; done) | (simp; omega) | omega) | with_reducible refine up_trans ?_ (by with_reducible assumption))))) (by first | exact hb0 | exact up_alloc hb0 _ | exact up_drew hb0 | exact up_drewN hb0 _ | exact Below.refl _ _)).mono ?_; rintro e w1 ⟨rfl, hb0⟩; obtain ⟨hc0, hf0⟩ := bcell hb0; have hz0 := hb0.size; simp at hz0; have hz1 : w.heap.size < w1.heap.size := (by omega); try have hz2 : w.heap.size + 1 < w1.heap.size := (by omega)) | (go_at_call 28; (with_reducible show Calls Tryd.prog _ #[.string (bS p)] _ _); refine (from0 (HP.out _ (by (repeat (first | with_reducible exact Below.refl _ _ | with_reducible assumption | with_reducible refine up_alloc ?_ _ | with_reducible refine up_drew ?_ | with_reducible refine up_drewN ?_ _ | (with_reducible refine up_set ?_ ?hset _; case hset => first | (simp; done) | (simp; omega) | omega) | with_reducible refine up_trans ?_ (by with_reducible assumption))))) hb0).mono ?_; rintro e w2 ⟨rfl, hb2⟩; obtain ⟨hc2, hf2⟩ := bcell hb2; have hz2 : w.heap.size < w2.heap.size := by have := hb2.size; simp at this; omega) | (go_at_call 28; (with_reducible show Calls Tryd.prog _ #[.string (bS q)] _ _); refine (from0 (HQ.out _ (by (repeat (first | with_reducible exact Below.refl _ _ | with_reducible assumption | with_reducible refine up_alloc ?_ _ | with_reducible refine up_drew ?_ | with_reducible refine up_drewN ?_ _ | (with_reducible refine up_set ?_ ?hset _; case hset => first | (simp; done) | (simp; omega) | omega) | with_reducible refine up_trans ?_ (by with_reducible assumption))))) hb2).mono ?_; rintro e w3 ⟨rfl, hb3⟩; obtain ⟨hc3, hf3⟩ := bcell hb3; have hz3 : w.heap.size < w3.heap.size := by have := hb3.size; simp at this; omega) | (go_at_call 29; refine (HI.out _).mono ?_; rintro e w4 ⟨rfl, hb4⟩; have g2 := up_keep hb4 (cell_new2 w3 (.int .i64 (x : Int)) (.int .i64 (y : Int)) 38).1; have g3 := up_keep hb4 (cell_new2 w3 (.int .i64 (x : Int)) (.int .i64 (y : Int)) 38).2; have hb5 := up_trans (up_alloc hb3 _) hb4; obtain ⟨hc4, hf4⟩ := bcell hb5; have hz4 : w.heap.size < w4.heap.size := by have := hb5.size; simp at this; omega))
          refine bodyPost_ret (v := .tuple #[.agg #[.int .i64 (x : Int), .int .i64 (y : Int)], .bool true]) (by simp [results, Tryd.results16, go_sem, *]) rfl ?_
          rw [HD.out]
          exact ⟨rfl, by (repeat (first | with_reducible exact Below.refl _ _ | with_reducible assumption | with_reducible refine up_alloc ?_ _ | with_reducible refine up_drew ?_ | with_reducible refine up_drewN ?_ _ | (with_reducible refine up_set ?_ ?hset _; case hset => first | (simp; done) | (simp; omega) | omega) | with_reducible refine up_trans ?_ (by with_reducible assumption)))⟩
        | false =>
          rw [hs] at HI
          rw [if_neg (fun h => by rw [spotB_iff.2 ⟨⟨by omega, by omega⟩, by omega, by omega⟩] at hs; cases hs)] at hr
          have HD := Lib.hid (show spV (spP 9 l) = .tuple #[.agg #[.int .i64 0, .int .i64 0], .bool false] by rw [hr]; rfl)
          clear hr hp hq hs
          go_enter Tryd.func16, Tryd.ntmps16
          have g0 := (cell_new2 w (.int .i64 0) (.int .i64 0) 38).1
          have g1 := (cell_new2 w (.int .i64 0) (.int .i64 0) 38).2
          go_wp2_with (first | (go_at_call 27; refine (from0 (HC.out _ (by (repeat (first | with_reducible exact Below.refl _ _ | with_reducible assumption | with_reducible refine up_alloc ?_ _ | with_reducible refine up_drew ?_ | with_reducible refine up_drewN ?_ _ | (with_reducible refine up_set ?_ ?hset _; case hset => first | (simp; done) | (simp; omega) | omega) | with_reducible refine up_trans ?_ (by with_reducible assumption))))) (by first | exact hb0 | exact up_alloc hb0 _ | exact up_drew hb0 | exact up_drewN hb0 _ | exact Below.refl _ _)).mono ?_; rintro e w1 ⟨rfl, hb0⟩; obtain ⟨hc0, hf0⟩ := bcell hb0; have hz0 := hb0.size; simp at hz0; have hz1 : w.heap.size < w1.heap.size := (by omega); try have hz2 : w.heap.size + 1 < w1.heap.size := (by omega)) | (go_at_call 28; (with_reducible show Calls Tryd.prog _ #[.string (bS p)] _ _); refine (from0 (HP.out _ (by (repeat (first | with_reducible exact Below.refl _ _ | with_reducible assumption | with_reducible refine up_alloc ?_ _ | with_reducible refine up_drew ?_ | with_reducible refine up_drewN ?_ _ | (with_reducible refine up_set ?_ ?hset _; case hset => first | (simp; done) | (simp; omega) | omega) | with_reducible refine up_trans ?_ (by with_reducible assumption))))) hb0).mono ?_; rintro e w2 ⟨rfl, hb2⟩; obtain ⟨hc2, hf2⟩ := bcell hb2; have hz2 : w.heap.size < w2.heap.size := by have := hb2.size; simp at this; omega) | (go_at_call 28; (with_reducible show Calls Tryd.prog _ #[.string (bS q)] _ _); refine (from0 (HQ.out _ (by (repeat (first | with_reducible exact Below.refl _ _ | with_reducible assumption | with_reducible refine up_alloc ?_ _ | with_reducible refine up_drew ?_ | with_reducible refine up_drewN ?_ _ | (with_reducible refine up_set ?_ ?hset _; case hset => first | (simp; done) | (simp; omega) | omega) | with_reducible refine up_trans ?_ (by with_reducible assumption))))) hb2).mono ?_; rintro e w3 ⟨rfl, hb3⟩; obtain ⟨hc3, hf3⟩ := bcell hb3; have hz3 : w.heap.size < w3.heap.size := by have := hb3.size; simp at this; omega) | (go_at_call 29; refine (HI.out _).mono ?_; rintro e w4 ⟨rfl, hb4⟩; have g2 := up_keep hb4 (cell_new2 w3 (.int .i64 (x : Int)) (.int .i64 (y : Int)) 38).1; have g3 := up_keep hb4 (cell_new2 w3 (.int .i64 (x : Int)) (.int .i64 (y : Int)) 38).2; have hb5 := up_trans (up_alloc hb3 _) hb4; obtain ⟨hc4, hf4⟩ := bcell hb5; have hz4 : w.heap.size < w4.heap.size := by have := hb5.size; simp at this; omega))
          refine bodyPost_ret (v := .tuple #[.agg #[.int .i64 0, .int .i64 0], .bool false]) (by simp [results, Tryd.results16, go_sem, *]) rfl ?_
          rw [HD.out]
          exact ⟨rfl, by (repeat (first | with_reducible exact Below.refl _ _ | with_reducible assumption | with_reducible refine up_alloc ?_ _ | with_reducible refine up_drew ?_ | with_reducible refine up_drewN ?_ _ | (with_reducible refine up_set ?_ ?hset _; case hset => first | (simp; done) | (simp; omega) | omega) | with_reducible refine up_trans ?_ (by with_reducible assumption)))⟩
end Go.Proofs.YtbfhfjpfjkdcfaaDoor
