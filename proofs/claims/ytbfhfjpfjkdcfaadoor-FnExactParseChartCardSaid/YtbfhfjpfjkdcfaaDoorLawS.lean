/-
  What the laws' own helpers on slices of spots hand back: copies, comparisons, sizes, marks.
-/
import Derived.Test.YtbfhfjpfjkdcfaaDoorRows
import Derived.Test.YtbfhfjpfjkdcfaaDoorBase
import Derived.Test.YtbfhfjpfjkdcfaaDoorSpot
import Derived.Test.YtbfhfjpfjkdcfaaDoorSlice
import Derived.Deep.RegionHeld3
namespace Go.Proofs.YtbfhfjpfjkdcfaaDoor
open Go.RowKit

/-- What is left of a size. -/
def szV (left : Int) (n : Nat) : Int := if (n : Int) ≤ left then left - n else -1
set_option maxHeartbeats 400000 in
theorem szSpotS_any (v : Value) (n : Nat) (X Y : Nat → Int) (left : Int) (h0 : 0 ≤ left) (h1 : left ≤ 1048576) (hn : n ≤ 9223372036854775807) (w : World) (h : Spots w v n X Y) :
    Calls Tryd.prog 10 #[v, .int .i64 left] w (Ans w (.int .i64 (szV left n))) := by
  have H := Lib.hid (show szV left n = if (n : Int) ≤ left then left - n else -1 from rfl)
  obtain ⟨A, c, rfl, hnc, hrow⟩ := h
  clear hrow
  go_enter Tryd.func10, Tryd.ntmps10
  go_wp2
  all_goals
    go_ret
    exact Ans.int (by rw [H.out]; split <;> omega) (Below.refl _ _)
set_option maxHeartbeats 400000 in
theorem eqSpot_any (x y u v : Int) (w : World) :
    Calls Tryd.prog 18 #[.agg #[.int .i64 x, .int .i64 y], .agg #[.int .i64 u, .int .i64 v]] w (Ans w (.bool (x == u && y == v))) := by
  go_enter Tryd.func18, Tryd.ntmps18
  go_wp2
  all_goals
    go_ret
    exact Ans.bool (by simp_all) (by (repeat (first | with_reducible exact Below.refl _ _ | with_reducible assumption | with_reducible refine up_alloc ?_ _ | with_reducible refine up_drew ?_ | with_reducible refine up_drewN ?_ _ | (with_reducible refine up_set ?_ ?hset _; case hset => first | (simp; done) | (simp; omega) | omega) | with_reducible refine up_trans ?_ (by with_reducible assumption))))
theorem info_spot : (Tryd.prog.info? 38).map (fun i => (i.zero, i.size, i.bytes)) = some (some (.agg #[.int .i64 0, .int .i64 0]), 2, 16) := by kernel_rfl
set_option maxHeartbeats 1000000 in
theorem toSpotS_any (v : Value) (n : Nat) (X Y : Nat → Int) (hn : n ≤ 1048576) (w : World) (h : Spots w v n X Y) :
    Calls Tryd.prog 12 #[v] w (AnsS w n X Y) := by
  obtain ⟨A, c, rfl, hnc, hrow⟩ := h
  obtain ⟨i0, hi0, hz0, hz1, hz2⟩ := info_parts info_spot
  have hmk : ∀ W : World, (Instr.makeSlice 22 (.int .i64 (n : Int)) (.int .i64 (n : Int))).run Tryd.prog W = .ok (.slice (some ⟨W.heap.size, 0, none⟩) n n) (W.alloc (.cells (madeCells #[.int .i64 0, .int .i64 0] (n * 2)) 38)) := fun W => by
    have := run_make_rowN (P := Tryd.prog) 22 38 i0 _ Tryd.underlying22 hi0 hz0 .i64 .i64 n n (Nat.le_refl _) (by rw [hz2]; omega) (by omega) W
    rw [this, hz1]; rfl
  clear hi0 hz0 hz1 hz2 i0
  go_enter Tryd.func12, Tryd.ntmps12
  go_wp2
  go_loopw [4] (fun i wr => ∃ k : Nat, k ≤ n ∧ i = .int .i64 k ∧ Below w.heap.size w wr ∧ w.heap.size < wr.heap.size ∧ Free wr w.heap.size ∧ ∃ X' Y', Row2 wr w.heap.size 0 n X' Y' ∧ (∀ i, i < k → X' i = X i) ∧ (∀ i, i < k → Y' i = Y i)) (fun i _ => n - (intOf i).toNat)
  case atStart => exact ⟨0, by omega, rfl, below_alloc _ _, by simp, free_made _ _ _, _, _, row2_made _ _ _, fun i hi => by omega, fun i hi => by omega⟩
  case round =>
    obtain ⟨k, hk, rfl, hb, hs, hf, X', Y', hr, hx, hy⟩ := hrel
    by_cases hlt : k < n
    · obtain ⟨b, o, rfl, hr0⟩ := hrow (by omega)
      have c1 := up_keep hb (hr0 k hlt).1
      have c2 := up_keep hb (hr0 k hlt).2
      obtain ⟨d1, d2⟩ := hr.at0 hlt
      have f1 := hf (k * 2)
      have f2 := hf (k * 2 + 1)
      have HR := Lib.hid hr
      have HX := Lib.hid hx
      have HY := Lib.hid hy
      have HF := Lib.hid hf
      clear hr hx hy hrow hr0 hf
      go_wp2_with ((go_at_call 21; refine (from0 (toSpot_any _ _ _) (by first | exact hb0 | exact up_alloc hb0 _ | exact up_drew hb0 | exact up_drewN hb0 _ | exact Below.refl _ _)).mono ?_; rintro e w1 ⟨rfl, hb0⟩; obtain ⟨hc0, hf0⟩ := bcell hb0))
      go_roundw
      case rel =>
        refine ⟨k + 1, by omega, by go_num, by (repeat (first | with_reducible exact Below.refl _ _ | with_reducible assumption | with_reducible refine up_alloc ?_ _ | with_reducible refine up_drew ?_ | with_reducible refine up_drewN ?_ _ | (with_reducible refine up_set ?_ ?hset _; case hset => first | (simp; done) | (simp; omega) | omega) | with_reducible refine up_trans ?_ (by with_reducible assumption))), by rw [size_set, size_set]; have := hb0.size; omega, ((HF.out.up hs hb0).set _ _).set _ _, _, _, (HR.out.up hb0).put0 hlt _ _, fun i hi => ?_, fun i hi => ?_⟩
        · split
          · rename_i e; rw [e]
          · exact HX.out i (by omega)
        · split
          · rename_i e; rw [e]
          · exact HY.out i (by omega)
      case measure => simp [intOf]; omega
    · have e : k = n := by omega
      subst e
      go_wp2
      go_ret
      exact ⟨_, rfl, ⟨_, _, rfl, by omega, fun _ => ⟨_, _, rfl, by omega, hf, hr.cong hx hy⟩⟩, hb⟩
def eqS (n m : Nat) (X Y X' Y' : Nat → Int) : Bool := (n == m) && allB (fun i => X i == X' i && Y i == Y' i) n
theorem eqS_refl (n : Nat) (X Y : Nat → Int) : eqS n n X Y X Y = true := by simp [eqS, allB_iff]
set_option maxHeartbeats 1000000 in
theorem eqSpotS_any (v v' : Value) (n m : Nat) (X Y X' Y' : Nat → Int) (hn : n ≤ 1048576) (hm : m ≤ 9223372036854775807) (w : World) (h : Spots w v n X Y) (h' : Spots w v' m X' Y') :
    Calls Tryd.prog 7 #[v, v'] w (Ans w (.bool (eqS n m X Y X' Y'))) := by
  obtain ⟨A, c, rfl, hnc, hrow⟩ := h
  obtain ⟨A', c', rfl, hnc', hrow'⟩ := h'
  by_cases hnm : n = m
  · subst hnm
    have HE := Lib.hid (show eqS n n X Y X' Y' = allB (fun i => X i == X' i && Y i == Y' i) n by simp [eqS])
    go_enter Tryd.func7, Tryd.ntmps7
    go_wp2_with fail
    go_loopw [5] (fun i wr => ∃ k : Nat, k ≤ n ∧ i = .int .i64 k ∧ Below w.heap.size w wr ∧ allB (fun i => X i == X' i && Y i == Y' i) k = true) (fun i _ => n - (intOf i).toNat)
    case atStart => exact ⟨0, by omega, rfl, Below.refl _ _, rfl⟩
    case round =>
      obtain ⟨k, hk, rfl, hb, ha⟩ := hrel
      have HA := Lib.hid ha
      clear ha
      by_cases hlt : k < n
      · obtain ⟨b, o, rfl, hr⟩ := hrow (by omega)
        obtain ⟨b', o', rfl, hr'⟩ := hrow' (by omega)
        have HC := Lib.hid (eqSpot_any (X k) (Y k) (X' k) (Y' k))
        have c1 := cell_regrown (up_keep hb (hr k hlt).1)
        have c2 := cell_regrown (up_keep hb (hr k hlt).2)
        have c3 := cell_regrown (up_keep hb (hr' k hlt).1)
        have c4 := cell_regrown (up_keep hb (hr' k hlt).2)
        clear hr hr' hrow hrow'
        cases hq : (X k == X' k && Y k == Y' k) with
        | true =>
          rw [hq] at HC
          have HQ := Lib.hid hq
          clear hq
          go_wp2_with fail
          refine wp_region_up (by kernel_rfl) (by kernel_rfl) ?_
          repeat (go_big_quiet_step (exact up_of (fun W _ => HC.out W) _ _))
          refine wpQuiet_nil ?_
          intro w1 hb0
          obtain ⟨hc0, hf0⟩ := bcell hb0
          go_wp2_with fail
          go_roundw
          case rel => exact ⟨k + 1, by omega, by go_num, up_trans hb hb0, allB_succ HA.out HQ.out⟩
          case measure => simp [intOf]; omega
        | false =>
          rw [hq] at HC
          have HQ := Lib.hid hq
          clear hq
          go_wp2_with fail
          refine wp_region_up (by kernel_rfl) (by kernel_rfl) ?_
          repeat (go_big_quiet_step (exact up_of (fun W _ => HC.out W) _ _))
          refine wpQuiet_nil ?_
          intro w1 hb0
          obtain ⟨hc0, hf0⟩ := bcell hb0
          go_wp2_with fail
          go_ret
          exact Ans.bool (by rw [HE.out, allB_no hlt HQ.out]) (up_trans hb hb0)
      · have e : k = n := by omega
        subst e
        go_wp2_with fail
        go_ret
        exact Ans.bool (by rw [HE.out, HA.out]) hb
  · have HE := Lib.hid (show eqS n m X Y X' Y' = false by simp [eqS, hnm])
    have h1 : ((n : Int) != m) = true := by simp; omega
    go_enter Tryd.func7, Tryd.ntmps7
    go_wp2_with fail
    go_ret
    exact Ans.bool (by rw [HE.out]) (Below.refl _ _)
theorem eqSpotS_same (v v' : Value) (n : Nat) (X Y : Nat → Int) (hn : n ≤ 1048576) (w : World) (h : Spots w v n X Y) (h' : Spots w v' n X Y) :
    Calls Tryd.prog 7 #[v, v'] w (Ans w (.bool true)) := by
  have := eqSpotS_any v v' n n X Y X Y hn (by omega) w h h'
  rwa [eqS_refl] at this
theorem toSpotS_g (v : Value) (n : Nat) (X Y : Nat → Int) (w : World) (h : Spots w v n X Y) (hn : n ≤ 1048576) : Calls Tryd.prog 12 #[v] w (AnsS w n X Y) := toSpotS_any v n X Y hn w h
theorem eqSpotS_g (v v' : Value) (n : Nat) (X Y : Nat → Int) (w : World) (h : Spots w v n X Y) (h' : Spots w v' n X Y) (hn : n ≤ 1048576) : Calls Tryd.prog 7 #[v, v'] w (Ans w (.bool true)) := eqSpotS_same v v' n X Y hn w h h'
theorem szV_pos {left : Int} {n : Nat} (h : (n : Int) ≤ left) : szV left n = left - n := if_pos h
theorem szV_neg {left : Int} {n : Nat} (h : ¬ (n : Int) ≤ left) : szV left n = -1 := if_neg h
theorem szSpotS_g (v : Value) (n : Nat) (X Y : Nat → Int) (left : Int) (w : World) (h : Spots w v n X Y) (h0 : 0 ≤ left) (h1 : left ≤ 1048576) (hn : n ≤ 9223372036854775807) :
    Calls Tryd.prog 10 #[v, .int .i64 left] w (Ans w (.int .i64 (szV left n))) := szSpotS_any v n X Y left h0 h1 hn w h
end Go.Proofs.YtbfhfjpfjkdcfaaDoor
