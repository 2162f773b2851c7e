/-
  The program sorts performers: comparison, insertion.
-/
import Derived.Test.YtbfhfjpfjkdcfaaRows
import Derived.Test.YtbfhfjpfjkdcfaaBase
import Derived.Test.YtbfhfjpfjkdcfaaSpot
import Derived.Test.YtbfhfjpfjkdcfaaSlice
import Derived.Test.YtbfhfjpfjkdcfaaChart
import Derived.Test.YtbfhfjpfjkdcfaaLawS
import Derived.Test.YtbfhfjpfjkdcfaaMark
import Derived.Test.YtbfhfjpfjkdcfaaInts
import Derived.Test.YtbfhfjpfjkdcfaaIntsL
import Derived.Test.YtbfhfjpfjkdcfaaCopyI
import Derived.Test.YtbfhfjpfjkdcfaaAddI
import Derived.Test.YtbfhfjpfjkdcfaaOrdP
import Derived.Lib.Strings
import Derived.Lib.Slices
import Derived.Lib.Small
import Derived.Lib.Walk
import Derived.Lib.BitFns
import Derived.Test.YtbfhfjpfjkdcfaaPiece
import Derived.BigQuiet
import Derived.RegionTactic
import Derived.ChangeAlike
import Derived.Deep.QuietTactic
import Derived.Deep.CutRange
import Derived.Deep.DeepCutAuto
namespace Go.Proofs.Ytbfhfjpfjkdcfaa
open Go.RowKit Go.ChangeShapes Go.WideShapes Go.Sort

set_option maxHeartbeats 4000000 in
set_option maxRecDepth 100000 in
theorem len64_any (x : Int) (w : World) (h0 : 0 ≤ x) (h1 : x ≤ 12) : Calls Try.prog 37 #[.int .u64 x] w fun e w' => (∃ z : Int, e = .returned (.int .i64 z)) ∧ w = w' := by
  go_enter Try.func37, Try.ntmps37
  go_wp2
  all_goals (go_ret; exact ⟨⟨_, rfl⟩, rfl⟩)
set_option maxHeartbeats 1000000 in
theorem len_any (x : Int) (w : World) (h0 : 0 ≤ x) (h1 : x ≤ 12) : Calls Try.prog 26 #[.int .u64 x] w fun e w' => (∃ z : Int, e = .returned (.int .i64 z)) ∧ w = w' := by
  go_enter Try.func26, Try.ntmps26
  go_wp2_with (go_at_call 37; refine (len64_any x _ h0 h1).mono ?_; rintro e w1 ⟨⟨z, rfl⟩, rfl⟩)
  go_ret
  exact ⟨⟨_, rfl⟩, rfl⟩
/-- How two performers compare. -/
def cmpV (X Y : Nat → Int) (i k : Nat) : Int := if X i = X k then Y i - Y k else X i - X k
theorem cmp_aft (X Y : Nat → Int) (i k : Nat) : (cmpV X Y i k < 0) ↔ aft X Y k i = true := by
  unfold cmpV aft
  rw [Bool.or_eq_true, Bool.and_eq_true, decide_eq_true_iff, decide_eq_true_iff, decide_eq_true_iff]
  split <;> omega
set_option maxRecDepth 100000 in
set_option maxHeartbeats 2000000 in
theorem cmp_any (bl b o n c : Nat) (X Y : Nat → Int) (i k : Nat) (w : World) (hl : w.cell? ⟨bl, 0, none⟩ = some (.slice (some ⟨b, o, none⟩) n c)) (hr : Row2 w b o n X Y) (hi : i < n) (hk : k < n)
    (hb : ∀ j, j < n → (0 ≤ X j ∧ X j ≤ 1280) ∧ 0 ≤ Y j ∧ Y j ≤ 672) :
    Calls Try.prog 18 #[.int .i64 (i : Int), .int .i64 (k : Int), .pointer (some ⟨bl, 0, none⟩)] w (Ans w (.int .i64 (cmpV X Y i k))) := by
  have l0 := cell_regrown hl
  have x0 := cell_regrown (hr i hi).1
  have x1 := cell_regrown (hr i hi).2
  have y0 := cell_regrown (hr k hk).1
  have y1 := cell_regrown (hr k hk).2
  have ji : (i : Int) < (n : Int) := by omega
  have jk : (k : Int) < (n : Int) := by omega
  obtain ⟨⟨a1, a2⟩, a3, a4⟩ := hb i hi
  obtain ⟨⟨b1, b2⟩, b3, b4⟩ := hb k hk
  have H := Lib.hid (show cmpV X Y i k = if X i = X k then Y i - Y k else X i - X k from rfl)
  have HL := Lib.hid hl
  have HX := Lib.hid (hr i hi)
  have HY := Lib.hid (hr k hk)
  clear hb hr hl
  generalize X i = xi at *
  generalize Y i = yi at *
  generalize X k = xk at *
  generalize Y k = yk at *
  have z1 : IntKind.i64.wrap (xi - xk) = xi - xk := IntWalk.i64_in _ (by omega)
  have z2 : IntKind.i64.wrap (yi - yk) = yi - yk := IntWalk.i64_in _ (by omega)
  by_cases he : xi = xk
  · have hne : (xi != xk) = false := by simp [he]
    rw [if_pos he] at H
    clear he
    go_enter Try.func18, Try.ntmps18
    go_upto_region 1 with fail
    refine wp_region_up (by kernel_rfl) (by kernel_rfl) ?_
    repeat (go_big_quiet_step (fail))
    refine wpQuiet_nil ?_
    intro w1 hb0
    obtain ⟨hc0, hf0⟩ := bcell hb0
    obtain ⟨w5, rfl⟩ : ∃ W : World, W = w1 := ⟨_, rfl⟩
    clear l0 x0 x1 y0 y1 hc0 hf0
    have l0 := cell_regrown (up_keep hb0 HL.out)
    have x1 := cell_regrown (up_keep hb0 HX.out.2)
    have y1 := cell_regrown (up_keep hb0 HY.out.2)
    have hb5 := hb0
    clear hb0
    go_upto_region 3 with fail
    refine wp_region_up (by kernel_rfl) (by kernel_rfl) ?_
    repeat (go_big_quiet_step (fail))
    refine wpQuiet_nil ?_
    intro w1 hb0
    obtain ⟨hc0, hf0⟩ := bcell hb0
    go_wp2_with fail
    go_ret
    exact ⟨by rw [H.out]; rfl, up_trans hb5 hb0⟩
  · have hne : (xi != xk) = true := by simp [he]
    rw [if_neg he] at H
    clear he
    go_enter Try.func18, Try.ntmps18
    go_upto_region 1 with fail
    refine wp_region_up (by kernel_rfl) (by kernel_rfl) ?_
    repeat (go_big_quiet_step (fail))
    refine wpQuiet_nil ?_
    intro w1 hb0
    obtain ⟨hc0, hf0⟩ := bcell hb0
    obtain ⟨w5, rfl⟩ : ∃ W : World, W = w1 := ⟨_, rfl⟩
    clear l0 x0 x1 y0 y1 hc0 hf0
    have l0 := cell_regrown (up_keep hb0 HL.out)
    have x0 := cell_regrown (up_keep hb0 HX.out.1)
    have y0 := cell_regrown (up_keep hb0 HY.out.1)
    have hb5 := hb0
    clear hb0
    go_upto_region 2 with fail
    refine wp_region_up (by kernel_rfl) (by kernel_rfl) ?_
    repeat (go_big_quiet_step (fail))
    refine wpQuiet_nil ?_
    intro w1 hb0
    obtain ⟨hc0, hf0⟩ := bcell hb0
    go_wp2_with fail
    go_ret
    exact ⟨by rw [H.out]; rfl, up_trans hb5 hb0⟩
end Go.Proofs.Ytbfhfjpfjkdcfaa
