/-
  The great laws' helpers on charts: big, pSameSpots.
-/
import Derived.Test.YtljbcfgecbonnaaRows
import Derived.Test.YtljbcfgecbonnaaBase
import Derived.Test.YtljbcfgecbonnaaSpot
import Derived.Test.YtljbcfgecbonnaaSlice
import Derived.Test.YtljbcfgecbonnaaLawS
import Derived.Test.YtljbcfgecbonnaaMark
import Derived.Test.YtljbcfgecbonnaaInts
import Derived.Test.YtljbcfgecbonnaaIntsL
import Derived.Test.YtljbcfgecbonnaaTurned
import Derived.Test.YtljbcfgecbonnaaTrans
import Derived.BigQuiet
import Derived.Test.YtljbcfgecbonnaaCur
import Derived.Test.YtljbcfgecbonnaaDrawP
import Derived.Test.YtljbcfgecbonnaaCopyI
import Derived.Deep.CutRange
import Derived.Deep.DeepCutAuto
import Derived.Test.YtljbcfgecbonnaaBytes
import Derived.Test.YtljbcfgecbonnaaOpenT
import Derived.Test.YtljbcfgecbonnaaQ
namespace Go.Proofs.Ytljbcfgecbonnaa
open Go.RowKit Go.ChangeShapes Go.WideShapes Go.Sort

set_option maxHeartbeats 1000000 in
theorem pSame_g (v v' : Value) (n : Nat) (X Y : Nat → Int) (w : World) (h : Spots w v n X Y) (h' : Spots w v' n X Y) (hn : n ≤ 1048576) :
    Calls Try.prog 12 #[v, v'] w (Ans w (.bool true)) := by
  obtain ⟨A, c, rfl, hnc, hrow⟩ := h
  obtain ⟨A', c', rfl, hnc', hrow'⟩ := h'
  go_enter Try.func12, Try.ntmps12
  go_wp2_with fail
  go_loopw [13] (fun i wr => ∃ k : Nat, k ≤ n ∧ i = .int .i64 k ∧ Below w.heap.size w wr) (fun i _ => n - (intOf i).toNat)
  case atStart => exact ⟨0, by omega, rfl, Below.refl _ _⟩
  case round =>
    obtain ⟨k, hk, rfl, hb⟩ := hrel
    by_cases hlt : k < n
    · obtain ⟨b, o, rfl, hr⟩ := hrow (by omega)
      obtain ⟨b', o', rfl, hr'⟩ := hrow' (by omega)
      have c1 := cell_regrown (up_keep hb (hr k hlt).1)
      have c2 := cell_regrown (up_keep hb (hr k hlt).2)
      have c3 := cell_regrown (up_keep hb (hr' k hlt).1)
      have c4 := cell_regrown (up_keep hb (hr' k hlt).2)
      clear hr hr' hrow hrow'
      generalize X k = xk at *
      generalize Y k = yk at *
      go_wp2_with fail
      refine wp_region_up (by kernel_rfl) (by kernel_rfl) ?_
      repeat (go_big_quiet_step (fail))
      refine wpQuiet_nil ?_
      intro w1 hb0
      obtain ⟨hc0, hf0⟩ := bcell hb0
      go_wp2_with fail
      go_roundw
      case rel => exact ⟨k + 1, by omega, by go_num, up_trans hb hb0⟩
      case measure => simp [intOf]; omega
    · have e : k = n := by omega
      subst e
      go_wp2_with fail
      go_ret
      exact Ans.bool rfl hb
/-- Returned: false only where both lengths are small; the world as it was. -/
def AnsBig (w : World) (n m : Nat) (e : Ending) (w' : World) : Prop := ∃ q : Bool, e = .returned (.bool q) ∧ (q = false → n ≤ 1048576 ∧ m ≤ 1048576) ∧ w' = w
set_option maxHeartbeats 1000000 in
theorem big_g (A A' : Option Addr) (n c m c' : Nat) (w : World) (hn : n ≤ 9223372036854775807) (hm : m ≤ 9223372036854775807) :
    Calls Try.prog 8 #[.slice A n c, .slice A' m c'] w (AnsBig w n m) := by
  by_cases h1 : n > 1048576
  · have j1 : (n : Int) > 1048576 := by omega
    go_enter Try.func8, Try.ntmps8
    go_wp2_with fail
    go_ret
    exact ⟨true, rfl, (fun h => absurd h (by simp)), rfl⟩
  · have j1 : ¬ (n : Int) > 1048576 := by omega
    by_cases h2 : m > 1048576 - n
    · have j2 : (m : Int) > 1048576 - (n : Int) := by omega
      go_enter Try.func8, Try.ntmps8
      go_wp2_with fail
      go_ret
      exact ⟨true, rfl, (fun h => absurd h (by simp)), rfl⟩
    · have j2 : ¬ (m : Int) > 1048576 - (n : Int) := by omega
      go_enter Try.func8, Try.ntmps8
      go_wp2_with fail
      go_ret
      exact ⟨false, rfl, (fun _ => ⟨by omega, by omega⟩), rfl⟩
end Go.Proofs.Ytljbcfgecbonnaa
