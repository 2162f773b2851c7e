/-
  The reference's decimal numbers.
-/
import Derived.Test.YtbfhfjpfjkdcfaaDoorRows
import Derived.Test.YtbfhfjpfjkdcfaaDoorBase
import Derived.Test.YtbfhfjpfjkdcfaaDoorSpot
import Derived.Test.YtbfhfjpfjkdcfaaDoorTxtP
import Derived.Maps.AppendAt
import Derived.Deep.CutRange
import Derived.Deep.DeepCutAuto
import Derived.Deep.RegionHeld3
import Derived.Deep.RegionWith
namespace Go.Proofs.YtbfhfjpfjkdcfaaDoor
open Go.RowKit Go.ChangeShapes Go.WideShapes Go.Sort

/-- A digit. -/
def dB (k : Nat) : UInt8 := UInt8.ofNat (48 + k)
theorem l1_byte (W : World) (g c : Nat) (hc : 48 + c < 256) (h : W.cell? ⟨g, 0, none⟩ = some (.int .u8 ((48 + c : Nat) : Int))) : (convert 58 9 (.slice (some ⟨g, 0, none⟩) 1 1)).run Tryd.prog W = .ok (.string (bS [dB c])) W :=
  byte_str Tryd.underlying58 (by kernel_rfl) Tryd.underlying9 W g (48 + c) hc h
set_option maxRecDepth 100000 in
set_option maxHeartbeats 2000000 in
theorem l1Num_one (n : Nat) (hn : n < 10) (w : World) : Calls Tryd.prog 52 #[.int .i64 (n : Int)] w (Ans w (.string (bS (Lib.decDigits n)))) := by
  have HD := Lib.hid (show Lib.decDigits n = [dB n] from Lib.decDigits_one hn)
  have hw : IntKind.u8.wrap (48 + (n : Int)) = ((48 + n : Nat) : Int) := by rw [show (48 + (n : Int)) = ((48 + n : Nat) : Int) by omega]; exact IntWalk.u8_in _ (by omega)
  have hcv := l1_byte (w.alloc (.cells #[.int .u8 ((48 + n : Nat) : Int)] 5)) w.heap.size n (by omega) (cell_one_new w (.int .u8 ((48 + n : Nat) : Int)) _ 0 _ rfl)
  rw [show ((48 + n : Nat) : Int) = 48 + (n : Int) by omega] at hcv
  have jn : (n : Int) < 10 := by omega
  go_enter Tryd.func52, Tryd.ntmps52
  go_wp2
  go_ret
  rw [HD.out]
  exact ⟨rfl, below_alloc _ _⟩
set_option maxRecDepth 100000 in
set_option maxHeartbeats 4000000 in
theorem l1Num_s (n : Nat) : n ≤ 999 → ∀ w : World, Calls Tryd.prog 52 #[.int .i64 (n : Int)] w (Ans w (.string (bS (Lib.decDigits n)))) := by
  induction n using Nat.strongRecOn with
  | ind n ih =>
    intro hn w
    by_cases h1 : n < 10
    · exact l1Num_one n h1 w
    · have hst := dec_step h1
      have IH := ih (n / 10) (by omega) (by omega)
      have hl := dec_len (n := n / 10) (by omega)
      have hq : (n : Int).tdiv 10 = ((n / 10 : Nat) : Int) := by rw [Int.tdiv_eq_ediv_of_nonneg (by omega)]; rfl
      have hm : (n : Int).tmod 10 = ((n % 10 : Nat) : Int) := by rw [Int.tmod_eq_emod_of_nonneg (by omega)]; rfl
      have hq1 : n / 10 ≤ 99 := by omega
      have hm1 : n % 10 < 10 := by omega
      have jn : ¬ (n : Int) < 10 := by omega
      change Lib.decDigits n = Lib.decDigits (n / 10) ++ [dB (n % 10)] at hst
      generalize n / 10 = q at hst IH hl hq hq1
      generalize n % 10 = r at hst hm hm1
      replace IH := Lib.hid IH
      have HD := Lib.hid (show bS (Lib.decDigits n) = bS (Lib.decDigits q ++ [dB r]) from congrArg bS hst)
      have hcc : ∀ V : World, (convert 58 9 (.slice (some ⟨V.heap.size, 0, none⟩) 1 1)).run Tryd.prog (V.alloc (.cells #[.int .u8 (48 + (r : Int))] 5)) = .ok (.string (bS [dB r])) (V.alloc (.cells #[.int .u8 (48 + (r : Int))] 5)) := fun V => l1_byte _ V.heap.size r (by omega) (by rw [show ((48 + r : Nat) : Int) = 48 + (r : Int) by omega]; exact cell_one_new V _ _ 0 _ rfl)
      have had := add_bS (P := Tryd.prog) (Lib.decDigits q) [dB r] (by simp; omega)
      have hu : IntKind.u8.wrap (48 + (r : Int)) = 48 + (r : Int) := IntWalk.u8_in _ (by omega)
      have hs : IntKind.i64.wrap (48 + (r : Int)) = 48 + (r : Int) := IntWalk.i64_in _ (by omega)
      have hqw : IntKind.i64.wrap (q : Int) = (q : Int) := IntWalk.i64_in _ (by omega)
      have hrw : IntKind.i64.wrap (r : Int) = (r : Int) := IntWalk.i64_in _ (by omega)
      have HY := Lib.hid (show ∀ W : World, W.cell? ⟨w.heap.size, 0, none⟩ = some (.int .u8 (48 + (r : Int))) → (convert 58 9 (.slice (some ⟨w.heap.size, 0, none⟩) 1 1)).run Tryd.prog W = .ok (.string (bS [dB r])) W from fun W hW => l1_byte W w.heap.size r (by omega) (by rw [show ((48 + r : Nat) : Int) = 48 + (r : Int) by omega]; exact hW))
      have hcd : ∀ V : World, (convert 58 9 (.slice (some ⟨V.heap.size, 0, none⟩) 1 1)).run Tryd.prog (V.alloc (.cells #[.int .u8 (48 + (r : Int))] 5)).drew = .ok (.string (bS [dB r])) (V.alloc (.cells #[.int .u8 (48 + (r : Int))] 5)).drew := fun V => l1_byte _ V.heap.size r (by omega) (by rw [show ((48 + r : Nat) : Int) = 48 + (r : Int) by omega]; exact cell_one_new V _ _ 0 _ rfl)
      clear hn hl ih hst hq1 hm1
      go_enter Tryd.func52, Tryd.ntmps52
      go_wp2_with fail
      go_region_with (first
        | (go_at_call 52; (refine (IH.out _).mono ?_); rintro e w6 ⟨rfl, hb6⟩; have y1 : (convert 58 9 (.slice (some ⟨w.heap.size, 0, none⟩) 1 1)).run Tryd.prog w6 = .ok (.string (bS [dB r])) w6 := HY.out w6 (up_keep hb6 (cell_one_new w (.int .u8 (48 + (r : Int))) 5 0 _ rfl)))
        | (go_at_call 52; (refine (IH.out _).mono ?_); rintro e w6 ⟨rfl, hb6⟩)
        )
      all_goals
        go_wp2_with fail
        go_ret
        rw [HD.out]
        exact ⟨rfl, by (repeat (first | with_reducible exact Below.refl _ _ | with_reducible assumption | with_reducible refine up_alloc ?_ _ | with_reducible refine up_drew ?_ | with_reducible refine up_drewN ?_ _ | (with_reducible refine up_set ?_ ?hset _; case hset => first | (simp; done) | (simp; omega) | omega) | with_reducible refine up_trans ?_ (by with_reducible assumption)))⟩
end Go.Proofs.YtbfhfjpfjkdcfaaDoor
