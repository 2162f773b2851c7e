/-
  The reference reads a spot.
-/
import Derived.Test.YtbfhfjpfjkdcfaaDoorRows
import Derived.Test.YtbfhfjpfjkdcfaaDoorBase
import Derived.Test.YtbfhfjpfjkdcfaaDoorSpot
import Derived.Test.YtbfhfjpfjkdcfaaDoorSlice
import Derived.Test.YtbfhfjpfjkdcfaaDoorTxtP
import Derived.Test.YtbfhfjpfjkdcfaaDoorTxtM
import Derived.Test.YtbfhfjpfjkdcfaaDoorPrsP
import Derived.Test.YtbfhfjpfjkdcfaaDoorPrsN
import Derived.Test.YtbfhfjpfjkdcfaaDoorPrsS
import Derived.Test.YtbfhfjpfjkdcfaaDoorPrsR
import Derived.Test.YtbfhfjpfjkdcfaaDoorPrsI
import Derived.Deep.RegionHeld3
namespace Go.Proofs.YtbfhfjpfjkdcfaaDoor
open Go.RowKit Go.ChangeShapes Go.WideShapes Go.Sort Go.Proofs

def spW (o : Option (Nat × Nat)) : Value := match o with
  | some (x, y) => .tuple #[.agg #[.int .i64 (x : Int), .int .i64 (y : Int)], .bool true]
  | none => .tuple #[.agg #[.int .i64 0, .int .i64 0], .bool false]
/-- What a list that is no pair of pieces reads as. -/
theorem spP_len {m : Nat} {l : List UInt8} (h : (splitL 44 l).length ≠ 2) : spP m l = none := by
  unfold spP
  cases hc : cut1 44 l with
  | none => rfl
  | some z =>
    obtain ⟨p, q⟩ := z
    obtain ⟨rfl, h2⟩ := cut1_some.1 hc
    rw [splitL_hit h2] at h
    have hq : 44 ∈ q := by
      by_cases hq : 44 ∈ q
      · exact hq
      · rw [splitL_miss hq] at h; exact absurd rfl h
    have : rdL m q = none := by
      cases hr : rdL m q with
      | none => rfl
      | some n =>
        rw [(rdL_stp hr).1] at hq
        exact absurd hq (stp_ne (by decide) (by decide))
    simp only
    rw [this]
    cases rdL m p <;> rfl
theorem split_two {b : UInt8} {l : List UInt8} (h : (splitL b l).length = 2) : ∃ p q, splitL b l = [p, q] ∧ cut1 b l = some (p, q) ∧ l = p ++ b :: q := by
  cases hc : cut1 b l with
  | none => rw [splitL_miss (cut1_none.1 hc)] at h; simp at h
  | some z =>
    obtain ⟨p, q⟩ := z
    obtain ⟨hl, h2⟩ := cut1_some.1 hc
    have hs : splitL b l = p :: splitL b q := by rw [hl, splitL_hit h2]
    rw [hs] at h
    have hq : b ∉ q := fun hq => by
      have := split_len hq
      simp at h; omega
    exact ⟨p, q, by rw [hs, splitL_miss hq], rfl, hl⟩
end Go.Proofs.YtbfhfjpfjkdcfaaDoor
