/-
  What is a chart: both sides' answers.
-/
import Derived.Test.YtljdhicmcmppgaaRows
import Derived.Test.YtljdhicmcmppgaaBase
import Derived.Test.YtljdhicmcmppgaaSpot
import Derived.Test.YtljdhicmcmppgaaSlice
namespace Go.Proofs.Ytljdhicmcmppgaa
open Go.RowKit Go.Sort

/-- Two spots are equal. -/
def same (x y u v : Int) : Bool := x == u && y == v
theorem eql_spot (x y u v : Int) (w : World) : (binOp .eql 24 (.agg #[.int .i64 x, .int .i64 y]) (.agg #[.int .i64 u, .int .i64 v])).run Try.prog w = .ok (.bool (same x y u v)) w := by
  have u3 := Try.underlying3
  have a3 := Try.isAgg3
  have z3 := Try.sizeOf3
  have hS : Try.prog.underlying 24 = some (.struct (Try.prog.fieldsOf 24)) := by kernel_rfl
  have hp : Try.prog.stoodInHeld 24 = false := by kernel_rfl
  unfold same
  rw [run_eql_struct, show (10000 : Nat) = 9999 + 1 from rfl, run_equalIn_agg w 9999 24 _ _ hS hp]
  simp only [Program.fieldsOf, Try.underlying24]
  go_simp
  by_cases h1 : x = u <;> by_cases h2 : y = v <;> simp [h1, h2]
/-- n spots are a chart. -/
def okB (X Y : Nat → Int) (i : Nat) : Bool := spotB (X i) (Y i) && !hasB (fun j => same (X i) (Y i) (X j) (Y j)) i
def chartB (n : Nat) (X Y : Nat → Int) : Bool := inB n 1 12 && allB (okB X Y) n
theorem chartB_iff {n : Nat} {X Y : Nat → Int} : chartB n X Y = true ↔ (1 ≤ n ∧ n ≤ 12) ∧ (∀ i, i < n → spotB (X i) (Y i) = true) ∧ ∀ i j, i < n → j < i → ¬ (X i = X j ∧ Y i = Y j) := by
  unfold chartB
  rw [Bool.and_eq_true, inB_iff, allB_iff]
  constructor
  · rintro ⟨⟨h1, h2⟩, h⟩
    refine ⟨⟨by omega, by omega⟩, fun i hi => ?_, fun i j hi hj hc => ?_⟩
    · have := h i hi; unfold okB at this; rw [Bool.and_eq_true] at this; exact this.1
    · have := h i hi
      unfold okB at this
      rw [Bool.and_eq_true, Bool.not_eq_true'] at this
      have h3 : hasB (fun j => same (X i) (Y i) (X j) (Y j)) i = true := hasB_iff.2 ⟨j, hj, by unfold same; simp [hc.1, hc.2]⟩
      rw [this.2] at h3; cases h3
  · rintro ⟨⟨h1, h2⟩, hs, hd⟩
    refine ⟨⟨by omega, by omega⟩, fun i hi => ?_⟩
    unfold okB
    rw [Bool.and_eq_true, Bool.not_eq_true']
    refine ⟨hs i hi, ?_⟩
    cases hh : hasB (fun j => same (X i) (Y i) (X j) (Y j)) i with
    | false => rfl
    | true =>
      obtain ⟨j, hj, hp⟩ := hasB_iff.1 hh
      unfold same at hp
      simp only [Bool.and_eq_true, beq_iff_eq] at hp
      exact absurd hp (hd i j hi hj)
theorem chartB_cong {n : Nat} {X Y X' Y' : Nat → Int} (hx : ∀ i, i < n → X i = X' i) (hy : ∀ i, i < n → Y i = Y' i) : chartB n X Y = chartB n X' Y' := by
  cases h : chartB n X' Y' with
  | true =>
    rw [chartB_iff] at h ⊢
    exact ⟨h.1, fun i hi => by rw [hx i hi, hy i hi]; exact h.2.1 i hi, fun i j hi hj => by rw [hx i hi, hy i hi, hx j (by omega), hy j (by omega)]; exact h.2.2 i j hi hj⟩
  | false =>
    cases h' : chartB n X Y with
    | false => rfl
    | true =>
      exfalso
      have : chartB n X' Y' = true := by
        rw [chartB_iff] at h' ⊢
        exact ⟨h'.1, fun i hi => by rw [← hx i hi, ← hy i hi]; exact h'.2.1 i hi, fun i j hi hj => by rw [← hx i hi, ← hy i hi, ← hx j (by omega), ← hy j (by omega)]; exact h'.2.2 i j hi hj⟩
      rw [h] at this; cases this
end Go.Proofs.Ytljdhicmcmppgaa
