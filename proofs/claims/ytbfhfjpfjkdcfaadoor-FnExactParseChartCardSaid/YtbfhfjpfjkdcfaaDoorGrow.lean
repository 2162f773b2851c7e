/-
  General words on memory that grows.
-/
import Derived.Test.YtbfhfjpfjkdcfaaDoorRows
import Derived.Test.YtbfhfjpfjkdcfaaDoorBase
import Derived.Test.YtbfhfjpfjkdcfaaDoorSlice
import Derived.Maps.AppendAt
import Derived.Deep.AppendLies
namespace Go.Proofs.YtbfhfjpfjkdcfaaDoor
open Go.RowKit

set_option maxRecDepth 100000 in
theorem below_grown {base : Nat} {w w' : World} {row : Option Nat} (hg : w.grownBy w' row) (hb : base ≤ w.heap.size) (hr : ∀ k, row = some k → base ≤ k) : Below base w w' := (Below.refl base w).grown hg hb hr
/-- Two lists, one behind the other. -/
def cat (n : Nat) (X X' : Nat → Int) (i : Nat) : Int := if i < n then X i else X' (i - n)
set_option maxRecDepth 100000 in
theorem block_of_add (a : Addr) (n : Nat) : (a.add n).block = a.block := by unfold Addr.add; split <;> rfl
set_option maxRecDepth 100000 in
theorem cell_new4 (w : World) (a b c d : Value) (t : TypeId) : ∀ j u, [a, b, c, d][j]? = some u → (w.alloc (.cells #[a, b, c, d] t)).cell? ⟨w.heap.size, j, none⟩ = some u := by
  intro j u hu
  match j, hu with
  | 0, hu => simp only [List.getElem?_cons_zero, Option.some.injEq] at hu; subst hu; simp [go_sem]
  | 1, hu => simp only [List.getElem?_cons_succ, List.getElem?_cons_zero, Option.some.injEq] at hu; subst hu; simp [go_sem]
  | 2, hu => simp only [List.getElem?_cons_succ, List.getElem?_cons_zero, Option.some.injEq] at hu; subst hu; simp [go_sem]
  | 3, hu => simp only [List.getElem?_cons_succ, List.getElem?_cons_zero, Option.some.injEq] at hu; subst hu; simp [go_sem]
  | (n + 4), hu => simp at hu
theorem far_keep {W wa w9 : World} {row : Option Nat} (hb : Below W.heap.size W wa) (hg : wa.grownBy w9 row) {b o : Nat} {v : Value} (h : W.cell? ⟨b, o, none⟩ = some v) (hne : row ≠ some b) : w9.cell? ⟨b, o, none⟩ = some v :=
  (hg.cell_far ⟨b, o, none⟩ (lt_of_cell (up_keep hb h)) (Ne.symm hne)).trans (up_keep hb h)
theorem own_step {W wa : World} (hb : Below W.heap.size W wa) {r r' : Option Nat} (h : r' = r ∨ r' = some wa.heap.size) {b : Nat} (hne : r ≠ some b) (hlt : b < W.heap.size) : r' ≠ some b := by
  have := hb.size
  rcases h with rfl | rfl
  · exact hne
  · simp; omega
theorem cell_at {w : World} {a : Addr} {k : Nat} {u : Value} (h : w.cell? (a.add k) = some u) : w.cell? ⟨a.block, a.off + k, none⟩ = some u ∧ (k = 0 → a = ⟨a.block, a.off, none⟩) := by
  obtain ⟨b, o, s⟩ := a
  unfold Addr.add at h
  by_cases hk : k = 0
  · subst hk
    rw [if_pos rfl] at h
    cases s with
    | none => exact ⟨h, fun _ => rfl⟩
    | some q =>
      exfalso
      unfold World.cell? at h
      split at h <;> simp at h
  · rw [if_neg hk] at h
    exact ⟨h, fun e => absurd e hk⟩
end Go.Proofs.YtbfhfjpfjkdcfaaDoor
