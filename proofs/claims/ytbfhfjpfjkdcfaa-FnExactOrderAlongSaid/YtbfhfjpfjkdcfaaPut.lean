/-
  A number put into an increasing list.
-/
import Derived.Test.YtbfhfjpfjkdcfaaRows
import Derived.Test.YtbfhfjpfjkdcfaaBase
import Derived.Test.YtbfhfjpfjkdcfaaSpot
import Derived.Test.YtbfhfjpfjkdcfaaSlice
import Derived.Test.YtbfhfjpfjkdcfaaLawS
import Derived.Test.YtbfhfjpfjkdcfaaMark
import Derived.Test.YtbfhfjpfjkdcfaaAppend
import Derived.Test.YtbfhfjpfjkdcfaaAppendE
import Derived.Test.YtbfhfjpfjkdcfaaInts
import Derived.Test.YtbfhfjpfjkdcfaaIntsL
import Derived.Test.YtbfhfjpfjkdcfaaCopyI
import Derived.Test.YtbfhfjpfjkdcfaaTurned
import Derived.Test.YtbfhfjpfjkdcfaaTrans
import Derived.Maps.AppendAt
namespace Go.Proofs.Ytbfhfjpfjkdcfaa
open Go.RowKit Go.ChangeShapes Go.WideShapes Go.Sort

def HasN (m : Nat) (A : Nat → Int) (y : Int) : Prop := ∃ i, i < m ∧ A i = y
def IncN (m : Nat) (A : Nat → Int) : Prop := ∀ i j, i < j → j < m → A i < A j
/-- x put at k. -/
def putN (A : Nat → Int) (k : Nat) (x : Int) (j : Nat) : Int := if j < k then A j else if j = k then x else A (j - 1)
theorem putN_inc {m : Nat} {A : Nat → Int} {k : Nat} {x : Int} (h : IncN m A) (hl : ∀ j, j < k → A j < x) (hk : k ≤ m) (hg : k < m → x < A k) : IncN (m + 1) (putN A k x) := fun i j hij hj => by
  unfold putN
  by_cases h1 : j < k
  · rw [if_pos h1, if_pos (by omega)]; exact h i j hij (by omega)
  · rw [if_neg h1]
    by_cases h2 : j = k
    · rw [if_pos h2, if_pos (by omega)]; exact hl i (by omega)
    · rw [if_neg h2]
      have hg' := hg (by omega)
      have hkj : A k ≤ A (j - 1) := by
        by_cases e : k = j - 1
        · rw [e]; exact Int.le_refl _
        · exact Int.le_of_lt (h k (j - 1) (by omega) (by omega))
      by_cases h3 : i < k
      · rw [if_pos h3]; have := hl i h3; omega
      · rw [if_neg h3]
        by_cases h4 : i = k
        · rw [if_pos h4]; omega
        · rw [if_neg h4]; exact h (i - 1) (j - 1) (by omega) (by omega)
theorem putN_has {m : Nat} {A : Nat → Int} {k : Nat} {x : Int} (hk : k ≤ m) (y : Int) : HasN (m + 1) (putN A k x) y ↔ (y = x ∨ HasN m A y) := by
  unfold HasN putN
  constructor
  · rintro ⟨i, hi, e⟩
    by_cases h1 : i < k
    · rw [if_pos h1] at e; exact .inr ⟨i, by omega, e⟩
    · rw [if_neg h1] at e
      by_cases h2 : i = k
      · rw [if_pos h2] at e; exact .inl e.symm
      · rw [if_neg h2] at e; exact .inr ⟨i - 1, by omega, e⟩
  · rintro (e | ⟨i, hi, e⟩)
    · exact ⟨k, by omega, by rw [if_neg (by omega), if_pos rfl]; exact e.symm⟩
    · by_cases h1 : i < k
      · exact ⟨i, by omega, by rw [if_pos h1]; exact e⟩
      · exact ⟨i + 1, by omega, by rw [if_neg (by omega), if_neg (by omega), Nat.add_sub_cancel]; exact e⟩
theorem cells1_add (X : Nat → Int) (k : Nat) : ∀ m, cells1 X (k + m) = cells1 X k ++ cells1 (fun j => X (k + j)) m
  | 0 => by simp [cells1]
  | m + 1 => by rw [← Nat.add_assoc, cells1_succ, cells1_add X k m, cells1_succ, List.append_assoc]
set_option maxRecDepth 100000 in
theorem run_add_ints {w : World} (ty : TypeId) (base : Nat) (v x : Value) (k m : Nat) (X : Nat → Int) (hown : OwnN base w v k X) (hx : Ints w x m (fun j => X (k + j))) (hbase : base ≤ w.heap.size) (hk : k ≤ 1048576) (hn : m ≤ 1048576) :
    ∃ v' w', (Builtin.append_ #[24, 24] ty #[v, x]).run Try.prog w = .ok v' w' ∧ OwnN base w' v' (k + m) X ∧ Below base w w' := by
  obtain ⟨i0, hi0, hz0, hz1, hz2⟩ := info_parts info_intN
  obtain ⟨A, c, rfl, hmc, hrow⟩ := hx
  have hex : ∀ ad, A = some ad → (∀ j u, (cells1 (fun j => X (k + j)) m)[j]? = some u → w.cell? (ad.add j) = some u) →
      ∃ v' w', (Builtin.append_ #[24, 24] ty #[v, .slice A m c]).run Try.prog w = .ok v' w' ∧ OwnN base w' v' (k + m) X ∧ Below base w w' := by
    intro ad hA hc
    subst hA
    obtain ⟨v', w', hr, h1, h2, _⟩ := run_append_own_at (P := Try.prog) w base 24 ty 3 i0 _ 1 8 Try.underlying24 hi0 hz0 hz1 hz2 rfl (by omega) v k _ hown ad m c (cells1 (fun j => X (k + j)) m) (by rw [cells1_len, Nat.mul_one]) hc (by
      intro u hu
      obtain ⟨i, _, hi⟩ := List.mem_map.1 hu
      subst hi; rfl) (by unfold maxLen; omega) (by omega) hbase
    exact ⟨v', w', hr, by unfold OwnN; rw [cells1_add]; exact h1, below_grown h2 hbase (fun k hk => (World.ownsRow.lt hown k hk).1)⟩
  rcases Nat.eq_zero_or_pos m with h0 | h0
  · subst h0
    cases A with
    | some ad => exact hex ad rfl (fun j u hu => by simp [cells1] at hu)
    | none =>
      refine ⟨v, w, ?_, hown, Below.refl _ _⟩
      rcases hown.2 with ⟨rfl, _⟩ | ⟨g, cap, cur, rfl, _, _, hnc, _⟩
      · simp [Builtin.append_, run_underlying Try.underlying24, sizeOf, typeInfo, hi0, Builtin.lenOf, Builtin.firstCells]
      · simp [Builtin.append_, run_underlying Try.underlying24, sizeOf, typeInfo, hi0, Builtin.lenOf, Builtin.firstCells, storeCells]
        try omega
  · obtain ⟨b, o, rfl, hr⟩ := hrow h0
    refine hex _ rfl (fun j u hu => ?_)
    have hj : j < m := by
      rcases Nat.lt_or_ge j m with h | h
      · exact h
      · rw [List.getElem?_eq_none (by rw [cells1_len]; exact h)] at hu; cases hu
    rw [add_none, hr j hj, ← cells1_get (fun j => X (k + j)) m j hj]
    exact hu
theorem wpList_add_ints {ops : Array Oper} {rest : List Oper} {o : Oper} {a : Act} {Q : Exit → Act → World → Prop} {w : World} (hgd : o.guard = none) (s x : Operand)
    (ho : o.op = .call { callee := .builtin .append, args := #[s, x], argTypes := #[24, 24] })
    (base : Nat) (v u : Value) (k m : Nat) (X : Nat → Int) (hs : a.eval s = v) (hx : a.eval x = u) (hown : OwnN base w v k X) (hsp : Ints w u m (fun j => X (k + j))) (hbase : base ≤ w.heap.size) (hk : k ≤ 1048576) (hn : m ≤ 1048576)
    (h : ∀ v' w', OwnN base w' v' (k + m) X → Below base w w' → wpList Try.prog ops Q rest (a.put o.dst v') w') : wpList Try.prog ops Q (o :: rest) a w := by
  obtain ⟨v', w', hr, h1, h2⟩ := run_add_ints (w := w) o.type base v u k m X hown hsp hbase hk hn
  refine wpList_plain hgd fun _ hK => ?_
  unfold Oper.wp execOp
  simp only [ho, resolve, invoke, builtin, Sem.run_bind, Sem.run_pure, Result.andThen_ok, List.map_toArray, List.map_cons, List.map_nil, hs, hx, hr]
  exact hK _ _ (h v' w' h1 h2)
/-- Returned: an increasing list with x. -/
def AnsPut (w : World) (m : Nat) (A : Nat → Int) (x : Int) (e : Ending) (w' : World) : Prop :=
  ∃ v' m' A', e = .returned v' ∧ Ints w' v' m' A' ∧ Below w.heap.size w w' ∧ m' ≤ m + 1 ∧ IncN m' A' ∧ ∀ y, HasN m' A' y ↔ (y = x ∨ HasN m A y)
end Go.Proofs.Ytbfhfjpfjkdcfaa
