/-
  What a law's transition is, where it can be read.
-/
import Derived.Test.YtamoanhjajnahaaRows
import Derived.Test.YtamoanhjajnahaaBase
import Derived.Test.YtamoanhjajnahaaSpot
import Derived.Test.YtamoanhjajnahaaSlice
import Derived.Test.YtamoanhjajnahaaChart
import Derived.Test.YtamoanhjajnahaaLawS
import Derived.Test.YtamoanhjajnahaaMark
import Derived.Test.YtamoanhjajnahaaOpen
import Derived.Test.YtamoanhjajnahaaTrod
import Derived.Test.YtamoanhjajnahaaInts
import Derived.Test.YtamoanhjajnahaaIntsL
import Derived.Test.YtamoanhjajnahaaTurned
import Derived.Test.YtamoanhjajnahaaTrans
import Derived.Lib.SmallJoins
import Derived.Deep.Slices

namespace Go.Proofs.Ytamoanhjajnahaa
open Go.RowKit Go.ChangeShapes Go.WideShapes Go.Sort

section
variable {H : Type} {enc : TypeId × Value → H} {w : World} {base b0 : Nat} {sp : Nat → Bool} {held : Bool} {r : Reach} {v : Value} {d : DataW H} {p : List MemPlace}
set_option maxRecDepth 100000 in
theorem trod_spots {f : Nat} {c0 : Value} {y : DataW H × List MemPlace} (hf : DataW.trod enc Try.prog w base sp held f 44 [c0] = some y) : ∃ n X Y, Spots w c0 n X Y ∧ n ≤ 9223372036854775807 := by
  rcases Go.Deep.open_slice Try.underlying44 hf with ⟨hcs, _⟩ | ⟨a, len, cap, m, n, D, Pl, hcs, _, hl, hm, hmm, _, hi⟩
  · simp only [List.cons.injEq, and_true] at hcs
    subst hcs
    exact ⟨0, fun _ => 0, fun _ => 0, ⟨_, _, rfl, Nat.le_refl _, fun h => absurd h (by omega)⟩, by omega⟩
  · simp only [List.cons.injEq, and_true] at hcs
    subst hcs
    have e2 : Try.prog.cellsOf 84 = 2 := by kernel_rfl
    have hlm : len ≤ m := by rw [hmm]; split <;> omega
    have key : ∀ i, ∃ q : Int × Int, i < len → w.cell? (a.add (i * 2)) = some (.int .i64 q.1) ∧ w.cell? (a.add (i * 2 + 1)) = some (.int .i64 q.2) := fun i => by
      by_cases hil : i < len
      · obtain ⟨cs', hc, ht⟩ := hi i (by omega)
        rw [e2] at hc
        obtain ⟨_, hcl, hat⟩ := World.cells?_some hc
        match cs', hcl with
        | [c0, c1], _ =>
          obtain ⟨x0, x1, rfl, rfl⟩ := trod_spot ht
          refine ⟨(x0, x1), fun _ => ⟨?_, ?_⟩⟩
          · have := hat 0 (by omega)
            rw [Go.Deep.add_add] at this
            simpa using this
          · have := hat 1 (by omega)
            rw [Go.Deep.add_add] at this
            simpa using this
      · exact ⟨(0, 0), fun h => absurd h hil⟩
    obtain ⟨F, hF⟩ := Classical.axiomOfChoice key
    refine ⟨len, fun i => (F i).1, fun i => (F i).2, ⟨_, _, rfl, hl, fun hn => ⟨a.block, a.off, ?_, fun i hil => ?_⟩⟩, by unfold maxLen at hm; omega⟩
    · rw [← (cell_at (hF 0 hn).1).2 (by omega)]
    · exact ⟨(cell_at (hF i hil).1).1, (cell_at (hF i hil).2).1⟩
set_option maxRecDepth 100000 in
theorem trod_ints {f : Nat} {c0 : Value} {y : DataW H × List MemPlace} (hf : DataW.trod enc Try.prog w base sp held f 27 [c0] = some y) : ∃ n X, Ints w c0 n X ∧ n ≤ 9223372036854775807 := by
  rcases Go.Deep.open_slice1 Try.underlying27 (by kernel_rfl) hf with ⟨hcs, _⟩ | ⟨a, len, cap, m, n, V, D, Pl, hcs, _, hl, hm, hmm, _, hi⟩
  · simp only [List.cons.injEq, and_true] at hcs
    subst hcs
    exact ⟨0, fun _ => 0, ⟨_, _, rfl, Nat.le_refl _, fun h => absurd h (by omega)⟩, by omega⟩
  · simp only [List.cons.injEq, and_true] at hcs
    subst hcs
    have hlm : len ≤ m := by rw [hmm]; split <;> omega
    have key : ∀ i, ∃ q : Int, i < len → w.cell? (a.add i) = some (.int .i64 q) := fun i => by
      by_cases hil : i < len
      · obtain ⟨hc, ht⟩ := hi i (by omega)
        obtain ⟨x, e, _⟩ := DataW.trod_int Try.underlying3 ht
        simp only [List.cons.injEq, and_true] at e
        exact ⟨x, fun _ => by rw [hc, e]⟩
      · exact ⟨0, fun h => absurd h hil⟩
    obtain ⟨F, hF⟩ := Classical.axiomOfChoice key
    refine ⟨len, F, ⟨_, _, rfl, hl, fun hn => ⟨a.block, a.off, ?_, fun i hil => (cell_at (hF i hil)).1⟩⟩, by unfold maxLen at hm; omega⟩
    rw [← (cell_at (hF 0 hn)).2 rfl]
set_option maxRecDepth 100000 in
theorem open_intS (hv : Value.okWide Try.prog w r b0 27 v) (h : DataW.Trod enc Try.prog w base sp held 27 v d p) : ∃ n X, Ints w v n X ∧ n ≤ 9223372036854775807 := by
  obtain ⟨A, len, cap, rfl⟩ := okWide_slice Try.underlying27 hv
  obtain ⟨f, hf⟩ := h
  exact trod_ints (show DataW.trod enc Try.prog w base sp held f 27 [.slice A len cap] = some (d, p) from hf)
end
end Go.Proofs.Ytamoanhjajnahaa
