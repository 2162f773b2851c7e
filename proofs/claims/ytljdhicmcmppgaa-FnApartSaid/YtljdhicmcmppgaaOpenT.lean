/-
  What a law's transition is, where it can be read.
-/
import Derived.Test.YtljdhicmcmppgaaRows
import Derived.Test.YtljdhicmcmppgaaBase
import Derived.Test.YtljdhicmcmppgaaGrow
import Derived.Test.YtljdhicmcmppgaaSpot
import Derived.Test.YtljdhicmcmppgaaSlice
import Derived.Test.YtljdhicmcmppgaaChart
import Derived.Test.YtljdhicmcmppgaaLawS
import Derived.Test.YtljdhicmcmppgaaMark
import Derived.Test.YtljdhicmcmppgaaOpen
import Derived.Test.YtljdhicmcmppgaaTrod
import Derived.Test.YtljdhicmcmppgaaInts
import Derived.Test.YtljdhicmcmppgaaIntsL
import Derived.Test.YtljdhicmcmppgaaTurned
import Derived.Test.YtljdhicmcmppgaaTrans
import Derived.Lib.SmallJoins
import Derived.Deep.Slices

namespace Go.Proofs.Ytljdhicmcmppgaa
open Go.RowKit Go.ChangeShapes Go.WideShapes Go.Sort

section
variable {H : Type} {enc : TypeId × Value → H} {w : World} {base b0 : Nat} {sp : Nat → Bool} {held : Bool} {r : Reach} {v : Value} {d : DataW H} {p : List MemPlace}
set_option maxRecDepth 100000 in
theorem trod_ints {f : Nat} {c0 : Value} {y : DataW H × List MemPlace} (hf : DataW.trod enc Try.prog w base sp held f 35 [c0] = some y) : ∃ n X, Ints w c0 n X ∧ n ≤ 9223372036854775807 := by
  rcases Go.Deep.open_slice1 Try.underlying35 (by kernel_rfl) hf with ⟨hcs, _⟩ | ⟨a, len, cap, m, n, V, D, Pl, hcs, _, hl, hm, hmm, _, hi⟩
  · simp only [List.cons.injEq, and_true] at hcs
    subst hcs
    exact ⟨0, fun _ => 0, ⟨_, _, rfl, Nat.le_refl _, fun h => absurd h (by omega)⟩, by omega⟩
  · simp only [List.cons.injEq, and_true] at hcs
    subst hcs
    have hlm : len ≤ m := by rw [hmm]; split <;> omega
    have key : ∀ i, ∃ q : Int, i < len → w.cell? (a.add i) = some (.int .i64 q) := fun i => by
      by_cases hil : i < len
      · obtain ⟨hc, ht⟩ := hi i (by omega)
        obtain ⟨x, e, _⟩ := DataW.trod_int Try.underlying3 ht
        simp only [List.cons.injEq, and_true] at e
        exact ⟨x, fun _ => by rw [hc, e]⟩
      · exact ⟨0, fun h => absurd h hil⟩
    obtain ⟨F, hF⟩ := Classical.axiomOfChoice key
    refine ⟨len, F, ⟨_, _, rfl, hl, fun hn => ⟨a.block, a.off, ?_, fun i hil => (cell_at (hF i hil)).1⟩⟩, by unfold maxLen at hm; omega⟩
    rw [← (cell_at (hF 0 hn)).2 rfl]
set_option maxRecDepth 100000 in
theorem open_intS (hv : Value.okWide Try.prog w r b0 35 v) (h : DataW.Trod enc Try.prog w base sp held 35 v d p) : ∃ n X, Ints w v n X ∧ n ≤ 9223372036854775807 := by
  obtain ⟨A, len, cap, rfl⟩ := okWide_slice Try.underlying35 hv
  obtain ⟨f, hf⟩ := h
  exact trod_ints (show DataW.trod enc Try.prog w base sp held f 35 [.slice A len cap] = some (d, p) from hf)
end
end Go.Proofs.Ytljdhicmcmppgaa
