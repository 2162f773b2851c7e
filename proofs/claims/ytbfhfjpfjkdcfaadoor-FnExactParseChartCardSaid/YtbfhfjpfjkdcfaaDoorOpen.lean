/-
  What a law's arguments are, where they can be read: spots, moves.
-/
import Derived.Test.YtbfhfjpfjkdcfaaDoorRows
import Derived.Test.YtbfhfjpfjkdcfaaDoorBase
import Derived.Test.YtbfhfjpfjkdcfaaDoorGrow
import Derived.Test.YtbfhfjpfjkdcfaaDoorSlice
import Derived.Lib.SmallJoins
import Derived.Deep.Strs
namespace Go.Proofs.YtbfhfjpfjkdcfaaDoor
open Go.RowKit Go.ChangeShapes Go.WideShapes Go.Sort

section
variable {H : Type} {enc : TypeId × Value → H} {w : World} {base b0 : Nat} {sp : Nat → Bool} {held : Bool} {r : Reach} {v : Value} {d : DataW H} {p : List MemPlace}

theorem array5 {α : Type} {cs : Array α} (h : cs.size = 5) : ∃ c0 c1 c2 c3 c4, cs = #[c0, c1, c2, c3, c4] := by
  obtain ⟨l⟩ := cs
  match l, h with
  | [c0, c1, c2, c3, c4], _ => exact ⟨c0, c1, c2, c3, c4, rfl⟩
set_option maxRecDepth 100000 in
theorem trod_spot {n : Nat} {c0 c1 : Value} {y : DataW H × List MemPlace} (h : DataW.trod enc Tryd.prog w base sp held n 46 [c0, c1] = some y) : ∃ x0 x1 : Int, c0 = .int .i64 x0 ∧ c1 = .int .i64 x1 := by
  obtain ⟨y0, y1, m, _, _, h0, h1⟩ := trod_struct2 Tryd.underlying46 h
  obtain ⟨x0, e0, _⟩ := DataW.trod_int Tryd.underlying3 (show DataW.trod enc Tryd.prog w base sp held m 3 [c0] = some y0 from h0)
  obtain ⟨x1, e1, _⟩ := DataW.trod_int Tryd.underlying3 (show DataW.trod enc Tryd.prog w base sp held m 3 [c1] = some y1 from h1)
  exact ⟨x0, x1, by simpa using e0, by simpa using e1⟩
set_option maxRecDepth 100000 in
theorem open_spot (hv : Value.okWide Tryd.prog w r b0 46 v) (h : DataW.Trod enc Tryd.prog w base sp held 46 v d p) : ∃ x y : Int, v = .agg #[.int .i64 x, .int .i64 y] := by
  obtain ⟨cs, rfl, hsz⟩ := okWide_struct Tryd.underlying46 hv
  obtain ⟨c0, c1, rfl⟩ := Go.Joins.array2 (hsz.trans (by kernel_rfl))
  obtain ⟨n, hn⟩ := h
  obtain ⟨x, y, rfl, rfl⟩ := trod_spot (show DataW.trod enc Tryd.prog w base sp held n 46 [c0, c1] = some (d, p) from hn)
  exact ⟨x, y, rfl⟩
set_option maxRecDepth 100000 in
theorem open_spots (hv : Value.okWide Tryd.prog w r b0 28 v) (h : DataW.Trod enc Tryd.prog w base sp held 28 v d p) : ∃ n X Y, Spots w v n X Y ∧ n ≤ 9223372036854775807 := by
  obtain ⟨A, len, cap, rfl⟩ := okWide_slice Tryd.underlying28 hv
  obtain ⟨f, hf⟩ := h
  rcases Go.Deep.open_slice Tryd.underlying28 (show DataW.trod enc Tryd.prog w base sp held f 28 [.slice A len cap] = some (d, p) from hf) with ⟨hcs, _⟩ | ⟨a, len', cap', m, n, D, Pl, hcs, _, hl, hm, hmm, _, hi⟩
  · simp only [List.cons.injEq, Value.slice.injEq, and_true] at hcs
    obtain ⟨rfl, rfl, rfl⟩ := hcs
    exact ⟨0, fun _ => 0, fun _ => 0, ⟨_, _, rfl, Nat.le_refl _, fun h => absurd h (by omega)⟩, by omega⟩
  · simp only [List.cons.injEq, Value.slice.injEq, and_true] at hcs
    obtain ⟨rfl, rfl, rfl⟩ := hcs
    have e2 : Tryd.prog.cellsOf 46 = 2 := by kernel_rfl
    have hlm : len ≤ m := by rw [hmm]; split <;> omega
    have key : ∀ i, ∃ q : Int × Int, i < len → w.cell? (a.add (i * 2)) = some (.int .i64 q.1) ∧ w.cell? (a.add (i * 2 + 1)) = some (.int .i64 q.2) := fun i => by
      by_cases hil : i < len
      · obtain ⟨cs', hc, ht⟩ := hi i (by omega)
        rw [e2] at hc
        obtain ⟨_, hcl, hat⟩ := World.cells?_some hc
        match cs', hcl with
        | [c0, c1], _ =>
          obtain ⟨x0, x1, rfl, rfl⟩ := trod_spot ht
          refine ⟨(x0, x1), fun _ => ⟨?_, ?_⟩⟩
          · have := hat 0 (by omega)
            rw [Go.Deep.add_add] at this
            simpa using this
          · have := hat 1 (by omega)
            rw [Go.Deep.add_add] at this
            simpa using this
      · exact ⟨(0, 0), fun h => absurd h hil⟩
    obtain ⟨F, hF⟩ := Classical.axiomOfChoice key
    refine ⟨len, fun i => (F i).1, fun i => (F i).2, ⟨_, _, rfl, hl, fun hn => ⟨a.block, a.off, ?_, fun i hil => ?_⟩⟩, by unfold maxLen at hm; omega⟩
    · rw [← (cell_at (hF 0 hn).1).2 (by omega)]
    · exact ⟨(cell_at (hF i hil).1).1, (cell_at (hF i hil).2).1⟩
end
end Go.Proofs.YtbfhfjpfjkdcfaaDoor
