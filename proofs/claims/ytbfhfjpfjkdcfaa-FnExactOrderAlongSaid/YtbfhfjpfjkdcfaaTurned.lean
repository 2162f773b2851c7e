/-
  What stays while only blocks of a range are written.
-/
import Derived.Test.YtbfhfjpfjkdcfaaRows
import Derived.Test.YtbfhfjpfjkdcfaaBase
import Derived.Test.YtbfhfjpfjkdcfaaSlice
import Derived.Test.YtbfhfjpfjkdcfaaMark
import Derived.Test.YtbfhfjpfjkdcfaaInts
import Derived.Test.YtbfhfjpfjkdcfaaIntsL
namespace Go.Proofs.Ytbfhfjpfjkdcfaa
open Go.RowKit

/-- From w to w' only blocks from lo to below hi have turned; new ones may have come. -/
structure Turned (lo hi : Nat) (w w' : World) : Prop where
  os : w'.os = w.os
  tape : w'.tape = w.tape
  output : w'.output = w.output
  size : w.heap.size ≤ w'.heap.size
  block : ∀ k, k < w.heap.size → (k < lo ∨ hi ≤ k) → w'.heap[k]? = w.heap[k]?
section
variable {lo hi : Nat} {w w' w'' : World}
theorem Turned.refl (lo hi : Nat) (w : World) : Turned lo hi w w := ⟨rfl, rfl, rfl, Nat.le_refl _, fun _ _ _ => rfl⟩
theorem Turned.trans (h : Turned lo hi w w') (h' : Turned lo hi w' w'') : Turned lo hi w w'' :=
  ⟨h'.os.trans h.os, h'.tape.trans h.tape, h'.output.trans h.output, Nat.le_trans h.size h'.size, fun k hk hr => (h'.block k (Nat.lt_of_lt_of_le hk h.size) hr).trans (h.block k hk hr)⟩
theorem Turned.of_below (h : Below w.heap.size w w') : Turned lo hi w w' := ⟨h.os, h.tape, h.output, h.size, fun k hk _ => h.block k hk⟩
theorem Turned.below (h : Turned lo hi w w') (hl : lo ≤ w.heap.size) : Below lo w w' := ⟨h.os, h.tape, h.output, h.size, fun k hk => h.block k (by omega) (.inl hk)⟩
theorem Turned.more (h : Turned lo hi w w') {lo' hi' : Nat} (h1 : lo' ≤ lo) (h2 : hi ≤ hi') : Turned lo' hi' w w' := ⟨h.os, h.tape, h.output, h.size, fun k hk hr => h.block k hk (by omega)⟩
theorem Turned.of_grown {row : Option Nat} (h : w.grownBy w' row) (hr : ∀ k, row = some k → lo ≤ k ∧ k < hi) : Turned lo hi w w' :=
  ⟨h.os, h.tape, h.output, h.size, fun k hk hk' => h.block k hk (fun e => by have := hr k e.symm; omega)⟩
theorem Turned.cell (h : Turned lo hi w w') {b o : Nat} {v : Value} (hc : w.cell? ⟨b, o, none⟩ = some v) (hb : b < lo ∨ hi ≤ b) : w'.cell? ⟨b, o, none⟩ = some v :=
  (World.cell?_of_block (a := ⟨b, o, none⟩) (h.block b (lt_of_cell hc) hb)).trans hc
theorem Turned.frozen (h : Turned lo hi w w') {b o : Nat} (hlt : b < w.heap.size) (hb : b < lo ∨ hi ≤ b) : w'.frozen? ⟨b, o, none⟩ = w.frozen? ⟨b, o, none⟩ :=
  World.frozen?_of_block (a := ⟨b, o, none⟩) (h.block b hlt hb)
theorem Turned.free (h : Turned lo hi w w') {b : Nat} (hf : Free w b) (hlt : b < w.heap.size) (hb : b < lo ∨ hi ≤ b) : Free w' b := fun o => (h.frozen hlt hb).trans (hf o)
end
section
variable {lo hi base : Nat} {w w' : World} {v : Value} {n : Nat} {X Y : Nat → Int}
theorem Row2.turn {b o : Nat} (h : Row2 w b o n X Y) (ht : Turned lo hi w w') (hb : b < lo ∨ hi ≤ b) : Row2 w' b o n X Y := fun i hi => ⟨ht.cell (h i hi).1 hb, ht.cell (h i hi).2 hb⟩
theorem Row1.turn {b o : Nat} (h : Row1 w b o n X) (ht : Turned lo hi w w') (hb : b < lo ∨ hi ≤ b) : Row1 w' b o n X := fun i hi => ht.cell (h i hi) hb
theorem OwnS.turn (h : OwnS base w v n X Y) (ht : Turned lo hi w w') (hb : hi ≤ base) : OwnS base w' v n X Y := by
  obtain ⟨A, c, hv, hc, hr⟩ := h
  exact ⟨A, c, hv, hc, fun hn => by obtain ⟨b, o, ha, h1, h2, h⟩ := hr hn; exact ⟨b, o, ha, h1, ht.free h2 (h.lt hn) (by omega), h.turn ht (by omega)⟩⟩
theorem OwnI.turn (h : OwnI base w v n X) (ht : Turned lo hi w w') (hb : hi ≤ base) : OwnI base w' v n X := by
  obtain ⟨A, c, hv, hc, hr⟩ := h
  exact ⟨A, c, hv, hc, fun hn => by obtain ⟨b, o, ha, h1, h2, h⟩ := hr hn; exact ⟨b, o, ha, h1, ht.free h2 (h.lt hn) (by omega), h.turn ht (by omega)⟩⟩
/-- A slice of its own that is marked: only blocks of its own time turn. -/
theorem markS_turned {wx : World} {X' Y' : Nat → Int} (hv : OwnS base w v n X Y) (hx : Spots wx v n X' Y') (hg : w.grownBy w' (if n = 0 then none else v.ownBlock)) : Turned base wx.heap.size w w' := by
  refine Turned.of_grown hg (fun k hk => ?_)
  split at hk
  · cases hk
  · rename_i hn0
    have hpos : 0 < n := Nat.pos_of_ne_zero hn0
    obtain ⟨A, c, rfl, hc, hr⟩ := hv
    obtain ⟨b, o, rfl, h1, _⟩ := hr hpos
    obtain ⟨A', c', e, hc', hr'⟩ := hx
    obtain ⟨b', o', e', h2⟩ := hr' hpos
    have := h2.lt hpos
    cases e
    cases e'
    simp [Value.ownBlock] at hk
    omega
theorem markI_turned {wx : World} {X' : Nat → Int} (hv : OwnI base w v n X) (hx : Ints wx v n X') (hg : w.grownBy w' (if n = 0 then none else v.ownBlock)) : Turned base wx.heap.size w w' := by
  refine Turned.of_grown hg (fun k hk => ?_)
  split at hk
  · cases hk
  · rename_i hn0
    have hpos : 0 < n := Nat.pos_of_ne_zero hn0
    obtain ⟨A, c, rfl, hc, hr⟩ := hv
    obtain ⟨b, o, rfl, h1, _⟩ := hr hpos
    obtain ⟨A', c', e, hc', hr'⟩ := hx
    obtain ⟨b', o', e', h2⟩ := hr' hpos
    have := h2.lt hpos
    cases e
    cases e'
    simp [Value.ownBlock] at hk
    omega
/-- What was there in the world wb reads as before. -/
theorem Spots.turn {wb : World} {X' Y' : Nat → Int} (h0 : Spots wb v n X' Y') (h : Spots w v n X Y) (ht : Turned lo hi w w') (hl : lo ≤ w.heap.size) (hb : wb.heap.size ≤ lo) : Spots w' v n X Y := Spots.old h0 h ((ht.below hl).mono hb)
theorem Ints.turn {wb : World} {X' : Nat → Int} (h0 : Ints wb v n X') (h : Ints w v n X) (ht : Turned lo hi w w') (hl : lo ≤ w.heap.size) (hb : wb.heap.size ≤ lo) : Ints w' v n X := Ints.old h0 h ((ht.below hl).mono hb)
end
end Go.Proofs.Ytbfhfjpfjkdcfaa
