/-
  Slices of slices of ints: words, the laws' helpers on them.
-/
import Derived.Test.YtadlemadnifohaaRows
import Derived.Test.YtadlemadnifohaaBase
import Derived.Test.YtadlemadnifohaaSlice
import Derived.Test.YtadlemadnifohaaLawS
import Derived.Test.YtadlemadnifohaaMark
import Derived.Test.YtadlemadnifohaaInts
import Derived.Test.YtadlemadnifohaaIntsL
import Derived.Test.YtadlemadnifohaaTurned
import Derived.Test.YtadlemadnifohaaTrans
namespace Go.Proofs.Ytadlemadnifohaa
open Go.RowKit

/-- The n cells from ⟨b, o⟩ on hold these values. -/
def RowV (w : World) (b o n : Nat) (V : Nat → Value) : Prop := ∀ i, i < n → w.cell? ⟨b, o + i, none⟩ = some (V i)
section
variable {w w' : World} {b o n : Nat} {V V' : Nat → Value}
theorem RowV.lt (h : RowV w b o n V) (hn : 0 < n) : b < w.heap.size := lt_of_cell (h 0 hn)
theorem RowV.up (h : RowV w b o n V) (hb : Below w.heap.size w w') : RowV w' b o n V := fun i hi => up_keep hb (h i hi)
theorem RowV.turn {lo hi : Nat} (h : RowV w b o n V) (ht : Turned lo hi w w') (hb : b < lo ∨ hi ≤ b) : RowV w' b o n V := fun i hi => ht.cell (h i hi) hb
theorem RowV.only (h : RowV w b o n V) {row : Option Nat} (hg : w.grownBy w' row) (hr : row ≠ some b) : RowV w' b o n V := fun i hi =>
  (World.cell?_of_block (a := ⟨b, o + i, none⟩) (hg.block b (lt_of_cell (h i hi)) (Ne.symm hr))).trans (h i hi)
end
/-- The slice value v reads as n rows of ints: the i-th has R i numbers, F i. -/
def IRows (w : World) (v : Value) (n : Nat) (R : Nat → Nat) (F : Nat → Nat → Int) : Prop := ∃ A c V, v = .slice A n c ∧ n ≤ c ∧ (0 < n → ∃ b o, A = some ⟨b, o, none⟩ ∧ RowV w b o n V) ∧ ∀ i, i < n → Ints w (V i) (R i) (F i)
theorem IRows.up {w w' : World} {v : Value} {n : Nat} {R : Nat → Nat} {F : Nat → Nat → Int} (h : IRows w v n R F) (hb : Below w.heap.size w w') : IRows w' v n R F := by
  obtain ⟨A, c, V, hv, hc, hr, hf⟩ := h
  exact ⟨A, c, V, hv, hc, fun hn => by obtain ⟨b, o, ha, h⟩ := hr hn; exact ⟨b, o, ha, h.up hb⟩, fun i hi => (hf i hi).up hb⟩
theorem IRows.shape {w : World} {v : Value} {n : Nat} {R : Nat → Nat} {F : Nat → Nat → Int} (h : IRows w v n R F) : ∃ A c, v = .slice A n c ∧ n ≤ c := by
  obtain ⟨A, c, V, hv, hc, _⟩ := h
  exact ⟨A, c, hv, hc⟩
/-- .. in memory of its own, each row in a block of its own. -/
def OwnRw (base : Nat) (w : World) (v : Value) (n : Nat) (R : Nat → Nat) (F : Nat → Nat → Int) : Prop := ∃ A c V, v = .slice A n c ∧ n ≤ c ∧
  (0 < n → ∃ b o, A = some ⟨b, o, none⟩ ∧ base ≤ b ∧ RowV w b o n V ∧ ∀ i, i < n → 0 < R i → (V i).ownBlock ≠ some b) ∧ (∀ i, i < n → OwnI base w (V i) (R i) (F i)) ∧
  ∀ i j, i < n → j < n → i ≠ j → 0 < R i → 0 < R j → (V i).ownBlock ≠ (V j).ownBlock
section
variable {base lo hi : Nat} {w w' : World} {v : Value} {n : Nat} {R : Nat → Nat} {F F' : Nat → Nat → Int}
theorem OwnRw.rows (h : OwnRw base w v n R F) : IRows w v n R F := by
  obtain ⟨A, c, V, hv, hc, hr, hf, _⟩ := h
  exact ⟨A, c, V, hv, hc, fun hn => by obtain ⟨b, o, ha, _, h, _⟩ := hr hn; exact ⟨b, o, ha, h⟩, fun i hi => (hf i hi).ints⟩
theorem OwnRw.up (h : OwnRw base w v n R F) (hb : Below w.heap.size w w') : OwnRw base w' v n R F := by
  obtain ⟨A, c, V, hv, hc, hr, hf, hd⟩ := h
  exact ⟨A, c, V, hv, hc, fun hn => by obtain ⟨b, o, ha, h1, h, h2⟩ := hr hn; exact ⟨b, o, ha, h1, h.up hb, h2⟩, fun i hi => (hf i hi).up hb, hd⟩
theorem OwnRw.more (h : OwnRw base w v n R F) {base' : Nat} (hb : base' ≤ base) : OwnRw base' w v n R F := by
  obtain ⟨A, c, V, hv, hc, hr, hf, hd⟩ := h
  exact ⟨A, c, V, hv, hc, fun hn => by obtain ⟨b, o, ha, h1, h, h2⟩ := hr hn; exact ⟨b, o, ha, by omega, h, h2⟩, fun i hi => (hf i hi).more hb, hd⟩
theorem OwnRw.turn (h : OwnRw base w v n R F) (ht : Turned lo hi w w') (hb : hi ≤ base) : OwnRw base w' v n R F := by
  obtain ⟨A, c, V, hv, hc, hr, hf, hd⟩ := h
  exact ⟨A, c, V, hv, hc, fun hn => by obtain ⟨b, o, ha, h1, h, h2⟩ := hr hn; exact ⟨b, o, ha, h1, h.turn ht (by omega), h2⟩, fun i hi => (hf i hi).turn ht hb, hd⟩
theorem OwnRw.cong (h : OwnRw base w v n R F) (hx : ∀ i, i < n → ∀ j, j < R i → F i j = F' i j) : OwnRw base w v n R F' := by
  obtain ⟨A, c, V, hv, hc, hr, hf, hd⟩ := h
  exact ⟨A, c, V, hv, hc, hr, fun i hi => (hf i hi).cong (hx i hi), hd⟩
theorem OwnRw.nil : OwnRw base w (.slice none 0 0) 0 R F := ⟨_, _, fun _ => .slice none 0 0, rfl, Nat.le_refl _, fun h => absurd h (by omega), fun i hi => absurd hi (by omega), fun i j hi => absurd hi (by omega)⟩
end
theorem IRows.old {wb w w' : World} {u : Value} {m : Nat} {R : Nat → Nat} {F F' : Nat → Nat → Int} (h0 : IRows wb u m R F) (h : IRows w u m R F') (hbw : Below wb.heap.size wb w) (hB : Below wb.heap.size w w') : IRows w' u m R F' := by
  obtain ⟨A, c, V, rfl, hc, hr, hf⟩ := h
  obtain ⟨A', c', V', he, _, hr', hf'⟩ := h0
  injection he with e1 e2 e3
  subst e1
  have key : ∀ i, i < m → V i = V' i := fun i hi => by
    obtain ⟨b, o, hA, h1⟩ := hr (by omega)
    obtain ⟨b', o', hA', h2⟩ := hr' (by omega)
    rw [hA] at hA'
    injection hA' with e4
    injection e4 with e5 e6
    subst e5 e6
    have k1 := h1 i hi
    have k2 := h2 i hi
    rw [hbw.cell (p := ⟨b, o + i, none⟩) (lt_of_cell k2), k2] at k1
    injection k1 with k1
    exact k1.symm
  refine ⟨A, c, V, rfl, hc, fun hm => ?_, fun i hi => ?_⟩
  · obtain ⟨b, o, rfl, h1⟩ := hr hm
    obtain ⟨b', o', hA', h2⟩ := hr' hm
    injection hA' with e4
    injection e4 with e5 e6
    subst e5 e6
    refine ⟨b, o, rfl, fun i hi => ?_⟩
    rw [hB.cell (p := ⟨b, o + i, none⟩) (h2.lt hm)]
    exact h1 i hi
  · have := hf' i hi
    rw [← key i hi] at this
    exact Ints.old this (hf i hi) hB
/-- Returned: n rows in new memory (and a Bool); nothing that was there has turned. -/
def AnsRw (w : World) (n : Nat) (R : Nat → Nat) (F : Nat → Nat → Int) (e : Ending) (w' : World) : Prop := ∃ v, e = .returned v ∧ OwnRw w.heap.size w' v n R F ∧ Below w.heap.size w w'
def AnsRwB (w : World) (n : Nat) (R : Nat → Nat) (F : Nat → Nat → Int) (q : Bool) (e : Ending) (w' : World) : Prop := ∃ v, e = .returned (.tuple #[v, .bool q]) ∧ OwnRw w.heap.size w' v n R F ∧ Below w.heap.size w w'
theorem AnsRwB.nil {w w' : World} {R : Nat → Nat} {F : Nat → Nat → Int} (hb : Below w.heap.size w w') : AnsRwB w 0 R F false (.returned (.tuple #[.slice none 0 0, .bool false])) w' := ⟨_, rfl, OwnRw.nil, hb⟩
/-- How many numbers the first k rows have. -/
def sumR (R : Nat → Nat) : Nat → Nat
  | 0 => 0
  | k + 1 => sumR R k + R k
def markF (R : Nat → Nat) (k0 : Int) (i j : Nat) : Int := k0 + sumR R i + j
theorem sumR_le (R : Nat → Nat) {i k : Nat} (h : i ≤ k) : sumR R i ≤ sumR R k := by
  induction k with
  | zero => rw [show i = 0 by omega]; exact Nat.le_refl _
  | succ k ih =>
    rcases Nat.lt_or_ge i (k + 1) with h' | h'
    · have := ih (by omega); simp only [sumR]; omega
    · rw [show i = k + 1 by omega]; exact Nat.le_refl _
def MarkAnsRw (base : Nat) (v : Value) (n : Nat) (R : Nat → Nat) (k0 : Int) (w : World) (e : Ending) (w' : World) : Prop :=
  e = .returned (.int .i64 (k0 + sumR R n)) ∧ OwnRw base w' v n R (markF R k0) ∧ ∀ wx F', IRows wx v n R F' → Below wx.heap.size wx w → Turned base wx.heap.size w w'
end Go.Proofs.Ytadlemadnifohaa
