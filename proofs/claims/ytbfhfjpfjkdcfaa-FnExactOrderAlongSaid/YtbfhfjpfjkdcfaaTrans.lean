/-
  Transitions: words, the laws' helpers on them.
-/
import Derived.Test.YtbfhfjpfjkdcfaaRows
import Derived.Test.YtbfhfjpfjkdcfaaBase
import Derived.Test.YtbfhfjpfjkdcfaaSlice
import Derived.Test.YtbfhfjpfjkdcfaaLawS
import Derived.Test.YtbfhfjpfjkdcfaaMark
import Derived.Test.YtbfhfjpfjkdcfaaInts
import Derived.Test.YtbfhfjpfjkdcfaaIntsL
import Derived.Test.YtbfhfjpfjkdcfaaTurned
import Derived.Test.YtbfhfjpfjkdcfaaOpen
namespace Go.Proofs.Ytbfhfjpfjkdcfaa
open Go.RowKit Go.ChangeShapes Go.WideShapes Go.Sort

/-- What a transition reads as. -/
structure TrD where
  n : Nat
  m : Nat
  l : Nat
  X : Nat → Int
  Y : Nat → Int
  U : Nat → Int
  V : Nat → Int
  P : Nat → Int
  c : Int
def Trn (w : World) (v : Value) (d : TrD) : Prop := ∃ f t p, v = .agg #[f, t, .int .i64 d.c, p] ∧ Spots w f d.n d.X d.Y ∧ Spots w t d.m d.U d.V ∧ Ints w p d.l d.P
theorem Trn.up {w w' : World} {v : Value} {d : TrD} (h : Trn w v d) (hb : Below w.heap.size w w') : Trn w' v d := by
  obtain ⟨f, t, p, e, h1, h2, h3⟩ := h
  exact ⟨f, t, p, e, h1.up hb, h2.up hb, h3.up hb⟩
/-- .. in memory of its own, each slice in a block of its own. -/
def OwnT (base : Nat) (w : World) (v : Value) (d : TrD) : Prop := ∃ f t p, v = .agg #[f, t, .int .i64 d.c, p] ∧ OwnS base w f d.n d.X d.Y ∧ OwnS base w t d.m d.U d.V ∧ OwnI base w p d.l d.P ∧
  (0 < d.n → 0 < d.m → f.ownBlock ≠ t.ownBlock) ∧ (0 < d.n → 0 < d.l → f.ownBlock ≠ p.ownBlock) ∧ (0 < d.m → 0 < d.l → t.ownBlock ≠ p.ownBlock)
section
variable {base lo hi : Nat} {w w' : World} {v : Value} {d : TrD}
theorem OwnT.trn (h : OwnT base w v d) : Trn w v d := by
  obtain ⟨f, t, p, e, h1, h2, h3, _⟩ := h
  exact ⟨f, t, p, e, h1.spots, h2.spots, h3.ints⟩
theorem OwnT.up (h : OwnT base w v d) (hb : Below w.heap.size w w') : OwnT base w' v d := by
  obtain ⟨f, t, p, e, h1, h2, h3, h4⟩ := h
  exact ⟨f, t, p, e, h1.up hb, h2.up hb, h3.up hb, h4⟩
theorem OwnT.more (h : OwnT base w v d) {base' : Nat} (hb : base' ≤ base) : OwnT base' w v d := by
  obtain ⟨f, t, p, e, h1, h2, h3, h4⟩ := h
  exact ⟨f, t, p, e, h1.more hb, h2.more hb, h3.more hb, h4⟩
theorem OwnT.turn (h : OwnT base w v d) (ht : Turned lo hi w w') (hb : hi ≤ base) : OwnT base w' v d := by
  obtain ⟨f, t, p, e, h1, h2, h3, h4⟩ := h
  exact ⟨f, t, p, e, h1.turn ht hb, h2.turn ht hb, h3.turn ht hb, h4⟩
theorem Trn.turn {wb : World} {d0 : TrD} (h0 : Trn wb v d0) (hn : d0.n = d.n) (hm : d0.m = d.m) (hl : d0.l = d.l) (h : Trn w v d) (ht : Turned lo hi w w') (h1 : lo ≤ w.heap.size) (hb : wb.heap.size ≤ lo) : Trn w' v d := by
  obtain ⟨f, t, p, e, g1, g2, g3⟩ := h
  obtain ⟨f', t', p', e', k1, k2, k3⟩ := h0
  rw [e] at e'
  simp only [Value.agg.injEq, Array.mk.injEq, List.cons.injEq, and_true] at e'
  obtain ⟨rfl, rfl, _, rfl⟩ := e'
  rw [hn] at k1
  rw [hm] at k2
  rw [hl] at k3
  exact ⟨f, t, p, e, Spots.turn k1 g1 ht h1 hb, Spots.turn k2 g2 ht h1 hb, Ints.turn k3 g3 ht h1 hb⟩
end
theorem own_neS {base : Nat} {w1 w : World} {f t : Value} {n m : Nat} {X Y U V : Nat → Int} (hf : Spots w1 f n X Y) (ht : OwnS base w t m U V) (hb : w1.heap.size ≤ base) : 0 < n → 0 < m → f.ownBlock ≠ t.ownBlock := by
  intro hn hm
  obtain ⟨A, c, rfl, _, hr⟩ := hf
  obtain ⟨b, o, rfl, h1⟩ := hr hn
  obtain ⟨A', c', rfl, _, hr'⟩ := ht
  obtain ⟨b', o', rfl, h2, _⟩ := hr' hm
  have := h1.lt hn
  simp [Value.ownBlock]
  omega
theorem own_neI {base : Nat} {w1 w : World} {f t : Value} {n m : Nat} {X Y P : Nat → Int} (hf : Spots w1 f n X Y) (ht : OwnI base w t m P) (hb : w1.heap.size ≤ base) : 0 < n → 0 < m → f.ownBlock ≠ t.ownBlock := by
  intro hn hm
  obtain ⟨A, c, rfl, _, hr⟩ := hf
  obtain ⟨b, o, rfl, h1⟩ := hr hn
  obtain ⟨A', c', rfl, _, hr'⟩ := ht
  obtain ⟨b', o', rfl, h2, _⟩ := hr' hm
  have := h1.lt hn
  simp [Value.ownBlock]
  omega
theorem OwnS.shape {base : Nat} {w : World} {v : Value} {n : Nat} {X Y : Nat → Int} (h : OwnS base w v n X Y) : ∃ A c, v = .slice A n c ∧ n ≤ c := by
  obtain ⟨A, c, e, hc, _⟩ := h
  exact ⟨A, c, e, hc⟩
theorem OwnI.shape {base : Nat} {w : World} {v : Value} {n : Nat} {X : Nat → Int} (h : OwnI base w v n X) : ∃ A c, v = .slice A n c ∧ n ≤ c := by
  obtain ⟨A, c, e, hc, _⟩ := h
  exact ⟨A, c, e, hc⟩
theorem Spots.shape {w : World} {v : Value} {n : Nat} {X Y : Nat → Int} (h : Spots w v n X Y) : ∃ A c, v = .slice A n c ∧ n ≤ c := by
  obtain ⟨A, c, e, hc, _⟩ := h
  exact ⟨A, c, e, hc⟩
theorem Ints.shape {w : World} {v : Value} {n : Nat} {X : Nat → Int} (h : Ints w v n X) : ∃ A c, v = .slice A n c ∧ n ≤ c := by
  obtain ⟨A, c, e, hc, _⟩ := h
  exact ⟨A, c, e, hc⟩
/-- Returned: a transition in new memory (and a Bool); nothing that was there has turned. -/
def AnsT (w : World) (d : TrD) (e : Ending) (w' : World) : Prop := ∃ v, e = .returned v ∧ OwnT w.heap.size w' v d ∧ Below w.heap.size w w'
def AnsTB (w : World) (d : TrD) (q : Bool) (e : Ending) (w' : World) : Prop := ∃ v, e = .returned (.tuple #[v, .bool q]) ∧ OwnT w.heap.size w' v d ∧ Below w.heap.size w w'
def TrD.zero : TrD := ⟨0, 0, 0, fun _ => 0, fun _ => 0, fun _ => 0, fun _ => 0, fun _ => 0, 0⟩
theorem OwnT.zero {base : Nat} {w : World} : OwnT base w (.agg #[.slice none 0 0, .slice none 0 0, .int .i64 0, .slice none 0 0]) TrD.zero :=
  ⟨_, _, _, rfl, ⟨_, _, rfl, Nat.le_refl _, fun h => absurd h (by simp [TrD.zero])⟩, ⟨_, _, rfl, Nat.le_refl _, fun h => absurd h (by simp [TrD.zero])⟩, ⟨_, _, rfl, Nat.le_refl _, fun h => absurd h (by simp [TrD.zero])⟩,
    fun h => absurd h (by simp [TrD.zero]), fun h => absurd h (by simp [TrD.zero]), fun h => absurd h (by simp [TrD.zero])⟩
theorem Turned.set {lo hi : Nat} {w : World} {b o : Nat} (h1 : lo ≤ b) (h2 : b < hi) (v : Value) : Turned lo hi w (w.setCell ⟨b, o, none⟩ v) :=
  ⟨rfl, rfl, rfl, by rw [size_set]; exact Nat.le_refl _, fun k hk hr => Below.heap_setCell w ⟨b, o, none⟩ v k (fun e => by simp at e; omega)⟩
/-- A transition with the marks from k0 on. -/
def TrD.mark (d : TrD) (k0 : Int) : TrD := { d with X := fun i => k0 + 2 * i, Y := fun i => k0 + 2 * i + 1, U := fun i => k0 + 2 * d.n + 2 * i, V := fun i => k0 + 2 * d.n + 2 * i + 1, P := fun i => k0 + 2 * d.n + 2 * d.m + i }
def MarkAnsT (base : Nat) (v : Value) (d : TrD) (k0 : Int) (w : World) (e : Ending) (w' : World) : Prop :=
  e = .returned (.int .i64 (k0 + 2 * d.n + 2 * d.m + d.l)) ∧ OwnT base w' v (d.mark k0) ∧ ∀ wx dx, Trn wx v dx → dx.n = d.n → dx.m = d.m → dx.l = d.l → Turned base wx.heap.size w w'
theorem OwnS.only {base : Nat} {w w' : World} {t : Value} {m : Nat} {U V : Nat → Int} {row : Option Nat} (h : OwnS base w t m U V) (hg : w.grownBy w' row) (hr : 0 < m → row ≠ t.ownBlock) : OwnS base w' t m U V := by
  obtain ⟨A, c, rfl, hc, hrow⟩ := h
  refine ⟨A, c, rfl, hc, fun hm => ?_⟩
  obtain ⟨b, o, rfl, h1, h2, h3⟩ := hrow hm
  have := hr hm
  exact ⟨b, o, rfl, h1, h2.only (h3.lt hm) hg this, h3.only hg this⟩
theorem OwnI.only {base : Nat} {w w' : World} {t : Value} {m : Nat} {U : Nat → Int} {row : Option Nat} (h : OwnI base w t m U) (hg : w.grownBy w' row) (hr : 0 < m → row ≠ t.ownBlock) : OwnI base w' t m U := by
  obtain ⟨A, c, rfl, hc, hrow⟩ := h
  refine ⟨A, c, rfl, hc, fun hm => ?_⟩
  obtain ⟨b, o, rfl, h1, h2, h3⟩ := hrow hm
  have := hr hm
  exact ⟨b, o, rfl, h1, h2.only (h3.lt hm) hg this, h3.only hg this⟩
theorem own_someS {base : Nat} {w : World} {t : Value} {m : Nat} {U V : Nat → Int} (h : OwnS base w t m U V) (hm : 0 < m) : t.ownBlock ≠ none := by
  obtain ⟨A, c, rfl, hc, hrow⟩ := h
  obtain ⟨b, o, rfl, _⟩ := hrow hm
  simp [Value.ownBlock]
theorem own_someI {base : Nat} {w : World} {t : Value} {m : Nat} {U : Nat → Int} (h : OwnI base w t m U) (hm : 0 < m) : t.ownBlock ≠ none := by
  obtain ⟨A, c, rfl, hc, hrow⟩ := h
  obtain ⟨b, o, rfl, _⟩ := hrow hm
  simp [Value.ownBlock]
theorem row_ne {n m : Nat} {f t : Value} (h : 0 < n → 0 < m → f.ownBlock ≠ t.ownBlock) (ht : 0 < m → t.ownBlock ≠ none) : 0 < m → (if n = 0 then none else f.ownBlock) ≠ t.ownBlock := by
  intro hm
  split
  · exact fun e => ht hm e.symm
  · exact h (by omega) hm
end Go.Proofs.Ytbfhfjpfjkdcfaa
