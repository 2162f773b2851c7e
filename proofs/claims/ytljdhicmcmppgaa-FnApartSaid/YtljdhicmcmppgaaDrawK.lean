/-
  The reference's draws for FnChartChanges and FnForms.
-/
import Derived.Test.YtljdhicmcmppgaaRows
import Derived.Test.YtljdhicmcmppgaaBase
import Derived.Test.YtljdhicmcmppgaaSpot
import Derived.Test.YtljdhicmcmppgaaSlice
import Derived.Test.YtljdhicmcmppgaaTurned
import Derived.Test.YtljdhicmcmppgaaTrans
import Derived.BigQuiet
import Derived.Test.YtljdhicmcmppgaaCur
import Derived.Test.YtljdhicmcmppgaaDrawP
import Derived.Test.YtljdhicmcmppgaaOpen
import Derived.Test.YtljdhicmcmppgaaAppend
import Derived.Test.YtljdhicmcmppgaaAppendE
import Derived.Test.YtljdhicmcmppgaaForm
import Derived.Test.YtljdhicmcmppgaaSameForm
import Derived.Deep.LoopGhost
import Derived.Deep.Onto
import Derived.Deep.CutRange
import Derived.Deep.DeepCutAuto
import Derived.Deep.RegionHeld3
import Derived.Test.YtljdhicmcmppgaaDrawV
import Derived.Test.YtljdhicmcmppgaaDrawX
import Derived.Test.YtljdhicmcmppgaaDrawW
import Derived.Test.YtljdhicmcmppgaaDrawZ
import Derived.Test.YtljdhicmcmppgaaDrawJ
import Derived.Test.YtljdhicmcmppgaaBytes
namespace Go.Proofs.Ytljdhicmcmppgaa
open Go.RowKit Go.ChangeShapes Go.WideShapes Go.Sort
/-- A cursor's new box behind other new boxes. -/
theorem cur_start {w W : World} {A : Option Addr} {n c p : Nat} (hb : Below w.heap.size w W) (h : Bytes w (.slice A n c) n) (hn : n ≤ 9223372036854775807) (hp : W.heap.size = p) (t : TypeId) : CurAt (W.alloc (.cells #[.slice A n c, .int .i64 0, .int .u64 0] t)) p 0 := by
  subst hp; exact curAt_new (h.up hb) hn t
/-- A box with two numbers that may be written. -/
structure RBox (w : World) (b : Nat) : Prop where
  ex : ∃ x y : Int, w.cell? ⟨b, 0, none⟩ = some (.int .i64 x) ∧ w.cell? ⟨b, 1, none⟩ = some (.int .i64 y)
  free : Free w b
  lt : b < w.heap.size
theorem RBox.turn {lo hi : Nat} {w w' : World} {b : Nat} (h : RBox w b) (ht : Turned lo hi w w') (hb : b < lo ∨ hi ≤ b) : RBox w' b := by
  obtain ⟨⟨x, y, h0, h1⟩, hf, hl⟩ := h
  exact ⟨⟨x, y, ht.cell h0 hb, ht.cell h1 hb⟩, ht.free hf hl hb, by have := ht.size; omega⟩
/-- What it reads behind two stores. -/
theorem RBox.put {w : World} {b : Nat} (h : RBox w b) (u v : Value) :
    ((w.setCell ⟨b, 0, none⟩ u).setCell ⟨b, 1, none⟩ v).cell? ⟨b, 0, none⟩ = some u ∧ ((w.setCell ⟨b, 0, none⟩ u).setCell ⟨b, 1, none⟩ v).cell? ⟨b, 1, none⟩ = some v := by
  obtain ⟨⟨x, y, h0, h1⟩, _, _⟩ := h
  exact ⟨(cell_set_ne _ b 1 v b 0 (by omega)).trans (cell_set_same w b 0 _ u h0), cell_set_same _ b 1 _ v ((cell_set_ne w b 0 u b 1 (by omega)).trans h1)⟩
theorem put_far {w : World} {b g o : Nat} (hne : b ≠ g) (u v : Value) : ((w.setCell ⟨b, 0, none⟩ u).setCell ⟨b, 1, none⟩ v).cell? ⟨g, o, none⟩ = w.cell? ⟨g, o, none⟩ :=
  (cell_set_ne _ b 1 v g o (by omega)).trans (cell_set_ne w b 0 u g o (by omega))
theorem RBox.far {w : World} {b g : Nat} (h : RBox w g) (hne : b ≠ g) (u v : Value) : RBox ((w.setCell ⟨b, 0, none⟩ u).setCell ⟨b, 1, none⟩ v) g := by
  obtain ⟨⟨x, y, h0, h1⟩, hf, hl⟩ := h
  exact ⟨⟨x, y, (put_far hne u v).trans h0, (put_far hne u v).trans h1⟩, (hf.set _ _).set _ _, by rw [size_set, size_set]; exact hl⟩
theorem put_below {B : Nat} {w : World} {b : Nat} (hb : B ≤ b) (u v : Value) : Below B w ((w.setCell ⟨b, 0, none⟩ u).setCell ⟨b, 1, none⟩ v) :=
  ((Below.refl B w).setCell (p := ⟨b, 0, none⟩) hb _).setCell (p := ⟨b, 1, none⟩) hb _
theorem turned_old {p : Nat} {w W w' : World} (hb : Below w.heap.size w W) (ht : Turned p (p + 1) W w') (hp : w.heap.size ≤ p) : Below w.heap.size w w' :=
  hb.trans ⟨ht.os, ht.tape, ht.output, ht.size, fun k hk => ht.block k (by have := hb.size; omega) (.inl (by omega))⟩
/-- What stands while a performer is placed: the spot's box behind w2, the cursor. -/
structure PlS (p : Nat) (w2 wx : World) (K : Nat) : Prop where
  s : RBox wx w2.heap.size
  cur : CurAt wx p K
  t : Turned p (p + 1) w2 wx
theorem PlS.more {p : Nat} {w2 wx : World} {K K' : Nat} (h : PlS p w2 wx K) (hk : K ≤ K') : PlS p w2 wx K' := ⟨h.s, h.cur.more hk, h.t⟩
theorem PlS.step {p : Nat} {w2 wx w' : World} {K K' K2 : Nat} (h : PlS p w2 wx K) (ht : Turned p (p + 1) wx w') (hc : CurAt w' p K') (hb : p < w2.heap.size) (hk : K' ≤ K2) : PlS p w2 w' K2 :=
  ⟨h.s.turn ht (by omega), hc.more hk, h.t.trans ht⟩
theorem PlS.put {p : Nat} {w2 wx : World} {K : Nat} (h : PlS p w2 wx K) (hb : p < w2.heap.size) (x y : Int) : PlS p w2 ((wx.setCell ⟨w2.heap.size, 0, none⟩ (.int .i64 x)).setCell ⟨w2.heap.size, 1, none⟩ (.int .i64 y)) K :=
  ⟨⟨⟨x, y, h.s.put _ _⟩, (h.s.free.set _ _).set _ _, by rw [size_set, size_set]; exact h.s.lt⟩, h.cur.below (put_below (Nat.le_refl _) _ _) hb, h.t.far (put_below (Nat.le_refl _) _ _)⟩
end Go.Proofs.Ytljdhicmcmppgaa
