/-
  Transitions: words, the laws' helpers on them.
-/
import Derived.Test.YtamoanhjajnahaaRows
import Derived.Test.YtamoanhjajnahaaBase
import Derived.Test.YtamoanhjajnahaaSlice
import Derived.Test.YtamoanhjajnahaaLawS
import Derived.Test.YtamoanhjajnahaaMark
import Derived.Test.YtamoanhjajnahaaInts
import Derived.Test.YtamoanhjajnahaaIntsL
import Derived.Test.YtamoanhjajnahaaTurned
import Derived.Test.YtamoanhjajnahaaOpen
namespace Go.Proofs.Ytamoanhjajnahaa
open Go.RowKit Go.ChangeShapes Go.WideShapes Go.Sort

/-- What a transition reads as. -/
structure TrD where
  n : Nat
  m : Nat
  l : Nat
  X : Nat → Int
  Y : Nat → Int
  U : Nat → Int
  V : Nat → Int
  P : Nat → Int
  c : Int
def Trn (w : World) (v : Value) (d : TrD) : Prop := ∃ f t p, v = .agg #[f, t, .int .i64 d.c, p] ∧ Spots w f d.n d.X d.Y ∧ Spots w t d.m d.U d.V ∧ Ints w p d.l d.P
theorem Trn.up {w w' : World} {v : Value} {d : TrD} (h : Trn w v d) (hb : Below w.heap.size w w') : Trn w' v d := by
  obtain ⟨f, t, p, e, h1, h2, h3⟩ := h
  exact ⟨f, t, p, e, h1.up hb, h2.up hb, h3.up hb⟩
/-- .. in memory of its own, each slice in a block of its own. -/
def OwnT (base : Nat) (w : World) (v : Value) (d : TrD) : Prop := ∃ f t p, v = .agg #[f, t, .int .i64 d.c, p] ∧ OwnS base w f d.n d.X d.Y ∧ OwnS base w t d.m d.U d.V ∧ OwnI base w p d.l d.P ∧
  (0 < d.n → 0 < d.m → f.ownBlock ≠ t.ownBlock) ∧ (0 < d.n → 0 < d.l → f.ownBlock ≠ p.ownBlock) ∧ (0 < d.m → 0 < d.l → t.ownBlock ≠ p.ownBlock)
section
variable {base lo hi : Nat} {w w' : World} {v : Value} {d : TrD}
theorem OwnT.trn (h : OwnT base w v d) : Trn w v d := by
  obtain ⟨f, t, p, e, h1, h2, h3, _⟩ := h
  exact ⟨f, t, p, e, h1.spots, h2.spots, h3.ints⟩
theorem OwnT.up (h : OwnT base w v d) (hb : Below w.heap.size w w') : OwnT base w' v d := by
  obtain ⟨f, t, p, e, h1, h2, h3, h4⟩ := h
  exact ⟨f, t, p, e, h1.up hb, h2.up hb, h3.up hb, h4⟩
theorem OwnT.more (h : OwnT base w v d) {base' : Nat} (hb : base' ≤ base) : OwnT base' w v d := by
  obtain ⟨f, t, p, e, h1, h2, h3, h4⟩ := h
  exact ⟨f, t, p, e, h1.more hb, h2.more hb, h3.more hb, h4⟩
theorem OwnT.turn (h : OwnT base w v d) (ht : Turned lo hi w w') (hb : hi ≤ base) : OwnT base w' v d := by
  obtain ⟨f, t, p, e, h1, h2, h3, h4⟩ := h
  exact ⟨f, t, p, e, h1.turn ht hb, h2.turn ht hb, h3.turn ht hb, h4⟩
theorem Trn.turn {wb : World} {d0 : TrD} (h0 : Trn wb v d0) (hn : d0.n = d.n) (hm : d0.m = d.m) (hl : d0.l = d.l) (h : Trn w v d) (ht : Turned lo hi w w') (h1 : lo ≤ w.heap.size) (hb : wb.heap.size ≤ lo) : Trn w' v d := by
  obtain ⟨f, t, p, e, g1, g2, g3⟩ := h
  obtain ⟨f', t', p', e', k1, k2, k3⟩ := h0
  rw [e] at e'
  simp only [Value.agg.injEq, Array.mk.injEq, List.cons.injEq, and_true] at e'
  obtain ⟨rfl, rfl, _, rfl⟩ := e'
  rw [hn] at k1
  rw [hm] at k2
  rw [hl] at k3
  exact ⟨f, t, p, e, Spots.turn k1 g1 ht h1 hb, Spots.turn k2 g2 ht h1 hb, Ints.turn k3 g3 ht h1 hb⟩
end
theorem own_neS {base : Nat} {w1 w : World} {f t : Value} {n m : Nat} {X Y U V : Nat → Int} (hf : Spots w1 f n X Y) (ht : OwnS base w t m U V) (hb : w1.heap.size ≤ base) : 0 < n → 0 < m → f.ownBlock ≠ t.ownBlock := by
  intro hn hm
  obtain ⟨A, c, rfl, _, hr⟩ := hf
  obtain ⟨b, o, rfl, h1⟩ := hr hn
  obtain ⟨A', c', rfl, _, hr'⟩ := ht
  obtain ⟨b', o', rfl, h2, _⟩ := hr' hm
  have := h1.lt hn
  simp [Value.ownBlock]
  omega
theorem own_neI {base : Nat} {w1 w : World} {f t : Value} {n m : Nat} {X Y P : Nat → Int} (hf : Spots w1 f n X Y) (ht : OwnI base w t m P) (hb : w1.heap.size ≤ base) : 0 < n → 0 < m → f.ownBlock ≠ t.ownBlock := by
  intro hn hm
  obtain ⟨A, c, rfl, _, hr⟩ := hf
  obtain ⟨b, o, rfl, h1⟩ := hr hn
  obtain ⟨A', c', rfl, _, hr'⟩ := ht
  obtain ⟨b', o', rfl, h2, _⟩ := hr' hm
  have := h1.lt hn
  simp [Value.ownBlock]
  omega
theorem OwnS.shape {base : Nat} {w : World} {v : Value} {n : Nat} {X Y : Nat → Int} (h : OwnS base w v n X Y) : ∃ A c, v = .slice A n c ∧ n ≤ c := by
  obtain ⟨A, c, e, hc, _⟩ := h
  exact ⟨A, c, e, hc⟩
theorem OwnI.shape {base : Nat} {w : World} {v : Value} {n : Nat} {X : Nat → Int} (h : OwnI base w v n X) : ∃ A c, v = .slice A n c ∧ n ≤ c := by
  obtain ⟨A, c, e, hc, _⟩ := h
  exact ⟨A, c, e, hc⟩
theorem Spots.shape {w : World} {v : Value} {n : Nat} {X Y : Nat → Int} (h : Spots w v n X Y) : ∃ A c, v = .slice A n c ∧ n ≤ c := by
  obtain ⟨A, c, e, hc, _⟩ := h
  exact ⟨A, c, e, hc⟩
theorem Ints.shape {w : World} {v : Value} {n : Nat} {X : Nat → Int} (h : Ints w v n X) : ∃ A c, v = .slice A n c ∧ n ≤ c := by
  obtain ⟨A, c, e, hc, _⟩ := h
  exact ⟨A, c, e, hc⟩
/-- Returned: a transition in new memory (and a Bool); nothing that was there has turned. -/
def AnsT (w : World) (d : TrD) (e : Ending) (w' : World) : Prop := ∃ v, e = .returned v ∧ OwnT w.heap.size w' v d ∧ Below w.heap.size w w'
def AnsTB (w : World) (d : TrD) (q : Bool) (e : Ending) (w' : World) : Prop := ∃ v, e = .returned (.tuple #[v, .bool q]) ∧ OwnT w.heap.size w' v d ∧ Below w.heap.size w w'
def TrD.zero : TrD := ⟨0, 0, 0, fun _ => 0, fun _ => 0, fun _ => 0, fun _ => 0, fun _ => 0, 0⟩
theorem OwnT.zero {base : Nat} {w : World} : OwnT base w (.agg #[.slice none 0 0, .slice none 0 0, .int .i64 0, .slice none 0 0]) TrD.zero :=
  ⟨_, _, _, rfl, ⟨_, _, rfl, Nat.le_refl _, fun h => absurd h (by simp [TrD.zero])⟩, ⟨_, _, rfl, Nat.le_refl _, fun h => absurd h (by simp [TrD.zero])⟩, ⟨_, _, rfl, Nat.le_refl _, fun h => absurd h (by simp [TrD.zero])⟩,
    fun h => absurd h (by simp [TrD.zero]), fun h => absurd h (by simp [TrD.zero]), fun h => absurd h (by simp [TrD.zero])⟩
theorem Turned.set {lo hi : Nat} {w : World} {b o : Nat} (h1 : lo ≤ b) (h2 : b < hi) (v : Value) : Turned lo hi w (w.setCell ⟨b, o, none⟩ v) :=
  ⟨rfl, rfl, rfl, by rw [size_set]; exact Nat.le_refl _, fun k hk hr => Below.heap_setCell w ⟨b, o, none⟩ v k (fun e => by simp at e; omega)⟩
set_option maxRecDepth 100000 in
set_option maxHeartbeats 2000000 in
theorem eqTransition_g (v v' : Value) (d : TrD) (w : World) (h : Trn w v d) (h' : Trn w v' d) (hn : d.n ≤ 1048576) (hm : d.m ≤ 1048576) (hl : d.l ≤ 1048576) :
    Calls Try.prog 47 #[v, v'] w (Ans w (.bool true)) := by
  obtain ⟨f, t, p, rfl, hf, ht, hp⟩ := h
  obtain ⟨f', t', p', rfl, hf', ht', hp'⟩ := h'
  go_enter Try.func47, Try.ntmps47
  go_wp2_with fail
  generalize hW : World.alloc _ _ = W0 at *
  have hbW : Below w.heap.size w W0 := by subst hW; (repeat (first | with_reducible exact Below.refl _ _ | with_reducible assumption | with_reducible refine up_alloc ?_ _ | with_reducible refine up_drew ?_ | with_reducible refine up_drewN ?_ _ | (with_reducible refine up_set ?_ ?hset _; case hset => first | (simp; done) | (simp; omega) | omega) | with_reducible refine up_trans ?_ (by with_reducible assumption)))
  have k1 : W0.cell? ⟨w.heap.size, 0, none⟩ = some (f) := by subst hW; simp [go_sem]
  have k2 : W0.cell? ⟨w.heap.size, 1, none⟩ = some (t) := by subst hW; simp [go_sem]
  have k3 : W0.cell? ⟨w.heap.size, 2, none⟩ = some (.int .i64 d.c) := by subst hW; simp [go_sem]
  have k4 : W0.cell? ⟨w.heap.size, 3, none⟩ = some (p) := by subst hW; simp [go_sem]
  have k5 : W0.cell? ⟨w.heap.size + 1, 0, none⟩ = some (f') := by subst hW; simp [go_sem]
  have k6 : W0.cell? ⟨w.heap.size + 1, 1, none⟩ = some (t') := by subst hW; simp [go_sem]
  have k7 : W0.cell? ⟨w.heap.size + 1, 2, none⟩ = some (.int .i64 d.c) := by subst hW; simp [go_sem]
  have k8 : W0.cell? ⟨w.heap.size + 1, 3, none⟩ = some (p') := by subst hW; simp [go_sem]
  clear hW
  refine (eqSpotS_g f f' d.n d.X d.Y _ (hf.up hbW) (hf'.up hbW) hn).mono ?_
  rintro e w1 ⟨rfl, hb1⟩
  have k9 := up_keep hb1 k1
  have k10 := up_keep hb1 k2
  have k11 := up_keep hb1 k3
  have k12 := up_keep hb1 k4
  have k13 := up_keep hb1 k5
  have k14 := up_keep hb1 k6
  have k15 := up_keep hb1 k7
  have k16 := up_keep hb1 k8
  have hbw1 := up_trans hbW hb1
  go_wp2_with fail
  refine (eqSpotS_g t t' d.m d.U d.V _ (ht.up hbw1) (ht'.up hbw1) hm).mono ?_
  rintro e w2 ⟨rfl, hb2⟩
  have k17 := up_keep hb2 k9
  have k18 := up_keep hb2 k10
  have k19 := up_keep hb2 k11
  have k20 := up_keep hb2 k12
  have k21 := up_keep hb2 k13
  have k22 := up_keep hb2 k14
  have k23 := up_keep hb2 k15
  have k24 := up_keep hb2 k16
  have hbw2 := up_trans hbw1 hb2
  have hcc : (d.c != d.c) = false := by simp
  go_wp2_with fail
  refine (eqIntS_g p p' d.l d.P _ (hp.up hbw2) (hp'.up hbw2) hl).mono ?_
  rintro e w3 ⟨rfl, hb3⟩
  have k25 := up_keep hb3 k17
  have k26 := up_keep hb3 k18
  have k27 := up_keep hb3 k19
  have k28 := up_keep hb3 k20
  have k29 := up_keep hb3 k21
  have k30 := up_keep hb3 k22
  have k31 := up_keep hb3 k23
  have k32 := up_keep hb3 k24
  go_wp2_with fail
  go_ret
  exact Ans.bool rfl (up_trans hbw2 hb3)
/-- A transition with the marks from k0 on. -/
def TrD.mark (d : TrD) (k0 : Int) : TrD := { d with X := fun i => k0 + 2 * i, Y := fun i => k0 + 2 * i + 1, U := fun i => k0 + 2 * d.n + 2 * i, V := fun i => k0 + 2 * d.n + 2 * i + 1, P := fun i => k0 + 2 * d.n + 2 * d.m + i }
def MarkAnsT (base : Nat) (v : Value) (d : TrD) (k0 : Int) (w : World) (e : Ending) (w' : World) : Prop :=
  e = .returned (.int .i64 (k0 + 2 * d.n + 2 * d.m + d.l)) ∧ OwnT base w' v (d.mark k0) ∧ ∀ wx dx, Trn wx v dx → dx.n = d.n → dx.m = d.m → dx.l = d.l → Turned base wx.heap.size w w'
theorem OwnS.only {base : Nat} {w w' : World} {t : Value} {m : Nat} {U V : Nat → Int} {row : Option Nat} (h : OwnS base w t m U V) (hg : w.grownBy w' row) (hr : 0 < m → row ≠ t.ownBlock) : OwnS base w' t m U V := by
  obtain ⟨A, c, rfl, hc, hrow⟩ := h
  refine ⟨A, c, rfl, hc, fun hm => ?_⟩
  obtain ⟨b, o, rfl, h1, h2, h3⟩ := hrow hm
  have := hr hm
  exact ⟨b, o, rfl, h1, h2.only (h3.lt hm) hg this, h3.only hg this⟩
theorem OwnI.only {base : Nat} {w w' : World} {t : Value} {m : Nat} {U : Nat → Int} {row : Option Nat} (h : OwnI base w t m U) (hg : w.grownBy w' row) (hr : 0 < m → row ≠ t.ownBlock) : OwnI base w' t m U := by
  obtain ⟨A, c, rfl, hc, hrow⟩ := h
  refine ⟨A, c, rfl, hc, fun hm => ?_⟩
  obtain ⟨b, o, rfl, h1, h2, h3⟩ := hrow hm
  have := hr hm
  exact ⟨b, o, rfl, h1, h2.only (h3.lt hm) hg this, h3.only hg this⟩
theorem own_someS {base : Nat} {w : World} {t : Value} {m : Nat} {U V : Nat → Int} (h : OwnS base w t m U V) (hm : 0 < m) : t.ownBlock ≠ none := by
  obtain ⟨A, c, rfl, hc, hrow⟩ := h
  obtain ⟨b, o, rfl, _⟩ := hrow hm
  simp [Value.ownBlock]
theorem own_someI {base : Nat} {w : World} {t : Value} {m : Nat} {U : Nat → Int} (h : OwnI base w t m U) (hm : 0 < m) : t.ownBlock ≠ none := by
  obtain ⟨A, c, rfl, hc, hrow⟩ := h
  obtain ⟨b, o, rfl, _⟩ := hrow hm
  simp [Value.ownBlock]
theorem row_ne {n m : Nat} {f t : Value} (h : 0 < n → 0 < m → f.ownBlock ≠ t.ownBlock) (ht : 0 < m → t.ownBlock ≠ none) : 0 < m → (if n = 0 then none else f.ownBlock) ≠ t.ownBlock := by
  intro hm
  split
  · exact fun e => ht hm e.symm
  · exact h (by omega) hm
set_option maxRecDepth 100000 in
set_option maxHeartbeats 2000000 in
theorem markTransition_g (base : Nat) (v : Value) (d : TrD) (k0 : Int) (w : World) (h : OwnT base w v d) (hn : d.n ≤ 1048576) (hm : d.m ≤ 1048576) (hl : d.l ≤ 1048576) (hk0 : 0 ≤ k0) (hk1 : k0 ≤ 8388608) :
    Calls Try.prog 50 #[v, .int .i64 k0] w (MarkAnsT base v d k0 w) := by
  obtain ⟨f, t, p, rfl, hf, ht, hp, n1, n2, n3⟩ := h
  go_enter Try.func50, Try.ntmps50
  go_wp2_with fail
  generalize hW : World.alloc _ _ = W0 at *
  have hbW : Below w.heap.size w W0 := by subst hW; (repeat (first | with_reducible exact Below.refl _ _ | with_reducible assumption | with_reducible refine up_alloc ?_ _ | with_reducible refine up_drew ?_ | with_reducible refine up_drewN ?_ _ | (with_reducible refine up_set ?_ ?hset _; case hset => first | (simp; done) | (simp; omega) | omega) | with_reducible refine up_trans ?_ (by with_reducible assumption)))
  have k1 : W0.cell? ⟨w.heap.size, 0, none⟩ = some (f) := by subst hW; simp [go_sem]
  have k2 : W0.cell? ⟨w.heap.size, 1, none⟩ = some (t) := by subst hW; simp [go_sem]
  have k3 : W0.cell? ⟨w.heap.size, 2, none⟩ = some (.int .i64 d.c) := by subst hW; simp [go_sem]
  have k4 : W0.cell? ⟨w.heap.size, 3, none⟩ = some (p) := by subst hW; simp [go_sem]
  clear hW
  have hT0 : ∀ hi, Turned base hi w W0 := fun hi => Turned.of_below hbW
  refine (markSpotS_g base f d.n d.X d.Y k0 _ (hf.up hbW) hn hk0 (by omega)).mono ?_
  rintro e w1 ⟨rfl, hg1, hm1⟩
  have Tw1 := fun wx (hx : Spots wx f d.n d.X d.Y) => markS_turned (hf.up hbW) hx hg1
  have k5 := (Tw1 w hf.spots).cell k1 (.inr (Nat.le_refl _))
  have k6 := (Tw1 w hf.spots).cell k2 (.inr (Nat.le_refl _))
  have k7 := (Tw1 w hf.spots).cell k3 (.inr (Nat.le_refl _))
  have k8 := (Tw1 w hf.spots).cell k4 (.inr (Nat.le_refl _))
  have ht1 := (ht.up hbW).only hg1 (row_ne n1 (own_someS ht))
  have hp1 := (hp.up hbW).only hg1 (row_ne n2 (own_someI hp))
  go_wp2_with fail
  refine (markSpotS_g base t d.m d.U d.V (k0 + 2 * d.n) _ ht1 hm (by omega) (by omega)).mono ?_
  rintro e w2 ⟨rfl, hg2, hm2⟩
  have Tw2 := fun wx (hx : Spots wx t d.m d.U d.V) => markS_turned ht1 hx hg2
  have k9 := (Tw2 w ht.spots).cell k5 (.inr (Nat.le_refl _))
  have k10 := (Tw2 w ht.spots).cell k6 (.inr (Nat.le_refl _))
  have k11 := (Tw2 w ht.spots).cell k7 (.inr (Nat.le_refl _))
  have k12 := (Tw2 w ht.spots).cell k8 (.inr (Nat.le_refl _))
  have hm1b := hm1.only hg2 (row_ne (fun a b => (n1 b a).symm) (own_someS hm1))
  have hp2 := hp1.only hg2 (row_ne n3 (own_someI hp1))
  go_wp2_with fail
  refine (markIntS_g base p d.l d.P (k0 + 2 * d.n + 2 * d.m) _ hp2 hl (by omega) (by omega)).mono ?_
  rintro e w3 ⟨rfl, hg3, hm3⟩
  have hm1c := hm1b.only hg3 (row_ne (fun a b => (n2 b a).symm) (own_someS hm1b))
  have hm2c := hm2.only hg3 (row_ne (fun a b => (n3 b a).symm) (own_someS hm2))
  go_wp2_with fail
  go_ret
  refine ⟨rfl, ⟨f, t, p, rfl, hm1c, hm2c, hm3, n1, n2, n3⟩, ?_⟩
  intro wx dx hx e1 e2 e3
  obtain ⟨f', t', p', e, x1, x2, x3⟩ := hx
  simp only [Value.agg.injEq, Array.mk.injEq, List.cons.injEq, and_true] at e
  obtain ⟨rfl, rfl, _, rfl⟩ := e
  rw [e1] at x1
  rw [e2] at x2
  rw [e3] at x3
  exact (((hT0 _).trans (markS_turned (hf.up hbW) x1 hg1)).trans (markS_turned ht1 x2 hg2)).trans (markI_turned hp2 x3 hg3)
set_option maxRecDepth 100000 in
set_option maxHeartbeats 2000000 in
theorem heldTransition_g (v : Value) (d : TrD) (k0 : Int) (w : World) (h : Trn w v (d.mark k0)) (hn : d.n ≤ 1048576) (hm : d.m ≤ 1048576) (hl : d.l ≤ 1048576) (hk0 : 0 ≤ k0) (hk1 : k0 ≤ 8388608) :
    Calls Try.prog 51 #[v, .int .i64 k0] w (Ans w (.int .i64 (k0 + 2 * d.n + 2 * d.m + d.l))) := by
  obtain ⟨f, t, p, rfl, hf, ht, hp⟩ := h
  simp only [TrD.mark] at hf ht hp
  go_enter Try.func51, Try.ntmps51
  go_wp2_with fail
  generalize hW : World.alloc _ _ = W0 at *
  have hbW : Below w.heap.size w W0 := by subst hW; (repeat (first | with_reducible exact Below.refl _ _ | with_reducible assumption | with_reducible refine up_alloc ?_ _ | with_reducible refine up_drew ?_ | with_reducible refine up_drewN ?_ _ | (with_reducible refine up_set ?_ ?hset _; case hset => first | (simp; done) | (simp; omega) | omega) | with_reducible refine up_trans ?_ (by with_reducible assumption)))
  have k1 : W0.cell? ⟨w.heap.size, 0, none⟩ = some (f) := by subst hW; simp [go_sem]
  have k2 : W0.cell? ⟨w.heap.size, 1, none⟩ = some (t) := by subst hW; simp [go_sem]
  have k3 : W0.cell? ⟨w.heap.size, 2, none⟩ = some (.int .i64 (d.mark k0).c) := by subst hW; simp [go_sem]
  have k4 : W0.cell? ⟨w.heap.size, 3, none⟩ = some (p) := by subst hW; simp [go_sem]
  clear hW
  refine (heldSpotS_g f d.n k0 _ (hf.up hbW) hn hk0 (by omega)).mono ?_
  rintro e w1 ⟨rfl, hb1⟩
  have k5 := up_keep hb1 k1
  have k6 := up_keep hb1 k2
  have k7 := up_keep hb1 k3
  have k8 := up_keep hb1 k4
  have hbw1 := up_trans hbW hb1
  go_wp2_with fail
  refine (heldSpotS_g t d.m (k0 + 2 * d.n) _ (ht.up hbw1) hm (by omega) (by omega)).mono ?_
  rintro e w2 ⟨rfl, hb2⟩
  have k9 := up_keep hb2 k5
  have k10 := up_keep hb2 k6
  have k11 := up_keep hb2 k7
  have k12 := up_keep hb2 k8
  have hbw2 := up_trans hbw1 hb2
  go_wp2_with fail
  refine (heldIntS_g p d.l (k0 + 2 * d.n + 2 * d.m) _ (hp.up hbw2) hl (by omega) (by omega)).mono ?_
  rintro e w3 ⟨rfl, hb3⟩
  have k13 := up_keep hb3 k9
  have k14 := up_keep hb3 k10
  have k15 := up_keep hb3 k11
  have k16 := up_keep hb3 k12
  go_wp2_with fail
  go_ret
  exact Ans.int rfl (up_trans hbw2 hb3)
end Go.Proofs.Ytamoanhjajnahaa
