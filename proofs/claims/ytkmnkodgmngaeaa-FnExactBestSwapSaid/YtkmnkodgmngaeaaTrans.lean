/-
  Transitions: words, the laws' helpers on them.
-/
import Derived.Test.YtkmnkodgmngaeaaRows
import Derived.Test.YtkmnkodgmngaeaaBase
import Derived.Test.YtkmnkodgmngaeaaSlice
import Derived.Test.YtkmnkodgmngaeaaLawS
import Derived.Test.YtkmnkodgmngaeaaMark
import Derived.Test.YtkmnkodgmngaeaaInts
import Derived.Test.YtkmnkodgmngaeaaIntsL
import Derived.Test.YtkmnkodgmngaeaaTurned
import Derived.Test.YtkmnkodgmngaeaaOpen
namespace Go.Proofs.Ytkmnkodgmngaeaa
open Go.RowKit Go.ChangeShapes Go.WideShapes Go.Sort

/-- What a transition reads as. -/
structure TrD where
  n : Nat
  m : Nat
  l : Nat
  X : Nat → Int
  Y : Nat → Int
  U : Nat → Int
  V : Nat → Int
  P : Nat → Int
  c : Int
def Trn (w : World) (v : Value) (d : TrD) : Prop := ∃ f t p, v = .agg #[f, t, .int .i64 d.c, p] ∧ Spots w f d.n d.X d.Y ∧ Spots w t d.m d.U d.V ∧ Ints w p d.l d.P
theorem Trn.up {w w' : World} {v : Value} {d : TrD} (h : Trn w v d) (hb : Below w.heap.size w w') : Trn w' v d := by
  obtain ⟨f, t, p, e, h1, h2, h3⟩ := h
  exact ⟨f, t, p, e, h1.up hb, h2.up hb, h3.up hb⟩
/-- .. in memory of its own, each slice in a block of its own. -/
def OwnT (base : Nat) (w : World) (v : Value) (d : TrD) : Prop := ∃ f t p, v = .agg #[f, t, .int .i64 d.c, p] ∧ OwnS base w f d.n d.X d.Y ∧ OwnS base w t d.m d.U d.V ∧ OwnI base w p d.l d.P ∧
  (0 < d.n → 0 < d.m → f.ownBlock ≠ t.ownBlock) ∧ (0 < d.n → 0 < d.l → f.ownBlock ≠ p.ownBlock) ∧ (0 < d.m → 0 < d.l → t.ownBlock ≠ p.ownBlock)
section
variable {base lo hi : Nat} {w w' : World} {v : Value} {d : TrD}
theorem OwnT.trn (h : OwnT base w v d) : Trn w v d := by
  obtain ⟨f, t, p, e, h1, h2, h3, _⟩ := h
  exact ⟨f, t, p, e, h1.spots, h2.spots, h3.ints⟩
theorem OwnT.up (h : OwnT base w v d) (hb : Below w.heap.size w w') : OwnT base w' v d := by
  obtain ⟨f, t, p, e, h1, h2, h3, h4⟩ := h
  exact ⟨f, t, p, e, h1.up hb, h2.up hb, h3.up hb, h4⟩
theorem OwnT.more (h : OwnT base w v d) {base' : Nat} (hb : base' ≤ base) : OwnT base' w v d := by
  obtain ⟨f, t, p, e, h1, h2, h3, h4⟩ := h
  exact ⟨f, t, p, e, h1.more hb, h2.more hb, h3.more hb, h4⟩
theorem OwnT.turn (h : OwnT base w v d) (ht : Turned lo hi w w') (hb : hi ≤ base) : OwnT base w' v d := by
  obtain ⟨f, t, p, e, h1, h2, h3, h4⟩ := h
  exact ⟨f, t, p, e, h1.turn ht hb, h2.turn ht hb, h3.turn ht hb, h4⟩
theorem Trn.turn {wb : World} {d0 : TrD} (h0 : Trn wb v d0) (hn : d0.n = d.n) (hm : d0.m = d.m) (hl : d0.l = d.l) (h : Trn w v d) (ht : Turned lo hi w w') (h1 : lo ≤ w.heap.size) (hb : wb.heap.size ≤ lo) : Trn w' v d := by
  obtain ⟨f, t, p, e, g1, g2, g3⟩ := h
  obtain ⟨f', t', p', e', k1, k2, k3⟩ := h0
  rw [e] at e'
  simp only [Value.agg.injEq, Array.mk.injEq, List.cons.injEq, and_true] at e'
  obtain ⟨rfl, rfl, _, rfl⟩ := e'
  rw [hn] at k1
  rw [hm] at k2
  rw [hl] at k3
  exact ⟨f, t, p, e, Spots.turn k1 g1 ht h1 hb, Spots.turn k2 g2 ht h1 hb, Ints.turn k3 g3 ht h1 hb⟩
end
theorem own_neS {base : Nat} {w1 w : World} {f t : Value} {n m : Nat} {X Y U V : Nat → Int} (hf : Spots w1 f n X Y) (ht : OwnS base w t m U V) (hb : w1.heap.size ≤ base) : 0 < n → 0 < m → f.ownBlock ≠ t.ownBlock := by
  intro hn hm
  obtain ⟨A, c, rfl, _, hr⟩ := hf
  obtain ⟨b, o, rfl, h1⟩ := hr hn
  obtain ⟨A', c', rfl, _, hr'⟩ := ht
  obtain ⟨b', o', rfl, h2, _⟩ := hr' hm
  have := h1.lt hn
  simp [Value.ownBlock]
  omega
theorem own_neI {base : Nat} {w1 w : World} {f t : Value} {n m : Nat} {X Y P : Nat → Int} (hf : Spots w1 f n X Y) (ht : OwnI base w t m P) (hb : w1.heap.size ≤ base) : 0 < n → 0 < m → f.ownBlock ≠ t.ownBlock := by
  intro hn hm
  obtain ⟨A, c, rfl, _, hr⟩ := hf
  obtain ⟨b, o, rfl, h1⟩ := hr hn
  obtain ⟨A', c', rfl, _, hr'⟩ := ht
  obtain ⟨b', o', rfl, h2, _⟩ := hr' hm
  have := h1.lt hn
  simp [Value.ownBlock]
  omega
theorem OwnS.shape {base : Nat} {w : World} {v : Value} {n : Nat} {X Y : Nat → Int} (h : OwnS base w v n X Y) : ∃ A c, v = .slice A n c ∧ n ≤ c := by
  obtain ⟨A, c, e, hc, _⟩ := h
  exact ⟨A, c, e, hc⟩
theorem OwnI.shape {base : Nat} {w : World} {v : Value} {n : Nat} {X : Nat → Int} (h : OwnI base w v n X) : ∃ A c, v = .slice A n c ∧ n ≤ c := by
  obtain ⟨A, c, e, hc, _⟩ := h
  exact ⟨A, c, e, hc⟩
theorem Spots.shape {w : World} {v : Value} {n : Nat} {X Y : Nat → Int} (h : Spots w v n X Y) : ∃ A c, v = .slice A n c ∧ n ≤ c := by
  obtain ⟨A, c, e, hc, _⟩ := h
  exact ⟨A, c, e, hc⟩
theorem Ints.shape {w : World} {v : Value} {n : Nat} {X : Nat → Int} (h : Ints w v n X) : ∃ A c, v = .slice A n c ∧ n ≤ c := by
  obtain ⟨A, c, e, hc, _⟩ := h
  exact ⟨A, c, e, hc⟩
/-- Returned: a transition in new memory (and a Bool); nothing that was there has turned. -/
def AnsT (w : World) (d : TrD) (e : Ending) (w' : World) : Prop := ∃ v, e = .returned v ∧ OwnT w.heap.size w' v d ∧ Below w.heap.size w w'
def AnsTB (w : World) (d : TrD) (q : Bool) (e : Ending) (w' : World) : Prop := ∃ v, e = .returned (.tuple #[v, .bool q]) ∧ OwnT w.heap.size w' v d ∧ Below w.heap.size w w'
def TrD.zero : TrD := ⟨0, 0, 0, fun _ => 0, fun _ => 0, fun _ => 0, fun _ => 0, fun _ => 0, 0⟩
theorem OwnT.zero {base : Nat} {w : World} : OwnT base w (.agg #[.slice none 0 0, .slice none 0 0, .int .i64 0, .slice none 0 0]) TrD.zero :=
  ⟨_, _, _, rfl, ⟨_, _, rfl, Nat.le_refl _, fun h => absurd h (by simp [TrD.zero])⟩, ⟨_, _, rfl, Nat.le_refl _, fun h => absurd h (by simp [TrD.zero])⟩, ⟨_, _, rfl, Nat.le_refl _, fun h => absurd h (by simp [TrD.zero])⟩,
    fun h => absurd h (by simp [TrD.zero]), fun h => absurd h (by simp [TrD.zero]), fun h => absurd h (by simp [TrD.zero])⟩
theorem Turned.set {lo hi : Nat} {w : World} {b o : Nat} (h1 : lo ≤ b) (h2 : b < hi) (v : Value) : Turned lo hi w (w.setCell ⟨b, o, none⟩ v) :=
  ⟨rfl, rfl, rfl, by rw [size_set]; exact Nat.le_refl _, fun k hk hr => Below.heap_setCell w ⟨b, o, none⟩ v k (fun e => by simp at e; omega)⟩
set_option maxRecDepth 100000 in
set_option maxHeartbeats 4000000 in
theorem toTransition_g (v : Value) (d : TrD) (w : World) (h : Trn w v d) (hn : d.n ≤ 1048576) (hm : d.m ≤ 1048576) (hl : d.l ≤ 1048576) :
    Calls Try.prog 17 #[v] w (AnsT w d) := by
  obtain ⟨f, t, p, rfl, hf, ht, hp⟩ := h
  go_enter Try.func17, Try.ntmps17
  go_wp2_with fail
  generalize hW : World.alloc _ _ = W0 at *
  have hbW : Below w.heap.size w W0 := by subst hW; (repeat (first | with_reducible exact Below.refl _ _ | with_reducible assumption | with_reducible refine up_alloc ?_ _ | with_reducible refine up_drew ?_ | with_reducible refine up_drewN ?_ _ | (with_reducible refine up_set ?_ ?hset _; case hset => first | (simp; done) | (simp; omega) | omega) | with_reducible refine up_trans ?_ (by with_reducible assumption)))
  have k1 : W0.cell? ⟨w.heap.size, 0, none⟩ = some (f) := by subst hW; simp [go_sem]
  have k2 : W0.cell? ⟨w.heap.size, 1, none⟩ = some (t) := by subst hW; simp [go_sem]
  have k3 : W0.cell? ⟨w.heap.size, 2, none⟩ = some (.int .i64 d.c) := by subst hW; simp [go_sem]
  have k4 : W0.cell? ⟨w.heap.size, 3, none⟩ = some (p) := by subst hW; simp [go_sem]
  have k5 : W0.cell? ⟨w.heap.size + 1, 0, none⟩ = some (.slice none 0 0) := by subst hW; simp [go_sem]
  have k6 : W0.cell? ⟨w.heap.size + 1, 1, none⟩ = some (.slice none 0 0) := by subst hW; simp [go_sem]
  have k7 : W0.cell? ⟨w.heap.size + 1, 2, none⟩ = some (.int .i64 0) := by subst hW; simp [go_sem]
  have k8 : W0.cell? ⟨w.heap.size + 1, 3, none⟩ = some (.slice none 0 0) := by subst hW; simp [go_sem]
  have k9 : W0.cell? ⟨w.heap.size + 1 + 1, 0, none⟩ = some (.slice none 0 0) := by subst hW; simp [go_sem]
  have k10 : W0.cell? ⟨w.heap.size + 1 + 1, 1, none⟩ = some (.slice none 0 0) := by subst hW; simp [go_sem]
  have k11 : W0.cell? ⟨w.heap.size + 1 + 1, 2, none⟩ = some (.int .i64 0) := by subst hW; simp [go_sem]
  have k12 : W0.cell? ⟨w.heap.size + 1 + 1, 3, none⟩ = some (.slice none 0 0) := by subst hW; simp [go_sem]
  have k13 : Free W0 (w.heap.size + 1) := by subst hW; intro o; simp [go_sem]
  have k14 : Free W0 (w.heap.size + 1 + 1) := by subst hW; intro o; simp [go_sem]
  clear hW
  have hs0 : w.heap.size + 1 + 1 < W0.heap.size := lt_of_cell k9
  refine (toSpotS_g f _ _ _ _ (hf.up hbW) hn).mono ?_
  rintro e w1 ⟨v1, rfl, ho1, hb1⟩
  have k15 := k13.up (lt_of_cell k5) hb1
  have k16 := k14.up (lt_of_cell k9) hb1
  have k17 := up_keep hb1 k1
  have k18 := up_keep hb1 k2
  have k19 := up_keep hb1 k3
  have k20 := up_keep hb1 k4
  have k21 := up_keep hb1 k5
  have k22 := up_keep hb1 k6
  have k23 := up_keep hb1 k7
  have k24 := up_keep hb1 k8
  have k25 := up_keep hb1 k9
  have k26 := up_keep hb1 k10
  have k27 := up_keep hb1 k11
  have k28 := up_keep hb1 k12
  obtain ⟨A1, q1, rfl, hq1⟩ := ho1.shape
  have hs1 := hb1.size
  have hx1 := ho1.spots
  have fz28 := k15 0
  have fz29 := k15 1
  have fz30 := k15 2
  have fz31 := k15 3
  have fz32 := k16 0
  have fz33 := k16 1
  have fz34 := k16 2
  have fz35 := k16 3
  go_wp2_with fail
  have k37 := (cell_set_ne w1 (w.heap.size + 1 + 1) 0 (.slice A1 d.n q1) (w.heap.size) 0 (by omega)).trans k17
  have k38 := (cell_set_ne w1 (w.heap.size + 1 + 1) 0 (.slice A1 d.n q1) (w.heap.size) 1 (by omega)).trans k18
  have k39 := (cell_set_ne w1 (w.heap.size + 1 + 1) 0 (.slice A1 d.n q1) (w.heap.size) 2 (by omega)).trans k19
  have k40 := (cell_set_ne w1 (w.heap.size + 1 + 1) 0 (.slice A1 d.n q1) (w.heap.size) 3 (by omega)).trans k20
  have k41 := (cell_set_ne w1 (w.heap.size + 1 + 1) 0 (.slice A1 d.n q1) (w.heap.size + 1) 0 (by omega)).trans k21
  have k42 := (cell_set_ne w1 (w.heap.size + 1 + 1) 0 (.slice A1 d.n q1) (w.heap.size + 1) 1 (by omega)).trans k22
  have k43 := (cell_set_ne w1 (w.heap.size + 1 + 1) 0 (.slice A1 d.n q1) (w.heap.size + 1) 2 (by omega)).trans k23
  have k44 := (cell_set_ne w1 (w.heap.size + 1 + 1) 0 (.slice A1 d.n q1) (w.heap.size + 1) 3 (by omega)).trans k24
  have k45 := cell_set_same w1 (w.heap.size + 1 + 1) 0 _ (.slice A1 d.n q1) k25
  have k46 := (cell_set_ne w1 (w.heap.size + 1 + 1) 0 (.slice A1 d.n q1) (w.heap.size + 1 + 1) 1 (by omega)).trans k26
  have k47 := (cell_set_ne w1 (w.heap.size + 1 + 1) 0 (.slice A1 d.n q1) (w.heap.size + 1 + 1) 2 (by omega)).trans k27
  have k48 := (cell_set_ne w1 (w.heap.size + 1 + 1) 0 (.slice A1 d.n q1) (w.heap.size + 1 + 1) 3 (by omega)).trans k28
  have k49 := k15.set ⟨w.heap.size + 1 + 1, 0, none⟩ (.slice A1 d.n q1)
  have k50 := k16.set ⟨w.heap.size + 1 + 1, 0, none⟩ (.slice A1 d.n q1)
  have hszW1 : (World.setCell w1 ⟨w.heap.size + 1 + 1, 0, none⟩ (.slice A1 d.n q1)).heap.size = w1.heap.size := by simp [size_set]
  have htuW1 : Turned w.heap.size W0.heap.size w1 (World.setCell w1 ⟨w.heap.size + 1 + 1, 0, none⟩ (.slice A1 d.n q1)) := Turned.set (by omega) (by omega) _
  generalize hW : (World.setCell w1 ⟨w.heap.size + 1 + 1, 0, none⟩ (.slice A1 d.n q1)) = W1 at *
  clear hW
  have ho1 := ho1.turn htuW1 (Nat.le_refl _)
  have hbW1 := (hbW.trans (hb1.mono (by omega))).trans (htuW1.below (by omega))
  refine (toSpotS_g t _ _ _ _ (ht.up hbW1) hm).mono ?_
  rintro e w2 ⟨v2, rfl, ho2, hb2⟩
  have k51 := k49.up (lt_of_cell k41) hb2
  have k52 := k50.up (lt_of_cell k45) hb2
  have k53 := up_keep hb2 k37
  have k54 := up_keep hb2 k38
  have k55 := up_keep hb2 k39
  have k56 := up_keep hb2 k40
  have k57 := up_keep hb2 k41
  have k58 := up_keep hb2 k42
  have k59 := up_keep hb2 k43
  have k60 := up_keep hb2 k44
  have k61 := up_keep hb2 k45
  have k62 := up_keep hb2 k46
  have k63 := up_keep hb2 k47
  have k64 := up_keep hb2 k48
  obtain ⟨A2, q2, rfl, hq2⟩ := ho2.shape
  have hs2 := hb2.size
  have hx2 := ho2.spots
  have fz64 := k51 0
  have fz65 := k51 1
  have fz66 := k51 2
  have fz67 := k51 3
  have fz68 := k52 0
  have fz69 := k52 1
  have fz70 := k52 2
  have fz71 := k52 3
  go_wp2_with fail
  have k73 := (cell_set_ne w2 (w.heap.size + 1 + 1) 1 (.slice A2 d.m q2) (w.heap.size) 0 (by omega)).trans k53
  have k74 := (cell_set_ne w2 (w.heap.size + 1 + 1) 1 (.slice A2 d.m q2) (w.heap.size) 1 (by omega)).trans k54
  have k75 := (cell_set_ne w2 (w.heap.size + 1 + 1) 1 (.slice A2 d.m q2) (w.heap.size) 2 (by omega)).trans k55
  have k76 := (cell_set_ne w2 (w.heap.size + 1 + 1) 1 (.slice A2 d.m q2) (w.heap.size) 3 (by omega)).trans k56
  have k77 := (cell_set_ne w2 (w.heap.size + 1 + 1) 1 (.slice A2 d.m q2) (w.heap.size + 1) 0 (by omega)).trans k57
  have k78 := (cell_set_ne w2 (w.heap.size + 1 + 1) 1 (.slice A2 d.m q2) (w.heap.size + 1) 1 (by omega)).trans k58
  have k79 := (cell_set_ne w2 (w.heap.size + 1 + 1) 1 (.slice A2 d.m q2) (w.heap.size + 1) 2 (by omega)).trans k59
  have k80 := (cell_set_ne w2 (w.heap.size + 1 + 1) 1 (.slice A2 d.m q2) (w.heap.size + 1) 3 (by omega)).trans k60
  have k81 := (cell_set_ne w2 (w.heap.size + 1 + 1) 1 (.slice A2 d.m q2) (w.heap.size + 1 + 1) 0 (by omega)).trans k61
  have k82 := cell_set_same w2 (w.heap.size + 1 + 1) 1 _ (.slice A2 d.m q2) k62
  have k83 := (cell_set_ne w2 (w.heap.size + 1 + 1) 1 (.slice A2 d.m q2) (w.heap.size + 1 + 1) 2 (by omega)).trans k63
  have k84 := (cell_set_ne w2 (w.heap.size + 1 + 1) 1 (.slice A2 d.m q2) (w.heap.size + 1 + 1) 3 (by omega)).trans k64
  have k85 := k51.set ⟨w.heap.size + 1 + 1, 1, none⟩ (.slice A2 d.m q2)
  have k86 := k52.set ⟨w.heap.size + 1 + 1, 1, none⟩ (.slice A2 d.m q2)
  have k87 := (cell_set_ne (World.setCell w2 ⟨w.heap.size + 1 + 1, 1, none⟩ (.slice A2 d.m q2)) (w.heap.size + 1 + 1) 2 (.int .i64 d.c) (w.heap.size) 0 (by omega)).trans k73
  have k88 := (cell_set_ne (World.setCell w2 ⟨w.heap.size + 1 + 1, 1, none⟩ (.slice A2 d.m q2)) (w.heap.size + 1 + 1) 2 (.int .i64 d.c) (w.heap.size) 1 (by omega)).trans k74
  have k89 := (cell_set_ne (World.setCell w2 ⟨w.heap.size + 1 + 1, 1, none⟩ (.slice A2 d.m q2)) (w.heap.size + 1 + 1) 2 (.int .i64 d.c) (w.heap.size) 2 (by omega)).trans k75
  have k90 := (cell_set_ne (World.setCell w2 ⟨w.heap.size + 1 + 1, 1, none⟩ (.slice A2 d.m q2)) (w.heap.size + 1 + 1) 2 (.int .i64 d.c) (w.heap.size) 3 (by omega)).trans k76
  have k91 := (cell_set_ne (World.setCell w2 ⟨w.heap.size + 1 + 1, 1, none⟩ (.slice A2 d.m q2)) (w.heap.size + 1 + 1) 2 (.int .i64 d.c) (w.heap.size + 1) 0 (by omega)).trans k77
  have k92 := (cell_set_ne (World.setCell w2 ⟨w.heap.size + 1 + 1, 1, none⟩ (.slice A2 d.m q2)) (w.heap.size + 1 + 1) 2 (.int .i64 d.c) (w.heap.size + 1) 1 (by omega)).trans k78
  have k93 := (cell_set_ne (World.setCell w2 ⟨w.heap.size + 1 + 1, 1, none⟩ (.slice A2 d.m q2)) (w.heap.size + 1 + 1) 2 (.int .i64 d.c) (w.heap.size + 1) 2 (by omega)).trans k79
  have k94 := (cell_set_ne (World.setCell w2 ⟨w.heap.size + 1 + 1, 1, none⟩ (.slice A2 d.m q2)) (w.heap.size + 1 + 1) 2 (.int .i64 d.c) (w.heap.size + 1) 3 (by omega)).trans k80
  have k95 := (cell_set_ne (World.setCell w2 ⟨w.heap.size + 1 + 1, 1, none⟩ (.slice A2 d.m q2)) (w.heap.size + 1 + 1) 2 (.int .i64 d.c) (w.heap.size + 1 + 1) 0 (by omega)).trans k81
  have k96 := (cell_set_ne (World.setCell w2 ⟨w.heap.size + 1 + 1, 1, none⟩ (.slice A2 d.m q2)) (w.heap.size + 1 + 1) 2 (.int .i64 d.c) (w.heap.size + 1 + 1) 1 (by omega)).trans k82
  have k97 := cell_set_same (World.setCell w2 ⟨w.heap.size + 1 + 1, 1, none⟩ (.slice A2 d.m q2)) (w.heap.size + 1 + 1) 2 _ (.int .i64 d.c) k83
  have k98 := (cell_set_ne (World.setCell w2 ⟨w.heap.size + 1 + 1, 1, none⟩ (.slice A2 d.m q2)) (w.heap.size + 1 + 1) 2 (.int .i64 d.c) (w.heap.size + 1 + 1) 3 (by omega)).trans k84
  have k99 := k85.set ⟨w.heap.size + 1 + 1, 2, none⟩ (.int .i64 d.c)
  have k100 := k86.set ⟨w.heap.size + 1 + 1, 2, none⟩ (.int .i64 d.c)
  have hszW2 : (World.setCell (World.setCell w2 ⟨w.heap.size + 1 + 1, 1, none⟩ (.slice A2 d.m q2)) ⟨w.heap.size + 1 + 1, 2, none⟩ (.int .i64 d.c)).heap.size = w2.heap.size := by simp [size_set]
  have htuW2 : Turned w.heap.size W0.heap.size w2 (World.setCell (World.setCell w2 ⟨w.heap.size + 1 + 1, 1, none⟩ (.slice A2 d.m q2)) ⟨w.heap.size + 1 + 1, 2, none⟩ (.int .i64 d.c)) := Turned.trans (Turned.set (by omega) (by omega) _) (Turned.set (by omega) (by omega) _)
  generalize hW : (World.setCell (World.setCell w2 ⟨w.heap.size + 1 + 1, 1, none⟩ (.slice A2 d.m q2)) ⟨w.heap.size + 1 + 1, 2, none⟩ (.int .i64 d.c)) = W2 at *
  clear hW
  have ho2 := ho2.turn htuW2 (by omega)
  have ho1 := (ho1.up hb2).turn htuW2 (Nat.le_refl _)
  have hbW2 := (hbW1.trans (hb2.mono (by omega))).trans (htuW2.below (by omega))
  refine (toIntS_g p _ _ _ (hp.up hbW2) hl).mono ?_
  rintro e w3 ⟨v3, rfl, ho3, hb3⟩
  have k101 := k99.up (lt_of_cell k91) hb3
  have k102 := k100.up (lt_of_cell k95) hb3
  have k103 := up_keep hb3 k87
  have k104 := up_keep hb3 k88
  have k105 := up_keep hb3 k89
  have k106 := up_keep hb3 k90
  have k107 := up_keep hb3 k91
  have k108 := up_keep hb3 k92
  have k109 := up_keep hb3 k93
  have k110 := up_keep hb3 k94
  have k111 := up_keep hb3 k95
  have k112 := up_keep hb3 k96
  have k113 := up_keep hb3 k97
  have k114 := up_keep hb3 k98
  obtain ⟨A3, q3, rfl, hq3⟩ := ho3.shape
  have hs3 := hb3.size
  have ho2 := ho2.up hb3
  have ho1 := ho1.up hb3
  have hbw3 := hbW2.trans (hb3.mono (by omega))
  have fz114 := k101 0
  have fz115 := k101 1
  have fz116 := k101 2
  have fz117 := k101 3
  have fz118 := k102 0
  have fz119 := k102 1
  have fz120 := k102 2
  have fz121 := k102 3
  go_wp2_with fail
  have k123 := (cell_set_ne w3 (w.heap.size + 1 + 1) 3 (.slice A3 d.l q3) (w.heap.size) 0 (by omega)).trans k103
  have k124 := (cell_set_ne w3 (w.heap.size + 1 + 1) 3 (.slice A3 d.l q3) (w.heap.size) 1 (by omega)).trans k104
  have k125 := (cell_set_ne w3 (w.heap.size + 1 + 1) 3 (.slice A3 d.l q3) (w.heap.size) 2 (by omega)).trans k105
  have k126 := (cell_set_ne w3 (w.heap.size + 1 + 1) 3 (.slice A3 d.l q3) (w.heap.size) 3 (by omega)).trans k106
  have k127 := (cell_set_ne w3 (w.heap.size + 1 + 1) 3 (.slice A3 d.l q3) (w.heap.size + 1) 0 (by omega)).trans k107
  have k128 := (cell_set_ne w3 (w.heap.size + 1 + 1) 3 (.slice A3 d.l q3) (w.heap.size + 1) 1 (by omega)).trans k108
  have k129 := (cell_set_ne w3 (w.heap.size + 1 + 1) 3 (.slice A3 d.l q3) (w.heap.size + 1) 2 (by omega)).trans k109
  have k130 := (cell_set_ne w3 (w.heap.size + 1 + 1) 3 (.slice A3 d.l q3) (w.heap.size + 1) 3 (by omega)).trans k110
  have k131 := (cell_set_ne w3 (w.heap.size + 1 + 1) 3 (.slice A3 d.l q3) (w.heap.size + 1 + 1) 0 (by omega)).trans k111
  have k132 := (cell_set_ne w3 (w.heap.size + 1 + 1) 3 (.slice A3 d.l q3) (w.heap.size + 1 + 1) 1 (by omega)).trans k112
  have k133 := (cell_set_ne w3 (w.heap.size + 1 + 1) 3 (.slice A3 d.l q3) (w.heap.size + 1 + 1) 2 (by omega)).trans k113
  have k134 := cell_set_same w3 (w.heap.size + 1 + 1) 3 _ (.slice A3 d.l q3) k114
  have k135 := k101.set ⟨w.heap.size + 1 + 1, 3, none⟩ (.slice A3 d.l q3)
  have k136 := k102.set ⟨w.heap.size + 1 + 1, 3, none⟩ (.slice A3 d.l q3)
  have k137 := (cell_set_ne (World.setCell w3 ⟨w.heap.size + 1 + 1, 3, none⟩ (.slice A3 d.l q3)) (w.heap.size + 1) 0 (.slice A1 d.n q1) (w.heap.size) 0 (by omega)).trans k123
  have k138 := (cell_set_ne (World.setCell w3 ⟨w.heap.size + 1 + 1, 3, none⟩ (.slice A3 d.l q3)) (w.heap.size + 1) 0 (.slice A1 d.n q1) (w.heap.size) 1 (by omega)).trans k124
  have k139 := (cell_set_ne (World.setCell w3 ⟨w.heap.size + 1 + 1, 3, none⟩ (.slice A3 d.l q3)) (w.heap.size + 1) 0 (.slice A1 d.n q1) (w.heap.size) 2 (by omega)).trans k125
  have k140 := (cell_set_ne (World.setCell w3 ⟨w.heap.size + 1 + 1, 3, none⟩ (.slice A3 d.l q3)) (w.heap.size + 1) 0 (.slice A1 d.n q1) (w.heap.size) 3 (by omega)).trans k126
  have k141 := cell_set_same (World.setCell w3 ⟨w.heap.size + 1 + 1, 3, none⟩ (.slice A3 d.l q3)) (w.heap.size + 1) 0 _ (.slice A1 d.n q1) k127
  have k142 := (cell_set_ne (World.setCell w3 ⟨w.heap.size + 1 + 1, 3, none⟩ (.slice A3 d.l q3)) (w.heap.size + 1) 0 (.slice A1 d.n q1) (w.heap.size + 1) 1 (by omega)).trans k128
  have k143 := (cell_set_ne (World.setCell w3 ⟨w.heap.size + 1 + 1, 3, none⟩ (.slice A3 d.l q3)) (w.heap.size + 1) 0 (.slice A1 d.n q1) (w.heap.size + 1) 2 (by omega)).trans k129
  have k144 := (cell_set_ne (World.setCell w3 ⟨w.heap.size + 1 + 1, 3, none⟩ (.slice A3 d.l q3)) (w.heap.size + 1) 0 (.slice A1 d.n q1) (w.heap.size + 1) 3 (by omega)).trans k130
  have k145 := (cell_set_ne (World.setCell w3 ⟨w.heap.size + 1 + 1, 3, none⟩ (.slice A3 d.l q3)) (w.heap.size + 1) 0 (.slice A1 d.n q1) (w.heap.size + 1 + 1) 0 (by omega)).trans k131
  have k146 := (cell_set_ne (World.setCell w3 ⟨w.heap.size + 1 + 1, 3, none⟩ (.slice A3 d.l q3)) (w.heap.size + 1) 0 (.slice A1 d.n q1) (w.heap.size + 1 + 1) 1 (by omega)).trans k132
  have k147 := (cell_set_ne (World.setCell w3 ⟨w.heap.size + 1 + 1, 3, none⟩ (.slice A3 d.l q3)) (w.heap.size + 1) 0 (.slice A1 d.n q1) (w.heap.size + 1 + 1) 2 (by omega)).trans k133
  have k148 := (cell_set_ne (World.setCell w3 ⟨w.heap.size + 1 + 1, 3, none⟩ (.slice A3 d.l q3)) (w.heap.size + 1) 0 (.slice A1 d.n q1) (w.heap.size + 1 + 1) 3 (by omega)).trans k134
  have k149 := k135.set ⟨w.heap.size + 1, 0, none⟩ (.slice A1 d.n q1)
  have k150 := k136.set ⟨w.heap.size + 1, 0, none⟩ (.slice A1 d.n q1)
  have k151 := (cell_set_ne (World.setCell (World.setCell w3 ⟨w.heap.size + 1 + 1, 3, none⟩ (.slice A3 d.l q3)) ⟨w.heap.size + 1, 0, none⟩ (.slice A1 d.n q1)) (w.heap.size + 1) 1 (.slice A2 d.m q2) (w.heap.size) 0 (by omega)).trans k137
  have k152 := (cell_set_ne (World.setCell (World.setCell w3 ⟨w.heap.size + 1 + 1, 3, none⟩ (.slice A3 d.l q3)) ⟨w.heap.size + 1, 0, none⟩ (.slice A1 d.n q1)) (w.heap.size + 1) 1 (.slice A2 d.m q2) (w.heap.size) 1 (by omega)).trans k138
  have k153 := (cell_set_ne (World.setCell (World.setCell w3 ⟨w.heap.size + 1 + 1, 3, none⟩ (.slice A3 d.l q3)) ⟨w.heap.size + 1, 0, none⟩ (.slice A1 d.n q1)) (w.heap.size + 1) 1 (.slice A2 d.m q2) (w.heap.size) 2 (by omega)).trans k139
  have k154 := (cell_set_ne (World.setCell (World.setCell w3 ⟨w.heap.size + 1 + 1, 3, none⟩ (.slice A3 d.l q3)) ⟨w.heap.size + 1, 0, none⟩ (.slice A1 d.n q1)) (w.heap.size + 1) 1 (.slice A2 d.m q2) (w.heap.size) 3 (by omega)).trans k140
  have k155 := (cell_set_ne (World.setCell (World.setCell w3 ⟨w.heap.size + 1 + 1, 3, none⟩ (.slice A3 d.l q3)) ⟨w.heap.size + 1, 0, none⟩ (.slice A1 d.n q1)) (w.heap.size + 1) 1 (.slice A2 d.m q2) (w.heap.size + 1) 0 (by omega)).trans k141
  have k156 := cell_set_same (World.setCell (World.setCell w3 ⟨w.heap.size + 1 + 1, 3, none⟩ (.slice A3 d.l q3)) ⟨w.heap.size + 1, 0, none⟩ (.slice A1 d.n q1)) (w.heap.size + 1) 1 _ (.slice A2 d.m q2) k142
  have k157 := (cell_set_ne (World.setCell (World.setCell w3 ⟨w.heap.size + 1 + 1, 3, none⟩ (.slice A3 d.l q3)) ⟨w.heap.size + 1, 0, none⟩ (.slice A1 d.n q1)) (w.heap.size + 1) 1 (.slice A2 d.m q2) (w.heap.size + 1) 2 (by omega)).trans k143
  have k158 := (cell_set_ne (World.setCell (World.setCell w3 ⟨w.heap.size + 1 + 1, 3, none⟩ (.slice A3 d.l q3)) ⟨w.heap.size + 1, 0, none⟩ (.slice A1 d.n q1)) (w.heap.size + 1) 1 (.slice A2 d.m q2) (w.heap.size + 1) 3 (by omega)).trans k144
  have k159 := (cell_set_ne (World.setCell (World.setCell w3 ⟨w.heap.size + 1 + 1, 3, none⟩ (.slice A3 d.l q3)) ⟨w.heap.size + 1, 0, none⟩ (.slice A1 d.n q1)) (w.heap.size + 1) 1 (.slice A2 d.m q2) (w.heap.size + 1 + 1) 0 (by omega)).trans k145
  have k160 := (cell_set_ne (World.setCell (World.setCell w3 ⟨w.heap.size + 1 + 1, 3, none⟩ (.slice A3 d.l q3)) ⟨w.heap.size + 1, 0, none⟩ (.slice A1 d.n q1)) (w.heap.size + 1) 1 (.slice A2 d.m q2) (w.heap.size + 1 + 1) 1 (by omega)).trans k146
  have k161 := (cell_set_ne (World.setCell (World.setCell w3 ⟨w.heap.size + 1 + 1, 3, none⟩ (.slice A3 d.l q3)) ⟨w.heap.size + 1, 0, none⟩ (.slice A1 d.n q1)) (w.heap.size + 1) 1 (.slice A2 d.m q2) (w.heap.size + 1 + 1) 2 (by omega)).trans k147
  have k162 := (cell_set_ne (World.setCell (World.setCell w3 ⟨w.heap.size + 1 + 1, 3, none⟩ (.slice A3 d.l q3)) ⟨w.heap.size + 1, 0, none⟩ (.slice A1 d.n q1)) (w.heap.size + 1) 1 (.slice A2 d.m q2) (w.heap.size + 1 + 1) 3 (by omega)).trans k148
  have k163 := k149.set ⟨w.heap.size + 1, 1, none⟩ (.slice A2 d.m q2)
  have k164 := k150.set ⟨w.heap.size + 1, 1, none⟩ (.slice A2 d.m q2)
  have k165 := (cell_set_ne (World.setCell (World.setCell (World.setCell w3 ⟨w.heap.size + 1 + 1, 3, none⟩ (.slice A3 d.l q3)) ⟨w.heap.size + 1, 0, none⟩ (.slice A1 d.n q1)) ⟨w.heap.size + 1, 1, none⟩ (.slice A2 d.m q2)) (w.heap.size + 1) 2 (.int .i64 d.c) (w.heap.size) 0 (by omega)).trans k151
  have k166 := (cell_set_ne (World.setCell (World.setCell (World.setCell w3 ⟨w.heap.size + 1 + 1, 3, none⟩ (.slice A3 d.l q3)) ⟨w.heap.size + 1, 0, none⟩ (.slice A1 d.n q1)) ⟨w.heap.size + 1, 1, none⟩ (.slice A2 d.m q2)) (w.heap.size + 1) 2 (.int .i64 d.c) (w.heap.size) 1 (by omega)).trans k152
  have k167 := (cell_set_ne (World.setCell (World.setCell (World.setCell w3 ⟨w.heap.size + 1 + 1, 3, none⟩ (.slice A3 d.l q3)) ⟨w.heap.size + 1, 0, none⟩ (.slice A1 d.n q1)) ⟨w.heap.size + 1, 1, none⟩ (.slice A2 d.m q2)) (w.heap.size + 1) 2 (.int .i64 d.c) (w.heap.size) 2 (by omega)).trans k153
  have k168 := (cell_set_ne (World.setCell (World.setCell (World.setCell w3 ⟨w.heap.size + 1 + 1, 3, none⟩ (.slice A3 d.l q3)) ⟨w.heap.size + 1, 0, none⟩ (.slice A1 d.n q1)) ⟨w.heap.size + 1, 1, none⟩ (.slice A2 d.m q2)) (w.heap.size + 1) 2 (.int .i64 d.c) (w.heap.size) 3 (by omega)).trans k154
  have k169 := (cell_set_ne (World.setCell (World.setCell (World.setCell w3 ⟨w.heap.size + 1 + 1, 3, none⟩ (.slice A3 d.l q3)) ⟨w.heap.size + 1, 0, none⟩ (.slice A1 d.n q1)) ⟨w.heap.size + 1, 1, none⟩ (.slice A2 d.m q2)) (w.heap.size + 1) 2 (.int .i64 d.c) (w.heap.size + 1) 0 (by omega)).trans k155
  have k170 := (cell_set_ne (World.setCell (World.setCell (World.setCell w3 ⟨w.heap.size + 1 + 1, 3, none⟩ (.slice A3 d.l q3)) ⟨w.heap.size + 1, 0, none⟩ (.slice A1 d.n q1)) ⟨w.heap.size + 1, 1, none⟩ (.slice A2 d.m q2)) (w.heap.size + 1) 2 (.int .i64 d.c) (w.heap.size + 1) 1 (by omega)).trans k156
  have k171 := cell_set_same (World.setCell (World.setCell (World.setCell w3 ⟨w.heap.size + 1 + 1, 3, none⟩ (.slice A3 d.l q3)) ⟨w.heap.size + 1, 0, none⟩ (.slice A1 d.n q1)) ⟨w.heap.size + 1, 1, none⟩ (.slice A2 d.m q2)) (w.heap.size + 1) 2 _ (.int .i64 d.c) k157
  have k172 := (cell_set_ne (World.setCell (World.setCell (World.setCell w3 ⟨w.heap.size + 1 + 1, 3, none⟩ (.slice A3 d.l q3)) ⟨w.heap.size + 1, 0, none⟩ (.slice A1 d.n q1)) ⟨w.heap.size + 1, 1, none⟩ (.slice A2 d.m q2)) (w.heap.size + 1) 2 (.int .i64 d.c) (w.heap.size + 1) 3 (by omega)).trans k158
  have k173 := (cell_set_ne (World.setCell (World.setCell (World.setCell w3 ⟨w.heap.size + 1 + 1, 3, none⟩ (.slice A3 d.l q3)) ⟨w.heap.size + 1, 0, none⟩ (.slice A1 d.n q1)) ⟨w.heap.size + 1, 1, none⟩ (.slice A2 d.m q2)) (w.heap.size + 1) 2 (.int .i64 d.c) (w.heap.size + 1 + 1) 0 (by omega)).trans k159
  have k174 := (cell_set_ne (World.setCell (World.setCell (World.setCell w3 ⟨w.heap.size + 1 + 1, 3, none⟩ (.slice A3 d.l q3)) ⟨w.heap.size + 1, 0, none⟩ (.slice A1 d.n q1)) ⟨w.heap.size + 1, 1, none⟩ (.slice A2 d.m q2)) (w.heap.size + 1) 2 (.int .i64 d.c) (w.heap.size + 1 + 1) 1 (by omega)).trans k160
  have k175 := (cell_set_ne (World.setCell (World.setCell (World.setCell w3 ⟨w.heap.size + 1 + 1, 3, none⟩ (.slice A3 d.l q3)) ⟨w.heap.size + 1, 0, none⟩ (.slice A1 d.n q1)) ⟨w.heap.size + 1, 1, none⟩ (.slice A2 d.m q2)) (w.heap.size + 1) 2 (.int .i64 d.c) (w.heap.size + 1 + 1) 2 (by omega)).trans k161
  have k176 := (cell_set_ne (World.setCell (World.setCell (World.setCell w3 ⟨w.heap.size + 1 + 1, 3, none⟩ (.slice A3 d.l q3)) ⟨w.heap.size + 1, 0, none⟩ (.slice A1 d.n q1)) ⟨w.heap.size + 1, 1, none⟩ (.slice A2 d.m q2)) (w.heap.size + 1) 2 (.int .i64 d.c) (w.heap.size + 1 + 1) 3 (by omega)).trans k162
  have k177 := k163.set ⟨w.heap.size + 1, 2, none⟩ (.int .i64 d.c)
  have k178 := k164.set ⟨w.heap.size + 1, 2, none⟩ (.int .i64 d.c)
  have k179 := (cell_set_ne (World.setCell (World.setCell (World.setCell (World.setCell w3 ⟨w.heap.size + 1 + 1, 3, none⟩ (.slice A3 d.l q3)) ⟨w.heap.size + 1, 0, none⟩ (.slice A1 d.n q1)) ⟨w.heap.size + 1, 1, none⟩ (.slice A2 d.m q2)) ⟨w.heap.size + 1, 2, none⟩ (.int .i64 d.c)) (w.heap.size + 1) 3 (.slice A3 d.l q3) (w.heap.size) 0 (by omega)).trans k165
  have k180 := (cell_set_ne (World.setCell (World.setCell (World.setCell (World.setCell w3 ⟨w.heap.size + 1 + 1, 3, none⟩ (.slice A3 d.l q3)) ⟨w.heap.size + 1, 0, none⟩ (.slice A1 d.n q1)) ⟨w.heap.size + 1, 1, none⟩ (.slice A2 d.m q2)) ⟨w.heap.size + 1, 2, none⟩ (.int .i64 d.c)) (w.heap.size + 1) 3 (.slice A3 d.l q3) (w.heap.size) 1 (by omega)).trans k166
  have k181 := (cell_set_ne (World.setCell (World.setCell (World.setCell (World.setCell w3 ⟨w.heap.size + 1 + 1, 3, none⟩ (.slice A3 d.l q3)) ⟨w.heap.size + 1, 0, none⟩ (.slice A1 d.n q1)) ⟨w.heap.size + 1, 1, none⟩ (.slice A2 d.m q2)) ⟨w.heap.size + 1, 2, none⟩ (.int .i64 d.c)) (w.heap.size + 1) 3 (.slice A3 d.l q3) (w.heap.size) 2 (by omega)).trans k167
  have k182 := (cell_set_ne (World.setCell (World.setCell (World.setCell (World.setCell w3 ⟨w.heap.size + 1 + 1, 3, none⟩ (.slice A3 d.l q3)) ⟨w.heap.size + 1, 0, none⟩ (.slice A1 d.n q1)) ⟨w.heap.size + 1, 1, none⟩ (.slice A2 d.m q2)) ⟨w.heap.size + 1, 2, none⟩ (.int .i64 d.c)) (w.heap.size + 1) 3 (.slice A3 d.l q3) (w.heap.size) 3 (by omega)).trans k168
  have k183 := (cell_set_ne (World.setCell (World.setCell (World.setCell (World.setCell w3 ⟨w.heap.size + 1 + 1, 3, none⟩ (.slice A3 d.l q3)) ⟨w.heap.size + 1, 0, none⟩ (.slice A1 d.n q1)) ⟨w.heap.size + 1, 1, none⟩ (.slice A2 d.m q2)) ⟨w.heap.size + 1, 2, none⟩ (.int .i64 d.c)) (w.heap.size + 1) 3 (.slice A3 d.l q3) (w.heap.size + 1) 0 (by omega)).trans k169
  have k184 := (cell_set_ne (World.setCell (World.setCell (World.setCell (World.setCell w3 ⟨w.heap.size + 1 + 1, 3, none⟩ (.slice A3 d.l q3)) ⟨w.heap.size + 1, 0, none⟩ (.slice A1 d.n q1)) ⟨w.heap.size + 1, 1, none⟩ (.slice A2 d.m q2)) ⟨w.heap.size + 1, 2, none⟩ (.int .i64 d.c)) (w.heap.size + 1) 3 (.slice A3 d.l q3) (w.heap.size + 1) 1 (by omega)).trans k170
  have k185 := (cell_set_ne (World.setCell (World.setCell (World.setCell (World.setCell w3 ⟨w.heap.size + 1 + 1, 3, none⟩ (.slice A3 d.l q3)) ⟨w.heap.size + 1, 0, none⟩ (.slice A1 d.n q1)) ⟨w.heap.size + 1, 1, none⟩ (.slice A2 d.m q2)) ⟨w.heap.size + 1, 2, none⟩ (.int .i64 d.c)) (w.heap.size + 1) 3 (.slice A3 d.l q3) (w.heap.size + 1) 2 (by omega)).trans k171
  have k186 := cell_set_same (World.setCell (World.setCell (World.setCell (World.setCell w3 ⟨w.heap.size + 1 + 1, 3, none⟩ (.slice A3 d.l q3)) ⟨w.heap.size + 1, 0, none⟩ (.slice A1 d.n q1)) ⟨w.heap.size + 1, 1, none⟩ (.slice A2 d.m q2)) ⟨w.heap.size + 1, 2, none⟩ (.int .i64 d.c)) (w.heap.size + 1) 3 _ (.slice A3 d.l q3) k172
  have k187 := (cell_set_ne (World.setCell (World.setCell (World.setCell (World.setCell w3 ⟨w.heap.size + 1 + 1, 3, none⟩ (.slice A3 d.l q3)) ⟨w.heap.size + 1, 0, none⟩ (.slice A1 d.n q1)) ⟨w.heap.size + 1, 1, none⟩ (.slice A2 d.m q2)) ⟨w.heap.size + 1, 2, none⟩ (.int .i64 d.c)) (w.heap.size + 1) 3 (.slice A3 d.l q3) (w.heap.size + 1 + 1) 0 (by omega)).trans k173
  have k188 := (cell_set_ne (World.setCell (World.setCell (World.setCell (World.setCell w3 ⟨w.heap.size + 1 + 1, 3, none⟩ (.slice A3 d.l q3)) ⟨w.heap.size + 1, 0, none⟩ (.slice A1 d.n q1)) ⟨w.heap.size + 1, 1, none⟩ (.slice A2 d.m q2)) ⟨w.heap.size + 1, 2, none⟩ (.int .i64 d.c)) (w.heap.size + 1) 3 (.slice A3 d.l q3) (w.heap.size + 1 + 1) 1 (by omega)).trans k174
  have k189 := (cell_set_ne (World.setCell (World.setCell (World.setCell (World.setCell w3 ⟨w.heap.size + 1 + 1, 3, none⟩ (.slice A3 d.l q3)) ⟨w.heap.size + 1, 0, none⟩ (.slice A1 d.n q1)) ⟨w.heap.size + 1, 1, none⟩ (.slice A2 d.m q2)) ⟨w.heap.size + 1, 2, none⟩ (.int .i64 d.c)) (w.heap.size + 1) 3 (.slice A3 d.l q3) (w.heap.size + 1 + 1) 2 (by omega)).trans k175
  have k190 := (cell_set_ne (World.setCell (World.setCell (World.setCell (World.setCell w3 ⟨w.heap.size + 1 + 1, 3, none⟩ (.slice A3 d.l q3)) ⟨w.heap.size + 1, 0, none⟩ (.slice A1 d.n q1)) ⟨w.heap.size + 1, 1, none⟩ (.slice A2 d.m q2)) ⟨w.heap.size + 1, 2, none⟩ (.int .i64 d.c)) (w.heap.size + 1) 3 (.slice A3 d.l q3) (w.heap.size + 1 + 1) 3 (by omega)).trans k176
  have k191 := k177.set ⟨w.heap.size + 1, 3, none⟩ (.slice A3 d.l q3)
  have k192 := k178.set ⟨w.heap.size + 1, 3, none⟩ (.slice A3 d.l q3)
  have hszW3 : (World.setCell (World.setCell (World.setCell (World.setCell (World.setCell w3 ⟨w.heap.size + 1 + 1, 3, none⟩ (.slice A3 d.l q3)) ⟨w.heap.size + 1, 0, none⟩ (.slice A1 d.n q1)) ⟨w.heap.size + 1, 1, none⟩ (.slice A2 d.m q2)) ⟨w.heap.size + 1, 2, none⟩ (.int .i64 d.c)) ⟨w.heap.size + 1, 3, none⟩ (.slice A3 d.l q3)).heap.size = w3.heap.size := by simp [size_set]
  have htuW3 : Turned w.heap.size W0.heap.size w3 (World.setCell (World.setCell (World.setCell (World.setCell (World.setCell w3 ⟨w.heap.size + 1 + 1, 3, none⟩ (.slice A3 d.l q3)) ⟨w.heap.size + 1, 0, none⟩ (.slice A1 d.n q1)) ⟨w.heap.size + 1, 1, none⟩ (.slice A2 d.m q2)) ⟨w.heap.size + 1, 2, none⟩ (.int .i64 d.c)) ⟨w.heap.size + 1, 3, none⟩ (.slice A3 d.l q3)) := Turned.trans (Turned.trans (Turned.trans (Turned.trans (Turned.set (by omega) (by omega) _) (Turned.set (by omega) (by omega) _)) (Turned.set (by omega) (by omega) _)) (Turned.set (by omega) (by omega) _)) (Turned.set (by omega) (by omega) _)
  generalize hW : (World.setCell (World.setCell (World.setCell (World.setCell (World.setCell w3 ⟨w.heap.size + 1 + 1, 3, none⟩ (.slice A3 d.l q3)) ⟨w.heap.size + 1, 0, none⟩ (.slice A1 d.n q1)) ⟨w.heap.size + 1, 1, none⟩ (.slice A2 d.m q2)) ⟨w.heap.size + 1, 2, none⟩ (.int .i64 d.c)) ⟨w.heap.size + 1, 3, none⟩ (.slice A3 d.l q3)) = W3 at *
  clear hW
  have ho3 := ho3.turn htuW3 (by omega)
  have ho2 := ho2.turn htuW3 (by omega)
  have ho1 := ho1.turn htuW3 (Nat.le_refl _)
  have hbW3 := hbw3.trans (htuW3.below (by omega))
  refine bodyPost_ret (v := .agg #[.slice A1 d.n q1, .slice A2 d.m q2, .int .i64 d.c, .slice A3 d.l q3]) (by simp [results, Try.results17, go_sem, k183, k184, k185, k186]) rfl ?_
  exact ⟨_, rfl, ⟨_, _, _, rfl, ho1.more (by omega), ho2.more (by omega), ho3.more (by omega), own_neS hx1 ho2 (by omega), own_neI hx1 ho3 (by omega), own_neI hx2 ho3 (by omega)⟩, hbW3⟩
set_option maxRecDepth 100000 in
set_option maxHeartbeats 2000000 in
theorem szTransition_g (v : Value) (d : TrD) (left : Int) (w : World) (h : Trn w v d) (h0 : 0 ≤ left) (h1 : left ≤ 1048576) (hn : d.n ≤ 9223372036854775807) (hm : d.m ≤ 9223372036854775807) (hl : d.l ≤ 9223372036854775807) :
    Calls Try.prog 15 #[v, .int .i64 left] w (Ans w (.int .i64 (szV left (d.n + d.m + d.l)))) := by
  obtain ⟨f, t, p, rfl, hf, ht, hp⟩ := h
  by_cases g1 : (d.n : Int) ≤ left
  · have z1 := szV_pos g1
    by_cases g2 : (d.m : Int) ≤ left - d.n
    · have z2 := szV_pos g2
      by_cases g3 : (d.l : Int) ≤ left - d.n - d.m
      · have z3 := szV_pos g3
        have HE := Lib.hid (show szV left (d.n + d.m + d.l) = left - d.n - d.m - d.l by rw [szV_pos (by omega)]; omega)
        go_enter Try.func15, Try.ntmps15
        go_wp2_with fail
        generalize hW : World.alloc _ _ = W0 at *
        have hbW : Below w.heap.size w W0 := by subst hW; (repeat (first | with_reducible exact Below.refl _ _ | with_reducible assumption | with_reducible refine up_alloc ?_ _ | with_reducible refine up_drew ?_ | with_reducible refine up_drewN ?_ _ | (with_reducible refine up_set ?_ ?hset _; case hset => first | (simp; done) | (simp; omega) | omega) | with_reducible refine up_trans ?_ (by with_reducible assumption)))
        have k1 : W0.cell? ⟨w.heap.size, 0, none⟩ = some (f) := by subst hW; simp [go_sem]
        have k2 : W0.cell? ⟨w.heap.size, 1, none⟩ = some (t) := by subst hW; simp [go_sem]
        have k3 : W0.cell? ⟨w.heap.size, 2, none⟩ = some (.int .i64 d.c) := by subst hW; simp [go_sem]
        have k4 : W0.cell? ⟨w.heap.size, 3, none⟩ = some (p) := by subst hW; simp [go_sem]
        clear hW
        refine (szSpotS_g f d.n d.X d.Y _ _ (hf.up hbW) (by omega) (by omega) hn).mono ?_
        rintro e w1 ⟨rfl, hb1⟩
        have k5 := up_keep hb1 k1
        have k6 := up_keep hb1 k2
        have k7 := up_keep hb1 k3
        have k8 := up_keep hb1 k4
        have hbw1 := up_trans hbW hb1
        rw [z1]
        go_wp2_with fail
        refine (szSpotS_g t d.m d.U d.V _ _ (ht.up hbw1) (by omega) (by omega) hm).mono ?_
        rintro e w2 ⟨rfl, hb2⟩
        have k9 := up_keep hb2 k5
        have k10 := up_keep hb2 k6
        have k11 := up_keep hb2 k7
        have k12 := up_keep hb2 k8
        have hbw2 := up_trans hbw1 hb2
        rw [z2]
        go_wp2_with fail
        refine (szIntS_g p d.l d.P _ _ (hp.up hbw2) (by omega) (by omega) hl).mono ?_
        rintro e w3 ⟨rfl, hb3⟩
        have k13 := up_keep hb3 k9
        have k14 := up_keep hb3 k10
        have k15 := up_keep hb3 k11
        have k16 := up_keep hb3 k12
        have hbw3 := up_trans hbw2 hb3
        rw [z3]
        go_wp2_with fail
        go_ret
        exact Ans.int (by rw [HE.out]) (by (repeat (first | with_reducible exact Below.refl _ _ | with_reducible assumption | with_reducible refine up_alloc ?_ _ | with_reducible refine up_drew ?_ | with_reducible refine up_drewN ?_ _ | (with_reducible refine up_set ?_ ?hset _; case hset => first | (simp; done) | (simp; omega) | omega) | with_reducible refine up_trans ?_ (by with_reducible assumption))))
      · have z3 := szV_neg g3
        have HE := Lib.hid (show szV left (d.n + d.m + d.l) = -1 from szV_neg (by omega))
        go_enter Try.func15, Try.ntmps15
        go_wp2_with fail
        generalize hW : World.alloc _ _ = W0 at *
        have hbW : Below w.heap.size w W0 := by subst hW; (repeat (first | with_reducible exact Below.refl _ _ | with_reducible assumption | with_reducible refine up_alloc ?_ _ | with_reducible refine up_drew ?_ | with_reducible refine up_drewN ?_ _ | (with_reducible refine up_set ?_ ?hset _; case hset => first | (simp; done) | (simp; omega) | omega) | with_reducible refine up_trans ?_ (by with_reducible assumption)))
        have k1 : W0.cell? ⟨w.heap.size, 0, none⟩ = some (f) := by subst hW; simp [go_sem]
        have k2 : W0.cell? ⟨w.heap.size, 1, none⟩ = some (t) := by subst hW; simp [go_sem]
        have k3 : W0.cell? ⟨w.heap.size, 2, none⟩ = some (.int .i64 d.c) := by subst hW; simp [go_sem]
        have k4 : W0.cell? ⟨w.heap.size, 3, none⟩ = some (p) := by subst hW; simp [go_sem]
        clear hW
        refine (szSpotS_g f d.n d.X d.Y _ _ (hf.up hbW) (by omega) (by omega) hn).mono ?_
        rintro e w1 ⟨rfl, hb1⟩
        have k5 := up_keep hb1 k1
        have k6 := up_keep hb1 k2
        have k7 := up_keep hb1 k3
        have k8 := up_keep hb1 k4
        have hbw1 := up_trans hbW hb1
        rw [z1]
        go_wp2_with fail
        refine (szSpotS_g t d.m d.U d.V _ _ (ht.up hbw1) (by omega) (by omega) hm).mono ?_
        rintro e w2 ⟨rfl, hb2⟩
        have k9 := up_keep hb2 k5
        have k10 := up_keep hb2 k6
        have k11 := up_keep hb2 k7
        have k12 := up_keep hb2 k8
        have hbw2 := up_trans hbw1 hb2
        rw [z2]
        go_wp2_with fail
        refine (szIntS_g p d.l d.P _ _ (hp.up hbw2) (by omega) (by omega) hl).mono ?_
        rintro e w3 ⟨rfl, hb3⟩
        have k13 := up_keep hb3 k9
        have k14 := up_keep hb3 k10
        have k15 := up_keep hb3 k11
        have k16 := up_keep hb3 k12
        have hbw3 := up_trans hbw2 hb3
        rw [z3]
        go_wp2_with fail
        go_ret
        exact Ans.int (by rw [HE.out]) (by (repeat (first | with_reducible exact Below.refl _ _ | with_reducible assumption | with_reducible refine up_alloc ?_ _ | with_reducible refine up_drew ?_ | with_reducible refine up_drewN ?_ _ | (with_reducible refine up_set ?_ ?hset _; case hset => first | (simp; done) | (simp; omega) | omega) | with_reducible refine up_trans ?_ (by with_reducible assumption))))
    · have z2 := szV_neg g2
      have HE := Lib.hid (show szV left (d.n + d.m + d.l) = -1 from szV_neg (by omega))
      go_enter Try.func15, Try.ntmps15
      go_wp2_with fail
      generalize hW : World.alloc _ _ = W0 at *
      have hbW : Below w.heap.size w W0 := by subst hW; (repeat (first | with_reducible exact Below.refl _ _ | with_reducible assumption | with_reducible refine up_alloc ?_ _ | with_reducible refine up_drew ?_ | with_reducible refine up_drewN ?_ _ | (with_reducible refine up_set ?_ ?hset _; case hset => first | (simp; done) | (simp; omega) | omega) | with_reducible refine up_trans ?_ (by with_reducible assumption)))
      have k1 : W0.cell? ⟨w.heap.size, 0, none⟩ = some (f) := by subst hW; simp [go_sem]
      have k2 : W0.cell? ⟨w.heap.size, 1, none⟩ = some (t) := by subst hW; simp [go_sem]
      have k3 : W0.cell? ⟨w.heap.size, 2, none⟩ = some (.int .i64 d.c) := by subst hW; simp [go_sem]
      have k4 : W0.cell? ⟨w.heap.size, 3, none⟩ = some (p) := by subst hW; simp [go_sem]
      clear hW
      refine (szSpotS_g f d.n d.X d.Y _ _ (hf.up hbW) (by omega) (by omega) hn).mono ?_
      rintro e w1 ⟨rfl, hb1⟩
      have k5 := up_keep hb1 k1
      have k6 := up_keep hb1 k2
      have k7 := up_keep hb1 k3
      have k8 := up_keep hb1 k4
      have hbw1 := up_trans hbW hb1
      rw [z1]
      go_wp2_with fail
      refine (szSpotS_g t d.m d.U d.V _ _ (ht.up hbw1) (by omega) (by omega) hm).mono ?_
      rintro e w2 ⟨rfl, hb2⟩
      have k9 := up_keep hb2 k5
      have k10 := up_keep hb2 k6
      have k11 := up_keep hb2 k7
      have k12 := up_keep hb2 k8
      have hbw2 := up_trans hbw1 hb2
      rw [z2]
      go_wp2_with fail
      go_ret
      exact Ans.int (by rw [HE.out]) (by (repeat (first | with_reducible exact Below.refl _ _ | with_reducible assumption | with_reducible refine up_alloc ?_ _ | with_reducible refine up_drew ?_ | with_reducible refine up_drewN ?_ _ | (with_reducible refine up_set ?_ ?hset _; case hset => first | (simp; done) | (simp; omega) | omega) | with_reducible refine up_trans ?_ (by with_reducible assumption))))
  · have z1 := szV_neg g1
    have HE := Lib.hid (show szV left (d.n + d.m + d.l) = -1 from szV_neg (by omega))
    go_enter Try.func15, Try.ntmps15
    go_wp2_with fail
    generalize hW : World.alloc _ _ = W0 at *
    have hbW : Below w.heap.size w W0 := by subst hW; (repeat (first | with_reducible exact Below.refl _ _ | with_reducible assumption | with_reducible refine up_alloc ?_ _ | with_reducible refine up_drew ?_ | with_reducible refine up_drewN ?_ _ | (with_reducible refine up_set ?_ ?hset _; case hset => first | (simp; done) | (simp; omega) | omega) | with_reducible refine up_trans ?_ (by with_reducible assumption)))
    have k1 : W0.cell? ⟨w.heap.size, 0, none⟩ = some (f) := by subst hW; simp [go_sem]
    have k2 : W0.cell? ⟨w.heap.size, 1, none⟩ = some (t) := by subst hW; simp [go_sem]
    have k3 : W0.cell? ⟨w.heap.size, 2, none⟩ = some (.int .i64 d.c) := by subst hW; simp [go_sem]
    have k4 : W0.cell? ⟨w.heap.size, 3, none⟩ = some (p) := by subst hW; simp [go_sem]
    clear hW
    refine (szSpotS_g f d.n d.X d.Y _ _ (hf.up hbW) (by omega) (by omega) hn).mono ?_
    rintro e w1 ⟨rfl, hb1⟩
    have k5 := up_keep hb1 k1
    have k6 := up_keep hb1 k2
    have k7 := up_keep hb1 k3
    have k8 := up_keep hb1 k4
    have hbw1 := up_trans hbW hb1
    rw [z1]
    go_wp2_with fail
    go_ret
    exact Ans.int (by rw [HE.out]) (by (repeat (first | with_reducible exact Below.refl _ _ | with_reducible assumption | with_reducible refine up_alloc ?_ _ | with_reducible refine up_drew ?_ | with_reducible refine up_drewN ?_ _ | (with_reducible refine up_set ?_ ?hset _; case hset => first | (simp; done) | (simp; omega) | omega) | with_reducible refine up_trans ?_ (by with_reducible assumption))))
set_option maxRecDepth 100000 in
set_option maxHeartbeats 2000000 in
theorem eqTransition_g (v v' : Value) (d : TrD) (w : World) (h : Trn w v d) (h' : Trn w v' d) (hn : d.n ≤ 1048576) (hm : d.m ≤ 1048576) (hl : d.l ≤ 1048576) :
    Calls Try.prog 20 #[v, v'] w (Ans w (.bool true)) := by
  obtain ⟨f, t, p, rfl, hf, ht, hp⟩ := h
  obtain ⟨f', t', p', rfl, hf', ht', hp'⟩ := h'
  go_enter Try.func20, Try.ntmps20
  go_wp2_with fail
  generalize hW : World.alloc _ _ = W0 at *
  have hbW : Below w.heap.size w W0 := by subst hW; (repeat (first | with_reducible exact Below.refl _ _ | with_reducible assumption | with_reducible refine up_alloc ?_ _ | with_reducible refine up_drew ?_ | with_reducible refine up_drewN ?_ _ | (with_reducible refine up_set ?_ ?hset _; case hset => first | (simp; done) | (simp; omega) | omega) | with_reducible refine up_trans ?_ (by with_reducible assumption)))
  have k1 : W0.cell? ⟨w.heap.size, 0, none⟩ = some (f) := by subst hW; simp [go_sem]
  have k2 : W0.cell? ⟨w.heap.size, 1, none⟩ = some (t) := by subst hW; simp [go_sem]
  have k3 : W0.cell? ⟨w.heap.size, 2, none⟩ = some (.int .i64 d.c) := by subst hW; simp [go_sem]
  have k4 : W0.cell? ⟨w.heap.size, 3, none⟩ = some (p) := by subst hW; simp [go_sem]
  have k5 : W0.cell? ⟨w.heap.size + 1, 0, none⟩ = some (f') := by subst hW; simp [go_sem]
  have k6 : W0.cell? ⟨w.heap.size + 1, 1, none⟩ = some (t') := by subst hW; simp [go_sem]
  have k7 : W0.cell? ⟨w.heap.size + 1, 2, none⟩ = some (.int .i64 d.c) := by subst hW; simp [go_sem]
  have k8 : W0.cell? ⟨w.heap.size + 1, 3, none⟩ = some (p') := by subst hW; simp [go_sem]
  clear hW
  refine (eqSpotS_g f f' d.n d.X d.Y _ (hf.up hbW) (hf'.up hbW) hn).mono ?_
  rintro e w1 ⟨rfl, hb1⟩
  have k9 := up_keep hb1 k1
  have k10 := up_keep hb1 k2
  have k11 := up_keep hb1 k3
  have k12 := up_keep hb1 k4
  have k13 := up_keep hb1 k5
  have k14 := up_keep hb1 k6
  have k15 := up_keep hb1 k7
  have k16 := up_keep hb1 k8
  have hbw1 := up_trans hbW hb1
  go_wp2_with fail
  refine (eqSpotS_g t t' d.m d.U d.V _ (ht.up hbw1) (ht'.up hbw1) hm).mono ?_
  rintro e w2 ⟨rfl, hb2⟩
  have k17 := up_keep hb2 k9
  have k18 := up_keep hb2 k10
  have k19 := up_keep hb2 k11
  have k20 := up_keep hb2 k12
  have k21 := up_keep hb2 k13
  have k22 := up_keep hb2 k14
  have k23 := up_keep hb2 k15
  have k24 := up_keep hb2 k16
  have hbw2 := up_trans hbw1 hb2
  have hcc : (d.c != d.c) = false := by simp
  go_wp2_with fail
  refine (eqIntS_g p p' d.l d.P _ (hp.up hbw2) (hp'.up hbw2) hl).mono ?_
  rintro e w3 ⟨rfl, hb3⟩
  have k25 := up_keep hb3 k17
  have k26 := up_keep hb3 k18
  have k27 := up_keep hb3 k19
  have k28 := up_keep hb3 k20
  have k29 := up_keep hb3 k21
  have k30 := up_keep hb3 k22
  have k31 := up_keep hb3 k23
  have k32 := up_keep hb3 k24
  go_wp2_with fail
  go_ret
  exact Ans.bool rfl (up_trans hbw2 hb3)
/-- A transition with the marks from k0 on. -/
def TrD.mark (d : TrD) (k0 : Int) : TrD := { d with X := fun i => k0 + 2 * i, Y := fun i => k0 + 2 * i + 1, U := fun i => k0 + 2 * d.n + 2 * i, V := fun i => k0 + 2 * d.n + 2 * i + 1, P := fun i => k0 + 2 * d.n + 2 * d.m + i }
def MarkAnsT (base : Nat) (v : Value) (d : TrD) (k0 : Int) (w : World) (e : Ending) (w' : World) : Prop :=
  e = .returned (.int .i64 (k0 + 2 * d.n + 2 * d.m + d.l)) ∧ OwnT base w' v (d.mark k0) ∧ ∀ wx dx, Trn wx v dx → dx.n = d.n → dx.m = d.m → dx.l = d.l → Turned base wx.heap.size w w'
theorem OwnS.only {base : Nat} {w w' : World} {t : Value} {m : Nat} {U V : Nat → Int} {row : Option Nat} (h : OwnS base w t m U V) (hg : w.grownBy w' row) (hr : 0 < m → row ≠ t.ownBlock) : OwnS base w' t m U V := by
  obtain ⟨A, c, rfl, hc, hrow⟩ := h
  refine ⟨A, c, rfl, hc, fun hm => ?_⟩
  obtain ⟨b, o, rfl, h1, h2, h3⟩ := hrow hm
  have := hr hm
  exact ⟨b, o, rfl, h1, h2.only (h3.lt hm) hg this, h3.only hg this⟩
theorem OwnI.only {base : Nat} {w w' : World} {t : Value} {m : Nat} {U : Nat → Int} {row : Option Nat} (h : OwnI base w t m U) (hg : w.grownBy w' row) (hr : 0 < m → row ≠ t.ownBlock) : OwnI base w' t m U := by
  obtain ⟨A, c, rfl, hc, hrow⟩ := h
  refine ⟨A, c, rfl, hc, fun hm => ?_⟩
  obtain ⟨b, o, rfl, h1, h2, h3⟩ := hrow hm
  have := hr hm
  exact ⟨b, o, rfl, h1, h2.only (h3.lt hm) hg this, h3.only hg this⟩
theorem own_someS {base : Nat} {w : World} {t : Value} {m : Nat} {U V : Nat → Int} (h : OwnS base w t m U V) (hm : 0 < m) : t.ownBlock ≠ none := by
  obtain ⟨A, c, rfl, hc, hrow⟩ := h
  obtain ⟨b, o, rfl, _⟩ := hrow hm
  simp [Value.ownBlock]
theorem own_someI {base : Nat} {w : World} {t : Value} {m : Nat} {U : Nat → Int} (h : OwnI base w t m U) (hm : 0 < m) : t.ownBlock ≠ none := by
  obtain ⟨A, c, rfl, hc, hrow⟩ := h
  obtain ⟨b, o, rfl, _⟩ := hrow hm
  simp [Value.ownBlock]
theorem row_ne {n m : Nat} {f t : Value} (h : 0 < n → 0 < m → f.ownBlock ≠ t.ownBlock) (ht : 0 < m → t.ownBlock ≠ none) : 0 < m → (if n = 0 then none else f.ownBlock) ≠ t.ownBlock := by
  intro hm
  split
  · exact fun e => ht hm e.symm
  · exact h (by omega) hm
set_option maxRecDepth 100000 in
set_option maxHeartbeats 2000000 in
theorem markTransition_g (base : Nat) (v : Value) (d : TrD) (k0 : Int) (w : World) (h : OwnT base w v d) (hn : d.n ≤ 1048576) (hm : d.m ≤ 1048576) (hl : d.l ≤ 1048576) (hk0 : 0 ≤ k0) (hk1 : k0 ≤ 8388608) :
    Calls Try.prog 21 #[v, .int .i64 k0] w (MarkAnsT base v d k0 w) := by
  obtain ⟨f, t, p, rfl, hf, ht, hp, n1, n2, n3⟩ := h
  go_enter Try.func21, Try.ntmps21
  go_wp2_with fail
  generalize hW : World.alloc _ _ = W0 at *
  have hbW : Below w.heap.size w W0 := by subst hW; (repeat (first | with_reducible exact Below.refl _ _ | with_reducible assumption | with_reducible refine up_alloc ?_ _ | with_reducible refine up_drew ?_ | with_reducible refine up_drewN ?_ _ | (with_reducible refine up_set ?_ ?hset _; case hset => first | (simp; done) | (simp; omega) | omega) | with_reducible refine up_trans ?_ (by with_reducible assumption)))
  have k1 : W0.cell? ⟨w.heap.size, 0, none⟩ = some (f) := by subst hW; simp [go_sem]
  have k2 : W0.cell? ⟨w.heap.size, 1, none⟩ = some (t) := by subst hW; simp [go_sem]
  have k3 : W0.cell? ⟨w.heap.size, 2, none⟩ = some (.int .i64 d.c) := by subst hW; simp [go_sem]
  have k4 : W0.cell? ⟨w.heap.size, 3, none⟩ = some (p) := by subst hW; simp [go_sem]
  clear hW
  have hT0 : ∀ hi, Turned base hi w W0 := fun hi => Turned.of_below hbW
  refine (markSpotS_g base f d.n d.X d.Y k0 _ (hf.up hbW) hn hk0 (by omega)).mono ?_
  rintro e w1 ⟨rfl, hg1, hm1⟩
  have Tw1 := fun wx (hx : Spots wx f d.n d.X d.Y) => markS_turned (hf.up hbW) hx hg1
  have k5 := (Tw1 w hf.spots).cell k1 (.inr (Nat.le_refl _))
  have k6 := (Tw1 w hf.spots).cell k2 (.inr (Nat.le_refl _))
  have k7 := (Tw1 w hf.spots).cell k3 (.inr (Nat.le_refl _))
  have k8 := (Tw1 w hf.spots).cell k4 (.inr (Nat.le_refl _))
  have ht1 := (ht.up hbW).only hg1 (row_ne n1 (own_someS ht))
  have hp1 := (hp.up hbW).only hg1 (row_ne n2 (own_someI hp))
  go_wp2_with fail
  refine (markSpotS_g base t d.m d.U d.V (k0 + 2 * d.n) _ ht1 hm (by omega) (by omega)).mono ?_
  rintro e w2 ⟨rfl, hg2, hm2⟩
  have Tw2 := fun wx (hx : Spots wx t d.m d.U d.V) => markS_turned ht1 hx hg2
  have k9 := (Tw2 w ht.spots).cell k5 (.inr (Nat.le_refl _))
  have k10 := (Tw2 w ht.spots).cell k6 (.inr (Nat.le_refl _))
  have k11 := (Tw2 w ht.spots).cell k7 (.inr (Nat.le_refl _))
  have k12 := (Tw2 w ht.spots).cell k8 (.inr (Nat.le_refl _))
  have hm1b := hm1.only hg2 (row_ne (fun a b => (n1 b a).symm) (own_someS hm1))
  have hp2 := hp1.only hg2 (row_ne n3 (own_someI hp1))
  go_wp2_with fail
  refine (markIntS_g base p d.l d.P (k0 + 2 * d.n + 2 * d.m) _ hp2 hl (by omega) (by omega)).mono ?_
  rintro e w3 ⟨rfl, hg3, hm3⟩
  have hm1c := hm1b.only hg3 (row_ne (fun a b => (n2 b a).symm) (own_someS hm1b))
  have hm2c := hm2.only hg3 (row_ne (fun a b => (n3 b a).symm) (own_someS hm2))
  go_wp2_with fail
  go_ret
  refine ⟨rfl, ⟨f, t, p, rfl, hm1c, hm2c, hm3, n1, n2, n3⟩, ?_⟩
  intro wx dx hx e1 e2 e3
  obtain ⟨f', t', p', e, x1, x2, x3⟩ := hx
  simp only [Value.agg.injEq, Array.mk.injEq, List.cons.injEq, and_true] at e
  obtain ⟨rfl, rfl, _, rfl⟩ := e
  rw [e1] at x1
  rw [e2] at x2
  rw [e3] at x3
  exact (((hT0 _).trans (markS_turned (hf.up hbW) x1 hg1)).trans (markS_turned ht1 x2 hg2)).trans (markI_turned hp2 x3 hg3)
set_option maxRecDepth 100000 in
set_option maxHeartbeats 2000000 in
theorem heldTransition_g (v : Value) (d : TrD) (k0 : Int) (w : World) (h : Trn w v (d.mark k0)) (hn : d.n ≤ 1048576) (hm : d.m ≤ 1048576) (hl : d.l ≤ 1048576) (hk0 : 0 ≤ k0) (hk1 : k0 ≤ 8388608) :
    Calls Try.prog 36 #[v, .int .i64 k0] w (Ans w (.int .i64 (k0 + 2 * d.n + 2 * d.m + d.l))) := by
  obtain ⟨f, t, p, rfl, hf, ht, hp⟩ := h
  simp only [TrD.mark] at hf ht hp
  go_enter Try.func36, Try.ntmps36
  go_wp2_with fail
  generalize hW : World.alloc _ _ = W0 at *
  have hbW : Below w.heap.size w W0 := by subst hW; (repeat (first | with_reducible exact Below.refl _ _ | with_reducible assumption | with_reducible refine up_alloc ?_ _ | with_reducible refine up_drew ?_ | with_reducible refine up_drewN ?_ _ | (with_reducible refine up_set ?_ ?hset _; case hset => first | (simp; done) | (simp; omega) | omega) | with_reducible refine up_trans ?_ (by with_reducible assumption)))
  have k1 : W0.cell? ⟨w.heap.size, 0, none⟩ = some (f) := by subst hW; simp [go_sem]
  have k2 : W0.cell? ⟨w.heap.size, 1, none⟩ = some (t) := by subst hW; simp [go_sem]
  have k3 : W0.cell? ⟨w.heap.size, 2, none⟩ = some (.int .i64 (d.mark k0).c) := by subst hW; simp [go_sem]
  have k4 : W0.cell? ⟨w.heap.size, 3, none⟩ = some (p) := by subst hW; simp [go_sem]
  clear hW
  refine (heldSpotS_g f d.n k0 _ (hf.up hbW) hn hk0 (by omega)).mono ?_
  rintro e w1 ⟨rfl, hb1⟩
  have k5 := up_keep hb1 k1
  have k6 := up_keep hb1 k2
  have k7 := up_keep hb1 k3
  have k8 := up_keep hb1 k4
  have hbw1 := up_trans hbW hb1
  go_wp2_with fail
  refine (heldSpotS_g t d.m (k0 + 2 * d.n) _ (ht.up hbw1) hm (by omega) (by omega)).mono ?_
  rintro e w2 ⟨rfl, hb2⟩
  have k9 := up_keep hb2 k5
  have k10 := up_keep hb2 k6
  have k11 := up_keep hb2 k7
  have k12 := up_keep hb2 k8
  have hbw2 := up_trans hbw1 hb2
  go_wp2_with fail
  refine (heldIntS_g p d.l (k0 + 2 * d.n + 2 * d.m) _ (hp.up hbw2) hl (by omega) (by omega)).mono ?_
  rintro e w3 ⟨rfl, hb3⟩
  have k13 := up_keep hb3 k9
  have k14 := up_keep hb3 k10
  have k15 := up_keep hb3 k11
  have k16 := up_keep hb3 k12
  go_wp2_with fail
  go_ret
  exact Ans.int rfl (up_trans hbw2 hb3)
end Go.Proofs.Ytkmnkodgmngaeaa
