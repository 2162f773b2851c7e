/-
  SwapPlaces on both sides.
-/
import Derived.Test.YtkmnkodgmngaeaaRows
import Derived.Test.YtkmnkodgmngaeaaBase
import Derived.Test.YtkmnkodgmngaeaaSpot
import Derived.Test.YtkmnkodgmngaeaaSlice
import Derived.Test.YtkmnkodgmngaeaaChart
import Derived.Test.YtkmnkodgmngaeaaLawS
import Derived.Test.YtkmnkodgmngaeaaMark
import Derived.Test.YtkmnkodgmngaeaaInts
import Derived.Test.YtkmnkodgmngaeaaIntsL
import Derived.Test.YtkmnkodgmngaeaaTurned
import Derived.Test.YtkmnkodgmngaeaaTrans
import Derived.Test.YtkmnkodgmngaeaaAppend
import Derived.Test.YtkmnkodgmngaeaaAppendE
import Derived.Test.YtkmnkodgmngaeaaForm
import Derived.Test.YtkmnkodgmngaeaaMatch
import Derived.Test.YtkmnkodgmngaeaaChanged
import Derived.Test.YtkmnkodgmngaeaaIsTrans
import Derived.Test.YtkmnkodgmngaeaaCopyI
import Derived.Test.YtkmnkodgmngaeaaNewT
import Derived.Test.YtkmnkodgmngaeaaMoves
import Derived.Test.YtkmnkodgmngaeaaAppendM
import Derived.Test.YtkmnkodgmngaeaaMovesOf
import Derived.RegionTactic
import Derived.BigRegion
import Derived.ChangeAlike
import Derived.StillTailTactics
namespace Go.Proofs.Ytkmnkodgmngaeaa
open Go.RowKit Go.Sort Go.ChangeShapes Go.WideShapes

theorem cellT_drew (w : World) (p : Addr) : w.drew.cell? p = w.cell? p := rfl
theorem frozenT_drew (w : World) (p : Addr) : w.drew.frozen? p = w.frozen? p := rfl
theorem grown_drew {a w : World} {r : Option Nat} (h : a.grownBy w r) : a.grownBy w.drew r := ⟨h.os, h.tape, h.output, h.size, h.block⟩
theorem row1_drew {w : World} {b o n : Nat} {X : Nat → Int} (h : Row1 w b o n X) : Row1 w.drew b o n X := h
theorem free_drew {w : World} {b : Nat} (h : Free w b) : Free w.drew b := h
/-- The numbers with two places changed about. -/
def swP (i j : Nat) (P : Nat → Int) (t : Nat) : Int := if t = j then P i else if t = i then P j else P t
def swT (d : TrD) (i j : Nat) : TrD := ⟨d.n, d.m, d.l, d.X, d.Y, d.U, d.V, swP i j d.P, d.c⟩
theorem OwnT.places {base : Nat} {w w' : World} {f t : Value} {d : TrD} {b o l q : Nat} {c : Int} {P' : Nat → Int} (h : OwnT base w (.agg #[f, t, .int .i64 c, .slice (some ⟨b, o, none⟩) l q]) d) (hl : 0 < d.l) (hg : w.grownBy w' (some b))
    (hr : Row1 w' b o d.l P') (hf : Free w' b) : OwnT base w' (.agg #[f, t, .int .i64 c, .slice (some ⟨b, o, none⟩) l q]) ⟨d.n, d.m, d.l, d.X, d.Y, d.U, d.V, P', d.c⟩ := by
  obtain ⟨f', t', p', he, h1, h2, h3, h4, h5, h6⟩ := h
  simp only [Value.agg.injEq, Array.mk.injEq, List.cons.injEq, and_true] at he
  obtain ⟨rfl, rfl, he2, rfl⟩ := he
  refine ⟨f, t, _, by rw [he2], h1.only hg (fun hn e => h5 hn hl (by rw [← e]; rfl)), h2.only hg (fun hn e => h6 hn hl (by rw [← e]; rfl)), ?_, h4, h5, h6⟩
  obtain ⟨A, c', e, hc, hrr⟩ := h3
  injection e with e1 e2 e3
  subst e1 e2 e3
  obtain ⟨b', o', e', hb, _, _⟩ := hrr hl
  injection e' with e'
  injection e' with e1 e2
  subst e1 e2
  exact ⟨_, _, rfl, hc, fun _ => ⟨b, o, rfl, hb, hf, hr⟩⟩
/-- The four stores of a struct of four cells. -/
def put4 (w : World) (b : Nat) (v0 v1 v2 v3 : Value) : World := (((w.setCell ⟨b, 0, none⟩ v0).setCell ⟨b, 1, none⟩ v1).setCell ⟨b, 2, none⟩ v2).setCell ⟨b, 3, none⟩ v3
theorem put4_turned {lo hi : Nat} {w : World} {b : Nat} (h1 : lo ≤ b) (h2 : b < hi) (v0 v1 v2 v3 : Value) : Turned lo hi w (put4 w b v0 v1 v2 v3) :=
  Turned.trans (Turned.trans (Turned.trans (Turned.set h1 h2 _) (Turned.set h1 h2 _)) (Turned.set h1 h2 _)) (Turned.set h1 h2 _)
theorem put4_cells {w : World} {b : Nat} {u0 u1 u2 u3 : Value} (h0 : w.cell? ⟨b, 0, none⟩ = some u0) (h1 : w.cell? ⟨b, 1, none⟩ = some u1) (h2 : w.cell? ⟨b, 2, none⟩ = some u2) (h3 : w.cell? ⟨b, 3, none⟩ = some u3) (v0 v1 v2 v3 : Value) :
    (put4 w b v0 v1 v2 v3).cell? ⟨b, 0, none⟩ = some v0 ∧ (put4 w b v0 v1 v2 v3).cell? ⟨b, 1, none⟩ = some v1 ∧ (put4 w b v0 v1 v2 v3).cell? ⟨b, 2, none⟩ = some v2 ∧ (put4 w b v0 v1 v2 v3).cell? ⟨b, 3, none⟩ = some v3 := by
  have s0 := cell_set_same w b 0 _ v0 h0
  have a1 := (cell_set_ne w b 0 v0 b 1 (by omega)).trans h1
  have a2 := (cell_set_ne w b 0 v0 b 2 (by omega)).trans h2
  have a3 := (cell_set_ne w b 0 v0 b 3 (by omega)).trans h3
  unfold put4
  generalize w.setCell ⟨b, 0, none⟩ v0 = w1 at *
  have s1 := cell_set_same w1 b 1 _ v1 a1
  have s0 := (cell_set_ne w1 b 1 v1 b 0 (by omega)).trans s0
  have a2 := (cell_set_ne w1 b 1 v1 b 2 (by omega)).trans a2
  have a3 := (cell_set_ne w1 b 1 v1 b 3 (by omega)).trans a3
  generalize w1.setCell ⟨b, 1, none⟩ v1 = w2 at *
  have s2 := cell_set_same w2 b 2 _ v2 a2
  have s0 := (cell_set_ne w2 b 2 v2 b 0 (by omega)).trans s0
  have s1 := (cell_set_ne w2 b 2 v2 b 1 (by omega)).trans s1
  have a3 := (cell_set_ne w2 b 2 v2 b 3 (by omega)).trans a3
  generalize w2.setCell ⟨b, 2, none⟩ v2 = w3 at *
  have s3 := cell_set_same w3 b 3 _ v3 a3
  exact ⟨(cell_set_ne w3 b 3 v3 b 0 (by omega)).trans s0, (cell_set_ne w3 b 3 v3 b 1 (by omega)).trans s1, (cell_set_ne w3 b 3 v3 b 2 (by omega)).trans s2, s3⟩
set_option maxRecDepth 100000 in
set_option maxHeartbeats 1000000 in
theorem swapPlaces_g (v : Value) (d : TrD) (i j : Nat) (w : World) (h : Trn w v d) (hi : i < d.l) (hj : j < d.l) (hn : d.n ≤ 1048576) (hm : d.m ≤ 1048576) (hl : d.l ≤ 1048576) :
    Calls Try.prog 135 #[v, .int .i64 i, .int .i64 j] w (AnsT w (swT d i j)) := by
  obtain ⟨f, t, p, rfl, hf, ht, hp⟩ := h
  have HF := Lib.hid hf
  have HT := Lib.hid ht
  have HP := Lib.hid hp
  obtain ⟨A1, c1, rfl, b1⟩ := hf.shape
  obtain ⟨A2, c2, rfl, b2⟩ := ht.shape
  obtain ⟨A3, c3, rfl, b3⟩ := hp.shape
  clear hf ht hp
  have HN := Lib.hid (fun W (hW : Below w.heap.size w W) => newTransition_g _ _ _ d.n d.m d.l d.X d.Y d.U d.V d.P d.c W (HF.out.up hW) (HT.out.up hW) (HP.out.up hW) hn hm hl)
  go_enter Try.func135, Try.ntmps135
  go_wp2_with fail
  generalize hW : World.alloc _ _ = W0 at *
  have hbW : Below w.heap.size w W0 := by subst hW; (repeat (first | with_reducible exact Below.refl _ _ | with_reducible assumption | with_reducible refine up_alloc ?_ _ | with_reducible refine up_drew ?_ | with_reducible refine up_drewN ?_ _ | (with_reducible refine up_set ?_ ?hset _; case hset => first | (simp; done) | (simp; omega) | omega) | with_reducible refine up_trans ?_ (by with_reducible assumption)))
  have k0 : W0.cell? ⟨w.heap.size + 1, 0, none⟩ = some (.slice none 0 0) := by subst hW; simp [go_sem]
  have k1 : W0.cell? ⟨w.heap.size + 1, 1, none⟩ = some (.slice none 0 0) := by subst hW; simp [go_sem]
  have k2 : W0.cell? ⟨w.heap.size + 1, 2, none⟩ = some (.int .i64 0) := by subst hW; simp [go_sem]
  have k3 : W0.cell? ⟨w.heap.size + 1, 3, none⟩ = some (.slice none 0 0) := by subst hW; simp [go_sem]
  have kf : Free W0 (w.heap.size + 1) := by subst hW; intro o; simp [go_sem]
  have hlt0 : w.heap.size + 1 < W0.heap.size := by subst hW; simp
  clear hW
  refine (HN.out _ hbW).mono ?_
  rintro e w1 ⟨u, rfl, hu, hb1⟩
  obtain ⟨f3, t3, p3, he3, g1, g2, g3, gd⟩ := id hu
  dsimp only [mkT] at he3 g1 g2 g3
  obtain ⟨B1, q1, rfl, _⟩ := g1.shape
  obtain ⟨B2, q2, rfl, _⟩ := g2.shape
  obtain ⟨B3, q3, rfl, _⟩ := g3.shape
  subst he3
  have hs1 := hb1.size
  replace k0 := up_keep hb1 k0
  replace k1 := up_keep hb1 k1
  replace k2 := up_keep hb1 k2
  replace k3 := up_keep hb1 k3
  have kf1 := kf.up hlt0 hb1
  obtain ⟨b, o, rfl, hbb, hfr, hrow⟩ : ∃ b o, B3 = some ⟨b, o, none⟩ ∧ W0.heap.size ≤ b ∧ Free w1 b ∧ Row1 w1 b o d.l d.P := by
    obtain ⟨A', c', e', _, hrr⟩ := g3
    cases e'
    exact hrr (by omega)
  have hblt := hrow.lt (by omega)
  have HU := Lib.hid hu
  have HRow := Lib.hid hrow
  have HFr := Lib.hid hfr
  have hbw1 := up_trans hbW hb1
  clear g1 g2 g3 gd hu hrow hfr kf
  go_wp2_with fail
  generalize hW5 : World.alloc w1 _ = W5 at *
  have hb5 : Below w1.heap.size w1 W5 := by subst hW5; (repeat (first | with_reducible exact Below.refl _ _ | with_reducible assumption | with_reducible refine up_alloc ?_ _ | with_reducible refine up_drew ?_ | with_reducible refine up_drewN ?_ _ | (with_reducible refine up_set ?_ ?hset _; case hset => first | (simp; done) | (simp; omega) | omega) | with_reducible refine up_trans ?_ (by with_reducible assumption)))
  have e0 : W5.cell? ⟨w1.heap.size, 0, none⟩ = some (.slice B1 d.n q1) := by subst hW5; simp [go_sem]
  have e1 : W5.cell? ⟨w1.heap.size, 1, none⟩ = some (.slice B2 d.m q2) := by subst hW5; simp [go_sem]
  have e2 : W5.cell? ⟨w1.heap.size, 2, none⟩ = some (.int .i64 d.c) := by subst hW5; simp [go_sem]
  have e3 : W5.cell? ⟨w1.heap.size, 3, none⟩ = some (.slice (some ⟨b, o, none⟩) d.l q3) := by subst hW5; simp [go_sem]
  clear hW5
  have hU5 := Lib.hid (HU.out.up hb5)
  have hR5 := HRow.out.up hb5
  have hF5 := HFr.out.up hblt hb5
  have kf5 := kf1.up (by omega) hb5
  replace k0 := up_keep hb5 k0
  replace k1 := up_keep hb5 k1
  replace k2 := up_keep hb5 k2
  replace k3 := up_keep hb5 k3
  have ci := hR5 i hi
  have cj := hR5 j hj
  have fi := hF5 (o + i)
  have fj := hF5 (o + j)
  have R1 := hR5.put hi (d.P j)
  have F1 := hF5.set ⟨b, o + i, none⟩ (.int .i64 (d.P j))
  have x1 := (cellT_drew _ _).trans (R1 j hj)
  have x2 := (frozenT_drew _ _).trans (F1 (o + j))
  have R2 := Lib.hid (row1_drew (R1.put hj (d.P i)))
  have F2 := Lib.hid (free_drew (F1.set ⟨b, o + j, none⟩ (.int .i64 (d.P i))))
  have G2 := Lib.hid (grown_drew (grown_set (grown_set (World.grownBy.refl W5 (some b)) (p := ⟨b, o + i, none⟩) rfl (.int .i64 (d.P j))) (p := ⟨b, o + j, none⟩) rfl (.int .i64 (d.P i))))
  have j1 : (i : Int) < (d.l : Int) := by omega
  have j2 : (j : Int) < (d.l : Int) := by omega
  clear R1 F1 hR5 hF5
  go_region
  clear x1 x2
  generalize hW7 : World.drew (World.setCell (World.setCell W5 _ _) _ _) = W7 at *
  have hg := G2.out
  have ne1 : some b ≠ some w1.heap.size := by simp; omega
  have ne2 : some b ≠ some (w.heap.size + 1) := by simp; omega
  have y0 := far_keep (Below.refl _ _) hg e0 ne1
  have y1 := far_keep (Below.refl _ _) hg e1 ne1
  have y2 := far_keep (Below.refl _ _) hg e2 ne1
  have y3 := far_keep (Below.refl _ _) hg e3 ne1
  have z0 := far_keep (Below.refl _ _) hg k0 ne2
  have z1 := far_keep (Below.refl _ _) hg k1 ne2
  have z2 := far_keep (Below.refl _ _) hg k2 ne2
  have z3 := far_keep (Below.refl _ _) hg k3 ne2
  have kf7 : Free W7 (w.heap.size + 1) := kf5.only (by have := hb5.size; omega) hg ne2
  have fz0 := kf7 0; have fz1 := kf7 1; have fz2 := kf7 2; have fz3 := kf7 3
  have hs7 := hg.size
  have hs5 := hb5.size
  have hs0 := hbw1.size
  have hbW7 : Below w.heap.size w W7 := (up_trans hbw1 hb5).trans ((Below.refl _ _).grown hg (by omega) (fun k hk => by cases hk; omega))
  have HO := Lib.hid (hU5.out.places (show 0 < d.l by omega) hg R2.out F2.out)
  clear hg G2 R2 F2 hW7 ci cj fi fj k0 k1 k2 k3 e0 e1 e2 e3 kf1 kf5
  go_wp2_with fail
  obtain ⟨p0, p1, p2, p3⟩ := put4_cells z0 z1 z2 z3 (.slice B1 d.n q1) (.slice B2 d.m q2) (.int .i64 d.c) (.slice (some ⟨b, o, none⟩) d.l q3)
  have hT := put4_turned (lo := w.heap.size + 1) (hi := W0.heap.size) (w := W7) (b := w.heap.size + 1) (by omega) (by omega) (.slice B1 d.n q1) (.slice B2 d.m q2) (.int .i64 d.c) (.slice (some ⟨b, o, none⟩) d.l q3)
  unfold put4 at p0 p1 p2 p3 hT
  generalize hW8 : World.setCell (World.setCell (World.setCell (World.setCell W7 _ _) _ _) _ _) _ _ = W8 at *
  clear hW8
  refine bodyPost_ret (v := .agg #[.slice B1 d.n q1, .slice B2 d.m q2, .int .i64 d.c, .slice (some ⟨b, o, none⟩) d.l q3]) (by simp [results, Try.results135, go_sem, p0, p1, p2, p3]) rfl ?_
  have ho := (HO.out.turn hT (Nat.le_refl _)).more (show w.heap.size ≤ W0.heap.size by omega)
  exact ⟨_, rfl, ho, hbW7.trans ((hT.below (by omega)).mono (by omega))⟩
set_option maxRecDepth 100000 in
set_option maxHeartbeats 1000000 in
theorem asSwap_g (v : Value) (d : TrD) (i j : Nat) (w : World) (h : Trn w v d) (hi : i < d.l) (hj : j < d.l) (hn : d.n ≤ 1048576) (hm : d.m ≤ 1048576) (hl : d.l ≤ 1048576) :
    Calls Try.prog 134 #[v, .int .i64 i, .int .i64 j] w (AnsT w (swT d i j)) := by
  obtain ⟨f, t, p, rfl, hf, ht, hp⟩ := h
  have HF := Lib.hid hf
  have HT := Lib.hid ht
  have HP := Lib.hid hp
  obtain ⟨A1, c1, rfl, b1⟩ := hf.shape
  obtain ⟨A2, c2, rfl, b2⟩ := ht.shape
  obtain ⟨A3, c3, rfl, b3⟩ := hp.shape
  obtain ⟨b0, o0, rfl, hr0⟩ : ∃ b o, A3 = some ⟨b, o, none⟩ ∧ Row1 w b o d.l d.P := by
    obtain ⟨A', c', e', _, hrr⟩ := hp
    cases e'
    exact hrr (by omega)
  clear hf ht hp
  have HR0 := Lib.hid hr0
  clear hr0
  have HN := Lib.hid (fun W (hW : Below w.heap.size w W) => asWith_g _ _ _ d.n d.m d.l d.X d.Y d.U d.V d.P d.c W (HF.out.up hW) (HT.out.up hW) (HP.out.up hW) hn hm hl)
  go_enter Try.func134, Try.ntmps134
  go_wp2_with fail
  generalize hW : World.alloc _ _ = W0 at *
  have hbW : Below w.heap.size w W0 := by subst hW; (repeat (first | with_reducible exact Below.refl _ _ | with_reducible assumption | with_reducible refine up_alloc ?_ _ | with_reducible refine up_drew ?_ | with_reducible refine up_drewN ?_ _ | (with_reducible refine up_set ?_ ?hset _; case hset => first | (simp; done) | (simp; omega) | omega) | with_reducible refine up_trans ?_ (by with_reducible assumption)))
  have k0 : W0.cell? ⟨w.heap.size + 1, 0, none⟩ = some (.slice none 0 0) := by subst hW; simp [go_sem]
  have k1 : W0.cell? ⟨w.heap.size + 1, 1, none⟩ = some (.slice none 0 0) := by subst hW; simp [go_sem]
  have k2 : W0.cell? ⟨w.heap.size + 1, 2, none⟩ = some (.int .i64 0) := by subst hW; simp [go_sem]
  have k3 : W0.cell? ⟨w.heap.size + 1, 3, none⟩ = some (.slice none 0 0) := by subst hW; simp [go_sem]
  have a3 : W0.cell? ⟨w.heap.size, 3, none⟩ = some (.slice (some ⟨b0, o0, none⟩) d.l c3) := by subst hW; simp [go_sem]
  have kf : Free W0 (w.heap.size + 1) := by subst hW; intro o; simp [go_sem]
  have hlt0 : w.heap.size + 1 < W0.heap.size := by subst hW; simp
  clear hW
  refine (HN.out _ hbW).mono ?_
  rintro e w1 ⟨u, rfl, hu, hb1⟩
  obtain ⟨f3, t3, p3, he3, g1, g2, g3, gd⟩ := id hu
  dsimp only [mkT] at he3 g1 g2 g3
  obtain ⟨B1, q1, rfl, _⟩ := g1.shape
  obtain ⟨B2, q2, rfl, _⟩ := g2.shape
  obtain ⟨B3, q3, rfl, _⟩ := g3.shape
  subst he3
  have hs1 := hb1.size
  replace k0 := up_keep hb1 k0
  replace k1 := up_keep hb1 k1
  replace k2 := up_keep hb1 k2
  replace k3 := up_keep hb1 k3
  replace a3 := up_keep hb1 a3
  have kf1 := kf.up hlt0 hb1
  obtain ⟨b, o, rfl, hbb, hfr, hrow⟩ : ∃ b o, B3 = some ⟨b, o, none⟩ ∧ W0.heap.size ≤ b ∧ Free w1 b ∧ Row1 w1 b o d.l d.P := by
    obtain ⟨A', c', e', _, hrr⟩ := g3
    cases e'
    exact hrr (by omega)
  have hblt := hrow.lt (by omega)
  have HU := Lib.hid hu
  have HRow := Lib.hid hrow
  have HFr := Lib.hid hfr
  have hbw1 := up_trans hbW hb1
  have hb0lt := HR0.out.lt (by omega)
  clear g1 g2 g3 gd hu hrow hfr kf
  go_wp2_with fail
  generalize hW5 : World.alloc w1 _ = W5 at *
  have hb5 : Below w1.heap.size w1 W5 := by subst hW5; (repeat (first | with_reducible exact Below.refl _ _ | with_reducible assumption | with_reducible refine up_alloc ?_ _ | with_reducible refine up_drew ?_ | with_reducible refine up_drewN ?_ _ | (with_reducible refine up_set ?_ ?hset _; case hset => first | (simp; done) | (simp; omega) | omega) | with_reducible refine up_trans ?_ (by with_reducible assumption)))
  have e0 : W5.cell? ⟨w1.heap.size, 0, none⟩ = some (.slice B1 d.n q1) := by subst hW5; simp [go_sem]
  have e1 : W5.cell? ⟨w1.heap.size, 1, none⟩ = some (.slice B2 d.m q2) := by subst hW5; simp [go_sem]
  have e2 : W5.cell? ⟨w1.heap.size, 2, none⟩ = some (.int .i64 d.c) := by subst hW5; simp [go_sem]
  have e3 : W5.cell? ⟨w1.heap.size, 3, none⟩ = some (.slice (some ⟨b, o, none⟩) d.l q3) := by subst hW5; simp [go_sem]
  clear hW5
  have HU5 := Lib.hid (HU.out.up hb5)
  have HR5 := Lib.hid (HRow.out.up hb5)
  have HF5 := Lib.hid (HFr.out.up hblt hb5)
  have kf5 := kf1.up (by omega) hb5
  replace k0 := up_keep hb5 k0
  replace k1 := up_keep hb5 k1
  replace k2 := up_keep hb5 k2
  replace k3 := up_keep hb5 k3
  replace a3 := up_keep hb5 a3
  have hb05 := up_trans hbw1 hb5
  have ci := HR5.out i hi
  have fi := HF5.out (o + i)
  have sj := up_keep hb05 (HR0.out j hj)
  have j1 : (i : Int) < (d.l : Int) := by omega
  have j2 : (j : Int) < (d.l : Int) := by omega
  refine wp_region_still_tail 9 (by kernel_rfl) (by kernel_rfl) ?_
  simp only [List.take_succ_cons, List.take_zero, List.drop_succ_cons, List.drop_zero]
  repeat still_step
  refine wpStill_nil ?_
  change wpList _ _ _ _ _ W5.drew
  replace k0 : W5.drew.cell? ⟨w.heap.size + 1, 0, none⟩ = _ := k0
  replace k1 : W5.drew.cell? ⟨w.heap.size + 1, 1, none⟩ = _ := k1
  replace k2 : W5.drew.cell? ⟨w.heap.size + 1, 2, none⟩ = _ := k2
  replace k3 : W5.drew.cell? ⟨w.heap.size + 1, 3, none⟩ = _ := k3
  replace a3 : W5.drew.cell? ⟨w.heap.size, 3, none⟩ = _ := a3
  replace e0 : W5.drew.cell? ⟨w1.heap.size, 0, none⟩ = _ := e0
  replace e1 : W5.drew.cell? ⟨w1.heap.size, 1, none⟩ = _ := e1
  replace e2 : W5.drew.cell? ⟨w1.heap.size, 2, none⟩ = _ := e2
  replace e3 : W5.drew.cell? ⟨w1.heap.size, 3, none⟩ = _ := e3
  have hbd : Below W5.heap.size W5 W5.drew := up_drew (Below.refl _ _)
  have HUd := Lib.hid (HU5.out.up hbd)
  have HRd := Lib.hid (HR5.out.up hbd)
  have hs5 := hb5.size
  have HFd := Lib.hid (HF5.out.up (by omega) hbd)
  have kfd := kf5.up (by omega) hbd
  have hbd5 := up_trans hb05 hbd
  have hsd := hbd.size
  clear ci fi sj HU5 HR5 HF5 kf5 hbd
  generalize W5.drew = W6 at *
  have ci := HRd.out i hi
  have fi := HFd.out (o + i)
  go_wp2_with fail
  have hg1 := grown_set (World.grownBy.refl W6 (some b)) (p := ⟨b, o + i, none⟩) rfl (.int .i64 (d.P j))
  have HRe := Lib.hid (HRd.out.put hi (d.P j))
  have HFe := Lib.hid (HFd.out.set ⟨b, o + i, none⟩ (.int .i64 (d.P j)))
  clear ci fi
  generalize hW7 : World.setCell W6 _ _ = W7 at *
  clear hW7
  have ne1 : some b ≠ some w1.heap.size := by simp; omega
  have ne2 : some b ≠ some (w.heap.size + 1) := by simp; omega
  have ne3 : some b ≠ some w.heap.size := by simp; omega
  have ne4 : some b ≠ some b0 := by simp; omega
  have E3 := Lib.hid e3
  replace e3 := far_keep (Below.refl _ _) hg1 e3 ne1
  replace a3 := far_keep (Below.refl _ _) hg1 a3 ne3
  have si := far_keep (Below.refl _ _) hg1 (up_keep hbd5 (HR0.out i hi)) ne4
  have cj := HRe.out j hj
  have fj := HFe.out (o + j)
  refine wp_region_still_tail 9 (by kernel_rfl) (by kernel_rfl) ?_
  simp only [List.take_succ_cons, List.take_zero, List.drop_succ_cons, List.drop_zero]
  repeat still_step
  refine wpStill_nil ?_
  change wpList _ _ _ _ _ W7.drew
  have HRf := Lib.hid (row1_drew HRe.out)
  have HFf := Lib.hid (free_drew HFe.out)
  have hg2 := grown_drew hg1
  have e3k := E3.out
  clear si cj fj hg1 HRe HFe e3 a3 E3
  generalize W7.drew = W8 at *
  have cj := HRf.out j hj
  have fj := HFf.out (o + j)
  have hg := grown_set hg2 (p := ⟨b, o + j, none⟩) rfl (.int .i64 (d.P i))
  have R2 := Lib.hid (HRf.out.put hj (d.P i))
  have F2 := Lib.hid (HFf.out.set ⟨b, o + j, none⟩ (.int .i64 (d.P i)))
  go_upto_region 4 with fail
  clear cj fj HRf HFf
  generalize hW9 : World.setCell W8 _ _ = W7 at *
  clear hW9 hg2
  have y0 := far_keep (Below.refl _ _) hg e0 ne1
  have y1 := far_keep (Below.refl _ _) hg e1 ne1
  have y2 := far_keep (Below.refl _ _) hg e2 ne1
  have y3 := far_keep (Below.refl _ _) hg e3k ne1
  have z0 := far_keep (Below.refl _ _) hg k0 ne2
  have z1 := far_keep (Below.refl _ _) hg k1 ne2
  have z2 := far_keep (Below.refl _ _) hg k2 ne2
  have z3 := far_keep (Below.refl _ _) hg k3 ne2
  have kf7 : Free W7 (w.heap.size + 1) := kfd.only (by omega) hg ne2
  have fz0 := kf7 0; have fz1 := kf7 1; have fz2 := kf7 2; have fz3 := kf7 3
  have hs7 := hg.size
  have hs0 := hbd5.size
  have hbW7 : Below w.heap.size w W7 := hbd5.trans ((Below.refl _ _).grown hg (by omega) (fun k hk => by cases hk; omega))
  have HO := Lib.hid (HUd.out.places (show 0 < d.l by omega) hg R2.out F2.out)
  clear hg R2 F2 k0 k1 k2 k3 e0 e1 e2 e3k kf1 kfd
  go_wp2_with fail
  obtain ⟨p0, p1, p2, p3⟩ := put4_cells z0 z1 z2 z3 (.slice B1 d.n q1) (.slice B2 d.m q2) (.int .i64 d.c) (.slice (some ⟨b, o, none⟩) d.l q3)
  have hT := put4_turned (lo := w.heap.size + 1) (hi := W0.heap.size) (w := W7) (b := w.heap.size + 1) (by omega) (by omega) (.slice B1 d.n q1) (.slice B2 d.m q2) (.int .i64 d.c) (.slice (some ⟨b, o, none⟩) d.l q3)
  unfold put4 at p0 p1 p2 p3 hT
  generalize hW8 : World.setCell (World.setCell (World.setCell (World.setCell W7 _ _) _ _) _ _) _ _ = W9 at *
  clear hW8
  refine bodyPost_ret (v := .agg #[.slice B1 d.n q1, .slice B2 d.m q2, .int .i64 d.c, .slice (some ⟨b, o, none⟩) d.l q3]) (by simp [results, Try.results134, go_sem, p0, p1, p2, p3]) rfl ?_
  have ho := (HO.out.turn hT (Nat.le_refl _)).more (show w.heap.size ≤ W0.heap.size by omega)
  exact ⟨_, rfl, ho, hbW7.trans ((hT.below (by omega)).mono (by omega))⟩
end Go.Proofs.Ytkmnkodgmngaeaa
