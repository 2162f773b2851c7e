/-
  New transitions on both sides; when they may be asked.
-/
import Derived.Test.YtamoanhjajnahaaRows
import Derived.Test.YtamoanhjajnahaaBase
import Derived.Test.YtamoanhjajnahaaSpot
import Derived.Test.YtamoanhjajnahaaSlice
import Derived.Test.YtamoanhjajnahaaChart
import Derived.Test.YtamoanhjajnahaaLawS
import Derived.Test.YtamoanhjajnahaaMark
import Derived.Test.YtamoanhjajnahaaOpen
import Derived.Test.YtamoanhjajnahaaTrod
import Derived.Test.YtamoanhjajnahaaInts
import Derived.Test.YtamoanhjajnahaaIntsL
import Derived.Test.YtamoanhjajnahaaTurned
import Derived.Test.YtamoanhjajnahaaTrans
import Derived.Test.YtamoanhjajnahaaAppend
import Derived.Test.YtamoanhjajnahaaAppendE
import Derived.Test.YtamoanhjajnahaaForm
import Derived.Test.YtamoanhjajnahaaChanged
import Derived.Test.YtamoanhjajnahaaCopyI
import Derived.Deep.DeepCutAuto

namespace Go.Proofs.Ytamoanhjajnahaa
open Go.RowKit Go.ChangeShapes Go.WideShapes Go.Sort


/-- A transition of these lists. -/
def mkT (n m l : Nat) (X Y U V P : Nat → Int) (c : Int) : TrD := ⟨n, m, l, X, Y, U, V, P, c⟩
set_option maxRecDepth 100000 in
set_option maxHeartbeats 4000000 in
theorem newTransition_g (f t p : Value) (n m l : Nat) (X Y U V P : Nat → Int) (c : Int) (w : World) (hf : Spots w f n X Y) (ht : Spots w t m U V) (hp : Ints w p l P) (hn : n ≤ 1048576) (hm : m ≤ 1048576) (hl : l ≤ 1048576) :
    Calls Try.prog 85 #[f, t, .int .i64 c, p] w (AnsT w (mkT n m l X Y U V P c)) := by
  go_enter Try.func85, Try.ntmps85
  go_upto_region 1 with fail
  generalize hW : World.alloc w _ = W0 at *
  have hbW : Below w.heap.size w W0 := by subst hW; (repeat (first | with_reducible exact Below.refl _ _ | with_reducible assumption | with_reducible refine up_alloc ?_ _ | with_reducible refine up_drew ?_ | with_reducible refine up_drewN ?_ _ | (with_reducible refine up_set ?_ ?hset _; case hset => first | (simp; done) | (simp; omega) | omega) | with_reducible refine up_trans ?_ (by with_reducible assumption)))
  have k0 : W0.cell? ⟨w.heap.size, 0, none⟩ = some (.slice none 0 0) := by subst hW; simp [go_sem]
  have k1 : W0.cell? ⟨w.heap.size, 1, none⟩ = some (.slice none 0 0) := by subst hW; simp [go_sem]
  have k2 : W0.cell? ⟨w.heap.size, 2, none⟩ = some (.int .i64 0) := by subst hW; simp [go_sem]
  have k3 : W0.cell? ⟨w.heap.size, 3, none⟩ = some (.slice none 0 0) := by subst hW; simp [go_sem]
  have kf : Free W0 w.heap.size := by subst hW; intro o; simp [go_sem]
  have hsz : W0.heap.size = w.heap.size + 1 := by subst hW; simp
  have HSZ := Lib.hid hsz
  have hlt0 : w.heap.size < W0.heap.size := by omega
  clear hW hsz
  go_wp2_with (first | (at_builtin; refine wpList_app_copy rfl (.tmp 9) (.tmp 10) rfl W0.heap.size _ _ n X Y rfl rfl (by first | exact OwnR.empty (Nat.le_refl _) _ _ | (rw [← HSZ.out]; exact OwnR.empty (Nat.le_refl _) _ _)) (hf.up (by (repeat (first | with_reducible exact Below.refl _ _ | with_reducible assumption | with_reducible refine up_alloc ?_ _ | with_reducible refine up_drew ?_ | with_reducible refine up_drewN ?_ _ | (with_reducible refine up_set ?_ ?hset _; case hset => first | (simp; done) | (simp; omega) | omega) | with_reducible refine up_trans ?_ (by with_reducible assumption))))) (show Below W0.heap.size W0 _ from (by (repeat (first | with_reducible exact Below.refl _ _ | with_reducible assumption | with_reducible refine up_alloc ?_ _ | with_reducible refine up_drew ?_ | with_reducible refine up_drewN ?_ _ | (with_reducible refine up_set ?_ ?hset _; case hset => first | (simp; done) | (simp; omega) | omega) | with_reducible refine up_trans ?_ (by with_reducible assumption))))).size hn ?_; intro v1 w1 ho1 hb1; replace hb1 := (show Below W0.heap.size W0 _ from (by (repeat (first | with_reducible exact Below.refl _ _ | with_reducible assumption | with_reducible refine up_alloc ?_ _ | with_reducible refine up_drew ?_ | with_reducible refine up_drewN ?_ _ | (with_reducible refine up_set ?_ ?hset _; case hset => first | (simp; done) | (simp; omega) | omega) | with_reducible refine up_trans ?_ (by with_reducible assumption))))).trans hb1; obtain ⟨A1, q1, rfl, hq1, hqm1⟩ := OwnR.shape ho1) | (at_builtin; refine wpList_app_copy rfl (.tmp 12) (.tmp 13) rfl w1.heap.size _ _ m U V rfl rfl (OwnR.empty (Nat.le_refl _) _ _) (ht.up (show Below w.heap.size w _ from (by (repeat (first | with_reducible exact Below.refl _ _ | with_reducible assumption | with_reducible refine up_alloc ?_ _ | with_reducible refine up_drew ?_ | with_reducible refine up_drewN ?_ _ | (with_reducible refine up_set ?_ ?hset _; case hset => first | (simp; done) | (simp; omega) | omega) | with_reducible refine up_trans ?_ (by with_reducible assumption)))))) (show Below w1.heap.size w1 _ from (by (repeat (first | with_reducible exact Below.refl _ _ | with_reducible assumption | with_reducible refine up_alloc ?_ _ | with_reducible refine up_drew ?_ | with_reducible refine up_drewN ?_ _ | (with_reducible refine up_set ?_ ?hset _; case hset => first | (simp; done) | (simp; omega) | omega) | with_reducible refine up_trans ?_ (by with_reducible assumption))))).size hm ?_; intro v2 w2 ho2 hb2; replace hb2 := (show Below w1.heap.size w1 _ from (by (repeat (first | with_reducible exact Below.refl _ _ | with_reducible assumption | with_reducible refine up_alloc ?_ _ | with_reducible refine up_drew ?_ | with_reducible refine up_drewN ?_ _ | (with_reducible refine up_set ?_ ?hset _; case hset => first | (simp; done) | (simp; omega) | omega) | with_reducible refine up_trans ?_ (by with_reducible assumption))))).trans hb2; obtain ⟨A2, q2, rfl, hq2, hqm2⟩ := OwnR.shape ho2))
  have hx1 := (OwnR.ownS ho1).spots
  have hx2 := (OwnR.ownS ho2).spots
  have hbw1 := up_trans hbW hb1
  have hbw2 := up_trans hbw1 hb2
  have ho1 := (OwnR.ownS ho1).up hb2
  have ho2 := OwnR.ownS ho2
  refine (copyInts_g p l P _ (hp.up hbw2) hl).mono ?_
  rintro e w3 ⟨v3, rfl, ho3, hb3⟩
  obtain ⟨A3, q3, rfl, hq3⟩ := ho3.shape
  have hbw3 := up_trans hbw2 hb3
  have ho1 := ho1.up hb3
  have ho2 := ho2.up hb3
  have r0 := up_keep hb3 (up_keep hb2 (up_keep hb1 k0))
  have r1 := up_keep hb3 (up_keep hb2 (up_keep hb1 k1))
  have r2 := up_keep hb3 (up_keep hb2 (up_keep hb1 k2))
  have r3 := up_keep hb3 (up_keep hb2 (up_keep hb1 k3))
  have hs1 := hb1.size; have hs2 := hb2.size; have hs3 := hb3.size
  have kf3 := ((kf.up hlt0 hb1).up (by omega) hb2).up (by omega) hb3
  have fz0 := kf3 0
  have fz1 := kf3 1
  have fz2 := kf3 2
  have fz3 := kf3 3
  go_wp2_with fail
  have s0_0 := cell_set_same w3 (w.heap.size) 0 _ (.slice A1 n q1) r0
  have s0_1 := (cell_set_ne w3 (w.heap.size) 0 (.slice A1 n q1) (w.heap.size) 1 (by omega)).trans r1
  have s0_2 := (cell_set_ne w3 (w.heap.size) 0 (.slice A1 n q1) (w.heap.size) 2 (by omega)).trans r2
  have s0_3 := (cell_set_ne w3 (w.heap.size) 0 (.slice A1 n q1) (w.heap.size) 3 (by omega)).trans r3
  have s1_0 := (cell_set_ne (World.setCell w3 ⟨w.heap.size, 0, none⟩ (.slice A1 n q1)) (w.heap.size) 1 (.slice A2 m q2) (w.heap.size) 0 (by omega)).trans s0_0
  have s1_1 := cell_set_same (World.setCell w3 ⟨w.heap.size, 0, none⟩ (.slice A1 n q1)) (w.heap.size) 1 _ (.slice A2 m q2) s0_1
  have s1_2 := (cell_set_ne (World.setCell w3 ⟨w.heap.size, 0, none⟩ (.slice A1 n q1)) (w.heap.size) 1 (.slice A2 m q2) (w.heap.size) 2 (by omega)).trans s0_2
  have s1_3 := (cell_set_ne (World.setCell w3 ⟨w.heap.size, 0, none⟩ (.slice A1 n q1)) (w.heap.size) 1 (.slice A2 m q2) (w.heap.size) 3 (by omega)).trans s0_3
  have s2_0 := (cell_set_ne (World.setCell (World.setCell w3 ⟨w.heap.size, 0, none⟩ (.slice A1 n q1)) ⟨w.heap.size, 1, none⟩ (.slice A2 m q2)) (w.heap.size) 2 (.int .i64 c) (w.heap.size) 0 (by omega)).trans s1_0
  have s2_1 := (cell_set_ne (World.setCell (World.setCell w3 ⟨w.heap.size, 0, none⟩ (.slice A1 n q1)) ⟨w.heap.size, 1, none⟩ (.slice A2 m q2)) (w.heap.size) 2 (.int .i64 c) (w.heap.size) 1 (by omega)).trans s1_1
  have s2_2 := cell_set_same (World.setCell (World.setCell w3 ⟨w.heap.size, 0, none⟩ (.slice A1 n q1)) ⟨w.heap.size, 1, none⟩ (.slice A2 m q2)) (w.heap.size) 2 _ (.int .i64 c) s1_2
  have s2_3 := (cell_set_ne (World.setCell (World.setCell w3 ⟨w.heap.size, 0, none⟩ (.slice A1 n q1)) ⟨w.heap.size, 1, none⟩ (.slice A2 m q2)) (w.heap.size) 2 (.int .i64 c) (w.heap.size) 3 (by omega)).trans s1_3
  have s3_0 := (cell_set_ne (World.setCell (World.setCell (World.setCell w3 ⟨w.heap.size, 0, none⟩ (.slice A1 n q1)) ⟨w.heap.size, 1, none⟩ (.slice A2 m q2)) ⟨w.heap.size, 2, none⟩ (.int .i64 c)) (w.heap.size) 3 (.slice A3 l q3) (w.heap.size) 0 (by omega)).trans s2_0
  have s3_1 := (cell_set_ne (World.setCell (World.setCell (World.setCell w3 ⟨w.heap.size, 0, none⟩ (.slice A1 n q1)) ⟨w.heap.size, 1, none⟩ (.slice A2 m q2)) ⟨w.heap.size, 2, none⟩ (.int .i64 c)) (w.heap.size) 3 (.slice A3 l q3) (w.heap.size) 1 (by omega)).trans s2_1
  have s3_2 := (cell_set_ne (World.setCell (World.setCell (World.setCell w3 ⟨w.heap.size, 0, none⟩ (.slice A1 n q1)) ⟨w.heap.size, 1, none⟩ (.slice A2 m q2)) ⟨w.heap.size, 2, none⟩ (.int .i64 c)) (w.heap.size) 3 (.slice A3 l q3) (w.heap.size) 2 (by omega)).trans s2_2
  have s3_3 := cell_set_same (World.setCell (World.setCell (World.setCell w3 ⟨w.heap.size, 0, none⟩ (.slice A1 n q1)) ⟨w.heap.size, 1, none⟩ (.slice A2 m q2)) ⟨w.heap.size, 2, none⟩ (.int .i64 c)) (w.heap.size) 3 _ (.slice A3 l q3) s2_3
  have hT : Turned w.heap.size W0.heap.size w3 (World.setCell (World.setCell (World.setCell (World.setCell w3 ⟨w.heap.size, 0, none⟩ (.slice A1 n q1)) ⟨w.heap.size, 1, none⟩ (.slice A2 m q2)) ⟨w.heap.size, 2, none⟩ (.int .i64 c)) ⟨w.heap.size, 3, none⟩ (.slice A3 l q3)) := Turned.trans (Turned.trans (Turned.trans (Turned.set (by omega) (by omega) _) (Turned.set (by omega) (by omega) _)) (Turned.set (by omega) (by omega) _)) (Turned.set (by omega) (by omega) _)
  generalize hW : (World.setCell (World.setCell (World.setCell (World.setCell w3 ⟨w.heap.size, 0, none⟩ (.slice A1 n q1)) ⟨w.heap.size, 1, none⟩ (.slice A2 m q2)) ⟨w.heap.size, 2, none⟩ (.int .i64 c)) ⟨w.heap.size, 3, none⟩ (.slice A3 l q3)) = W4 at *
  clear hW
  have ho3 := ho3.turn hT (by omega)
  have ho2 := ho2.turn hT (by omega)
  have ho1 := ho1.turn hT (by omega)
  refine bodyPost_ret (v := .agg #[.slice A1 n q1, .slice A2 m q2, .int .i64 c, .slice A3 l q3]) (by simp [results, Try.results85, go_sem, s3_0, s3_1, s3_2, s3_3]) rfl ?_
  exact ⟨_, rfl, ⟨_, _, _, rfl, ho1.more (by omega), ho2.more (by omega), ho3.more (by omega), own_neS hx1 ho2 (by omega), own_neI hx1 ho3 (by omega), own_neI hx2 ho3 (by omega)⟩, hbw3.trans (hT.below (by omega))⟩
set_option maxRecDepth 100000 in
set_option maxHeartbeats 4000000 in
theorem asWith_g (f t p : Value) (n m l : Nat) (X Y U V P : Nat → Int) (c : Int) (w : World) (hf : Spots w f n X Y) (ht : Spots w t m U V) (hp : Ints w p l P) (hn : n ≤ 1048576) (hm : m ≤ 1048576) (hl : l ≤ 1048576) :
    Calls Try.prog 82 #[f, t, .int .i64 c, p] w (AnsT w (mkT n m l X Y U V P c)) := by
  go_enter Try.func82, Try.ntmps82
  go_wp2_with fail
  generalize hW : World.alloc w _ = W0 at *
  have hbW : Below w.heap.size w W0 := by subst hW; (repeat (first | with_reducible exact Below.refl _ _ | with_reducible assumption | with_reducible refine up_alloc ?_ _ | with_reducible refine up_drew ?_ | with_reducible refine up_drewN ?_ _ | (with_reducible refine up_set ?_ ?hset _; case hset => first | (simp; done) | (simp; omega) | omega) | with_reducible refine up_trans ?_ (by with_reducible assumption)))
  have k0 : W0.cell? ⟨w.heap.size, 0, none⟩ = some (.slice none 0 0) := by subst hW; simp [go_sem]
  have k1 : W0.cell? ⟨w.heap.size, 1, none⟩ = some (.slice none 0 0) := by subst hW; simp [go_sem]
  have k2 : W0.cell? ⟨w.heap.size, 2, none⟩ = some (.int .i64 0) := by subst hW; simp [go_sem]
  have k3 : W0.cell? ⟨w.heap.size, 3, none⟩ = some (.slice none 0 0) := by subst hW; simp [go_sem]
  have kf : Free W0 w.heap.size := by subst hW; intro o; simp [go_sem]
  have hsz : W0.heap.size = w.heap.size + 1 := by subst hW; simp
  have HSZ := Lib.hid hsz
  have hlt0 : w.heap.size < W0.heap.size := by omega
  clear hW hsz
  refine (chOwn_g f n X Y _ (hf.up hbW) hn).mono ?_
  rintro e w1 ⟨v1, rfl, ho1, hb1⟩
  obtain ⟨A1, q1, rfl, hq1, _⟩ := OwnR.shape ho1
  replace ho1 := OwnR.ownS ho1
  have hx1 := ho1.spots
  have hbw1 := up_trans hbW hb1
  go_wp2_with fail
  refine (chOwn_g t m U V _ (ht.up hbw1) hm).mono ?_
  rintro e w2 ⟨v2, rfl, ho2, hb2⟩
  obtain ⟨A2, q2, rfl, hq2, _⟩ := OwnR.shape ho2
  replace ho2 := OwnR.ownS ho2
  have hx2 := ho2.spots
  have hbw2 := up_trans hbw1 hb2
  have ho1 := ho1.up hb2
  go_wp2_with fail
  refine (l1Own_g p l P _ (hp.up hbw2) hl).mono ?_
  rintro e w3 ⟨v3, rfl, ho3, hb3⟩
  obtain ⟨A3, q3, rfl, hq3⟩ := ho3.shape
  have hbw3 := up_trans hbw2 hb3
  have ho1 := ho1.up hb3
  have ho2 := ho2.up hb3
  have r0 := up_keep hb3 (up_keep hb2 (up_keep hb1 k0))
  have r1 := up_keep hb3 (up_keep hb2 (up_keep hb1 k1))
  have r2 := up_keep hb3 (up_keep hb2 (up_keep hb1 k2))
  have r3 := up_keep hb3 (up_keep hb2 (up_keep hb1 k3))
  have hs1 := hb1.size; have hs2 := hb2.size; have hs3 := hb3.size
  have kf3 := ((kf.up hlt0 hb1).up (by omega) hb2).up (by omega) hb3
  have fz0 := kf3 0
  have fz1 := kf3 1
  have fz2 := kf3 2
  have fz3 := kf3 3
  go_wp2_with fail
  have s0_0 := cell_set_same w3 (w.heap.size) 0 _ (.slice A1 n q1) r0
  have s0_1 := (cell_set_ne w3 (w.heap.size) 0 (.slice A1 n q1) (w.heap.size) 1 (by omega)).trans r1
  have s0_2 := (cell_set_ne w3 (w.heap.size) 0 (.slice A1 n q1) (w.heap.size) 2 (by omega)).trans r2
  have s0_3 := (cell_set_ne w3 (w.heap.size) 0 (.slice A1 n q1) (w.heap.size) 3 (by omega)).trans r3
  have s1_0 := (cell_set_ne (World.setCell w3 ⟨w.heap.size, 0, none⟩ (.slice A1 n q1)) (w.heap.size) 1 (.slice A2 m q2) (w.heap.size) 0 (by omega)).trans s0_0
  have s1_1 := cell_set_same (World.setCell w3 ⟨w.heap.size, 0, none⟩ (.slice A1 n q1)) (w.heap.size) 1 _ (.slice A2 m q2) s0_1
  have s1_2 := (cell_set_ne (World.setCell w3 ⟨w.heap.size, 0, none⟩ (.slice A1 n q1)) (w.heap.size) 1 (.slice A2 m q2) (w.heap.size) 2 (by omega)).trans s0_2
  have s1_3 := (cell_set_ne (World.setCell w3 ⟨w.heap.size, 0, none⟩ (.slice A1 n q1)) (w.heap.size) 1 (.slice A2 m q2) (w.heap.size) 3 (by omega)).trans s0_3
  have s2_0 := (cell_set_ne (World.setCell (World.setCell w3 ⟨w.heap.size, 0, none⟩ (.slice A1 n q1)) ⟨w.heap.size, 1, none⟩ (.slice A2 m q2)) (w.heap.size) 2 (.int .i64 c) (w.heap.size) 0 (by omega)).trans s1_0
  have s2_1 := (cell_set_ne (World.setCell (World.setCell w3 ⟨w.heap.size, 0, none⟩ (.slice A1 n q1)) ⟨w.heap.size, 1, none⟩ (.slice A2 m q2)) (w.heap.size) 2 (.int .i64 c) (w.heap.size) 1 (by omega)).trans s1_1
  have s2_2 := cell_set_same (World.setCell (World.setCell w3 ⟨w.heap.size, 0, none⟩ (.slice A1 n q1)) ⟨w.heap.size, 1, none⟩ (.slice A2 m q2)) (w.heap.size) 2 _ (.int .i64 c) s1_2
  have s2_3 := (cell_set_ne (World.setCell (World.setCell w3 ⟨w.heap.size, 0, none⟩ (.slice A1 n q1)) ⟨w.heap.size, 1, none⟩ (.slice A2 m q2)) (w.heap.size) 2 (.int .i64 c) (w.heap.size) 3 (by omega)).trans s1_3
  have s3_0 := (cell_set_ne (World.setCell (World.setCell (World.setCell w3 ⟨w.heap.size, 0, none⟩ (.slice A1 n q1)) ⟨w.heap.size, 1, none⟩ (.slice A2 m q2)) ⟨w.heap.size, 2, none⟩ (.int .i64 c)) (w.heap.size) 3 (.slice A3 l q3) (w.heap.size) 0 (by omega)).trans s2_0
  have s3_1 := (cell_set_ne (World.setCell (World.setCell (World.setCell w3 ⟨w.heap.size, 0, none⟩ (.slice A1 n q1)) ⟨w.heap.size, 1, none⟩ (.slice A2 m q2)) ⟨w.heap.size, 2, none⟩ (.int .i64 c)) (w.heap.size) 3 (.slice A3 l q3) (w.heap.size) 1 (by omega)).trans s2_1
  have s3_2 := (cell_set_ne (World.setCell (World.setCell (World.setCell w3 ⟨w.heap.size, 0, none⟩ (.slice A1 n q1)) ⟨w.heap.size, 1, none⟩ (.slice A2 m q2)) ⟨w.heap.size, 2, none⟩ (.int .i64 c)) (w.heap.size) 3 (.slice A3 l q3) (w.heap.size) 2 (by omega)).trans s2_2
  have s3_3 := cell_set_same (World.setCell (World.setCell (World.setCell w3 ⟨w.heap.size, 0, none⟩ (.slice A1 n q1)) ⟨w.heap.size, 1, none⟩ (.slice A2 m q2)) ⟨w.heap.size, 2, none⟩ (.int .i64 c)) (w.heap.size) 3 _ (.slice A3 l q3) s2_3
  have hT : Turned w.heap.size W0.heap.size w3 (World.setCell (World.setCell (World.setCell (World.setCell w3 ⟨w.heap.size, 0, none⟩ (.slice A1 n q1)) ⟨w.heap.size, 1, none⟩ (.slice A2 m q2)) ⟨w.heap.size, 2, none⟩ (.int .i64 c)) ⟨w.heap.size, 3, none⟩ (.slice A3 l q3)) := Turned.trans (Turned.trans (Turned.trans (Turned.set (by omega) (by omega) _) (Turned.set (by omega) (by omega) _)) (Turned.set (by omega) (by omega) _)) (Turned.set (by omega) (by omega) _)
  generalize hW : (World.setCell (World.setCell (World.setCell (World.setCell w3 ⟨w.heap.size, 0, none⟩ (.slice A1 n q1)) ⟨w.heap.size, 1, none⟩ (.slice A2 m q2)) ⟨w.heap.size, 2, none⟩ (.int .i64 c)) ⟨w.heap.size, 3, none⟩ (.slice A3 l q3)) = W4 at *
  clear hW
  have ho3 := ho3.turn hT (by omega)
  have ho2 := ho2.turn hT (by omega)
  have ho1 := ho1.turn hT (by omega)
  refine bodyPost_ret (v := .agg #[.slice A1 n q1, .slice A2 m q2, .int .i64 c, .slice A3 l q3]) (by simp [results, Try.results82, go_sem, s3_0, s3_1, s3_2, s3_3]) rfl ?_
  exact ⟨_, rfl, ⟨_, _, _, rfl, ho1.more (by omega), ho2.more (by omega), ho3.more (by omega), own_neS hx1 ho2 (by omega), own_neI hx1 ho3 (by omega), own_neI hx2 ho3 (by omega)⟩, hbw3.trans (hT.below (by omega))⟩
def ccB (n m : Nat) (X Y U V : Nat → Int) (c : Int) : Bool := cpB n X Y m U V && inB c 1 64
set_option maxRecDepth 100000 in
set_option maxHeartbeats 1000000 in
theorem canChange_g (f t : Value) (n m : Nat) (X Y U V : Nat → Int) (c : Int) (w : World) (hf : Spots w f n X Y) (ht : Spots w t m U V) (hn : n ≤ 1048576) (hm : m ≤ 1048576) :
    Calls Try.prog 84 #[f, t, .int .i64 c] w (Ans w (.bool (ccB n m X Y U V c))) := by
  have HF := Lib.hid hf
  have HT := Lib.hid ht
  obtain ⟨A1, c1, rfl, b1⟩ := hf.shape
  obtain ⟨A2, c2, rfl, b2⟩ := ht.shape
  clear hf ht
  have HC1 := Lib.hid (fun W (hW : Below w.heap.size w W) => isChart_g _ n X Y W (HF.out.up hW) (by omega))
  have HC2 := Lib.hid (fun W (hW : Below w.heap.size w W) => isChart_g _ m U V W (HT.out.up hW) (by omega))
  cases e1 : chartB n X Y with
  | false =>
    rw [e1] at HC1
    have HE := Lib.hid (show ccB n m X Y U V c = false by simp [ccB, cpB, e1])
    go_enter Try.func84, Try.ntmps84
    go_wp2_with fail
    refine (HC1.out _ (Below.refl _ _)).mono ?_
    rintro e w1 ⟨rfl, hb1⟩
    go_wp2_with fail
    go_ret
    exact Ans.bool (by rw [HE.out]) hb1
  | true =>
    rw [e1] at HC1
    cases e2 : chartB m U V with
    | false =>
      rw [e2] at HC2
      have HE := Lib.hid (show ccB n m X Y U V c = false by simp [ccB, cpB, e2])
      go_enter Try.func84, Try.ntmps84
      go_wp2_with fail
      refine (HC1.out _ (Below.refl _ _)).mono ?_
      rintro e w1 ⟨rfl, hb1⟩
      go_wp2_with fail
      refine (HC2.out _ hb1).mono ?_
      rintro e w2 ⟨rfl, hb2⟩
      go_wp2_with fail
      go_ret
      exact Ans.bool (by rw [HE.out]) (up_trans hb1 hb2)
    | true =>
      rw [e2] at HC2
      by_cases e3 : n = m
      · have hnm : ((n : Int) == (m : Int)) = true := by simp [e3]
        have HE := Lib.hid (show ccB n m X Y U V c = inB c 1 64 by unfold ccB cpB; rw [e1, e2, decide_eq_true e3]; rfl)
        clear e1 e2 e3
        go_enter Try.func84, Try.ntmps84
        go_wp2_with fail
        refine (HC1.out _ (Below.refl _ _)).mono ?_
        rintro e w1 ⟨rfl, hb1⟩
        go_wp2_with fail
        refine (HC2.out _ hb1).mono ?_
        rintro e w2 ⟨rfl, hb2⟩
        go_wp2_with (go_at_call 60; refine (within_any _ _ _ _).mono ?_; rintro e w1 ⟨rfl, rfl⟩)
        go_ret
        exact Ans.bool (by rw [HE.out]) (up_trans hb1 hb2)
      · have hnm : ((n : Int) == (m : Int)) = false := by simp; omega
        have HE := Lib.hid (show ccB n m X Y U V c = false by simp [ccB, cpB, e3])
        clear e1 e2 e3
        go_enter Try.func84, Try.ntmps84
        go_wp2_with fail
        refine (HC1.out _ (Below.refl _ _)).mono ?_
        rintro e w1 ⟨rfl, hb1⟩
        go_wp2_with fail
        refine (HC2.out _ hb1).mono ?_
        rintro e w2 ⟨rfl, hb2⟩
        go_wp2_with fail
        go_ret
        exact Ans.bool (by rw [HE.out]) (up_trans hb1 hb2)
set_option maxRecDepth 100000 in
set_option maxHeartbeats 1000000 in
theorem asAsked_g (f t : Value) (n m : Nat) (X Y U V : Nat → Int) (c : Int) (w : World) (hf : Spots w f n X Y) (ht : Spots w t m U V) (hn : n ≤ 1048576) (hm : m ≤ 1048576) :
    Calls Try.prog 80 #[f, t, .int .i64 c] w (Ans w (.bool (ccB n m X Y U V c))) := by
  have HC1 := Lib.hid (chPair_g _ _ n m X Y U V w hf ht hn hm)
  cases e1 : cpB n X Y m U V with
  | false =>
    rw [e1] at HC1
    have HE := Lib.hid (show ccB n m X Y U V c = false by simp [ccB, e1])
    go_enter Try.func80, Try.ntmps80
    go_wp2_with fail
    refine HC1.out.mono ?_
    rintro e w1 ⟨rfl, hb1⟩
    go_wp2_with fail
    go_ret
    exact Ans.bool (by rw [HE.out]) hb1
  | true =>
    rw [e1] at HC1
    have HE := Lib.hid (show ccB n m X Y U V c = inB c 1 64 by simp [ccB, e1])
    go_enter Try.func80, Try.ntmps80
    go_wp2_with fail
    refine HC1.out.mono ?_
    rintro e w1 ⟨rfl, hb1⟩
    go_wp2_with (go_at_call 94; refine (l1In_any _ _ _ _).mono ?_; rintro e w1 ⟨rfl, rfl⟩)
    go_ret
    exact Ans.bool (by rw [HE.out]) hb1
end Go.Proofs.Ytamoanhjajnahaa
