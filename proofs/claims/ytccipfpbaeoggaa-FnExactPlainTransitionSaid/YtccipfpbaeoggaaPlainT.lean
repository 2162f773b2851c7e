/-
  PlainTransition on both sides.
-/
import Derived.Test.YtccipfpbaeoggaaRows
import Derived.Test.YtccipfpbaeoggaaBase
import Derived.Test.YtccipfpbaeoggaaSpot
import Derived.Test.YtccipfpbaeoggaaSlice
import Derived.Test.YtccipfpbaeoggaaChart
import Derived.Test.YtccipfpbaeoggaaLawS
import Derived.Test.YtccipfpbaeoggaaMark
import Derived.Test.YtccipfpbaeoggaaOpen
import Derived.Test.YtccipfpbaeoggaaTrod
import Derived.Test.YtccipfpbaeoggaaInts
import Derived.Test.YtccipfpbaeoggaaIntsL
import Derived.Test.YtccipfpbaeoggaaTurned
import Derived.Test.YtccipfpbaeoggaaTrans
import Derived.Test.YtccipfpbaeoggaaAppend
import Derived.Test.YtccipfpbaeoggaaAppendE
import Derived.Test.YtccipfpbaeoggaaForm
import Derived.Test.YtccipfpbaeoggaaChanged
import Derived.Test.YtccipfpbaeoggaaCopyI
import Derived.Test.YtccipfpbaeoggaaNewT

namespace Go.Proofs.Ytccipfpbaeoggaa
open Go.RowKit Go.ChangeShapes Go.WideShapes Go.Sort


def ptD (n m : Nat) (X Y U V : Nat → Int) (c : Int) : TrD := if ccB n m X Y U V c then mkT n m n X Y U V (fun i => i) c else TrD.zero
theorem ptD_le (n m : Nat) (X Y U V : Nat → Int) (c : Int) (hn : n ≤ 1048576) (hm : m ≤ 1048576) : (ptD n m X Y U V c).n ≤ n ∧ (ptD n m X Y U V c).m ≤ m ∧ (ptD n m X Y U V c).l ≤ n := by
  unfold ptD
  split <;> simp [mkT, TrD.zero]
theorem ccB_n {n m : Nat} {X Y U V : Nat → Int} {c : Int} (h : ccB n m X Y U V c = true) : chartB n X Y = true ∧ chartB m U V = true ∧ n = m ∧ n ≤ 12 ∧ 1 ≤ n := by
  simp only [ccB, cpB, Bool.and_eq_true, decide_eq_true_eq] at h
  have := (chartB_iff.1 h.1.1.1).1
  exact ⟨h.1.1.1, h.1.1.2, h.1.2, by omega, by omega⟩
set_option maxRecDepth 100000 in
set_option maxHeartbeats 4000000 in
theorem iPlainTransition_g (f t : Value) (n m : Nat) (X Y U V : Nat → Int) (c : Int) (w : World) (hf : Spots w f n X Y) (ht : Spots w t m U V) (hn : n ≤ 1048576) (hm : m ≤ 1048576) :
    Calls Try.prog 54 #[f, t, .int .i64 c] w (AnsTB w (ptD n m X Y U V c) (ccB n m X Y U V c)) := by
  have HF := Lib.hid hf
  have HT := Lib.hid ht
  obtain ⟨A1', c1, rfl, b1⟩ := hf.shape
  obtain ⟨A2', c2, rfl, b2⟩ := ht.shape
  clear hf ht
  have HC := Lib.hid (fun W (hW : Below w.heap.size w W) => canChange_g _ _ n m X Y U V c W (HF.out.up hW) (HT.out.up hW) hn hm)
  cases e1 : ccB n m X Y U V c with
  | false =>
    rw [e1] at HC
    rw [show ptD n m X Y U V c = TrD.zero by simp [ptD, e1]]
    go_enter Try.func54, Try.ntmps54
    go_wp2_with fail
    generalize hW : World.alloc w _ = W0 at *
    have hbW : Below w.heap.size w W0 := by subst hW; (repeat (first | with_reducible exact Below.refl _ _ | with_reducible assumption | with_reducible refine up_alloc ?_ _ | with_reducible refine up_drew ?_ | with_reducible refine up_drewN ?_ _ | (with_reducible refine up_set ?_ ?hset _; case hset => first | (simp; done) | (simp; omega) | omega) | with_reducible refine up_trans ?_ (by with_reducible assumption)))
    have k0 : W0.cell? ⟨w.heap.size, 0, none⟩ = some (.slice none 0 0) := by subst hW; simp [go_sem]
    have k1 : W0.cell? ⟨w.heap.size, 1, none⟩ = some (.slice none 0 0) := by subst hW; simp [go_sem]
    have k2 : W0.cell? ⟨w.heap.size, 2, none⟩ = some (.int .i64 0) := by subst hW; simp [go_sem]
    have k3 : W0.cell? ⟨w.heap.size, 3, none⟩ = some (.slice none 0 0) := by subst hW; simp [go_sem]
    have kf : Free W0 w.heap.size := by subst hW; intro o; simp [go_sem]
    have hlt0 : w.heap.size < W0.heap.size := lt_of_cell k0
    clear hW
    refine (HC.out _ hbW).mono ?_
    rintro e w1 ⟨rfl, hb1⟩
    have q0 := up_keep hb1 k0
    have q1 := up_keep hb1 k1
    have q2 := up_keep hb1 k2
    have q3 := up_keep hb1 k3
    have kf1 := kf.up hlt0 hb1
    have hs1 := hb1.size
    have hw1 := up_trans hbW hb1
    have fz0 := kf1 0; have fz1 := kf1 1; have fz2 := kf1 2; have fz3 := kf1 3
    go_wp2_with fail
    have s0_0 := cell_set_same w1 (w.heap.size) 0 _ (.slice none 0 0) q0
    have s0_1 := (cell_set_ne w1 (w.heap.size) 0 (.slice none 0 0) (w.heap.size) 1 (by omega)).trans q1
    have s0_2 := (cell_set_ne w1 (w.heap.size) 0 (.slice none 0 0) (w.heap.size) 2 (by omega)).trans q2
    have s0_3 := (cell_set_ne w1 (w.heap.size) 0 (.slice none 0 0) (w.heap.size) 3 (by omega)).trans q3
    have s1_0 := (cell_set_ne (World.setCell w1 ⟨w.heap.size, 0, none⟩ (.slice none 0 0)) (w.heap.size) 1 (.slice none 0 0) (w.heap.size) 0 (by omega)).trans s0_0
    have s1_1 := cell_set_same (World.setCell w1 ⟨w.heap.size, 0, none⟩ (.slice none 0 0)) (w.heap.size) 1 _ (.slice none 0 0) s0_1
    have s1_2 := (cell_set_ne (World.setCell w1 ⟨w.heap.size, 0, none⟩ (.slice none 0 0)) (w.heap.size) 1 (.slice none 0 0) (w.heap.size) 2 (by omega)).trans s0_2
    have s1_3 := (cell_set_ne (World.setCell w1 ⟨w.heap.size, 0, none⟩ (.slice none 0 0)) (w.heap.size) 1 (.slice none 0 0) (w.heap.size) 3 (by omega)).trans s0_3
    have s2_0 := (cell_set_ne (World.setCell (World.setCell w1 ⟨w.heap.size, 0, none⟩ (.slice none 0 0)) ⟨w.heap.size, 1, none⟩ (.slice none 0 0)) (w.heap.size) 2 (.int .i64 0) (w.heap.size) 0 (by omega)).trans s1_0
    have s2_1 := (cell_set_ne (World.setCell (World.setCell w1 ⟨w.heap.size, 0, none⟩ (.slice none 0 0)) ⟨w.heap.size, 1, none⟩ (.slice none 0 0)) (w.heap.size) 2 (.int .i64 0) (w.heap.size) 1 (by omega)).trans s1_1
    have s2_2 := cell_set_same (World.setCell (World.setCell w1 ⟨w.heap.size, 0, none⟩ (.slice none 0 0)) ⟨w.heap.size, 1, none⟩ (.slice none 0 0)) (w.heap.size) 2 _ (.int .i64 0) s1_2
    have s2_3 := (cell_set_ne (World.setCell (World.setCell w1 ⟨w.heap.size, 0, none⟩ (.slice none 0 0)) ⟨w.heap.size, 1, none⟩ (.slice none 0 0)) (w.heap.size) 2 (.int .i64 0) (w.heap.size) 3 (by omega)).trans s1_3
    have s3_0 := (cell_set_ne (World.setCell (World.setCell (World.setCell w1 ⟨w.heap.size, 0, none⟩ (.slice none 0 0)) ⟨w.heap.size, 1, none⟩ (.slice none 0 0)) ⟨w.heap.size, 2, none⟩ (.int .i64 0)) (w.heap.size) 3 (.slice none 0 0) (w.heap.size) 0 (by omega)).trans s2_0
    have s3_1 := (cell_set_ne (World.setCell (World.setCell (World.setCell w1 ⟨w.heap.size, 0, none⟩ (.slice none 0 0)) ⟨w.heap.size, 1, none⟩ (.slice none 0 0)) ⟨w.heap.size, 2, none⟩ (.int .i64 0)) (w.heap.size) 3 (.slice none 0 0) (w.heap.size) 1 (by omega)).trans s2_1
    have s3_2 := (cell_set_ne (World.setCell (World.setCell (World.setCell w1 ⟨w.heap.size, 0, none⟩ (.slice none 0 0)) ⟨w.heap.size, 1, none⟩ (.slice none 0 0)) ⟨w.heap.size, 2, none⟩ (.int .i64 0)) (w.heap.size) 3 (.slice none 0 0) (w.heap.size) 2 (by omega)).trans s2_2
    have s3_3 := cell_set_same (World.setCell (World.setCell (World.setCell w1 ⟨w.heap.size, 0, none⟩ (.slice none 0 0)) ⟨w.heap.size, 1, none⟩ (.slice none 0 0)) ⟨w.heap.size, 2, none⟩ (.int .i64 0)) (w.heap.size) 3 _ (.slice none 0 0) s2_3
    have hTu : Turned w.heap.size W0.heap.size w1 (World.setCell (World.setCell (World.setCell (World.setCell w1 ⟨w.heap.size, 0, none⟩ (.slice none 0 0)) ⟨w.heap.size, 1, none⟩ (.slice none 0 0)) ⟨w.heap.size, 2, none⟩ (.int .i64 0)) ⟨w.heap.size, 3, none⟩ (.slice none 0 0)) := Turned.trans (Turned.trans (Turned.trans (Turned.set (by omega) (by omega) _) (Turned.set (by omega) (by omega) _)) (Turned.set (by omega) (by omega) _)) (Turned.set (by omega) (by omega) _)
    generalize hW : (World.setCell (World.setCell (World.setCell (World.setCell w1 ⟨w.heap.size, 0, none⟩ (.slice none 0 0)) ⟨w.heap.size, 1, none⟩ (.slice none 0 0)) ⟨w.heap.size, 2, none⟩ (.int .i64 0)) ⟨w.heap.size, 3, none⟩ (.slice none 0 0)) = W4 at *
    clear hW
    refine bodyPost_ret (v := .tuple #[.agg #[.slice none 0 0, .slice none 0 0, .int .i64 0, .slice none 0 0], .bool false]) (by simp [results, Try.results54, go_sem, s3_0, s3_1, s3_2, s3_3]) rfl ?_
    exact ⟨_, rfl, OwnT.zero, hw1.trans (hTu.below (by omega))⟩
  | true =>
    rw [e1] at HC
    rw [show ptD n m X Y U V c = ⟨n, m, n, X, Y, U, V, fun i => i, c⟩ by simp [ptD, e1, mkT]]
    have HN := Lib.hid (fun W p (hW : Below w.heap.size w W) (hp : Ints W p n (fun i => i)) => newTransition_g _ _ p n m n X Y U V (fun i => i) c W (HF.out.up hW) (HT.out.up hW) hp hn hm hn)
    clear e1
    go_enter Try.func54, Try.ntmps54
    go_wp2_with fail
    generalize hW : World.alloc w _ = W0 at *
    have hbW : Below w.heap.size w W0 := by subst hW; (repeat (first | with_reducible exact Below.refl _ _ | with_reducible assumption | with_reducible refine up_alloc ?_ _ | with_reducible refine up_drew ?_ | with_reducible refine up_drewN ?_ _ | (with_reducible refine up_set ?_ ?hset _; case hset => first | (simp; done) | (simp; omega) | omega) | with_reducible refine up_trans ?_ (by with_reducible assumption)))
    have k0 : W0.cell? ⟨w.heap.size, 0, none⟩ = some (.slice none 0 0) := by subst hW; simp [go_sem]
    have k1 : W0.cell? ⟨w.heap.size, 1, none⟩ = some (.slice none 0 0) := by subst hW; simp [go_sem]
    have k2 : W0.cell? ⟨w.heap.size, 2, none⟩ = some (.int .i64 0) := by subst hW; simp [go_sem]
    have k3 : W0.cell? ⟨w.heap.size, 3, none⟩ = some (.slice none 0 0) := by subst hW; simp [go_sem]
    have kf : Free W0 w.heap.size := by subst hW; intro o; simp [go_sem]
    have hlt0 : w.heap.size < W0.heap.size := lt_of_cell k0
    clear hW
    refine (HC.out _ hbW).mono ?_
    rintro e w1 ⟨rfl, hb1⟩
    have q0 := up_keep hb1 k0
    have q1x := up_keep hb1 k1
    have q2x := up_keep hb1 k2
    have q3x := up_keep hb1 k3
    have kf1 := kf.up hlt0 hb1
    have hs1 := hb1.size
    have hw1 := up_trans hbW hb1
    go_wp2_with fail
    go_loopw [8, 19] (fun q i wr => ∃ k : Nat, k ≤ n ∧ i = .int .i64 k ∧ OwnN w1.heap.size wr q k (fun i => i) ∧ Below w1.heap.size w1 wr) (fun _ i _ => n - (intOf i).toNat)
    case atStart => exact ⟨0, by omega, rfl, OwnN.empty (Nat.le_refl _) _, below_alloc _ _⟩
    case round =>
      obtain ⟨k, hk, rfl, how, hb⟩ := hrel
      by_cases hlt : k < n
      · go_wp2_with (at_builtin; refine wpList_app_int2 rfl (.tmp 22) (.tmp 24) rfl w1.heap.size _ k (fun i => i) rfl rfl rfl (by simp [go_sem]) (OwnN.up how (by (repeat (first | with_reducible exact Below.refl _ _ | with_reducible assumption | with_reducible refine up_alloc ?_ _ | with_reducible refine up_drew ?_ | with_reducible refine up_drewN ?_ _ | (with_reducible refine up_set ?_ ?hset _; case hset => first | (simp; done) | (simp; omega) | omega) | with_reducible refine up_trans ?_ (by with_reducible assumption))))) (show Below w1.heap.size w1 _ from (by (repeat (first | with_reducible exact Below.refl _ _ | with_reducible assumption | with_reducible refine up_alloc ?_ _ | with_reducible refine up_drew ?_ | with_reducible refine up_drewN ?_ _ | (with_reducible refine up_set ?_ ?hset _; case hset => first | (simp; done) | (simp; omega) | omega) | with_reducible refine up_trans ?_ (by with_reducible assumption))))).size (by omega) ?_; intro v2 w2 ho2 hb2 _ _; replace hb2 := (show Below w1.heap.size w1 _ from (by (repeat (first | with_reducible exact Below.refl _ _ | with_reducible assumption | with_reducible refine up_alloc ?_ _ | with_reducible refine up_drew ?_ | with_reducible refine up_drewN ?_ _ | (with_reducible refine up_set ?_ ?hset _; case hset => first | (simp; done) | (simp; omega) | omega) | with_reducible refine up_trans ?_ (by with_reducible assumption))))).trans hb2)
        go_roundw
        case rel => exact ⟨k + 1, by omega, by go_num, ho2, hb2⟩
        case measure => simp [intOf]; omega
      · have e : k = n := by omega
        subst e
        have hwr := hw1.trans (hb.mono hw1.size)
        have hoi := how.ownI
        go_wp2_with fail
        refine (HN.out _ _ hwr hoi.ints).mono ?_
        rintro e w3 ⟨v3, rfl, hu, hb3⟩
        obtain ⟨f3, t3, p3, he3, g1, g2, g3, _⟩ := id hu
        dsimp only [mkT] at he3 g1 g2 g3
        obtain ⟨A1, q1, rfl, _⟩ := g1.shape
        obtain ⟨A2, q2, rfl, _⟩ := g2.shape
        obtain ⟨A3, q3, rfl, _⟩ := g3.shape
        subst he3
        clear g1 g2 g3
        have hs2 := hb.size
        have hs3 := hb3.size
        have hw3 := up_trans hwr hb3
        have r0 := up_keep hb3 (up_keep hb q0)
        have r1 := up_keep hb3 (up_keep hb q1x)
        have r2 := up_keep hb3 (up_keep hb q2x)
        have r3 := up_keep hb3 (up_keep hb q3x)
        have kf3 := (kf1.up (by omega) hb).up (by omega) hb3
        have fz0 := kf3 0; have fz1 := kf3 1; have fz2 := kf3 2; have fz3 := kf3 3
        go_wp2_with fail
        have s0_0 := cell_set_same w3 (w.heap.size) 0 _ (.slice A1 k q1) r0
        have s0_1 := (cell_set_ne w3 (w.heap.size) 0 (.slice A1 k q1) (w.heap.size) 1 (by omega)).trans r1
        have s0_2 := (cell_set_ne w3 (w.heap.size) 0 (.slice A1 k q1) (w.heap.size) 2 (by omega)).trans r2
        have s0_3 := (cell_set_ne w3 (w.heap.size) 0 (.slice A1 k q1) (w.heap.size) 3 (by omega)).trans r3
        have s1_0 := (cell_set_ne (World.setCell w3 ⟨w.heap.size, 0, none⟩ (.slice A1 k q1)) (w.heap.size) 1 (.slice A2 m q2) (w.heap.size) 0 (by omega)).trans s0_0
        have s1_1 := cell_set_same (World.setCell w3 ⟨w.heap.size, 0, none⟩ (.slice A1 k q1)) (w.heap.size) 1 _ (.slice A2 m q2) s0_1
        have s1_2 := (cell_set_ne (World.setCell w3 ⟨w.heap.size, 0, none⟩ (.slice A1 k q1)) (w.heap.size) 1 (.slice A2 m q2) (w.heap.size) 2 (by omega)).trans s0_2
        have s1_3 := (cell_set_ne (World.setCell w3 ⟨w.heap.size, 0, none⟩ (.slice A1 k q1)) (w.heap.size) 1 (.slice A2 m q2) (w.heap.size) 3 (by omega)).trans s0_3
        have s2_0 := (cell_set_ne (World.setCell (World.setCell w3 ⟨w.heap.size, 0, none⟩ (.slice A1 k q1)) ⟨w.heap.size, 1, none⟩ (.slice A2 m q2)) (w.heap.size) 2 (.int .i64 c) (w.heap.size) 0 (by omega)).trans s1_0
        have s2_1 := (cell_set_ne (World.setCell (World.setCell w3 ⟨w.heap.size, 0, none⟩ (.slice A1 k q1)) ⟨w.heap.size, 1, none⟩ (.slice A2 m q2)) (w.heap.size) 2 (.int .i64 c) (w.heap.size) 1 (by omega)).trans s1_1
        have s2_2 := cell_set_same (World.setCell (World.setCell w3 ⟨w.heap.size, 0, none⟩ (.slice A1 k q1)) ⟨w.heap.size, 1, none⟩ (.slice A2 m q2)) (w.heap.size) 2 _ (.int .i64 c) s1_2
        have s2_3 := (cell_set_ne (World.setCell (World.setCell w3 ⟨w.heap.size, 0, none⟩ (.slice A1 k q1)) ⟨w.heap.size, 1, none⟩ (.slice A2 m q2)) (w.heap.size) 2 (.int .i64 c) (w.heap.size) 3 (by omega)).trans s1_3
        have s3_0 := (cell_set_ne (World.setCell (World.setCell (World.setCell w3 ⟨w.heap.size, 0, none⟩ (.slice A1 k q1)) ⟨w.heap.size, 1, none⟩ (.slice A2 m q2)) ⟨w.heap.size, 2, none⟩ (.int .i64 c)) (w.heap.size) 3 (.slice A3 k q3) (w.heap.size) 0 (by omega)).trans s2_0
        have s3_1 := (cell_set_ne (World.setCell (World.setCell (World.setCell w3 ⟨w.heap.size, 0, none⟩ (.slice A1 k q1)) ⟨w.heap.size, 1, none⟩ (.slice A2 m q2)) ⟨w.heap.size, 2, none⟩ (.int .i64 c)) (w.heap.size) 3 (.slice A3 k q3) (w.heap.size) 1 (by omega)).trans s2_1
        have s3_2 := (cell_set_ne (World.setCell (World.setCell (World.setCell w3 ⟨w.heap.size, 0, none⟩ (.slice A1 k q1)) ⟨w.heap.size, 1, none⟩ (.slice A2 m q2)) ⟨w.heap.size, 2, none⟩ (.int .i64 c)) (w.heap.size) 3 (.slice A3 k q3) (w.heap.size) 2 (by omega)).trans s2_2
        have s3_3 := cell_set_same (World.setCell (World.setCell (World.setCell w3 ⟨w.heap.size, 0, none⟩ (.slice A1 k q1)) ⟨w.heap.size, 1, none⟩ (.slice A2 m q2)) ⟨w.heap.size, 2, none⟩ (.int .i64 c)) (w.heap.size) 3 _ (.slice A3 k q3) s2_3
        have hTu : Turned w.heap.size W0.heap.size w3 (World.setCell (World.setCell (World.setCell (World.setCell w3 ⟨w.heap.size, 0, none⟩ (.slice A1 k q1)) ⟨w.heap.size, 1, none⟩ (.slice A2 m q2)) ⟨w.heap.size, 2, none⟩ (.int .i64 c)) ⟨w.heap.size, 3, none⟩ (.slice A3 k q3)) := Turned.trans (Turned.trans (Turned.trans (Turned.set (by omega) (by omega) _) (Turned.set (by omega) (by omega) _)) (Turned.set (by omega) (by omega) _)) (Turned.set (by omega) (by omega) _)
        generalize hW : (World.setCell (World.setCell (World.setCell (World.setCell w3 ⟨w.heap.size, 0, none⟩ (.slice A1 k q1)) ⟨w.heap.size, 1, none⟩ (.slice A2 m q2)) ⟨w.heap.size, 2, none⟩ (.int .i64 c)) ⟨w.heap.size, 3, none⟩ (.slice A3 k q3)) = W4 at *
        clear hW
        refine bodyPost_ret (v := .tuple #[.agg #[.slice A1 k q1, .slice A2 m q2, .int .i64 c, .slice A3 k q3], .bool true]) (by simp [results, Try.results54, go_sem, s3_0, s3_1, s3_2, s3_3]) rfl ?_
        exact ⟨_, rfl, (hu.turn hTu (by omega)).more (by omega), hw3.trans (hTu.below (by omega))⟩
set_option maxRecDepth 100000 in
set_option maxHeartbeats 4000000 in
theorem sPlainTransition_g (f t : Value) (n m : Nat) (X Y U V : Nat → Int) (c : Int) (w : World) (hf : Spots w f n X Y) (ht : Spots w t m U V) (hn : n ≤ 1048576) (hm : m ≤ 1048576) :
    Calls Try.prog 53 #[f, t, .int .i64 c] w (AnsTB w (ptD n m X Y U V c) (ccB n m X Y U V c)) := by
  have HF := Lib.hid hf
  have HT := Lib.hid ht
  obtain ⟨A1', c1, rfl, b1⟩ := hf.shape
  obtain ⟨A2', c2, rfl, b2⟩ := ht.shape
  clear hf ht
  have HC := Lib.hid (fun W (hW : Below w.heap.size w W) => asAsked_g _ _ n m X Y U V c W (HF.out.up hW) (HT.out.up hW) hn hm)
  cases e1 : ccB n m X Y U V c with
  | false =>
    rw [e1] at HC
    rw [show ptD n m X Y U V c = TrD.zero by simp [ptD, e1]]
    go_enter Try.func53, Try.ntmps53
    go_wp2_with fail
    generalize hW : World.alloc w _ = W0 at *
    have hbW : Below w.heap.size w W0 := by subst hW; (repeat (first | with_reducible exact Below.refl _ _ | with_reducible assumption | with_reducible refine up_alloc ?_ _ | with_reducible refine up_drew ?_ | with_reducible refine up_drewN ?_ _ | (with_reducible refine up_set ?_ ?hset _; case hset => first | (simp; done) | (simp; omega) | omega) | with_reducible refine up_trans ?_ (by with_reducible assumption)))
    have k0 : W0.cell? ⟨w.heap.size, 0, none⟩ = some (.slice none 0 0) := by subst hW; simp [go_sem]
    have k1 : W0.cell? ⟨w.heap.size, 1, none⟩ = some (.slice none 0 0) := by subst hW; simp [go_sem]
    have k2 : W0.cell? ⟨w.heap.size, 2, none⟩ = some (.int .i64 0) := by subst hW; simp [go_sem]
    have k3 : W0.cell? ⟨w.heap.size, 3, none⟩ = some (.slice none 0 0) := by subst hW; simp [go_sem]
    have kf : Free W0 w.heap.size := by subst hW; intro o; simp [go_sem]
    have hlt0 : w.heap.size < W0.heap.size := lt_of_cell k0
    clear hW
    refine (HC.out _ hbW).mono ?_
    rintro e w1 ⟨rfl, hb1⟩
    have q0 := up_keep hb1 k0
    have q1 := up_keep hb1 k1
    have q2 := up_keep hb1 k2
    have q3 := up_keep hb1 k3
    have kf1 := kf.up hlt0 hb1
    have hs1 := hb1.size
    have hw1 := up_trans hbW hb1
    have fz0 := kf1 0; have fz1 := kf1 1; have fz2 := kf1 2; have fz3 := kf1 3
    go_wp2_with fail
    have s0_0 := cell_set_same w1 (w.heap.size) 0 _ (.slice none 0 0) q0
    have s0_1 := (cell_set_ne w1 (w.heap.size) 0 (.slice none 0 0) (w.heap.size) 1 (by omega)).trans q1
    have s0_2 := (cell_set_ne w1 (w.heap.size) 0 (.slice none 0 0) (w.heap.size) 2 (by omega)).trans q2
    have s0_3 := (cell_set_ne w1 (w.heap.size) 0 (.slice none 0 0) (w.heap.size) 3 (by omega)).trans q3
    have s1_0 := (cell_set_ne (World.setCell w1 ⟨w.heap.size, 0, none⟩ (.slice none 0 0)) (w.heap.size) 1 (.slice none 0 0) (w.heap.size) 0 (by omega)).trans s0_0
    have s1_1 := cell_set_same (World.setCell w1 ⟨w.heap.size, 0, none⟩ (.slice none 0 0)) (w.heap.size) 1 _ (.slice none 0 0) s0_1
    have s1_2 := (cell_set_ne (World.setCell w1 ⟨w.heap.size, 0, none⟩ (.slice none 0 0)) (w.heap.size) 1 (.slice none 0 0) (w.heap.size) 2 (by omega)).trans s0_2
    have s1_3 := (cell_set_ne (World.setCell w1 ⟨w.heap.size, 0, none⟩ (.slice none 0 0)) (w.heap.size) 1 (.slice none 0 0) (w.heap.size) 3 (by omega)).trans s0_3
    have s2_0 := (cell_set_ne (World.setCell (World.setCell w1 ⟨w.heap.size, 0, none⟩ (.slice none 0 0)) ⟨w.heap.size, 1, none⟩ (.slice none 0 0)) (w.heap.size) 2 (.int .i64 0) (w.heap.size) 0 (by omega)).trans s1_0
    have s2_1 := (cell_set_ne (World.setCell (World.setCell w1 ⟨w.heap.size, 0, none⟩ (.slice none 0 0)) ⟨w.heap.size, 1, none⟩ (.slice none 0 0)) (w.heap.size) 2 (.int .i64 0) (w.heap.size) 1 (by omega)).trans s1_1
    have s2_2 := cell_set_same (World.setCell (World.setCell w1 ⟨w.heap.size, 0, none⟩ (.slice none 0 0)) ⟨w.heap.size, 1, none⟩ (.slice none 0 0)) (w.heap.size) 2 _ (.int .i64 0) s1_2
    have s2_3 := (cell_set_ne (World.setCell (World.setCell w1 ⟨w.heap.size, 0, none⟩ (.slice none 0 0)) ⟨w.heap.size, 1, none⟩ (.slice none 0 0)) (w.heap.size) 2 (.int .i64 0) (w.heap.size) 3 (by omega)).trans s1_3
    have s3_0 := (cell_set_ne (World.setCell (World.setCell (World.setCell w1 ⟨w.heap.size, 0, none⟩ (.slice none 0 0)) ⟨w.heap.size, 1, none⟩ (.slice none 0 0)) ⟨w.heap.size, 2, none⟩ (.int .i64 0)) (w.heap.size) 3 (.slice none 0 0) (w.heap.size) 0 (by omega)).trans s2_0
    have s3_1 := (cell_set_ne (World.setCell (World.setCell (World.setCell w1 ⟨w.heap.size, 0, none⟩ (.slice none 0 0)) ⟨w.heap.size, 1, none⟩ (.slice none 0 0)) ⟨w.heap.size, 2, none⟩ (.int .i64 0)) (w.heap.size) 3 (.slice none 0 0) (w.heap.size) 1 (by omega)).trans s2_1
    have s3_2 := (cell_set_ne (World.setCell (World.setCell (World.setCell w1 ⟨w.heap.size, 0, none⟩ (.slice none 0 0)) ⟨w.heap.size, 1, none⟩ (.slice none 0 0)) ⟨w.heap.size, 2, none⟩ (.int .i64 0)) (w.heap.size) 3 (.slice none 0 0) (w.heap.size) 2 (by omega)).trans s2_2
    have s3_3 := cell_set_same (World.setCell (World.setCell (World.setCell w1 ⟨w.heap.size, 0, none⟩ (.slice none 0 0)) ⟨w.heap.size, 1, none⟩ (.slice none 0 0)) ⟨w.heap.size, 2, none⟩ (.int .i64 0)) (w.heap.size) 3 _ (.slice none 0 0) s2_3
    have hTu : Turned w.heap.size W0.heap.size w1 (World.setCell (World.setCell (World.setCell (World.setCell w1 ⟨w.heap.size, 0, none⟩ (.slice none 0 0)) ⟨w.heap.size, 1, none⟩ (.slice none 0 0)) ⟨w.heap.size, 2, none⟩ (.int .i64 0)) ⟨w.heap.size, 3, none⟩ (.slice none 0 0)) := Turned.trans (Turned.trans (Turned.trans (Turned.set (by omega) (by omega) _) (Turned.set (by omega) (by omega) _)) (Turned.set (by omega) (by omega) _)) (Turned.set (by omega) (by omega) _)
    generalize hW : (World.setCell (World.setCell (World.setCell (World.setCell w1 ⟨w.heap.size, 0, none⟩ (.slice none 0 0)) ⟨w.heap.size, 1, none⟩ (.slice none 0 0)) ⟨w.heap.size, 2, none⟩ (.int .i64 0)) ⟨w.heap.size, 3, none⟩ (.slice none 0 0)) = W4 at *
    clear hW
    refine bodyPost_ret (v := .tuple #[.agg #[.slice none 0 0, .slice none 0 0, .int .i64 0, .slice none 0 0], .bool false]) (by simp [results, Try.results53, go_sem, s3_0, s3_1, s3_2, s3_3]) rfl ?_
    exact ⟨_, rfl, OwnT.zero, hw1.trans (hTu.below (by omega))⟩
  | true =>
    rw [e1] at HC
    rw [show ptD n m X Y U V c = ⟨n, m, n, X, Y, U, V, fun i => i, c⟩ by simp [ptD, e1, mkT]]
    have HN := Lib.hid (fun W p (hW : Below w.heap.size w W) (hp : Ints W p n (fun i => i)) => asWith_g _ _ p n m n X Y U V (fun i => i) c W (HF.out.up hW) (HT.out.up hW) hp hn hm hn)
    clear e1
    go_enter Try.func53, Try.ntmps53
    go_wp2_with fail
    generalize hW : World.alloc w _ = W0 at *
    have hbW : Below w.heap.size w W0 := by subst hW; (repeat (first | with_reducible exact Below.refl _ _ | with_reducible assumption | with_reducible refine up_alloc ?_ _ | with_reducible refine up_drew ?_ | with_reducible refine up_drewN ?_ _ | (with_reducible refine up_set ?_ ?hset _; case hset => first | (simp; done) | (simp; omega) | omega) | with_reducible refine up_trans ?_ (by with_reducible assumption)))
    have k0 : W0.cell? ⟨w.heap.size, 0, none⟩ = some (.slice none 0 0) := by subst hW; simp [go_sem]
    have k1 : W0.cell? ⟨w.heap.size, 1, none⟩ = some (.slice none 0 0) := by subst hW; simp [go_sem]
    have k2 : W0.cell? ⟨w.heap.size, 2, none⟩ = some (.int .i64 0) := by subst hW; simp [go_sem]
    have k3 : W0.cell? ⟨w.heap.size, 3, none⟩ = some (.slice none 0 0) := by subst hW; simp [go_sem]
    have kf : Free W0 w.heap.size := by subst hW; intro o; simp [go_sem]
    have hlt0 : w.heap.size < W0.heap.size := lt_of_cell k0
    clear hW
    refine (HC.out _ hbW).mono ?_
    rintro e w1 ⟨rfl, hb1⟩
    have q0 := up_keep hb1 k0
    have q1x := up_keep hb1 k1
    have q2x := up_keep hb1 k2
    have q3x := up_keep hb1 k3
    have kf1 := kf.up hlt0 hb1
    have hs1 := hb1.size
    have hw1 := up_trans hbW hb1
    go_wp2_with fail
    go_loopw [8, 18] (fun q i wr => ∃ k : Nat, k ≤ n ∧ i = .int .i64 k ∧ OwnN w1.heap.size wr q k (fun i => i) ∧ Below w1.heap.size w1 wr) (fun _ i _ => n - (intOf i).toNat)
    case atStart => exact ⟨0, by omega, rfl, OwnN.nil _ _ _, Below.refl _ _⟩
    case round =>
      obtain ⟨k, hk, rfl, how, hb⟩ := hrel
      by_cases hlt : k < n
      · go_wp2_with (at_builtin; refine wpList_app_int2 rfl (.tmp 21) (.tmp 23) rfl w1.heap.size _ k (fun i => i) rfl rfl rfl (by simp [go_sem]) (OwnN.up how (by (repeat (first | with_reducible exact Below.refl _ _ | with_reducible assumption | with_reducible refine up_alloc ?_ _ | with_reducible refine up_drew ?_ | with_reducible refine up_drewN ?_ _ | (with_reducible refine up_set ?_ ?hset _; case hset => first | (simp; done) | (simp; omega) | omega) | with_reducible refine up_trans ?_ (by with_reducible assumption))))) (show Below w1.heap.size w1 _ from (by (repeat (first | with_reducible exact Below.refl _ _ | with_reducible assumption | with_reducible refine up_alloc ?_ _ | with_reducible refine up_drew ?_ | with_reducible refine up_drewN ?_ _ | (with_reducible refine up_set ?_ ?hset _; case hset => first | (simp; done) | (simp; omega) | omega) | with_reducible refine up_trans ?_ (by with_reducible assumption))))).size (by omega) ?_; intro v2 w2 ho2 hb2 _ _; replace hb2 := (show Below w1.heap.size w1 _ from (by (repeat (first | with_reducible exact Below.refl _ _ | with_reducible assumption | with_reducible refine up_alloc ?_ _ | with_reducible refine up_drew ?_ | with_reducible refine up_drewN ?_ _ | (with_reducible refine up_set ?_ ?hset _; case hset => first | (simp; done) | (simp; omega) | omega) | with_reducible refine up_trans ?_ (by with_reducible assumption))))).trans hb2)
        go_roundw
        case rel => exact ⟨k + 1, by omega, by go_num, ho2, hb2⟩
        case measure => simp [intOf]; omega
      · have e : k = n := by omega
        subst e
        have hwr := hw1.trans (hb.mono hw1.size)
        have hoi := how.ownI
        go_wp2_with fail
        refine (HN.out _ _ hwr hoi.ints).mono ?_
        rintro e w3 ⟨v3, rfl, hu, hb3⟩
        obtain ⟨f3, t3, p3, he3, g1, g2, g3, _⟩ := id hu
        dsimp only [mkT] at he3 g1 g2 g3
        obtain ⟨A1, q1, rfl, _⟩ := g1.shape
        obtain ⟨A2, q2, rfl, _⟩ := g2.shape
        obtain ⟨A3, q3, rfl, _⟩ := g3.shape
        subst he3
        clear g1 g2 g3
        have hs2 := hb.size
        have hs3 := hb3.size
        have hw3 := up_trans hwr hb3
        have r0 := up_keep hb3 (up_keep hb q0)
        have r1 := up_keep hb3 (up_keep hb q1x)
        have r2 := up_keep hb3 (up_keep hb q2x)
        have r3 := up_keep hb3 (up_keep hb q3x)
        have kf3 := (kf1.up (by omega) hb).up (by omega) hb3
        have fz0 := kf3 0; have fz1 := kf3 1; have fz2 := kf3 2; have fz3 := kf3 3
        go_wp2_with fail
        have s0_0 := cell_set_same w3 (w.heap.size) 0 _ (.slice A1 k q1) r0
        have s0_1 := (cell_set_ne w3 (w.heap.size) 0 (.slice A1 k q1) (w.heap.size) 1 (by omega)).trans r1
        have s0_2 := (cell_set_ne w3 (w.heap.size) 0 (.slice A1 k q1) (w.heap.size) 2 (by omega)).trans r2
        have s0_3 := (cell_set_ne w3 (w.heap.size) 0 (.slice A1 k q1) (w.heap.size) 3 (by omega)).trans r3
        have s1_0 := (cell_set_ne (World.setCell w3 ⟨w.heap.size, 0, none⟩ (.slice A1 k q1)) (w.heap.size) 1 (.slice A2 m q2) (w.heap.size) 0 (by omega)).trans s0_0
        have s1_1 := cell_set_same (World.setCell w3 ⟨w.heap.size, 0, none⟩ (.slice A1 k q1)) (w.heap.size) 1 _ (.slice A2 m q2) s0_1
        have s1_2 := (cell_set_ne (World.setCell w3 ⟨w.heap.size, 0, none⟩ (.slice A1 k q1)) (w.heap.size) 1 (.slice A2 m q2) (w.heap.size) 2 (by omega)).trans s0_2
        have s1_3 := (cell_set_ne (World.setCell w3 ⟨w.heap.size, 0, none⟩ (.slice A1 k q1)) (w.heap.size) 1 (.slice A2 m q2) (w.heap.size) 3 (by omega)).trans s0_3
        have s2_0 := (cell_set_ne (World.setCell (World.setCell w3 ⟨w.heap.size, 0, none⟩ (.slice A1 k q1)) ⟨w.heap.size, 1, none⟩ (.slice A2 m q2)) (w.heap.size) 2 (.int .i64 c) (w.heap.size) 0 (by omega)).trans s1_0
        have s2_1 := (cell_set_ne (World.setCell (World.setCell w3 ⟨w.heap.size, 0, none⟩ (.slice A1 k q1)) ⟨w.heap.size, 1, none⟩ (.slice A2 m q2)) (w.heap.size) 2 (.int .i64 c) (w.heap.size) 1 (by omega)).trans s1_1
        have s2_2 := cell_set_same (World.setCell (World.setCell w3 ⟨w.heap.size, 0, none⟩ (.slice A1 k q1)) ⟨w.heap.size, 1, none⟩ (.slice A2 m q2)) (w.heap.size) 2 _ (.int .i64 c) s1_2
        have s2_3 := (cell_set_ne (World.setCell (World.setCell w3 ⟨w.heap.size, 0, none⟩ (.slice A1 k q1)) ⟨w.heap.size, 1, none⟩ (.slice A2 m q2)) (w.heap.size) 2 (.int .i64 c) (w.heap.size) 3 (by omega)).trans s1_3
        have s3_0 := (cell_set_ne (World.setCell (World.setCell (World.setCell w3 ⟨w.heap.size, 0, none⟩ (.slice A1 k q1)) ⟨w.heap.size, 1, none⟩ (.slice A2 m q2)) ⟨w.heap.size, 2, none⟩ (.int .i64 c)) (w.heap.size) 3 (.slice A3 k q3) (w.heap.size) 0 (by omega)).trans s2_0
        have s3_1 := (cell_set_ne (World.setCell (World.setCell (World.setCell w3 ⟨w.heap.size, 0, none⟩ (.slice A1 k q1)) ⟨w.heap.size, 1, none⟩ (.slice A2 m q2)) ⟨w.heap.size, 2, none⟩ (.int .i64 c)) (w.heap.size) 3 (.slice A3 k q3) (w.heap.size) 1 (by omega)).trans s2_1
        have s3_2 := (cell_set_ne (World.setCell (World.setCell (World.setCell w3 ⟨w.heap.size, 0, none⟩ (.slice A1 k q1)) ⟨w.heap.size, 1, none⟩ (.slice A2 m q2)) ⟨w.heap.size, 2, none⟩ (.int .i64 c)) (w.heap.size) 3 (.slice A3 k q3) (w.heap.size) 2 (by omega)).trans s2_2
        have s3_3 := cell_set_same (World.setCell (World.setCell (World.setCell w3 ⟨w.heap.size, 0, none⟩ (.slice A1 k q1)) ⟨w.heap.size, 1, none⟩ (.slice A2 m q2)) ⟨w.heap.size, 2, none⟩ (.int .i64 c)) (w.heap.size) 3 _ (.slice A3 k q3) s2_3
        have hTu : Turned w.heap.size W0.heap.size w3 (World.setCell (World.setCell (World.setCell (World.setCell w3 ⟨w.heap.size, 0, none⟩ (.slice A1 k q1)) ⟨w.heap.size, 1, none⟩ (.slice A2 m q2)) ⟨w.heap.size, 2, none⟩ (.int .i64 c)) ⟨w.heap.size, 3, none⟩ (.slice A3 k q3)) := Turned.trans (Turned.trans (Turned.trans (Turned.set (by omega) (by omega) _) (Turned.set (by omega) (by omega) _)) (Turned.set (by omega) (by omega) _)) (Turned.set (by omega) (by omega) _)
        generalize hW : (World.setCell (World.setCell (World.setCell (World.setCell w3 ⟨w.heap.size, 0, none⟩ (.slice A1 k q1)) ⟨w.heap.size, 1, none⟩ (.slice A2 m q2)) ⟨w.heap.size, 2, none⟩ (.int .i64 c)) ⟨w.heap.size, 3, none⟩ (.slice A3 k q3)) = W4 at *
        clear hW
        refine bodyPost_ret (v := .tuple #[.agg #[.slice A1 k q1, .slice A2 m q2, .int .i64 c, .slice A3 k q3], .bool true]) (by simp [results, Try.results53, go_sem, s3_0, s3_1, s3_2, s3_3]) rfl ?_
        exact ⟨_, rfl, (hu.turn hTu (by omega)).more (by omega), hw3.trans (hTu.below (by omega))⟩
end Go.Proofs.Ytccipfpbaeoggaa
