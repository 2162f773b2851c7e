/-
  MiddleSpot on both sides.
-/
import Derived.Test.YtljbcfgecbonnaaRows
import Derived.Test.YtljbcfgecbonnaaBase
import Derived.Test.YtljbcfgecbonnaaSpot
import Derived.Test.YtljbcfgecbonnaaSlice
import Derived.Test.YtljbcfgecbonnaaChart
import Derived.Test.YtljbcfgecbonnaaRound
namespace Go.Proofs.Ytljbcfgecbonnaa
open Go.RowKit Go.Sort

/-- The sum of the first n. -/
def sumN (X : Nat → Int) : Nat → Int
  | 0 => 0
  | n + 1 => sumN X n + X n
theorem sumN_bd {X : Nat → Int} {K : Nat} {n : Nat} (h : ∀ i, i < n → 0 ≤ X i ∧ X i ≤ K) : ∀ k, k ≤ n → 0 ≤ sumN X k ∧ sumN X k ≤ (k * K : Nat)
  | 0, _ => ⟨Int.le_refl _, by simp [sumN]⟩
  | k + 1, hk => by
    have h1 := sumN_bd h k (by omega)
    have h2 := h k (by omega)
    rw [Nat.add_mul, Nat.one_mul]
    simp only [sumN]
    omega
theorem sum_bd {X Y : Nat → Int} {n : Nat} (hc : chartB n X Y = true) (k : Nat) (hk : k ≤ n) : (0 ≤ sumN X k ∧ sumN X k ≤ 15360) ∧ 0 ≤ sumN Y k ∧ sumN Y k ≤ 15360 := by
  obtain ⟨⟨_, hn⟩, hs, _⟩ := chartB_iff.1 hc
  have h1 := sumN_bd (X := X) (K := 1280) (n := n) (fun i hi => by have := (spotB_iff.1 (hs i hi)).1; omega) k hk
  have h2 := sumN_bd (X := Y) (K := 1280) (n := n) (fun i hi => by have := (spotB_iff.1 (hs i hi)).2; omega) k hk
  omega
set_option maxHeartbeats 1000000 in
theorem iMid_any (v : Value) (n : Nat) (X Y : Nat → Int) (w : World) (h : Spots w v n X Y) (hc : chartB n X Y = true) :
    Calls Try.prog 95 #[v] w (Ans w (.agg #[.int .i64 (rd (sumN X n) n), .int .i64 (rd (sumN Y n) n)])) := by
  obtain ⟨A, c, rfl, hnc, hrow⟩ := h
  obtain ⟨⟨hn1, hn12⟩, hsp, _⟩ := chartB_iff.1 hc
  obtain ⟨b, o, rfl, hr⟩ := hrow (by omega)
  have HR := Lib.hid hr
  have HS := Lib.hid hsp
  have HC := Lib.hid hc
  clear hr hrow hsp hc
  go_enter Try.func95, Try.ntmps95
  go_wp2_with fail
  generalize hW : World.alloc w _ = W at *
  have hbW : Below w.heap.size w W := by subst hW; (repeat (first | with_reducible exact Below.refl _ _ | with_reducible assumption | with_reducible refine up_alloc ?_ _ | with_reducible refine up_drew ?_ | with_reducible refine up_drewN ?_ _ | (with_reducible refine up_set ?_ ?hset _; case hset => first | (simp; done) | (simp; omega) | omega) | with_reducible refine up_trans ?_ (by with_reducible assumption)))
  have k0 : W.cell? ⟨w.heap.size, 0, none⟩ = some (.int .i64 0) := by subst hW; simp [go_sem]
  have k1 : W.cell? ⟨w.heap.size, 1, none⟩ = some (.int .i64 0) := by subst hW; simp [go_sem]
  have f0 : W.frozen? ⟨w.heap.size, 0, none⟩ = W.frozen? ⟨w.heap.size, 0, none⟩ := rfl
  have hfz : ∀ o, W.frozen? ⟨w.heap.size, o, none⟩ = false := by subst hW; intro o; simp [go_sem]
  clear hW f0
  go_loopw [3, 4, 9] (fun p q i wr => ∃ k : Nat, k ≤ n ∧ i = .int .i64 k ∧ p = .int .i64 (sumN X k) ∧ q = .int .i64 (sumN Y k) ∧ Below W.heap.size W wr) (fun _ _ i _ => n - (intOf i).toNat)
  case atStart => exact ⟨0, by omega, rfl, rfl, rfl, Below.refl _ _⟩
  case round =>
    obtain ⟨k, hk, rfl, rfl, rfl, hb⟩ := hrel
    have hs := sum_bd HC.out k hk
    obtain ⟨⟨s1, s2⟩, s3, s4⟩ := hs
    by_cases hlt : k < n
    · have q0 := up_keep hb (up_keep hbW (HR.out k hlt).1)
      have q1 := up_keep hb (up_keep hbW (HR.out k hlt).2)
      have hsk := spotB_iff.1 (HS.out k hlt)
      obtain ⟨⟨t1, t2⟩, t3, t4⟩ := hsk
      clear hfz
      go_wp2_with fail
      go_roundw
      case rel => exact ⟨k + 1, by omega, by go_num, rfl, rfl, by (repeat (first | with_reducible exact Below.refl _ _ | with_reducible assumption | with_reducible refine up_alloc ?_ _ | with_reducible refine up_drew ?_ | with_reducible refine up_drewN ?_ _ | (with_reducible refine up_set ?_ ?hset _; case hset => first | (simp; done) | (simp; omega) | omega) | with_reducible refine up_trans ?_ (by with_reducible assumption)))⟩
      case measure => simp [intOf]; omega
    · have e : k = n := by omega
      subst e
      have q0 := up_keep hb k0
      have q1 := up_keep hb k1
      have hlw : w.heap.size < W.heap.size := lt_of_cell k0
      have q2 : wr.frozen? ⟨w.heap.size, 0, none⟩ = false := ((bcell hb).2 _ _ hlw).trans (hfz _)
      have q3 : wr.frozen? ⟨w.heap.size, 1, none⟩ = false := ((bcell hb).2 _ _ hlw).trans (hfz _)
      have hbw := hbW.trans (hb.mono hbW.size)
      clear hfz
      go_wp2_with (go_at_call 99; refine (roundDiv_any _ _ (by omega) (by omega) (by omega) (by omega) _).mono ?_; rintro e w1 ⟨rfl, rfl⟩)
      refine bodyPost_ret (v := .agg #[.int .i64 (rd (sumN X k) k), .int .i64 (rd (sumN Y k) k)]) (by simp [results, Try.results95, go_sem, q0, q1]) rfl ?_
      exact ⟨rfl, by (repeat (first | with_reducible exact Below.refl _ _ | with_reducible assumption | with_reducible refine up_alloc ?_ _ | with_reducible refine up_drew ?_ | with_reducible refine up_drewN ?_ _ | (with_reducible refine up_set ?_ ?hset _; case hset => first | (simp; done) | (simp; omega) | omega) | with_reducible refine up_trans ?_ (by with_reducible assumption)))⟩
set_option maxHeartbeats 1000000 in
theorem sMid_any (v : Value) (n : Nat) (X Y : Nat → Int) (w : World) (h : Spots w v n X Y) (hc : chartB n X Y = true) :
    Calls Try.prog 96 #[v] w (Ans w (.agg #[.int .i64 (rd (sumN X n) n), .int .i64 (rd (sumN Y n) n)])) := by
  obtain ⟨A, c, rfl, hnc, hrow⟩ := h
  obtain ⟨⟨hn1, hn12⟩, hsp, _⟩ := chartB_iff.1 hc
  obtain ⟨b, o, rfl, hr⟩ := hrow (by omega)
  have HR := Lib.hid hr
  have HS := Lib.hid hsp
  have HC := Lib.hid hc
  clear hr hrow hsp hc
  go_enter Try.func96, Try.ntmps96
  go_wp2_with fail
  generalize hW : World.alloc w _ = W at *
  have hbW : Below w.heap.size w W := by subst hW; (repeat (first | with_reducible exact Below.refl _ _ | with_reducible assumption | with_reducible refine up_alloc ?_ _ | with_reducible refine up_drew ?_ | with_reducible refine up_drewN ?_ _ | (with_reducible refine up_set ?_ ?hset _; case hset => first | (simp; done) | (simp; omega) | omega) | with_reducible refine up_trans ?_ (by with_reducible assumption)))
  have k0 : W.cell? ⟨w.heap.size, 0, none⟩ = some (.int .i64 0) := by subst hW; simp [go_sem]
  have k1 : W.cell? ⟨w.heap.size, 1, none⟩ = some (.int .i64 0) := by subst hW; simp [go_sem]
  have f0 : W.frozen? ⟨w.heap.size, 0, none⟩ = W.frozen? ⟨w.heap.size, 0, none⟩ := rfl
  have hfz : ∀ o, W.frozen? ⟨w.heap.size, o, none⟩ = false := by subst hW; intro o; simp [go_sem]
  clear hW f0
  go_loopw [3, 4, 9] (fun p q i wr => ∃ k : Nat, k ≤ n ∧ i = .int .i64 k ∧ p = .int .i64 (sumN X k) ∧ q = .int .i64 (sumN Y k) ∧ Below W.heap.size W wr) (fun _ _ i _ => n - (intOf i).toNat)
  case atStart => exact ⟨0, by omega, rfl, rfl, rfl, Below.refl _ _⟩
  case round =>
    obtain ⟨k, hk, rfl, rfl, rfl, hb⟩ := hrel
    have hs := sum_bd HC.out k hk
    obtain ⟨⟨s1, s2⟩, s3, s4⟩ := hs
    by_cases hlt : k < n
    · have q0 := up_keep hb (up_keep hbW (HR.out k hlt).1)
      have q1 := up_keep hb (up_keep hbW (HR.out k hlt).2)
      have hsk := spotB_iff.1 (HS.out k hlt)
      obtain ⟨⟨t1, t2⟩, t3, t4⟩ := hsk
      clear hfz
      go_wp2_with fail
      go_roundw
      case rel => exact ⟨k + 1, by omega, by go_num, rfl, rfl, by (repeat (first | with_reducible exact Below.refl _ _ | with_reducible assumption | with_reducible refine up_alloc ?_ _ | with_reducible refine up_drew ?_ | with_reducible refine up_drewN ?_ _ | (with_reducible refine up_set ?_ ?hset _; case hset => first | (simp; done) | (simp; omega) | omega) | with_reducible refine up_trans ?_ (by with_reducible assumption)))⟩
      case measure => simp [intOf]; omega
    · have e : k = n := by omega
      subst e
      have q0 := up_keep hb k0
      have q1 := up_keep hb k1
      have hlw : w.heap.size < W.heap.size := lt_of_cell k0
      have q2 : wr.frozen? ⟨w.heap.size, 0, none⟩ = false := ((bcell hb).2 _ _ hlw).trans (hfz _)
      have q3 : wr.frozen? ⟨w.heap.size, 1, none⟩ = false := ((bcell hb).2 _ _ hlw).trans (hfz _)
      have hbw := hbW.trans (hb.mono hbW.size)
      clear hfz
      go_wp2_with (go_at_call 102; refine (fmRound_any _ _ (by omega) (by omega) (by omega) (by omega) _).mono ?_; rintro e w1 ⟨rfl, rfl⟩)
      refine bodyPost_ret (v := .agg #[.int .i64 (rd (sumN X k) k), .int .i64 (rd (sumN Y k) k)]) (by simp [results, Try.results96, go_sem, q0, q1]) rfl ?_
      exact ⟨rfl, by (repeat (first | with_reducible exact Below.refl _ _ | with_reducible assumption | with_reducible refine up_alloc ?_ _ | with_reducible refine up_drew ?_ | with_reducible refine up_drewN ?_ _ | (with_reducible refine up_set ?_ ?hset _; case hset => first | (simp; done) | (simp; omega) | omega) | with_reducible refine up_trans ?_ (by with_reducible assumption)))⟩
def midV (n : Nat) (X Y : Nat → Int) : Value := if chartB n X Y then .tuple #[.agg #[.int .i64 (rd (sumN X n) n), .int .i64 (rd (sumN Y n) n)], .bool true] else .tuple #[.agg #[.int .i64 0, .int .i64 0], .bool false]
set_option maxHeartbeats 1000000 in
theorem iMiddle_any (v : Value) (n : Nat) (X Y : Nat → Int) (w : World) (h : Spots w v n X Y) (hn : n ≤ 1048576) :
    Calls Try.prog 17 #[v] w (Ans w (midV n X Y)) := by
  cases hc : chartB n X Y with
  | false =>
    rw [show midV n X Y = .tuple #[.agg #[.int .i64 0, .int .i64 0], .bool false] by simp [midV, hc]]
    go_enter Try.func17, Try.ntmps17
    go_wp2_with fail
    refine (isChart_g v n X Y _ (h.up (by (repeat (first | with_reducible exact Below.refl _ _ | with_reducible assumption | with_reducible refine up_alloc ?_ _ | with_reducible refine up_drew ?_ | with_reducible refine up_drewN ?_ _ | (with_reducible refine up_set ?_ ?hset _; case hset => first | (simp; done) | (simp; omega) | omega) | with_reducible refine up_trans ?_ (by with_reducible assumption))))) (by omega)).mono ?_
    rintro e w1 ⟨rfl, hb0⟩
    have r0 : w1.cell? ⟨w.heap.size, 0, none⟩ = some (.int .i64 0) := up_keep hb0 (by simp [go_sem])
    have r1 : w1.cell? ⟨w.heap.size, 1, none⟩ = some (.int .i64 0) := up_keep hb0 (by simp [go_sem])
    obtain ⟨hc0, hf0⟩ := bcell hb0
    have hz0 := hb0.size
    simp at hz0
    clear h
    go_wp2_with fail
    refine bodyPost_ret (v := .tuple #[.agg #[.int .i64 0, .int .i64 0], .bool false]) (by simp [results, Try.results17, go_sem, r0, r1]) rfl ?_
    exact ⟨rfl, by (repeat (first | with_reducible exact Below.refl _ _ | with_reducible assumption | with_reducible refine up_alloc ?_ _ | with_reducible refine up_drew ?_ | with_reducible refine up_drewN ?_ _ | (with_reducible refine up_set ?_ ?hset _; case hset => first | (simp; done) | (simp; omega) | omega) | with_reducible refine up_trans ?_ (by with_reducible assumption)))⟩
  | true =>
    rw [show midV n X Y = .tuple #[.agg #[.int .i64 (rd (sumN X n) n), .int .i64 (rd (sumN Y n) n)], .bool true] by simp [midV, hc]]
    have HC := Lib.hid hc
    go_enter Try.func17, Try.ntmps17
    go_wp2_with fail
    refine (isChart_g v n X Y _ (h.up (by (repeat (first | with_reducible exact Below.refl _ _ | with_reducible assumption | with_reducible refine up_alloc ?_ _ | with_reducible refine up_drew ?_ | with_reducible refine up_drewN ?_ _ | (with_reducible refine up_set ?_ ?hset _; case hset => first | (simp; done) | (simp; omega) | omega) | with_reducible refine up_trans ?_ (by with_reducible assumption))))) (by omega)).mono ?_
    rintro e w1 ⟨rfl, hb0⟩
    have hsp := (h.up (below_alloc _ _)).up hb0
    have r0 : w1.cell? ⟨w.heap.size, 0, none⟩ = some (.int .i64 0) := up_keep hb0 (by simp [go_sem])
    have r1 : w1.cell? ⟨w.heap.size, 1, none⟩ = some (.int .i64 0) := up_keep hb0 (by simp [go_sem])
    obtain ⟨hc0, hf0⟩ := bcell hb0
    have hz0 := hb0.size
    simp at hz0
    clear h
    go_wp2_with fail
    refine (iMid_any v n X Y _ hsp HC.out).mono ?_
    rintro e w2 ⟨rfl, hb1⟩
    have r2 := up_keep hb1 r0
    have r3 := up_keep hb1 r1
    obtain ⟨hc1, hf1⟩ := bcell hb1
    have hz1 := hb1.size
    have hz2 : w.heap.size < w1.heap.size := by omega
    have hz3 : w.heap.size < w2.heap.size := by omega
    clear hsp
    go_wp2_with fail
    refine bodyPost_ret (v := .tuple #[.agg #[.int .i64 (rd (sumN X n) n), .int .i64 (rd (sumN Y n) n)], .bool true]) (by simp [results, Try.results17, go_sem, r2, r3]) rfl ?_
    exact ⟨rfl, by (repeat (first | with_reducible exact Below.refl _ _ | with_reducible assumption | with_reducible refine up_alloc ?_ _ | with_reducible refine up_drew ?_ | with_reducible refine up_drewN ?_ _ | (with_reducible refine up_set ?_ ?hset _; case hset => first | (simp; done) | (simp; omega) | omega) | with_reducible refine up_trans ?_ (by with_reducible assumption)))⟩
set_option maxHeartbeats 1000000 in
theorem sMiddle_any (v : Value) (n : Nat) (X Y : Nat → Int) (w : World) (h : Spots w v n X Y) (hn : n ≤ 1048576) :
    Calls Try.prog 18 #[v] w (Ans w (midV n X Y)) := by
  cases hc : chartB n X Y with
  | false =>
    rw [show midV n X Y = .tuple #[.agg #[.int .i64 0, .int .i64 0], .bool false] by simp [midV, hc]]
    go_enter Try.func18, Try.ntmps18
    go_wp2_with fail
    refine (chGood_g v n X Y _ (h.up (by (repeat (first | with_reducible exact Below.refl _ _ | with_reducible assumption | with_reducible refine up_alloc ?_ _ | with_reducible refine up_drew ?_ | with_reducible refine up_drewN ?_ _ | (with_reducible refine up_set ?_ ?hset _; case hset => first | (simp; done) | (simp; omega) | omega) | with_reducible refine up_trans ?_ (by with_reducible assumption))))) (by omega)).mono ?_
    rintro e w1 ⟨rfl, hb0⟩
    have r0 : w1.cell? ⟨w.heap.size, 0, none⟩ = some (.int .i64 0) := up_keep hb0 (by simp [go_sem])
    have r1 : w1.cell? ⟨w.heap.size, 1, none⟩ = some (.int .i64 0) := up_keep hb0 (by simp [go_sem])
    obtain ⟨hc0, hf0⟩ := bcell hb0
    have hz0 := hb0.size
    simp at hz0
    clear h
    go_wp2_with fail
    refine bodyPost_ret (v := .tuple #[.agg #[.int .i64 0, .int .i64 0], .bool false]) (by simp [results, Try.results18, go_sem, r0, r1]) rfl ?_
    exact ⟨rfl, by (repeat (first | with_reducible exact Below.refl _ _ | with_reducible assumption | with_reducible refine up_alloc ?_ _ | with_reducible refine up_drew ?_ | with_reducible refine up_drewN ?_ _ | (with_reducible refine up_set ?_ ?hset _; case hset => first | (simp; done) | (simp; omega) | omega) | with_reducible refine up_trans ?_ (by with_reducible assumption)))⟩
  | true =>
    rw [show midV n X Y = .tuple #[.agg #[.int .i64 (rd (sumN X n) n), .int .i64 (rd (sumN Y n) n)], .bool true] by simp [midV, hc]]
    have HC := Lib.hid hc
    go_enter Try.func18, Try.ntmps18
    go_wp2_with fail
    refine (chGood_g v n X Y _ (h.up (by (repeat (first | with_reducible exact Below.refl _ _ | with_reducible assumption | with_reducible refine up_alloc ?_ _ | with_reducible refine up_drew ?_ | with_reducible refine up_drewN ?_ _ | (with_reducible refine up_set ?_ ?hset _; case hset => first | (simp; done) | (simp; omega) | omega) | with_reducible refine up_trans ?_ (by with_reducible assumption))))) (by omega)).mono ?_
    rintro e w1 ⟨rfl, hb0⟩
    have hsp := (h.up (below_alloc _ _)).up hb0
    have r0 : w1.cell? ⟨w.heap.size, 0, none⟩ = some (.int .i64 0) := up_keep hb0 (by simp [go_sem])
    have r1 : w1.cell? ⟨w.heap.size, 1, none⟩ = some (.int .i64 0) := up_keep hb0 (by simp [go_sem])
    obtain ⟨hc0, hf0⟩ := bcell hb0
    have hz0 := hb0.size
    simp at hz0
    clear h
    go_wp2_with fail
    refine (sMid_any v n X Y _ hsp HC.out).mono ?_
    rintro e w2 ⟨rfl, hb1⟩
    have r2 := up_keep hb1 r0
    have r3 := up_keep hb1 r1
    obtain ⟨hc1, hf1⟩ := bcell hb1
    have hz1 := hb1.size
    have hz2 : w.heap.size < w1.heap.size := by omega
    have hz3 : w.heap.size < w2.heap.size := by omega
    clear hsp
    go_wp2_with fail
    refine bodyPost_ret (v := .tuple #[.agg #[.int .i64 (rd (sumN X n) n), .int .i64 (rd (sumN Y n) n)], .bool true]) (by simp [results, Try.results18, go_sem, r2, r3]) rfl ?_
    exact ⟨rfl, by (repeat (first | with_reducible exact Below.refl _ _ | with_reducible assumption | with_reducible refine up_alloc ?_ _ | with_reducible refine up_drew ?_ | with_reducible refine up_drewN ?_ _ | (with_reducible refine up_set ?_ ?hset _; case hset => first | (simp; done) | (simp; omega) | omega) | with_reducible refine up_trans ?_ (by with_reducible assumption)))⟩
end Go.Proofs.Ytljbcfgecbonnaa
