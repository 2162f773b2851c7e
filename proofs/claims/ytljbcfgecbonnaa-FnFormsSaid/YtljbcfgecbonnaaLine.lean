/-
  alongWay and fmBetween; LineOf on both sides.
-/
import Derived.Test.YtljbcfgecbonnaaRows
import Derived.Test.YtljbcfgecbonnaaBase
import Derived.Test.YtljbcfgecbonnaaSpot
import Derived.Test.YtljbcfgecbonnaaSlice
import Derived.Test.YtljbcfgecbonnaaChart
import Derived.Test.YtljbcfgecbonnaaRound
import Derived.Test.YtljbcfgecbonnaaAppend
import Derived.Test.YtljbcfgecbonnaaAppendE
import Derived.Test.YtljbcfgecbonnaaForm
import Derived.Test.YtljbcfgecbonnaaLawS
import Derived.Test.YtljbcfgecbonnaaMark
import Derived.Test.YtljbcfgecbonnaaOpen
import Derived.Test.YtljbcfgecbonnaaTrod
import Derived.Deep.RegionHeld3
namespace Go.Proofs.Ytljbcfgecbonnaa
open Go.RowKit Go.Sort Go.ChangeShapes Go.WideShapes

theorem cell_drewL (w : World) (p : Addr) : w.drew.cell? p = w.cell? p := rfl
/-- The part k / n of the way from x to u. -/
def along (x u k n : Int) : Int := x + rd (k * (u - x)) n
theorem along_bd {x u k n : Int} {A : Nat} (hA : A ≤ 1280) (h0 : 0 ≤ x) (h1 : x ≤ A) (h2 : 0 ≤ u) (h3 : u ≤ A) (h4 : 0 ≤ k) (h5 : k ≤ 1000) (hn : 0 < n) (hn' : n ≤ 1000) :
    (-1280000 ≤ k * (u - x) ∧ k * (u - x) ≤ 1280000) ∧ -2561000 ≤ rd (k * (u - x)) n ∧ rd (k * (u - x)) n ≤ 2561000 := by
  have h := mul_bd (a := k) (b := u - x) (A := 1000) (B := 1280) (by omega) (by omega) (by omega) (by omega)
  exact ⟨by omega, rd_bd hn (by omega) (by omega)⟩
set_option maxRecDepth 100000 in
set_option maxHeartbeats 1000000 in
theorem alongWay_any (x y u v k n : Int) (h : spotB x y = true) (h' : spotB u v = true) (hk : 0 ≤ k) (hk' : k ≤ 1000) (hn : 0 < n) (hn' : n ≤ 1000) (w : World) :
    Calls Try.prog 113 #[.agg #[.int .i64 x, .int .i64 y], .agg #[.int .i64 u, .int .i64 v], .int .i64 k, .int .i64 n] w (Ans w (.agg #[.int .i64 (along x u k n), .int .i64 (along y v k n)])) := by
  obtain ⟨⟨a1, a2⟩, a3, a4⟩ := spotB_iff.1 h
  obtain ⟨⟨b1, b2⟩, b3, b4⟩ := spotB_iff.1 h'
  obtain ⟨⟨c1, c2⟩, c3, c4⟩ := along_bd (A := 1280) (by omega) a1 a2 b1 b2 hk hk' hn hn'
  obtain ⟨⟨d1, d2⟩, d3, d4⟩ := along_bd (A := 672) (by omega) a3 a4 b3 b4 hk hk' hn hn'
  have HX := Lib.hid (show along x u k n = x + rd (k * (u - x)) n from rfl)
  have HY := Lib.hid (show along y v k n = y + rd (k * (v - y)) n from rfl)
  clear h h'
  go_enter Try.func113, Try.ntmps113
  go_wp2
  generalize hW : World.alloc _ _ = W
  have q0 : W.cell? ⟨w.heap.size, 0, none⟩ = some (.int .i64 x) := by subst hW; simp [go_sem]
  have q1 : W.cell? ⟨w.heap.size, 1, none⟩ = some (.int .i64 y) := by subst hW; simp [go_sem]
  have q2 : W.cell? ⟨w.heap.size + 1, 0, none⟩ = some (.int .i64 u) := by subst hW; simp [go_sem]
  have q3 : W.cell? ⟨w.heap.size + 1, 1, none⟩ = some (.int .i64 v) := by subst hW; simp [go_sem]
  have q4 : W.cell? ⟨w.heap.size + 1 + 1, 0, none⟩ = some (.int .i64 0) := by subst hW; simp [go_sem]
  have f4 : W.frozen? ⟨w.heap.size + 1 + 1, 0, none⟩ = false := by subst hW; simp [go_sem]
  have q5 : W.cell? ⟨w.heap.size + 1 + 1, 1, none⟩ = some (.int .i64 0) := by subst hW; simp [go_sem]
  have f5 : W.frozen? ⟨w.heap.size + 1 + 1, 1, none⟩ = false := by subst hW; simp [go_sem]
  have hb0 : Below w.heap.size w W := by subst hW; (repeat (first | with_reducible exact Below.refl _ _ | with_reducible assumption | with_reducible refine up_alloc ?_ _ | with_reducible refine up_drew ?_ | with_reducible refine up_drewN ?_ _ | (with_reducible refine up_set ?_ ?hset _; case hset => first | (simp; done) | (simp; omega) | omega) | with_reducible refine up_trans ?_ (by with_reducible assumption)))
  clear hW
  have z0 : IntKind.i64.wrap (u - x) = u - x := IntWalk.i64_in _ (by omega)
  have z1 : IntKind.i64.wrap (v - y) = v - y := IntWalk.i64_in _ (by omega)
  have z2 : IntKind.i64.wrap (k * (u - x)) = k * (u - x) := IntWalk.i64_in _ (by omega)
  have z3 : IntKind.i64.wrap (k * (v - y)) = k * (v - y) := IntWalk.i64_in _ (by omega)
  have z4 : IntKind.i64.wrap (x + rd (k * (u - x)) n) = x + rd (k * (u - x)) n := IntWalk.i64_in _ (by omega)
  have z5 : IntKind.i64.wrap (y + rd (k * (v - y)) n) = y + rd (k * (v - y)) n := IntWalk.i64_in _ (by omega)
  have HR1 := Lib.hid (fun W => roundDiv_any (k * (u - x)) n hn (by omega) (by omega) (by omega) W)
  have HR2 := Lib.hid (fun W => roundDiv_any (k * (v - y)) n hn (by omega) (by omega) (by omega) W)
  go_region_held3 (fun w' => w'.cell? ⟨w.heap.size, 0, none⟩ = some (.int .i64 x) ∧ w'.cell? ⟨w.heap.size, 1, none⟩ = some (.int .i64 y) ∧ w'.cell? ⟨w.heap.size + 1, 0, none⟩ = some (.int .i64 u) ∧ w'.cell? ⟨w.heap.size + 1, 1, none⟩ = some (.int .i64 v))
    (first | (refine ⟨?_, ?_, ?_, ?_⟩ <;> (refine Eq.trans (cell_drewL _ _) ?_; rw [cell_set_ne _ _ _ _ _ _ (by omega), cell_set_ne _ _ _ _ _ _ (by omega)]; assumption)) | go_keep) (first | (go_at_call 99; (with_reducible refine (HR1.out _).mono ?_); rintro e w1 ⟨rfl, rfl⟩) | (go_at_call 99; (with_reducible refine (HR2.out _).mono ?_); rintro e w1 ⟨rfl, rfl⟩))
  clear z0 z1 z2 z3 z4 z5
  go_wp2
  refine bodyPost_ret (v := .agg #[.int .i64 (x + rd (k * (u - x)) n), .int .i64 (y + rd (k * (v - y)) n)]) (by simp [results, Try.results113, go_sem, *]) rfl ?_
  rw [HX.out, HY.out]
  exact ⟨rfl, by (repeat (first | with_reducible exact Below.refl _ _ | with_reducible assumption | with_reducible refine up_alloc ?_ _ | with_reducible refine up_drew ?_ | with_reducible refine up_drewN ?_ _ | (with_reducible refine up_set ?_ ?hset _; case hset => first | (simp; done) | (simp; omega) | omega) | with_reducible refine up_trans ?_ (by with_reducible assumption)))⟩
set_option maxRecDepth 100000 in
set_option maxHeartbeats 1000000 in
theorem fmBetween_any (x y u v k n : Int) (h : spotB x y = true) (h' : spotB u v = true) (hk : 0 ≤ k) (hk' : k ≤ 1000) (hn : 0 < n) (hn' : n ≤ 1000) (w : World) :
    Calls Try.prog 116 #[.agg #[.int .i64 x, .int .i64 y], .agg #[.int .i64 u, .int .i64 v], .int .i64 k, .int .i64 n] w (Ans w (.agg #[.int .i64 (along x u k n), .int .i64 (along y v k n)])) := by
  obtain ⟨⟨a1, a2⟩, a3, a4⟩ := spotB_iff.1 h
  obtain ⟨⟨b1, b2⟩, b3, b4⟩ := spotB_iff.1 h'
  obtain ⟨⟨c1, c2⟩, c3, c4⟩ := along_bd (A := 1280) (by omega) a1 a2 b1 b2 hk hk' hn hn'
  obtain ⟨⟨d1, d2⟩, d3, d4⟩ := along_bd (A := 672) (by omega) a3 a4 b3 b4 hk hk' hn hn'
  have HX := Lib.hid (show along x u k n = x + rd ((u - x) * k) n by unfold along; rw [Int.mul_comm])
  have HY := Lib.hid (show along y v k n = y + rd ((v - y) * k) n by unfold along; rw [Int.mul_comm])
  rw [Int.mul_comm k (u - x)] at c1 c2 c3 c4
  rw [Int.mul_comm k (v - y)] at d1 d2 d3 d4
  clear h h'
  go_enter Try.func116, Try.ntmps116
  go_wp2
  generalize hW : World.alloc _ _ = W
  have q0 : W.cell? ⟨w.heap.size, 0, none⟩ = some (.int .i64 x) := by subst hW; simp [go_sem]
  have q1 : W.cell? ⟨w.heap.size, 1, none⟩ = some (.int .i64 y) := by subst hW; simp [go_sem]
  have q2 : W.cell? ⟨w.heap.size + 1, 0, none⟩ = some (.int .i64 u) := by subst hW; simp [go_sem]
  have q3 : W.cell? ⟨w.heap.size + 1, 1, none⟩ = some (.int .i64 v) := by subst hW; simp [go_sem]
  have q4 : W.cell? ⟨w.heap.size + 1 + 1, 0, none⟩ = some (.int .i64 0) := by subst hW; simp [go_sem]
  have f4 : W.frozen? ⟨w.heap.size + 1 + 1, 0, none⟩ = false := by subst hW; simp [go_sem]
  have q5 : W.cell? ⟨w.heap.size + 1 + 1, 1, none⟩ = some (.int .i64 0) := by subst hW; simp [go_sem]
  have f5 : W.frozen? ⟨w.heap.size + 1 + 1, 1, none⟩ = false := by subst hW; simp [go_sem]
  have hb0 : Below w.heap.size w W := by subst hW; (repeat (first | with_reducible exact Below.refl _ _ | with_reducible assumption | with_reducible refine up_alloc ?_ _ | with_reducible refine up_drew ?_ | with_reducible refine up_drewN ?_ _ | (with_reducible refine up_set ?_ ?hset _; case hset => first | (simp; done) | (simp; omega) | omega) | with_reducible refine up_trans ?_ (by with_reducible assumption)))
  clear hW
  have z0 : IntKind.i64.wrap (u - x) = u - x := IntWalk.i64_in _ (by omega)
  have z1 : IntKind.i64.wrap (v - y) = v - y := IntWalk.i64_in _ (by omega)
  have z2 : IntKind.i64.wrap ((u - x) * k) = (u - x) * k := IntWalk.i64_in _ (by omega)
  have z3 : IntKind.i64.wrap ((v - y) * k) = (v - y) * k := IntWalk.i64_in _ (by omega)
  have z4 : IntKind.i64.wrap (x + rd ((u - x) * k) n) = x + rd ((u - x) * k) n := IntWalk.i64_in _ (by omega)
  have z5 : IntKind.i64.wrap (y + rd ((v - y) * k) n) = y + rd ((v - y) * k) n := IntWalk.i64_in _ (by omega)
  have HR1 := Lib.hid (fun W => fmRound_any ((u - x) * k) n hn (by omega) (by omega) (by omega) W)
  have HR2 := Lib.hid (fun W => fmRound_any ((v - y) * k) n hn (by omega) (by omega) (by omega) W)
  go_region_held3 (fun w' => w'.cell? ⟨w.heap.size, 0, none⟩ = some (.int .i64 x) ∧ w'.cell? ⟨w.heap.size, 1, none⟩ = some (.int .i64 y) ∧ w'.cell? ⟨w.heap.size + 1, 0, none⟩ = some (.int .i64 u) ∧ w'.cell? ⟨w.heap.size + 1, 1, none⟩ = some (.int .i64 v))
    (first | (refine ⟨?_, ?_, ?_, ?_⟩ <;> (refine Eq.trans (cell_drewL _ _) ?_; rw [cell_set_ne _ _ _ _ _ _ (by omega), cell_set_ne _ _ _ _ _ _ (by omega)]; assumption)) | go_keep) (first | (go_at_call 102; (with_reducible refine (HR1.out _).mono ?_); rintro e w1 ⟨rfl, rfl⟩) | (go_at_call 102; (with_reducible refine (HR2.out _).mono ?_); rintro e w1 ⟨rfl, rfl⟩))
  clear z0 z1 z2 z3 z4 z5
  go_wp2
  refine bodyPost_ret (v := .agg #[.int .i64 (x + rd ((u - x) * k) n), .int .i64 (y + rd ((v - y) * k) n)]) (by simp [results, Try.results116, go_sem, *]) rfl ?_
  rw [HX.out, HY.out]
  exact ⟨rfl, by (repeat (first | with_reducible exact Below.refl _ _ | with_reducible assumption | with_reducible refine up_alloc ?_ _ | with_reducible refine up_drew ?_ | with_reducible refine up_drewN ?_ _ | (with_reducible refine up_set ?_ ?hset _; case hset => first | (simp; done) | (simp; omega) | omega) | with_reducible refine up_trans ?_ (by with_reducible assumption)))⟩
theorem along0 (x u c : Int) (hc : 0 < c) : along x u 0 c = x := by
  unfold along rd
  rw [Int.zero_mul, Int.mul_zero, Int.zero_add, Int.ediv_eq_zero_of_lt (by omega) (by omega), Int.add_zero]
def lnX (x u c : Int) (i : Nat) : Int := along x u i c
def lnC (count : Int) : Int := max 1 (count - 1)
def lnOk (x y u v count : Int) : Bool := (spotB x y && spotB u v) && inB count 1 12
def lnB (x y u v count : Int) : Bool := lnOk x y u v count && chartB count.toNat (lnX x u (lnC count)) (lnX y v (lnC count))
theorem chart_one {X Y : Nat → Int} (h : spotB (X 0) (Y 0) = true) : chartB 1 X Y = true :=
  chartB_iff.2 ⟨by omega, fun i hi => by rw [show i = 0 by omega]; exact h, fun i j hi hj => by omega⟩
set_option maxRecDepth 100000 in
set_option maxHeartbeats 2000000 in
theorem iLine_any (x y u v count : Int) (w : World) :
    Calls Try.prog 41 #[.agg #[.int .i64 x, .int .i64 y], .agg #[.int .i64 u, .int .i64 v], .int .i64 count] w
      (AnsSB w (sel (lnB x y u v count) count.toNat) (lnX x u (lnC count)) (lnX y v (lnC count)) (lnB x y u v count)) := by
  cases hv : lnOk x y u v count with
  | false =>
    rw [show lnB x y u v count = false by simp [lnB, hv]]
    unfold lnOk at hv
    go_enter Try.func41, Try.ntmps41
    go_wp2_with fail
    generalize hW : World.alloc _ _ = W at *
    have hbW : Below w.heap.size w W := by subst hW; (repeat (first | with_reducible exact Below.refl _ _ | with_reducible assumption | with_reducible refine up_alloc ?_ _ | with_reducible refine up_drew ?_ | with_reducible refine up_drewN ?_ _ | (with_reducible refine up_set ?_ ?hset _; case hset => first | (simp; done) | (simp; omega) | omega) | with_reducible refine up_trans ?_ (by with_reducible assumption)))
    have k2 : W.cell? ⟨w.heap.size + 1, 0, none⟩ = some (.int .i64 u) := by subst hW; simp [go_sem]
    have k3 : W.cell? ⟨w.heap.size + 1, 1, none⟩ = some (.int .i64 v) := by subst hW; simp [go_sem]
    clear hW
    refine (isSpot_any _ _ _).mono ?_
    rintro e w1 ⟨rfl, hb⟩
    have q2 := up_keep hb k2
    have q3 := up_keep hb k3
    go_wp2_with (first | (go_at_call 90; refine (isSpot_any _ _ _).mono ?_; rintro e wq ⟨rfl, hbq⟩) | (go_at_call 89; refine (within_any _ _ _ _).mono ?_; rintro e w1 ⟨rfl, rfl⟩))
    all_goals first
      | (exfalso; simp_all; done)
      | (go_ret2; exact AnsSB.nil (by (repeat (first | with_reducible exact Below.refl _ _ | with_reducible assumption | with_reducible refine up_alloc ?_ _ | with_reducible refine up_drew ?_ | with_reducible refine up_drewN ?_ _ | (with_reducible refine up_set ?_ ?hset _; case hset => first | (simp; done) | (simp; omega) | omega) | with_reducible refine up_trans ?_ (by with_reducible assumption)))))
  | true =>
    rw [show lnB x y u v count = chartB count.toNat (lnX x u (lnC count)) (lnX y v (lnC count)) by simp [lnB, hv]]
    simp only [lnOk, Bool.and_eq_true] at hv
    obtain ⟨⟨v1, v2⟩, v3⟩ := hv
    have V1 := Lib.hid v1
    have V2 := Lib.hid v2
    obtain ⟨b1, b2⟩ := inB_iff.1 v3
    by_cases hc1 : count = 1
    · subst hc1
      have E1 := along0 x u (lnC 1) (by decide)
      have E2 := along0 y v (lnC 1) (by decide)
      rw [show ((1 : Int).toNat) = 1 from rfl, chart_one (X := lnX x u (lnC 1)) (Y := lnX y v (lnC 1)) (by unfold lnX; rw [show ((0 : Nat) : Int) = 0 from rfl, E1, E2]; exact v1)]
      have HX := Lib.hid (show lnX x u (lnC 1) 0 = x from E1)
      have HY := Lib.hid (show lnX y v (lnC 1) 0 = y from E2)
      clear E1 E2
      go_enter Try.func41, Try.ntmps41
      go_wp2_with fail
      generalize hW : World.alloc _ _ = W at *
      have hbW : Below w.heap.size w W := by subst hW; (repeat (first | with_reducible exact Below.refl _ _ | with_reducible assumption | with_reducible refine up_alloc ?_ _ | with_reducible refine up_drew ?_ | with_reducible refine up_drewN ?_ _ | (with_reducible refine up_set ?_ ?hset _; case hset => first | (simp; done) | (simp; omega) | omega) | with_reducible refine up_trans ?_ (by with_reducible assumption)))
      have k0 : W.cell? ⟨w.heap.size, 0, none⟩ = some (.int .i64 x) := by subst hW; simp [go_sem]
      have k1 : W.cell? ⟨w.heap.size, 1, none⟩ = some (.int .i64 y) := by subst hW; simp [go_sem]
      have k2 : W.cell? ⟨w.heap.size + 1, 0, none⟩ = some (.int .i64 u) := by subst hW; simp [go_sem]
      have k3 : W.cell? ⟨w.heap.size + 1, 1, none⟩ = some (.int .i64 v) := by subst hW; simp [go_sem]
      clear hW
      refine (isSpot_any _ _ _).mono ?_
      rintro e w1 ⟨rfl, hb⟩
      have q2 := up_keep hb k2
      have q3 := up_keep hb k3
      have q0 := up_keep hb k0
      have q1 := up_keep hb k1
      go_wp2_with fail
      refine (isSpot_any _ _ _).mono ?_
      rintro e w2 ⟨rfl, hb2⟩
      have r0 := up_keep hb2 q0
      have r1 := up_keep hb2 q1
      go_wp2_with (go_at_call 89; refine (within_any _ _ _ _).mono ?_; rintro e w1 ⟨rfl, rfl⟩)
      go_ret2
      exact ⟨_, rfl, (OwnR.one (show w.heap.size ≤ w2.heap.size from (show Below w.heap.size w w2 from (by (repeat (first | with_reducible exact Below.refl _ _ | with_reducible assumption | with_reducible refine up_alloc ?_ _ | with_reducible refine up_drew ?_ | with_reducible refine up_drewN ?_ _ | (with_reducible refine up_set ?_ ?hset _; case hset => first | (simp; done) | (simp; omega) | omega) | with_reducible refine up_trans ?_ (by with_reducible assumption))))).size) HX.out HY.out).ownS, by (repeat (first | with_reducible exact Below.refl _ _ | with_reducible assumption | with_reducible refine up_alloc ?_ _ | with_reducible refine up_drew ?_ | with_reducible refine up_drewN ?_ _ | (with_reducible refine up_set ?_ ?hset _; case hset => first | (simp; done) | (simp; omega) | omega) | with_reducible refine up_trans ?_ (by with_reducible assumption)))⟩
    · obtain ⟨C, rfl⟩ : ∃ C : Nat, count = C := ⟨count.toNat, by omega⟩
      rw [show ((C : Int)).toNat = C by omega]
      have HC := Lib.hid (show lnC (C : Int) = (C : Int) - 1 by unfold lnC; omega)
      have hcb : ((C : Int) == 1) = false := by simpa using hc1
      go_enter Try.func41, Try.ntmps41
      go_wp2_with fail
      generalize hW : World.alloc _ _ = W at *
      have hbW : Below w.heap.size w W := by subst hW; (repeat (first | with_reducible exact Below.refl _ _ | with_reducible assumption | with_reducible refine up_alloc ?_ _ | with_reducible refine up_drew ?_ | with_reducible refine up_drewN ?_ _ | (with_reducible refine up_set ?_ ?hset _; case hset => first | (simp; done) | (simp; omega) | omega) | with_reducible refine up_trans ?_ (by with_reducible assumption)))
      have k0 : W.cell? ⟨w.heap.size, 0, none⟩ = some (.int .i64 x) := by subst hW; simp [go_sem]
      have k1 : W.cell? ⟨w.heap.size, 1, none⟩ = some (.int .i64 y) := by subst hW; simp [go_sem]
      have k2 : W.cell? ⟨w.heap.size + 1, 0, none⟩ = some (.int .i64 u) := by subst hW; simp [go_sem]
      have k3 : W.cell? ⟨w.heap.size + 1, 1, none⟩ = some (.int .i64 v) := by subst hW; simp [go_sem]
      clear hW
      refine (isSpot_any _ _ _).mono ?_
      rintro e w1 ⟨rfl, hb⟩
      have q2 := up_keep hb k2
      have q3 := up_keep hb k3
      go_wp2_with (first | (go_at_call 90; refine (isSpot_any _ _ _).mono ?_; rintro e wq ⟨rfl, hbq⟩) | (go_at_call 89; refine (within_any _ _ _ _).mono ?_; rintro e w1 ⟨rfl, rfl⟩))
      clear v1 v2 v3
      go_loopw [8, 9] (fun p i wr => ∃ k : Nat, k ≤ C ∧ i = .int .i64 k ∧ OwnR W.heap.size wr p k (lnX x u (lnC C)) (lnX y v (lnC C)) ∧ Below W.heap.size W wr) (fun _ i _ => C - (intOf i).toNat)
      case atStart => exact ⟨0, by omega, rfl, OwnR.empty (show Below W.heap.size W _ from (by (repeat (first | with_reducible exact Below.refl _ _ | with_reducible assumption | with_reducible refine up_alloc ?_ _ | with_reducible refine up_drew ?_ | with_reducible refine up_drewN ?_ _ | (with_reducible refine up_set ?_ ?hset _; case hset => first | (simp; done) | (simp; omega) | omega) | with_reducible refine up_trans ?_ (by with_reducible assumption))))).size _ _, by (repeat (first | with_reducible exact Below.refl _ _ | with_reducible assumption | with_reducible refine up_alloc ?_ _ | with_reducible refine up_drew ?_ | with_reducible refine up_drewN ?_ _ | (with_reducible refine up_set ?_ ?hset _; case hset => first | (simp; done) | (simp; omega) | omega) | with_reducible refine up_trans ?_ (by with_reducible assumption)))⟩
      case round =>
        clear hb hbq q2 q3
        obtain ⟨k, hk, rfl, how, hb⟩ := hrel
        by_cases hlt : k < C
        · have q0 := up_keep hb k0
          have q1 := up_keep hb k1
          have q2 := up_keep hb k2
          have q3 := up_keep hb k3
          have HX := Lib.hid (show lnX x u (lnC C) k = along x u k ((C : Int) - 1) by unfold lnX; rw [HC.out])
          have HY := Lib.hid (show lnX y v (lnC C) k = along y v k ((C : Int) - 1) by unfold lnX; rw [HC.out])
          go_wp2_with (first | (go_at_call 113; refine (alongWay_any _ _ _ _ _ _ V1.out V2.out (by omega) (by omega) (by omega) (by omega) _).mono ?_; rintro e wq ⟨rfl, hbq⟩) | (at_builtin; refine wpList_app_spot_e rfl (.tmp 33) (.tmp 40) rfl W.heap.size _ (k) (lnX x u (lnC C)) (lnX y v (lnC C)) rfl rfl (by simp) (OwnR.up how (by (repeat (first | with_reducible exact Below.refl _ _ | with_reducible assumption | with_reducible refine up_alloc ?_ _ | with_reducible refine up_drew ?_ | with_reducible refine up_drewN ?_ _ | (with_reducible refine up_set ?_ ?hset _; case hset => first | (simp; done) | (simp; omega) | omega) | with_reducible refine up_trans ?_ (by with_reducible assumption))))) (show Below W.heap.size W _ from (by (repeat (first | with_reducible exact Below.refl _ _ | with_reducible assumption | with_reducible refine up_alloc ?_ _ | with_reducible refine up_drew ?_ | with_reducible refine up_drewN ?_ _ | (with_reducible refine up_set ?_ ?hset _; case hset => first | (simp; done) | (simp; omega) | omega) | with_reducible refine up_trans ?_ (by with_reducible assumption))))).size (by omega) (HX.out) (HY.out) ?_; intro v2 w2 ho2 hb2; replace hb2 := (show Below W.heap.size W _ from (by (repeat (first | with_reducible exact Below.refl _ _ | with_reducible assumption | with_reducible refine up_alloc ?_ _ | with_reducible refine up_drew ?_ | with_reducible refine up_drewN ?_ _ | (with_reducible refine up_set ?_ ?hset _; case hset => first | (simp; done) | (simp; omega) | omega) | with_reducible refine up_trans ?_ (by with_reducible assumption))))).trans hb2))
          go_roundw
          case rel => exact ⟨k + 1, by omega, by go_num, ho2, hb2⟩
          case measure => simp [intOf]; omega
        · have e : k = C := by omega
          subst e
          have hbw := hbW.trans (hb.mono hbW.size)
          go_wp2_with (go_at_call 85; refine (asForm_g _ _ _ _ _ how.ownS.spots (by omega)).mono ?_; rintro e wq ⟨rfl, hbq⟩)
          go_ret2
          exact AnsSB.sel ((how.ownS.more hbW.size).up hbq) (up_trans hbw hbq)
end Go.Proofs.Ytljbcfgecbonnaa
