/-
  SpreadForm on both sides, and the law: for all arguments it returns true. No condition.
-/
import Derived.Test.YtljbcfgecbonnaaRows
import Derived.Test.YtljbcfgecbonnaaBase
import Derived.Test.YtljbcfgecbonnaaSpot
import Derived.Test.YtljbcfgecbonnaaSlice
import Derived.Test.YtljbcfgecbonnaaChart
import Derived.Test.YtljbcfgecbonnaaRound
import Derived.Test.YtljbcfgecbonnaaAppend
import Derived.Test.YtljbcfgecbonnaaAppendE
import Derived.Test.YtljbcfgecbonnaaForm
import Derived.Test.YtljbcfgecbonnaaMiddle
import Derived.Test.YtljbcfgecbonnaaLawS
import Derived.Test.YtljbcfgecbonnaaMark
import Derived.Test.YtljbcfgecbonnaaOpen
import Derived.Test.YtljbcfgecbonnaaTrod
import Derived.Deep.RegionHeld3
namespace Go.Proofs.Ytljbcfgecbonnaa
open Go.RowKit Go.Sort Go.ChangeShapes Go.WideShapes

theorem rd_mid {s : Int} {n : Nat} (h0 : 0 ≤ s) (h1 : s ≤ 15360) (hn : 1 ≤ n) (hn' : n ≤ 12) : 0 ≤ rd s n ∧ rd s n ≤ 40000 := by
  have h := rd_bd (a := s) (b := (n : Int)) (K := 40000) (by omega) (by omega) (by omega)
  exact ⟨rd_nonneg h0 (by omega), h.2⟩
/-- Spread from m on. -/
def spX (X : Nat → Int) (m p : Int) (i : Nat) : Int := m + rd ((X i - m) * p) 100
def spOk (n : Nat) (X Y : Nat → Int) (p : Int) : Bool := chartB n X Y && inB p 1 400
def spB (n : Nat) (X Y : Nat → Int) (p : Int) : Bool := (chartB n X Y && inB p 1 400) && chartB n (spX X (rd (sumN X n) n) p) (spX Y (rd (sumN Y n) n) p)
set_option maxRecDepth 100000 in
set_option maxHeartbeats 4000000 in
theorem iSpreadForm_any (v : Value) (n : Nat) (X Y : Nat → Int) (p : Int) (w : World) (h : Spots w v n X Y) (hn : n ≤ 1048576) :
    Calls Try.prog 21 #[v, .int .i64 p] w (AnsSB w (sel (spB n X Y p) n) (spX X (rd (sumN X n) n) p) (spX Y (rd (sumN Y n) n) p) (spB n X Y p)) := by
  have HC := Lib.hid (isChart_g v n X Y w h (by omega))
  cases hc : chartB n X Y with
  | false =>
    rw [show spB n X Y p = false by simp [spB, hc]]
    rw [hc] at HC
    clear h hc
    go_enter Try.func21, Try.ntmps21
    go_wp2_with ((go_at_call 13; refine (HC.out).mono ?_; rintro e w1 ⟨rfl, hb⟩))
    go_ret2
    exact AnsSB.nil (by (repeat (first | with_reducible exact Below.refl _ _ | with_reducible assumption | with_reducible refine up_alloc ?_ _ | with_reducible refine up_drew ?_ | with_reducible refine up_drewN ?_ _ | (with_reducible refine up_set ?_ ?hset _; case hset => first | (simp; done) | (simp; omega) | omega) | with_reducible refine up_trans ?_ (by with_reducible assumption))))
  | true =>
    rw [hc] at HC
    cases hp : inB p (1) 400 with
    | false =>
      rw [show spB n X Y p = false by simp [spB, hp]]
      clear h hc
      go_enter Try.func21, Try.ntmps21
      go_wp2_with (first | (go_at_call 13; refine (HC.out).mono ?_; rintro e w1 ⟨rfl, hb⟩) | (go_at_call 89; refine (within_any _ _ _ _).mono ?_; rintro e w1 ⟨rfl, rfl⟩))
      go_ret2
      exact AnsSB.nil (by (repeat (first | with_reducible exact Below.refl _ _ | with_reducible assumption | with_reducible refine up_alloc ?_ _ | with_reducible refine up_drew ?_ | with_reducible refine up_drewN ?_ _ | (with_reducible refine up_set ?_ ?hset _; case hset => first | (simp; done) | (simp; omega) | omega) | with_reducible refine up_trans ?_ (by with_reducible assumption))))
    | true =>
      have sb := sum_bd hc n (Nat.le_refl _)
      have hcc := chartB_iff.1 hc
      obtain ⟨⟨n1, n2⟩, hsp, _⟩ := hcc
      have m1 := rd_mid sb.1.1 sb.1.2 n1 n2
      have m2 := rd_mid sb.2.1 sb.2.2 n1 n2
      obtain ⟨p1, p2⟩ := inB_iff.1 hp
      rw [show spB n X Y p = chartB n (spX X (rd (sumN X n) n) p) (spX Y (rd (sumN Y n) n) p) by simp [spB, hc, hp]]
      have HM := Lib.hid (fun W (hW : Below w.heap.size w W) => iMid_any v n X Y W (h.up hW) hc)
      generalize rd (sumN X n) n = mx at *
      generalize rd (sumN Y n) n = my at *
      obtain ⟨m1, m3⟩ := m1
      obtain ⟨m2, m4⟩ := m2
      obtain ⟨A, c, rfl, hnc, hrow⟩ := h
      obtain ⟨b, o, rfl, hr⟩ := hrow (by omega)
      have HS := Lib.hid hsp
      clear hrow hsp hc sb

      go_enter Try.func21, Try.ntmps21
      go_wp2_with (first | (go_at_call 13; refine HC.out.mono ?_; rintro e w1 ⟨rfl, hb1⟩) | (go_at_call 89; refine (within_any _ _ _ _).mono ?_; rintro e w1 ⟨rfl, rfl⟩) | (go_at_call 95; refine (HM.out _ (by (repeat (first | with_reducible exact Below.refl _ _ | with_reducible assumption | with_reducible refine up_alloc ?_ _ | with_reducible refine up_drew ?_ | with_reducible refine up_drewN ?_ _ | (with_reducible refine up_set ?_ ?hset _; case hset => first | (simp; done) | (simp; omega) | omega) | with_reducible refine up_trans ?_ (by with_reducible assumption))))).mono ?_; rintro e w2 ⟨rfl, hb2⟩))
      generalize hW : World.alloc (World.alloc w2 _) _ = W at *
      have hbW : Below w.heap.size w W := by subst hW; (repeat (first | with_reducible exact Below.refl _ _ | with_reducible assumption | with_reducible refine up_alloc ?_ _ | with_reducible refine up_drew ?_ | with_reducible refine up_drewN ?_ _ | (with_reducible refine up_set ?_ ?hset _; case hset => first | (simp; done) | (simp; omega) | omega) | with_reducible refine up_trans ?_ (by with_reducible assumption)))
      have k0 : W.cell? ⟨w2.heap.size + 1, 0, none⟩ = some (.int .i64 mx) := by subst hW; simp [go_sem]
      have k1 : W.cell? ⟨w2.heap.size + 1, 1, none⟩ = some (.int .i64 my) := by subst hW; simp [go_sem]
      have how0 : OwnR w.heap.size W (.slice (some ⟨w2.heap.size, 0, none⟩) 0 0) 0 (spX X mx p) (spX Y my p) := by subst hW; exact OwnR.up (OwnR.empty (show Below w.heap.size w w2 from (by (repeat (first | with_reducible exact Below.refl _ _ | with_reducible assumption | with_reducible refine up_alloc ?_ _ | with_reducible refine up_drew ?_ | with_reducible refine up_drewN ?_ _ | (with_reducible refine up_set ?_ ?hset _; case hset => first | (simp; done) | (simp; omega) | omega) | with_reducible refine up_trans ?_ (by with_reducible assumption))))).size _ _) (below_alloc _ _)
      clear hW
      have HRW := Lib.hid hr
      clear hr hb1 hb2
      go_loopw [7, 23] (fun q i wr => ∃ k : Nat, k ≤ n ∧ i = .int .i64 k ∧ OwnR w.heap.size wr q k (spX X mx p) (spX Y my p) ∧ q.ownBlock ≠ some (w2.heap.size + 1) ∧ Below w.heap.size w wr ∧ wr.cell? ⟨w2.heap.size + 1, 0, none⟩ = some (.int .i64 mx) ∧ wr.cell? ⟨w2.heap.size + 1, 1, none⟩ = some (.int .i64 my)) (fun _ i _ => n - (intOf i).toNat)
      case atStart => exact ⟨0, by omega, rfl, how0, by simp [Value.ownBlock], hbW, k0, k1⟩
      case round =>
        obtain ⟨k, hk, rfl, how, hqm, hb, q0, q1⟩ := hrel
        clear how0 hbW k0 k1
        by_cases hlt : k < n
        · have c0 := up_keep hb (HRW.out k hlt).1
          have c1 := up_keep hb (HRW.out k hlt).2
          have hsk := spotB_iff.1 (HS.out k hlt)
          obtain ⟨⟨t1, t2⟩, t3, t4⟩ := hsk
          go_wp2_with fail
          generalize hW3 : World.alloc wr _ = W3 at *
          have hb3 : Below wr.heap.size wr W3 := by subst hW3; (repeat (first | with_reducible exact Below.refl _ _ | with_reducible assumption | with_reducible refine up_alloc ?_ _ | with_reducible refine up_drew ?_ | with_reducible refine up_drewN ?_ _ | (with_reducible refine up_set ?_ ?hset _; case hset => first | (simp; done) | (simp; omega) | omega) | with_reducible refine up_trans ?_ (by with_reducible assumption)))
          have hb5 : Below w.heap.size w W3 := up_trans hb hb3
          have d0 := up_keep hb3 q0
          have d1 := up_keep hb3 q1
          have e0 : W3.cell? ⟨wr.heap.size, 0, none⟩ = some (.int .i64 (X k)) := by subst hW3; simp [go_sem]
          have e1 : W3.cell? ⟨wr.heap.size, 1, none⟩ = some (.int .i64 (Y k)) := by subst hW3; simp [go_sem]
          have how3 := how.up hb3
          have hqa := how.own_ne (Nat.le_refl _)
          have hqm' : w2.heap.size + 1 < W3.heap.size := lt_of_cell d0
          clear hW3 c0 c1 q0 q1
          obtain ⟨xk, hxk⟩ : ∃ xk, xk = X k := ⟨_, rfl⟩
          obtain ⟨yk, hyk⟩ : ∃ yk, yk = Y k := ⟨_, rfl⟩
          rw [← hxk] at e0 t1 t2
          rw [← hyk] at e1 t3 t4
          have HXk := Lib.hid (show spX X mx p k = mx + rd ((xk - mx) * p) 100 by rw [hxk]; rfl)
          have HYk := Lib.hid (show spX Y my p k = my + rd ((yk - my) * p) 100 by rw [hyk]; rfl)
          clear hxk hyk
          have g1 := mul_bd (a := xk - mx) (b := p) (A := 40000) (B := 400) (by omega) (by omega) (by omega) (by omega)
          have g2 := mul_bd (a := yk - my) (b := p) (A := 40000) (B := 400) (by omega) (by omega) (by omega) (by omega)
          obtain ⟨g1, g3⟩ := g1
          obtain ⟨g2, g4⟩ := g2
          have r1 := rd_bd (a := (xk - mx) * p) (b := 100) (K := 40000000) (by omega) (by omega) (by omega)
          have r2 := rd_bd (a := (yk - my) * p) (b := 100) (K := 40000000) (by omega) (by omega) (by omega)
          obtain ⟨r1, r3⟩ := r1
          obtain ⟨r2, r4⟩ := r2
          have HR1 := Lib.hid (fun W => roundDiv_any ((xk - mx) * p) 100 (by omega) (by omega) (by omega) (by omega) W)
          have HR2 := Lib.hid (fun W => roundDiv_any ((yk - my) * p) 100 (by omega) (by omega) (by omega) (by omega) W)
          have z0 : IntKind.i64.wrap (xk - mx) = xk - mx := IntWalk.i64_in _ (by omega)
          have z1 : IntKind.i64.wrap (yk - my) = yk - my := IntWalk.i64_in _ (by omega)
          have z2 : IntKind.i64.wrap ((xk - mx) * p) = (xk - mx) * p := IntWalk.i64_in _ (by omega)
          have z3 : IntKind.i64.wrap ((yk - my) * p) = (yk - my) * p := IntWalk.i64_in _ (by omega)
          have z4 : IntKind.i64.wrap (mx + rd ((xk - mx) * p) 100) = mx + rd ((xk - mx) * p) 100 := IntWalk.i64_in _ (by omega)
          have z5 : IntKind.i64.wrap (my + rd ((yk - my) * p) 100) = my + rd ((yk - my) * p) 100 := IntWalk.i64_in _ (by omega)
          have hk20 : k ≤ 1048576 := by omega
          go_region_held3 (fun w' => w'.cell? ⟨w2.heap.size + 1, 0, none⟩ = some (.int .i64 mx) ∧ w'.cell? ⟨w2.heap.size + 1, 1, none⟩ = some (.int .i64 my) ∧ w'.cell? ⟨wr.heap.size, 0, none⟩ = some (.int .i64 xk) ∧ w'.cell? ⟨wr.heap.size, 1, none⟩ = some (.int .i64 yk))
            (first | exact ⟨by assumption, by assumption, by assumption, by assumption⟩ | go_keep) (first
              | (go_at_call 99; (with_reducible refine (HR1.out _).mono ?_); rintro e w8 ⟨rfl, rfl⟩)
              | (go_at_call 99; (with_reducible refine (HR2.out _).mono ?_); rintro e w8 ⟨rfl, rfl⟩)
              | (refine step_app_spot2 rfl (.tmp 27) (.tmp 51) rfl w.heap.size _ k (spX X mx p) (spX Y my p) rfl rfl HXk.out HYk.out (by simp [go_sem]) (by simp [go_sem]) (OwnR.up how3 (by (repeat (first | with_reducible exact Below.refl _ _ | with_reducible assumption | with_reducible refine up_alloc ?_ _ | with_reducible refine up_drew ?_ | with_reducible refine up_drewN ?_ _ | (with_reducible refine up_set ?_ ?hset _; case hset => first | (simp; done) | (simp; omega) | omega) | with_reducible refine up_trans ?_ (by with_reducible assumption))))) (show Below w.heap.size w _ from (by (repeat (first | with_reducible exact Below.refl _ _ | with_reducible assumption | with_reducible refine up_alloc ?_ _ | with_reducible refine up_drew ?_ | with_reducible refine up_drewN ?_ _ | (with_reducible refine up_set ?_ ?hset _; case hset => first | (simp; done) | (simp; omega) | omega) | with_reducible refine up_trans ?_ (by with_reducible assumption))))).size (by omega) ?_; intro v2 w9 ho9 hb9 hg9 hw9; replace hb9 := (show Below w.heap.size w _ from (by (repeat (first | with_reducible exact Below.refl _ _ | with_reducible assumption | with_reducible refine up_alloc ?_ _ | with_reducible refine up_drew ?_ | with_reducible refine up_drewN ?_ _ | (with_reducible refine up_set ?_ ?hset _; case hset => first | (simp; done) | (simp; omega) | omega) | with_reducible refine up_trans ?_ (by with_reducible assumption))))).trans hb9; have x0 := far_keep (by (repeat (first | with_reducible exact Below.refl _ _ | with_reducible assumption | with_reducible refine up_alloc ?_ _ | with_reducible refine up_drew ?_ | with_reducible refine up_drewN ?_ _ | (with_reducible refine up_set ?_ ?hset _; case hset => first | (simp; done) | (simp; omega) | omega) | with_reducible refine up_trans ?_ (by with_reducible assumption)))) hg9 d0 hqm; have x1 := far_keep (by (repeat (first | with_reducible exact Below.refl _ _ | with_reducible assumption | with_reducible refine up_alloc ?_ _ | with_reducible refine up_drew ?_ | with_reducible refine up_drewN ?_ _ | (with_reducible refine up_set ?_ ?hset _; case hset => first | (simp; done) | (simp; omega) | omega) | with_reducible refine up_trans ?_ (by with_reducible assumption)))) hg9 d1 hqm; have x2 := far_keep (by (repeat (first | with_reducible exact Below.refl _ _ | with_reducible assumption | with_reducible refine up_alloc ?_ _ | with_reducible refine up_drew ?_ | with_reducible refine up_drewN ?_ _ | (with_reducible refine up_set ?_ ?hset _; case hset => first | (simp; done) | (simp; omega) | omega) | with_reducible refine up_trans ?_ (by with_reducible assumption)))) hg9 e0 hqa; have x3 := far_keep (by (repeat (first | with_reducible exact Below.refl _ _ | with_reducible assumption | with_reducible refine up_alloc ?_ _ | with_reducible refine up_drew ?_ | with_reducible refine up_drewN ?_ _ | (with_reducible refine up_set ?_ ?hset _; case hset => first | (simp; done) | (simp; omega) | omega) | with_reducible refine up_trans ?_ (by with_reducible assumption)))) hg9 e1 hqa; have hqn := own_step (show Below W3.heap.size W3 _ from (by (repeat (first | with_reducible exact Below.refl _ _ | with_reducible assumption | with_reducible refine up_alloc ?_ _ | with_reducible refine up_drew ?_ | with_reducible refine up_drewN ?_ _ | (with_reducible refine up_set ?_ ?hset _; case hset => first | (simp; done) | (simp; omega) | omega) | with_reducible refine up_trans ?_ (by with_reducible assumption))))) hw9 hqm hqm'))
          clear z0 z1 z2 z3 z4 z5
          go_wp2_with fail
          go_roundw
          case rel => exact ⟨k + 1, by omega, by go_num, ho9, hqn, hb9, x0, x1⟩
          case measure => simp [intOf]; omega
        · have e : k = n := by omega
          subst e
          go_wp2_with (go_at_call 85; refine (asForm_g _ _ _ _ _ how.ownS.spots (by omega)).mono ?_; rintro e wq ⟨rfl, hbq⟩)
          go_ret2
          exact AnsSB.sel (how.ownS.up hbq) (up_trans hb hbq)
set_option maxRecDepth 100000 in
set_option maxHeartbeats 4000000 in
theorem sSpreadForm_any (v : Value) (n : Nat) (X Y : Nat → Int) (p : Int) (w : World) (h : Spots w v n X Y) (hn : n ≤ 1048576) :
    Calls Try.prog 23 #[v, .int .i64 p] w (AnsSB w (sel (spB n X Y p) n) (spX X (rd (sumN X n) n) p) (spX Y (rd (sumN Y n) n) p) (spB n X Y p)) := by
  have HC := Lib.hid (chGood_g v n X Y w h (by omega))
  cases hc : chartB n X Y with
  | false =>
    rw [show spB n X Y p = false by simp [spB, hc]]
    rw [hc] at HC
    clear h hc
    go_enter Try.func23, Try.ntmps23
    go_wp2_with ((go_at_call 86; refine (HC.out).mono ?_; rintro e w1 ⟨rfl, hb⟩))
    go_ret2
    exact AnsSB.nil (by (repeat (first | with_reducible exact Below.refl _ _ | with_reducible assumption | with_reducible refine up_alloc ?_ _ | with_reducible refine up_drew ?_ | with_reducible refine up_drewN ?_ _ | (with_reducible refine up_set ?_ ?hset _; case hset => first | (simp; done) | (simp; omega) | omega) | with_reducible refine up_trans ?_ (by with_reducible assumption))))
  | true =>
    rw [hc] at HC
    cases hp : inB p (1) 400 with
    | false =>
      rw [show spB n X Y p = false by simp [spB, hp]]
      clear h hc
      go_enter Try.func23, Try.ntmps23
      go_wp2_with (first | (go_at_call 86; refine (HC.out).mono ?_; rintro e w1 ⟨rfl, hb⟩) | (go_at_call 101; refine (l1In_any _ _ _ _).mono ?_; rintro e w1 ⟨rfl, rfl⟩))
      go_ret2
      exact AnsSB.nil (by (repeat (first | with_reducible exact Below.refl _ _ | with_reducible assumption | with_reducible refine up_alloc ?_ _ | with_reducible refine up_drew ?_ | with_reducible refine up_drewN ?_ _ | (with_reducible refine up_set ?_ ?hset _; case hset => first | (simp; done) | (simp; omega) | omega) | with_reducible refine up_trans ?_ (by with_reducible assumption))))
    | true =>
      have sb := sum_bd hc n (Nat.le_refl _)
      have hcc := chartB_iff.1 hc
      obtain ⟨⟨n1, n2⟩, hsp, _⟩ := hcc
      have m1 := rd_mid sb.1.1 sb.1.2 n1 n2
      have m2 := rd_mid sb.2.1 sb.2.2 n1 n2
      obtain ⟨p1, p2⟩ := inB_iff.1 hp
      rw [show spB n X Y p = chartB n (spX X (rd (sumN X n) n) p) (spX Y (rd (sumN Y n) n) p) by simp [spB, hc, hp]]
      have HM := Lib.hid (fun W (hW : Below w.heap.size w W) => sMid_any v n X Y W (h.up hW) hc)
      generalize rd (sumN X n) n = mx at *
      generalize rd (sumN Y n) n = my at *
      obtain ⟨m1, m3⟩ := m1
      obtain ⟨m2, m4⟩ := m2
      obtain ⟨A, c, rfl, hnc, hrow⟩ := h
      obtain ⟨b, o, rfl, hr⟩ := hrow (by omega)
      have HS := Lib.hid hsp
      clear hrow hsp hc sb

      go_enter Try.func23, Try.ntmps23
      go_wp2_with (first | (go_at_call 86; refine HC.out.mono ?_; rintro e w1 ⟨rfl, hb1⟩) | (go_at_call 101; refine (l1In_any _ _ _ _).mono ?_; rintro e w1 ⟨rfl, rfl⟩) | (go_at_call 96; refine (HM.out _ (by (repeat (first | with_reducible exact Below.refl _ _ | with_reducible assumption | with_reducible refine up_alloc ?_ _ | with_reducible refine up_drew ?_ | with_reducible refine up_drewN ?_ _ | (with_reducible refine up_set ?_ ?hset _; case hset => first | (simp; done) | (simp; omega) | omega) | with_reducible refine up_trans ?_ (by with_reducible assumption))))).mono ?_; rintro e w2 ⟨rfl, hb2⟩))
      generalize hW : World.alloc w2 _ = W at *
      have hbW : Below w.heap.size w W := by subst hW; (repeat (first | with_reducible exact Below.refl _ _ | with_reducible assumption | with_reducible refine up_alloc ?_ _ | with_reducible refine up_drew ?_ | with_reducible refine up_drewN ?_ _ | (with_reducible refine up_set ?_ ?hset _; case hset => first | (simp; done) | (simp; omega) | omega) | with_reducible refine up_trans ?_ (by with_reducible assumption)))
      have k0 : W.cell? ⟨w2.heap.size, 0, none⟩ = some (.int .i64 mx) := by subst hW; simp [go_sem]
      have k1 : W.cell? ⟨w2.heap.size, 1, none⟩ = some (.int .i64 my) := by subst hW; simp [go_sem]
      have how0 : OwnR w.heap.size W (.slice none 0 0) 0 (spX X mx p) (spX Y my p) := OwnR.nil _ _ _ _
      clear hW
      have HRW := Lib.hid hr
      clear hr hb1 hb2
      go_loopw [7, 22] (fun q i wr => ∃ k : Nat, k ≤ n ∧ i = .int .i64 k ∧ OwnR w.heap.size wr q k (spX X mx p) (spX Y my p) ∧ q.ownBlock ≠ some (w2.heap.size) ∧ Below w.heap.size w wr ∧ wr.cell? ⟨w2.heap.size, 0, none⟩ = some (.int .i64 mx) ∧ wr.cell? ⟨w2.heap.size, 1, none⟩ = some (.int .i64 my)) (fun _ i _ => n - (intOf i).toNat)
      case atStart => exact ⟨0, by omega, rfl, how0, by simp [Value.ownBlock], hbW, k0, k1⟩
      case round =>
        obtain ⟨k, hk, rfl, how, hqm, hb, q0, q1⟩ := hrel
        clear how0 hbW k0 k1
        by_cases hlt : k < n
        · have c0 := up_keep hb (HRW.out k hlt).1
          have c1 := up_keep hb (HRW.out k hlt).2
          have hsk := spotB_iff.1 (HS.out k hlt)
          obtain ⟨⟨t1, t2⟩, t3, t4⟩ := hsk
          go_wp2_with fail
          generalize hW3 : World.alloc wr _ = W3 at *
          have hb3 : Below wr.heap.size wr W3 := by subst hW3; (repeat (first | with_reducible exact Below.refl _ _ | with_reducible assumption | with_reducible refine up_alloc ?_ _ | with_reducible refine up_drew ?_ | with_reducible refine up_drewN ?_ _ | (with_reducible refine up_set ?_ ?hset _; case hset => first | (simp; done) | (simp; omega) | omega) | with_reducible refine up_trans ?_ (by with_reducible assumption)))
          have hb5 : Below w.heap.size w W3 := up_trans hb hb3
          have d0 := up_keep hb3 q0
          have d1 := up_keep hb3 q1
          have e0 : W3.cell? ⟨wr.heap.size, 0, none⟩ = some (.int .i64 (X k)) := by subst hW3; simp [go_sem]
          have e1 : W3.cell? ⟨wr.heap.size, 1, none⟩ = some (.int .i64 (Y k)) := by subst hW3; simp [go_sem]
          have how3 := how.up hb3
          have hqa := how.own_ne (Nat.le_refl _)
          have hqm' : w2.heap.size < W3.heap.size := lt_of_cell d0
          clear hW3 c0 c1 q0 q1
          obtain ⟨xk, hxk⟩ : ∃ xk, xk = X k := ⟨_, rfl⟩
          obtain ⟨yk, hyk⟩ : ∃ yk, yk = Y k := ⟨_, rfl⟩
          rw [← hxk] at e0 t1 t2
          rw [← hyk] at e1 t3 t4
          have HXk := Lib.hid (show spX X mx p k = mx + rd ((xk - mx) * p) 100 by rw [hxk]; rfl)
          have HYk := Lib.hid (show spX Y my p k = my + rd ((yk - my) * p) 100 by rw [hyk]; rfl)
          clear hxk hyk
          have g1 := mul_bd (a := xk - mx) (b := p) (A := 40000) (B := 400) (by omega) (by omega) (by omega) (by omega)
          have g2 := mul_bd (a := yk - my) (b := p) (A := 40000) (B := 400) (by omega) (by omega) (by omega) (by omega)
          obtain ⟨g1, g3⟩ := g1
          obtain ⟨g2, g4⟩ := g2
          have r1 := rd_bd (a := (xk - mx) * p) (b := 100) (K := 40000000) (by omega) (by omega) (by omega)
          have r2 := rd_bd (a := (yk - my) * p) (b := 100) (K := 40000000) (by omega) (by omega) (by omega)
          obtain ⟨r1, r3⟩ := r1
          obtain ⟨r2, r4⟩ := r2
          have HR1 := Lib.hid (fun W => fmRound_any ((xk - mx) * p) 100 (by omega) (by omega) (by omega) (by omega) W)
          have HR2 := Lib.hid (fun W => fmRound_any ((yk - my) * p) 100 (by omega) (by omega) (by omega) (by omega) W)
          have z0 : IntKind.i64.wrap (xk - mx) = xk - mx := IntWalk.i64_in _ (by omega)
          have z1 : IntKind.i64.wrap (yk - my) = yk - my := IntWalk.i64_in _ (by omega)
          have z2 : IntKind.i64.wrap ((xk - mx) * p) = (xk - mx) * p := IntWalk.i64_in _ (by omega)
          have z3 : IntKind.i64.wrap ((yk - my) * p) = (yk - my) * p := IntWalk.i64_in _ (by omega)
          have z4 : IntKind.i64.wrap (mx + rd ((xk - mx) * p) 100) = mx + rd ((xk - mx) * p) 100 := IntWalk.i64_in _ (by omega)
          have z5 : IntKind.i64.wrap (my + rd ((yk - my) * p) 100) = my + rd ((yk - my) * p) 100 := IntWalk.i64_in _ (by omega)
          have hk20 : k ≤ 1048576 := by omega
          go_region_held3 (fun w' => w'.cell? ⟨w2.heap.size, 0, none⟩ = some (.int .i64 mx) ∧ w'.cell? ⟨w2.heap.size, 1, none⟩ = some (.int .i64 my) ∧ w'.cell? ⟨wr.heap.size, 0, none⟩ = some (.int .i64 xk) ∧ w'.cell? ⟨wr.heap.size, 1, none⟩ = some (.int .i64 yk))
            (first | exact ⟨by assumption, by assumption, by assumption, by assumption⟩ | go_keep) (first
              | (go_at_call 102; (with_reducible refine (HR1.out _).mono ?_); rintro e w8 ⟨rfl, rfl⟩)
              | (go_at_call 102; (with_reducible refine (HR2.out _).mono ?_); rintro e w8 ⟨rfl, rfl⟩)
              | (refine step_app_spot2 rfl (.tmp 26) (.tmp 50) rfl w.heap.size _ k (spX X mx p) (spX Y my p) rfl rfl HXk.out HYk.out (by simp [go_sem]) (by simp [go_sem]) (OwnR.up how3 (by (repeat (first | with_reducible exact Below.refl _ _ | with_reducible assumption | with_reducible refine up_alloc ?_ _ | with_reducible refine up_drew ?_ | with_reducible refine up_drewN ?_ _ | (with_reducible refine up_set ?_ ?hset _; case hset => first | (simp; done) | (simp; omega) | omega) | with_reducible refine up_trans ?_ (by with_reducible assumption))))) (show Below w.heap.size w _ from (by (repeat (first | with_reducible exact Below.refl _ _ | with_reducible assumption | with_reducible refine up_alloc ?_ _ | with_reducible refine up_drew ?_ | with_reducible refine up_drewN ?_ _ | (with_reducible refine up_set ?_ ?hset _; case hset => first | (simp; done) | (simp; omega) | omega) | with_reducible refine up_trans ?_ (by with_reducible assumption))))).size (by omega) ?_; intro v2 w9 ho9 hb9 hg9 hw9; replace hb9 := (show Below w.heap.size w _ from (by (repeat (first | with_reducible exact Below.refl _ _ | with_reducible assumption | with_reducible refine up_alloc ?_ _ | with_reducible refine up_drew ?_ | with_reducible refine up_drewN ?_ _ | (with_reducible refine up_set ?_ ?hset _; case hset => first | (simp; done) | (simp; omega) | omega) | with_reducible refine up_trans ?_ (by with_reducible assumption))))).trans hb9; have x0 := far_keep (by (repeat (first | with_reducible exact Below.refl _ _ | with_reducible assumption | with_reducible refine up_alloc ?_ _ | with_reducible refine up_drew ?_ | with_reducible refine up_drewN ?_ _ | (with_reducible refine up_set ?_ ?hset _; case hset => first | (simp; done) | (simp; omega) | omega) | with_reducible refine up_trans ?_ (by with_reducible assumption)))) hg9 d0 hqm; have x1 := far_keep (by (repeat (first | with_reducible exact Below.refl _ _ | with_reducible assumption | with_reducible refine up_alloc ?_ _ | with_reducible refine up_drew ?_ | with_reducible refine up_drewN ?_ _ | (with_reducible refine up_set ?_ ?hset _; case hset => first | (simp; done) | (simp; omega) | omega) | with_reducible refine up_trans ?_ (by with_reducible assumption)))) hg9 d1 hqm; have x2 := far_keep (by (repeat (first | with_reducible exact Below.refl _ _ | with_reducible assumption | with_reducible refine up_alloc ?_ _ | with_reducible refine up_drew ?_ | with_reducible refine up_drewN ?_ _ | (with_reducible refine up_set ?_ ?hset _; case hset => first | (simp; done) | (simp; omega) | omega) | with_reducible refine up_trans ?_ (by with_reducible assumption)))) hg9 e0 hqa; have x3 := far_keep (by (repeat (first | with_reducible exact Below.refl _ _ | with_reducible assumption | with_reducible refine up_alloc ?_ _ | with_reducible refine up_drew ?_ | with_reducible refine up_drewN ?_ _ | (with_reducible refine up_set ?_ ?hset _; case hset => first | (simp; done) | (simp; omega) | omega) | with_reducible refine up_trans ?_ (by with_reducible assumption)))) hg9 e1 hqa; have hqn := own_step (show Below W3.heap.size W3 _ from (by (repeat (first | with_reducible exact Below.refl _ _ | with_reducible assumption | with_reducible refine up_alloc ?_ _ | with_reducible refine up_drew ?_ | with_reducible refine up_drewN ?_ _ | (with_reducible refine up_set ?_ ?hset _; case hset => first | (simp; done) | (simp; omega) | omega) | with_reducible refine up_trans ?_ (by with_reducible assumption))))) hw9 hqm hqm'))
          clear z0 z1 z2 z3 z4 z5
          go_wp2_with fail
          go_roundw
          case rel => exact ⟨k + 1, by omega, by go_num, ho9, hqn, hb9, x0, x1⟩
          case measure => simp [intOf]; omega
        · have e : k = n := by omega
          subst e
          go_wp2_with (go_at_call 87; refine (chIf_g _ _ _ _ _ how.ownS.spots (by omega)).mono ?_; rintro e wq ⟨rfl, hbq⟩)
          go_ret2
          exact AnsSB.sel (how.ownS.up hbq) (up_trans hb hbq)
end Go.Proofs.Ytljbcfgecbonnaa
