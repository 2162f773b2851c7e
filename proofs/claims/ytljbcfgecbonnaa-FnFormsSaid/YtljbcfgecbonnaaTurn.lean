/-
  TurnForm on both sides, and the law: for all arguments it returns true. No condition.
-/
import Derived.Test.YtljbcfgecbonnaaRows
import Derived.Test.YtljbcfgecbonnaaBase
import Derived.Test.YtljbcfgecbonnaaSpot
import Derived.Test.YtljbcfgecbonnaaSlice
import Derived.Test.YtljbcfgecbonnaaChart
import Derived.Test.YtljbcfgecbonnaaRound
import Derived.Test.YtljbcfgecbonnaaAppend
import Derived.Test.YtljbcfgecbonnaaAppendE
import Derived.Test.YtljbcfgecbonnaaForm
import Derived.Test.YtljbcfgecbonnaaMiddle
import Derived.Test.YtljbcfgecbonnaaLawS
import Derived.Test.YtljbcfgecbonnaaMark
import Derived.Test.YtljbcfgecbonnaaOpen
import Derived.Test.YtljbcfgecbonnaaTrod
import Derived.Deep.RegionHeld3
import Derived.Deep.QuietTactic
namespace Go.Proofs.Ytljbcfgecbonnaa
open Go.RowKit Go.Sort Go.ChangeShapes Go.WideShapes

theorem rd_mid {s : Int} {n : Nat} (h0 : 0 ≤ s) (h1 : s ≤ 15360) (hn : 1 ≤ n) (hn' : n ≤ 12) : 0 ≤ rd s n ∧ rd s n ≤ 40000 := by
  have h := rd_bd (a := s) (b := (n : Int)) (K := 40000) (by omega) (by omega) (by omega)
  exact ⟨rd_nonneg h0 (by omega), h.2⟩
/-- k quarter turns. -/
def rot : Nat → Int × Int → Int × Int
  | 0, q => q
  | k + 1, q => (-(rot k q).2, (rot k q).1)
theorem rot_bd {q : Int × Int} {K : Int} (h1 : -K ≤ q.1) (h2 : q.1 ≤ K) (h3 : -K ≤ q.2) (h4 : q.2 ≤ K) : ∀ k, ((-K ≤ (rot k q).1 ∧ (rot k q).1 ≤ K) ∧ -K ≤ (rot k q).2 ∧ (rot k q).2 ≤ K)
  | 0 => ⟨⟨h1, h2⟩, h3, h4⟩
  | k + 1 => by
    have := rot_bd h1 h2 h3 h4 k
    simp only [rot]
    omega
def tuX (X Y : Nat → Int) (mx my : Int) (q : Nat) (i : Nat) : Int := mx + (rot q (X i - mx, Y i - my)).1
def tuY (X Y : Nat → Int) (mx my : Int) (q : Nat) (i : Nat) : Int := my + (rot q (X i - mx, Y i - my)).2
def tuB (n : Nat) (X Y : Nat → Int) (p : Int) : Bool := (chartB n X Y && inB p 0 3) && chartB n (tuX X Y (rd (sumN X n) n) (rd (sumN Y n) n) p.toNat) (tuY X Y (rd (sumN X n) n) (rd (sumN Y n) n) p.toNat)
set_option maxRecDepth 100000 in
set_option maxHeartbeats 4000000 in
theorem iTurnForm_any (v : Value) (n : Nat) (X Y : Nat → Int) (p : Int) (w : World) (h : Spots w v n X Y) (hn : n ≤ 1048576) :
    Calls Try.prog 53 #[v, .int .i64 p] w (AnsSB w (sel (tuB n X Y p) n) (tuX X Y (rd (sumN X n) n) (rd (sumN Y n) n) p.toNat) (tuY X Y (rd (sumN X n) n) (rd (sumN Y n) n) p.toNat) (tuB n X Y p)) := by
  have HC := Lib.hid (isChart_g v n X Y w h (by omega))
  cases hc : chartB n X Y with
  | false =>
    rw [show tuB n X Y p = false by simp [tuB, hc]]
    rw [hc] at HC
    clear h hc
    go_enter Try.func53, Try.ntmps53
    go_wp2_with ((go_at_call 13; refine (HC.out).mono ?_; rintro e w1 ⟨rfl, hb⟩))
    go_ret2
    exact AnsSB.nil (by (repeat (first | with_reducible exact Below.refl _ _ | with_reducible assumption | with_reducible refine up_alloc ?_ _ | with_reducible refine up_drew ?_ | with_reducible refine up_drewN ?_ _ | (with_reducible refine up_set ?_ ?hset _; case hset => first | (simp; done) | (simp; omega) | omega) | with_reducible refine up_trans ?_ (by with_reducible assumption))))
  | true =>
    rw [hc] at HC
    cases hp : inB p (0) 3 with
    | false =>
      rw [show tuB n X Y p = false by simp [tuB, hp]]
      clear h hc
      go_enter Try.func53, Try.ntmps53
      go_wp2_with (first | (go_at_call 13; refine (HC.out).mono ?_; rintro e w1 ⟨rfl, hb⟩) | (go_at_call 89; refine (within_any _ _ _ _).mono ?_; rintro e w1 ⟨rfl, rfl⟩))
      go_ret2
      exact AnsSB.nil (by (repeat (first | with_reducible exact Below.refl _ _ | with_reducible assumption | with_reducible refine up_alloc ?_ _ | with_reducible refine up_drew ?_ | with_reducible refine up_drewN ?_ _ | (with_reducible refine up_set ?_ ?hset _; case hset => first | (simp; done) | (simp; omega) | omega) | with_reducible refine up_trans ?_ (by with_reducible assumption))))
    | true =>
      have sb := sum_bd hc n (Nat.le_refl _)
      have hcc := chartB_iff.1 hc
      obtain ⟨⟨n1, n2⟩, hsp, _⟩ := hcc
      have m1 := rd_mid sb.1.1 sb.1.2 n1 n2
      have m2 := rd_mid sb.2.1 sb.2.2 n1 n2
      obtain ⟨p1, p2⟩ := inB_iff.1 hp
      rw [show tuB n X Y p = chartB n (tuX X Y (rd (sumN X n) n) (rd (sumN Y n) n) p.toNat) (tuY X Y (rd (sumN X n) n) (rd (sumN Y n) n) p.toNat) by simp [tuB, hc, hp]]
      have HM := Lib.hid (fun W (hW : Below w.heap.size w W) => iMid_any v n X Y W (h.up hW) hc)
      generalize rd (sumN X n) n = mx at *
      generalize rd (sumN Y n) n = my at *
      obtain ⟨m1, m3⟩ := m1
      obtain ⟨m2, m4⟩ := m2
      obtain ⟨A, c, rfl, hnc, hrow⟩ := h
      obtain ⟨b, o, rfl, hr⟩ := hrow (by omega)
      have HS := Lib.hid hsp
      clear hrow hsp hc sb
      obtain ⟨P, rfl⟩ : ∃ P : Nat, p = P := ⟨p.toNat, by omega⟩
      rw [show ((P : Int)).toNat = P by omega]
      go_enter Try.func53, Try.ntmps53
      go_wp2_with (first | (go_at_call 13; refine HC.out.mono ?_; rintro e w1 ⟨rfl, hb1⟩) | (go_at_call 89; refine (within_any _ _ _ _).mono ?_; rintro e w1 ⟨rfl, rfl⟩) | (go_at_call 95; refine (HM.out _ (by (repeat (first | with_reducible exact Below.refl _ _ | with_reducible assumption | with_reducible refine up_alloc ?_ _ | with_reducible refine up_drew ?_ | with_reducible refine up_drewN ?_ _ | (with_reducible refine up_set ?_ ?hset _; case hset => first | (simp; done) | (simp; omega) | omega) | with_reducible refine up_trans ?_ (by with_reducible assumption))))).mono ?_; rintro e w2 ⟨rfl, hb2⟩))
      generalize hW : World.alloc (World.alloc w2 _) _ = W at *
      have hbW : Below w.heap.size w W := by subst hW; (repeat (first | with_reducible exact Below.refl _ _ | with_reducible assumption | with_reducible refine up_alloc ?_ _ | with_reducible refine up_drew ?_ | with_reducible refine up_drewN ?_ _ | (with_reducible refine up_set ?_ ?hset _; case hset => first | (simp; done) | (simp; omega) | omega) | with_reducible refine up_trans ?_ (by with_reducible assumption)))
      have k0 : W.cell? ⟨w2.heap.size + 1, 0, none⟩ = some (.int .i64 mx) := by subst hW; simp [go_sem]
      have k1 : W.cell? ⟨w2.heap.size + 1, 1, none⟩ = some (.int .i64 my) := by subst hW; simp [go_sem]
      have how0 : OwnR w.heap.size W (.slice (some ⟨w2.heap.size, 0, none⟩) 0 0) 0 (tuX X Y mx my P) (tuY X Y mx my P) := by subst hW; exact OwnR.up (OwnR.empty (show Below w.heap.size w w2 from (by (repeat (first | with_reducible exact Below.refl _ _ | with_reducible assumption | with_reducible refine up_alloc ?_ _ | with_reducible refine up_drew ?_ | with_reducible refine up_drewN ?_ _ | (with_reducible refine up_set ?_ ?hset _; case hset => first | (simp; done) | (simp; omega) | omega) | with_reducible refine up_trans ?_ (by with_reducible assumption))))).size _ _) (below_alloc _ _)
      clear hW
      have HRW := Lib.hid hr
      clear hr hb1 hb2
      go_loopw [7, 26] (fun q i wr => ∃ k : Nat, k ≤ n ∧ i = .int .i64 k ∧ OwnR w.heap.size wr q k (tuX X Y mx my P) (tuY X Y mx my P) ∧ q.ownBlock ≠ some (w2.heap.size + 1) ∧ Below w.heap.size w wr ∧ wr.cell? ⟨w2.heap.size + 1, 0, none⟩ = some (.int .i64 mx) ∧ wr.cell? ⟨w2.heap.size + 1, 1, none⟩ = some (.int .i64 my)) (fun _ i _ => n - (intOf i).toNat)
      case atStart => exact ⟨0, by omega, rfl, how0, by simp [Value.ownBlock], hbW, k0, k1⟩
      case round =>
        obtain ⟨k, hk, rfl, how, hqm, hb, q0, q1⟩ := hrel
        clear how0 hbW k0 k1
        by_cases hlt : k < n
        · have c0 := up_keep hb (HRW.out k hlt).1
          have c1 := up_keep hb (HRW.out k hlt).2
          have hsk := spotB_iff.1 (HS.out k hlt)
          obtain ⟨⟨t1, t2⟩, t3, t4⟩ := hsk
          go_wp2_with fail
          generalize hW3 : World.alloc wr _ = W3 at *
          have hb3 : Below wr.heap.size wr W3 := by subst hW3; (repeat (first | with_reducible exact Below.refl _ _ | with_reducible assumption | with_reducible refine up_alloc ?_ _ | with_reducible refine up_drew ?_ | with_reducible refine up_drewN ?_ _ | (with_reducible refine up_set ?_ ?hset _; case hset => first | (simp; done) | (simp; omega) | omega) | with_reducible refine up_trans ?_ (by with_reducible assumption)))
          have hb5 : Below w.heap.size w W3 := up_trans hb hb3
          have d0 := up_keep hb3 q0
          have d1 := up_keep hb3 q1
          have e0 : W3.cell? ⟨wr.heap.size, 0, none⟩ = some (.int .i64 (X k)) := by subst hW3; simp [go_sem]
          have e1 : W3.cell? ⟨wr.heap.size, 1, none⟩ = some (.int .i64 (Y k)) := by subst hW3; simp [go_sem]
          have how3 := how.up hb3
          have hqa := how.own_ne (Nat.le_refl _)
          have hqm' : w2.heap.size + 1 < W3.heap.size := lt_of_cell d0
          clear hW3 c0 c1 q0 q1
          obtain ⟨xk, hxk⟩ : ∃ xk, xk = X k := ⟨_, rfl⟩
          obtain ⟨yk, hyk⟩ : ∃ yk, yk = Y k := ⟨_, rfl⟩
          rw [← hxk] at e0 t1 t2
          rw [← hyk] at e1 t3 t4
          have HXk := Lib.hid (show tuX X Y mx my P k = mx + (rot P (xk - mx, yk - my)).1 by rw [hxk, hyk]; rfl)
          have HYk := Lib.hid (show tuY X Y mx my P k = my + (rot P (xk - mx, yk - my)).2 by rw [hxk, hyk]; rfl)
          clear hxk hyk
          have hrb := rot_bd (q := (xk - mx, yk - my)) (K := 50000) (by simp; omega) (by simp; omega) (by simp; omega) (by simp; omega)
          have z0 : IntKind.i64.wrap (xk - mx) = xk - mx := IntWalk.i64_in _ (by omega)
          have z1 : IntKind.i64.wrap (yk - my) = yk - my := IntWalk.i64_in _ (by omega)
          have HRB := Lib.hid hrb
          clear hrb
          go_quiet (fail)
          clear z0 z1
          go_wp2_with fail
          go_loop [10, 11, 12] (fun xx yy i => ∃ j : Nat, j ≤ P ∧ i = .int .i64 j ∧ xx = .int .i64 (rot j (xk - mx, yk - my)).1 ∧ yy = .int .i64 (rot j (xk - mx, yk - my)).2) (fun _ _ i => P - (intOf i).toNat)
          case atStart => exact ⟨0, by omega, rfl, rfl, rfl⟩
          case round =>
            obtain ⟨j, hj, rfl, rfl, rfl⟩ := hrel
            obtain ⟨⟨r1, r2⟩, r3, r4⟩ := HRB.out j
            by_cases hltj : j < P
            · go_wp2_with fail
              go_round
              case rel => exact ⟨j + 1, by omega, by go_num, rfl, rfl⟩
              case measure => simp [intOf]; omega
            · have e : j = P := by omega
              subst e
              generalize hW4 : World.drewN W3 _ = W4 at *
              have hb6 : Below W3.heap.size W3 W4 := by subst hW4; (repeat (first | with_reducible exact Below.refl _ _ | with_reducible assumption | with_reducible refine up_alloc ?_ _ | with_reducible refine up_drew ?_ | with_reducible refine up_drewN ?_ _ | (with_reducible refine up_set ?_ ?hset _; case hset => first | (simp; done) | (simp; omega) | omega) | with_reducible refine up_trans ?_ (by with_reducible assumption)))
              have hb7 : Below w.heap.size w W4 := up_trans hb5 hb6
              have how4 := how3.up hb6
              replace d0 := up_keep hb6 d0
              replace d1 := up_keep hb6 d1
              replace hqm' : w2.heap.size + 1 < W4.heap.size := lt_of_cell d0
              clear hW4
              go_wp2_with (at_builtin; refine wpList_app_spot2 rfl (.tmp 48) (.tmp 58) rfl w.heap.size _ k (tuX X Y mx my j) (tuY X Y mx my j) rfl rfl HXk.out HYk.out (by simp [go_sem]) (by simp [go_sem]) (OwnR.up how4 (by (repeat (first | with_reducible exact Below.refl _ _ | with_reducible assumption | with_reducible refine up_alloc ?_ _ | with_reducible refine up_drew ?_ | with_reducible refine up_drewN ?_ _ | (with_reducible refine up_set ?_ ?hset _; case hset => first | (simp; done) | (simp; omega) | omega) | with_reducible refine up_trans ?_ (by with_reducible assumption))))) (show Below w.heap.size w _ from (by (repeat (first | with_reducible exact Below.refl _ _ | with_reducible assumption | with_reducible refine up_alloc ?_ _ | with_reducible refine up_drew ?_ | with_reducible refine up_drewN ?_ _ | (with_reducible refine up_set ?_ ?hset _; case hset => first | (simp; done) | (simp; omega) | omega) | with_reducible refine up_trans ?_ (by with_reducible assumption))))).size (by omega) ?_; intro v2 w9 ho9 hb9 hg9 hw9; replace hb9 := (show Below w.heap.size w _ from (by (repeat (first | with_reducible exact Below.refl _ _ | with_reducible assumption | with_reducible refine up_alloc ?_ _ | with_reducible refine up_drew ?_ | with_reducible refine up_drewN ?_ _ | (with_reducible refine up_set ?_ ?hset _; case hset => first | (simp; done) | (simp; omega) | omega) | with_reducible refine up_trans ?_ (by with_reducible assumption))))).trans hb9; have x0 := far_keep (by (repeat (first | with_reducible exact Below.refl _ _ | with_reducible assumption | with_reducible refine up_alloc ?_ _ | with_reducible refine up_drew ?_ | with_reducible refine up_drewN ?_ _ | (with_reducible refine up_set ?_ ?hset _; case hset => first | (simp; done) | (simp; omega) | omega) | with_reducible refine up_trans ?_ (by with_reducible assumption)))) hg9 d0 hqm; have x1 := far_keep (by (repeat (first | with_reducible exact Below.refl _ _ | with_reducible assumption | with_reducible refine up_alloc ?_ _ | with_reducible refine up_drew ?_ | with_reducible refine up_drewN ?_ _ | (with_reducible refine up_set ?_ ?hset _; case hset => first | (simp; done) | (simp; omega) | omega) | with_reducible refine up_trans ?_ (by with_reducible assumption)))) hg9 d1 hqm; have hqn := own_step (show Below W4.heap.size W4 _ from (by (repeat (first | with_reducible exact Below.refl _ _ | with_reducible assumption | with_reducible refine up_alloc ?_ _ | with_reducible refine up_drew ?_ | with_reducible refine up_drewN ?_ _ | (with_reducible refine up_set ?_ ?hset _; case hset => first | (simp; done) | (simp; omega) | omega) | with_reducible refine up_trans ?_ (by with_reducible assumption))))) hw9 hqm hqm')
              go_roundw
              case rel => exact ⟨k + 1, by omega, by go_num, ho9, hqn, hb9, x0, x1⟩
              case measure => simp [intOf]; omega
        · have e : k = n := by omega
          subst e
          go_wp2_with (go_at_call 85; refine (asForm_g _ _ _ _ _ how.ownS.spots (by omega)).mono ?_; rintro e wq ⟨rfl, hbq⟩)
          go_ret2
          exact AnsSB.sel (how.ownS.up hbq) (up_trans hb hbq)
set_option maxRecDepth 100000 in
set_option maxHeartbeats 4000000 in
theorem sTurnForm_any (v : Value) (n : Nat) (X Y : Nat → Int) (p : Int) (w : World) (h : Spots w v n X Y) (hn : n ≤ 1048576) :
    Calls Try.prog 54 #[v, .int .i64 p] w (AnsSB w (sel (tuB n X Y p) n) (tuX X Y (rd (sumN X n) n) (rd (sumN Y n) n) p.toNat) (tuY X Y (rd (sumN X n) n) (rd (sumN Y n) n) p.toNat) (tuB n X Y p)) := by
  have HC := Lib.hid (chGood_g v n X Y w h (by omega))
  cases hc : chartB n X Y with
  | false =>
    rw [show tuB n X Y p = false by simp [tuB, hc]]
    rw [hc] at HC
    clear h hc
    go_enter Try.func54, Try.ntmps54
    go_wp2_with ((go_at_call 86; refine (HC.out).mono ?_; rintro e w1 ⟨rfl, hb⟩))
    go_ret2
    exact AnsSB.nil (by (repeat (first | with_reducible exact Below.refl _ _ | with_reducible assumption | with_reducible refine up_alloc ?_ _ | with_reducible refine up_drew ?_ | with_reducible refine up_drewN ?_ _ | (with_reducible refine up_set ?_ ?hset _; case hset => first | (simp; done) | (simp; omega) | omega) | with_reducible refine up_trans ?_ (by with_reducible assumption))))
  | true =>
    rw [hc] at HC
    cases hp : inB p (0) 3 with
    | false =>
      rw [show tuB n X Y p = false by simp [tuB, hp]]
      clear h hc
      go_enter Try.func54, Try.ntmps54
      go_wp2_with (first | (go_at_call 86; refine (HC.out).mono ?_; rintro e w1 ⟨rfl, hb⟩) | (go_at_call 101; refine (l1In_any _ _ _ _).mono ?_; rintro e w1 ⟨rfl, rfl⟩))
      go_ret2
      exact AnsSB.nil (by (repeat (first | with_reducible exact Below.refl _ _ | with_reducible assumption | with_reducible refine up_alloc ?_ _ | with_reducible refine up_drew ?_ | with_reducible refine up_drewN ?_ _ | (with_reducible refine up_set ?_ ?hset _; case hset => first | (simp; done) | (simp; omega) | omega) | with_reducible refine up_trans ?_ (by with_reducible assumption))))
    | true =>
      have sb := sum_bd hc n (Nat.le_refl _)
      have hcc := chartB_iff.1 hc
      obtain ⟨⟨n1, n2⟩, hsp, _⟩ := hcc
      have m1 := rd_mid sb.1.1 sb.1.2 n1 n2
      have m2 := rd_mid sb.2.1 sb.2.2 n1 n2
      obtain ⟨p1, p2⟩ := inB_iff.1 hp
      rw [show tuB n X Y p = chartB n (tuX X Y (rd (sumN X n) n) (rd (sumN Y n) n) p.toNat) (tuY X Y (rd (sumN X n) n) (rd (sumN Y n) n) p.toNat) by simp [tuB, hc, hp]]
      have HM := Lib.hid (fun W (hW : Below w.heap.size w W) => sMid_any v n X Y W (h.up hW) hc)
      generalize rd (sumN X n) n = mx at *
      generalize rd (sumN Y n) n = my at *
      obtain ⟨m1, m3⟩ := m1
      obtain ⟨m2, m4⟩ := m2
      obtain ⟨A, c, rfl, hnc, hrow⟩ := h
      obtain ⟨b, o, rfl, hr⟩ := hrow (by omega)
      have HS := Lib.hid hsp
      clear hrow hsp hc sb
      obtain ⟨P, rfl⟩ : ∃ P : Nat, p = P := ⟨p.toNat, by omega⟩
      rw [show ((P : Int)).toNat = P by omega]
      go_enter Try.func54, Try.ntmps54
      go_wp2_with (first | (go_at_call 86; refine HC.out.mono ?_; rintro e w1 ⟨rfl, hb1⟩) | (go_at_call 101; refine (l1In_any _ _ _ _).mono ?_; rintro e w1 ⟨rfl, rfl⟩) | (go_at_call 96; refine (HM.out _ (by (repeat (first | with_reducible exact Below.refl _ _ | with_reducible assumption | with_reducible refine up_alloc ?_ _ | with_reducible refine up_drew ?_ | with_reducible refine up_drewN ?_ _ | (with_reducible refine up_set ?_ ?hset _; case hset => first | (simp; done) | (simp; omega) | omega) | with_reducible refine up_trans ?_ (by with_reducible assumption))))).mono ?_; rintro e w2 ⟨rfl, hb2⟩))
      generalize hW : World.alloc w2 _ = W at *
      have hbW : Below w.heap.size w W := by subst hW; (repeat (first | with_reducible exact Below.refl _ _ | with_reducible assumption | with_reducible refine up_alloc ?_ _ | with_reducible refine up_drew ?_ | with_reducible refine up_drewN ?_ _ | (with_reducible refine up_set ?_ ?hset _; case hset => first | (simp; done) | (simp; omega) | omega) | with_reducible refine up_trans ?_ (by with_reducible assumption)))
      have k0 : W.cell? ⟨w2.heap.size, 0, none⟩ = some (.int .i64 mx) := by subst hW; simp [go_sem]
      have k1 : W.cell? ⟨w2.heap.size, 1, none⟩ = some (.int .i64 my) := by subst hW; simp [go_sem]
      have how0 : OwnR w.heap.size W (.slice none 0 0) 0 (tuX X Y mx my P) (tuY X Y mx my P) := OwnR.nil _ _ _ _
      clear hW
      have HRW := Lib.hid hr
      clear hr hb1 hb2
      go_loopw [7, 25] (fun q i wr => ∃ k : Nat, k ≤ n ∧ i = .int .i64 k ∧ OwnR w.heap.size wr q k (tuX X Y mx my P) (tuY X Y mx my P) ∧ q.ownBlock ≠ some (w2.heap.size) ∧ Below w.heap.size w wr ∧ wr.cell? ⟨w2.heap.size, 0, none⟩ = some (.int .i64 mx) ∧ wr.cell? ⟨w2.heap.size, 1, none⟩ = some (.int .i64 my)) (fun _ i _ => n - (intOf i).toNat)
      case atStart => exact ⟨0, by omega, rfl, how0, by simp [Value.ownBlock], hbW, k0, k1⟩
      case round =>
        obtain ⟨k, hk, rfl, how, hqm, hb, q0, q1⟩ := hrel
        clear how0 hbW k0 k1
        by_cases hlt : k < n
        · have c0 := up_keep hb (HRW.out k hlt).1
          have c1 := up_keep hb (HRW.out k hlt).2
          have hsk := spotB_iff.1 (HS.out k hlt)
          obtain ⟨⟨t1, t2⟩, t3, t4⟩ := hsk
          go_wp2_with fail
          generalize hW3 : World.alloc wr _ = W3 at *
          have hb3 : Below wr.heap.size wr W3 := by subst hW3; (repeat (first | with_reducible exact Below.refl _ _ | with_reducible assumption | with_reducible refine up_alloc ?_ _ | with_reducible refine up_drew ?_ | with_reducible refine up_drewN ?_ _ | (with_reducible refine up_set ?_ ?hset _; case hset => first | (simp; done) | (simp; omega) | omega) | with_reducible refine up_trans ?_ (by with_reducible assumption)))
          have hb5 : Below w.heap.size w W3 := up_trans hb hb3
          have d0 := up_keep hb3 q0
          have d1 := up_keep hb3 q1
          have e0 : W3.cell? ⟨wr.heap.size, 0, none⟩ = some (.int .i64 (X k)) := by subst hW3; simp [go_sem]
          have e1 : W3.cell? ⟨wr.heap.size, 1, none⟩ = some (.int .i64 (Y k)) := by subst hW3; simp [go_sem]
          have how3 := how.up hb3
          have hqa := how.own_ne (Nat.le_refl _)
          have hqm' : w2.heap.size < W3.heap.size := lt_of_cell d0
          clear hW3 c0 c1 q0 q1
          obtain ⟨xk, hxk⟩ : ∃ xk, xk = X k := ⟨_, rfl⟩
          obtain ⟨yk, hyk⟩ : ∃ yk, yk = Y k := ⟨_, rfl⟩
          rw [← hxk] at e0 t1 t2
          rw [← hyk] at e1 t3 t4
          have HXk := Lib.hid (show tuX X Y mx my P k = mx + (rot P (xk - mx, yk - my)).1 by rw [hxk, hyk]; rfl)
          have HYk := Lib.hid (show tuY X Y mx my P k = my + (rot P (xk - mx, yk - my)).2 by rw [hxk, hyk]; rfl)
          clear hxk hyk
          have hrb := rot_bd (q := (xk - mx, yk - my)) (K := 50000) (by simp; omega) (by simp; omega) (by simp; omega) (by simp; omega)
          have z0 : IntKind.i64.wrap (xk - mx) = xk - mx := IntWalk.i64_in _ (by omega)
          have z1 : IntKind.i64.wrap (yk - my) = yk - my := IntWalk.i64_in _ (by omega)
          have HRB := Lib.hid hrb
          clear hrb
          go_quiet (fail)
          clear z0 z1
          go_wp2_with fail
          go_loop [10, 11, 12] (fun xx yy i => ∃ j : Nat, j ≤ P ∧ i = .int .i64 j ∧ xx = .int .i64 (rot j (xk - mx, yk - my)).1 ∧ yy = .int .i64 (rot j (xk - mx, yk - my)).2) (fun _ _ i => P - (intOf i).toNat)
          case atStart => exact ⟨0, by omega, rfl, rfl, rfl⟩
          case round =>
            obtain ⟨j, hj, rfl, rfl, rfl⟩ := hrel
            obtain ⟨⟨r1, r2⟩, r3, r4⟩ := HRB.out j
            by_cases hltj : j < P
            · go_wp2_with fail
              go_round
              case rel => exact ⟨j + 1, by omega, by go_num, rfl, rfl⟩
              case measure => simp [intOf]; omega
            · have e : j = P := by omega
              subst e
              generalize hW4 : World.drewN W3 _ = W4 at *
              have hb6 : Below W3.heap.size W3 W4 := by subst hW4; (repeat (first | with_reducible exact Below.refl _ _ | with_reducible assumption | with_reducible refine up_alloc ?_ _ | with_reducible refine up_drew ?_ | with_reducible refine up_drewN ?_ _ | (with_reducible refine up_set ?_ ?hset _; case hset => first | (simp; done) | (simp; omega) | omega) | with_reducible refine up_trans ?_ (by with_reducible assumption)))
              have hb7 : Below w.heap.size w W4 := up_trans hb5 hb6
              have how4 := how3.up hb6
              replace d0 := up_keep hb6 d0
              replace d1 := up_keep hb6 d1
              replace hqm' : w2.heap.size < W4.heap.size := lt_of_cell d0
              clear hW4
              go_wp2_with (at_builtin; refine wpList_app_spot2 rfl (.tmp 47) (.tmp 57) rfl w.heap.size _ k (tuX X Y mx my j) (tuY X Y mx my j) rfl rfl HXk.out HYk.out (by simp [go_sem]) (by simp [go_sem]) (OwnR.up how4 (by (repeat (first | with_reducible exact Below.refl _ _ | with_reducible assumption | with_reducible refine up_alloc ?_ _ | with_reducible refine up_drew ?_ | with_reducible refine up_drewN ?_ _ | (with_reducible refine up_set ?_ ?hset _; case hset => first | (simp; done) | (simp; omega) | omega) | with_reducible refine up_trans ?_ (by with_reducible assumption))))) (show Below w.heap.size w _ from (by (repeat (first | with_reducible exact Below.refl _ _ | with_reducible assumption | with_reducible refine up_alloc ?_ _ | with_reducible refine up_drew ?_ | with_reducible refine up_drewN ?_ _ | (with_reducible refine up_set ?_ ?hset _; case hset => first | (simp; done) | (simp; omega) | omega) | with_reducible refine up_trans ?_ (by with_reducible assumption))))).size (by omega) ?_; intro v2 w9 ho9 hb9 hg9 hw9; replace hb9 := (show Below w.heap.size w _ from (by (repeat (first | with_reducible exact Below.refl _ _ | with_reducible assumption | with_reducible refine up_alloc ?_ _ | with_reducible refine up_drew ?_ | with_reducible refine up_drewN ?_ _ | (with_reducible refine up_set ?_ ?hset _; case hset => first | (simp; done) | (simp; omega) | omega) | with_reducible refine up_trans ?_ (by with_reducible assumption))))).trans hb9; have x0 := far_keep (by (repeat (first | with_reducible exact Below.refl _ _ | with_reducible assumption | with_reducible refine up_alloc ?_ _ | with_reducible refine up_drew ?_ | with_reducible refine up_drewN ?_ _ | (with_reducible refine up_set ?_ ?hset _; case hset => first | (simp; done) | (simp; omega) | omega) | with_reducible refine up_trans ?_ (by with_reducible assumption)))) hg9 d0 hqm; have x1 := far_keep (by (repeat (first | with_reducible exact Below.refl _ _ | with_reducible assumption | with_reducible refine up_alloc ?_ _ | with_reducible refine up_drew ?_ | with_reducible refine up_drewN ?_ _ | (with_reducible refine up_set ?_ ?hset _; case hset => first | (simp; done) | (simp; omega) | omega) | with_reducible refine up_trans ?_ (by with_reducible assumption)))) hg9 d1 hqm; have hqn := own_step (show Below W4.heap.size W4 _ from (by (repeat (first | with_reducible exact Below.refl _ _ | with_reducible assumption | with_reducible refine up_alloc ?_ _ | with_reducible refine up_drew ?_ | with_reducible refine up_drewN ?_ _ | (with_reducible refine up_set ?_ ?hset _; case hset => first | (simp; done) | (simp; omega) | omega) | with_reducible refine up_trans ?_ (by with_reducible assumption))))) hw9 hqm hqm')
              go_roundw
              case rel => exact ⟨k + 1, by omega, by go_num, ho9, hqn, hb9, x0, x1⟩
              case measure => simp [intOf]; omega
        · have e : k = n := by omega
          subst e
          go_wp2_with (go_at_call 87; refine (chIf_g _ _ _ _ _ how.ownS.spots (by omega)).mono ?_; rintro e wq ⟨rfl, hbq⟩)
          go_ret2
          exact AnsSB.sel (how.ownS.up hbq) (up_trans hb hbq)
end Go.Proofs.Ytljbcfgecbonnaa
