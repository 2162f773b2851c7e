/-
  TurnForm on both sides, and the law: for all arguments it returns true. No condition.
-/
import Derived.Test.YtccipfpbaeoggaaRows
import Derived.Test.YtccipfpbaeoggaaBase
import Derived.Test.YtccipfpbaeoggaaSpot
import Derived.Test.YtccipfpbaeoggaaSlice
import Derived.Test.YtccipfpbaeoggaaChart
import Derived.Test.YtccipfpbaeoggaaRound
import Derived.Test.YtccipfpbaeoggaaAppend
import Derived.Test.YtccipfpbaeoggaaAppendE
import Derived.Test.YtccipfpbaeoggaaForm
import Derived.Test.YtccipfpbaeoggaaMiddle
import Derived.Test.YtccipfpbaeoggaaLawS
import Derived.Test.YtccipfpbaeoggaaMark
import Derived.Test.YtccipfpbaeoggaaOpen
import Derived.Test.YtccipfpbaeoggaaTrod
import Derived.Deep.RegionHeld3
import Derived.Deep.QuietTactic
namespace Go.Proofs.Ytccipfpbaeoggaa
open Go.RowKit Go.Sort Go.ChangeShapes Go.WideShapes

theorem rd_mid {s : Int} {n : Nat} (h0 : 0 ≤ s) (h1 : s ≤ 15360) (hn : 1 ≤ n) (hn' : n ≤ 12) : 0 ≤ rd s n ∧ rd s n ≤ 40000 := by
  have h := rd_bd (a := s) (b := (n : Int)) (K := 40000) (by omega) (by omega) (by omega)
  exact ⟨rd_nonneg h0 (by omega), h.2⟩
/-- k quarter turns. -/
def rot : Nat → Int × Int → Int × Int
  | 0, q => q
  | k + 1, q => (-(rot k q).2, (rot k q).1)
theorem rot_bd {q : Int × Int} {K : Int} (h1 : -K ≤ q.1) (h2 : q.1 ≤ K) (h3 : -K ≤ q.2) (h4 : q.2 ≤ K) : ∀ k, ((-K ≤ (rot k q).1 ∧ (rot k q).1 ≤ K) ∧ -K ≤ (rot k q).2 ∧ (rot k q).2 ≤ K)
  | 0 => ⟨⟨h1, h2⟩, h3, h4⟩
  | k + 1 => by
    have := rot_bd h1 h2 h3 h4 k
    simp only [rot]
    omega
def tuX (X Y : Nat → Int) (mx my : Int) (q : Nat) (i : Nat) : Int := mx + (rot q (X i - mx, Y i - my)).1
def tuY (X Y : Nat → Int) (mx my : Int) (q : Nat) (i : Nat) : Int := my + (rot q (X i - mx, Y i - my)).2
def tuB (n : Nat) (X Y : Nat → Int) (p : Int) : Bool := (chartB n X Y && inB p 0 3) && chartB n (tuX X Y (rd (sumN X n) n) (rd (sumN Y n) n) p.toNat) (tuY X Y (rd (sumN X n) n) (rd (sumN Y n) n) p.toNat)
set_option maxRecDepth 100000 in
set_option maxHeartbeats 4000000 in
theorem iTurnForm_any (v : Value) (n : Nat) (X Y : Nat → Int) (p : Int) (w : World) (h : Spots w v n X Y) (hn : n ≤ 1048576) :
    Calls Try.prog 29 #[v, .int .i64 p] w (AnsSB w (sel (tuB n X Y p) n) (tuX X Y (rd (sumN X n) n) (rd (sumN Y n) n) p.toNat) (tuY X Y (rd (sumN X n) n) (rd (sumN Y n) n) p.toNat) (tuB n X Y p)) := by
  have HC := Lib.hid (isChart_g v n X Y w h (by omega))
  cases hc : chartB n X Y with
  | false =>
    rw [show tuB n X Y p = false by simp [tuB, hc]]
    rw [hc] at HC
    clear h hc
    go_enter Try.func29, Try.ntmps29
    go_wp2_with ((go_at_call 62; refine (HC.out).mono ?_; rintro e w1 ⟨rfl, hb⟩))
    go_ret2
    exact AnsSB.nil (by (repeat (first | with_reducible exact Below.refl _ _ | with_reducible assumption | with_reducible refine up_alloc ?_ _ | with_reducible refine up_drew ?_ | with_reducible refine up_drewN ?_ _ | (with_reducible refine up_set ?_ ?hset _; case hset => first | (simp; done) | (simp; omega) | omega) | with_reducible refine up_trans ?_ (by with_reducible assumption))))
  | true =>
    rw [hc] at HC
    cases hp : inB p (0) 3 with
    | false =>
      rw [show tuB n X Y p = false by simp [tuB, hp]]
      clear h hc
      go_enter Try.func29, Try.ntmps29
      go_wp2_with (first | (go_at_call 62; refine (HC.out).mono ?_; rintro e w1 ⟨rfl, hb⟩) | (go_at_call 68; refine (within_any _ _ _ _).mono ?_; rintro e w1 ⟨rfl, rfl⟩))
      go_ret2
      exact AnsSB.nil (by (repeat (first | with_reducible exact Below.refl _ _ | with_reducible assumption | with_reducible refine up_alloc ?_ _ | with_reducible refine up_drew ?_ | with_reducible refine up_drewN ?_ _ | (with_reducible refine up_set ?_ ?hset _; case hset => first | (simp; done) | (simp; omega) | omega) | with_reducible refine up_trans ?_ (by with_reducible assumption))))
    | true =>
      have sb := sum_bd hc n (Nat.le_refl _)
      have hcc := chartB_iff.1 hc
      obtain ⟨⟨n1, n2⟩, hsp, _⟩ := hcc
      have m1 := rd_mid sb.1.1 sb.1.2 n1 n2
      have m2 := rd_mid sb.2.1 sb.2.2 n1 n2
      obtain ⟨p1, p2⟩ := inB_iff.1 hp
      rw [show tuB n X Y p = chartB n (tuX X Y (rd (sumN X n) n) (rd (sumN Y n) n) p.toNat) (tuY X Y (rd (sumN X n) n) (rd (sumN Y n) n) p.toNat) by simp [tuB, hc, hp]]
      have HM := Lib.hid (fun W (hW : Below w.heap.size w W) => iMid_any v n X Y W (h.up hW) hc)
      generalize rd (sumN X n) n = mx at *
      generalize rd (sumN Y n) n = my at *
      obtain ⟨m1, m3⟩ := m1
      obtain ⟨m2, m4⟩ := m2
      obtain ⟨A, c, rfl, hnc, hrow⟩ := h
      obtain ⟨b, o, rfl, hr⟩ := hrow (by omega)
      have HS := Lib.hid hsp
      clear hrow hsp hc sb
      obtain ⟨P, rfl⟩ : ∃ P : Nat, p = P := ⟨p.toNat, by omega⟩
      rw [show ((P : Int)).toNat = P by omega]
      go_enter Try.func29, Try.ntmps29
      go_wp2_with (first | (go_at_call 62; refine HC.out.mono ?_; rintro e w1 ⟨rfl, hb1⟩) | (go_at_call 68; refine (within_any _ _ _ _).mono ?_; rintro e w1 ⟨rfl, rfl⟩) | (go_at_call 74; refine (HM.out _ (by (repeat (first | with_reducible exact Below.refl _ _ | with_reducible assumption | with_reducible refine up_alloc ?_ _ | with_reducible refine up_drew ?_ | with_reducible refine up_drewN ?_ _ | (with_reducible refine up_set ?_ ?hset _; case hset => first | (simp; done) | (simp; omega) | omega) | with_reducible refine up_trans ?_ (by with_reducible assumption))))).mono ?_; rintro e w2 ⟨rfl, hb2⟩))
      generalize hW : World.alloc (World.alloc w2 _) _ = W at *
      have hbW : Below w.heap.size w W := by subst hW; (repeat (first | with_reducible exact Below.refl _ _ | with_reducible assumption | with_reducible refine up_alloc ?_ _ | with_reducible refine up_drew ?_ | with_reducible refine up_drewN ?_ _ | (with_reducible refine up_set ?_ ?hset _; case hset => first | (simp; done) | (simp; omega) | omega) | with_reducible refine up_trans ?_ (by with_reducible assumption)))
      have k0 : W.cell? ⟨w2.heap.size + 1, 0, none⟩ = some (.int .i64 mx) := by subst hW; simp [go_sem]
      have k1 : W.cell? ⟨w2.heap.size + 1, 1, none⟩ = some (.int .i64 my) := by subst hW; simp [go_sem]
      have how0 : OwnR w.heap.size W (.slice (some ⟨w2.heap.size, 0, none⟩) 0 0) 0 (tuX X Y mx my P) (tuY X Y mx my P) := by subst hW; exact OwnR.up (OwnR.empty (show Below w.heap.size w w2 from (by (repeat (first | with_reducible exact Below.refl _ _ | with_reducible assumption | with_reducible refine up_alloc ?_ _ | with_reducible refine up_drew ?_ | with_reducible refine up_drewN ?_ _ | (with_reducible refine up_set ?_ ?hset _; case hset => first | (simp; done) | (simp; omega) | omega) | with_reducible refine up_trans ?_ (by with_reducible assumption))))).size _ _) (below_alloc _ _)
      clear hW
      have HRW := Lib.hid hr
      clear hr hb1 hb2
      go_loopw [7, 26] (fun q i wr => ∃ k : Nat, k ≤ n ∧ i = .int .i64 k ∧ OwnR w.heap.size wr q k (tuX X Y mx my P) (tuY X Y mx my P) ∧ q.ownBlock ≠ some (w2.heap.size + 1) ∧ Below w.heap.size w wr ∧ wr.cell? ⟨w2.heap.size + 1, 0, none⟩ = some (.int .i64 mx) ∧ wr.cell? ⟨w2.heap.size + 1, 1, none⟩ = some (.int .i64 my)) (fun _ i _ => n - (intOf i).toNat)
      case atStart => exact ⟨0, by omega, rfl, how0, by simp [Value.ownBlock], hbW, k0, k1⟩
      case round =>
        obtain ⟨k, hk, rfl, how, hqm, hb, q0, q1⟩ := hrel
        clear how0 hbW k0 k1
        by_cases hlt : k < n
        · have c0 := up_keep hb (HRW.out k hlt).1
          have c1 := up_keep hb (HRW.out k hlt).2
          have hsk := spotB_iff.1 (HS.out k hlt)
          obtain ⟨⟨t1, t2⟩, t3, t4⟩ := hsk
          go_wp2_with fail
          generalize hW3 : World.alloc wr _ = W3 at *
          have hb3 : Below wr.heap.size wr W3 := by subst hW3; (repeat (first | with_reducible exact Below.refl _ _ | with_reducible assumption | with_reducible refine up_alloc ?_ _ | with_reducible refine up_drew ?_ | with_reducible refine up_drewN ?_ _ | (with_reducible refine up_set ?_ ?hset _; case hset => first | (simp; done) | (simp; omega) | omega) | with_reducible refine up_trans ?_ (by with_reducible assumption)))
          have hb5 : Below w.heap.size w W3 := up_trans hb hb3
          have d0 := up_keep hb3 q0
          have d1 := up_keep hb3 q1
          have e0 : W3.cell? ⟨wr.heap.size, 0, none⟩ = some (.int .i64 (X k)) := by subst hW3; simp [go_sem]
          have e1 : W3.cell? ⟨wr.heap.size, 1, none⟩ = some (.int .i64 (Y k)) := by subst hW3; simp [go_sem]
          have how3 := how.up hb3
          have hqa := how.own_ne (Nat.le_refl _)
          have hqm' : w2.heap.size + 1 < W3.heap.size := lt_of_cell d0
          clear hW3 c0 c1 q0 q1
          obtain ⟨xk, hxk⟩ : ∃ xk, xk = X k := ⟨_, rfl⟩
          obtain ⟨yk, hyk⟩ : ∃ yk, yk = Y k := ⟨_, rfl⟩
          rw [← hxk] at e0 t1 t2
          rw [← hyk] at e1 t3 t4
          have HXk := Lib.hid (show tuX X Y mx my P k = mx + (rot P (xk - mx, yk - my)).1 by rw [hxk, hyk]; rfl)
          have HYk := Lib.hid (show tuY X Y mx my P k = my + (rot P (xk - mx, yk - my)).2 by rw [hxk, hyk]; rfl)
          clear hxk hyk
          have hrb := rot_bd (q := (xk - mx, yk - my)) (K := 50000) (by simp; omega) (by simp; omega) (by simp; omega) (by simp; omega)
          have z0 : IntKind.i64.wrap (xk - mx) = xk - mx := IntWalk.i64_in _ (by omega)
          have z1 : IntKind.i64.wrap (yk - my) = yk - my := IntWalk.i64_in _ (by omega)
          have HRB := Lib.hid hrb
          clear hrb
          go_quiet (fail)
          clear z0 z1
          go_wp2_with fail
          go_loop [10, 11, 12] (fun xx yy i => ∃ j : Nat, j ≤ P ∧ i = .int .i64 j ∧ xx = .int .i64 (rot j (xk - mx, yk - my)).1 ∧ yy = .int .i64 (rot j (xk - mx, yk - my)).2) (fun _ _ i => P - (intOf i).toNat)
          case atStart => exact ⟨0, by omega, rfl, rfl, rfl⟩
          case round =>
            obtain ⟨j, hj, rfl, rfl, rfl⟩ := hrel
            obtain ⟨⟨r1, r2⟩, r3, r4⟩ := HRB.out j
            by_cases hltj : j < P
            · go_wp2_with fail
              go_round
              case rel => exact ⟨j + 1, by omega, by go_num, rfl, rfl⟩
              case measure => simp [intOf]; omega
            · have e : j = P := by omega
              subst e
              generalize hW4 : World.drewN W3 _ = W4 at *
              have hb6 : Below W3.heap.size W3 W4 := by subst hW4; (repeat (first | with_reducible exact Below.refl _ _ | with_reducible assumption | with_reducible refine up_alloc ?_ _ | with_reducible refine up_drew ?_ | with_reducible refine up_drewN ?_ _ | (with_reducible refine up_set ?_ ?hset _; case hset => first | (simp; done) | (simp; omega) | omega) | with_reducible refine up_trans ?_ (by with_reducible assumption)))
              have hb7 : Below w.heap.size w W4 := up_trans hb5 hb6
              have how4 := how3.up hb6
              replace d0 := up_keep hb6 d0
              replace d1 := up_keep hb6 d1
              replace hqm' : w2.heap.size + 1 < W4.heap.size := lt_of_cell d0
              clear hW4
              go_wp2_with (at_builtin; refine wpList_app_spot2 rfl (.tmp 48) (.tmp 58) rfl w.heap.size _ k (tuX X Y mx my j) (tuY X Y mx my j) rfl rfl HXk.out HYk.out (by simp [go_sem]) (by simp [go_sem]) (OwnR.up how4 (by (repeat (first | with_reducible exact Below.refl _ _ | with_reducible assumption | with_reducible refine up_alloc ?_ _ | with_reducible refine up_drew ?_ | with_reducible refine up_drewN ?_ _ | (with_reducible refine up_set ?_ ?hset _; case hset => first | (simp; done) | (simp; omega) | omega) | with_reducible refine up_trans ?_ (by with_reducible assumption))))) (show Below w.heap.size w _ from (by (repeat (first | with_reducible exact Below.refl _ _ | with_reducible assumption | with_reducible refine up_alloc ?_ _ | with_reducible refine up_drew ?_ | with_reducible refine up_drewN ?_ _ | (with_reducible refine up_set ?_ ?hset _; case hset => first | (simp; done) | (simp; omega) | omega) | with_reducible refine up_trans ?_ (by with_reducible assumption))))).size (by omega) ?_; intro v2 w9 ho9 hb9 hg9 hw9; replace hb9 := (show Below w.heap.size w _ from (by (repeat (first | with_reducible exact Below.refl _ _ | with_reducible assumption | with_reducible refine up_alloc ?_ _ | with_reducible refine up_drew ?_ | with_reducible refine up_drewN ?_ _ | (with_reducible refine up_set ?_ ?hset _; case hset => first | (simp; done) | (simp; omega) | omega) | with_reducible refine up_trans ?_ (by with_reducible assumption))))).trans hb9; have x0 := far_keep (by (repeat (first | with_reducible exact Below.refl _ _ | with_reducible assumption | with_reducible refine up_alloc ?_ _ | with_reducible refine up_drew ?_ | with_reducible refine up_drewN ?_ _ | (with_reducible refine up_set ?_ ?hset _; case hset => first | (simp; done) | (simp; omega) | omega) | with_reducible refine up_trans ?_ (by with_reducible assumption)))) hg9 d0 hqm; have x1 := far_keep (by (repeat (first | with_reducible exact Below.refl _ _ | with_reducible assumption | with_reducible refine up_alloc ?_ _ | with_reducible refine up_drew ?_ | with_reducible refine up_drewN ?_ _ | (with_reducible refine up_set ?_ ?hset _; case hset => first | (simp; done) | (simp; omega) | omega) | with_reducible refine up_trans ?_ (by with_reducible assumption)))) hg9 d1 hqm; have hqn := own_step (show Below W4.heap.size W4 _ from (by (repeat (first | with_reducible exact Below.refl _ _ | with_reducible assumption | with_reducible refine up_alloc ?_ _ | with_reducible refine up_drew ?_ | with_reducible refine up_drewN ?_ _ | (with_reducible refine up_set ?_ ?hset _; case hset => first | (simp; done) | (simp; omega) | omega) | with_reducible refine up_trans ?_ (by with_reducible assumption))))) hw9 hqm hqm')
              go_roundw
              case rel => exact ⟨k + 1, by omega, by go_num, ho9, hqn, hb9, x0, x1⟩
              case measure => simp [intOf]; omega
        · have e : k = n := by omega
          subst e
          go_wp2_with (go_at_call 70; refine (asForm_g _ _ _ _ _ how.ownS.spots (by omega)).mono ?_; rintro e wq ⟨rfl, hbq⟩)
          go_ret2
          exact AnsSB.sel (how.ownS.up hbq) (up_trans hb hbq)
set_option maxRecDepth 100000 in
set_option maxHeartbeats 4000000 in
theorem sTurnForm_any (v : Value) (n : Nat) (X Y : Nat → Int) (p : Int) (w : World) (h : Spots w v n X Y) (hn : n ≤ 1048576) :
    Calls Try.prog 28 #[v, .int .i64 p] w (AnsSB w (sel (tuB n X Y p) n) (tuX X Y (rd (sumN X n) n) (rd (sumN Y n) n) p.toNat) (tuY X Y (rd (sumN X n) n) (rd (sumN Y n) n) p.toNat) (tuB n X Y p)) := by
  have HC := Lib.hid (chGood_g v n X Y w h (by omega))
  cases hc : chartB n X Y with
  | false =>
    rw [show tuB n X Y p = false by simp [tuB, hc]]
    rw [hc] at HC
    clear h hc
    go_enter Try.func28, Try.ntmps28
    go_wp2_with ((go_at_call 59; refine (HC.out).mono ?_; rintro e w1 ⟨rfl, hb⟩))
    go_ret2
    exact AnsSB.nil (by (repeat (first | with_reducible exact Below.refl _ _ | with_reducible assumption | with_reducible refine up_alloc ?_ _ | with_reducible refine up_drew ?_ | with_reducible refine up_drewN ?_ _ | (with_reducible refine up_set ?_ ?hset _; case hset => first | (simp; done) | (simp; omega) | omega) | with_reducible refine up_trans ?_ (by with_reducible assumption))))
  | true =>
    rw [hc] at HC
    cases hp : inB p (0) 3 with
    | false =>
      rw [show tuB n X Y p = false by simp [tuB, hp]]
      clear h hc
      go_enter Try.func28, Try.ntmps28
      go_wp2_with (first | (go_at_call 59; refine (HC.out).mono ?_; rintro e w1 ⟨rfl, hb⟩) | (go_at_call 71; refine (l1In_any _ _ _ _).mono ?_; rintro e w1 ⟨rfl, rfl⟩))
      go_ret2
      exact AnsSB.nil (by (repeat (first | with_reducible exact Below.refl _ _ | with_reducible assumption | with_reducible refine up_alloc ?_ _ | with_reducible refine up_drew ?_ | with_reducible refine up_drewN ?_ _ | (with_reducible refine up_set ?_ ?hset _; case hset => first | (simp; done) | (simp; omega) | omega) | with_reducible refine up_trans ?_ (by with_reducible assumption))))
    | true =>
      have sb := sum_bd hc n (Nat.le_refl _)
      have hcc := chartB_iff.1 hc
      obtain ⟨⟨n1, n2⟩, hsp, _⟩ := hcc
      have m1 := rd_mid sb.1.1 sb.1.2 n1 n2
      have m2 := rd_mid sb.2.1 sb.2.2 n1 n2
      obtain ⟨p1, p2⟩ := inB_iff.1 hp
      rw [show tuB n X Y p = chartB n (tuX X Y (rd (sumN X n) n) (rd (sumN Y n) n) p.toNat) (tuY X Y (rd (sumN X n) n) (rd (sumN Y n) n) p.toNat) by simp [tuB, hc, hp]]
      have HM := Lib.hid (fun W (hW : Below w.heap.size w W) => sMid_any v n X Y W (h.up hW) hc)
      generalize rd (sumN X n) n = mx at *
      generalize rd (sumN Y n) n = my at *
      obtain ⟨m1, m3⟩ := m1
      obtain ⟨m2, m4⟩ := m2
      obtain ⟨A, c, rfl, hnc, hrow⟩ := h
      obtain ⟨b, o, rfl, hr⟩ := hrow (by omega)
      have HS := Lib.hid hsp
      clear hrow hsp hc sb
      obtain ⟨P, rfl⟩ : ∃ P : Nat, p = P := ⟨p.toNat, by omega⟩
      rw [show ((P : Int)).toNat = P by omega]
      go_enter Try.func28, Try.ntmps28
      go_wp2_with (first | (go_at_call 59; refine HC.out.mono ?_; rintro e w1 ⟨rfl, hb1⟩) | (go_at_call 71; refine (l1In_any _ _ _ _).mono ?_; rintro e w1 ⟨rfl, rfl⟩) | (go_at_call 72; refine (HM.out _ (by (repeat (first | with_reducible exact Below.refl _ _ | with_reducible assumption | with_reducible refine up_alloc ?_ _ | with_reducible refine up_drew ?_ | with_reducible refine up_drewN ?_ _ | (with_reducible refine up_set ?_ ?hset _; case hset => first | (simp; done) | (simp; omega) | omega) | with_reducible refine up_trans ?_ (by with_reducible assumption))))).mono ?_; rintro e w2 ⟨rfl, hb2⟩))
      generalize hW : World.alloc w2 _ = W at *
      have hbW : Below w.heap.size w W := by subst hW; (repeat (first | with_reducible exact Below.refl _ _ | with_reducible assumption | with_reducible refine up_alloc ?_ _ | with_reducible refine up_drew ?_ | with_reducible refine up_drewN ?_ _ | (with_reducible refine up_set ?_ ?hset _; case hset => first | (simp; done) | (simp; omega) | omega) | with_reducible refine up_trans ?_ (by with_reducible assumption)))
      have k0 : W.cell? ⟨w2.heap.size, 0, none⟩ = some (.int .i64 mx) := by subst hW; simp [go_sem]
      have k1 : W.cell? ⟨w2.heap.size, 1, none⟩ = some (.int .i64 my) := by subst hW; simp [go_sem]
      have how0 : OwnR w.heap.size W (.slice none 0 0) 0 (tuX X Y mx my P) (tuY X Y mx my P) := OwnR.nil _ _ _ _
      clear hW
      have HRW := Lib.hid hr
      clear hr hb1 hb2
      go_loopw [7, 25] (fun q i wr => ∃ k : Nat, k ≤ n ∧ i = .int .i64 k ∧ OwnR w.heap.size wr q k (tuX X Y mx my P) (tuY X Y mx my P) ∧ q.ownBlock ≠ some (w2.heap.size) ∧ Below w.heap.size w wr ∧ wr.cell? ⟨w2.heap.size, 0, none⟩ = some (.int .i64 mx) ∧ wr.cell? ⟨w2.heap.size, 1, none⟩ = some (.int .i64 my)) (fun _ i _ => n - (intOf i).toNat)
      case atStart => exact ⟨0, by omega, rfl, how0, by simp [Value.ownBlock], hbW, k0, k1⟩
      case round =>
        obtain ⟨k, hk, rfl, how, hqm, hb, q0, q1⟩ := hrel
        clear how0 hbW k0 k1
        by_cases hlt : k < n
        · have c0 := up_keep hb (HRW.out k hlt).1
          have c1 := up_keep hb (HRW.out k hlt).2
          have hsk := spotB_iff.1 (HS.out k hlt)
          obtain ⟨⟨t1, t2⟩, t3, t4⟩ := hsk
          go_wp2_with fail
          generalize hW3 : World.alloc wr _ = W3 at *
          have hb3 : Below wr.heap.size wr W3 := by subst hW3; (repeat (first | with_reducible exact Below.refl _ _ | with_reducible assumption | with_reducible refine up_alloc ?_ _ | with_reducible refine up_drew ?_ | with_reducible refine up_drewN ?_ _ | (with_reducible refine up_set ?_ ?hset _; case hset => first | (simp; done) | (simp; omega) | omega) | with_reducible refine up_trans ?_ (by with_reducible assumption)))
          have hb5 : Below w.heap.size w W3 := up_trans hb hb3
          have d0 := up_keep hb3 q0
          have d1 := up_keep hb3 q1
          have e0 : W3.cell? ⟨wr.heap.size, 0, none⟩ = some (.int .i64 (X k)) := by subst hW3; simp [go_sem]
          have e1 : W3.cell? ⟨wr.heap.size, 1, none⟩ = some (.int .i64 (Y k)) := by subst hW3; simp [go_sem]
          have how3 := how.up hb3
          have hqa := how.own_ne (Nat.le_refl _)
          have hqm' : w2.heap.size < W3.heap.size := lt_of_cell d0
          clear hW3 c0 c1 q0 q1
          obtain ⟨xk, hxk⟩ : ∃ xk, xk = X k := ⟨_, rfl⟩
          obtain ⟨yk, hyk⟩ : ∃ yk, yk = Y k := ⟨_, rfl⟩
          rw [← hxk] at e0 t1 t2
          rw [← hyk] at e1 t3 t4
          have HXk := Lib.hid (show tuX X Y mx my P k = mx + (rot P (xk - mx, yk - my)).1 by rw [hxk, hyk]; rfl)
          have HYk := Lib.hid (show tuY X Y mx my P k = my + (rot P (xk - mx, yk - my)).2 by rw [hxk, hyk]; rfl)
          clear hxk hyk
          have hrb := rot_bd (q := (xk - mx, yk - my)) (K := 50000) (by simp; omega) (by simp; omega) (by simp; omega) (by simp; omega)
          have z0 : IntKind.i64.wrap (xk - mx) = xk - mx := IntWalk.i64_in _ (by omega)
          have z1 : IntKind.i64.wrap (yk - my) = yk - my := IntWalk.i64_in _ (by omega)
          have HRB := Lib.hid hrb
          clear hrb
          go_quiet (fail)
          clear z0 z1
          go_wp2_with fail
          go_loop [10, 11, 12] (fun xx yy i => ∃ j : Nat, j ≤ P ∧ i = .int .i64 j ∧ xx = .int .i64 (rot j (xk - mx, yk - my)).1 ∧ yy = .int .i64 (rot j (xk - mx, yk - my)).2) (fun _ _ i => P - (intOf i).toNat)
          case atStart => exact ⟨0, by omega, rfl, rfl, rfl⟩
          case round =>
            obtain ⟨j, hj, rfl, rfl, rfl⟩ := hrel
            obtain ⟨⟨r1, r2⟩, r3, r4⟩ := HRB.out j
            by_cases hltj : j < P
            · go_wp2_with fail
              go_round
              case rel => exact ⟨j + 1, by omega, by go_num, rfl, rfl⟩
              case measure => simp [intOf]; omega
            · have e : j = P := by omega
              subst e
              generalize hW4 : World.drewN W3 _ = W4 at *
              have hb6 : Below W3.heap.size W3 W4 := by subst hW4; (repeat (first | with_reducible exact Below.refl _ _ | with_reducible assumption | with_reducible refine up_alloc ?_ _ | with_reducible refine up_drew ?_ | with_reducible refine up_drewN ?_ _ | (with_reducible refine up_set ?_ ?hset _; case hset => first | (simp; done) | (simp; omega) | omega) | with_reducible refine up_trans ?_ (by with_reducible assumption)))
              have hb7 : Below w.heap.size w W4 := up_trans hb5 hb6
              have how4 := how3.up hb6
              replace d0 := up_keep hb6 d0
              replace d1 := up_keep hb6 d1
              replace hqm' : w2.heap.size < W4.heap.size := lt_of_cell d0
              clear hW4
              go_wp2_with (at_builtin; refine wpList_app_spot2 rfl (.tmp 47) (.tmp 57) rfl w.heap.size _ k (tuX X Y mx my j) (tuY X Y mx my j) rfl rfl HXk.out HYk.out (by simp [go_sem]) (by simp [go_sem]) (OwnR.up how4 (by (repeat (first | with_reducible exact Below.refl _ _ | with_reducible assumption | with_reducible refine up_alloc ?_ _ | with_reducible refine up_drew ?_ | with_reducible refine up_drewN ?_ _ | (with_reducible refine up_set ?_ ?hset _; case hset => first | (simp; done) | (simp; omega) | omega) | with_reducible refine up_trans ?_ (by with_reducible assumption))))) (show Below w.heap.size w _ from (by (repeat (first | with_reducible exact Below.refl _ _ | with_reducible assumption | with_reducible refine up_alloc ?_ _ | with_reducible refine up_drew ?_ | with_reducible refine up_drewN ?_ _ | (with_reducible refine up_set ?_ ?hset _; case hset => first | (simp; done) | (simp; omega) | omega) | with_reducible refine up_trans ?_ (by with_reducible assumption))))).size (by omega) ?_; intro v2 w9 ho9 hb9 hg9 hw9; replace hb9 := (show Below w.heap.size w _ from (by (repeat (first | with_reducible exact Below.refl _ _ | with_reducible assumption | with_reducible refine up_alloc ?_ _ | with_reducible refine up_drew ?_ | with_reducible refine up_drewN ?_ _ | (with_reducible refine up_set ?_ ?hset _; case hset => first | (simp; done) | (simp; omega) | omega) | with_reducible refine up_trans ?_ (by with_reducible assumption))))).trans hb9; have x0 := far_keep (by (repeat (first | with_reducible exact Below.refl _ _ | with_reducible assumption | with_reducible refine up_alloc ?_ _ | with_reducible refine up_drew ?_ | with_reducible refine up_drewN ?_ _ | (with_reducible refine up_set ?_ ?hset _; case hset => first | (simp; done) | (simp; omega) | omega) | with_reducible refine up_trans ?_ (by with_reducible assumption)))) hg9 d0 hqm; have x1 := far_keep (by (repeat (first | with_reducible exact Below.refl _ _ | with_reducible assumption | with_reducible refine up_alloc ?_ _ | with_reducible refine up_drew ?_ | with_reducible refine up_drewN ?_ _ | (with_reducible refine up_set ?_ ?hset _; case hset => first | (simp; done) | (simp; omega) | omega) | with_reducible refine up_trans ?_ (by with_reducible assumption)))) hg9 d1 hqm; have hqn := own_step (show Below W4.heap.size W4 _ from (by (repeat (first | with_reducible exact Below.refl _ _ | with_reducible assumption | with_reducible refine up_alloc ?_ _ | with_reducible refine up_drew ?_ | with_reducible refine up_drewN ?_ _ | (with_reducible refine up_set ?_ ?hset _; case hset => first | (simp; done) | (simp; omega) | omega) | with_reducible refine up_trans ?_ (by with_reducible assumption))))) hw9 hqm hqm')
              go_roundw
              case rel => exact ⟨k + 1, by omega, by go_num, ho9, hqn, hb9, x0, x1⟩
              case measure => simp [intOf]; omega
        · have e : k = n := by omega
          subst e
          go_wp2_with (go_at_call 66; refine (chIf_g _ _ _ _ _ how.ownS.spots (by omega)).mono ?_; rintro e wq ⟨rfl, hbq⟩)
          go_ret2
          exact AnsSB.sel (how.ownS.up hbq) (up_trans hb hbq)
--{'F': 'TurnForm', 'B': 'tuB', 'U': 'tuX X Y (rd (sumN X n) n) (rd (sumN Y n) n) p.toNat', 'V': 'tuY X Y (rd (sumN X n) n) (rd (sumN Y n) n) p.toNat'}w
set_option maxRecDepth 100000 in
set_option maxHeartbeats 4000000 in
theorem fnExactTurnForm_walk (v : Value) (n : Nat) (X Y : Nat → Int) (p : Int) (hn : n ≤ 9223372036854775807) (w : World) (h : Spots w v n X Y) :
    Calls Try.prog 6 #[v, .int .i64 p] w (Ans w (.bool true)) := by
  by_cases hl : n ≤ 1048576
  · have HZ := szV_pos (left := 1048576) (n := n) (by omega)
    have HS := fun v w' (hw : Spots w' v n X Y) => sTurnForm_any v n X Y p w' hw hl
    have HI := fun v w' (hw : Spots w' v n X Y) => iTurnForm_any v n X Y p w' hw hl
    have hN : sel (tuB n X Y p) n ≤ 1048576 := Nat.le_trans (sel_le _ _) hl
    generalize tuB n X Y p = q at *
    generalize (tuX X Y (rd (sumN X n) n) (rd (sumN Y n) n) p.toNat) = U at *
    generalize (tuY X Y (rd (sumN X n) n) (rd (sumN Y n) n) p.toNat) = V at *
    generalize sel q n = N at *
    go_enter Try.func6, Try.ntmps6
    have hW0 := Below.refl w.heap.size w
    go_wp2_with fail
    refine (szSpotS_g v _ _ _ _ _ h (by omega) (by omega) (by omega)).mono ?_
    rintro e w1 ⟨rfl, hb0⟩
    have hz0 := hb0.size
    have hW1 := up_trans hW0 hb0
    have h_v_1 := h.up hb0
    go_wp2_with fail
    refine (toSpotS_g v _ _ _ _ h_v_1 (by omega)).mono ?_
    rintro e w2 ⟨t0, rfl, h_t0_2, hb1⟩
    have hz1 := hb1.size
    have hW2 := up_trans hW1 hb1
    go_wp2_with fail
    refine (HS t0 _ h_t0_2.spots).mono ?_
    rintro e w3 ⟨rS, rfl, h_rS_3, hb2⟩
    have hz2 := hb2.size
    have hW3 := up_trans hW2 hb2
    have h_v_2 := h_v_1.up hb1
    have h_v_3 := h_v_2.up hb2
    go_wp2_with fail
    refine (toSpotS_g v _ _ _ _ h_v_3 (by omega)).mono ?_
    rintro e w4 ⟨x0, rfl, h_x0_4, hb3⟩
    have hz3 := hb3.size
    have hW4 := up_trans hW3 hb3
    go_wp2_with fail
    refine (HI x0 _ h_x0_4.spots).mono ?_
    rintro e w5 ⟨rI, rfl, h_rI_5, hb4⟩
    have hz4 := hb4.size
    have hW5 := up_trans hW4 hb4
    have h_rS_4 := h_rS_3.up hb3
    have h_rS_5 := h_rS_4.up hb4
    go_wp2_with fail
    refine (eqSpotS_g rI rS _ _ _ _ h_rI_5.spots h_rS_5.spots (by omega)).mono ?_
    rintro e w6 ⟨rfl, hb5⟩
    have hz5 := hb5.size
    have hW6 := up_trans hW5 hb5
    have h_v_4 := h_v_3.up hb3
    have h_v_5 := h_v_4.up hb4
    have h_v_6 := h_v_5.up hb5
    go_wp2_with fail
    refine (toSpotS_g v _ _ _ _ h_v_6 (by omega)).mono ?_
    rintro e w7 ⟨y0, rfl, h_y0_7, hb6⟩
    have hz6 := hb6.size
    have hW7 := up_trans hW6 hb6
    have h_x0_5 := h_x0_4.up hb4
    have h_x0_6 := h_x0_5.up hb5
    have h_x0_7 := h_x0_6.up hb6
    go_wp2_with fail
    refine (eqSpotS_g x0 y0 _ _ _ _ h_x0_7.spots h_y0_7.spots (by omega)).mono ?_
    rintro e w8 ⟨rfl, hb7⟩
    have hz7 := hb7.size
    have hW8 := up_trans hW7 hb7
    have h_x0_8 := h_x0_7.up hb7
    go_wp2_with fail
    refine (markSpotS_g _ x0 _ _ _ (1) _ h_x0_8 (by omega) (by omega) (by omega)).mono ?_
    rintro e w9 ⟨rfl, hg8, h_x0_9⟩
    have hz8 := hg8.size
    have hB8 : Below w3.heap.size w8 w9 := below_old h_x0_8 hg8 (by omega)
    have hW9 := hW8.trans (hB8.mono (by omega))
    have h_rI_6 := h_rI_5.up hb5
    have h_rI_7 := h_rI_6.up hb6
    have h_rI_8 := h_rI_7.up hb7
    have h_rI_9 := OwnS.young h_rI_8 h_x0_4.spots (by omega) hg8
    have h_rS_6 := h_rS_5.up hb5
    have h_rS_7 := h_rS_6.up hb6
    have h_rS_8 := h_rS_7.up hb7
    have h_rS_9 := Spots.old h_rS_3.spots h_rS_8.spots hB8
    go_wp2_with fail
    refine (eqSpotS_g rI rS _ _ _ _ h_rI_9.spots h_rS_9 (by omega)).mono ?_
    rintro e w10 ⟨rfl, hb9⟩
    have hz9 := hb9.size
    have hW10 := up_trans hW9 hb9
    have h_rI_10 := h_rI_9.up hb9
    go_wp2_with fail
    refine (markSpotS_g _ rI _ _ _ 1 _ h_rI_10 (by omega) (by omega) (by omega)).mono ?_
    rintro e w11 ⟨rfl, hg10, h_rI_11⟩
    have hz10 := hg10.size
    have hB10 : Below w4.heap.size w10 w11 := below_old h_rI_10 hg10 (by omega)
    have hW11 := hW10.trans (hB10.mono (by omega))
    go_wp2_with fail
    refine (heldSpotS_g rI _ 1 _ h_rI_11.spots (by omega) (by omega) (by omega)).mono ?_
    rintro e w12 ⟨rfl, hb11⟩
    have hz11 := hb11.size
    have hW12 := up_trans hW11 hb11
    have h_v_7 := h_v_6.up hb6
    have h_v_8 := h_v_7.up hb7
    have h_v_9 := Spots.old h_v_3 h_v_8 hB8
    have h_v_10 := h_v_9.up hb9
    have h_v_11 := Spots.old h_v_4 h_v_10 hB10
    have h_v_12 := h_v_11.up hb11
    go_wp2_with fail
    refine (toSpotS_g v _ _ _ _ h_v_12 (by omega)).mono ?_
    rintro e w13 ⟨z0, rfl, h_z0_13, hb12⟩
    have hz12 := hb12.size
    have hW13 := up_trans hW12 hb12
    go_wp2_with fail
    refine (HI z0 _ h_z0_13.spots).mono ?_
    rintro e w14 ⟨rH, rfl, h_rH_14, hb13⟩
    have hz13 := hb13.size
    have hW14 := up_trans hW13 hb13
    have h_rS_10 := h_rS_9.up hb9
    have h_rS_11 := Spots.old h_rS_4.spots h_rS_10 hB10
    have h_rS_12 := h_rS_11.up hb11
    have h_rS_13 := h_rS_12.up hb12
    have h_rS_14 := h_rS_13.up hb13
    go_wp2_with fail
    refine (eqSpotS_g rH rS _ _ _ _ h_rH_14.spots h_rS_14 (by omega)).mono ?_
    rintro e w15 ⟨rfl, hb14⟩
    have hz14 := hb14.size
    have hW15 := up_trans hW14 hb14
    have h_rI_12 := h_rI_11.up hb11
    have h_rI_13 := h_rI_12.up hb12
    have h_rI_14 := h_rI_13.up hb13
    have h_rI_15 := h_rI_14.up hb14
    go_wp2_with fail
    refine (heldSpotS_g rI _ 1 _ h_rI_15.spots (by omega) (by omega) (by omega)).mono ?_
    rintro e w16 ⟨rfl, hb15⟩
    have hz15 := hb15.size
    have hW16 := up_trans hW15 hb15
    go_wp2_with fail
    go_ret
    exact Ans.bool rfl hW16
  · have HZ := szV_neg (left := 1048576) (n := n) (by omega)
    go_enter Try.func6, Try.ntmps6
    go_wp2_with ((go_at_call 15; refine (szSpotS_g _ _ _ _ _ _ (by first | exact Spots.up (by with_reducible assumption) (by (repeat (first | with_reducible exact Below.refl _ _ | with_reducible assumption | with_reducible refine up_alloc ?_ _ | with_reducible refine up_drew ?_ | with_reducible refine up_drewN ?_ _ | (with_reducible refine up_set ?_ ?hset _; case hset => first | (simp; done) | (simp; omega) | omega) | with_reducible refine up_trans ?_ (by with_reducible assumption)))) | exact OwnS.spots (OwnS.up (by with_reducible assumption) (by (repeat (first | with_reducible exact Below.refl _ _ | with_reducible assumption | with_reducible refine up_alloc ?_ _ | with_reducible refine up_drew ?_ | with_reducible refine up_drewN ?_ _ | (with_reducible refine up_set ?_ ?hset _; case hset => first | (simp; done) | (simp; omega) | omega) | with_reducible refine up_trans ?_ (by with_reducible assumption)))))) (by omega) (by omega) (by omega)).mono ?_; rintro e w1 ⟨rfl, hb⟩))
    go_ret
    exact Ans.bool rfl (by (repeat (first | with_reducible exact Below.refl _ _ | with_reducible assumption | with_reducible refine up_alloc ?_ _ | with_reducible refine up_drew ?_ | with_reducible refine up_drewN ?_ _ | (with_reducible refine up_set ?_ ?hset _; case hset => first | (simp; done) | (simp; omega) | omega) | with_reducible refine up_trans ?_ (by with_reducible assumption))))

set_option maxRecDepth 100000 in
theorem fnExactTurnForm_law : LawWalk Try.prog 6 Try.f6 := by
  intro H enc W base args ds ps hval hA
  rw [Try.params6] at hval hA
  obtain ⟨v0, v1, d0, d1, p0, p1, rfl, rfl, rfl, h0, h1⟩ := trodAll_two hA
  obtain ⟨n, X, Y, hs, hn⟩ := open_spots (hval 0 _ v0 rfl rfl) h0
  obtain ⟨a, rfl, _⟩ := open_int Try.underlying3 (hval 1 _ v1 rfl rfl) h1
  exact fnExactTurnForm_walk v0 n X Y a hn W hs

set_option maxRecDepth 100000 in
theorem fnExactTurnForm_holds : Rows.FnExactTurnFormSaid :=
  OpenClaim.holds_of_wide 6 Try.f6 rfl rfl rfl rfl rfl rfl rfl ⟨rfl, rfl, rfl, rfl, rfl⟩ rfl rfl rfl rfl rfl (by kernel_rfl) Try.func6 (by kernel_rfl)
    (of_decide_eq_true (by kernel_rfl)) (by unfold Func.isWrapper; first | (rw [if_pos (by decide +kernel)]; kernel_rfl) | (rw [if_neg (by decide +kernel)]; exact ⟨rfl, rfl⟩))
    (fun os started H enc _ => lifted_of (C := Try.checked) (s := Rows.fnExactTurnFormSpec) (tb := 4) (by kernel_rfl) (by kernel_rfl) (by kernel_rfl) (by kernel_rfl) Try.func6 rfl Try.underlying4 rfl
      (fun H ds h => by
        have h2 : ds.length = 2 := by rw [Try.params6] at h; exact h
        match ds, h2 with
        | [_, _], _ => rfl)
      fnExactTurnForm_law os started H enc
      (ChangeSpec.witness6 (enc := enc) (C := Try.checked) false ⟨#[], #[.slice none 0 0, .int .i64 0], []⟩ 8 (by kernel_rfl) (by kernel_rfl) (by kernel_rfl) (by kernel_rfl)))

#print axioms fnExactTurnForm_holds
end Go.Proofs.Ytccipfpbaeoggaa
