/-
  MoveChart on both sides, and the law.
-/
import Derived.Test.YtljbcfgecbonnaaRows
import Derived.Test.YtljbcfgecbonnaaBase
import Derived.Test.YtljbcfgecbonnaaSpot
import Derived.Test.YtljbcfgecbonnaaSlice
import Derived.Test.YtljbcfgecbonnaaChart
import Derived.Test.YtljbcfgecbonnaaAppend
import Derived.Test.YtljbcfgecbonnaaAppendE
import Derived.Test.YtljbcfgecbonnaaForm
import Derived.Test.YtljbcfgecbonnaaLawS
import Derived.Test.YtljbcfgecbonnaaMark
import Derived.Test.YtljbcfgecbonnaaOpen
import Derived.Test.YtljbcfgecbonnaaTrod
namespace Go.Proofs.Ytljbcfgecbonnaa
open Go.RowKit Go.Sort Go.ChangeShapes Go.WideShapes

def dB (dx dy : Int) : Bool := inB dx (-2000) 2000 && inB dy (-2000) 2000
def msB (x y dx dy : Int) : Bool := (spotB x y && dB dx dy) && spotB (x + dx) (y + dy)
def msV (x y dx dy : Int) : Value := if msB x y dx dy then .tuple #[.agg #[.int .i64 (x + dx), .int .i64 (y + dy)], .bool true] else .tuple #[.agg #[.int .i64 0, .int .i64 0], .bool false]
set_option maxHeartbeats 2000000 in
theorem moveSpot_any (x y dx dy : Int) (w : World) :
    Calls Try.prog 109 #[.agg #[.int .i64 x, .int .i64 y], .int .i64 dx, .int .i64 dy] w (Ans w (msV x y dx dy)) := by
  cases hv : (spotB x y && dB dx dy) with
  | false =>
    rw [show msV x y dx dy = .tuple #[.agg #[.int .i64 0, .int .i64 0], .bool false] by simp [msV, msB, hv]]
    unfold dB at hv
    go_enter Try.func109, Try.ntmps109
    go_wp2_with fail
    refine (isSpot_any _ _ _).mono ?_
    rintro e w1 ⟨rfl, hb0⟩
    have r0 : w1.cell? ⟨w.heap.size + 1, 0, none⟩ = some (.int .i64 0) := up_keep hb0 (by simp [go_sem])
    have r1 : w1.cell? ⟨w.heap.size + 1, 1, none⟩ = some (.int .i64 0) := up_keep hb0 (by simp [go_sem])
    obtain ⟨hc0, hf0⟩ := bcell hb0
    have hz0 := hb0.size
    simp at hz0
    have hz1 : w.heap.size < w1.heap.size := (by omega)
    have hz2 : w.heap.size + 1 < w1.heap.size := (by omega)
    go_wp2_with (go_at_call 89; refine (within_any _ _ _ _).mono ?_; rintro e w1 ⟨rfl, rfl⟩)
    all_goals first
      | (exfalso; simp_all; done)
      | (refine bodyPost_ret (v := .tuple #[.agg #[.int .i64 0, .int .i64 0], .bool false]) (by simp [results, Try.results109, go_sem, r0, r1]) rfl ?_
         exact ⟨rfl, by (repeat (first | with_reducible exact Below.refl _ _ | with_reducible assumption | with_reducible refine up_alloc ?_ _ | with_reducible refine up_drew ?_ | with_reducible refine up_drewN ?_ _ | (with_reducible refine up_set ?_ ?hset _; case hset => first | (simp; done) | (simp; omega) | omega) | with_reducible refine up_trans ?_ (by with_reducible assumption)))⟩)
  | true =>
    simp only [dB, Bool.and_eq_true] at hv
    obtain ⟨v1, v2, v3⟩ := hv
    have v1' := spotB_iff.1 v1
    have v2' := inB_iff.1 v2
    have v3' := inB_iff.1 v3
    obtain ⟨⟨a1, a2⟩, a3, a4⟩ := v1'
    obtain ⟨b1, b2⟩ := v2'
    obtain ⟨c1, c2⟩ := v3'
    cases hs : spotB (x + dx) (y + dy) with
    | false =>
      rw [show msV x y dx dy = .tuple #[.agg #[.int .i64 0, .int .i64 0], .bool false] by simp [msV, msB, hs]]
      go_enter Try.func109, Try.ntmps109
      go_wp2_with fail
      refine (isSpot_any _ _ _).mono ?_
      rintro e w1 ⟨rfl, hb0⟩
      have r0 : w1.cell? ⟨w.heap.size + 1, 0, none⟩ = some (.int .i64 0) := up_keep hb0 (by simp [go_sem])
      have r1 : w1.cell? ⟨w.heap.size + 1, 1, none⟩ = some (.int .i64 0) := up_keep hb0 (by simp [go_sem])
      obtain ⟨hc0, hf0⟩ := bcell hb0
      have hz0 := hb0.size
      simp at hz0
      have hz1 : w.heap.size < w1.heap.size := (by omega)
      have hz2 : w.heap.size + 1 < w1.heap.size := (by omega)
      go_wp2_with (go_at_call 89; refine (within_any _ _ _ _).mono ?_; rintro e w1 ⟨rfl, rfl⟩)
      refine (isSpot_any _ _ _).mono ?_
      rintro e w2 ⟨rfl, hb1⟩
      have r2 : w2.cell? ⟨w.heap.size + 1, 0, none⟩ = some (.int .i64 0) := up_keep hb1 (up_keep (below_alloc _ _) r0)
      have r3 : w2.cell? ⟨w.heap.size + 1, 1, none⟩ = some (.int .i64 0) := up_keep hb1 (up_keep (below_alloc _ _) r1)
      obtain ⟨hc1, hf1⟩ := bcell hb1
      have hz3 := hb1.size
      simp at hz3
      have hz4 : w.heap.size < w2.heap.size := (by omega)
      have hz5 : w.heap.size + 1 < w2.heap.size := (by omega)
      go_wp2_with fail
      refine bodyPost_ret (v := .tuple #[.agg #[.int .i64 0, .int .i64 0], .bool false]) (by simp [results, Try.results109, go_sem, r2, r3]) rfl ?_
      exact ⟨rfl, by (repeat (first | with_reducible exact Below.refl _ _ | with_reducible assumption | with_reducible refine up_alloc ?_ _ | with_reducible refine up_drew ?_ | with_reducible refine up_drewN ?_ _ | (with_reducible refine up_set ?_ ?hset _; case hset => first | (simp; done) | (simp; omega) | omega) | with_reducible refine up_trans ?_ (by with_reducible assumption)))⟩
    | true =>
      rw [show msV x y dx dy = .tuple #[.agg #[.int .i64 (x + dx), .int .i64 (y + dy)], .bool true] by simp [msV, msB, dB, *]]
      go_enter Try.func109, Try.ntmps109
      go_wp2_with fail
      refine (isSpot_any _ _ _).mono ?_
      rintro e w1 ⟨rfl, hb0⟩
      have r0 : w1.cell? ⟨w.heap.size + 1, 0, none⟩ = some (.int .i64 0) := up_keep hb0 (by simp [go_sem])
      have r1 : w1.cell? ⟨w.heap.size + 1, 1, none⟩ = some (.int .i64 0) := up_keep hb0 (by simp [go_sem])
      obtain ⟨hc0, hf0⟩ := bcell hb0
      have hz0 := hb0.size
      simp at hz0
      have hz1 : w.heap.size < w1.heap.size := (by omega)
      have hz2 : w.heap.size + 1 < w1.heap.size := (by omega)
      go_wp2_with (go_at_call 89; refine (within_any _ _ _ _).mono ?_; rintro e w1 ⟨rfl, rfl⟩)
      refine (isSpot_any _ _ _).mono ?_
      rintro e w2 ⟨rfl, hb1⟩
      have r2 : w2.cell? ⟨w.heap.size + 1, 0, none⟩ = some (.int .i64 0) := up_keep hb1 (up_keep (below_alloc _ _) r0)
      have r3 : w2.cell? ⟨w.heap.size + 1, 1, none⟩ = some (.int .i64 0) := up_keep hb1 (up_keep (below_alloc _ _) r1)
      obtain ⟨hc1, hf1⟩ := bcell hb1
      have hz3 := hb1.size
      simp at hz3
      have hz4 : w.heap.size < w2.heap.size := (by omega)
      have hz5 : w.heap.size + 1 < w2.heap.size := (by omega)
      go_wp2_with fail
      refine bodyPost_ret (v := .tuple #[.agg #[.int .i64 (x + dx), .int .i64 (y + dy)], .bool true]) (by simp [results, Try.results109, go_sem, r2, r3]) rfl ?_
      exact ⟨rfl, by (repeat (first | with_reducible exact Below.refl _ _ | with_reducible assumption | with_reducible refine up_alloc ?_ _ | with_reducible refine up_drew ?_ | with_reducible refine up_drewN ?_ _ | (with_reducible refine up_set ?_ ?hset _; case hset => first | (simp; done) | (simp; omega) | omega) | with_reducible refine up_trans ?_ (by with_reducible assumption)))⟩
theorem moveSpot_yes {x y dx dy : Int} (h : msB x y dx dy = true) (w : World) : Calls Try.prog 109 #[.agg #[.int .i64 x, .int .i64 y], .int .i64 dx, .int .i64 dy] w (Ans w (.tuple #[.agg #[.int .i64 (x + dx), .int .i64 (y + dy)], .bool true])) := by
  have := moveSpot_any x y dx dy w
  rw [show msV x y dx dy = .tuple #[.agg #[.int .i64 (x + dx), .int .i64 (y + dy)], .bool true] by simp [msV, h]] at this
  exact this
theorem moveSpot_no {x y dx dy : Int} (h : msB x y dx dy = false) (w : World) : Calls Try.prog 109 #[.agg #[.int .i64 x, .int .i64 y], .int .i64 dx, .int .i64 dy] w (Ans w (.tuple #[.agg #[.int .i64 0, .int .i64 0], .bool false])) := by
  have := moveSpot_any x y dx dy w
  rw [show msV x y dx dy = .tuple #[.agg #[.int .i64 0, .int .i64 0], .bool false] by simp [msV, h]] at this
  exact this
/-- The moved chart. -/
def mcB (n : Nat) (X Y : Nat → Int) (dx dy : Int) : Bool := (chartB n X Y && dB dx dy) && chartB n (fun i => X i + dx) (fun i => Y i + dy)
theorem mc_no {n : Nat} {X Y : Nat → Int} {dx dy : Int} {k : Nat} (hk : k < n) (h : msB (X k) (Y k) dx dy = false) : mcB n X Y dx dy = false := by
  cases hm : mcB n X Y dx dy with
  | false => rfl
  | true =>
    simp only [mcB, Bool.and_eq_true] at hm
    have h1 := (chartB_iff.1 hm.1.1).2.1 k hk
    have h2 := (chartB_iff.1 hm.2).2.1 k hk
    simp [msB, h1, h2, hm.1.2] at h
theorem mc_yes {n : Nat} {X Y : Nat → Int} {dx dy : Int} (hc : chartB n X Y = true) (h : ∀ k, k < n → msB (X k) (Y k) dx dy = true) : mcB n X Y dx dy = true := by
  have hc' := chartB_iff.1 hc
  have h0 := h 0 (by omega)
  simp only [msB, Bool.and_eq_true] at h0
  have : chartB n (fun i => X i + dx) (fun i => Y i + dy) = true := by
    refine chartB_iff.2 ⟨hc'.1, fun k hk => ?_, ?_⟩
    · have := h k hk
      simp only [msB, Bool.and_eq_true] at this
      exact this.2
    · intro i j hi hj he
      exact hc'.2.2 i j hi hj (by omega)
  simp [mcB, hc, h0.1.2, this]
set_option maxHeartbeats 2000000 in
theorem iMoveC_any (v : Value) (n : Nat) (X Y : Nat → Int) (dx dy : Int) (w : World) (h : Spots w v n X Y) (hn : n ≤ 1048576) :
    Calls Try.prog 35 #[v, .int .i64 dx, .int .i64 dy] w (AnsSB w (sel (mcB n X Y dx dy) n) (fun i => X i + dx) (fun i => Y i + dy) (mcB n X Y dx dy)) := by
  obtain ⟨A, c, hv, hnc, hrow⟩ := h
  have HV : Spots w v n X Y := ⟨A, c, hv, hnc, hrow⟩
  subst hv
  cases hc : chartB n X Y with
  | false =>
    rw [show mcB n X Y dx dy = false by simp [mcB, hc]]
    clear hrow
    go_enter Try.func35, Try.ntmps35
    go_wp2_with ((go_at_call 13; refine (isChart_g _ _ _ _ _ (by first | exact Spots.up (by with_reducible assumption) (by (repeat (first | with_reducible exact Below.refl _ _ | with_reducible assumption | with_reducible refine up_alloc ?_ _ | with_reducible refine up_drew ?_ | with_reducible refine up_drewN ?_ _ | (with_reducible refine up_set ?_ ?hset _; case hset => first | (simp; done) | (simp; omega) | omega) | with_reducible refine up_trans ?_ (by with_reducible assumption)))) | exact OwnS.spots (OwnS.up (by with_reducible assumption) (by (repeat (first | with_reducible exact Below.refl _ _ | with_reducible assumption | with_reducible refine up_alloc ?_ _ | with_reducible refine up_drew ?_ | with_reducible refine up_drewN ?_ _ | (with_reducible refine up_set ?_ ?hset _; case hset => first | (simp; done) | (simp; omega) | omega) | with_reducible refine up_trans ?_ (by with_reducible assumption)))))) (by omega)).mono ?_; rintro e w1 ⟨rfl, hb⟩))
    go_ret2
    exact AnsSB.nil (by (repeat (first | with_reducible exact Below.refl _ _ | with_reducible assumption | with_reducible refine up_alloc ?_ _ | with_reducible refine up_drew ?_ | with_reducible refine up_drewN ?_ _ | (with_reducible refine up_set ?_ ?hset _; case hset => first | (simp; done) | (simp; omega) | omega) | with_reducible refine up_trans ?_ (by with_reducible assumption))))
  | true =>
    go_enter Try.func35, Try.ntmps35
    go_wp2_with ((go_at_call 13; refine (isChart_g _ _ _ _ _ (by first | exact Spots.up (by with_reducible assumption) (by (repeat (first | with_reducible exact Below.refl _ _ | with_reducible assumption | with_reducible refine up_alloc ?_ _ | with_reducible refine up_drew ?_ | with_reducible refine up_drewN ?_ _ | (with_reducible refine up_set ?_ ?hset _; case hset => first | (simp; done) | (simp; omega) | omega) | with_reducible refine up_trans ?_ (by with_reducible assumption)))) | exact OwnS.spots (OwnS.up (by with_reducible assumption) (by (repeat (first | with_reducible exact Below.refl _ _ | with_reducible assumption | with_reducible refine up_alloc ?_ _ | with_reducible refine up_drew ?_ | with_reducible refine up_drewN ?_ _ | (with_reducible refine up_set ?_ ?hset _; case hset => first | (simp; done) | (simp; omega) | omega) | with_reducible refine up_trans ?_ (by with_reducible assumption)))))) (by omega)).mono ?_; rintro e w1 ⟨rfl, hb⟩))
    have hb1 : Below w.heap.size w w1 := by (repeat (first | with_reducible exact Below.refl _ _ | with_reducible assumption | with_reducible refine up_alloc ?_ _ | with_reducible refine up_drew ?_ | with_reducible refine up_drewN ?_ _ | (with_reducible refine up_set ?_ ?hset _; case hset => first | (simp; done) | (simp; omega) | omega) | with_reducible refine up_trans ?_ (by with_reducible assumption)))
    clear HV
    go_loopw [8, 19] (fun v i wr => ∃ k : Nat, k ≤ n ∧ i = .int .i64 k ∧ (∀ j, j < k → msB (X j) (Y j) dx dy = true) ∧ OwnR w.heap.size wr v k (fun i => X i + dx) (fun i => Y i + dy) ∧ Below w.heap.size w wr) (fun _ i _ => n - (intOf i).toNat)
    case atStart => exact ⟨0, by omega, rfl, fun j hj => absurd hj (by omega), OwnR.empty hb1.size _ _, up_alloc hb1 _⟩
    case round =>
      obtain ⟨k, hk, rfl, hall, how, hbr⟩ := hrel
      by_cases hlt : k < n
      · obtain ⟨b, o, rfl, hr⟩ := hrow (by omega)
        have q1 := up_keep hbr (hr k hlt).1
        have q2 := up_keep hbr (hr k hlt).2
        cases hm : msB (X k) (Y k) dx dy with
        | false =>
          have HN := Lib.hid (mc_no hlt hm)
          have HM := Lib.hid (fun W => moveSpot_no hm W)
          clear hr hrow hc hb hb1 hall hm
          go_wp2_with ((go_at_call 109; refine (HM.out _).mono ?_; rintro e w1 ⟨rfl, hb⟩))
          go_ret2
          rw [HN.out]
          exact AnsSB.nil (by (repeat (first | with_reducible exact Below.refl _ _ | with_reducible assumption | with_reducible refine up_alloc ?_ _ | with_reducible refine up_drew ?_ | with_reducible refine up_drewN ?_ _ | (with_reducible refine up_set ?_ ?hset _; case hset => first | (simp; done) | (simp; omega) | omega) | with_reducible refine up_trans ?_ (by with_reducible assumption))))
        | true =>
          have HM := Lib.hid (fun W => moveSpot_yes hm W)
          have HA := Lib.hid (show ∀ j, j < k + 1 → msB (X j) (Y j) dx dy = true from fun j hj => by
            by_cases e : j = k
            · rw [e]; exact hm
            · exact hall j (by omega))
          clear hr hrow hc hb hb1 hall hm
          go_wp2_with (first
            | (go_at_call 109; refine (HM.out _).mono ?_; rintro e w1 ⟨rfl, hb⟩)
            | (at_builtin; refine wpList_app_spot_e rfl (.tmp 32) (.tmp 34) rfl w.heap.size _ (k) (fun i => X i + dx) (fun i => Y i + dy) rfl rfl (by simp) (OwnR.up how (by (repeat (first | with_reducible exact Below.refl _ _ | with_reducible assumption | with_reducible refine up_alloc ?_ _ | with_reducible refine up_drew ?_ | with_reducible refine up_drewN ?_ _ | (with_reducible refine up_set ?_ ?hset _; case hset => first | (simp; done) | (simp; omega) | omega) | with_reducible refine up_trans ?_ (by with_reducible assumption))))) (show Below w.heap.size w _ from (by (repeat (first | with_reducible exact Below.refl _ _ | with_reducible assumption | with_reducible refine up_alloc ?_ _ | with_reducible refine up_drew ?_ | with_reducible refine up_drewN ?_ _ | (with_reducible refine up_set ?_ ?hset _; case hset => first | (simp; done) | (simp; omega) | omega) | with_reducible refine up_trans ?_ (by with_reducible assumption))))).size (by omega) (by with_reducible rfl) (by with_reducible rfl) ?_; intro v2 w2 ho2 hb2; replace hb2 := (show Below w.heap.size w _ from (by (repeat (first | with_reducible exact Below.refl _ _ | with_reducible assumption | with_reducible refine up_alloc ?_ _ | with_reducible refine up_drew ?_ | with_reducible refine up_drewN ?_ _ | (with_reducible refine up_set ?_ ?hset _; case hset => first | (simp; done) | (simp; omega) | omega) | with_reducible refine up_trans ?_ (by with_reducible assumption))))).trans hb2))
          go_roundw
          case rel => exact ⟨k + 1, by omega, by go_num, HA.out, ho2, hb2⟩
          case measure => simp [intOf]; omega
      · have e : k = n := by omega
        subst e
        have hq := mc_yes hc hall
        go_wp2_with fail
        go_ret2
        rw [hq]
        exact ⟨_, rfl, how.ownS, hbr⟩
set_option maxHeartbeats 2000000 in
theorem sMoveC_any (v : Value) (n : Nat) (X Y : Nat → Int) (dx dy : Int) (w : World) (h : Spots w v n X Y) (hn : n ≤ 1048576) :
    Calls Try.prog 36 #[v, .int .i64 dx, .int .i64 dy] w (AnsSB w (sel (mcB n X Y dx dy) n) (fun i => X i + dx) (fun i => Y i + dy) (mcB n X Y dx dy)) := by
  cases hc : chartB n X Y with
  | false =>
    rw [show mcB n X Y dx dy = false by simp [mcB, hc]]
    go_enter Try.func36, Try.ntmps36
    go_wp2_with ((go_at_call 86; refine (chGood_g _ _ _ _ _ (by first | exact Spots.up (by with_reducible assumption) (by (repeat (first | with_reducible exact Below.refl _ _ | with_reducible assumption | with_reducible refine up_alloc ?_ _ | with_reducible refine up_drew ?_ | with_reducible refine up_drewN ?_ _ | (with_reducible refine up_set ?_ ?hset _; case hset => first | (simp; done) | (simp; omega) | omega) | with_reducible refine up_trans ?_ (by with_reducible assumption)))) | exact OwnS.spots (OwnS.up (by with_reducible assumption) (by (repeat (first | with_reducible exact Below.refl _ _ | with_reducible assumption | with_reducible refine up_alloc ?_ _ | with_reducible refine up_drew ?_ | with_reducible refine up_drewN ?_ _ | (with_reducible refine up_set ?_ ?hset _; case hset => first | (simp; done) | (simp; omega) | omega) | with_reducible refine up_trans ?_ (by with_reducible assumption)))))) (by omega)).mono ?_; rintro e w1 ⟨rfl, hb⟩))
    go_ret2
    exact AnsSB.nil (by (repeat (first | with_reducible exact Below.refl _ _ | with_reducible assumption | with_reducible refine up_alloc ?_ _ | with_reducible refine up_drew ?_ | with_reducible refine up_drewN ?_ _ | (with_reducible refine up_set ?_ ?hset _; case hset => first | (simp; done) | (simp; omega) | omega) | with_reducible refine up_trans ?_ (by with_reducible assumption))))
  | true =>
    cases hd : dB dx dy with
    | false =>
      rw [show mcB n X Y dx dy = false by simp [mcB, hd]]
      unfold dB at hd
      go_enter Try.func36, Try.ntmps36
      go_wp2_with (first | (go_at_call 86; refine (chGood_g _ _ _ _ _ (by first | exact Spots.up (by with_reducible assumption) (by (repeat (first | with_reducible exact Below.refl _ _ | with_reducible assumption | with_reducible refine up_alloc ?_ _ | with_reducible refine up_drew ?_ | with_reducible refine up_drewN ?_ _ | (with_reducible refine up_set ?_ ?hset _; case hset => first | (simp; done) | (simp; omega) | omega) | with_reducible refine up_trans ?_ (by with_reducible assumption)))) | exact OwnS.spots (OwnS.up (by with_reducible assumption) (by (repeat (first | with_reducible exact Below.refl _ _ | with_reducible assumption | with_reducible refine up_alloc ?_ _ | with_reducible refine up_drew ?_ | with_reducible refine up_drewN ?_ _ | (with_reducible refine up_set ?_ ?hset _; case hset => first | (simp; done) | (simp; omega) | omega) | with_reducible refine up_trans ?_ (by with_reducible assumption)))))) (by omega)).mono ?_; rintro e w1 ⟨rfl, hb⟩) | (go_at_call 101; refine (l1In_any _ _ _ _).mono ?_; rintro e w1 ⟨rfl, rfl⟩))
      all_goals first
        | (exfalso; simp_all; done)
        | (go_ret2; exact AnsSB.nil (by (repeat (first | with_reducible exact Below.refl _ _ | with_reducible assumption | with_reducible refine up_alloc ?_ _ | with_reducible refine up_drew ?_ | with_reducible refine up_drewN ?_ _ | (with_reducible refine up_set ?_ ?hset _; case hset => first | (simp; done) | (simp; omega) | omega) | with_reducible refine up_trans ?_ (by with_reducible assumption)))))
    | true =>
      rw [show mcB n X Y dx dy = chartB n (fun i => X i + dx) (fun i => Y i + dy) by simp [mcB, hc, hd]]
      simp only [dB, Bool.and_eq_true] at hd
      obtain ⟨v2, v3⟩ := hd
      have v2' := inB_iff.1 v2
      have v3' := inB_iff.1 v3
      obtain ⟨b1, b2⟩ := v2'
      obtain ⟨c1, c2⟩ := v3'
      have HC := Lib.hid (chartB_iff.1 hc)
      have hn1 := HC.out.1
      obtain ⟨hn1, hn12⟩ := hn1
      go_enter Try.func36, Try.ntmps36
      go_wp2_with fail
      refine (chGood_g v n X Y _ h (by omega)).mono ?_
      rintro e w1 ⟨rfl, hb0⟩
      have hsp := h.up hb0
      have hz0 := hb0.size
      clear h
      go_wp2_with (go_at_call 101; refine (l1In_any _ _ _ _).mono ?_; rintro e w1 ⟨rfl, rfl⟩)
      refine (chOwn_g v n X Y _ hsp (by omega)).mono ?_
      rintro e w2 ⟨v1, rfl, ho, hb1⟩
      have hb2 := up_trans hb0 hb1
      obtain ⟨A, cp, rfl, hcp, hcr⟩ := ho.ownS
      obtain ⟨b, o, rfl, hbb, hf, hr⟩ := hcr (by omega)
      have hlt0 := hr.lt (by omega)
      have HR := Lib.hid hr
      have HF := Lib.hid hf
      have hbw : w.heap.size ≤ b := by omega
      clear hr hf hcr ho hsp
      go_wp2_with fail
      go_loopw [27] (fun i wr => ∃ k : Nat, k ≤ n ∧ i = .int .i64 k ∧ Below w.heap.size w wr ∧ b < wr.heap.size ∧ Free wr b ∧ ∃ X' Y', Row2 wr b o n X' Y' ∧ (∀ i : Nat, i < k → X' i = X i + dx) ∧ (∀ i : Nat, i < k → Y' i = Y i + dy) ∧ (∀ i : Nat, k ≤ i → X' i = X i) ∧ (∀ i : Nat, k ≤ i → Y' i = Y i)) (fun i _ => n - (intOf i).toNat)
      case atStart => exact ⟨0, by omega, rfl, hb2, hlt0, HF.out, _, _, HR.out, fun i hi => by omega, fun i hi => by omega, fun i hi => rfl, fun i hi => rfl⟩
      case round =>
        clear hb0 hb1 hb2
        obtain ⟨k, hk, rfl, hb, hs, hf, X', Y', hr, hx, hy, hx2, hy2⟩ := hrel
        by_cases hlt : k < n
        · obtain ⟨d1, d2⟩ := hr k hlt
          rw [hx2 k (Nat.le_refl _)] at d1
          rw [hy2 k (Nat.le_refl _)] at d2
          have f1 := hf (o + k * 2)
          have f2 := hf (o + k * 2 + 1)
          have hspk := spotB_iff.1 (HC.out.2.1 k hlt)
          obtain ⟨⟨s1, s2⟩, s3, s4⟩ := hspk
          have HR := Lib.hid hr
          have HX := Lib.hid hx
          have HY := Lib.hid hy
          have HX2 := Lib.hid hx2
          have HY2 := Lib.hid hy2
          have HF := Lib.hid hf
          clear hr hx hy hf hx2 hy2
          go_wp2_with fail
          go_roundw
          case rel =>
            refine ⟨k + 1, by omega, by go_num, by (repeat (first | with_reducible exact Below.refl _ _ | with_reducible assumption | with_reducible refine up_alloc ?_ _ | with_reducible refine up_drew ?_ | with_reducible refine up_drewN ?_ _ | (with_reducible refine up_set ?_ ?hset _; case hset => first | (simp; done) | (simp; omega) | omega) | with_reducible refine up_trans ?_ (by with_reducible assumption))), by rw [size_set, size_set]; exact hs, (HF.out.set _ _).set _ _, _, _, HR.out.put hlt _ _, fun i hi => ?_, fun i hi => ?_, fun i hi => ?_, fun i hi => ?_⟩
            · split
              · rename_i e; rw [e]
              · exact HX.out i (by omega)
            · split
              · rename_i e; rw [e]
              · exact HY.out i (by omega)
            · rw [if_neg (by omega)]; exact HX2.out i (by omega)
            · rw [if_neg (by omega)]; exact HY2.out i (by omega)
          case measure => simp [intOf]; omega
        · have e : k = n := by omega
          subst e
          have how : OwnS w.heap.size wr (.slice (some ⟨b, o, none⟩) k cp) k (fun i => X i + dx) (fun i => Y i + dy) := ⟨_, _, rfl, hcp, fun _ => ⟨_, _, rfl, hbw, hf, hr.cong hx hy⟩⟩
          clear hr hf hx hy hx2 hy2
          go_wp2_with (go_at_call 87; refine (chIf_g _ _ _ _ _ how.spots (by omega)).mono ?_; rintro e wq ⟨rfl, hbq⟩)
          go_ret2
          exact AnsSB.sel (how.up hbq) (up_trans hb hbq)
end Go.Proofs.Ytljbcfgecbonnaa
