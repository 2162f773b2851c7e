/-
  MoveChart on both sides, and the law.
-/
import Derived.Test.YthpflpjhohmboaaRows
import Derived.Test.YthpflpjhohmboaaBase
import Derived.Test.YthpflpjhohmboaaSpot
import Derived.Test.YthpflpjhohmboaaSlice
import Derived.Test.YthpflpjhohmboaaChart
import Derived.Test.YthpflpjhohmboaaAppend
import Derived.Test.YthpflpjhohmboaaAppendE
import Derived.Test.YthpflpjhohmboaaForm
import Derived.Test.YthpflpjhohmboaaLawS
import Derived.Test.YthpflpjhohmboaaMark
import Derived.Test.YthpflpjhohmboaaOpen
import Derived.Test.YthpflpjhohmboaaTrod
namespace Go.Proofs.Ythpflpjhohmboaa
open Go.RowKit Go.Sort Go.ChangeShapes Go.WideShapes

def dB (dx dy : Int) : Bool := inB dx (-2000) 2000 && inB dy (-2000) 2000
def msB (x y dx dy : Int) : Bool := (spotB x y && dB dx dy) && spotB (x + dx) (y + dy)
def msV (x y dx dy : Int) : Value := if msB x y dx dy then .tuple #[.agg #[.int .i64 (x + dx), .int .i64 (y + dy)], .bool true] else .tuple #[.agg #[.int .i64 0, .int .i64 0], .bool false]
set_option maxHeartbeats 2000000 in
theorem moveSpot_any (x y dx dy : Int) (w : World) :
    Calls Try.prog 68 #[.agg #[.int .i64 x, .int .i64 y], .int .i64 dx, .int .i64 dy] w (Ans w (msV x y dx dy)) := by
  cases hv : (spotB x y && dB dx dy) with
  | false =>
    rw [show msV x y dx dy = .tuple #[.agg #[.int .i64 0, .int .i64 0], .bool false] by simp [msV, msB, hv]]
    unfold dB at hv
    go_enter Try.func68, Try.ntmps68
    go_wp2_with fail
    refine (isSpot_any _ _ _).mono ?_
    rintro e w1 ⟨rfl, hb0⟩
    have r0 : w1.cell? ⟨w.heap.size + 1, 0, none⟩ = some (.int .i64 0) := up_keep hb0 (by simp [go_sem])
    have r1 : w1.cell? ⟨w.heap.size + 1, 1, none⟩ = some (.int .i64 0) := up_keep hb0 (by simp [go_sem])
    obtain ⟨hc0, hf0⟩ := bcell hb0
    have hz0 := hb0.size
    simp at hz0
    have hz1 : w.heap.size < w1.heap.size := (by omega)
    have hz2 : w.heap.size + 1 < w1.heap.size := (by omega)
    go_wp2_with (go_at_call 56; refine (within_any _ _ _ _).mono ?_; rintro e w1 ⟨rfl, rfl⟩)
    all_goals first
      | (exfalso; simp_all; done)
      | (refine bodyPost_ret (v := .tuple #[.agg #[.int .i64 0, .int .i64 0], .bool false]) (by simp [results, Try.results68, go_sem, r0, r1]) rfl ?_
         exact ⟨rfl, by (repeat (first | with_reducible exact Below.refl _ _ | with_reducible assumption | with_reducible refine up_alloc ?_ _ | with_reducible refine up_drew ?_ | with_reducible refine up_drewN ?_ _ | (with_reducible refine up_set ?_ ?hset _; case hset => first | (simp; done) | (simp; omega) | omega) | with_reducible refine up_trans ?_ (by with_reducible assumption)))⟩)
  | true =>
    simp only [dB, Bool.and_eq_true] at hv
    obtain ⟨v1, v2, v3⟩ := hv
    have v1' := spotB_iff.1 v1
    have v2' := inB_iff.1 v2
    have v3' := inB_iff.1 v3
    obtain ⟨⟨a1, a2⟩, a3, a4⟩ := v1'
    obtain ⟨b1, b2⟩ := v2'
    obtain ⟨c1, c2⟩ := v3'
    cases hs : spotB (x + dx) (y + dy) with
    | false =>
      rw [show msV x y dx dy = .tuple #[.agg #[.int .i64 0, .int .i64 0], .bool false] by simp [msV, msB, hs]]
      go_enter Try.func68, Try.ntmps68
      go_wp2_with fail
      refine (isSpot_any _ _ _).mono ?_
      rintro e w1 ⟨rfl, hb0⟩
      have r0 : w1.cell? ⟨w.heap.size + 1, 0, none⟩ = some (.int .i64 0) := up_keep hb0 (by simp [go_sem])
      have r1 : w1.cell? ⟨w.heap.size + 1, 1, none⟩ = some (.int .i64 0) := up_keep hb0 (by simp [go_sem])
      obtain ⟨hc0, hf0⟩ := bcell hb0
      have hz0 := hb0.size
      simp at hz0
      have hz1 : w.heap.size < w1.heap.size := (by omega)
      have hz2 : w.heap.size + 1 < w1.heap.size := (by omega)
      go_wp2_with (go_at_call 56; refine (within_any _ _ _ _).mono ?_; rintro e w1 ⟨rfl, rfl⟩)
      refine (isSpot_any _ _ _).mono ?_
      rintro e w2 ⟨rfl, hb1⟩
      have r2 : w2.cell? ⟨w.heap.size + 1, 0, none⟩ = some (.int .i64 0) := up_keep hb1 (up_keep (below_alloc _ _) r0)
      have r3 : w2.cell? ⟨w.heap.size + 1, 1, none⟩ = some (.int .i64 0) := up_keep hb1 (up_keep (below_alloc _ _) r1)
      obtain ⟨hc1, hf1⟩ := bcell hb1
      have hz3 := hb1.size
      simp at hz3
      have hz4 : w.heap.size < w2.heap.size := (by omega)
      have hz5 : w.heap.size + 1 < w2.heap.size := (by omega)
      go_wp2_with fail
      refine bodyPost_ret (v := .tuple #[.agg #[.int .i64 0, .int .i64 0], .bool false]) (by simp [results, Try.results68, go_sem, r2, r3]) rfl ?_
      exact ⟨rfl, by (repeat (first | with_reducible exact Below.refl _ _ | with_reducible assumption | with_reducible refine up_alloc ?_ _ | with_reducible refine up_drew ?_ | with_reducible refine up_drewN ?_ _ | (with_reducible refine up_set ?_ ?hset _; case hset => first | (simp; done) | (simp; omega) | omega) | with_reducible refine up_trans ?_ (by with_reducible assumption)))⟩
    | true =>
      rw [show msV x y dx dy = .tuple #[.agg #[.int .i64 (x + dx), .int .i64 (y + dy)], .bool true] by simp [msV, msB, dB, *]]
      go_enter Try.func68, Try.ntmps68
      go_wp2_with fail
      refine (isSpot_any _ _ _).mono ?_
      rintro e w1 ⟨rfl, hb0⟩
      have r0 : w1.cell? ⟨w.heap.size + 1, 0, none⟩ = some (.int .i64 0) := up_keep hb0 (by simp [go_sem])
      have r1 : w1.cell? ⟨w.heap.size + 1, 1, none⟩ = some (.int .i64 0) := up_keep hb0 (by simp [go_sem])
      obtain ⟨hc0, hf0⟩ := bcell hb0
      have hz0 := hb0.size
      simp at hz0
      have hz1 : w.heap.size < w1.heap.size := (by omega)
      have hz2 : w.heap.size + 1 < w1.heap.size := (by omega)
      go_wp2_with (go_at_call 56; refine (within_any _ _ _ _).mono ?_; rintro e w1 ⟨rfl, rfl⟩)
      refine (isSpot_any _ _ _).mono ?_
      rintro e w2 ⟨rfl, hb1⟩
      have r2 : w2.cell? ⟨w.heap.size + 1, 0, none⟩ = some (.int .i64 0) := up_keep hb1 (up_keep (below_alloc _ _) r0)
      have r3 : w2.cell? ⟨w.heap.size + 1, 1, none⟩ = some (.int .i64 0) := up_keep hb1 (up_keep (below_alloc _ _) r1)
      obtain ⟨hc1, hf1⟩ := bcell hb1
      have hz3 := hb1.size
      simp at hz3
      have hz4 : w.heap.size < w2.heap.size := (by omega)
      have hz5 : w.heap.size + 1 < w2.heap.size := (by omega)
      go_wp2_with fail
      refine bodyPost_ret (v := .tuple #[.agg #[.int .i64 (x + dx), .int .i64 (y + dy)], .bool true]) (by simp [results, Try.results68, go_sem, r2, r3]) rfl ?_
      exact ⟨rfl, by (repeat (first | with_reducible exact Below.refl _ _ | with_reducible assumption | with_reducible refine up_alloc ?_ _ | with_reducible refine up_drew ?_ | with_reducible refine up_drewN ?_ _ | (with_reducible refine up_set ?_ ?hset _; case hset => first | (simp; done) | (simp; omega) | omega) | with_reducible refine up_trans ?_ (by with_reducible assumption)))⟩
theorem moveSpot_yes {x y dx dy : Int} (h : msB x y dx dy = true) (w : World) : Calls Try.prog 68 #[.agg #[.int .i64 x, .int .i64 y], .int .i64 dx, .int .i64 dy] w (Ans w (.tuple #[.agg #[.int .i64 (x + dx), .int .i64 (y + dy)], .bool true])) := by
  have := moveSpot_any x y dx dy w
  rw [show msV x y dx dy = .tuple #[.agg #[.int .i64 (x + dx), .int .i64 (y + dy)], .bool true] by simp [msV, h]] at this
  exact this
theorem moveSpot_no {x y dx dy : Int} (h : msB x y dx dy = false) (w : World) : Calls Try.prog 68 #[.agg #[.int .i64 x, .int .i64 y], .int .i64 dx, .int .i64 dy] w (Ans w (.tuple #[.agg #[.int .i64 0, .int .i64 0], .bool false])) := by
  have := moveSpot_any x y dx dy w
  rw [show msV x y dx dy = .tuple #[.agg #[.int .i64 0, .int .i64 0], .bool false] by simp [msV, h]] at this
  exact this
/-- The moved chart. -/
def mcB (n : Nat) (X Y : Nat → Int) (dx dy : Int) : Bool := (chartB n X Y && dB dx dy) && chartB n (fun i => X i + dx) (fun i => Y i + dy)
theorem mc_no {n : Nat} {X Y : Nat → Int} {dx dy : Int} {k : Nat} (hk : k < n) (h : msB (X k) (Y k) dx dy = false) : mcB n X Y dx dy = false := by
  cases hm : mcB n X Y dx dy with
  | false => rfl
  | true =>
    simp only [mcB, Bool.and_eq_true] at hm
    have h1 := (chartB_iff.1 hm.1.1).2.1 k hk
    have h2 := (chartB_iff.1 hm.2).2.1 k hk
    simp [msB, h1, h2, hm.1.2] at h
theorem mc_yes {n : Nat} {X Y : Nat → Int} {dx dy : Int} (hc : chartB n X Y = true) (h : ∀ k, k < n → msB (X k) (Y k) dx dy = true) : mcB n X Y dx dy = true := by
  have hc' := chartB_iff.1 hc
  have h0 := h 0 (by omega)
  simp only [msB, Bool.and_eq_true] at h0
  have : chartB n (fun i => X i + dx) (fun i => Y i + dy) = true := by
    refine chartB_iff.2 ⟨hc'.1, fun k hk => ?_, ?_⟩
    · have := h k hk
      simp only [msB, Bool.and_eq_true] at this
      exact this.2
    · intro i j hi hj he
      exact hc'.2.2 i j hi hj (by omega)
  simp [mcB, hc, h0.1.2, this]
set_option maxHeartbeats 2000000 in
theorem iMoveC_any (v : Value) (n : Nat) (X Y : Nat → Int) (dx dy : Int) (w : World) (h : Spots w v n X Y) (hn : n ≤ 1048576) :
    Calls Try.prog 48 #[v, .int .i64 dx, .int .i64 dy] w (AnsSB w (sel (mcB n X Y dx dy) n) (fun i => X i + dx) (fun i => Y i + dy) (mcB n X Y dx dy)) := by
  obtain ⟨A, c, hv, hnc, hrow⟩ := h
  have HV : Spots w v n X Y := ⟨A, c, hv, hnc, hrow⟩
  subst hv
  cases hc : chartB n X Y with
  | false =>
    rw [show mcB n X Y dx dy = false by simp [mcB, hc]]
    clear hrow
    go_enter Try.func48, Try.ntmps48
    go_wp2_with ((go_at_call 51; refine (isChart_g _ _ _ _ _ (by first | exact Spots.up (by with_reducible assumption) (by (repeat (first | with_reducible exact Below.refl _ _ | with_reducible assumption | with_reducible refine up_alloc ?_ _ | with_reducible refine up_drew ?_ | with_reducible refine up_drewN ?_ _ | (with_reducible refine up_set ?_ ?hset _; case hset => first | (simp; done) | (simp; omega) | omega) | with_reducible refine up_trans ?_ (by with_reducible assumption)))) | exact OwnS.spots (OwnS.up (by with_reducible assumption) (by (repeat (first | with_reducible exact Below.refl _ _ | with_reducible assumption | with_reducible refine up_alloc ?_ _ | with_reducible refine up_drew ?_ | with_reducible refine up_drewN ?_ _ | (with_reducible refine up_set ?_ ?hset _; case hset => first | (simp; done) | (simp; omega) | omega) | with_reducible refine up_trans ?_ (by with_reducible assumption)))))) (by omega)).mono ?_; rintro e w1 ⟨rfl, hb⟩))
    go_ret2
    exact AnsSB.nil (by (repeat (first | with_reducible exact Below.refl _ _ | with_reducible assumption | with_reducible refine up_alloc ?_ _ | with_reducible refine up_drew ?_ | with_reducible refine up_drewN ?_ _ | (with_reducible refine up_set ?_ ?hset _; case hset => first | (simp; done) | (simp; omega) | omega) | with_reducible refine up_trans ?_ (by with_reducible assumption))))
  | true =>
    go_enter Try.func48, Try.ntmps48
    go_wp2_with ((go_at_call 51; refine (isChart_g _ _ _ _ _ (by first | exact Spots.up (by with_reducible assumption) (by (repeat (first | with_reducible exact Below.refl _ _ | with_reducible assumption | with_reducible refine up_alloc ?_ _ | with_reducible refine up_drew ?_ | with_reducible refine up_drewN ?_ _ | (with_reducible refine up_set ?_ ?hset _; case hset => first | (simp; done) | (simp; omega) | omega) | with_reducible refine up_trans ?_ (by with_reducible assumption)))) | exact OwnS.spots (OwnS.up (by with_reducible assumption) (by (repeat (first | with_reducible exact Below.refl _ _ | with_reducible assumption | with_reducible refine up_alloc ?_ _ | with_reducible refine up_drew ?_ | with_reducible refine up_drewN ?_ _ | (with_reducible refine up_set ?_ ?hset _; case hset => first | (simp; done) | (simp; omega) | omega) | with_reducible refine up_trans ?_ (by with_reducible assumption)))))) (by omega)).mono ?_; rintro e w1 ⟨rfl, hb⟩))
    have hb1 : Below w.heap.size w w1 := by (repeat (first | with_reducible exact Below.refl _ _ | with_reducible assumption | with_reducible refine up_alloc ?_ _ | with_reducible refine up_drew ?_ | with_reducible refine up_drewN ?_ _ | (with_reducible refine up_set ?_ ?hset _; case hset => first | (simp; done) | (simp; omega) | omega) | with_reducible refine up_trans ?_ (by with_reducible assumption)))
    clear HV
    go_loopw [8, 19] (fun v i wr => ∃ k : Nat, k ≤ n ∧ i = .int .i64 k ∧ (∀ j, j < k → msB (X j) (Y j) dx dy = true) ∧ OwnR w.heap.size wr v k (fun i => X i + dx) (fun i => Y i + dy) ∧ Below w.heap.size w wr) (fun _ i _ => n - (intOf i).toNat)
    case atStart => exact ⟨0, by omega, rfl, fun j hj => absurd hj (by omega), OwnR.empty hb1.size _ _, up_alloc hb1 _⟩
    case round =>
      obtain ⟨k, hk, rfl, hall, how, hbr⟩ := hrel
      by_cases hlt : k < n
      · obtain ⟨b, o, rfl, hr⟩ := hrow (by omega)
        have q1 := up_keep hbr (hr k hlt).1
        have q2 := up_keep hbr (hr k hlt).2
        cases hm : msB (X k) (Y k) dx dy with
        | false =>
          have HN := Lib.hid (mc_no hlt hm)
          have HM := Lib.hid (fun W => moveSpot_no hm W)
          clear hr hrow hc hb hb1 hall hm
          go_wp2_with ((go_at_call 68; refine (HM.out _).mono ?_; rintro e w1 ⟨rfl, hb⟩))
          go_ret2
          rw [HN.out]
          exact AnsSB.nil (by (repeat (first | with_reducible exact Below.refl _ _ | with_reducible assumption | with_reducible refine up_alloc ?_ _ | with_reducible refine up_drew ?_ | with_reducible refine up_drewN ?_ _ | (with_reducible refine up_set ?_ ?hset _; case hset => first | (simp; done) | (simp; omega) | omega) | with_reducible refine up_trans ?_ (by with_reducible assumption))))
        | true =>
          have HM := Lib.hid (fun W => moveSpot_yes hm W)
          have HA := Lib.hid (show ∀ j, j < k + 1 → msB (X j) (Y j) dx dy = true from fun j hj => by
            by_cases e : j = k
            · rw [e]; exact hm
            · exact hall j (by omega))
          clear hr hrow hc hb hb1 hall hm
          go_wp2_with (first
            | (go_at_call 68; refine (HM.out _).mono ?_; rintro e w1 ⟨rfl, hb⟩)
            | (at_builtin; refine wpList_app_spot_e rfl (.tmp 32) (.tmp 34) rfl w.heap.size _ (k) (fun i => X i + dx) (fun i => Y i + dy) rfl rfl (by simp) (OwnR.up how (by (repeat (first | with_reducible exact Below.refl _ _ | with_reducible assumption | with_reducible refine up_alloc ?_ _ | with_reducible refine up_drew ?_ | with_reducible refine up_drewN ?_ _ | (with_reducible refine up_set ?_ ?hset _; case hset => first | (simp; done) | (simp; omega) | omega) | with_reducible refine up_trans ?_ (by with_reducible assumption))))) (show Below w.heap.size w _ from (by (repeat (first | with_reducible exact Below.refl _ _ | with_reducible assumption | with_reducible refine up_alloc ?_ _ | with_reducible refine up_drew ?_ | with_reducible refine up_drewN ?_ _ | (with_reducible refine up_set ?_ ?hset _; case hset => first | (simp; done) | (simp; omega) | omega) | with_reducible refine up_trans ?_ (by with_reducible assumption))))).size (by omega) (by with_reducible rfl) (by with_reducible rfl) ?_; intro v2 w2 ho2 hb2; replace hb2 := (show Below w.heap.size w _ from (by (repeat (first | with_reducible exact Below.refl _ _ | with_reducible assumption | with_reducible refine up_alloc ?_ _ | with_reducible refine up_drew ?_ | with_reducible refine up_drewN ?_ _ | (with_reducible refine up_set ?_ ?hset _; case hset => first | (simp; done) | (simp; omega) | omega) | with_reducible refine up_trans ?_ (by with_reducible assumption))))).trans hb2))
          go_roundw
          case rel => exact ⟨k + 1, by omega, by go_num, HA.out, ho2, hb2⟩
          case measure => simp [intOf]; omega
      · have e : k = n := by omega
        subst e
        have hq := mc_yes hc hall
        go_wp2_with fail
        go_ret2
        rw [hq]
        exact ⟨_, rfl, how.ownS, hbr⟩
set_option maxHeartbeats 2000000 in
theorem sMoveC_any (v : Value) (n : Nat) (X Y : Nat → Int) (dx dy : Int) (w : World) (h : Spots w v n X Y) (hn : n ≤ 1048576) :
    Calls Try.prog 47 #[v, .int .i64 dx, .int .i64 dy] w (AnsSB w (sel (mcB n X Y dx dy) n) (fun i => X i + dx) (fun i => Y i + dy) (mcB n X Y dx dy)) := by
  cases hc : chartB n X Y with
  | false =>
    rw [show mcB n X Y dx dy = false by simp [mcB, hc]]
    go_enter Try.func47, Try.ntmps47
    go_wp2_with ((go_at_call 49; refine (chGood_g _ _ _ _ _ (by first | exact Spots.up (by with_reducible assumption) (by (repeat (first | with_reducible exact Below.refl _ _ | with_reducible assumption | with_reducible refine up_alloc ?_ _ | with_reducible refine up_drew ?_ | with_reducible refine up_drewN ?_ _ | (with_reducible refine up_set ?_ ?hset _; case hset => first | (simp; done) | (simp; omega) | omega) | with_reducible refine up_trans ?_ (by with_reducible assumption)))) | exact OwnS.spots (OwnS.up (by with_reducible assumption) (by (repeat (first | with_reducible exact Below.refl _ _ | with_reducible assumption | with_reducible refine up_alloc ?_ _ | with_reducible refine up_drew ?_ | with_reducible refine up_drewN ?_ _ | (with_reducible refine up_set ?_ ?hset _; case hset => first | (simp; done) | (simp; omega) | omega) | with_reducible refine up_trans ?_ (by with_reducible assumption)))))) (by omega)).mono ?_; rintro e w1 ⟨rfl, hb⟩))
    go_ret2
    exact AnsSB.nil (by (repeat (first | with_reducible exact Below.refl _ _ | with_reducible assumption | with_reducible refine up_alloc ?_ _ | with_reducible refine up_drew ?_ | with_reducible refine up_drewN ?_ _ | (with_reducible refine up_set ?_ ?hset _; case hset => first | (simp; done) | (simp; omega) | omega) | with_reducible refine up_trans ?_ (by with_reducible assumption))))
  | true =>
    cases hd : dB dx dy with
    | false =>
      rw [show mcB n X Y dx dy = false by simp [mcB, hd]]
      unfold dB at hd
      go_enter Try.func47, Try.ntmps47
      go_wp2_with (first | (go_at_call 49; refine (chGood_g _ _ _ _ _ (by first | exact Spots.up (by with_reducible assumption) (by (repeat (first | with_reducible exact Below.refl _ _ | with_reducible assumption | with_reducible refine up_alloc ?_ _ | with_reducible refine up_drew ?_ | with_reducible refine up_drewN ?_ _ | (with_reducible refine up_set ?_ ?hset _; case hset => first | (simp; done) | (simp; omega) | omega) | with_reducible refine up_trans ?_ (by with_reducible assumption)))) | exact OwnS.spots (OwnS.up (by with_reducible assumption) (by (repeat (first | with_reducible exact Below.refl _ _ | with_reducible assumption | with_reducible refine up_alloc ?_ _ | with_reducible refine up_drew ?_ | with_reducible refine up_drewN ?_ _ | (with_reducible refine up_set ?_ ?hset _; case hset => first | (simp; done) | (simp; omega) | omega) | with_reducible refine up_trans ?_ (by with_reducible assumption)))))) (by omega)).mono ?_; rintro e w1 ⟨rfl, hb⟩) | (go_at_call 60; refine (l1In_any _ _ _ _).mono ?_; rintro e w1 ⟨rfl, rfl⟩))
      all_goals first
        | (exfalso; simp_all; done)
        | (go_ret2; exact AnsSB.nil (by (repeat (first | with_reducible exact Below.refl _ _ | with_reducible assumption | with_reducible refine up_alloc ?_ _ | with_reducible refine up_drew ?_ | with_reducible refine up_drewN ?_ _ | (with_reducible refine up_set ?_ ?hset _; case hset => first | (simp; done) | (simp; omega) | omega) | with_reducible refine up_trans ?_ (by with_reducible assumption)))))
    | true =>
      rw [show mcB n X Y dx dy = chartB n (fun i => X i + dx) (fun i => Y i + dy) by simp [mcB, hc, hd]]
      simp only [dB, Bool.and_eq_true] at hd
      obtain ⟨v2, v3⟩ := hd
      have v2' := inB_iff.1 v2
      have v3' := inB_iff.1 v3
      obtain ⟨b1, b2⟩ := v2'
      obtain ⟨c1, c2⟩ := v3'
      have HC := Lib.hid (chartB_iff.1 hc)
      have hn1 := HC.out.1
      obtain ⟨hn1, hn12⟩ := hn1
      go_enter Try.func47, Try.ntmps47
      go_wp2_with fail
      refine (chGood_g v n X Y _ h (by omega)).mono ?_
      rintro e w1 ⟨rfl, hb0⟩
      have hsp := h.up hb0
      have hz0 := hb0.size
      clear h
      go_wp2_with (go_at_call 60; refine (l1In_any _ _ _ _).mono ?_; rintro e w1 ⟨rfl, rfl⟩)
      refine (chOwn_g v n X Y _ hsp (by omega)).mono ?_
      rintro e w2 ⟨v1, rfl, ho, hb1⟩
      have hb2 := up_trans hb0 hb1
      obtain ⟨A, cp, rfl, hcp, hcr⟩ := ho.ownS
      obtain ⟨b, o, rfl, hbb, hf, hr⟩ := hcr (by omega)
      have hlt0 := hr.lt (by omega)
      have HR := Lib.hid hr
      have HF := Lib.hid hf
      have hbw : w.heap.size ≤ b := by omega
      clear hr hf hcr ho hsp
      go_wp2_with fail
      go_loopw [27] (fun i wr => ∃ k : Nat, k ≤ n ∧ i = .int .i64 k ∧ Below w.heap.size w wr ∧ b < wr.heap.size ∧ Free wr b ∧ ∃ X' Y', Row2 wr b o n X' Y' ∧ (∀ i : Nat, i < k → X' i = X i + dx) ∧ (∀ i : Nat, i < k → Y' i = Y i + dy) ∧ (∀ i : Nat, k ≤ i → X' i = X i) ∧ (∀ i : Nat, k ≤ i → Y' i = Y i)) (fun i _ => n - (intOf i).toNat)
      case atStart => exact ⟨0, by omega, rfl, hb2, hlt0, HF.out, _, _, HR.out, fun i hi => by omega, fun i hi => by omega, fun i hi => rfl, fun i hi => rfl⟩
      case round =>
        clear hb0 hb1 hb2
        obtain ⟨k, hk, rfl, hb, hs, hf, X', Y', hr, hx, hy, hx2, hy2⟩ := hrel
        by_cases hlt : k < n
        · obtain ⟨d1, d2⟩ := hr k hlt
          rw [hx2 k (Nat.le_refl _)] at d1
          rw [hy2 k (Nat.le_refl _)] at d2
          have f1 := hf (o + k * 2)
          have f2 := hf (o + k * 2 + 1)
          have hspk := spotB_iff.1 (HC.out.2.1 k hlt)
          obtain ⟨⟨s1, s2⟩, s3, s4⟩ := hspk
          have HR := Lib.hid hr
          have HX := Lib.hid hx
          have HY := Lib.hid hy
          have HX2 := Lib.hid hx2
          have HY2 := Lib.hid hy2
          have HF := Lib.hid hf
          clear hr hx hy hf hx2 hy2
          go_wp2_with fail
          go_roundw
          case rel =>
            refine ⟨k + 1, by omega, by go_num, by (repeat (first | with_reducible exact Below.refl _ _ | with_reducible assumption | with_reducible refine up_alloc ?_ _ | with_reducible refine up_drew ?_ | with_reducible refine up_drewN ?_ _ | (with_reducible refine up_set ?_ ?hset _; case hset => first | (simp; done) | (simp; omega) | omega) | with_reducible refine up_trans ?_ (by with_reducible assumption))), by rw [size_set, size_set]; exact hs, (HF.out.set _ _).set _ _, _, _, HR.out.put hlt _ _, fun i hi => ?_, fun i hi => ?_, fun i hi => ?_, fun i hi => ?_⟩
            · split
              · rename_i e; rw [e]
              · exact HX.out i (by omega)
            · split
              · rename_i e; rw [e]
              · exact HY.out i (by omega)
            · rw [if_neg (by omega)]; exact HX2.out i (by omega)
            · rw [if_neg (by omega)]; exact HY2.out i (by omega)
          case measure => simp [intOf]; omega
        · have e : k = n := by omega
          subst e
          have how : OwnS w.heap.size wr (.slice (some ⟨b, o, none⟩) k cp) k (fun i => X i + dx) (fun i => Y i + dy) := ⟨_, _, rfl, hcp, fun _ => ⟨_, _, rfl, hbw, hf, hr.cong hx hy⟩⟩
          clear hr hf hx hy hx2 hy2
          go_wp2_with (go_at_call 61; refine (chIf_g _ _ _ _ _ how.spots (by omega)).mono ?_; rintro e wq ⟨rfl, hbq⟩)
          go_ret2
          exact AnsSB.sel (how.up hbq) (up_trans hb hbq)
set_option maxHeartbeats 4000000 in
theorem fnExactMoveChart_walk (v : Value) (n : Nat) (X Y : Nat → Int) (dx dy : Int) (hn : n ≤ 9223372036854775807) (w : World) (h : Spots w v n X Y) :
    Calls Try.prog 14 #[v, .int .i64 dx, .int .i64 dy] w (Ans w (.bool true)) := by
  by_cases hl : n ≤ 1048576
  · have HZ := szV_pos (left := 1048576) (n := n) (by omega)
    have hm := sel_le (mcB n X Y dx dy) n
    have HS := fun v w' (hw : Spots w' v n X Y) => sMoveC_any v n X Y dx dy w' hw hl
    have HI := fun v w' (hw : Spots w' v n X Y) => iMoveC_any v n X Y dx dy w' hw hl
    generalize mcB n X Y dx dy = q at *
    generalize sel q n = m at *
    generalize (fun i => X i + dx) = U at *
    generalize (fun i => Y i + dy) = V at *
    go_enter Try.func14, Try.ntmps14
    have hW0 := Below.refl w.heap.size w
    go_wp2_with fail
    refine (szSpotS_g v _ _ _ _ _ h (by omega) (by omega) (by omega)).mono ?_
    rintro e w1 ⟨rfl, hb0⟩
    have hz0 := hb0.size
    have hW1 := up_trans hW0 hb0
    have h_v_1 := h.up hb0
    go_wp2_with fail
    refine (toSpotS_g v _ _ _ _ h_v_1 (by omega)).mono ?_
    rintro e w2 ⟨t0, rfl, h_t0_2, hb1⟩
    have hz1 := hb1.size
    have hW2 := up_trans hW1 hb1
    go_wp2_with fail
    refine (HS t0 _ h_t0_2.spots).mono ?_
    rintro e w3 ⟨rS, rfl, h_rS_3, hb2⟩
    have hz2 := hb2.size
    have hW3 := up_trans hW2 hb2
    have h_v_2 := h_v_1.up hb1
    have h_v_3 := h_v_2.up hb2
    go_wp2_with fail
    refine (toSpotS_g v _ _ _ _ h_v_3 (by omega)).mono ?_
    rintro e w4 ⟨x0, rfl, h_x0_4, hb3⟩
    have hz3 := hb3.size
    have hW4 := up_trans hW3 hb3
    go_wp2_with fail
    refine (HI x0 _ h_x0_4.spots).mono ?_
    rintro e w5 ⟨rI, rfl, h_rI_5, hb4⟩
    have hz4 := hb4.size
    have hW5 := up_trans hW4 hb4
    have h_rS_4 := h_rS_3.up hb3
    have h_rS_5 := h_rS_4.up hb4
    go_wp2_with fail
    refine (eqSpotS_g rI rS _ _ _ _ h_rI_5.spots h_rS_5.spots (by omega)).mono ?_
    rintro e w6 ⟨rfl, hb5⟩
    have hz5 := hb5.size
    have hW6 := up_trans hW5 hb5
    have h_v_4 := h_v_3.up hb3
    have h_v_5 := h_v_4.up hb4
    have h_v_6 := h_v_5.up hb5
    go_wp2_with fail
    refine (toSpotS_g v _ _ _ _ h_v_6 (by omega)).mono ?_
    rintro e w7 ⟨y0, rfl, h_y0_7, hb6⟩
    have hz6 := hb6.size
    have hW7 := up_trans hW6 hb6
    have h_x0_5 := h_x0_4.up hb4
    have h_x0_6 := h_x0_5.up hb5
    have h_x0_7 := h_x0_6.up hb6
    go_wp2_with fail
    refine (eqSpotS_g x0 y0 _ _ _ _ h_x0_7.spots h_y0_7.spots (by omega)).mono ?_
    rintro e w8 ⟨rfl, hb7⟩
    have hz7 := hb7.size
    have hW8 := up_trans hW7 hb7
    have h_x0_8 := h_x0_7.up hb7
    go_wp2_with fail
    refine (markSpotS_g _ x0 _ _ _ (1) _ h_x0_8 (by omega) (by omega) (by omega)).mono ?_
    rintro e w9 ⟨rfl, hg8, h_x0_9⟩
    have hz8 := hg8.size
    have hB8 : Below w3.heap.size w8 w9 := below_old h_x0_8 hg8 (by omega)
    have hW9 := hW8.trans (hB8.mono (by omega))
    have h_rI_6 := h_rI_5.up hb5
    have h_rI_7 := h_rI_6.up hb6
    have h_rI_8 := h_rI_7.up hb7
    have h_rI_9 := OwnS.young h_rI_8 h_x0_4.spots (by omega) hg8
    have h_rS_6 := h_rS_5.up hb5
    have h_rS_7 := h_rS_6.up hb6
    have h_rS_8 := h_rS_7.up hb7
    have h_rS_9 := Spots.old h_rS_3.spots h_rS_8.spots hB8
    go_wp2_with fail
    refine (eqSpotS_g rI rS _ _ _ _ h_rI_9.spots h_rS_9 (by omega)).mono ?_
    rintro e w10 ⟨rfl, hb9⟩
    have hz9 := hb9.size
    have hW10 := up_trans hW9 hb9
    have h_rI_10 := h_rI_9.up hb9
    go_wp2_with fail
    refine (markSpotS_g _ rI _ _ _ 1 _ h_rI_10 (by omega) (by omega) (by omega)).mono ?_
    rintro e w11 ⟨rfl, hg10, h_rI_11⟩
    have hz10 := hg10.size
    have hB10 : Below w4.heap.size w10 w11 := below_old h_rI_10 hg10 (by omega)
    have hW11 := hW10.trans (hB10.mono (by omega))
    go_wp2_with fail
    refine (heldSpotS_g rI _ 1 _ h_rI_11.spots (by omega) (by omega) (by omega)).mono ?_
    rintro e w12 ⟨rfl, hb11⟩
    have hz11 := hb11.size
    have hW12 := up_trans hW11 hb11
    have h_v_7 := h_v_6.up hb6
    have h_v_8 := h_v_7.up hb7
    have h_v_9 := Spots.old h_v_3 h_v_8 hB8
    have h_v_10 := h_v_9.up hb9
    have h_v_11 := Spots.old h_v_4 h_v_10 hB10
    have h_v_12 := h_v_11.up hb11
    go_wp2_with fail
    refine (toSpotS_g v _ _ _ _ h_v_12 (by omega)).mono ?_
    rintro e w13 ⟨z0, rfl, h_z0_13, hb12⟩
    have hz12 := hb12.size
    have hW13 := up_trans hW12 hb12
    go_wp2_with fail
    refine (HI z0 _ h_z0_13.spots).mono ?_
    rintro e w14 ⟨rH, rfl, h_rH_14, hb13⟩
    have hz13 := hb13.size
    have hW14 := up_trans hW13 hb13
    have h_rS_10 := h_rS_9.up hb9
    have h_rS_11 := Spots.old h_rS_4.spots h_rS_10 hB10
    have h_rS_12 := h_rS_11.up hb11
    have h_rS_13 := h_rS_12.up hb12
    have h_rS_14 := h_rS_13.up hb13
    go_wp2_with fail
    refine (eqSpotS_g rH rS _ _ _ _ h_rH_14.spots h_rS_14 (by omega)).mono ?_
    rintro e w15 ⟨rfl, hb14⟩
    have hz14 := hb14.size
    have hW15 := up_trans hW14 hb14
    have h_rI_12 := h_rI_11.up hb11
    have h_rI_13 := h_rI_12.up hb12
    have h_rI_14 := h_rI_13.up hb13
    have h_rI_15 := h_rI_14.up hb14
    go_wp2_with fail
    refine (heldSpotS_g rI _ 1 _ h_rI_15.spots (by omega) (by omega) (by omega)).mono ?_
    rintro e w16 ⟨rfl, hb15⟩
    have hz15 := hb15.size
    have hW16 := up_trans hW15 hb15
    go_wp2_with fail
    go_ret
    exact Ans.bool rfl hW16
  · have HZ := szV_neg (left := 1048576) (n := n) (by omega)
    go_enter Try.func14, Try.ntmps14
    go_wp2_with ((go_at_call 15; refine (szSpotS_g _ _ _ _ _ _ (by first | exact Spots.up (by with_reducible assumption) (by (repeat (first | with_reducible exact Below.refl _ _ | with_reducible assumption | with_reducible refine up_alloc ?_ _ | with_reducible refine up_drew ?_ | with_reducible refine up_drewN ?_ _ | (with_reducible refine up_set ?_ ?hset _; case hset => first | (simp; done) | (simp; omega) | omega) | with_reducible refine up_trans ?_ (by with_reducible assumption)))) | exact OwnS.spots (OwnS.up (by with_reducible assumption) (by (repeat (first | with_reducible exact Below.refl _ _ | with_reducible assumption | with_reducible refine up_alloc ?_ _ | with_reducible refine up_drew ?_ | with_reducible refine up_drewN ?_ _ | (with_reducible refine up_set ?_ ?hset _; case hset => first | (simp; done) | (simp; omega) | omega) | with_reducible refine up_trans ?_ (by with_reducible assumption)))))) (by omega) (by omega) (by omega)).mono ?_; rintro e w1 ⟨rfl, hb⟩))
    go_ret
    exact Ans.bool rfl (by (repeat (first | with_reducible exact Below.refl _ _ | with_reducible assumption | with_reducible refine up_alloc ?_ _ | with_reducible refine up_drew ?_ | with_reducible refine up_drewN ?_ _ | (with_reducible refine up_set ?_ ?hset _; case hset => first | (simp; done) | (simp; omega) | omega) | with_reducible refine up_trans ?_ (by with_reducible assumption))))

theorem fnExactMoveChart_law : LawWalk Try.prog 14 Try.f14 := by
  intro H enc W base args ds ps hval hA
  rw [Try.params14] at hval hA
  obtain ⟨v0, v1, v2, d0, d1, d2, p0, p1, p2, rfl, h0, h1, h2⟩ := args3 hA
  obtain ⟨n, X, Y, hs, hn⟩ := open_spots (hval 0 _ v0 rfl rfl) h0
  obtain ⟨a, rfl, _⟩ := open_int Try.underlying3 (hval 1 _ v1 rfl rfl) h1
  obtain ⟨b, rfl, _⟩ := open_int Try.underlying3 (hval 2 _ v2 rfl rfl) h2
  exact fnExactMoveChart_walk v0 n X Y a b hn W hs

set_option maxRecDepth 100000 in
theorem fnExactMoveChart_holds : Rows.FnExactMoveChartSaid :=
  OpenClaim.holds_of_wide 14 Try.f14 rfl rfl rfl rfl rfl rfl rfl ⟨rfl, rfl, rfl, rfl, rfl⟩ rfl rfl rfl rfl rfl (by kernel_rfl) Try.func14 (by kernel_rfl)
    (of_decide_eq_true (by kernel_rfl)) (by unfold Func.isWrapper; first | (rw [if_pos (by decide +kernel)]; kernel_rfl) | (rw [if_neg (by decide +kernel)]; exact ⟨rfl, rfl⟩))
    (fun os started H enc _ => lifted_of (C := Try.checked) (s := Rows.fnExactMoveChartSpec) (tb := 4) (by kernel_rfl) (by kernel_rfl) (by kernel_rfl) (by kernel_rfl) Try.func14 rfl Try.underlying4 rfl
      (fun H ds h => by
        have h2 : ds.length = 3 := by rw [Try.params14] at h; exact h
        match ds, h2 with
        | [_, _, _], _ => rfl)
      fnExactMoveChart_law os started H enc
      (ChangeSpec.witness6 (enc := enc) (C := Try.checked) false ⟨#[], #[.slice none 0 0, .int .i64 0, .int .i64 0], []⟩ 8 (by kernel_rfl) (by kernel_rfl) (by kernel_rfl) (by kernel_rfl)))

#print axioms fnExactMoveChart_holds
end Go.Proofs.Ythpflpjhohmboaa
