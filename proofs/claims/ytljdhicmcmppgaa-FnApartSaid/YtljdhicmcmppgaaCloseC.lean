/-
  CloseCounts on both sides.
-/
import Derived.Test.YtljdhicmcmppgaaRows
import Derived.Test.YtljdhicmcmppgaaBase
import Derived.Test.YtljdhicmcmppgaaSpot
import Derived.Test.YtljdhicmcmppgaaMove
import Derived.Test.YtljdhicmcmppgaaGcd
import Derived.Test.YtljdhicmcmppgaaPlaceAt
import Derived.Test.YtljdhicmcmppgaaApartAt
import Derived.Test.YtljdhicmcmppgaaInts
import Derived.Test.YtljdhicmcmppgaaIntsL
import Derived.Test.YtljdhicmcmppgaaChanged
namespace Go.Proofs.Ytljdhicmcmppgaa
open Go.RowKit Go.Sort

theorem low_lt {a b k : Int} (hb : 0 < b) : (lowA a b < k * lowB a b) ↔ a < k * b := by
  have hg : 0 < (Int.gcd a b : Int) := by
    have := Int.gcd_pos_of_ne_zero_right a (show b ≠ 0 by omega)
    omega
  have h1 : lowA a b * (Int.gcd a b : Int) = a := Int.ediv_mul_cancel (Int.gcd_dvd_left ..)
  have h2 : lowB a b * (Int.gcd a b : Int) = b := Int.ediv_mul_cancel (Int.gcd_dvd_right ..)
  constructor
  · intro h
    have := Int.mul_lt_mul_of_pos_right h hg
    rwa [h1, Int.mul_assoc, h2] at this
  · intro h
    rw [← h1] at h
    have h3 : lowA a b * (Int.gcd a b : Int) < (k * lowB a b) * (Int.gcd a b : Int) := by rw [Int.mul_assoc, h2]; exact h
    exact Int.lt_of_mul_lt_mul_right h3 (by omega)
theorem low_bd {a b : Int} (ha : 0 ≤ a) (hb : 0 < b) : (0 ≤ lowA a b ∧ lowA a b ≤ a) ∧ 0 ≤ lowB a b ∧ lowB a b ≤ b := by
  unfold lowA lowB
  exact ⟨⟨Int.ediv_nonneg ha (by omega), Int.ediv_le_self _ ha⟩, Int.ediv_nonneg (by omega) (by omega), Int.ediv_le_self _ (by omega)⟩
/-- Is the square after s counts below d²? -/
def ccD (x y u v x' y' u' v' c d : Int) (s : Nat) : Bool := decide (sqm x y u v x' y' u' v' c s < d * d * c * c)
def ccOk (x y u v c x' y' u' v' c' d : Int) : Bool := togB x y u v c x' y' u' v' c' && inB d 0 80
def ccL (x y u v x' y' u' v' c d : Int) : List Int := chL (ccD x y u v x' y' u' v' c d) (c.toNat + 1)
def ccN (x y u v c x' y' u' v' c' d : Int) : Nat := if ccOk x y u v c x' y' u' v' c' d then (ccL x y u v x' y' u' v' c d).length else 0
theorem ccN_le (x y u v c x' y' u' v' c' d : Int) : ccN x y u v c x' y' u' v' c' d ≤ 65 := by
  unfold ccN
  split
  · rename_i h
    simp only [ccOk, Bool.and_eq_true] at h
    have h1 := togB_iff.1 h.1
    have h2 := moveB_iff.1 h1.1.1
    have := chL_len (ccD x y u v x' y' u' v' c d) (c.toNat + 1)
    unfold ccL
    omega
  · omega
set_option maxHeartbeats 4000000 in
theorem sCloseC_any (x y u v c x' y' u' v' c' d : Int) (w : World) :
    Calls Try.prog 14 #[.agg #[.int .i64 x, .int .i64 y, .int .i64 u, .int .i64 v, .int .i64 c], .agg #[.int .i64 x', .int .i64 y', .int .i64 u', .int .i64 v', .int .i64 c'], .int .i64 d] w
      (AnsIB w (ccN x y u v c x' y' u' v' c' d) (fun i => (ccL x y u v x' y' u' v' c d).getD i 0) (ccOk x y u v c x' y' u' v' c' d)) := by
  have HT := Lib.hid (apGood_any x y u v c x' y' u' v' c')
  cases ht : togB x y u v c x' y' u' v' c' with
  | false =>
    rw [ht] at HT
    rw [show ccOk x y u v c x' y' u' v' c' d = false by simp [ccOk, ht], show ccN x y u v c x' y' u' v' c' d = 0 by simp [ccN, ccOk, ht]]
    go_enter Try.func14, Try.ntmps14
    go_wp2_with (go_at_call 36; refine (from0 (HT.out _) (by first | exact hb0 | exact up_alloc hb0 _ | exact up_drew hb0 | exact up_drewN hb0 _ | exact Below.refl _ _)).mono ?_; rintro e w1 ⟨rfl, hb0⟩; obtain ⟨hc0, hf0⟩ := bcell hb0; have hz0 := hb0.size; simp at hz0; have hz1 : w.heap.size < w1.heap.size := (by omega); try have hz2 : w.heap.size + 1 < w1.heap.size := (by omega))
    go_ret2
    exact AnsIB.nil (by (repeat (first | with_reducible exact Below.refl _ _ | with_reducible assumption | with_reducible refine up_alloc ?_ _ | with_reducible refine up_drew ?_ | with_reducible refine up_drewN ?_ _ | (with_reducible refine up_set ?_ ?hset _; case hset => first | (simp; done) | (simp; omega) | omega) | with_reducible refine up_trans ?_ (by with_reducible assumption))))
  | true =>
    rw [ht] at HT
    cases hd : inB d 0 80 with
    | false =>
      rw [show ccOk x y u v c x' y' u' v' c' d = false by simp [ccOk, hd], show ccN x y u v c x' y' u' v' c' d = 0 by simp [ccN, ccOk, hd]]
      go_enter Try.func14, Try.ntmps14
      go_wp2_with (first | (go_at_call 36; refine (from0 (HT.out _) (by first | exact hb0 | exact up_alloc hb0 _ | exact up_drew hb0 | exact up_drewN hb0 _ | exact Below.refl _ _)).mono ?_; rintro e w1 ⟨rfl, hb0⟩; obtain ⟨hc0, hf0⟩ := bcell hb0; have hz0 := hb0.size; simp at hz0; have hz1 : w.heap.size < w1.heap.size := (by omega); try have hz2 : w.heap.size + 1 < w1.heap.size := (by omega)) | (go_at_call 46; refine (apDistance_any _ _).mono ?_; rintro e w1 ⟨rfl, rfl⟩))
      go_ret2
      exact AnsIB.nil (by (repeat (first | with_reducible exact Below.refl _ _ | with_reducible assumption | with_reducible refine up_alloc ?_ _ | with_reducible refine up_drew ?_ | with_reducible refine up_drewN ?_ _ | (with_reducible refine up_set ?_ ?hset _; case hset => first | (simp; done) | (simp; omega) | omega) | with_reducible refine up_trans ?_ (by with_reducible assumption))))
    | true =>
      rw [show ccOk x y u v c x' y' u' v' c' d = true by simp [ccOk, ht, hd], show ccN x y u v c x' y' u' v' c' d = (ccL x y u v x' y' u' v' c d).length by simp [ccN, ccOk, ht, hd]]
      obtain ⟨⟨m1, m2⟩, rfl⟩ := togB_iff.1 ht
      obtain ⟨_, g1, g2⟩ := moveB_iff.1 m1
      obtain ⟨d1, d2⟩ := inB_iff.1 hd
      obtain ⟨C, rfl⟩ : ∃ C : Nat, c = C := ⟨c.toNat, by omega⟩
      have hdd := mul_bd (a := d) (b := d) (A := 80) (B := 80) (by omega) (by omega) (by omega) (by omega)
      go_enter Try.func14, Try.ntmps14
      go_wp2_with fail
      generalize hW : World.alloc _ _ = W at *
      have hbW : Below w.heap.size w W := by subst hW; (repeat (first | with_reducible exact Below.refl _ _ | with_reducible assumption | with_reducible refine up_alloc ?_ _ | with_reducible refine up_drew ?_ | with_reducible refine up_drewN ?_ _ | (with_reducible refine up_set ?_ ?hset _; case hset => first | (simp; done) | (simp; omega) | omega) | with_reducible refine up_trans ?_ (by with_reducible assumption)))
      have k0 : W.cell? ⟨w.heap.size, 0, none⟩ = some (.int .i64 x) := by subst hW; simp [go_sem]
      have k1 : W.cell? ⟨w.heap.size, 1, none⟩ = some (.int .i64 y) := by subst hW; simp [go_sem]
      have k2 : W.cell? ⟨w.heap.size, 2, none⟩ = some (.int .i64 u) := by subst hW; simp [go_sem]
      have k3 : W.cell? ⟨w.heap.size, 3, none⟩ = some (.int .i64 v) := by subst hW; simp [go_sem]
      have k4 : W.cell? ⟨w.heap.size, 4, none⟩ = some (.int .i64 C) := by subst hW; simp [go_sem]
      have k5 : W.cell? ⟨w.heap.size + 1, 0, none⟩ = some (.int .i64 x') := by subst hW; simp [go_sem]
      have k6 : W.cell? ⟨w.heap.size + 1, 1, none⟩ = some (.int .i64 y') := by subst hW; simp [go_sem]
      have k7 : W.cell? ⟨w.heap.size + 1, 2, none⟩ = some (.int .i64 u') := by subst hW; simp [go_sem]
      have k8 : W.cell? ⟨w.heap.size + 1, 3, none⟩ = some (.int .i64 v') := by subst hW; simp [go_sem]
      have k9 : W.cell? ⟨w.heap.size + 1, 4, none⟩ = some (.int .i64 C) := by subst hW; simp [go_sem]
      clear hW
      refine (HT.out _).mono ?_
      rintro e w1 ⟨rfl, hb⟩
      go_wp2_with (go_at_call 46; refine (apDistance_any _ _).mono ?_; rintro e w1 ⟨rfl, rfl⟩)
      go_loopw [8, 9] (fun o i wr => ∃ k : Nat, k ≤ C + 1 ∧ i = .int .i64 k ∧ OwnL W.heap.size wr o (chL (ccD x y u v x' y' u' v' C d) k) ∧ Below W.heap.size W wr) (fun _ i _ => C + 1 - (intOf i).toNat)
      case atStart => exact ⟨0, by omega, rfl, OwnL.nil _ _, hb⟩
      case round =>
        clear hb
        obtain ⟨k, hk, rfl, how, hb⟩ := hrel
        have q0 := up_keep hb k0; have q1 := up_keep hb k1; have q2 := up_keep hb k2; have q3 := up_keep hb k3; have q4 := up_keep hb k4
        have q5 := up_keep hb k5; have q6 := up_keep hb k6; have q7 := up_keep hb k7; have q8 := up_keep hb k8; have q9 := up_keep hb k9
        clear k0 k1 k2 k3 k4 k5 k6 k7 k8 k9
        by_cases hlt : k ≤ C
        · have hs := sqm_bd m1 m2 (show (0 : Int) ≤ k by omega) (show (k : Int) ≤ C by omega)
          obtain ⟨_, _, ⟨s1, s2⟩, ⟨s3, s4⟩, s5, s6⟩ := hs
          have hsq : 0 ≤ sqm x y u v x' y' u' v' C k ∧ sqm x y u v x' y' u' v' C k ≤ 214748364800 := by unfold sqm; omega
          have hlb := low_bd (a := sqm x y u v x' y' u' v' C k) (b := (C : Int) * C) hsq.1 (by omega)
          obtain ⟨⟨l1, l2⟩, l3, l4⟩ := hlb
          have hp := mul_bd (a := d * d) (b := lowB (sqm x y u v x' y' u' v' C k) ((C : Int) * C)) (A := 6400) (B := 4096) (by omega) (by omega) (by omega) (by omega)
          have HA := Lib.hid (fun W => apartAt_any x y u v x' y' u' v' C k m1 m2 (by omega) (by omega) W)
          have hiff := low_lt (a := sqm x y u v x' y' u' v' C k) (b := (C : Int) * C) (k := d * d) (by omega)
          have hlen := chL_len (ccD x y u v x' y' u' v' C d) k
          cases hq : ccD x y u v x' y' u' v' C d k with
          | true =>
            have HL := Lib.hid (show chL (ccD x y u v x' y' u' v' C d) (k + 1) = chL (ccD x y u v x' y' u' v' C d) k ++ [(k : Int)] by simp [chL, hq])
            have hlow := hiff.2 (by simpa [ccD, Int.mul_assoc] using hq)
            generalize lowA (sqm x y u v x' y' u' v' C k) ((C : Int) * C) = A at *
            generalize lowB (sqm x y u v x' y' u' v' C k) ((C : Int) * C) = B at *
            clear hq hiff
            go_wp2_with (first
              | (go_at_call 17; refine (HA.out _).mono ?_; rintro e w1 ⟨rfl, hb⟩)
              | (at_builtin; refine wpList_app_int rfl (.tmp 43) (.tmp 45) rfl W.heap.size _ (chL (ccD x y u v x' y' u' v' C d) k) rfl rfl (by simp) (OwnL.up how (by (repeat (first | with_reducible exact Below.refl _ _ | with_reducible assumption | with_reducible refine up_alloc ?_ _ | with_reducible refine up_drew ?_ | with_reducible refine up_drewN ?_ _ | (with_reducible refine up_set ?_ ?hset _; case hset => first | (simp; done) | (simp; omega) | omega) | with_reducible refine up_trans ?_ (by with_reducible assumption))))) (show Below W.heap.size W _ from (by (repeat (first | with_reducible exact Below.refl _ _ | with_reducible assumption | with_reducible refine up_alloc ?_ _ | with_reducible refine up_drew ?_ | with_reducible refine up_drewN ?_ _ | (with_reducible refine up_set ?_ ?hset _; case hset => first | (simp; done) | (simp; omega) | omega) | with_reducible refine up_trans ?_ (by with_reducible assumption))))).size (by omega) ?_; intro v2 w2 ho2 hb2; replace hb2 := (show Below W.heap.size W _ from (by (repeat (first | with_reducible exact Below.refl _ _ | with_reducible assumption | with_reducible refine up_alloc ?_ _ | with_reducible refine up_drew ?_ | with_reducible refine up_drewN ?_ _ | (with_reducible refine up_set ?_ ?hset _; case hset => first | (simp; done) | (simp; omega) | omega) | with_reducible refine up_trans ?_ (by with_reducible assumption))))).trans hb2))
            go_roundw
            case rel => exact ⟨k + 1, by omega, by go_num, by rw [HL.out]; exact ho2, hb2⟩
            case measure => simp [intOf]; omega
          | false =>
            have HL := Lib.hid (show chL (ccD x y u v x' y' u' v' C d) (k + 1) = chL (ccD x y u v x' y' u' v' C d) k by simp [chL, hq])
            have hlow : ¬ (lowA (sqm x y u v x' y' u' v' C k) ((C : Int) * C) < d * d * lowB (sqm x y u v x' y' u' v' C k) ((C : Int) * C)) := fun h => by
              have := hiff.1 h
              simp [ccD, Int.mul_assoc] at hq this
              omega
            generalize lowA (sqm x y u v x' y' u' v' C k) ((C : Int) * C) = A at *
            generalize lowB (sqm x y u v x' y' u' v' C k) ((C : Int) * C) = B at *
            clear hq hiff
            go_wp2_with (go_at_call 17; refine (HA.out _).mono ?_; rintro e w1 ⟨rfl, hb⟩)
            go_roundw
            case rel => exact ⟨k + 1, by omega, by go_num, by rw [HL.out]; exact how.up (by (repeat (first | with_reducible exact Below.refl _ _ | with_reducible assumption | with_reducible refine up_alloc ?_ _ | with_reducible refine up_drew ?_ | with_reducible refine up_drewN ?_ _ | (with_reducible refine up_set ?_ ?hset _; case hset => first | (simp; done) | (simp; omega) | omega) | with_reducible refine up_trans ?_ (by with_reducible assumption)))), by (repeat (first | with_reducible exact Below.refl _ _ | with_reducible assumption | with_reducible refine up_alloc ?_ _ | with_reducible refine up_drew ?_ | with_reducible refine up_drewN ?_ _ | (with_reducible refine up_set ?_ ?hset _; case hset => first | (simp; done) | (simp; omega) | omega) | with_reducible refine up_trans ?_ (by with_reducible assumption)))⟩
            case measure => simp [intOf]; omega
        · have e : k = C + 1 := by omega
          subst e
          have hbw := hbW.trans (hb.mono hbW.size)
          go_wp2_with fail
          go_ret2
          exact ⟨_, rfl, by unfold ccL; rw [show ((C : Int)).toNat = C by omega]; exact (how.ownI.more hbW.size), hbw⟩
set_option maxHeartbeats 4000000 in
theorem iCloseC_any (x y u v c x' y' u' v' c' d : Int) (w : World) :
    Calls Try.prog 13 #[.agg #[.int .i64 x, .int .i64 y, .int .i64 u, .int .i64 v, .int .i64 c], .agg #[.int .i64 x', .int .i64 y', .int .i64 u', .int .i64 v', .int .i64 c'], .int .i64 d] w
      (AnsIB w (ccN x y u v c x' y' u' v' c' d) (fun i => (ccL x y u v x' y' u' v' c d).getD i 0) (ccOk x y u v c x' y' u' v' c' d)) := by
  have HT := Lib.hid (goTogether_any x y u v c x' y' u' v' c')
  cases ht : togB x y u v c x' y' u' v' c' with
  | false =>
    rw [ht] at HT
    rw [show ccOk x y u v c x' y' u' v' c' d = false by simp [ccOk, ht], show ccN x y u v c x' y' u' v' c' d = 0 by simp [ccN, ccOk, ht]]
    go_enter Try.func13, Try.ntmps13
    go_wp2_with (go_at_call 34; refine (from0 (HT.out _) (by first | exact hb0 | exact up_alloc hb0 _ | exact up_drew hb0 | exact up_drewN hb0 _ | exact Below.refl _ _)).mono ?_; rintro e w1 ⟨rfl, hb0⟩; obtain ⟨hc0, hf0⟩ := bcell hb0; have hz0 := hb0.size; simp at hz0; have hz1 : w.heap.size < w1.heap.size := (by omega); try have hz2 : w.heap.size + 1 < w1.heap.size := (by omega))
    go_ret2
    exact AnsIB.nil (by (repeat (first | with_reducible exact Below.refl _ _ | with_reducible assumption | with_reducible refine up_alloc ?_ _ | with_reducible refine up_drew ?_ | with_reducible refine up_drewN ?_ _ | (with_reducible refine up_set ?_ ?hset _; case hset => first | (simp; done) | (simp; omega) | omega) | with_reducible refine up_trans ?_ (by with_reducible assumption))))
  | true =>
    rw [ht] at HT
    cases hd : inB d 0 80 with
    | false =>
      rw [show ccOk x y u v c x' y' u' v' c' d = false by simp [ccOk, hd], show ccN x y u v c x' y' u' v' c' d = 0 by simp [ccN, ccOk, hd]]
      go_enter Try.func13, Try.ntmps13
      go_wp2_with (first | (go_at_call 34; refine (from0 (HT.out _) (by first | exact hb0 | exact up_alloc hb0 _ | exact up_drew hb0 | exact up_drewN hb0 _ | exact Below.refl _ _)).mono ?_; rintro e w1 ⟨rfl, hb0⟩; obtain ⟨hc0, hf0⟩ := bcell hb0; have hz0 := hb0.size; simp at hz0; have hz1 : w.heap.size < w1.heap.size := (by omega); try have hz2 : w.heap.size + 1 < w1.heap.size := (by omega)) | (go_at_call 44; refine (within_any _ _ _ _).mono ?_; rintro e w1 ⟨rfl, rfl⟩))
      go_ret2
      exact AnsIB.nil (by (repeat (first | with_reducible exact Below.refl _ _ | with_reducible assumption | with_reducible refine up_alloc ?_ _ | with_reducible refine up_drew ?_ | with_reducible refine up_drewN ?_ _ | (with_reducible refine up_set ?_ ?hset _; case hset => first | (simp; done) | (simp; omega) | omega) | with_reducible refine up_trans ?_ (by with_reducible assumption))))
    | true =>
      rw [show ccOk x y u v c x' y' u' v' c' d = true by simp [ccOk, ht, hd], show ccN x y u v c x' y' u' v' c' d = (ccL x y u v x' y' u' v' c d).length by simp [ccN, ccOk, ht, hd]]
      obtain ⟨⟨m1, m2⟩, rfl⟩ := togB_iff.1 ht
      obtain ⟨_, g1, g2⟩ := moveB_iff.1 m1
      obtain ⟨d1, d2⟩ := inB_iff.1 hd
      obtain ⟨C, rfl⟩ : ∃ C : Nat, c = C := ⟨c.toNat, by omega⟩
      have hdd := mul_bd (a := d) (b := d) (A := 80) (B := 80) (by omega) (by omega) (by omega) (by omega)
      go_enter Try.func13, Try.ntmps13
      go_wp2_with fail
      generalize hW : World.alloc _ _ = W at *
      have hbW : Below w.heap.size w W := by subst hW; (repeat (first | with_reducible exact Below.refl _ _ | with_reducible assumption | with_reducible refine up_alloc ?_ _ | with_reducible refine up_drew ?_ | with_reducible refine up_drewN ?_ _ | (with_reducible refine up_set ?_ ?hset _; case hset => first | (simp; done) | (simp; omega) | omega) | with_reducible refine up_trans ?_ (by with_reducible assumption)))
      have k0 : W.cell? ⟨w.heap.size, 0, none⟩ = some (.int .i64 x) := by subst hW; simp [go_sem]
      have k1 : W.cell? ⟨w.heap.size, 1, none⟩ = some (.int .i64 y) := by subst hW; simp [go_sem]
      have k2 : W.cell? ⟨w.heap.size, 2, none⟩ = some (.int .i64 u) := by subst hW; simp [go_sem]
      have k3 : W.cell? ⟨w.heap.size, 3, none⟩ = some (.int .i64 v) := by subst hW; simp [go_sem]
      have k4 : W.cell? ⟨w.heap.size, 4, none⟩ = some (.int .i64 C) := by subst hW; simp [go_sem]
      have k5 : W.cell? ⟨w.heap.size + 1, 0, none⟩ = some (.int .i64 x') := by subst hW; simp [go_sem]
      have k6 : W.cell? ⟨w.heap.size + 1, 1, none⟩ = some (.int .i64 y') := by subst hW; simp [go_sem]
      have k7 : W.cell? ⟨w.heap.size + 1, 2, none⟩ = some (.int .i64 u') := by subst hW; simp [go_sem]
      have k8 : W.cell? ⟨w.heap.size + 1, 3, none⟩ = some (.int .i64 v') := by subst hW; simp [go_sem]
      have k9 : W.cell? ⟨w.heap.size + 1, 4, none⟩ = some (.int .i64 C) := by subst hW; simp [go_sem]
      clear hW
      refine (HT.out _).mono ?_
      rintro e w1 ⟨rfl, hb⟩
      go_wp2_with (go_at_call 44; refine (within_any _ _ _ _).mono ?_; rintro e w1 ⟨rfl, rfl⟩)
      go_loopw [8, 9] (fun o i wr => ∃ k : Nat, k ≤ C + 1 ∧ i = .int .i64 k ∧ OwnL W.heap.size wr o (chL (ccD x y u v x' y' u' v' C d) k) ∧ Below W.heap.size W wr) (fun _ i _ => C + 1 - (intOf i).toNat)
      case atStart => exact ⟨0, by omega, rfl, OwnL.empty hb.size, up_alloc hb _⟩
      case round =>
        clear hb
        obtain ⟨k, hk, rfl, how, hb⟩ := hrel
        have q0 := up_keep hb k0; have q1 := up_keep hb k1; have q2 := up_keep hb k2; have q3 := up_keep hb k3; have q4 := up_keep hb k4
        have q5 := up_keep hb k5; have q6 := up_keep hb k6; have q7 := up_keep hb k7; have q8 := up_keep hb k8; have q9 := up_keep hb k9
        clear k0 k1 k2 k3 k4 k5 k6 k7 k8 k9
        by_cases hlt : k ≤ C
        · have hs := sqm_bd m1 m2 (show (0 : Int) ≤ k by omega) (show (k : Int) ≤ C by omega)
          obtain ⟨⟨t1, t2⟩, ⟨t3, t4⟩, ⟨s1, s2⟩, ⟨s3, s4⟩, s5, s6⟩ := hs
          have hp1 := mul_bd (a := d * d) (b := (C : Int)) (A := 6400) (B := 64) (by omega) (by omega) (by omega) (by omega)
          have hp2 := mul_bd (a := d * d * (C : Int)) (b := (C : Int)) (A := 409600) (B := 64) (by omega) (by omega) (by omega) (by omega)
          have HA := Lib.hid (fun W => placeAt_any x y u v C k m1 (by omega) (by omega) W)
          have HA' := Lib.hid (fun W => placeAt_any x' y' u' v' C k m2 (by omega) (by omega) W)
          have hlen := chL_len (ccD x y u v x' y' u' v' C d) k
          cases hq : ccD x y u v x' y' u' v' C d k with
          | true =>
            have HL := Lib.hid (show chL (ccD x y u v x' y' u' v' C d) (k + 1) = chL (ccD x y u v x' y' u' v' C d) k ++ [(k : Int)] by simp [chL, hq])
            have hlow : (pAt x u C k - pAt x' u' C k) * (pAt x u C k - pAt x' u' C k) + (pAt y v C k - pAt y' v' C k) * (pAt y v C k - pAt y' v' C k) < d * d * C * C := of_decide_eq_true hq
            generalize pAt x u C k = p at HA hlow s1 s2 s3 s4 t1 t2 t3 t4
            generalize pAt y v C k = q at HA hlow s1 s2 s3 s4 t1 t2 t3 t4
            generalize pAt x' u' C k = p' at HA' hlow s1 s2 s3 s4 t1 t2 t3 t4
            generalize pAt y' v' C k = q' at HA' hlow s1 s2 s3 s4 t1 t2 t3 t4
            clear hq
            go_wp2_with fail
            refine (HA.out _).mono ?_
            rintro e w1 ⟨rfl, hb1⟩
            have c4 := up_keep hb1 q4; have c5 := up_keep hb1 q5; have c6 := up_keep hb1 q6; have c7 := up_keep hb1 q7; have c8 := up_keep hb1 q8; have c9 := up_keep hb1 q9
            go_wp2_with fail
            refine (HA'.out _).mono ?_
            rintro e w2 ⟨rfl, hb2⟩
            have e4 := up_keep hb2 c4
            go_wp2_with (at_builtin; refine wpList_app_int rfl (.tmp 67) (.tmp 69) rfl W.heap.size _ (chL (ccD x y u v x' y' u' v' C d) k) rfl rfl (by simp) (OwnL.up how (by (repeat (first | with_reducible exact Below.refl _ _ | with_reducible assumption | with_reducible refine up_alloc ?_ _ | with_reducible refine up_drew ?_ | with_reducible refine up_drewN ?_ _ | (with_reducible refine up_set ?_ ?hset _; case hset => first | (simp; done) | (simp; omega) | omega) | with_reducible refine up_trans ?_ (by with_reducible assumption))))) (show Below W.heap.size W _ from (by (repeat (first | with_reducible exact Below.refl _ _ | with_reducible assumption | with_reducible refine up_alloc ?_ _ | with_reducible refine up_drew ?_ | with_reducible refine up_drewN ?_ _ | (with_reducible refine up_set ?_ ?hset _; case hset => first | (simp; done) | (simp; omega) | omega) | with_reducible refine up_trans ?_ (by with_reducible assumption))))).size (by omega) ?_; intro v2 w3 ho2 hb3; replace hb3 := (show Below W.heap.size W _ from (by (repeat (first | with_reducible exact Below.refl _ _ | with_reducible assumption | with_reducible refine up_alloc ?_ _ | with_reducible refine up_drew ?_ | with_reducible refine up_drewN ?_ _ | (with_reducible refine up_set ?_ ?hset _; case hset => first | (simp; done) | (simp; omega) | omega) | with_reducible refine up_trans ?_ (by with_reducible assumption))))).trans hb3)
            go_roundw
            case rel => exact ⟨k + 1, by omega, by go_num, by rw [HL.out]; exact ho2, hb3⟩
            case measure => simp [intOf]; omega
          | false =>
            have HL := Lib.hid (show chL (ccD x y u v x' y' u' v' C d) (k + 1) = chL (ccD x y u v x' y' u' v' C d) k by simp [chL, hq])
            have hlow : ¬ ((pAt x u C k - pAt x' u' C k) * (pAt x u C k - pAt x' u' C k) + (pAt y v C k - pAt y' v' C k) * (pAt y v C k - pAt y' v' C k) < d * d * C * C) := of_decide_eq_false hq
            generalize pAt x u C k = p at HA hlow s1 s2 s3 s4 t1 t2 t3 t4
            generalize pAt y v C k = q at HA hlow s1 s2 s3 s4 t1 t2 t3 t4
            generalize pAt x' u' C k = p' at HA' hlow s1 s2 s3 s4 t1 t2 t3 t4
            generalize pAt y' v' C k = q' at HA' hlow s1 s2 s3 s4 t1 t2 t3 t4
            clear hq
            go_wp2_with fail
            refine (HA.out _).mono ?_
            rintro e w1 ⟨rfl, hb1⟩
            have c4 := up_keep hb1 q4; have c5 := up_keep hb1 q5; have c6 := up_keep hb1 q6; have c7 := up_keep hb1 q7; have c8 := up_keep hb1 q8; have c9 := up_keep hb1 q9
            go_wp2_with fail
            refine (HA'.out _).mono ?_
            rintro e w2 ⟨rfl, hb2⟩
            have e4 := up_keep hb2 c4
            go_wp2_with fail
            go_roundw
            case rel => exact ⟨k + 1, by omega, by go_num, by rw [HL.out]; exact how.up (by (repeat (first | with_reducible exact Below.refl _ _ | with_reducible assumption | with_reducible refine up_alloc ?_ _ | with_reducible refine up_drew ?_ | with_reducible refine up_drewN ?_ _ | (with_reducible refine up_set ?_ ?hset _; case hset => first | (simp; done) | (simp; omega) | omega) | with_reducible refine up_trans ?_ (by with_reducible assumption)))), by (repeat (first | with_reducible exact Below.refl _ _ | with_reducible assumption | with_reducible refine up_alloc ?_ _ | with_reducible refine up_drew ?_ | with_reducible refine up_drewN ?_ _ | (with_reducible refine up_set ?_ ?hset _; case hset => first | (simp; done) | (simp; omega) | omega) | with_reducible refine up_trans ?_ (by with_reducible assumption)))⟩
            case measure => simp [intOf]; omega
        · have e : k = C + 1 := by omega
          subst e
          have hbw := hbW.trans (hb.mono hbW.size)
          go_wp2_with fail
          go_ret2
          exact ⟨_, rfl, by unfold ccL; rw [show ((C : Int)).toNat = C by omega]; exact (how.ownI.more hbW.size), hbw⟩
end Go.Proofs.Ytljdhicmcmppgaa
