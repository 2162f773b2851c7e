/- Words and contracts, part 4. -/
import Derived.Test.YtljdhicmcmppgaaRows
import Derived.Shelf.Bits.Mul64
import Derived.Deep.QuietTactic
import Derived.Test.YtljdhicmcmppgaaZ3
namespace Go.Proofs.Ytljdhicmcmppgaa
open Go.RowKit Go.Sort

theorem low_lt {a b k : Int} (hb : 0 < b) : (lowA a b < k * lowB a b) ↔ a < k * b := by
  have hg : 0 < (Int.gcd a b : Int) := by
    have := Int.gcd_pos_of_ne_zero_right a (show b ≠ 0 by omega)
    omega
  have h1 : lowA a b * (Int.gcd a b : Int) = a := Int.ediv_mul_cancel (Int.gcd_dvd_left ..)
  have h2 : lowB a b * (Int.gcd a b : Int) = b := Int.ediv_mul_cancel (Int.gcd_dvd_right ..)
  constructor
  · intro h
    have := Int.mul_lt_mul_of_pos_right h hg
    rwa [h1, Int.mul_assoc, h2] at this
  · intro h
    rw [← h1] at h
    have h3 : lowA a b * (Int.gcd a b : Int) < (k * lowB a b) * (Int.gcd a b : Int) := by rw [Int.mul_assoc, h2]; exact h
    exact Int.lt_of_mul_lt_mul_right h3 (by omega)
theorem low_bd {a b : Int} (ha : 0 ≤ a) (hb : 0 < b) : (0 ≤ lowA a b ∧ lowA a b ≤ a) ∧ 0 ≤ lowB a b ∧ lowB a b ≤ b := by
  unfold lowA lowB
  exact ⟨⟨Int.ediv_nonneg ha (by omega), Int.ediv_le_self _ ha⟩, Int.ediv_nonneg (by omega) (by omega), Int.ediv_le_self _ (by omega)⟩
/-- Is the square after s counts below d²? -/
def ccD (x y u v x' y' u' v' c d : Int) (s : Nat) : Bool := decide (sqm x y u v x' y' u' v' c s < d * d * c * c)
def ccOk (x y u v c x' y' u' v' c' d : Int) : Bool := togB x y u v c x' y' u' v' c' && inB d 0 80
def ccL (x y u v x' y' u' v' c d : Int) : List Int := chL (ccD x y u v x' y' u' v' c d) (c.toNat + 1)
def ccN (x y u v c x' y' u' v' c' d : Int) : Nat := if ccOk x y u v c x' y' u' v' c' d then (ccL x y u v x' y' u' v' c d).length else 0
theorem ccN_le (x y u v c x' y' u' v' c' d : Int) : ccN x y u v c x' y' u' v' c' d ≤ 65 := by
  unfold ccN
  split
  · rename_i h
    simp only [ccOk, Bool.and_eq_true] at h
    have h1 := togB_iff.1 h.1
    have h2 := moveB_iff.1 h1.1.1
    have := chL_len (ccD x y u v x' y' u' v' c d) (c.toNat + 1)
    unfold ccL
    omega
  · omega
set_option maxHeartbeats 4000000 in
theorem sCloseC_any (x y u v c x' y' u' v' c' d : Int) (w : World) :
    Calls Try.prog 14 #[.agg #[.int .i64 x, .int .i64 y, .int .i64 u, .int .i64 v, .int .i64 c], .agg #[.int .i64 x', .int .i64 y', .int .i64 u', .int .i64 v', .int .i64 c'], .int .i64 d] w
      (AnsIB w (ccN x y u v c x' y' u' v' c' d) (fun i => (ccL x y u v x' y' u' v' c d).getD i 0) (ccOk x y u v c x' y' u' v' c' d)) := by
  have HT := Lib.hid (apGood_any x y u v c x' y' u' v' c')
  cases ht : togB x y u v c x' y' u' v' c' with
  | false =>
    rw [ht] at HT
    rw [show ccOk x y u v c x' y' u' v' c' d = false by simp [ccOk, ht], show ccN x y u v c x' y' u' v' c' d = 0 by simp [ccN, ccOk, ht]]
    go_enter Try.func14, Try.ntmps14
    go_wp2_with (go_at_call 36; refine (from0 (HT.out _) (by first | exact hb0 | exact up_alloc hb0 _ | exact up_drew hb0 | exact up_drewN hb0 _ | exact Below.refl _ _)).mono ?_; rintro e w1 ⟨rfl, hb0⟩; obtain ⟨hc0, hf0⟩ := bcell hb0; have hz0 := hb0.size; simp at hz0; have hz1 : w.heap.size < w1.heap.size := (by omega); try have hz2 : w.heap.size + 1 < w1.heap.size := (by omega))
    go_ret2
    exact AnsIB.nil (by (repeat (first | with_reducible exact Below.refl _ _ | with_reducible assumption | with_reducible refine up_alloc ?_ _ | with_reducible refine up_drew ?_ | with_reducible refine up_drewN ?_ _ | (with_reducible refine up_set ?_ ?hset _; case hset => first | (simp; done) | (simp; omega) | omega) | with_reducible refine up_trans ?_ (by with_reducible assumption))))
  | true =>
    rw [ht] at HT
    cases hd : inB d 0 80 with
    | false =>
      rw [show ccOk x y u v c x' y' u' v' c' d = false by simp [ccOk, hd], show ccN x y u v c x' y' u' v' c' d = 0 by simp [ccN, ccOk, hd]]
      go_enter Try.func14, Try.ntmps14
      go_wp2_with (first | (go_at_call 36; refine (from0 (HT.out _) (by first | exact hb0 | exact up_alloc hb0 _ | exact up_drew hb0 | exact up_drewN hb0 _ | exact Below.refl _ _)).mono ?_; rintro e w1 ⟨rfl, hb0⟩; obtain ⟨hc0, hf0⟩ := bcell hb0; have hz0 := hb0.size; simp at hz0; have hz1 : w.heap.size < w1.heap.size := (by omega); try have hz2 : w.heap.size + 1 < w1.heap.size := (by omega)) | (go_at_call 46; refine (apDistance_any _ _).mono ?_; rintro e w1 ⟨rfl, rfl⟩))
      go_ret2
      exact AnsIB.nil (by (repeat (first | with_reducible exact Below.refl _ _ | with_reducible assumption | with_reducible refine up_alloc ?_ _ | with_reducible refine up_drew ?_ | with_reducible refine up_drewN ?_ _ | (with_reducible refine up_set ?_ ?hset _; case hset => first | (simp; done) | (simp; omega) | omega) | with_reducible refine up_trans ?_ (by with_reducible assumption))))
    | true =>
      rw [show ccOk x y u v c x' y' u' v' c' d = true by simp [ccOk, ht, hd], show ccN x y u v c x' y' u' v' c' d = (ccL x y u v x' y' u' v' c d).length by simp [ccN, ccOk, ht, hd]]
      obtain ⟨⟨m1, m2⟩, rfl⟩ := togB_iff.1 ht
      obtain ⟨_, g1, g2⟩ := moveB_iff.1 m1
      obtain ⟨d1, d2⟩ := inB_iff.1 hd
      obtain ⟨C, rfl⟩ : ∃ C : Nat, c = C := ⟨c.toNat, by omega⟩
      have hdd := mul_bd (a := d) (b := d) (A := 80) (B := 80) (by omega) (by omega) (by omega) (by omega)
      go_enter Try.func14, Try.ntmps14
      go_wp2_with fail
      generalize hW : World.alloc _ _ = W at *
      have hbW : Below w.heap.size w W := by subst hW; (repeat (first | with_reducible exact Below.refl _ _ | with_reducible assumption | with_reducible refine up_alloc ?_ _ | with_reducible refine up_drew ?_ | with_reducible refine up_drewN ?_ _ | (with_reducible refine up_set ?_ ?hset _; case hset => first | (simp; done) | (simp; omega) | omega) | with_reducible refine up_trans ?_ (by with_reducible assumption)))
      have k0 : W.cell? ⟨w.heap.size, 0, none⟩ = some (.int .i64 x) := by subst hW; simp [go_sem]
      have k1 : W.cell? ⟨w.heap.size, 1, none⟩ = some (.int .i64 y) := by subst hW; simp [go_sem]
      have k2 : W.cell? ⟨w.heap.size, 2, none⟩ = some (.int .i64 u) := by subst hW; simp [go_sem]
      have k3 : W.cell? ⟨w.heap.size, 3, none⟩ = some (.int .i64 v) := by subst hW; simp [go_sem]
      have k4 : W.cell? ⟨w.heap.size, 4, none⟩ = some (.int .i64 C) := by subst hW; simp [go_sem]
      have k5 : W.cell? ⟨w.heap.size + 1, 0, none⟩ = some (.int .i64 x') := by subst hW; simp [go_sem]
      have k6 : W.cell? ⟨w.heap.size + 1, 1, none⟩ = some (.int .i64 y') := by subst hW; simp [go_sem]
      have k7 : W.cell? ⟨w.heap.size + 1, 2, none⟩ = some (.int .i64 u') := by subst hW; simp [go_sem]
      have k8 : W.cell? ⟨w.heap.size + 1, 3, none⟩ = some (.int .i64 v') := by subst hW; simp [go_sem]
      have k9 : W.cell? ⟨w.heap.size + 1, 4, none⟩ = some (.int .i64 C) := by subst hW; simp [go_sem]
      clear hW
      refine (HT.out _).mono ?_
      rintro e w1 ⟨rfl, hb⟩
      go_wp2_with (go_at_call 46; refine (apDistance_any _ _).mono ?_; rintro e w1 ⟨rfl, rfl⟩)
      go_loopw [8, 9] (fun o i wr => ∃ k : Nat, k ≤ C + 1 ∧ i = .int .i64 k ∧ OwnL W.heap.size wr o (chL (ccD x y u v x' y' u' v' C d) k) ∧ Below W.heap.size W wr) (fun _ i _ => C + 1 - (intOf i).toNat)
      case atStart => exact ⟨0, by omega, rfl, OwnL.nil _ _, hb⟩
      case round =>
        clear hb
        obtain ⟨k, hk, rfl, how, hb⟩ := hrel
        have q0 := up_keep hb k0; have q1 := up_keep hb k1; have q2 := up_keep hb k2; have q3 := up_keep hb k3; have q4 := up_keep hb k4
        have q5 := up_keep hb k5; have q6 := up_keep hb k6; have q7 := up_keep hb k7; have q8 := up_keep hb k8; have q9 := up_keep hb k9
        clear k0 k1 k2 k3 k4 k5 k6 k7 k8 k9
        by_cases hlt : k ≤ C
        · have hs := sqm_bd m1 m2 (show (0 : Int) ≤ k by omega) (show (k : Int) ≤ C by omega)
          obtain ⟨_, _, ⟨s1, s2⟩, ⟨s3, s4⟩, s5, s6⟩ := hs
          have hsq : 0 ≤ sqm x y u v x' y' u' v' C k ∧ sqm x y u v x' y' u' v' C k ≤ 214748364800 := by unfold sqm; omega
          have hlb := low_bd (a := sqm x y u v x' y' u' v' C k) (b := (C : Int) * C) hsq.1 (by omega)
          obtain ⟨⟨l1, l2⟩, l3, l4⟩ := hlb
          have hp := mul_bd (a := d * d) (b := lowB (sqm x y u v x' y' u' v' C k) ((C : Int) * C)) (A := 6400) (B := 4096) (by omega) (by omega) (by omega) (by omega)
          have HA := Lib.hid (fun W => apartAt_any x y u v x' y' u' v' C k m1 m2 (by omega) (by omega) W)
          have hiff := low_lt (a := sqm x y u v x' y' u' v' C k) (b := (C : Int) * C) (k := d * d) (by omega)
          have hlen := chL_len (ccD x y u v x' y' u' v' C d) k
          cases hq : ccD x y u v x' y' u' v' C d k with
          | true =>
            have HL := Lib.hid (show chL (ccD x y u v x' y' u' v' C d) (k + 1) = chL (ccD x y u v x' y' u' v' C d) k ++ [(k : Int)] by simp [chL, hq])
            have hlow := hiff.2 (by simpa [ccD, Int.mul_assoc] using hq)
            generalize lowA (sqm x y u v x' y' u' v' C k) ((C : Int) * C) = A at *
            generalize lowB (sqm x y u v x' y' u' v' C k) ((C : Int) * C) = B at *
            clear hq hiff
            go_wp2_with (first
              | (go_at_call 17; refine (HA.out _).mono ?_; rintro e w1 ⟨rfl, hb⟩)
              | (at_builtin; refine wpList_app_int rfl (.tmp 43) (.tmp 45) rfl W.heap.size _ (chL (ccD x y u v x' y' u' v' C d) k) rfl rfl (by simp) (OwnL.up how (by (repeat (first | with_reducible exact Below.refl _ _ | with_reducible assumption | with_reducible refine up_alloc ?_ _ | with_reducible refine up_drew ?_ | with_reducible refine up_drewN ?_ _ | (with_reducible refine up_set ?_ ?hset _; case hset => first | (simp; done) | (simp; omega) | omega) | with_reducible refine up_trans ?_ (by with_reducible assumption))))) (show Below W.heap.size W _ from (by (repeat (first | with_reducible exact Below.refl _ _ | with_reducible assumption | with_reducible refine up_alloc ?_ _ | with_reducible refine up_drew ?_ | with_reducible refine up_drewN ?_ _ | (with_reducible refine up_set ?_ ?hset _; case hset => first | (simp; done) | (simp; omega) | omega) | with_reducible refine up_trans ?_ (by with_reducible assumption))))).size (by omega) ?_; intro v2 w2 ho2 hb2; replace hb2 := (show Below W.heap.size W _ from (by (repeat (first | with_reducible exact Below.refl _ _ | with_reducible assumption | with_reducible refine up_alloc ?_ _ | with_reducible refine up_drew ?_ | with_reducible refine up_drewN ?_ _ | (with_reducible refine up_set ?_ ?hset _; case hset => first | (simp; done) | (simp; omega) | omega) | with_reducible refine up_trans ?_ (by with_reducible assumption))))).trans hb2))
            go_roundw
            case rel => exact ⟨k + 1, by omega, by go_num, by rw [HL.out]; exact ho2, hb2⟩
            case measure => simp [intOf]; omega
          | false =>
            have HL := Lib.hid (show chL (ccD x y u v x' y' u' v' C d) (k + 1) = chL (ccD x y u v x' y' u' v' C d) k by simp [chL, hq])
            have hlow : ¬ (lowA (sqm x y u v x' y' u' v' C k) ((C : Int) * C) < d * d * lowB (sqm x y u v x' y' u' v' C k) ((C : Int) * C)) := fun h => by
              have := hiff.1 h
              simp [ccD, Int.mul_assoc] at hq this
              omega
            generalize lowA (sqm x y u v x' y' u' v' C k) ((C : Int) * C) = A at *
            generalize lowB (sqm x y u v x' y' u' v' C k) ((C : Int) * C) = B at *
            clear hq hiff
            go_wp2_with (go_at_call 17; refine (HA.out _).mono ?_; rintro e w1 ⟨rfl, hb⟩)
            go_roundw
            case rel => exact ⟨k + 1, by omega, by go_num, by rw [HL.out]; exact how.up (by (repeat (first | with_reducible exact Below.refl _ _ | with_reducible assumption | with_reducible refine up_alloc ?_ _ | with_reducible refine up_drew ?_ | with_reducible refine up_drewN ?_ _ | (with_reducible refine up_set ?_ ?hset _; case hset => first | (simp; done) | (simp; omega) | omega) | with_reducible refine up_trans ?_ (by with_reducible assumption)))), by (repeat (first | with_reducible exact Below.refl _ _ | with_reducible assumption | with_reducible refine up_alloc ?_ _ | with_reducible refine up_drew ?_ | with_reducible refine up_drewN ?_ _ | (with_reducible refine up_set ?_ ?hset _; case hset => first | (simp; done) | (simp; omega) | omega) | with_reducible refine up_trans ?_ (by with_reducible assumption)))⟩
            case measure => simp [intOf]; omega
        · have e : k = C + 1 := by omega
          subst e
          have hbw := hbW.trans (hb.mono hbW.size)
          go_wp2_with fail
          go_ret2
          exact ⟨_, rfl, by unfold ccL; rw [show ((C : Int)).toNat = C by omega]; exact (how.ownI.more hbW.size), hbw⟩
set_option maxHeartbeats 4000000 in
theorem iCloseC_any (x y u v c x' y' u' v' c' d : Int) (w : World) :
    Calls Try.prog 13 #[.agg #[.int .i64 x, .int .i64 y, .int .i64 u, .int .i64 v, .int .i64 c], .agg #[.int .i64 x', .int .i64 y', .int .i64 u', .int .i64 v', .int .i64 c'], .int .i64 d] w
      (AnsIB w (ccN x y u v c x' y' u' v' c' d) (fun i => (ccL x y u v x' y' u' v' c d).getD i 0) (ccOk x y u v c x' y' u' v' c' d)) := by
  have HT := Lib.hid (goTogether_any x y u v c x' y' u' v' c')
  cases ht : togB x y u v c x' y' u' v' c' with
  | false =>
    rw [ht] at HT
    rw [show ccOk x y u v c x' y' u' v' c' d = false by simp [ccOk, ht], show ccN x y u v c x' y' u' v' c' d = 0 by simp [ccN, ccOk, ht]]
    go_enter Try.func13, Try.ntmps13
    go_wp2_with (go_at_call 34; refine (from0 (HT.out _) (by first | exact hb0 | exact up_alloc hb0 _ | exact up_drew hb0 | exact up_drewN hb0 _ | exact Below.refl _ _)).mono ?_; rintro e w1 ⟨rfl, hb0⟩; obtain ⟨hc0, hf0⟩ := bcell hb0; have hz0 := hb0.size; simp at hz0; have hz1 : w.heap.size < w1.heap.size := (by omega); try have hz2 : w.heap.size + 1 < w1.heap.size := (by omega))
    go_ret2
    exact AnsIB.nil (by (repeat (first | with_reducible exact Below.refl _ _ | with_reducible assumption | with_reducible refine up_alloc ?_ _ | with_reducible refine up_drew ?_ | with_reducible refine up_drewN ?_ _ | (with_reducible refine up_set ?_ ?hset _; case hset => first | (simp; done) | (simp; omega) | omega) | with_reducible refine up_trans ?_ (by with_reducible assumption))))
  | true =>
    rw [ht] at HT
    cases hd : inB d 0 80 with
    | false =>
      rw [show ccOk x y u v c x' y' u' v' c' d = false by simp [ccOk, hd], show ccN x y u v c x' y' u' v' c' d = 0 by simp [ccN, ccOk, hd]]
      go_enter Try.func13, Try.ntmps13
      go_wp2_with (first | (go_at_call 34; refine (from0 (HT.out _) (by first | exact hb0 | exact up_alloc hb0 _ | exact up_drew hb0 | exact up_drewN hb0 _ | exact Below.refl _ _)).mono ?_; rintro e w1 ⟨rfl, hb0⟩; obtain ⟨hc0, hf0⟩ := bcell hb0; have hz0 := hb0.size; simp at hz0; have hz1 : w.heap.size < w1.heap.size := (by omega); try have hz2 : w.heap.size + 1 < w1.heap.size := (by omega)) | (go_at_call 44; refine (within_any _ _ _ _).mono ?_; rintro e w1 ⟨rfl, rfl⟩))
      go_ret2
      exact AnsIB.nil (by (repeat (first | with_reducible exact Below.refl _ _ | with_reducible assumption | with_reducible refine up_alloc ?_ _ | with_reducible refine up_drew ?_ | with_reducible refine up_drewN ?_ _ | (with_reducible refine up_set ?_ ?hset _; case hset => first | (simp; done) | (simp; omega) | omega) | with_reducible refine up_trans ?_ (by with_reducible assumption))))
    | true =>
      rw [show ccOk x y u v c x' y' u' v' c' d = true by simp [ccOk, ht, hd], show ccN x y u v c x' y' u' v' c' d = (ccL x y u v x' y' u' v' c d).length by simp [ccN, ccOk, ht, hd]]
      obtain ⟨⟨m1, m2⟩, rfl⟩ := togB_iff.1 ht
      obtain ⟨_, g1, g2⟩ := moveB_iff.1 m1
      obtain ⟨d1, d2⟩ := inB_iff.1 hd
      obtain ⟨C, rfl⟩ : ∃ C : Nat, c = C := ⟨c.toNat, by omega⟩
      have hdd := mul_bd (a := d) (b := d) (A := 80) (B := 80) (by omega) (by omega) (by omega) (by omega)
      go_enter Try.func13, Try.ntmps13
      go_wp2_with fail
      generalize hW : World.alloc _ _ = W at *
      have hbW : Below w.heap.size w W := by subst hW; (repeat (first | with_reducible exact Below.refl _ _ | with_reducible assumption | with_reducible refine up_alloc ?_ _ | with_reducible refine up_drew ?_ | with_reducible refine up_drewN ?_ _ | (with_reducible refine up_set ?_ ?hset _; case hset => first | (simp; done) | (simp; omega) | omega) | with_reducible refine up_trans ?_ (by with_reducible assumption)))
      have k0 : W.cell? ⟨w.heap.size, 0, none⟩ = some (.int .i64 x) := by subst hW; simp [go_sem]
      have k1 : W.cell? ⟨w.heap.size, 1, none⟩ = some (.int .i64 y) := by subst hW; simp [go_sem]
      have k2 : W.cell? ⟨w.heap.size, 2, none⟩ = some (.int .i64 u) := by subst hW; simp [go_sem]
      have k3 : W.cell? ⟨w.heap.size, 3, none⟩ = some (.int .i64 v) := by subst hW; simp [go_sem]
      have k4 : W.cell? ⟨w.heap.size, 4, none⟩ = some (.int .i64 C) := by subst hW; simp [go_sem]
      have k5 : W.cell? ⟨w.heap.size + 1, 0, none⟩ = some (.int .i64 x') := by subst hW; simp [go_sem]
      have k6 : W.cell? ⟨w.heap.size + 1, 1, none⟩ = some (.int .i64 y') := by subst hW; simp [go_sem]
      have k7 : W.cell? ⟨w.heap.size + 1, 2, none⟩ = some (.int .i64 u') := by subst hW; simp [go_sem]
      have k8 : W.cell? ⟨w.heap.size + 1, 3, none⟩ = some (.int .i64 v') := by subst hW; simp [go_sem]
      have k9 : W.cell? ⟨w.heap.size + 1, 4, none⟩ = some (.int .i64 C) := by subst hW; simp [go_sem]
      clear hW
      refine (HT.out _).mono ?_
      rintro e w1 ⟨rfl, hb⟩
      go_wp2_with (go_at_call 44; refine (within_any _ _ _ _).mono ?_; rintro e w1 ⟨rfl, rfl⟩)
      go_loopw [8, 9] (fun o i wr => ∃ k : Nat, k ≤ C + 1 ∧ i = .int .i64 k ∧ OwnL W.heap.size wr o (chL (ccD x y u v x' y' u' v' C d) k) ∧ Below W.heap.size W wr) (fun _ i _ => C + 1 - (intOf i).toNat)
      case atStart => exact ⟨0, by omega, rfl, OwnL.empty hb.size, up_alloc hb _⟩
      case round =>
        clear hb
        obtain ⟨k, hk, rfl, how, hb⟩ := hrel
        have q0 := up_keep hb k0; have q1 := up_keep hb k1; have q2 := up_keep hb k2; have q3 := up_keep hb k3; have q4 := up_keep hb k4
        have q5 := up_keep hb k5; have q6 := up_keep hb k6; have q7 := up_keep hb k7; have q8 := up_keep hb k8; have q9 := up_keep hb k9
        clear k0 k1 k2 k3 k4 k5 k6 k7 k8 k9
        by_cases hlt : k ≤ C
        · have hs := sqm_bd m1 m2 (show (0 : Int) ≤ k by omega) (show (k : Int) ≤ C by omega)
          obtain ⟨⟨t1, t2⟩, ⟨t3, t4⟩, ⟨s1, s2⟩, ⟨s3, s4⟩, s5, s6⟩ := hs
          have hp1 := mul_bd (a := d * d) (b := (C : Int)) (A := 6400) (B := 64) (by omega) (by omega) (by omega) (by omega)
          have hp2 := mul_bd (a := d * d * (C : Int)) (b := (C : Int)) (A := 409600) (B := 64) (by omega) (by omega) (by omega) (by omega)
          have HA := Lib.hid (fun W => placeAt_any x y u v C k m1 (by omega) (by omega) W)
          have HA' := Lib.hid (fun W => placeAt_any x' y' u' v' C k m2 (by omega) (by omega) W)
          have hlen := chL_len (ccD x y u v x' y' u' v' C d) k
          cases hq : ccD x y u v x' y' u' v' C d k with
          | true =>
            have HL := Lib.hid (show chL (ccD x y u v x' y' u' v' C d) (k + 1) = chL (ccD x y u v x' y' u' v' C d) k ++ [(k : Int)] by simp [chL, hq])
            have hlow : (pAt x u C k - pAt x' u' C k) * (pAt x u C k - pAt x' u' C k) + (pAt y v C k - pAt y' v' C k) * (pAt y v C k - pAt y' v' C k) < d * d * C * C := of_decide_eq_true hq
            generalize pAt x u C k = p at HA hlow s1 s2 s3 s4 t1 t2 t3 t4
            generalize pAt y v C k = q at HA hlow s1 s2 s3 s4 t1 t2 t3 t4
            generalize pAt x' u' C k = p' at HA' hlow s1 s2 s3 s4 t1 t2 t3 t4
            generalize pAt y' v' C k = q' at HA' hlow s1 s2 s3 s4 t1 t2 t3 t4
            clear hq
            go_wp2_with fail
            refine (HA.out _).mono ?_
            rintro e w1 ⟨rfl, hb1⟩
            have c4 := up_keep hb1 q4; have c5 := up_keep hb1 q5; have c6 := up_keep hb1 q6; have c7 := up_keep hb1 q7; have c8 := up_keep hb1 q8; have c9 := up_keep hb1 q9
            go_wp2_with fail
            refine (HA'.out _).mono ?_
            rintro e w2 ⟨rfl, hb2⟩
            have e4 := up_keep hb2 c4
            go_wp2_with (at_builtin; refine wpList_app_int rfl (.tmp 67) (.tmp 69) rfl W.heap.size _ (chL (ccD x y u v x' y' u' v' C d) k) rfl rfl (by simp) (OwnL.up how (by (repeat (first | with_reducible exact Below.refl _ _ | with_reducible assumption | with_reducible refine up_alloc ?_ _ | with_reducible refine up_drew ?_ | with_reducible refine up_drewN ?_ _ | (with_reducible refine up_set ?_ ?hset _; case hset => first | (simp; done) | (simp; omega) | omega) | with_reducible refine up_trans ?_ (by with_reducible assumption))))) (show Below W.heap.size W _ from (by (repeat (first | with_reducible exact Below.refl _ _ | with_reducible assumption | with_reducible refine up_alloc ?_ _ | with_reducible refine up_drew ?_ | with_reducible refine up_drewN ?_ _ | (with_reducible refine up_set ?_ ?hset _; case hset => first | (simp; done) | (simp; omega) | omega) | with_reducible refine up_trans ?_ (by with_reducible assumption))))).size (by omega) ?_; intro v2 w3 ho2 hb3; replace hb3 := (show Below W.heap.size W _ from (by (repeat (first | with_reducible exact Below.refl _ _ | with_reducible assumption | with_reducible refine up_alloc ?_ _ | with_reducible refine up_drew ?_ | with_reducible refine up_drewN ?_ _ | (with_reducible refine up_set ?_ ?hset _; case hset => first | (simp; done) | (simp; omega) | omega) | with_reducible refine up_trans ?_ (by with_reducible assumption))))).trans hb3)
            go_roundw
            case rel => exact ⟨k + 1, by omega, by go_num, by rw [HL.out]; exact ho2, hb3⟩
            case measure => simp [intOf]; omega
          | false =>
            have HL := Lib.hid (show chL (ccD x y u v x' y' u' v' C d) (k + 1) = chL (ccD x y u v x' y' u' v' C d) k by simp [chL, hq])
            have hlow : ¬ ((pAt x u C k - pAt x' u' C k) * (pAt x u C k - pAt x' u' C k) + (pAt y v C k - pAt y' v' C k) * (pAt y v C k - pAt y' v' C k) < d * d * C * C) := of_decide_eq_false hq
            generalize pAt x u C k = p at HA hlow s1 s2 s3 s4 t1 t2 t3 t4
            generalize pAt y v C k = q at HA hlow s1 s2 s3 s4 t1 t2 t3 t4
            generalize pAt x' u' C k = p' at HA' hlow s1 s2 s3 s4 t1 t2 t3 t4
            generalize pAt y' v' C k = q' at HA' hlow s1 s2 s3 s4 t1 t2 t3 t4
            clear hq
            go_wp2_with fail
            refine (HA.out _).mono ?_
            rintro e w1 ⟨rfl, hb1⟩
            have c4 := up_keep hb1 q4; have c5 := up_keep hb1 q5; have c6 := up_keep hb1 q6; have c7 := up_keep hb1 q7; have c8 := up_keep hb1 q8; have c9 := up_keep hb1 q9
            go_wp2_with fail
            refine (HA'.out _).mono ?_
            rintro e w2 ⟨rfl, hb2⟩
            have e4 := up_keep hb2 c4
            go_wp2_with fail
            go_roundw
            case rel => exact ⟨k + 1, by omega, by go_num, by rw [HL.out]; exact how.up (by (repeat (first | with_reducible exact Below.refl _ _ | with_reducible assumption | with_reducible refine up_alloc ?_ _ | with_reducible refine up_drew ?_ | with_reducible refine up_drewN ?_ _ | (with_reducible refine up_set ?_ ?hset _; case hset => first | (simp; done) | (simp; omega) | omega) | with_reducible refine up_trans ?_ (by with_reducible assumption)))), by (repeat (first | with_reducible exact Below.refl _ _ | with_reducible assumption | with_reducible refine up_alloc ?_ _ | with_reducible refine up_drew ?_ | with_reducible refine up_drewN ?_ _ | (with_reducible refine up_set ?_ ?hset _; case hset => first | (simp; done) | (simp; omega) | omega) | with_reducible refine up_trans ?_ (by with_reducible assumption)))⟩
            case measure => simp [intOf]; omega
        · have e : k = C + 1 := by omega
          subst e
          have hbw := hbW.trans (hb.mono hbW.size)
          go_wp2_with fail
          go_ret2
          exact ⟨_, rfl, by unfold ccL; rw [show ((C : Int)).toNat = C by omega]; exact (how.ownI.more hbW.size), hbw⟩
end Go.Proofs.Ytljdhicmcmppgaa
namespace Go.Proofs.Ytljdhicmcmppgaa
open Go.RowKit Go.ChangeShapes Go.WideShapes Go.Sort

/-- The least square of two moves. -/
def apM (x y u v x' y' u' v' : Int) : Int × Int :=
  ap (x - x') (y - y') (u - u' - (x - x')) (v - v' - (y - y')) ((x - x') * (u - u' - (x - x')) + (y - y') * (v - v' - (y - y'))) ((u - u' - (x - x')) * (u - u' - (x - x')) + (v - v' - (y - y')) * (v - v' - (y - y')))
theorem lowB_pos {a b : Int} (hb : 0 < b) : 1 ≤ lowB a b := by
  unfold lowB
  have hg : 0 < (Int.gcd a b : Int) := by
    have := Int.gcd_pos_of_ne_zero_right a (show b ≠ 0 by omega)
    omega
  have h1 : (b / (Int.gcd a b : Int)) * (Int.gcd a b : Int) = b := Int.ediv_mul_cancel (Int.gcd_dvd_right ..)
  have h2 : 0 ≤ b / (Int.gcd a b : Int) := Int.ediv_nonneg (by omega) (by omega)
  rcases Int.lt_or_eq_of_le h2 with h | h
  · omega
  · rw [← h, Int.zero_mul] at h1; omega
theorem lowA_bd {a b : Int} (ha : 0 ≤ a) : 0 ≤ lowA a b ∧ lowA a b ≤ a := by
  unfold lowA
  exact ⟨Int.ediv_nonneg ha (by omega), Int.ediv_le_self _ ha⟩
theorem lowB_le {a b : Int} (hb : 0 ≤ b) : lowB a b ≤ b := by
  unfold lowB
  exact Int.ediv_le_self _ hb
theorem apM_bd {x y u v c x' y' u' v' c' : Int} (hm : moveB x y u v c = true) (hm' : moveB x' y' u' v' c' = true) :
    (0 ≤ (apM x y u v x' y' u' v').1 ∧ (apM x y u v x' y' u' v').1 ≤ 11838003609600) ∧ 1 ≤ (apM x y u v x' y' u' v').2 ∧ (apM x y u v x' y' u' v').2 ≤ 8359936 := by
  have h := Way.mk' x y u v x' y' u' v'
  have hB := h.bd hm hm'
  have hq := h.sq1
  have hc := cross_bd hB
  have k6 : 0 ≤ (u - u' - (x - x')) * (u - u' - (x - x')) + (v - v' - (y - y')) * (v - v' - (y - y')) ∧ (u - u' - (x - x')) * (u - u' - (x - x')) + (v - v' - (y - y')) * (v - v' - (y - y')) ≤ 8359936 := by
    have := hB.c1; have := hB.c2; have := hB.d1; have := hB.d2; omega
  unfold apM
  generalize (x - x') * (u - u' - (x - x')) + (y - y') * (v - v' - (y - y')) = dot at *
  generalize (u - u' - (x - x')) * (u - u' - (x - x')) + (v - v' - (y - y')) * (v - v' - (y - y')) = sz at *
  generalize x - x' = px at *
  generalize y - y' = py at *
  generalize u - u' - px = vx at *
  generalize v - v' - py = vy at *
  obtain ⟨p1, p2, p3, p4, v1, v2, v3, v4, a1, a2, b1, b2, c1, c2, d1, d2, e1, e2, f1, f2, g1, g2, h1, h2⟩ := hB
  have m1 := mul_bd (a := px + vx) (b := px + vx) (A := 3840) (B := 3840) (by omega) (by omega) (by omega) (by omega)
  have m2 := mul_bd (a := py + vy) (b := py + vy) (A := 2016) (B := 2016) (by omega) (by omega) (by omega) (by omega)
  have n1 := sq_nonneg (px + vx)
  have n2 := sq_nonneg (py + vy)
  unfold ap
  split
  · simp only; omega
  · split
    · simp only; omega
    · have l1 := lowA_bd (a := (px * vy - py * vx) * (px * vy - py * vx)) (b := sz) hc.1
      have l2 := lowB_pos (a := (px * vy - py * vx) * (px * vy - py * vx)) (b := sz) (by omega)
      have l3 := lowB_le (a := (px * vy - py * vx) * (px * vy - py * vx)) (b := sz) (by omega)
      simp only
      omega
/-- Do they stay so far apart? -/
def saB (x y u v x' y' u' v' d : Int) : Bool := decide (d * d * (apM x y u v x' y' u' v').2 ≤ (apM x y u v x' y' u' v').1)
theorem leastApart_m (x y u v c x' y' u' v' c' : Int) (hm : moveB x y u v c = true) (hm' : moveB x' y' u' v' c' = true) (w : World) :
    Calls Try.prog 35 #[.agg #[.int .i64 x, .int .i64 y, .int .i64 u, .int .i64 v, .int .i64 c], .agg #[.int .i64 x', .int .i64 y', .int .i64 u', .int .i64 v', .int .i64 c']] w
      (Ans w (.tuple #[.int .i64 (apM x y u v x' y' u' v').1, .int .i64 (apM x y u v x' y' u' v').2])) := leastApart_any x y u v c x' y' u' v' c' _ _ _ _ _ _ (Way.mk' x y u v x' y' u' v') hm hm' w
theorem apLeast_m (x y u v c x' y' u' v' c' : Int) (hm : moveB x y u v c = true) (hm' : moveB x' y' u' v' c' = true) (w : World) :
    Calls Try.prog 37 #[.agg #[.int .i64 x, .int .i64 y, .int .i64 u, .int .i64 v, .int .i64 c], .agg #[.int .i64 x', .int .i64 y', .int .i64 u', .int .i64 v', .int .i64 c']] w
      (Ans w (.tuple #[.int .i64 (apM x y u v x' y' u' v').1, .int .i64 (apM x y u v x' y' u' v').2])) := apLeast_any x y u v c x' y' u' v' c' _ _ _ _ _ _ (Way.mk' x y u v x' y' u' v') hm hm' w
set_option maxRecDepth 100000 in
set_option maxHeartbeats 1000000 in
theorem stayApart_any (x y u v c x' y' u' v' c' d : Int) (hm : moveB x y u v c = true) (hm' : moveB x' y' u' v' c' = true) (h0 : 0 ≤ d) (h1 : d ≤ 80) (w : World) :
    Calls Try.prog 45 #[.agg #[.int .i64 x, .int .i64 y, .int .i64 u, .int .i64 v, .int .i64 c], .agg #[.int .i64 x', .int .i64 y', .int .i64 u', .int .i64 v', .int .i64 c'], .int .i64 d] w (Ans w (.bool (saB x y u v x' y' u' v' d))) := by
  have HL := Lib.hid (leastApart_m x y u v c x' y' u' v' c' hm hm')
  have hbd := apM_bd hm hm'
  have HS := Lib.hid (show saB x y u v x' y' u' v' d = decide (d * d * (apM x y u v x' y' u' v').2 ≤ (apM x y u v x' y' u' v').1) from rfl)
  generalize apM x y u v x' y' u' v' = r at *
  obtain ⟨p, q⟩ := r
  simp only at hbd HS HL
  obtain ⟨⟨b1, b2⟩, b3, b4⟩ := hbd
  obtain ⟨m1, m2⟩ := mul_bd (a := d) (b := d) (A := 80) (B := 80) (by omega) (by omega) (by omega) (by omega)
  obtain ⟨m3, m4⟩ := mul_bd (a := d * d) (b := q) (A := 6400) (B := 8359936) (by omega) (by omega) (by omega) (by omega)
  clear hm hm'
  go_enter Try.func45, Try.ntmps45
  go_wp2_with (first | (go_at_call 35; refine (from0 (HL.out _) (by first | exact hb0 | exact up_alloc hb0 _ | exact up_drew hb0 | exact up_drewN hb0 _ | exact Below.refl _ _)).mono ?_; rintro e w1 ⟨rfl, hb0⟩; obtain ⟨hc0, hf0⟩ := bcell hb0))
  go_ret
  exact Ans.bool (by rw [HS.out]) (by (repeat (first | with_reducible exact Below.refl _ _ | with_reducible assumption | with_reducible refine up_alloc ?_ _ | with_reducible refine up_drew ?_ | with_reducible refine up_drewN ?_ _ | (with_reducible refine up_set ?_ ?hset _; case hset => first | (simp; done) | (simp; omega) | omega) | with_reducible refine up_trans ?_ (by with_reducible assumption))))
set_option maxRecDepth 100000 in
set_option maxHeartbeats 1000000 in
theorem apStay_any (x y u v c x' y' u' v' c' d : Int) (hm : moveB x y u v c = true) (hm' : moveB x' y' u' v' c' = true) (h0 : 0 ≤ d) (h1 : d ≤ 80) (w : World) :
    Calls Try.prog 47 #[.agg #[.int .i64 x, .int .i64 y, .int .i64 u, .int .i64 v, .int .i64 c], .agg #[.int .i64 x', .int .i64 y', .int .i64 u', .int .i64 v', .int .i64 c'], .int .i64 d] w (Ans w (.bool (saB x y u v x' y' u' v' d))) := by
  have HL := Lib.hid (apLeast_m x y u v c x' y' u' v' c' hm hm')
  have hbd := apM_bd hm hm'
  have HS := Lib.hid (show saB x y u v x' y' u' v' d = decide (d * d * (apM x y u v x' y' u' v').2 ≤ (apM x y u v x' y' u' v').1) from rfl)
  generalize apM x y u v x' y' u' v' = r at *
  obtain ⟨p, q⟩ := r
  simp only at hbd HS HL
  obtain ⟨⟨b1, b2⟩, b3, b4⟩ := hbd
  obtain ⟨m1, m2⟩ := mul_bd (a := d) (b := d) (A := 80) (B := 80) (by omega) (by omega) (by omega) (by omega)
  obtain ⟨m3, m4⟩ := mul_bd (a := d * d) (b := q) (A := 6400) (B := 8359936) (by omega) (by omega) (by omega) (by omega)
  clear hm hm'
  go_enter Try.func47, Try.ntmps47
  go_wp2_with (first | (go_at_call 37; refine (from0 (HL.out _) (by first | exact hb0 | exact up_alloc hb0 _ | exact up_drew hb0 | exact up_drewN hb0 _ | exact Below.refl _ _)).mono ?_; rintro e w1 ⟨rfl, hb0⟩; obtain ⟨hc0, hf0⟩ := bcell hb0))
  go_ret
  exact Ans.bool (by rw [HS.out]) (by (repeat (first | with_reducible exact Below.refl _ _ | with_reducible assumption | with_reducible refine up_alloc ?_ _ | with_reducible refine up_drew ?_ | with_reducible refine up_drewN ?_ _ | (with_reducible refine up_set ?_ ?hset _; case hset => first | (simp; done) | (simp; omega) | omega) | with_reducible refine up_trans ?_ (by with_reducible assumption))))
set_option maxHeartbeats 400000 in
theorem apDist_any (d : Int) (w : World) : Calls Try.prog 46 #[.int .i64 d] w fun e w' => e = .returned (.bool (inB d 0 80)) ∧ w = w' := by
  go_enter Try.func46, Try.ntmps46
  go_wp2_with (go_at_call 52; refine (l1In_any _ _ _ _).mono ?_; rintro e w1 ⟨rfl, rfl⟩)
  go_ret
  exact ⟨rfl, rfl⟩
def saOk (x y u v c x' y' u' v' c' d : Int) : Bool := togB x y u v c x' y' u' v' c' && inB d 0 80
def saV (x y u v c x' y' u' v' c' d : Int) : Value := .tuple #[.bool (saOk x y u v c x' y' u' v' c' d && saB x y u v x' y' u' v' d), .bool (saOk x y u v c x' y' u' v' c' d)]
set_option maxRecDepth 100000 in
set_option maxHeartbeats 1000000 in
theorem iStayApart_any (x y u v c x' y' u' v' c' d : Int) (w : World) :
    Calls Try.prog 11 #[.agg #[.int .i64 x, .int .i64 y, .int .i64 u, .int .i64 v, .int .i64 c], .agg #[.int .i64 x', .int .i64 y', .int .i64 u', .int .i64 v', .int .i64 c'], .int .i64 d] w (Ans w (saV x y u v c x' y' u' v' c' d)) := by
  have HT := Lib.hid (goTogether_any x y u v c x' y' u' v' c')
  cases ht : togB x y u v c x' y' u' v' c' with
  | false =>
    have HV := Lib.hid (show saV x y u v c x' y' u' v' c' d = .tuple #[.bool false, .bool false] by simp [saV, saOk, ht])
    rw [ht] at HT
    clear ht
    go_enter Try.func11, Try.ntmps11
    go_wp2_with (first | (go_at_call 34; refine (from0 (HT.out _) (by first | exact hb0 | exact up_alloc hb0 _ | exact up_drew hb0 | exact up_drewN hb0 _ | exact Below.refl _ _)).mono ?_; rintro e w1 ⟨rfl, hb0⟩; obtain ⟨hc0, hf0⟩ := bcell hb0; have hz0 := hb0.size; simp at hz0; have hz1 : w.heap.size < w1.heap.size := (by omega); try have hz2 : w.heap.size + 1 < w1.heap.size := (by omega)))
    go_ret2
    rw [HV.out]
    exact ⟨rfl, by (repeat (first | with_reducible exact Below.refl _ _ | with_reducible assumption | with_reducible refine up_alloc ?_ _ | with_reducible refine up_drew ?_ | with_reducible refine up_drewN ?_ _ | (with_reducible refine up_set ?_ ?hset _; case hset => first | (simp; done) | (simp; omega) | omega) | with_reducible refine up_trans ?_ (by with_reducible assumption)))⟩
  | true =>
    rw [ht] at HT
    have hm := togB_iff.1 ht
    cases hd : inB d 0 80 with
    | false =>
      have HV := Lib.hid (show saV x y u v c x' y' u' v' c' d = .tuple #[.bool false, .bool false] by simp [saV, saOk, hd])
      clear ht hm
      go_enter Try.func11, Try.ntmps11
      go_wp2_with (first | (go_at_call 34; refine (from0 (HT.out _) (by first | exact hb0 | exact up_alloc hb0 _ | exact up_drew hb0 | exact up_drewN hb0 _ | exact Below.refl _ _)).mono ?_; rintro e w1 ⟨rfl, hb0⟩; obtain ⟨hc0, hf0⟩ := bcell hb0; have hz0 := hb0.size; simp at hz0; have hz1 : w.heap.size < w1.heap.size := (by omega); try have hz2 : w.heap.size + 1 < w1.heap.size := (by omega)) | (go_at_call 44; refine (within_any _ _ _ _).mono ?_; rintro e w1 ⟨rfl, rfl⟩))
      go_ret2
      rw [HV.out]
      exact ⟨rfl, by (repeat (first | with_reducible exact Below.refl _ _ | with_reducible assumption | with_reducible refine up_alloc ?_ _ | with_reducible refine up_drew ?_ | with_reducible refine up_drewN ?_ _ | (with_reducible refine up_set ?_ ?hset _; case hset => first | (simp; done) | (simp; omega) | omega) | with_reducible refine up_trans ?_ (by with_reducible assumption)))⟩
    | true =>
      obtain ⟨d1, d2⟩ := inB_iff.1 hd
      have HV := Lib.hid (show saV x y u v c x' y' u' v' c' d = .tuple #[.bool (saB x y u v x' y' u' v' d), .bool true] by simp [saV, saOk, hd, ht])
      have HL := Lib.hid (stayApart_any x y u v c x' y' u' v' c' d hm.1.1 hm.1.2 d1 d2)
      generalize saB x y u v x' y' u' v' d = q at *
      clear ht hm
      go_enter Try.func11, Try.ntmps11
      go_wp2_with (first | (go_at_call 34; refine (from0 (HT.out _) (by first | exact hb0 | exact up_alloc hb0 _ | exact up_drew hb0 | exact up_drewN hb0 _ | exact Below.refl _ _)).mono ?_; rintro e w1 ⟨rfl, hb0⟩; obtain ⟨hc0, hf0⟩ := bcell hb0; have hz0 := hb0.size; simp at hz0; have hz1 : w.heap.size < w1.heap.size := (by omega); try have hz2 : w.heap.size + 1 < w1.heap.size := (by omega)) | (go_at_call 44; refine (within_any _ _ _ _).mono ?_; rintro e w1 ⟨rfl, rfl⟩) | (go_at_call 45; refine (from0 (HL.out _) (by first | exact hb0 | exact up_alloc hb0 _ | exact up_drew hb0 | exact up_drewN hb0 _ | exact Below.refl _ _)).mono ?_; rintro e w1 ⟨rfl, hb0⟩; obtain ⟨hc0, hf0⟩ := bcell hb0))
      go_ret2
      rw [HV.out]
      exact ⟨rfl, by (repeat (first | with_reducible exact Below.refl _ _ | with_reducible assumption | with_reducible refine up_alloc ?_ _ | with_reducible refine up_drew ?_ | with_reducible refine up_drewN ?_ _ | (with_reducible refine up_set ?_ ?hset _; case hset => first | (simp; done) | (simp; omega) | omega) | with_reducible refine up_trans ?_ (by with_reducible assumption)))⟩
set_option maxRecDepth 100000 in
set_option maxHeartbeats 1000000 in
theorem sStayApart_any (x y u v c x' y' u' v' c' d : Int) (w : World) :
    Calls Try.prog 12 #[.agg #[.int .i64 x, .int .i64 y, .int .i64 u, .int .i64 v, .int .i64 c], .agg #[.int .i64 x', .int .i64 y', .int .i64 u', .int .i64 v', .int .i64 c'], .int .i64 d] w (Ans w (saV x y u v c x' y' u' v' c' d)) := by
  have HT := Lib.hid (apGood_any x y u v c x' y' u' v' c')
  cases ht : togB x y u v c x' y' u' v' c' with
  | false =>
    have HV := Lib.hid (show saV x y u v c x' y' u' v' c' d = .tuple #[.bool false, .bool false] by simp [saV, saOk, ht])
    rw [ht] at HT
    clear ht
    go_enter Try.func12, Try.ntmps12
    go_wp2_with (first | (go_at_call 36; refine (from0 (HT.out _) (by first | exact hb0 | exact up_alloc hb0 _ | exact up_drew hb0 | exact up_drewN hb0 _ | exact Below.refl _ _)).mono ?_; rintro e w1 ⟨rfl, hb0⟩; obtain ⟨hc0, hf0⟩ := bcell hb0; have hz0 := hb0.size; simp at hz0; have hz1 : w.heap.size < w1.heap.size := (by omega); try have hz2 : w.heap.size + 1 < w1.heap.size := (by omega)))
    go_ret2
    rw [HV.out]
    exact ⟨rfl, by (repeat (first | with_reducible exact Below.refl _ _ | with_reducible assumption | with_reducible refine up_alloc ?_ _ | with_reducible refine up_drew ?_ | with_reducible refine up_drewN ?_ _ | (with_reducible refine up_set ?_ ?hset _; case hset => first | (simp; done) | (simp; omega) | omega) | with_reducible refine up_trans ?_ (by with_reducible assumption)))⟩
  | true =>
    rw [ht] at HT
    have hm := togB_iff.1 ht
    cases hd : inB d 0 80 with
    | false =>
      have HV := Lib.hid (show saV x y u v c x' y' u' v' c' d = .tuple #[.bool false, .bool false] by simp [saV, saOk, hd])
      clear ht hm
      go_enter Try.func12, Try.ntmps12
      go_wp2_with (first | (go_at_call 36; refine (from0 (HT.out _) (by first | exact hb0 | exact up_alloc hb0 _ | exact up_drew hb0 | exact up_drewN hb0 _ | exact Below.refl _ _)).mono ?_; rintro e w1 ⟨rfl, hb0⟩; obtain ⟨hc0, hf0⟩ := bcell hb0; have hz0 := hb0.size; simp at hz0; have hz1 : w.heap.size < w1.heap.size := (by omega); try have hz2 : w.heap.size + 1 < w1.heap.size := (by omega)) | (go_at_call 46; refine (apDist_any _ _).mono ?_; rintro e w1 ⟨rfl, rfl⟩))
      go_ret2
      rw [HV.out]
      exact ⟨rfl, by (repeat (first | with_reducible exact Below.refl _ _ | with_reducible assumption | with_reducible refine up_alloc ?_ _ | with_reducible refine up_drew ?_ | with_reducible refine up_drewN ?_ _ | (with_reducible refine up_set ?_ ?hset _; case hset => first | (simp; done) | (simp; omega) | omega) | with_reducible refine up_trans ?_ (by with_reducible assumption)))⟩
    | true =>
      obtain ⟨d1, d2⟩ := inB_iff.1 hd
      have HV := Lib.hid (show saV x y u v c x' y' u' v' c' d = .tuple #[.bool (saB x y u v x' y' u' v' d), .bool true] by simp [saV, saOk, hd, ht])
      have HL := Lib.hid (apStay_any x y u v c x' y' u' v' c' d hm.1.1 hm.1.2 d1 d2)
      generalize saB x y u v x' y' u' v' d = q at *
      clear ht hm
      go_enter Try.func12, Try.ntmps12
      go_wp2_with (first | (go_at_call 36; refine (from0 (HT.out _) (by first | exact hb0 | exact up_alloc hb0 _ | exact up_drew hb0 | exact up_drewN hb0 _ | exact Below.refl _ _)).mono ?_; rintro e w1 ⟨rfl, hb0⟩; obtain ⟨hc0, hf0⟩ := bcell hb0; have hz0 := hb0.size; simp at hz0; have hz1 : w.heap.size < w1.heap.size := (by omega); try have hz2 : w.heap.size + 1 < w1.heap.size := (by omega)) | (go_at_call 46; refine (apDist_any _ _).mono ?_; rintro e w1 ⟨rfl, rfl⟩) | (go_at_call 47; refine (from0 (HL.out _) (by first | exact hb0 | exact up_alloc hb0 _ | exact up_drew hb0 | exact up_drewN hb0 _ | exact Below.refl _ _)).mono ?_; rintro e w1 ⟨rfl, hb0⟩; obtain ⟨hc0, hf0⟩ := bcell hb0))
      go_ret2
      rw [HV.out]
      exact ⟨rfl, by (repeat (first | with_reducible exact Below.refl _ _ | with_reducible assumption | with_reducible refine up_alloc ?_ _ | with_reducible refine up_drew ?_ | with_reducible refine up_drewN ?_ _ | (with_reducible refine up_set ?_ ?hset _; case hset => first | (simp; done) | (simp; omega) | omega) | with_reducible refine up_trans ?_ (by with_reducible assumption)))⟩
end Go.Proofs.Ytljdhicmcmppgaa
namespace Go.Proofs.Ytljdhicmcmppgaa
open Go.RowKit Go.Lib

/-- a / b is less than c / d. -/
def lessB (a b c d : Int) : Bool := decide (a * d < c * b)
theorem less_quo {a b c d : Int} (ha : 0 ≤ a) (hb : 0 < b) (hc : 0 ≤ c) (hd : 0 < d) :
    (Int.tdiv a b < Int.tdiv c d → a * d < c * b) ∧ (Int.tdiv c d < Int.tdiv a b → ¬ a * d < c * b) ∧ (Int.tdiv a b = Int.tdiv c d → (a * d < c * b ↔ Int.tmod a b * d < Int.tmod c d * b)) := by
  have e1 := Int.mul_tdiv_add_tmod a b
  have e2 := Int.mul_tdiv_add_tmod c d
  have r1 := Int.tmod_nonneg b ha
  have r2 := Int.tmod_lt_of_pos a hb
  have s1 := Int.tmod_nonneg d hc
  have s2 := Int.tmod_lt_of_pos c hd
  generalize Int.tdiv a b = q at *
  generalize Int.tdiv c d = s at *
  generalize Int.tmod a b = r at *
  generalize Int.tmod c d = t at *
  have ea : a * d = b * d * q + r * d := by rw [← e1]; grind
  have ec : c * b = b * d * s + t * b := by rw [← e2]; grind
  have hD : 0 < b * d := Int.mul_pos hb hd
  have p1 : 0 ≤ r * d := Int.mul_nonneg r1 (by omega)
  have p2 : r * d < b * d := Int.mul_lt_mul_of_pos_right r2 hd
  have p3 : 0 ≤ t * b := Int.mul_nonneg s1 (by omega)
  have p4 : t * b < b * d := by rw [Int.mul_comm b d]; exact Int.mul_lt_mul_of_pos_right s2 hb
  rw [ea, ec]
  refine ⟨fun h => ?_, fun h => ?_, fun h => ?_⟩
  · have h1 : b * d * (q + 1) ≤ b * d * s := Int.mul_le_mul_of_nonneg_left (by omega) (by omega)
    rw [Int.mul_add, Int.mul_one] at h1
    omega
  · have h1 : b * d * (s + 1) ≤ b * d * q := Int.mul_le_mul_of_nonneg_left (by omega) (by omega)
    rw [Int.mul_add, Int.mul_one] at h1
    omega
  · subst h
    omega
set_option maxHeartbeats 1000000 in
theorem apLess_any (a b c d : Int) (ha : 0 ≤ a) (ha' : a ≤ 11838003609600) (hb : 1 ≤ b) (hb' : b ≤ 8359936) (hc : 0 ≤ c) (hc' : c ≤ 11838003609600) (hd : 1 ≤ d) (hd' : d ≤ 8359936) (w : World) :
    Calls Try.prog 74 #[.int .i64 a, .int .i64 b, .int .i64 c, .int .i64 d] w (Ans w (.bool (lessB a b c d))) := by
  have hL := less_quo ha (show 0 < b by omega) hc (show 0 < d by omega)
  have e1 := Int.mul_tdiv_add_tmod a b
  have r1 := Int.tmod_nonneg b ha
  have r2 := Int.tmod_lt_of_pos a (show 0 < b by omega)
  have s1 := Int.tmod_nonneg d hc
  have s2 := Int.tmod_lt_of_pos c (show 0 < d by omega)
  have q1 : 0 ≤ Int.tdiv a b := Int.tdiv_nonneg ha (by omega)
  have q2 : Int.tdiv a b ≤ a := by rw [Int.tdiv_eq_ediv_of_nonneg ha]; exact Int.ediv_le_self _ ha
  have q3 : 0 ≤ Int.tdiv c d := Int.tdiv_nonneg hc (by omega)
  have q4 : Int.tdiv c d ≤ c := by rw [Int.tdiv_eq_ediv_of_nonneg hc]; exact Int.ediv_le_self _ hc
  have m1 := mul_bd (a := Int.tmod a b) (b := d) (A := 8359936) (B := 8359936) (by omega) (by omega) (by omega) (by omega)
  have m2 := mul_bd (a := Int.tmod c d) (b := b) (A := 8359936) (B := 8359936) (by omega) (by omega) (by omega) (by omega)
  have t1 := Int.tmod_eq_emod_of_nonneg (b := b) ha
  have t2 := Int.tmod_eq_emod_of_nonneg (b := d) hc
  rw [t1] at r1 r2 m1 hL
  rw [t2] at s1 s2 m2 hL
  obtain ⟨m1, m3⟩ := m1
  obtain ⟨m2, m4⟩ := m2
  clear t1 t2
  have nb : b ≠ 0 := by omega
  have nd : d ≠ 0 := by omega
  have z1 : IntKind.i64.wrap (Int.tdiv a b) = Int.tdiv a b := IntWalk.i64_in _ (by omega)
  have z2 : IntKind.i64.wrap (Int.tdiv c d) = Int.tdiv c d := IntWalk.i64_in _ (by omega)
  have z3 : IntKind.i64.wrap (a % b) = a % b := IntWalk.i64_in _ (by omega)
  have z4 : IntKind.i64.wrap (c % d) = c % d := IntWalk.i64_in _ (by omega)
  have z5 : IntKind.i64.wrap (a % b * d) = a % b * d := IntWalk.i64_in _ (by omega)
  have z6 : IntKind.i64.wrap (c % d * b) = c % d * b := IntWalk.i64_in _ (by omega)
  by_cases hq : Int.tdiv a b = Int.tdiv c d
  · have HL := Lib.hid (show lessB a b c d = decide (a % b * d < c % d * b) by unfold lessB; exact decide_eq_decide.2 (hL.2.2 hq))
    have hne : (Int.tdiv a b != Int.tdiv c d) = false := by simp [hq]
    clear hL e1 hq
    go_enter Try.func74, Try.ntmps74
    go_wp2_with fail
    go_quiet (fail)
    go_wp2_with fail
    go_quiet (fail)
    go_wp2_with fail
    go_ret
    exact Ans.bool (by rw [HL.out]) (by (repeat (first | with_reducible exact Below.refl _ _ | with_reducible assumption | with_reducible refine up_alloc ?_ _ | with_reducible refine up_drew ?_ | with_reducible refine up_drewN ?_ _ | (with_reducible refine up_set ?_ ?hset _; case hset => first | (simp; done) | (simp; omega) | omega) | with_reducible refine up_trans ?_ (by with_reducible assumption))))
  · have hne : (Int.tdiv a b != Int.tdiv c d) = true := by simp [hq]
    have HL := Lib.hid (show lessB a b c d = decide (Int.tdiv a b < Int.tdiv c d) by
      unfold lessB
      refine decide_eq_decide.2 ⟨fun h => ?_, hL.1⟩
      rcases Int.lt_or_gt_of_ne hq with h' | h'
      · exact h'
      · exact absurd h (hL.2.1 h'))
    clear hL e1 hq
    go_enter Try.func74, Try.ntmps74
    go_wp2_with fail
    go_quiet (fail)
    go_wp2_with fail
    go_quiet (fail)
    go_wp2_with fail
    go_ret
    exact Ans.bool (by rw [HL.out]) (by (repeat (first | with_reducible exact Below.refl _ _ | with_reducible assumption | with_reducible refine up_alloc ?_ _ | with_reducible refine up_drew ?_ | with_reducible refine up_drewN ?_ _ | (with_reducible refine up_set ?_ ?hset _; case hset => first | (simp; done) | (simp; omega) | omega) | with_reducible refine up_trans ?_ (by with_reducible assumption))))
def hiN (x y : Nat) : Nat := x * y / 18446744073709551616
def loN (x y : Nat) : Nat := x * y % 18446744073709551616
theorem hilo (x y u v : Nat) : x * y < u * v ↔ (hiN x y < hiN u v ∨ (hiN x y = hiN u v ∧ loN x y < loN u v)) := by
  unfold hiN loN; omega
set_option maxHeartbeats 1000000 in
theorem mul64_any (x y : Nat) (hx : x < 18446744073709551616) (hy : y < 18446744073709551616) (w : World) :
    Calls Try.prog 80 #[.int .u64 x, .int .u64 y] w fun e w' => e = .returned (.tuple #[.int .u64 (hiN x y : Int), .int .u64 (loN x y : Int)]) ∧ w = w' := by
  have HH := Lib.hid (show hiN x y = x * y / 18446744073709551616 from rfl)
  have HLo := Lib.hid (show loN x y = x * y % 18446744073709551616 from rfl)
  obtain ⟨bd, bt, bw, hhi⟩ := Lib.mul64_hi x y hx hy
  have ba := Lib.half_mul_le (a := x / 4294967296) (b := y / 4294967296) (by omega) (by omega)
  have bb := Lib.half_mul_le (a := x / 4294967296) (b := y % 4294967296) (by omega) (by omega)
  have bc := Lib.half_mul_le (a := x % 4294967296) (b := y / 4294967296) (by omega) (by omega)
  have ba' : x / 4294967296 * (y / 4294967296) < 18446744073709551616 := by omega
  have bb' : x / 4294967296 * (y % 4294967296) < 18446744073709551616 := by omega
  have bc' : x % 4294967296 * (y / 4294967296) < 18446744073709551616 := by omega
  have bh1 : x / 4294967296 * (y / 4294967296) + (x / 4294967296 * (y % 4294967296) + x % 4294967296 * (y % 4294967296) / 4294967296) / 4294967296 < 18446744073709551616 := by omega
  have bh : x / 4294967296 * (y / 4294967296) + (x / 4294967296 * (y % 4294967296) + x % 4294967296 * (y % 4294967296) / 4294967296) / 4294967296 + ((x / 4294967296 * (y % 4294967296) + x % 4294967296 * (y % 4294967296) / 4294967296) % 4294967296 + x % 4294967296 * (y / 4294967296)) / 4294967296 < 18446744073709551616 := by omega
  go_enter Try.func80, Try.ntmps80
  go_wp2
  simp only [Mul64.maskN x hx, Mul64.maskN y hy, Mul64.divN, Mul64.mulN, Mul64.addN, Mul64.wrapN _ bd, Mul64.wrapN _ bb', Mul64.wrapN _ bt, Mul64.maskN _ bt, Mul64.wrapN _ bc', Mul64.wrapN _ bw, Mul64.wrapN _ ba', Mul64.wrapN _ bh1, Mul64.wrapN _ bh, Mul64.wrapM (x * y)]
  rw [hhi]
  go_ret2
  rw [HH.out, HLo.out]
  exact ⟨rfl, rfl⟩
set_option maxHeartbeats 1000000 in
theorem lessFraction_any (a b c d : Int) (ha : 0 ≤ a) (ha' : a ≤ 11838003609600) (hb : 1 ≤ b) (hb' : b ≤ 8359936) (hc : 0 ≤ c) (hc' : c ≤ 11838003609600) (hd : 1 ≤ d) (hd' : d ≤ 8359936) (w : World) :
    Calls Try.prog 73 #[.int .i64 a, .int .i64 b, .int .i64 c, .int .i64 d] w (Ans w (.bool (lessB a b c d))) := by
  obtain ⟨A, rfl⟩ := Int.eq_ofNat_of_zero_le ha
  obtain ⟨B, rfl⟩ := Int.eq_ofNat_of_zero_le (show 0 ≤ b by omega)
  obtain ⟨C, rfl⟩ := Int.eq_ofNat_of_zero_le hc
  obtain ⟨D, rfl⟩ := Int.eq_ofNat_of_zero_le (show 0 ≤ d by omega)
  have h1 := Lib.hid (mul64_any A D (by omega) (by omega))
  have h2 := Lib.hid (mul64_any C B (by omega) (by omega))
  have hcmp : lessB (A : Int) (B : Int) (C : Int) (D : Int) = (decide (hiN A D < hiN C B) || (decide (hiN A D = hiN C B) && decide (loN A D < loN C B))) := by
    have e : (((A : Int) * (D : Int) < (C : Int) * (B : Int)) ↔ A * D < C * B) := by
      rw [show (A : Int) * (D : Int) = ((A * D : Nat) : Int) by simp, show (C : Int) * (B : Int) = ((C * B : Nat) : Int) by simp]; omega
    have := e.trans (hilo A D C B)
    unfold lessB
    rw [Bool.eq_iff_iff]
    simp only [decide_eq_true_eq, Bool.or_eq_true, Bool.and_eq_true]
    exact this
  have HC := Lib.hid hcmp
  clear hcmp
  generalize hiN A D = p at *
  generalize loN A D = q at *
  generalize hiN C B = r at *
  generalize loN C B = s at *
  go_enter Try.func73, Try.ntmps73
  go_wp2_with (go_at_call 80; first | ((with_reducible refine (h1.out _).mono ?_); rintro e w1 ⟨rfl, rfl⟩) | ((with_reducible refine (h2.out _).mono ?_); rintro e w1 ⟨rfl, rfl⟩))
  all_goals
    go_ret
    refine Ans.bool ?_ (by (repeat (first | with_reducible exact Below.refl _ _ | with_reducible assumption | with_reducible refine up_alloc ?_ _ | with_reducible refine up_drew ?_ | with_reducible refine up_drewN ?_ _ | (with_reducible refine up_set ?_ ?hset _; case hset => first | (simp; done) | (simp; omega) | omega) | with_reducible refine up_trans ?_ (by with_reducible assumption))))
    rw [HC.out]
    first
      | (simp_all; done)
      | (have e : p = r := (by omega)
         rw [e]; simp; done)
      | (simp_all; omega)
      | (simp; omega)
end Go.Proofs.Ytljdhicmcmppgaa
namespace Go.Proofs.Ytljdhicmcmppgaa
open Go.RowKit

theorem low_mul {a b : Int} (hb : 0 < b) : ∃ g : Int, 0 < g ∧ lowA a b * g = a ∧ lowB a b * g = b := by
  have hg := (gcd_pos (a := a) hb).1
  exact ⟨(Int.gcd a b : Int), hg, Int.ediv_mul_cancel (Int.gcd_dvd_left ..), Int.ediv_mul_cancel (Int.gcd_dvd_right ..)⟩
/-- Lowest terms are told by the fraction alone. -/
theorem low_uniq {a b c d : Int} (hb : 0 < b) (hd : 0 < d) (h : a * d = c * b) : lowA a b = lowA c d ∧ lowB a b = lowB c d := by
  have hg1 := (gcd_pos (a := a) hb).1
  have hg2 := (gcd_pos (a := c) hd).1
  have e1 : (Int.gcd (a * d) (b * d) : Int) = Int.gcd a b * d := by rw [Int.gcd_mul_right, Int.natCast_mul, show ((d.natAbs : Nat) : Int) = d by omega]
  have e2 : (Int.gcd (c * b) (d * b) : Int) = Int.gcd c d * b := by rw [Int.gcd_mul_right, Int.natCast_mul, show ((b.natAbs : Nat) : Int) = b by omega]
  have e3 : (Int.gcd a b : Int) * d = Int.gcd c d * b := by rw [← e1, ← e2, h, Int.mul_comm b d]
  have key : ∀ {x y g k : Int}, 0 < g → 0 < k → g ∣ x → k ∣ y → x * k = y * g → x / g = y / k := by
    intro x y g k hg hk h1 h2 h3
    obtain ⟨p, rfl⟩ := h1
    obtain ⟨q, rfl⟩ := h2
    rw [Int.mul_ediv_cancel_left _ (by omega), Int.mul_ediv_cancel_left _ (by omega)]
    have h4 : g * k * p = g * k * q := by grind
    exact Int.eq_of_mul_eq_mul_left (by have := Int.mul_pos hg hk; omega) h4
  have e4 : a * (Int.gcd c d : Int) = c * Int.gcd a b := by
    have : b * (a * (Int.gcd c d : Int)) = b * (c * Int.gcd a b) := by grind
    exact Int.eq_of_mul_eq_mul_left (by omega) this
  have e5 : b * (Int.gcd c d : Int) = d * Int.gcd a b := by grind
  exact ⟨key hg1 hg2 (Int.gcd_dvd_left ..) (Int.gcd_dvd_left ..) e4, key hg1 hg2 (Int.gcd_dvd_right ..) (Int.gcd_dvd_right ..) e5⟩
/-- What the square after s of c counts is, by the way between the moves. -/
def dAt (px py vx vy c s : Int) : Int := (c * px + s * vx) * (c * px + s * vx) + (c * py + s * vy) * (c * py + s * vy)
theorem sqm_dAt (x y u v x' y' u' v' c s : Int) : sqm x y u v x' y' u' v' c s = dAt (x - x') (y - y') (u - u' - (x - x')) (v - v' - (y - y')) c s := by
  unfold sqm dAt pAt
  grind
/-- The least square is none greater than at any count. -/
theorem ap_least {px py vx vy c s : Int} (h0 : 0 ≤ s) (h1 : s ≤ c) (hc : 1 ≤ c) {dot sz : Int} (hd : dot = px * vx + py * vy) (hs : sz = vx * vx + vy * vy) :
    (ap px py vx vy dot sz).1 * (c * c) ≤ dAt px py vx vy c s * (ap px py vx vy dot sz).2 := by
  have hD : dAt px py vx vy c s = c * c * (px * px + py * py) + 2 * (c * s) * dot + s * s * sz := by subst hd hs; unfold dAt; grind
  have hsz : 0 ≤ sz := by rw [hs]; have := sq_nonneg vx; have := sq_nonneg vy; omega
  unfold ap
  split
  · rename_i hdot
    simp only [Int.mul_one]
    have a1 : 0 ≤ c * s * dot := Int.mul_nonneg (Int.mul_nonneg (by omega) h0) hdot
    have a2 : 0 ≤ s * s * sz := Int.mul_nonneg (Int.mul_nonneg h0 h0) hsz
    have a3 : 2 * (c * s) * dot = 2 * (c * s * dot) := by grind
    rw [hD, a3, Int.mul_comm (px * px + py * py)]
    omega
  · split
    · rename_i hdot hle
      simp only [Int.mul_one]
      have e : dAt px py vx vy c s - ((px + vx) * (px + vx) + (py + vy) * (py + vy)) * (c * c) = (c - s) * (-(2 * c * dot + (s + c) * sz)) := by
        rw [hD]; subst hd hs; grind
      have a1 : 0 ≤ -(2 * c * dot + (s + c) * sz) := by
        have b1 : (s + c) * sz ≤ (2 * c) * sz := Int.mul_le_mul_of_nonneg_right (by omega) hsz
        have b2 : 2 * c * (dot + sz) ≤ 0 := Int.mul_nonpos_of_nonneg_of_nonpos (by omega) (by omega)
        have b3 : 2 * c * (dot + sz) = 2 * c * dot + 2 * c * sz := by grind
        omega
      have a2 : 0 ≤ (c - s) * (-(2 * c * dot + (s + c) * sz)) := Int.mul_nonneg (by omega) a1
      omega
    · rename_i hdot hle
      have hsz1 : 0 < sz := by omega
      simp only
      obtain ⟨g, hg, e1, e2⟩ := low_mul (a := (px * vy - py * vx) * (px * vy - py * vx)) hsz1
      generalize lowA ((px * vy - py * vx) * (px * vy - py * vx)) sz = t at *
      generalize lowB ((px * vy - py * vx) * (px * vy - py * vx)) sz = b at *
      have e3 : dAt px py vx vy c s * sz = (c * dot + s * sz) * (c * dot + s * sz) + c * c * ((px * vy - py * vx) * (px * vy - py * vx)) := by
        rw [hD]; subst hd hs; grind
      have e4 := sq_nonneg (c * dot + s * sz)
      have e5 : g * (t * (c * c)) ≤ g * (dAt px py vx vy c s * b) := by
        have f1 : g * (t * (c * c)) = c * c * ((px * vy - py * vx) * (px * vy - py * vx)) := by rw [← e1]; grind
        have f2 : g * (dAt px py vx vy c s * b) = dAt px py vx vy c s * sz := by rw [← e2]; grind
        rw [f1, f2, e3]
        omega
      exact Int.le_of_mul_le_mul_left e5 hg
/-- The closest time's numerator and denominator. -/
def ctA (dot sz c : Int) : Int := if 0 ≤ dot then 0 else if sz ≤ -dot then c else lowA (-dot * c) sz
def ctZ (dot sz c : Int) : Int := if 0 ≤ dot then 1 else if sz ≤ -dot then 1 else lowB (-dot * c) sz
theorem ct_bd {dot sz c : Int} (hc : 1 ≤ c) (hs : 0 ≤ sz) : 1 ≤ ctZ dot sz c ∧ 0 ≤ ctA dot sz c ∧ ctA dot sz c ≤ c * ctZ dot sz c := by
  unfold ctA ctZ
  split
  · omega
  · split
    · omega
    · have hz : 0 < sz := by omega
      have hn : 0 ≤ -dot * c := Int.mul_nonneg (by omega) (by omega)
      obtain ⟨g, hg, e1, e2⟩ := low_mul (a := -dot * c) hz
      have b1 := lowB_pos (a := -dot * c) hz
      have b2 := (lowA_bd (b := sz) hn).1
      refine ⟨b1, b2, ?_⟩
      have h1 : g * lowA (-dot * c) sz ≤ g * (c * lowB (-dot * c) sz) := by
        rw [Int.mul_comm g, e1, show g * (c * lowB (-dot * c) sz) = c * (lowB (-dot * c) sz * g) by grind, e2, Int.mul_comm]
        exact Int.mul_le_mul_of_nonneg_left (by omega) (by omega)
      exact Int.le_of_mul_le_mul_left h1 hg
/-- Where the closest time is a count, the square there is the least. -/
theorem ct_at {px py vx vy c : Int} (hc : 1 ≤ c) {dot sz : Int} (hd : dot = px * vx + py * vy) (hs : sz = vx * vx + vy * vy) (h1 : ctZ dot sz c = 1) :
    lowA (dAt px py vx vy c (ctA dot sz c)) (c * c) = (ap px py vx vy dot sz).1 ∧ lowB (dAt px py vx vy c (ctA dot sz c)) (c * c) = (ap px py vx vy dot sz).2 := by
  have hcc : 0 < c * c := Int.mul_pos (by omega) (by omega)
  have one : ∀ t : Int, lowA (t * (c * c)) (c * c) = t ∧ lowB (t * (c * c)) (c * c) = 1 := fun t => by
    have := low_uniq (a := t * (c * c)) (b := c * c) (c := t) (d := 1) hcc (by omega) (by omega)
    rw [this.1, this.2]
    unfold lowA lowB
    simp
  have hD : ∀ s, dAt px py vx vy c s = c * c * (px * px + py * py) + 2 * (c * s) * dot + s * s * sz := fun s => by subst hd hs; unfold dAt; grind
  unfold ctA ap
  unfold ctZ at h1
  split
  · rename_i hdot
    rw [hD, show c * c * (px * px + py * py) + 2 * (c * 0) * dot + 0 * 0 * sz = (px * px + py * py) * (c * c) by grind]
    exact one _
  · split
    · rename_i hdot hle
      rw [hD, show c * c * (px * px + py * py) + 2 * (c * c) * dot + c * c * sz = ((px + vx) * (px + vx) + (py + vy) * (py + vy)) * (c * c) by subst hd hs; grind]
      exact one _
    · rename_i hdot hle
      rw [if_neg hdot, if_neg hle] at h1
      have hz : 0 < sz := by omega
      obtain ⟨g, hg, e1, e2⟩ := low_mul (a := -dot * c) hz
      rw [h1, Int.one_mul] at e2
      subst e2
      generalize lowA (-dot * c) g = k at *
      refine low_uniq hcc hz ?_
      have e3 : dAt px py vx vy c k * g = (c * dot + k * g) * (c * dot + k * g) + c * c * ((px * vy - py * vx) * (px * vy - py * vx)) := by
        rw [hD]; grind
      rw [e3, show c * dot + k * g = 0 by rw [e1]; grind]
      grind
/-- The moves the other way round. -/
theorem ap_comm (x y u v x' y' u' v' : Int) : apM x' y' u' v' x y u v = apM x y u v x' y' u' v' := by
  unfold apM
  have e1 : (x' - x) * (u' - u - (x' - x)) + (y' - y) * (v' - v - (y' - y)) = (x - x') * (u - u' - (x - x')) + (y - y') * (v - v' - (y - y')) := by grind
  have e2 : (u' - u - (x' - x)) * (u' - u - (x' - x)) + (v' - v - (y' - y)) * (v' - v - (y' - y)) = (u - u' - (x - x')) * (u - u' - (x - x')) + (v - v' - (y - y')) * (v - v' - (y - y')) := by grind
  rw [e1, e2]
  unfold ap
  rw [show (x' - x) * (x' - x) + (y' - y) * (y' - y) = (x - x') * (x - x') + (y - y') * (y - y') by grind,
    show (x' - x + (u' - u - (x' - x))) * (x' - x + (u' - u - (x' - x))) + (y' - y + (v' - v - (y' - y))) * (y' - y + (v' - v - (y' - y))) = (x - x' + (u - u' - (x - x'))) * (x - x' + (u - u' - (x - x'))) + (y - y' + (v - v' - (y - y'))) * (y - y' + (v - v' - (y - y'))) by grind,
    show (x' - x) * (v' - v - (y' - y)) - (y' - y) * (u' - u - (x' - x)) = (x - x') * (v - v' - (y - y')) - (y - y') * (u - u' - (x - x')) by grind]
end Go.Proofs.Ytljdhicmcmppgaa
