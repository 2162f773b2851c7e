/-
  Greatest common divisors and fractions in lowest terms.
-/
import Derived.Test.YtljdhicmcmppgaaRows
import Derived.Test.YtljdhicmcmppgaaBase
import Derived.Test.YtljdhicmcmppgaaSpot
namespace Go.Proofs.Ytljdhicmcmppgaa
open Go.RowKit

/-- A fraction in lowest terms. -/
def lowA (a b : Int) : Int := a / (Int.gcd a b : Int)
def lowB (a b : Int) : Int := b / (Int.gcd a b : Int)

theorem gcd_step (p q : Nat) : Nat.gcd q (p % q) = Nat.gcd p q := by rw [Nat.gcd_comm p q, Nat.gcd_rec q p, Nat.gcd_comm]
theorem gcd_abs (a b : Int) : Nat.gcd a.natAbs b.natAbs = Int.gcd a b := rfl
set_option maxHeartbeats 400000 in
theorem gcdOf_any (a b : Int) (ha : 0 ≤ a) (ha' : a ≤ 9223372036854775807) (hb : 0 ≤ b) (hb' : b ≤ 9223372036854775807) (w : World) :
    Calls Try.prog 70 #[.int .i64 a, .int .i64 b] w (Ans w (.int .i64 (Int.gcd a b : Int))) := by
  obtain ⟨p0, rfl⟩ := Int.eq_ofNat_of_zero_le ha
  obtain ⟨q0, rfl⟩ := Int.eq_ofNat_of_zero_le hb
  clear ha hb
  go_enter Try.func70, Try.ntmps70
  go_wp2
  go_loopw [0, 1] (fun r s wr => ∃ p q : Nat, p ≤ 9223372036854775807 ∧ q ≤ 9223372036854775807 ∧ Nat.gcd p q = Nat.gcd p0 q0 ∧ r = .int .i64 p ∧ s = .int .i64 q ∧ Below w.heap.size w wr) (fun _ s _ => (intOf s).toNat)
  case atStart => exact ⟨p0, q0, by omega, by omega, rfl, rfl, rfl, Below.refl _ _⟩
  case round =>
    obtain ⟨p, q, hp, hq, hg, rfl, rfl, hb⟩ := hrel
    have HG := Lib.hid hg
    clear hg
    by_cases h0 : q = 0
    · subst h0
      go_wp2
      go_ret
      exact Ans.int (by rw [← gcd_abs]; have := HG.out; rw [Nat.gcd_zero_right] at this; rw [this]; rfl) hb
    · have hlt : p % q < q := Nat.mod_lt _ (by omega)
      have h1 : 0 < q := by omega
      have h2 : ((q : Int) != 0) = true := by simp; omega
      have h3 : ((q : Int) == 0) = false := by simp; omega
      clear h0
      go_wp2
      go_quiet (fail)
      go_wp2
      go_roundw
      case rel => exact ⟨q, p % q, by omega, by omega, by rw [gcd_step]; exact HG.out, rfl, by go_num, up_drewN hb _⟩
      case measure => simp [intOf]; omega
theorem gcd_pos {a b : Int} (hb : 0 < b) : (0 : Int) < (Int.gcd a b : Int) ∧ (Int.gcd a b : Int) ≤ b := by
  have h1 : Int.gcd a b ≠ 0 := fun h => by have := (Int.gcd_eq_zero_iff.1 h).2; omega
  have h2 : (Int.gcd a b : Int) ∣ b := Int.gcd_dvd_right ..
  exact ⟨by omega, Int.le_of_dvd hb h2⟩
set_option maxHeartbeats 400000 in
theorem lowestTerms_any (a b : Int) (ha : 0 ≤ a) (ha' : a ≤ 9223372036854775807) (hb : 0 < b) (hb' : b ≤ 9223372036854775807) (w : World) :
    Calls Try.prog 39 #[.int .i64 a, .int .i64 b] w (Ans w (.tuple #[.int .i64 (lowA a b), .int .i64 (lowB a b)])) := by
  obtain ⟨h1, h2⟩ := gcd_pos (a := a) hb
  have H := Lib.hid (show lowA a b = a / (Int.gcd a b : Int) ∧ lowB a b = b / (Int.gcd a b : Int) from ⟨rfl, rfl⟩)
  have hd : ((Int.gcd a b : Int) == 0) = false := by simp only [beq_eq_false_iff_ne, ne_eq]; omega
  go_enter Try.func39, Try.ntmps39
  go_wp2_with (first | (go_at_call 70; refine (from0 (gcdOf_any _ _ (by omega) (by omega) (by omega) (by omega) _) (by first | exact hb0 | exact up_alloc hb0 _ | exact up_drew hb0 | exact up_drewN hb0 _ | exact Below.refl _ _)).mono ?_; rintro e w1 ⟨rfl, hb0⟩; obtain ⟨hc0, hf0⟩ := bcell hb0))
  go_quiet (fail)
  go_wp2
  go_ret2
  exact Ans.int2 H.out.1.symm H.out.2.symm (by (repeat (first | with_reducible exact Below.refl _ _ | with_reducible assumption | with_reducible refine up_alloc ?_ _ | with_reducible refine up_drew ?_ | with_reducible refine up_drewN ?_ _ | (with_reducible refine up_set ?_ ?hset _; case hset => first | (simp; done) | (simp; omega) | omega) | with_reducible refine up_trans ?_ (by with_reducible assumption))))
set_option maxHeartbeats 400000 in
theorem mvPart_any (a b : Int) (ha : 0 ≤ a) (ha' : a ≤ 9223372036854775807) (hb : 0 < b) (hb' : b ≤ 9223372036854775807) (w : World) :
    Calls Try.prog 41 #[.int .i64 a, .int .i64 b] w (Ans w (.tuple #[.int .i64 (lowA a b), .int .i64 (lowB a b)])) := by
  obtain ⟨p0, rfl⟩ := Int.eq_ofNat_of_zero_le ha
  obtain ⟨q0, rfl⟩ := Int.eq_ofNat_of_zero_le (show 0 ≤ b by omega)
  obtain ⟨g1, g2⟩ := gcd_pos (a := p0) hb
  obtain ⟨g, hgd⟩ : ∃ g : Nat, g = Nat.gcd p0 q0 := ⟨_, rfl⟩
  rw [show (Int.gcd p0 q0 : Int) = g by rw [hgd]; rfl] at g1 g2
  have H := Lib.hid (show lowA p0 q0 = (p0 : Int) / g ∧ lowB p0 q0 = (q0 : Int) / g from by rw [hgd]; exact ⟨rfl, rfl⟩)
  have hd : ((g : Int) == 0) = false := by simp only [beq_eq_false_iff_ne, ne_eq]; omega
  have G := Lib.hid hgd
  have e1 : 0 ≤ (p0 : Int) / g := Int.ediv_nonneg (by omega) (by omega)
  have e2 : (p0 : Int) / g ≤ p0 := Int.ediv_le_self _ (by omega)
  have e3 : 0 ≤ (q0 : Int) / g := Int.ediv_nonneg (by omega) (by omega)
  have e4 : (q0 : Int) / g ≤ q0 := Int.ediv_le_self _ (by omega)
  clear ha hgd
  go_enter Try.func41, Try.ntmps41
  go_wp2_with (first | (go_at_call 71; refine (l1Abs_any _ (by omega) (by omega) _).mono ?_; rintro e w1 ⟨rfl, rfl⟩; rw [show max (p0 : Int) (-p0) = p0 by omega]))
  go_loopw [6, 7] (fun r s wr => ∃ p q : Nat, p ≤ 9223372036854775807 ∧ q ≤ 9223372036854775807 ∧ Nat.gcd p q = g ∧ r = .int .i64 p ∧ s = .int .i64 q ∧ Below w.heap.size w wr) (fun _ s _ => (intOf s).toNat)
  case atStart => exact ⟨p0, q0, by omega, by omega, G.out.symm, rfl, rfl, Below.refl _ _⟩
  case round =>
    obtain ⟨p, q, hp, hq, hg, rfl, rfl, hb⟩ := hrel
    by_cases h0 : q = 0
    · subst h0
      rw [Nat.gcd_zero_right] at hg
      subst hg
      go_wp2
      go_quiet (fail)
      go_wp2
      go_ret2
      exact Ans.int2 H.out.1.symm H.out.2.symm (up_drewN hb _)
    · have HG := Lib.hid hg
      clear hg
      have hlt : p % q < q := Nat.mod_lt _ (by omega)
      have h1 : 0 < q := by omega
      have h2 : ((q : Int) != 0) = true := by simp; omega
      have h3 : ((q : Int) == 0) = false := by simp; omega
      clear h0
      go_wp2
      go_roundw
      case rel => exact ⟨q, p % q, by omega, by omega, by rw [gcd_step]; exact HG.out, by go_num, by go_num, hb⟩
      case measure => simp [intOf]; omega
end Go.Proofs.Ytljdhicmcmppgaa
