/-
  Which of two fractions is less, on both sides.
-/
import Derived.Test.YtljdhicmcmppgaaRows
import Derived.Test.YtljdhicmcmppgaaBase
import Derived.Test.YtljdhicmcmppgaaSpot
import Derived.Shelf.Bits.Mul64
import Derived.Deep.QuietTactic
namespace Go.Proofs.Ytljdhicmcmppgaa
open Go.RowKit Go.Lib

/-- a / b is less than c / d. -/
def lessB (a b c d : Int) : Bool := decide (a * d < c * b)
theorem less_quo {a b c d : Int} (ha : 0 ≤ a) (hb : 0 < b) (hc : 0 ≤ c) (hd : 0 < d) :
    (Int.tdiv a b < Int.tdiv c d → a * d < c * b) ∧ (Int.tdiv c d < Int.tdiv a b → ¬ a * d < c * b) ∧ (Int.tdiv a b = Int.tdiv c d → (a * d < c * b ↔ Int.tmod a b * d < Int.tmod c d * b)) := by
  have e1 := Int.mul_tdiv_add_tmod a b
  have e2 := Int.mul_tdiv_add_tmod c d
  have r1 := Int.tmod_nonneg b ha
  have r2 := Int.tmod_lt_of_pos a hb
  have s1 := Int.tmod_nonneg d hc
  have s2 := Int.tmod_lt_of_pos c hd
  generalize Int.tdiv a b = q at *
  generalize Int.tdiv c d = s at *
  generalize Int.tmod a b = r at *
  generalize Int.tmod c d = t at *
  have ea : a * d = b * d * q + r * d := by rw [← e1]; grind
  have ec : c * b = b * d * s + t * b := by rw [← e2]; grind
  have hD : 0 < b * d := Int.mul_pos hb hd
  have p1 : 0 ≤ r * d := Int.mul_nonneg r1 (by omega)
  have p2 : r * d < b * d := Int.mul_lt_mul_of_pos_right r2 hd
  have p3 : 0 ≤ t * b := Int.mul_nonneg s1 (by omega)
  have p4 : t * b < b * d := by rw [Int.mul_comm b d]; exact Int.mul_lt_mul_of_pos_right s2 hb
  rw [ea, ec]
  refine ⟨fun h => ?_, fun h => ?_, fun h => ?_⟩
  · have h1 : b * d * (q + 1) ≤ b * d * s := Int.mul_le_mul_of_nonneg_left (by omega) (by omega)
    rw [Int.mul_add, Int.mul_one] at h1
    omega
  · have h1 : b * d * (s + 1) ≤ b * d * q := Int.mul_le_mul_of_nonneg_left (by omega) (by omega)
    rw [Int.mul_add, Int.mul_one] at h1
    omega
  · subst h
    omega
set_option maxHeartbeats 1000000 in
theorem apLess_any (a b c d : Int) (ha : 0 ≤ a) (ha' : a ≤ 11838003609600) (hb : 1 ≤ b) (hb' : b ≤ 8359936) (hc : 0 ≤ c) (hc' : c ≤ 11838003609600) (hd : 1 ≤ d) (hd' : d ≤ 8359936) (w : World) :
    Calls Try.prog 74 #[.int .i64 a, .int .i64 b, .int .i64 c, .int .i64 d] w (Ans w (.bool (lessB a b c d))) := by
  have hL := less_quo ha (show 0 < b by omega) hc (show 0 < d by omega)
  have e1 := Int.mul_tdiv_add_tmod a b
  have r1 := Int.tmod_nonneg b ha
  have r2 := Int.tmod_lt_of_pos a (show 0 < b by omega)
  have s1 := Int.tmod_nonneg d hc
  have s2 := Int.tmod_lt_of_pos c (show 0 < d by omega)
  have q1 : 0 ≤ Int.tdiv a b := Int.tdiv_nonneg ha (by omega)
  have q2 : Int.tdiv a b ≤ a := by rw [Int.tdiv_eq_ediv_of_nonneg ha]; exact Int.ediv_le_self _ ha
  have q3 : 0 ≤ Int.tdiv c d := Int.tdiv_nonneg hc (by omega)
  have q4 : Int.tdiv c d ≤ c := by rw [Int.tdiv_eq_ediv_of_nonneg hc]; exact Int.ediv_le_self _ hc
  have m1 := mul_bd (a := Int.tmod a b) (b := d) (A := 8359936) (B := 8359936) (by omega) (by omega) (by omega) (by omega)
  have m2 := mul_bd (a := Int.tmod c d) (b := b) (A := 8359936) (B := 8359936) (by omega) (by omega) (by omega) (by omega)
  have t1 := Int.tmod_eq_emod_of_nonneg (b := b) ha
  have t2 := Int.tmod_eq_emod_of_nonneg (b := d) hc
  rw [t1] at r1 r2 m1 hL
  rw [t2] at s1 s2 m2 hL
  obtain ⟨m1, m3⟩ := m1
  obtain ⟨m2, m4⟩ := m2
  clear t1 t2
  have nb : b ≠ 0 := by omega
  have nd : d ≠ 0 := by omega
  have z1 : IntKind.i64.wrap (Int.tdiv a b) = Int.tdiv a b := IntWalk.i64_in _ (by omega)
  have z2 : IntKind.i64.wrap (Int.tdiv c d) = Int.tdiv c d := IntWalk.i64_in _ (by omega)
  have z3 : IntKind.i64.wrap (a % b) = a % b := IntWalk.i64_in _ (by omega)
  have z4 : IntKind.i64.wrap (c % d) = c % d := IntWalk.i64_in _ (by omega)
  have z5 : IntKind.i64.wrap (a % b * d) = a % b * d := IntWalk.i64_in _ (by omega)
  have z6 : IntKind.i64.wrap (c % d * b) = c % d * b := IntWalk.i64_in _ (by omega)
  by_cases hq : Int.tdiv a b = Int.tdiv c d
  · have HL := Lib.hid (show lessB a b c d = decide (a % b * d < c % d * b) by unfold lessB; exact decide_eq_decide.2 (hL.2.2 hq))
    have hne : (Int.tdiv a b != Int.tdiv c d) = false := by simp [hq]
    clear hL e1 hq
    go_enter Try.func74, Try.ntmps74
    go_wp2_with fail
    go_quiet (fail)
    go_wp2_with fail
    go_quiet (fail)
    go_wp2_with fail
    go_ret
    exact Ans.bool (by rw [HL.out]) (by (repeat (first | with_reducible exact Below.refl _ _ | with_reducible assumption | with_reducible refine up_alloc ?_ _ | with_reducible refine up_drew ?_ | with_reducible refine up_drewN ?_ _ | (with_reducible refine up_set ?_ ?hset _; case hset => first | (simp; done) | (simp; omega) | omega) | with_reducible refine up_trans ?_ (by with_reducible assumption))))
  · have hne : (Int.tdiv a b != Int.tdiv c d) = true := by simp [hq]
    have HL := Lib.hid (show lessB a b c d = decide (Int.tdiv a b < Int.tdiv c d) by
      unfold lessB
      refine decide_eq_decide.2 ⟨fun h => ?_, hL.1⟩
      rcases Int.lt_or_gt_of_ne hq with h' | h'
      · exact h'
      · exact absurd h (hL.2.1 h'))
    clear hL e1 hq
    go_enter Try.func74, Try.ntmps74
    go_wp2_with fail
    go_quiet (fail)
    go_wp2_with fail
    go_quiet (fail)
    go_wp2_with fail
    go_ret
    exact Ans.bool (by rw [HL.out]) (by (repeat (first | with_reducible exact Below.refl _ _ | with_reducible assumption | with_reducible refine up_alloc ?_ _ | with_reducible refine up_drew ?_ | with_reducible refine up_drewN ?_ _ | (with_reducible refine up_set ?_ ?hset _; case hset => first | (simp; done) | (simp; omega) | omega) | with_reducible refine up_trans ?_ (by with_reducible assumption))))
def hiN (x y : Nat) : Nat := x * y / 18446744073709551616
def loN (x y : Nat) : Nat := x * y % 18446744073709551616
theorem hilo (x y u v : Nat) : x * y < u * v ↔ (hiN x y < hiN u v ∨ (hiN x y = hiN u v ∧ loN x y < loN u v)) := by
  unfold hiN loN; omega
set_option maxHeartbeats 1000000 in
theorem mul64_any (x y : Nat) (hx : x < 18446744073709551616) (hy : y < 18446744073709551616) (w : World) :
    Calls Try.prog 80 #[.int .u64 x, .int .u64 y] w fun e w' => e = .returned (.tuple #[.int .u64 (hiN x y : Int), .int .u64 (loN x y : Int)]) ∧ w = w' := by
  have HH := Lib.hid (show hiN x y = x * y / 18446744073709551616 from rfl)
  have HLo := Lib.hid (show loN x y = x * y % 18446744073709551616 from rfl)
  obtain ⟨bd, bt, bw, hhi⟩ := Lib.mul64_hi x y hx hy
  have ba := Lib.half_mul_le (a := x / 4294967296) (b := y / 4294967296) (by omega) (by omega)
  have bb := Lib.half_mul_le (a := x / 4294967296) (b := y % 4294967296) (by omega) (by omega)
  have bc := Lib.half_mul_le (a := x % 4294967296) (b := y / 4294967296) (by omega) (by omega)
  have ba' : x / 4294967296 * (y / 4294967296) < 18446744073709551616 := by omega
  have bb' : x / 4294967296 * (y % 4294967296) < 18446744073709551616 := by omega
  have bc' : x % 4294967296 * (y / 4294967296) < 18446744073709551616 := by omega
  have bh1 : x / 4294967296 * (y / 4294967296) + (x / 4294967296 * (y % 4294967296) + x % 4294967296 * (y % 4294967296) / 4294967296) / 4294967296 < 18446744073709551616 := by omega
  have bh : x / 4294967296 * (y / 4294967296) + (x / 4294967296 * (y % 4294967296) + x % 4294967296 * (y % 4294967296) / 4294967296) / 4294967296 + ((x / 4294967296 * (y % 4294967296) + x % 4294967296 * (y % 4294967296) / 4294967296) % 4294967296 + x % 4294967296 * (y / 4294967296)) / 4294967296 < 18446744073709551616 := by omega
  go_enter Try.func80, Try.ntmps80
  go_wp2
  simp only [Mul64.maskN x hx, Mul64.maskN y hy, Mul64.divN, Mul64.mulN, Mul64.addN, Mul64.wrapN _ bd, Mul64.wrapN _ bb', Mul64.wrapN _ bt, Mul64.maskN _ bt, Mul64.wrapN _ bc', Mul64.wrapN _ bw, Mul64.wrapN _ ba', Mul64.wrapN _ bh1, Mul64.wrapN _ bh, Mul64.wrapM (x * y)]
  rw [hhi]
  go_ret2
  rw [HH.out, HLo.out]
  exact ⟨rfl, rfl⟩
set_option maxHeartbeats 1000000 in
theorem lessFraction_any (a b c d : Int) (ha : 0 ≤ a) (ha' : a ≤ 11838003609600) (hb : 1 ≤ b) (hb' : b ≤ 8359936) (hc : 0 ≤ c) (hc' : c ≤ 11838003609600) (hd : 1 ≤ d) (hd' : d ≤ 8359936) (w : World) :
    Calls Try.prog 73 #[.int .i64 a, .int .i64 b, .int .i64 c, .int .i64 d] w (Ans w (.bool (lessB a b c d))) := by
  obtain ⟨A, rfl⟩ := Int.eq_ofNat_of_zero_le ha
  obtain ⟨B, rfl⟩ := Int.eq_ofNat_of_zero_le (show 0 ≤ b by omega)
  obtain ⟨C, rfl⟩ := Int.eq_ofNat_of_zero_le hc
  obtain ⟨D, rfl⟩ := Int.eq_ofNat_of_zero_le (show 0 ≤ d by omega)
  have h1 := Lib.hid (mul64_any A D (by omega) (by omega))
  have h2 := Lib.hid (mul64_any C B (by omega) (by omega))
  have hcmp : lessB (A : Int) (B : Int) (C : Int) (D : Int) = (decide (hiN A D < hiN C B) || (decide (hiN A D = hiN C B) && decide (loN A D < loN C B))) := by
    have e : (((A : Int) * (D : Int) < (C : Int) * (B : Int)) ↔ A * D < C * B) := by
      rw [show (A : Int) * (D : Int) = ((A * D : Nat) : Int) by simp, show (C : Int) * (B : Int) = ((C * B : Nat) : Int) by simp]; omega
    have := e.trans (hilo A D C B)
    unfold lessB
    rw [Bool.eq_iff_iff]
    simp only [decide_eq_true_eq, Bool.or_eq_true, Bool.and_eq_true]
    exact this
  have HC := Lib.hid hcmp
  clear hcmp
  generalize hiN A D = p at *
  generalize loN A D = q at *
  generalize hiN C B = r at *
  generalize loN C B = s at *
  go_enter Try.func73, Try.ntmps73
  go_wp2_with (go_at_call 80; first | ((with_reducible refine (h1.out _).mono ?_); rintro e w1 ⟨rfl, rfl⟩) | ((with_reducible refine (h2.out _).mono ?_); rintro e w1 ⟨rfl, rfl⟩))
  all_goals
    go_ret
    refine Ans.bool ?_ (by (repeat (first | with_reducible exact Below.refl _ _ | with_reducible assumption | with_reducible refine up_alloc ?_ _ | with_reducible refine up_drew ?_ | with_reducible refine up_drewN ?_ _ | (with_reducible refine up_set ?_ ?hset _; case hset => first | (simp; done) | (simp; omega) | omega) | with_reducible refine up_trans ?_ (by with_reducible assumption))))
    rw [HC.out]
    first
      | (simp_all; done)
      | (have e : p = r := (by omega)
         rw [e]; simp; done)
      | (simp_all; omega)
      | (simp; omega)
end Go.Proofs.Ytljdhicmcmppgaa
