/-
  Matchings' shape: isMatching, maPlaces, on both sides.
-/
import Derived.Test.YtadlemadnifohaaRows
import Derived.Test.YtadlemadnifohaaBase
import Derived.Test.YtadlemadnifohaaSpot
import Derived.Test.YtadlemadnifohaaSlice
import Derived.Test.YtadlemadnifohaaInts
import Derived.Deep.RegionHeld3
import Derived.Deep.QuietTactic
namespace Go.Proofs.Ytadlemadnifohaa
open Go.RowKit Go.ChangeShapes Go.WideShapes Go.Sort

/-- l different numbers from 0 to n - 1. -/
def mtB (n l : Nat) (P : Nat → Int) : Bool := allB (fun i => inB (P i) 0 ((n : Int) - 1) && !hasB (fun j => P j == P i) i) l && (l == n)
/-- The set of the first i numbers. -/
def usedN (P : Nat → Int) : Nat → Nat
  | 0 => 0
  | i + 1 => usedN P i ||| 2 ^ (P i).toNat
theorem usedN_lt {P : Nat → Int} {l : Nat} (h : ∀ i, i < l → 0 ≤ P i ∧ P i ≤ 11) : ∀ i, i ≤ l → usedN P i < 4096
  | 0, _ => by simp [usedN]
  | i + 1, hi => by
    have h1 := usedN_lt h i (by omega)
    have h2 := h i (by omega)
    have h3 : 2 ^ (P i).toNat < 2 ^ 12 := Nat.pow_lt_pow_right (by omega) (by omega)
    exact Nat.or_lt_two_pow (n := 12) h1 h3
theorem usedN_bit {P : Nat → Int} : ∀ i k, (usedN P i).testBit k = hasB (fun j => (P j).toNat == k) i
  | 0, k => by simp [usedN, hasB, allB]
  | i + 1, k => by
    rw [usedN, Nat.testBit_or, usedN_bit i k, Nat.testBit_two_pow]
    unfold hasB
    simp only [allB, Bool.not_and, Bool.not_not]
    rfl
theorem hasB_cong {p q : Nat → Bool} {n : Nat} (h : ∀ i, i < n → p i = q i) : hasB p n = hasB q n := by
  unfold hasB; rw [allB_cong (fun i hi => by rw [h i hi])]
theorem usedN_has {P : Nat → Int} {l i : Nat} (h : ∀ j, j < i → 0 ≤ P j) (hl : 0 ≤ P l) : (usedN P i).testBit (P l).toNat = hasB (fun j => P j == P l) i := by
  rw [usedN_bit]
  refine hasB_cong fun j hj => ?_
  have := h j hj
  rw [Bool.eq_iff_iff]
  simp only [beq_iff_eq]
  omega
theorem bits_and_i64_nat (a b : Nat) (ha : a < 4096) (hb : b < 4096) : bits .and .i64 (a : Int) (b : Int) = ((a &&& b : Nat) : Int) := by
  have hx : a &&& b < 2 ^ 12 := Nat.and_lt_two_pow _ (by omega)
  have h1 : (BitVec.ofInt 64 (a : Int)).toNat = a := by
    rw [BitVec.ofInt_natCast, BitVec.toNat_ofNat]; exact Nat.mod_eq_of_lt (by omega)
  have h2 : (BitVec.ofInt 64 (b : Int)).toNat = b := by
    rw [BitVec.ofInt_natCast, BitVec.toNat_ofNat]; exact Nat.mod_eq_of_lt (by omega)
  show IntKind.i64.wrap ((BitVec.ofInt 64 (a : Int) &&& BitVec.ofInt 64 (b : Int)).toNat : Int) = _
  rw [BitVec.toNat_and, h1, h2, IntKind.wrap_i64]
  omega
theorem bits_or_i64_nat (a b : Nat) (ha : a < 4096) (hb : b < 4096) : bits .or .i64 (a : Int) (b : Int) = ((a ||| b : Nat) : Int) := by
  have hx : a ||| b < 2 ^ 12 := Nat.or_lt_two_pow (by omega) (by omega)
  have h1 : (BitVec.ofInt 64 (a : Int)).toNat = a := by
    rw [BitVec.ofInt_natCast, BitVec.toNat_ofNat]; exact Nat.mod_eq_of_lt (by omega)
  have h2 : (BitVec.ofInt 64 (b : Int)).toNat = b := by
    rw [BitVec.ofInt_natCast, BitVec.toNat_ofNat]; exact Nat.mod_eq_of_lt (by omega)
  show IntKind.i64.wrap ((BitVec.ofInt 64 (a : Int) ||| BitVec.ofInt 64 (b : Int)).toNat : Int) = _
  rw [BitVec.toNat_or, h1, h2, IntKind.wrap_i64]
  omega
theorem shr_bit {U q : Nat} (hU : U < 4096) : (bits .and .i64 ((U : Int) / 2 ^ q) 1 == 1) = U.testBit q := by
  have e : ((U : Int) / 2 ^ q) = ((U / 2 ^ q : Nat) : Int) := by simp
  have hlt : U / 2 ^ q < 4096 := Nat.lt_of_le_of_lt (Nat.div_le_self _ _) hU
  rw [e, show (1 : Int) = ((1 : Nat) : Int) from rfl, bits_and_i64_nat _ 1 hlt (by omega), Nat.and_one_is_mod, Nat.testBit_eq_decide_div_mod_eq, Bool.eq_iff_iff]
  simp only [beq_iff_eq, decide_eq_true_eq]
  omega
theorem or_bit {U q : Nat} (hU : U < 4096) (hq : q < 12) : bits .or .i64 (U : Int) (IntKind.i64.wrap (2 ^ q)) = ((U ||| 2 ^ q : Nat) : Int) := by
  have h3 : 2 ^ q < 2 ^ 12 := Nat.pow_lt_pow_right (by omega) (by omega)
  rw [show ((2 : Int) ^ q) = ((2 ^ q : Nat) : Int) by simp]
  generalize 2 ^ q = z at *
  rw [show IntKind.i64.wrap (z : Int) = (z : Int) from IntWalk.i64_in _ (by omega), bits_or_i64_nat _ _ hU (by omega)]
set_option maxRecDepth 100000 in
set_option maxHeartbeats 2000000 in
theorem isMatching_g (v : Value) (n l : Nat) (P : Nat → Int) (w : World) (h : Ints w v l P) (hl : l ≤ 1048576) (hn : n ≤ 12) :
    Calls Try.prog 50 #[v, .int .i64 n] w (Ans w (.bool (mtB n l P))) := by
  obtain ⟨A, c, rfl, hnc, hrow⟩ := h
  have HE := Lib.hid (show mtB n l P = (allB (fun i => inB (P i) 0 ((n : Int) - 1) && !hasB (fun j => P j == P i) i) l && (l == n)) from rfl)
  go_enter Try.func50, Try.ntmps50
  go_wp2_with fail
  go_loop [5, 10] (fun u i => ∃ k : Nat, k ≤ l ∧ i = .int .i64 k ∧ u = .int .i64 (usedN P k : Nat) ∧ allB (fun i => inB (P i) 0 ((n : Int) - 1) && !hasB (fun j => P j == P i) i) k = true) (fun _ i => l - (intOf i).toNat)
  case atStart => exact ⟨0, by omega, rfl, rfl, rfl⟩
  case round =>
    obtain ⟨k, hk, rfl, rfl, ha⟩ := hrel
    have hr0 := allB_iff.1 ha
    have hr : ∀ j, j < k → 0 ≤ P j ∧ P j ≤ 11 := fun j hj => by
      have := hr0 j hj
      simp only [Bool.and_eq_true] at this
      have := inB_iff.1 this.1
      omega
    have hu := usedN_lt hr k (Nat.le_refl _)
    have HU := Lib.hid (fun j => usedN_has (P := P) (l := j) (i := k) (fun i hi => (hr i hi).1))
    have HA := Lib.hid ha
    clear ha hr0 hr
    by_cases hlt : k < l
    · obtain ⟨b, o, rfl, hrr⟩ := hrow (by omega)
      have c0 := hrr k hlt
      clear hrr hrow
      cases hin : inB (P k) 0 ((n : Int) - 1) with
      | false =>
        have HQ := Lib.hid (show (inB (P k) 0 ((n : Int) - 1) && !hasB (fun j => P j == P k) k) = false by rw [hin]; rfl)
        go_wp2_with (go_at_call 52; refine (within_any _ _ _ _).mono ?_; rintro e w1 ⟨rfl, rfl⟩)
        go_ret
        exact Ans.bool (by rw [HE.out, allB_no hlt HQ.out]; rfl) (Below.refl _ _)
      | true =>
        obtain ⟨i1, i2⟩ := inB_iff.1 hin
        obtain ⟨q, hq⟩ : ∃ q : Nat, P k = q := ⟨(P k).toNat, by omega⟩
        have HI := Lib.hid hin
        have HUk := Lib.hid (show (usedN P k).testBit q = hasB (fun j => P j == P k) k by have := HU.out k i1; rwa [show (P k).toNat = q by omega] at this)
        have HUn := Lib.hid (show usedN P (k + 1) = usedN P k ||| 2 ^ q by show usedN P k ||| 2 ^ (P k).toNat = _; rw [show (P k).toNat = q by omega])
        rw [hq] at c0 i1 i2
        have q12 : q < 12 := by omega
        rw [hq] at hin
        have hb := shr_bit (q := q) hu
        have HO := Lib.hid (or_bit hu q12)
        cases hq2 : (usedN P k).testBit q with
        | true =>
          rw [hq2] at hb HUk
          have HQ := Lib.hid (show (inB (P k) 0 ((n : Int) - 1) && !hasB (fun j => P j == P k) k) = false by rw [← HUk.out]; simp)
          clear hq hq2
          go_wp2_with (go_at_call 52; refine (within_any _ _ _ _).mono ?_; rintro e w1 ⟨rfl, rfl⟩)
          go_ret
          exact Ans.bool (by rw [HE.out, allB_no hlt HQ.out]; rfl) (Below.refl _ _)
        | false =>
          rw [hq2] at hb HUk
          have HQ := Lib.hid (show (inB (P k) 0 ((n : Int) - 1) && !hasB (fun j => P j == P k) k) = true by rw [← HUk.out, HI.out]; rfl)
          clear hq hq2
          go_wp2_with (go_at_call 52; refine (within_any _ _ _ _).mono ?_; rintro e w1 ⟨rfl, rfl⟩)
          go_round
          case rel => exact ⟨k + 1, by omega, by go_num, by rw [HUn.out]; exact congrArg (Value.int .i64) (by rw [← IntWalk.i64_left]; exact HO.out), allB_succ HA.out HQ.out⟩
          case measure => simp [intOf]; omega
    · have e : k = l := by omega
      subst e
      go_wp2_with fail
      go_ret
      exact Ans.bool (by rw [HE.out, HA.out, Bool.true_and, Bool.eq_iff_iff]; simp only [beq_iff_eq]; omega) (Below.refl _ _)
set_option maxRecDepth 100000 in
set_option maxHeartbeats 2000000 in
theorem l1Has_g (v : Value) (l : Nat) (P : Nat → Int) (x : Int) (w : World) (h : Ints w v l P) (hl : l ≤ 9223372036854775807) :
    Calls Try.prog 38 #[v, .int .i64 x] w (Ans w (.bool (hasB (fun j => P j == x) l))) := by
  obtain ⟨A, c, rfl, hnc, hrow⟩ := h
  have HE := Lib.hid (show hasB (fun j => P j == x) l = !allB (fun j => !(P j == x)) l from rfl)
  go_enter Try.func38, Try.ntmps38
  go_wp2_with fail
  go_loop [9] (fun i => ∃ k : Nat, k ≤ l ∧ i = .int .i64 k ∧ allB (fun j => !(P j == x)) k = true) (fun i => l - (intOf i).toNat)
  case atStart => exact ⟨0, by omega, rfl, rfl⟩
  case round =>
    obtain ⟨k, hk, rfl, ha⟩ := hrel
    have HA := Lib.hid ha
    clear ha
    by_cases hlt : k < l
    · obtain ⟨b, o, rfl, hrr⟩ := hrow (by omega)
      have c0 := hrr k hlt
      clear hrr hrow
      cases hq : (P k == x) with
      | true =>
        have HQ := Lib.hid (show (!(P k == x)) = false by rw [hq]; rfl)
        go_wp2_with fail
        go_ret
        exact Ans.bool (by rw [HE.out, allB_no hlt HQ.out]; rfl) (Below.refl _ _)
      | false =>
        have HQ := Lib.hid (show (!(P k == x)) = true by rw [hq]; rfl)
        go_wp2_with fail
        go_round
        case rel => exact ⟨k + 1, by omega, by go_num, allB_succ HA.out HQ.out⟩
        case measure => simp [intOf]; omega
    · have e : k = l := by omega
      subst e
      go_wp2_with fail
      go_ret
      exact Ans.bool (by rw [HE.out, HA.out]; rfl) (Below.refl _ _)
theorem Ints.take {w : World} {A : Option Addr} {n c m : Nat} {X : Nat → Int} (h : Ints w (.slice A n c) n X) (hm : m ≤ n) : Ints w (.slice A m c) m X := by
  obtain ⟨A', c', e, hnc, hr⟩ := h
  cases e
  refine ⟨_, _, rfl, by omega, fun hm0 => ?_⟩
  obtain ⟨b, o, h1, h2⟩ := hr (by omega)
  exact ⟨b, o, h1, fun i hi => h2 i (by omega)⟩
set_option maxRecDepth 100000 in
set_option maxHeartbeats 2000000 in
theorem maPlaces_g (v : Value) (n l : Nat) (P : Nat → Int) (w : World) (h : Ints w v l P) (hl : l ≤ 1048576) (hn : n ≤ 1048576) :
    Calls Try.prog 51 #[v, .int .i64 n] w (Ans w (.bool (mtB n l P))) := by
  obtain ⟨A, c, hv, hnc, hrow⟩ := id h
  subst hv
  have HE := Lib.hid (show mtB n l P = (allB (fun i => inB (P i) 0 ((n : Int) - 1) && !hasB (fun j => P j == P i) i) l && (l == n)) from rfl)
  go_enter Try.func51, Try.ntmps51
  go_wp2_with fail
  go_loopw [9] (fun i wr => ∃ k : Nat, k ≤ l ∧ i = .int .i64 k ∧ Below w.heap.size w wr ∧ allB (fun i => inB (P i) 0 ((n : Int) - 1) && !hasB (fun j => P j == P i) i) k = true) (fun i _ => l - (intOf i).toNat)
  case atStart => exact ⟨0, by omega, rfl, Below.refl _ _, rfl⟩
  case round =>
    obtain ⟨k, hk, rfl, hb, ha⟩ := hrel
    have HA := Lib.hid ha
    clear ha
    by_cases hlt : k < l
    · obtain ⟨b, o, rfl, hrr⟩ := hrow (by omega)
      have c0 := up_keep hb (hrr k hlt)
      have HT := Lib.hid (Ints.take (h.up hb) (show k ≤ l by omega))
      clear hrr hrow h
      cases hin : inB (P k) 0 ((n : Int) - 1) with
      | false =>
        have HQ := Lib.hid (show (inB (P k) 0 ((n : Int) - 1) && !hasB (fun j => P j == P k) k) = false by rw [hin]; rfl)
        go_wp2_with (go_at_call 60; refine (l1In_any _ _ _ _).mono ?_; rintro e w1 ⟨rfl, rfl⟩)
        go_ret
        exact Ans.bool (by rw [HE.out, allB_no hlt HQ.out]; rfl) hb
      | true =>
        have HC := Lib.hid (fun W (hW : Below wr.heap.size wr W) => l1Has_g _ k P (P k) W (HT.out.up hW) (by omega))
        cases hq : hasB (fun j => P j == P k) k with
        | true =>
          rw [hq] at HC
          have HQ := Lib.hid (show (inB (P k) 0 ((n : Int) - 1) && !hasB (fun j => P j == P k) k) = false by rw [hq]; simp)
          clear hq
          go_wp2_with (first | (go_at_call 60; refine (l1In_any _ _ _ _).mono ?_; rintro e w1 ⟨rfl, rfl⟩) | (go_at_call 38; refine (HC.out _ (by (repeat (first | with_reducible exact Below.refl _ _ | with_reducible assumption | with_reducible refine up_alloc ?_ _ | with_reducible refine up_drew ?_ | with_reducible refine up_drewN ?_ _ | (with_reducible refine up_set ?_ ?hset _; case hset => first | (simp; done) | (simp; omega) | omega) | with_reducible refine up_trans ?_ (by with_reducible assumption))))).mono ?_; rintro e wq ⟨rfl, hbq⟩))
          go_ret
          exact Ans.bool (by rw [HE.out, allB_no hlt HQ.out]; rfl) (up_trans hb hbq)
        | false =>
          rw [hq] at HC
          have HQ := Lib.hid (show (inB (P k) 0 ((n : Int) - 1) && !hasB (fun j => P j == P k) k) = true by rw [hq, hin]; rfl)
          clear hq
          go_wp2_with (first | (go_at_call 60; refine (l1In_any _ _ _ _).mono ?_; rintro e w1 ⟨rfl, rfl⟩) | (go_at_call 38; refine (HC.out _ (by (repeat (first | with_reducible exact Below.refl _ _ | with_reducible assumption | with_reducible refine up_alloc ?_ _ | with_reducible refine up_drew ?_ | with_reducible refine up_drewN ?_ _ | (with_reducible refine up_set ?_ ?hset _; case hset => first | (simp; done) | (simp; omega) | omega) | with_reducible refine up_trans ?_ (by with_reducible assumption))))).mono ?_; rintro e wq ⟨rfl, hbq⟩))
          go_roundw
          case rel => exact ⟨k + 1, by omega, by go_num, up_trans hb hbq, allB_succ HA.out HQ.out⟩
          case measure => simp [intOf]; omega
    · have e : k = l := by omega
      subst e
      go_wp2_with fail
      go_ret
      exact Ans.bool (by rw [HE.out, HA.out, Bool.true_and, Bool.eq_iff_iff]; simp only [beq_iff_eq]; omega) hb
end Go.Proofs.Ytadlemadnifohaa
