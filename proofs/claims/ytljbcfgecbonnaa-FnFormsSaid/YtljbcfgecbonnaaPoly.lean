/-
  areSpots, stList; PolyLine on both sides.
-/
import Derived.Test.YtljbcfgecbonnaaRows
import Derived.Test.YtljbcfgecbonnaaBase
import Derived.Test.YtljbcfgecbonnaaSpot
import Derived.Test.YtljbcfgecbonnaaSlice
import Derived.Test.YtljbcfgecbonnaaChart
import Derived.Test.YtljbcfgecbonnaaRound
import Derived.Test.YtljbcfgecbonnaaAppend
import Derived.Test.YtljbcfgecbonnaaAppendE
import Derived.Test.YtljbcfgecbonnaaForm
import Derived.Test.YtljbcfgecbonnaaLine
import Derived.Test.YtljbcfgecbonnaaBlock
import Derived.Deep.RegionHeld3
import Derived.Deep.AppendLies
import Derived.Deep.QuietTactic
namespace Go.Proofs.Ytljbcfgecbonnaa
open Go.RowKit Go.Sort Go.ChangeShapes Go.WideShapes

def spotsB (n : Nat) (X Y : Nat → Int) : Bool := decide (n ≤ 40) && allB (fun i => spotB (X i) (Y i)) n
set_option maxRecDepth 100000 in
set_option maxHeartbeats 1000000 in
theorem areSpots_g (v : Value) (n : Nat) (X Y : Nat → Int) (w : World) (h : Spots w v n X Y) (hn : n ≤ 1048576) :
    Calls Try.prog 119 #[v] w (Ans w (.bool (spotsB n X Y))) := by
  obtain ⟨A, c, rfl, hnc, hrow⟩ := h
  by_cases h40 : n ≤ 40
  · have HE := Lib.hid (show spotsB n X Y = allB (fun i => spotB (X i) (Y i)) n by simp [spotsB, h40])
    go_enter Try.func119, Try.ntmps119
    go_wp2_with fail
    go_loopw [10] (fun i wr => ∃ k : Nat, k ≤ n ∧ i = .int .i64 k ∧ Below w.heap.size w wr ∧ allB (fun i => spotB (X i) (Y i)) k = true) (fun i _ => n - (intOf i).toNat)
    case atStart => exact ⟨0, by omega, rfl, Below.refl _ _, rfl⟩
    case round =>
      obtain ⟨k, hk, rfl, hb, ha⟩ := hrel
      have HA := Lib.hid ha
      clear ha
      by_cases hlt : k < n
      · obtain ⟨b, o, rfl, hr⟩ := hrow (by omega)
        have c1 := up_keep hb (hr k hlt).1
        have c2 := up_keep hb (hr k hlt).2
        clear hr hrow
        have HC := Lib.hid (isSpot_any (X k) (Y k))
        cases hq : spotB (X k) (Y k) with
        | true =>
          rw [hq] at HC
          have HQ := Lib.hid hq
          clear hq
          go_wp2_with (go_at_call 90; refine (HC.out _).mono ?_; rintro e wq ⟨rfl, hbq⟩)
          go_roundw
          case rel => exact ⟨k + 1, by omega, by go_num, by (repeat (first | with_reducible exact Below.refl _ _ | with_reducible assumption | with_reducible refine up_alloc ?_ _ | with_reducible refine up_drew ?_ | with_reducible refine up_drewN ?_ _ | (with_reducible refine up_set ?_ ?hset _; case hset => first | (simp; done) | (simp; omega) | omega) | with_reducible refine up_trans ?_ (by with_reducible assumption))), allB_succ HA.out HQ.out⟩
          case measure => simp [intOf]; omega
        | false =>
          rw [hq] at HC
          have HQ := Lib.hid hq
          clear hq
          go_wp2_with (go_at_call 90; refine (HC.out _).mono ?_; rintro e wq ⟨rfl, hbq⟩)
          go_ret
          exact Ans.bool (by rw [HE.out, allB_no hlt HQ.out]) (by (repeat (first | with_reducible exact Below.refl _ _ | with_reducible assumption | with_reducible refine up_alloc ?_ _ | with_reducible refine up_drew ?_ | with_reducible refine up_drewN ?_ _ | (with_reducible refine up_set ?_ ?hset _; case hset => first | (simp; done) | (simp; omega) | omega) | with_reducible refine up_trans ?_ (by with_reducible assumption))))
      · have e : k = n := by omega
        subst e
        go_wp2_with fail
        go_ret
        exact Ans.bool (by rw [HE.out, HA.out]) hb
  · have HE := Lib.hid (show spotsB n X Y = false by simp [spotsB, h40])
    go_enter Try.func119, Try.ntmps119
    go_wp2_with fail
    go_ret
    exact Ans.bool (by rw [HE.out]) (Below.refl _ _)
set_option maxRecDepth 100000 in
set_option maxHeartbeats 1000000 in
theorem stList_g (v : Value) (n : Nat) (X Y : Nat → Int) (w : World) (h : Spots w v n X Y) (hn : n ≤ 1048576) :
    Calls Try.prog 120 #[v] w (Ans w (.bool (spotsB n X Y))) := by
  obtain ⟨A, c, rfl, hnc, hrow⟩ := h
  have HE := Lib.hid (show spotsB n X Y = (decide (n ≤ 40) && allB (fun i => spotB (X i) (Y i)) n) from rfl)
  go_enter Try.func120, Try.ntmps120
  go_wp2_with fail
  go_loopw [7] (fun i wr => ∃ k : Nat, k ≤ n ∧ i = .int .i64 k ∧ Below w.heap.size w wr ∧ allB (fun i => spotB (X i) (Y i)) k = true) (fun i _ => n - (intOf i).toNat)
  case atStart => exact ⟨0, by omega, rfl, Below.refl _ _, rfl⟩
  case round =>
    obtain ⟨k, hk, rfl, hb, ha⟩ := hrel
    have HA := Lib.hid ha
    clear ha
    by_cases hlt : k < n
    · obtain ⟨b, o, rfl, hr⟩ := hrow (by omega)
      have c1 := up_keep hb (hr k hlt).1
      have c2 := up_keep hb (hr k hlt).2
      clear hr hrow
      have HC := Lib.hid (stGood_any (X k) (Y k))
      cases hq : spotB (X k) (Y k) with
      | true =>
        rw [hq] at HC
        have HQ := Lib.hid hq
        clear hq
        go_wp2_with (go_at_call 118; refine (HC.out _).mono ?_; rintro e wq ⟨rfl, hbq⟩)
        go_roundw
        case rel => exact ⟨k + 1, by omega, by go_num, by (repeat (first | with_reducible exact Below.refl _ _ | with_reducible assumption | with_reducible refine up_alloc ?_ _ | with_reducible refine up_drew ?_ | with_reducible refine up_drewN ?_ _ | (with_reducible refine up_set ?_ ?hset _; case hset => first | (simp; done) | (simp; omega) | omega) | with_reducible refine up_trans ?_ (by with_reducible assumption))), allB_succ HA.out HQ.out⟩
        case measure => simp [intOf]; omega
      | false =>
        rw [hq] at HC
        have HQ := Lib.hid hq
        clear hq
        go_wp2_with (go_at_call 118; refine (HC.out _).mono ?_; rintro e wq ⟨rfl, hbq⟩)
        go_ret
        exact Ans.bool (by rw [HE.out, allB_no hlt HQ.out, Bool.and_false]) (by (repeat (first | with_reducible exact Below.refl _ _ | with_reducible assumption | with_reducible refine up_alloc ?_ _ | with_reducible refine up_drew ?_ | with_reducible refine up_drewN ?_ _ | (with_reducible refine up_set ?_ ?hset _; case hset => first | (simp; done) | (simp; omega) | omega) | with_reducible refine up_trans ?_ (by with_reducible assumption))))
    · have e : k = n := by omega
      subst e
      go_wp2_with fail
      go_ret
      exact Ans.bool (by rw [HE.out, HA.out, Bool.and_true]; simp; omega) hb
/-- No spot is the same as the one before. -/
def adjB (n : Nat) (X Y : Nat → Int) : Bool := allB (fun i => !same (X (i + 1)) (Y (i + 1)) (X i) (Y i)) (n - 1)
def poOk (n : Nat) (X Y : Nat → Int) (p : Int) : Bool := ((spotsB n X Y && inB n 2 8) && inB p 1 12) && adjB n X Y
/-- The corner behind which the k-th spot lies. -/
def poI (W c k : Nat) : Nat := min (k * W / c) (W - 1)
def poX (X : Nat → Int) (W c k : Nat) : Int := along (X (poI W c k)) (X (poI W c k + 1)) ((k * W : Nat) - (poI W c k * c : Nat)) c
def poC (p : Int) : Nat := (max 1 (p - 1)).toNat
def poB (n : Nat) (X Y : Nat → Int) (p : Int) : Bool := poOk n X Y p && chartB p.toNat (poX X (n - 1) (poC p)) (poX Y (n - 1) (poC p))
theorem poI_bd {W c k : Nat} (hW : 1 ≤ W) (hc : 1 ≤ c) : poI W c k < W ∧ poI W c k * c ≤ k * W := by
  unfold poI
  refine ⟨by omega, ?_⟩
  exact Nat.le_trans (Nat.mul_le_mul_right c (Nat.min_le_left _ _)) (Nat.div_mul_le_self _ _)
theorem poX0 (X : Nat → Int) (W c : Nat) (hc : 1 ≤ c) : poX X W c 0 = X 0 := by
  have e : poI W c 0 = 0 := by unfold poI; simp
  unfold poX
  rw [e, Nat.zero_mul, Nat.zero_mul]
  simp only [Int.sub_self, Int.natCast_zero]
  exact along0 _ _ _ (by omega)
theorem poMin (W c k : Nat) (hW : 1 ≤ W) : min ((k : Int) * (W : Int) / (c : Int)) ((W : Int) - 1) = (poI W c k : Int) := by
  unfold poI
  rw [show (k : Int) * (W : Int) / (c : Int) = ((k * W / c : Nat) : Int) by simp]
  omega
theorem sp_all {n : Nat} {X Y : Nat → Int} (h : spotsB n X Y = true) : ∀ i, i < n → spotB (X i) (Y i) = true := by
  simp only [spotsB, Bool.and_eq_true] at h
  exact allB_iff.1 h.2
set_option maxRecDepth 100000 in
set_option maxHeartbeats 4000000 in
theorem iPolyLine_any (v : Value) (n : Nat) (X Y : Nat → Int) (p : Int) (w : World) (h : Spots w v n X Y) (hn : n ≤ 1048576) :
    Calls Try.prog 50 #[v, .int .i64 p] w (AnsSB w (sel (poB n X Y p) p.toNat) (poX X (n - 1) (poC p)) (poX Y (n - 1) (poC p)) (poB n X Y p)) := by
  obtain ⟨A, c, hv, hnc, hrow⟩ := id h
  subst hv
  have HC := Lib.hid (areSpots_g _ n X Y w h hn)
  cases hv : ((spotsB n X Y && inB n 2 8) && inB p 1 12) with
  | false =>
    rw [show poB n X Y p = false by simp [poB, poOk, hv]]
    clear hrow
    cases hs : spotsB n X Y with
    | false =>
      rw [hs] at HC
      clear h hv hs
      go_enter Try.func50, Try.ntmps50
      go_wp2_with ((go_at_call 119; refine (HC.out).mono ?_; rintro e w1 ⟨rfl, hb⟩))
      go_ret2
      exact AnsSB.nil (by (repeat (first | with_reducible exact Below.refl _ _ | with_reducible assumption | with_reducible refine up_alloc ?_ _ | with_reducible refine up_drew ?_ | with_reducible refine up_drewN ?_ _ | (with_reducible refine up_set ?_ ?hset _; case hset => first | (simp; done) | (simp; omega) | omega) | with_reducible refine up_trans ?_ (by with_reducible assumption))))
    | true =>
      rw [hs] at HC hv
      clear h hs
      cases hi : inB n 2 8 with
      | false =>
        clear hv
        go_enter Try.func50, Try.ntmps50
        go_wp2_with (first | (go_at_call 119; refine (HC.out).mono ?_; rintro e w1 ⟨rfl, hb⟩) | (go_at_call 89; refine (within_any _ _ _ _).mono ?_; rintro e w1 ⟨rfl, rfl⟩))
        go_ret2
        exact AnsSB.nil (by (repeat (first | with_reducible exact Below.refl _ _ | with_reducible assumption | with_reducible refine up_alloc ?_ _ | with_reducible refine up_drew ?_ | with_reducible refine up_drewN ?_ _ | (with_reducible refine up_set ?_ ?hset _; case hset => first | (simp; done) | (simp; omega) | omega) | with_reducible refine up_trans ?_ (by with_reducible assumption))))
      | true =>
        have hp : inB p 1 12 = false := by rw [hi] at hv; simpa using hv
        clear hv
        go_enter Try.func50, Try.ntmps50
        go_wp2_with (first | (go_at_call 119; refine (HC.out).mono ?_; rintro e w1 ⟨rfl, hb⟩) | (go_at_call 89; refine (within_any _ _ _ _).mono ?_; rintro e w1 ⟨rfl, rfl⟩))
        go_ret2
        exact AnsSB.nil (by (repeat (first | with_reducible exact Below.refl _ _ | with_reducible assumption | with_reducible refine up_alloc ?_ _ | with_reducible refine up_drew ?_ | with_reducible refine up_drewN ?_ _ | (with_reducible refine up_set ?_ ?hset _; case hset => first | (simp; done) | (simp; omega) | omega) | with_reducible refine up_trans ?_ (by with_reducible assumption))))
  | true =>
    simp only [Bool.and_eq_true] at hv
    obtain ⟨⟨v1, v2⟩, v3⟩ := hv
    rw [show poB n X Y p = (adjB n X Y && chartB p.toNat (poX X (n - 1) (poC p)) (poX Y (n - 1) (poC p))) by simp [poB, poOk, v1, v2, v3]]
    rw [v1] at HC
    have HS := Lib.hid (sp_all v1)
    obtain ⟨b1, b2⟩ := inB_iff.1 v2
    obtain ⟨d1, d2⟩ := inB_iff.1 v3
    obtain ⟨b, o, rfl, hr⟩ := hrow (by omega)
    have HR := Lib.hid hr
    clear hr hrow h v1
    obtain ⟨P, rfl⟩ : ∃ P : Nat, p = P := ⟨p.toNat, by omega⟩
    rw [show ((P : Int)).toNat = P by omega]
    obtain ⟨N, hN⟩ : ∃ N, N = n - 1 := ⟨_, rfl⟩
    have hnN : (n : Int) - 1 = (N : Int) := by omega
    rw [← hN]
    cases hj : adjB n X Y with
    | false =>
      rw [Bool.false_and]
      have HJ := Lib.hid (show allB (fun i => !same (X (i + 1)) (Y (i + 1)) (X i) (Y i)) (n - 1) = false from hj)
      clear hj hN hnN
      go_enter Try.func50, Try.ntmps50
      go_wp2_with (first | (go_at_call 119; refine HC.out.mono ?_; rintro e w1 ⟨rfl, hb1⟩) | (go_at_call 89; refine (within_any _ _ _ _).mono ?_; rintro e w1 ⟨rfl, rfl⟩))
      go_loopw [6] (fun i wr => ∃ k : Nat, 1 ≤ k ∧ k ≤ n ∧ i = .int .i64 k ∧ Below w.heap.size w wr ∧ allB (fun i => !same (X (i + 1)) (Y (i + 1)) (X i) (Y i)) (k - 1) = true) (fun i _ => n - (intOf i).toNat)
      case atStart => exact ⟨1, by omega, by omega, rfl, hb1, rfl⟩
      case round =>
        clear hb1
        obtain ⟨k, hk1, hk, rfl, hb, ha⟩ := hrel
        have HA := Lib.hid ha
        clear ha
        by_cases hlt : k < n
        · obtain ⟨j, rfl⟩ : ∃ j, k = j + 1 := ⟨k - 1, by omega⟩
          have c1 := up_keep hb (HR.out (j + 1) hlt).1
          have c2 := up_keep hb (HR.out (j + 1) hlt).2
          have c3 := up_keep hb (HR.out j (by omega)).1
          have c4 := up_keep hb (HR.out j (by omega)).2
          have z1 : IntKind.i64.wrap (((j + 1 : Nat) : Int) - 1) = (j : Int) := by rw [IntWalk.i64_in _ (by omega)]; omega
          have z2 : ((j : Int)).toNat = j := by omega
          have z3 : (((j + 1 : Nat) : Int)).toNat = j + 1 := by omega
          have z4 : (((j + 1 : Nat) : Int)) < n := by omega
          have z5 : ((j : Int)) < n := by omega
          cases hq : same (X (j + 1)) (Y (j + 1)) (X j) (Y j) with
          | true =>
            have he : ∀ w, (binOp .eql 33 (.agg #[.int .i64 (X (j + 1)), .int .i64 (Y (j + 1))]) (.agg #[.int .i64 (X j), .int .i64 (Y j)])).run Try.prog w = .ok (.bool true) w := fun w => by rw [eql_spot, hq]
            have HQ := Lib.hid hq
            clear hq
            go_wp2_with fail
            go_quiet (fail)
            clear z1 z2 z3 z4 z5
            go_wp2_with fail
            go_ret2
            exact AnsSB.nil (by (repeat (first | with_reducible exact Below.refl _ _ | with_reducible assumption | with_reducible refine up_alloc ?_ _ | with_reducible refine up_drew ?_ | with_reducible refine up_drewN ?_ _ | (with_reducible refine up_set ?_ ?hset _; case hset => first | (simp; done) | (simp; omega) | omega) | with_reducible refine up_trans ?_ (by with_reducible assumption))))
          | false =>
            have he : ∀ w, (binOp .eql 33 (.agg #[.int .i64 (X (j + 1)), .int .i64 (Y (j + 1))]) (.agg #[.int .i64 (X j), .int .i64 (Y j)])).run Try.prog w = .ok (.bool false) w := fun w => by rw [eql_spot, hq]
            have HQ := Lib.hid hq
            clear hq
            go_wp2_with fail
            go_quiet (fail)
            clear z1 z2 z3 z4 z5
            go_wp2_with fail
            go_roundw
            case rel => exact ⟨j + 1 + 1, by omega, by omega, by go_num, by (repeat (first | with_reducible exact Below.refl _ _ | with_reducible assumption | with_reducible refine up_alloc ?_ _ | with_reducible refine up_drew ?_ | with_reducible refine up_drewN ?_ _ | (with_reducible refine up_set ?_ ?hset _; case hset => first | (simp; done) | (simp; omega) | omega) | with_reducible refine up_trans ?_ (by with_reducible assumption))), allB_succ HA.out (by rw [HQ.out]; rfl)⟩
            case measure => simp [intOf]; omega
        · have e : k = n := by omega
          subst e
          have := HJ.out
          rw [HA.out] at this
          cases this
    | true =>
      rw [Bool.true_and]
      have HJ := Lib.hid (allB_iff.1 (show allB (fun i => !same (X (i + 1)) (Y (i + 1)) (X i) (Y i)) (n - 1) = true from hj))
      clear hj hN
      by_cases hp1 : P = 1
      · subst hp1
        have E1 := poX0 X N (poC (1 : Nat)) (by decide)
        have E2 := poX0 Y N (poC (1 : Nat)) (by decide)
        rw [chart_one (X := poX X N (poC (1 : Nat))) (Y := poX Y N (poC (1 : Nat))) (by rw [E1, E2]; exact HS.out 0 (by omega))]
        have HX := Lib.hid E1
        have HY := Lib.hid E2
        clear E1 E2
        go_enter Try.func50, Try.ntmps50
        go_wp2_with (first | (go_at_call 119; refine HC.out.mono ?_; rintro e w1 ⟨rfl, hb1⟩) | (go_at_call 89; refine (within_any _ _ _ _).mono ?_; rintro e w1 ⟨rfl, rfl⟩))
        go_loopw [6] (fun i wr => ∃ k : Nat, 1 ≤ k ∧ k ≤ n ∧ i = .int .i64 k ∧ Below w.heap.size w wr) (fun i _ => n - (intOf i).toNat)
        case atStart => exact ⟨1, by omega, by omega, rfl, hb1⟩
        case round =>
          clear hb1
          obtain ⟨k, hk1, hk, rfl, hb⟩ := hrel
          by_cases hlt : k < n
          · obtain ⟨j, rfl⟩ : ∃ j, k = j + 1 := ⟨k - 1, by omega⟩
            have c1 := up_keep hb (HR.out (j + 1) hlt).1
            have c2 := up_keep hb (HR.out (j + 1) hlt).2
            have c3 := up_keep hb (HR.out j (by omega)).1
            have c4 := up_keep hb (HR.out j (by omega)).2
            have z1 : IntKind.i64.wrap (((j + 1 : Nat) : Int) - 1) = (j : Int) := by rw [IntWalk.i64_in _ (by omega)]; omega
            have z2 : ((j : Int)).toNat = j := by omega
            have z3 : (((j + 1 : Nat) : Int)).toNat = j + 1 := by omega
            have z4 : (((j + 1 : Nat) : Int)) < n := by omega
            have z5 : ((j : Int)) < n := by omega
            have hq : same (X (j + 1)) (Y (j + 1)) (X j) (Y j) = false := by simpa using HJ.out j (by omega)
            have he : ∀ w, (binOp .eql 33 (.agg #[.int .i64 (X (j + 1)), .int .i64 (Y (j + 1))]) (.agg #[.int .i64 (X j), .int .i64 (Y j)])).run Try.prog w = .ok (.bool false) w := fun w => by rw [eql_spot, hq]
            clear hq
            go_wp2_with fail
            go_quiet (fail)
            clear z1 z2 z3 z4 z5
            go_wp2_with fail
            go_roundw
            case rel => exact ⟨j + 1 + 1, by omega, by omega, by go_num, by (repeat (first | with_reducible exact Below.refl _ _ | with_reducible assumption | with_reducible refine up_alloc ?_ _ | with_reducible refine up_drew ?_ | with_reducible refine up_drewN ?_ _ | (with_reducible refine up_set ?_ ?hset _; case hset => first | (simp; done) | (simp; omega) | omega) | with_reducible refine up_trans ?_ (by with_reducible assumption)))⟩
            case measure => simp [intOf]; omega
          · obtain rfl : k = n := by omega
            clear hk1 hlt HJ
            obtain ⟨M, rfl⟩ : ∃ M, M = k := ⟨_, rfl⟩
            have c1 := up_keep hb (HR.out 0 (by omega)).1
            have c2 := up_keep hb (HR.out 0 (by omega)).2
            rw [Nat.zero_mul, Nat.add_zero] at c1 c2
            go_wp2_with fail
            go_ret2
            exact ⟨_, rfl, (OwnR.one hb.size HX.out HY.out).ownS, by (repeat (first | with_reducible exact Below.refl _ _ | with_reducible assumption | with_reducible refine up_alloc ?_ _ | with_reducible refine up_drew ?_ | with_reducible refine up_drewN ?_ _ | (with_reducible refine up_set ?_ ?hset _; case hset => first | (simp; done) | (simp; omega) | omega) | with_reducible refine up_trans ?_ (by with_reducible assumption)))⟩
      · have hcb : ((P : Int) == 1) = false := by simp; omega
        obtain ⟨C, hC⟩ : ∃ C, C = poC (P : Int) := ⟨_, rfl⟩
        have hC1 : (C : Int) = (P : Int) - 1 := by rw [hC]; unfold poC; omega
        rw [← hC]
        clear hC
        go_enter Try.func50, Try.ntmps50
        go_wp2_with (first | (go_at_call 119; refine HC.out.mono ?_; rintro e w1 ⟨rfl, hb1⟩) | (go_at_call 89; refine (within_any _ _ _ _).mono ?_; rintro e w1 ⟨rfl, rfl⟩))
        go_loopw [6] (fun i wr => ∃ k : Nat, 1 ≤ k ∧ k ≤ n ∧ i = .int .i64 k ∧ Below w.heap.size w wr) (fun i _ => n - (intOf i).toNat)
        case atStart => exact ⟨1, by omega, by omega, rfl, hb1⟩
        case round =>
          clear hb1
          obtain ⟨k, hk1, hk, rfl, hb⟩ := hrel
          by_cases hlt : k < n
          · obtain ⟨j, rfl⟩ : ∃ j, k = j + 1 := ⟨k - 1, by omega⟩
            have c1 := up_keep hb (HR.out (j + 1) hlt).1
            have c2 := up_keep hb (HR.out (j + 1) hlt).2
            have c3 := up_keep hb (HR.out j (by omega)).1
            have c4 := up_keep hb (HR.out j (by omega)).2
            have z1 : IntKind.i64.wrap (((j + 1 : Nat) : Int) - 1) = (j : Int) := by rw [IntWalk.i64_in _ (by omega)]; omega
            have z2 : ((j : Int)).toNat = j := by omega
            have z3 : (((j + 1 : Nat) : Int)).toNat = j + 1 := by omega
            have z4 : (((j + 1 : Nat) : Int)) < n := by omega
            have z5 : ((j : Int)) < n := by omega
            have hq : same (X (j + 1)) (Y (j + 1)) (X j) (Y j) = false := by simpa using HJ.out j (by omega)
            have he : ∀ w, (binOp .eql 33 (.agg #[.int .i64 (X (j + 1)), .int .i64 (Y (j + 1))]) (.agg #[.int .i64 (X j), .int .i64 (Y j)])).run Try.prog w = .ok (.bool false) w := fun w => by rw [eql_spot, hq]
            clear hq
            go_wp2_with fail
            go_quiet (fail)
            clear z1 z2 z3 z4 z5
            go_wp2_with fail
            go_roundw
            case rel => exact ⟨j + 1 + 1, by omega, by omega, by go_num, by (repeat (first | with_reducible exact Below.refl _ _ | with_reducible assumption | with_reducible refine up_alloc ?_ _ | with_reducible refine up_drew ?_ | with_reducible refine up_drewN ?_ _ | (with_reducible refine up_set ?_ ?hset _; case hset => first | (simp; done) | (simp; omega) | omega) | with_reducible refine up_trans ?_ (by with_reducible assumption)))⟩
            case measure => simp [intOf]; omega
          · obtain rfl : k = n := by omega
            clear hk1 hlt HJ
            obtain ⟨M, rfl⟩ : ∃ M, M = k := ⟨_, rfl⟩
            obtain ⟨W, rfl⟩ : ∃ W, W = wr := ⟨_, rfl⟩
            go_wp2_with (first | (go_at_call 94; refine (l1Most_any _ _ _).mono ?_; rintro e w1 ⟨rfl, rfl⟩))
            go_loopw [7, 9] (fun q i wr => ∃ k : Nat, k ≤ P ∧ i = .int .i64 k ∧ OwnR W.heap.size wr q k (poX X N C) (poX Y N C) ∧ Below W.heap.size W wr) (fun _ i _ => P - (intOf i).toNat)
            case atStart => exact ⟨0, by omega, rfl, OwnR.empty (Nat.le_refl _) _ _, below_alloc _ _⟩
            case round =>
              obtain ⟨k, hk, rfl, how, hb2⟩ := hrel
              have hbw := hb.trans (hb2.mono hb.size)
              by_cases hlt : k < P
              · obtain ⟨i1, i2⟩ := poI_bd (W := N) (c := C) (k := k) (by omega) (by omega)
                have hmin := poMin N C k (by omega)
                have hkN : k * N ≤ 12 * 7 := Nat.mul_le_mul (by omega) (by omega)
                have HX := Lib.hid (show poX X N C k = along (X (poI N C k)) (X (poI N C k + 1)) ((k * N : Nat) - (poI N C k * C : Nat)) C from rfl)
                have HY := Lib.hid (show poX Y N C k = along (Y (poI N C k)) (Y (poI N C k + 1)) ((k * N : Nat) - (poI N C k * C : Nat)) C from rfl)
                generalize poI N C k = I at *
                have d1 := up_keep hb (HR.out I (by omega)).1
                have c1 := up_keep hb2 d1
                have d2 := up_keep hb (HR.out I (by omega)).2
                have c2 := up_keep hb2 d2
                have d3 := up_keep hb (HR.out (I + 1) (by omega)).1
                have c3 := up_keep hb2 d3
                have d4 := up_keep hb (HR.out (I + 1) (by omega)).2
                have c4 := up_keep hb2 d4
                have s1 := Lib.hid (HS.out I (by omega))
                have s2 := Lib.hid (HS.out (I + 1) (by omega))
                have hkn := mul_bd (a := (k : Int)) (b := (N : Int)) (A := 12) (B := 7) (by omega) (by omega) (by omega) (by omega)
                have hkz : 0 ≤ (k : Int) * (N : Int) := Int.mul_nonneg (by omega) (by omega)
                have hic : 0 ≤ (I : Int) * (C : Int) := Int.mul_nonneg (by omega) (by omega)
                have hIC : (I : Int) * (C : Int) ≤ (k : Int) * (N : Int) := by have : ((I * C : Nat) : Int) ≤ ((k * N : Nat) : Int) := by omega
                                                                               simpa using this
                obtain ⟨hk1, hk2⟩ := hkn
                rw [show ((k * N : Nat) : Int) = (k : Int) * (N : Int) by simp, show ((I * C : Nat) : Int) = (I : Int) * (C : Int) by simp] at HX HY
                have HA := Lib.hid (fun W => alongWay_any (X I) (Y I) (X (I + 1)) (Y (I + 1)) ((k : Int) * (N : Int) - (I : Int) * (C : Int)) (C : Int) s1.out s2.out (by omega) (by omega) (by omega) (by omega) W)
                rw [hC1] at hmin HA HX HY hIC hic
                clear i2
                have hcase : ((k : Int) * (N : Int) / ((P : Int) - 1) = (I : Int) ∧ (I : Int) ≤ (N : Int) - 1) ∨ ((N : Int) - 1 = (I : Int) ∧ (I : Int) < (k : Int) * (N : Int) / ((P : Int) - 1)) := by omega
                clear hmin
                rcases hcase with ⟨g1, g2⟩ | ⟨g1, g2⟩
                all_goals
                  go_wp2_with fail
                  clear g1 g2
                  have z1 : IntKind.i64.wrap ((I : Int) + 1) = (I : Int) + 1 := IntWalk.i64_in _ (by omega)
                  have z2 : ((I : Int) + 1).toNat = I + 1 := by omega
                  have z3 : ((I : Int)).toNat = I := by omega
                  have z4 : (0 : Int) ≤ (I : Int) + 1 := by omega
                  have z5 : (I : Int) + 1 < (M : Int) := by omega
                  have z6 : (I : Int) < (M : Int) := by omega
                  have z11 : (0 : Int) ≤ (I : Int) := by omega
                  have z7 : IntKind.i64.wrap ((k : Int) * (N : Int)) = (k : Int) * (N : Int) := IntWalk.i64_in _ (by omega)
                  have z8 : IntKind.i64.wrap ((P : Int) - 1) = (P : Int) - 1 := IntWalk.i64_in _ (by omega)
                  have z9 : IntKind.i64.wrap ((I : Int) * ((P : Int) - 1)) = (I : Int) * ((P : Int) - 1) := IntWalk.i64_in _ (by omega)
                  have z10 : IntKind.i64.wrap ((k : Int) * (N : Int) - (I : Int) * ((P : Int) - 1)) = (k : Int) * (N : Int) - (I : Int) * ((P : Int) - 1) := IntWalk.i64_in _ (by omega)
                  go_region_held3 (fun w' => w'.cell? ⟨b, o + I * 2, none⟩ = some (.int .i64 (X I)) ∧ w'.cell? ⟨b, o + I * 2 + 1, none⟩ = some (.int .i64 (Y I)) ∧ w'.cell? ⟨b, o + (I + 1) * 2, none⟩ = some (.int .i64 (X (I + 1))) ∧ w'.cell? ⟨b, o + (I + 1) * 2 + 1, none⟩ = some (.int .i64 (Y (I + 1))))
                    (first | exact ⟨by assumption, by assumption, by assumption, by assumption⟩ | go_keep) (first
                      | (go_at_call 113; (with_reducible refine (HA.out _).mono ?_); rintro e wq ⟨rfl, hbq⟩; have x1 := up_keep (show Below W.heap.size W wq from (by (repeat (first | with_reducible exact Below.refl _ _ | with_reducible assumption | with_reducible refine up_alloc ?_ _ | with_reducible refine up_drew ?_ | with_reducible refine up_drewN ?_ _ | (with_reducible refine up_set ?_ ?hset _; case hset => first | (simp; done) | (simp; omega) | omega) | with_reducible refine up_trans ?_ (by with_reducible assumption))))) d1; have x2 := up_keep (show Below W.heap.size W wq from (by (repeat (first | with_reducible exact Below.refl _ _ | with_reducible assumption | with_reducible refine up_alloc ?_ _ | with_reducible refine up_drew ?_ | with_reducible refine up_drewN ?_ _ | (with_reducible refine up_set ?_ ?hset _; case hset => first | (simp; done) | (simp; omega) | omega) | with_reducible refine up_trans ?_ (by with_reducible assumption))))) d2; have x3 := up_keep (show Below W.heap.size W wq from (by (repeat (first | with_reducible exact Below.refl _ _ | with_reducible assumption | with_reducible refine up_alloc ?_ _ | with_reducible refine up_drew ?_ | with_reducible refine up_drewN ?_ _ | (with_reducible refine up_set ?_ ?hset _; case hset => first | (simp; done) | (simp; omega) | omega) | with_reducible refine up_trans ?_ (by with_reducible assumption))))) d3; have x4 := up_keep (show Below W.heap.size W wq from (by (repeat (first | with_reducible exact Below.refl _ _ | with_reducible assumption | with_reducible refine up_alloc ?_ _ | with_reducible refine up_drew ?_ | with_reducible refine up_drewN ?_ _ | (with_reducible refine up_set ?_ ?hset _; case hset => first | (simp; done) | (simp; omega) | omega) | with_reducible refine up_trans ?_ (by with_reducible assumption))))) d4)
                      | (refine step_app_spot rfl (.tmp 65) (.tmp 86) rfl W.heap.size _ k (poX X N C) (poX Y N C) rfl rfl HX.out HY.out (by simp [go_sem]) (by simp [go_sem]) (OwnR.up how (by (repeat (first | with_reducible exact Below.refl _ _ | with_reducible assumption | with_reducible refine up_alloc ?_ _ | with_reducible refine up_drew ?_ | with_reducible refine up_drewN ?_ _ | (with_reducible refine up_set ?_ ?hset _; case hset => first | (simp; done) | (simp; omega) | omega) | with_reducible refine up_trans ?_ (by with_reducible assumption))))) (show Below W.heap.size W _ from (by (repeat (first | with_reducible exact Below.refl _ _ | with_reducible assumption | with_reducible refine up_alloc ?_ _ | with_reducible refine up_drew ?_ | with_reducible refine up_drewN ?_ _ | (with_reducible refine up_set ?_ ?hset _; case hset => first | (simp; done) | (simp; omega) | omega) | with_reducible refine up_trans ?_ (by with_reducible assumption))))).size (by omega) ?_; intro v2 w9 ho9 hb9; replace hb9 := (show Below W.heap.size W _ from (by (repeat (first | with_reducible exact Below.refl _ _ | with_reducible assumption | with_reducible refine up_alloc ?_ _ | with_reducible refine up_drew ?_ | with_reducible refine up_drewN ?_ _ | (with_reducible refine up_set ?_ ?hset _; case hset => first | (simp; done) | (simp; omega) | omega) | with_reducible refine up_trans ?_ (by with_reducible assumption))))).trans hb9; have y1 := up_keep hb9 d1; have y2 := up_keep hb9 d2; have y3 := up_keep hb9 d3; have y4 := up_keep hb9 d4))
                  clear z1 z2 z3 z4 z5 z6 z7 z8 z9 z10 z11
                  go_wp2_with fail
                  go_roundw
                  case rel => exact ⟨k + 1, by omega, by go_num, ho9, hb9⟩
                  case measure => simp [intOf]; omega
              · have e : k = P := by omega
                subst e
                go_wp2_with (go_at_call 85; refine (asForm_g _ _ _ _ _ how.ownS.spots (by omega)).mono ?_; rintro e wq ⟨rfl, hbq⟩)
                go_ret2
                exact AnsSB.sel ((how.ownS.more hb.size).up hbq) (up_trans hbw hbq)
set_option maxRecDepth 100000 in
set_option maxHeartbeats 4000000 in
theorem sPolyLine_any (v : Value) (n : Nat) (X Y : Nat → Int) (p : Int) (w : World) (h : Spots w v n X Y) (hn : n ≤ 1048576) :
    Calls Try.prog 51 #[v, .int .i64 p] w (AnsSB w (sel (poB n X Y p) p.toNat) (poX X (n - 1) (poC p)) (poX Y (n - 1) (poC p)) (poB n X Y p)) := by
  obtain ⟨A, c, hv, hnc, hrow⟩ := id h
  subst hv
  have HC := Lib.hid (stList_g _ n X Y w h hn)
  cases hv : ((spotsB n X Y && inB n 2 8) && inB p 1 12) with
  | false =>
    rw [show poB n X Y p = false by simp [poB, poOk, hv]]
    clear hrow
    cases hs : spotsB n X Y with
    | false =>
      rw [hs] at HC
      clear h hv hs
      go_enter Try.func51, Try.ntmps51
      go_wp2_with ((go_at_call 120; refine (HC.out).mono ?_; rintro e w1 ⟨rfl, hb⟩))
      go_ret2
      exact AnsSB.nil (by (repeat (first | with_reducible exact Below.refl _ _ | with_reducible assumption | with_reducible refine up_alloc ?_ _ | with_reducible refine up_drew ?_ | with_reducible refine up_drewN ?_ _ | (with_reducible refine up_set ?_ ?hset _; case hset => first | (simp; done) | (simp; omega) | omega) | with_reducible refine up_trans ?_ (by with_reducible assumption))))
    | true =>
      rw [hs] at HC hv
      clear h hs
      cases hi : inB n 2 8 with
      | false =>
        clear hv
        go_enter Try.func51, Try.ntmps51
        go_wp2_with (first | (go_at_call 120; refine (HC.out).mono ?_; rintro e w1 ⟨rfl, hb⟩) | (go_at_call 101; refine (l1In_any _ _ _ _).mono ?_; rintro e w1 ⟨rfl, rfl⟩) | (go_at_call 115; refine (fmCount_any _ _).mono ?_; rintro e w1 ⟨rfl, rfl⟩))
        go_ret2
        exact AnsSB.nil (by (repeat (first | with_reducible exact Below.refl _ _ | with_reducible assumption | with_reducible refine up_alloc ?_ _ | with_reducible refine up_drew ?_ | with_reducible refine up_drewN ?_ _ | (with_reducible refine up_set ?_ ?hset _; case hset => first | (simp; done) | (simp; omega) | omega) | with_reducible refine up_trans ?_ (by with_reducible assumption))))
      | true =>
        have hp : inB p 1 12 = false := by rw [hi] at hv; simpa using hv
        clear hv
        go_enter Try.func51, Try.ntmps51
        go_wp2_with (first | (go_at_call 120; refine (HC.out).mono ?_; rintro e w1 ⟨rfl, hb⟩) | (go_at_call 101; refine (l1In_any _ _ _ _).mono ?_; rintro e w1 ⟨rfl, rfl⟩) | (go_at_call 115; refine (fmCount_any _ _).mono ?_; rintro e w1 ⟨rfl, rfl⟩))
        go_ret2
        exact AnsSB.nil (by (repeat (first | with_reducible exact Below.refl _ _ | with_reducible assumption | with_reducible refine up_alloc ?_ _ | with_reducible refine up_drew ?_ | with_reducible refine up_drewN ?_ _ | (with_reducible refine up_set ?_ ?hset _; case hset => first | (simp; done) | (simp; omega) | omega) | with_reducible refine up_trans ?_ (by with_reducible assumption))))
  | true =>
    simp only [Bool.and_eq_true] at hv
    obtain ⟨⟨v1, v2⟩, v3⟩ := hv
    rw [show poB n X Y p = (adjB n X Y && chartB p.toNat (poX X (n - 1) (poC p)) (poX Y (n - 1) (poC p))) by simp [poB, poOk, v1, v2, v3]]
    rw [v1] at HC
    have HS := Lib.hid (sp_all v1)
    obtain ⟨b1, b2⟩ := inB_iff.1 v2
    obtain ⟨d1, d2⟩ := inB_iff.1 v3
    obtain ⟨b, o, rfl, hr⟩ := hrow (by omega)
    have HR := Lib.hid hr
    clear hr hrow h v1
    obtain ⟨P, rfl⟩ : ∃ P : Nat, p = P := ⟨p.toNat, by omega⟩
    rw [show ((P : Int)).toNat = P by omega]
    obtain ⟨N, hN⟩ : ∃ N, N = n - 1 := ⟨_, rfl⟩
    have hnN : (n : Int) - 1 = (N : Int) := by omega
    rw [← hN]
    cases hj : adjB n X Y with
    | false =>
      rw [Bool.false_and]
      have HJ := Lib.hid (show allB (fun i => !same (X (i + 1)) (Y (i + 1)) (X i) (Y i)) (n - 1) = false from hj)
      clear hj hN hnN
      go_enter Try.func51, Try.ntmps51
      go_wp2_with (first | (go_at_call 120; refine HC.out.mono ?_; rintro e w1 ⟨rfl, hb1⟩) | (go_at_call 101; refine (l1In_any _ _ _ _).mono ?_; rintro e w1 ⟨rfl, rfl⟩) | (go_at_call 115; refine (fmCount_any _ _).mono ?_; rintro e w1 ⟨rfl, rfl⟩))
      go_loopw [6] (fun i wr => ∃ k : Nat, 1 ≤ k ∧ k ≤ n ∧ i = .int .i64 k ∧ Below w.heap.size w wr ∧ allB (fun i => !same (X (i + 1)) (Y (i + 1)) (X i) (Y i)) (k - 1) = true) (fun i _ => n - (intOf i).toNat)
      case atStart => exact ⟨1, by omega, by omega, rfl, hb1, rfl⟩
      case round =>
        clear hb1
        obtain ⟨k, hk1, hk, rfl, hb, ha⟩ := hrel
        have HA := Lib.hid ha
        clear ha
        by_cases hlt : k < n
        · obtain ⟨j, rfl⟩ : ∃ j, k = j + 1 := ⟨k - 1, by omega⟩
          have c1 := up_keep hb (HR.out (j + 1) hlt).1
          have c2 := up_keep hb (HR.out (j + 1) hlt).2
          have c3 := up_keep hb (HR.out j (by omega)).1
          have c4 := up_keep hb (HR.out j (by omega)).2
          have z1 : IntKind.i64.wrap (((j + 1 : Nat) : Int) - 1) = (j : Int) := by rw [IntWalk.i64_in _ (by omega)]; omega
          have z2 : ((j : Int)).toNat = j := by omega
          have z3 : (((j + 1 : Nat) : Int)).toNat = j + 1 := by omega
          have z4 : (((j + 1 : Nat) : Int)) < n := by omega
          have z5 : ((j : Int)) < n := by omega
          cases hq : same (X (j + 1)) (Y (j + 1)) (X j) (Y j) with
          | true =>
            have he : ∀ w, (binOp .eql 33 (.agg #[.int .i64 (X (j + 1)), .int .i64 (Y (j + 1))]) (.agg #[.int .i64 (X j), .int .i64 (Y j)])).run Try.prog w = .ok (.bool true) w := fun w => by rw [eql_spot, hq]
            have HQ := Lib.hid hq
            clear hq
            go_wp2_with fail
            go_quiet (fail)
            clear z1 z2 z3 z4 z5
            go_wp2_with fail
            go_ret2
            exact AnsSB.nil (by (repeat (first | with_reducible exact Below.refl _ _ | with_reducible assumption | with_reducible refine up_alloc ?_ _ | with_reducible refine up_drew ?_ | with_reducible refine up_drewN ?_ _ | (with_reducible refine up_set ?_ ?hset _; case hset => first | (simp; done) | (simp; omega) | omega) | with_reducible refine up_trans ?_ (by with_reducible assumption))))
          | false =>
            have he : ∀ w, (binOp .eql 33 (.agg #[.int .i64 (X (j + 1)), .int .i64 (Y (j + 1))]) (.agg #[.int .i64 (X j), .int .i64 (Y j)])).run Try.prog w = .ok (.bool false) w := fun w => by rw [eql_spot, hq]
            have HQ := Lib.hid hq
            clear hq
            go_wp2_with fail
            go_quiet (fail)
            clear z1 z2 z3 z4 z5
            go_wp2_with fail
            go_roundw
            case rel => exact ⟨j + 1 + 1, by omega, by omega, by go_num, by (repeat (first | with_reducible exact Below.refl _ _ | with_reducible assumption | with_reducible refine up_alloc ?_ _ | with_reducible refine up_drew ?_ | with_reducible refine up_drewN ?_ _ | (with_reducible refine up_set ?_ ?hset _; case hset => first | (simp; done) | (simp; omega) | omega) | with_reducible refine up_trans ?_ (by with_reducible assumption))), allB_succ HA.out (by rw [HQ.out]; rfl)⟩
            case measure => simp [intOf]; omega
        · have e : k = n := by omega
          subst e
          have := HJ.out
          rw [HA.out] at this
          cases this
    | true =>
      rw [Bool.true_and]
      have HJ := Lib.hid (allB_iff.1 (show allB (fun i => !same (X (i + 1)) (Y (i + 1)) (X i) (Y i)) (n - 1) = true from hj))
      clear hj hN
      obtain ⟨C, hC⟩ : ∃ C, C = poC (P : Int) := ⟨_, rfl⟩
      have hC1 : max 1 ((P : Int) - 1) = (C : Int) := by rw [hC]; unfold poC; omega
      rw [← hC]
      clear hC
      go_enter Try.func51, Try.ntmps51
      go_wp2_with (first | (go_at_call 120; refine HC.out.mono ?_; rintro e w1 ⟨rfl, hb1⟩) | (go_at_call 101; refine (l1In_any _ _ _ _).mono ?_; rintro e w1 ⟨rfl, rfl⟩) | (go_at_call 115; refine (fmCount_any _ _).mono ?_; rintro e w1 ⟨rfl, rfl⟩))
      go_loopw [6] (fun i wr => ∃ k : Nat, 1 ≤ k ∧ k ≤ n ∧ i = .int .i64 k ∧ Below w.heap.size w wr) (fun i _ => n - (intOf i).toNat)
      case atStart => exact ⟨1, by omega, by omega, rfl, hb1⟩
      case round =>
        clear hb1
        obtain ⟨k, hk1, hk, rfl, hb⟩ := hrel
        by_cases hlt : k < n
        · obtain ⟨j, rfl⟩ : ∃ j, k = j + 1 := ⟨k - 1, by omega⟩
          have c1 := up_keep hb (HR.out (j + 1) hlt).1
          have c2 := up_keep hb (HR.out (j + 1) hlt).2
          have c3 := up_keep hb (HR.out j (by omega)).1
          have c4 := up_keep hb (HR.out j (by omega)).2
          have z1 : IntKind.i64.wrap (((j + 1 : Nat) : Int) - 1) = (j : Int) := by rw [IntWalk.i64_in _ (by omega)]; omega
          have z2 : ((j : Int)).toNat = j := by omega
          have z3 : (((j + 1 : Nat) : Int)).toNat = j + 1 := by omega
          have z4 : (((j + 1 : Nat) : Int)) < n := by omega
          have z5 : ((j : Int)) < n := by omega
          have hq : same (X (j + 1)) (Y (j + 1)) (X j) (Y j) = false := by simpa using HJ.out j (by omega)
          have he : ∀ w, (binOp .eql 33 (.agg #[.int .i64 (X (j + 1)), .int .i64 (Y (j + 1))]) (.agg #[.int .i64 (X j), .int .i64 (Y j)])).run Try.prog w = .ok (.bool false) w := fun w => by rw [eql_spot, hq]
          clear hq
          go_wp2_with fail
          go_quiet (fail)
          clear z1 z2 z3 z4 z5
          go_wp2_with fail
          go_roundw
          case rel => exact ⟨j + 1 + 1, by omega, by omega, by go_num, by (repeat (first | with_reducible exact Below.refl _ _ | with_reducible assumption | with_reducible refine up_alloc ?_ _ | with_reducible refine up_drew ?_ | with_reducible refine up_drewN ?_ _ | (with_reducible refine up_set ?_ ?hset _; case hset => first | (simp; done) | (simp; omega) | omega) | with_reducible refine up_trans ?_ (by with_reducible assumption)))⟩
          case measure => simp [intOf]; omega
        · obtain rfl : k = n := by omega
          clear hk1 hlt HJ
          obtain ⟨M, rfl⟩ : ∃ M, M = k := ⟨_, rfl⟩
          obtain ⟨W, rfl⟩ : ∃ W, W = wr := ⟨_, rfl⟩
          go_wp2_with (first | (go_at_call 94; refine (l1Most_any _ _ _).mono ?_; rintro e w1 ⟨rfl, rfl⟩))
          go_loopw [9, 10] (fun q i wr => ∃ k : Nat, k ≤ P ∧ i = .int .i64 k ∧ OwnR W.heap.size wr q k (poX X N C) (poX Y N C) ∧ Below W.heap.size W wr) (fun _ i _ => P - (intOf i).toNat)
          case atStart => exact ⟨0, by omega, rfl, OwnR.nil _ _ _ _, Below.refl _ _⟩
          case round =>
            obtain ⟨k, hk, rfl, how, hb2⟩ := hrel
            have hbw := hb.trans (hb2.mono hb.size)
            by_cases hlt : k < P
            · obtain ⟨i1, i2⟩ := poI_bd (W := N) (c := C) (k := k) (by omega) (by omega)
              have hmin := poMin N C k (by omega)
              have hkN : k * N ≤ 12 * 7 := Nat.mul_le_mul (by omega) (by omega)
              have HX := Lib.hid (show poX X N C k = along (X (poI N C k)) (X (poI N C k + 1)) ((k * N : Nat) - (poI N C k * C : Nat)) C from rfl)
              have HY := Lib.hid (show poX Y N C k = along (Y (poI N C k)) (Y (poI N C k + 1)) ((k * N : Nat) - (poI N C k * C : Nat)) C from rfl)
              generalize poI N C k = I at *
              have d1 := up_keep hb (HR.out I (by omega)).1
              have c1 := up_keep hb2 d1
              have d2 := up_keep hb (HR.out I (by omega)).2
              have c2 := up_keep hb2 d2
              have d3 := up_keep hb (HR.out (I + 1) (by omega)).1
              have c3 := up_keep hb2 d3
              have d4 := up_keep hb (HR.out (I + 1) (by omega)).2
              have c4 := up_keep hb2 d4
              have s1 := Lib.hid (HS.out I (by omega))
              have s2 := Lib.hid (HS.out (I + 1) (by omega))
              have hkn := mul_bd (a := (k : Int)) (b := (N : Int)) (A := 12) (B := 7) (by omega) (by omega) (by omega) (by omega)
              have hkz : 0 ≤ (k : Int) * (N : Int) := Int.mul_nonneg (by omega) (by omega)
              have hic : 0 ≤ (I : Int) * (C : Int) := Int.mul_nonneg (by omega) (by omega)
              have hIC : (I : Int) * (C : Int) ≤ (k : Int) * (N : Int) := by have : ((I * C : Nat) : Int) ≤ ((k * N : Nat) : Int) := by omega
                                                                             simpa using this
              obtain ⟨hk1, hk2⟩ := hkn
              rw [show ((k * N : Nat) : Int) = (k : Int) * (N : Int) by simp, show ((I * C : Nat) : Int) = (I : Int) * (C : Int) by simp] at HX HY
              have HA := Lib.hid (fun W => fmBetween_any (X I) (Y I) (X (I + 1)) (Y (I + 1)) ((k : Int) * (N : Int) - (I : Int) * (C : Int)) (C : Int) s1.out s2.out (by omega) (by omega) (by omega) (by omega) W)

              clear i2
              go_wp2_with (first | (go_at_call 93; refine (l1Least_any _ _ _).mono ?_; rintro e w1 ⟨rfl, rfl⟩))
              clear hmin
              have z1 : IntKind.i64.wrap ((I : Int) + 1) = (I : Int) + 1 := IntWalk.i64_in _ (by omega)
              have z2 : ((I : Int) + 1).toNat = I + 1 := by omega
              have z3 : ((I : Int)).toNat = I := by omega
              have z4 : (0 : Int) ≤ (I : Int) + 1 := by omega
              have z5 : (I : Int) + 1 < (M : Int) := by omega
              have z6 : (I : Int) < (M : Int) := by omega
              have z11 : (0 : Int) ≤ (I : Int) := by omega
              have z7 : IntKind.i64.wrap ((k : Int) * (N : Int)) = (k : Int) * (N : Int) := IntWalk.i64_in _ (by omega)
              have z8 : IntKind.i64.wrap ((P : Int) - 1) = (P : Int) - 1 := IntWalk.i64_in _ (by omega)
              have z9 : IntKind.i64.wrap ((I : Int) * (C : Int)) = (I : Int) * (C : Int) := IntWalk.i64_in _ (by omega)
              have z10 : IntKind.i64.wrap ((k : Int) * (N : Int) - (I : Int) * (C : Int)) = (k : Int) * (N : Int) - (I : Int) * (C : Int) := IntWalk.i64_in _ (by omega)
              go_region_held3 (fun w' => w'.cell? ⟨b, o + I * 2, none⟩ = some (.int .i64 (X I)) ∧ w'.cell? ⟨b, o + I * 2 + 1, none⟩ = some (.int .i64 (Y I)) ∧ w'.cell? ⟨b, o + (I + 1) * 2, none⟩ = some (.int .i64 (X (I + 1))) ∧ w'.cell? ⟨b, o + (I + 1) * 2 + 1, none⟩ = some (.int .i64 (Y (I + 1))))
                (first | exact ⟨by assumption, by assumption, by assumption, by assumption⟩ | go_keep) (first
                  | (go_at_call 116; (with_reducible refine (HA.out _).mono ?_); rintro e wq ⟨rfl, hbq⟩; have x1 := up_keep (show Below W.heap.size W wq from (by (repeat (first | with_reducible exact Below.refl _ _ | with_reducible assumption | with_reducible refine up_alloc ?_ _ | with_reducible refine up_drew ?_ | with_reducible refine up_drewN ?_ _ | (with_reducible refine up_set ?_ ?hset _; case hset => first | (simp; done) | (simp; omega) | omega) | with_reducible refine up_trans ?_ (by with_reducible assumption))))) d1; have x2 := up_keep (show Below W.heap.size W wq from (by (repeat (first | with_reducible exact Below.refl _ _ | with_reducible assumption | with_reducible refine up_alloc ?_ _ | with_reducible refine up_drew ?_ | with_reducible refine up_drewN ?_ _ | (with_reducible refine up_set ?_ ?hset _; case hset => first | (simp; done) | (simp; omega) | omega) | with_reducible refine up_trans ?_ (by with_reducible assumption))))) d2; have x3 := up_keep (show Below W.heap.size W wq from (by (repeat (first | with_reducible exact Below.refl _ _ | with_reducible assumption | with_reducible refine up_alloc ?_ _ | with_reducible refine up_drew ?_ | with_reducible refine up_drewN ?_ _ | (with_reducible refine up_set ?_ ?hset _; case hset => first | (simp; done) | (simp; omega) | omega) | with_reducible refine up_trans ?_ (by with_reducible assumption))))) d3; have x4 := up_keep (show Below W.heap.size W wq from (by (repeat (first | with_reducible exact Below.refl _ _ | with_reducible assumption | with_reducible refine up_alloc ?_ _ | with_reducible refine up_drew ?_ | with_reducible refine up_drewN ?_ _ | (with_reducible refine up_set ?_ ?hset _; case hset => first | (simp; done) | (simp; omega) | omega) | with_reducible refine up_trans ?_ (by with_reducible assumption))))) d4)
                  | (refine step_app_spot rfl (.tmp 61) (.tmp 80) rfl W.heap.size _ k (poX X N C) (poX Y N C) rfl rfl HX.out HY.out (by simp [go_sem]) (by simp [go_sem]) (OwnR.up how (by (repeat (first | with_reducible exact Below.refl _ _ | with_reducible assumption | with_reducible refine up_alloc ?_ _ | with_reducible refine up_drew ?_ | with_reducible refine up_drewN ?_ _ | (with_reducible refine up_set ?_ ?hset _; case hset => first | (simp; done) | (simp; omega) | omega) | with_reducible refine up_trans ?_ (by with_reducible assumption))))) (show Below W.heap.size W _ from (by (repeat (first | with_reducible exact Below.refl _ _ | with_reducible assumption | with_reducible refine up_alloc ?_ _ | with_reducible refine up_drew ?_ | with_reducible refine up_drewN ?_ _ | (with_reducible refine up_set ?_ ?hset _; case hset => first | (simp; done) | (simp; omega) | omega) | with_reducible refine up_trans ?_ (by with_reducible assumption))))).size (by omega) ?_; intro v2 w9 ho9 hb9; replace hb9 := (show Below W.heap.size W _ from (by (repeat (first | with_reducible exact Below.refl _ _ | with_reducible assumption | with_reducible refine up_alloc ?_ _ | with_reducible refine up_drew ?_ | with_reducible refine up_drewN ?_ _ | (with_reducible refine up_set ?_ ?hset _; case hset => first | (simp; done) | (simp; omega) | omega) | with_reducible refine up_trans ?_ (by with_reducible assumption))))).trans hb9; have y1 := up_keep hb9 d1; have y2 := up_keep hb9 d2; have y3 := up_keep hb9 d3; have y4 := up_keep hb9 d4))
              clear z1 z2 z3 z4 z5 z6 z7 z8 z9 z10 z11
              go_wp2_with fail
              go_roundw
              case rel => exact ⟨k + 1, by omega, by go_num, ho9, hb9⟩
              case measure => simp [intOf]; omega
            · have e : k = P := by omega
              subst e
              go_wp2_with (go_at_call 87; refine (chIf_g _ _ _ _ _ how.ownS.spots (by omega)).mono ?_; rintro e wq ⟨rfl, hbq⟩)
              go_ret2
              exact AnsSB.sel ((how.ownS.more hb.size).up hbq) (up_trans hbw hbq)
end Go.Proofs.Ytljbcfgecbonnaa
