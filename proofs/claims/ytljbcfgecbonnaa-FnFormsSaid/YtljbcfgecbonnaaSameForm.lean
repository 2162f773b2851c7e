/-
  FnExactSameForm: for all arguments the law returns true, and its arguments read afterwards as before. No condition.
-/
import Derived.Test.YtljbcfgecbonnaaRows
import Derived.Test.YtljbcfgecbonnaaBase
import Derived.Test.YtljbcfgecbonnaaSpot
import Derived.Test.YtljbcfgecbonnaaSlice
import Derived.Test.YtljbcfgecbonnaaOpen
import Derived.Test.YtljbcfgecbonnaaLawS
import Derived.Test.YtljbcfgecbonnaaChart
namespace Go.Proofs.Ytljbcfgecbonnaa
open Go.RowKit Go.ChangeShapes Go.WideShapes Go.Sort

theorem same_comm (x y u v : Int) : same x y u v = same u v x y := by unfold same; rw [Bool.eq_iff_iff]; simp; omega
/-- Every spot of the first list is one of the second. -/
def subB (n : Nat) (X Y : Nat → Int) (m : Nat) (X' Y' : Nat → Int) : Bool := allB (fun i => hasB (fun j => same (X i) (Y i) (X' j) (Y' j)) m) n
set_option maxHeartbeats 1000000 in
theorem chFind_any (v : Value) (n : Nat) (X Y : Nat → Int) (x y : Int) (hn : n ≤ 9223372036854775807) (w : World) (h : Spots w v n X Y) :
    Calls Try.prog 110 #[v, .agg #[.int .i64 x, .int .i64 y]] w (Ans w (.int .i64 (findV (fun i => same x y (X i) (Y i)) n))) := by
  obtain ⟨A, c, rfl, hnc, hrow⟩ := h
  obtain ⟨r, hr⟩ : ∃ r, r = findV (fun i => same x y (X i) (Y i)) n := ⟨_, rfl⟩
  rw [← hr]
  have HE := Lib.hid hr
  clear hr
  go_enter Try.func110, Try.ntmps110
  go_wp2_with fail
  have hnew := cell_new2 w (.int .i64 x) (.int .i64 y) 33
  generalize hW : World.alloc _ _ = W at *
  have hb0 : Below w.heap.size w W := by subst hW; (repeat (first | with_reducible exact Below.refl _ _ | with_reducible assumption | with_reducible refine up_alloc ?_ _ | with_reducible refine up_drew ?_ | with_reducible refine up_drewN ?_ _ | (with_reducible refine up_set ?_ ?hset _; case hset => first | (simp; done) | (simp; omega) | omega) | with_reducible refine up_trans ?_ (by with_reducible assumption)))
  have hs : w.heap.size < W.heap.size := by subst hW; simp
  clear hW
  obtain ⟨g0, g1⟩ := hnew
  go_loopw [9] (fun i wr => ∃ k : Nat, k ≤ n ∧ i = .int .i64 k ∧ Below W.heap.size W wr ∧ allB (fun i => !same x y (X i) (Y i)) k = true) (fun i _ => n - (intOf i).toNat)
  case atStart => exact ⟨0, by omega, rfl, Below.refl _ _, rfl⟩
  case round =>
    obtain ⟨k, hk, rfl, hb, ha⟩ := hrel
    have HA := Lib.hid ha
    clear ha
    by_cases hlt : k < n
    · obtain ⟨b, o, rfl, hr⟩ := hrow (by omega)
      have c1 := up_keep hb (up_keep hb0 (hr k hlt).1)
      have c2 := up_keep hb (up_keep hb0 (hr k hlt).2)
      have c3 := up_keep hb g0
      have c4 := up_keep hb g1
      have hz := Nat.lt_of_lt_of_le hs hb.size
      clear hr hrow
      cases hq : same x y (X k) (Y k) with
      | true =>
        have he : ∀ w, (binOp .eql 33 (.agg #[.int .i64 (X k), .int .i64 (Y k)]) (.agg #[.int .i64 x, .int .i64 y])).run Try.prog w = .ok (.bool true) w := fun w => by rw [eql_spot, same_comm, hq]
        have HQ := Lib.hid hq
        clear hq
        go_wp2_with fail
        go_ret
        exact Ans.int (by rw [HE.out, findV_at HA.out HQ.out hlt]) (up_trans hb0 (up_alloc hb _))
      | false =>
        have he : ∀ w, (binOp .eql 33 (.agg #[.int .i64 (X k), .int .i64 (Y k)]) (.agg #[.int .i64 x, .int .i64 y])).run Try.prog w = .ok (.bool false) w := fun w => by rw [eql_spot, same_comm, hq]
        have HQ := Lib.hid hq
        clear hq
        go_wp2_with fail
        go_roundw
        case rel => exact ⟨k + 1, by omega, by go_num, up_alloc hb _, allB_succ HA.out (by simp [HQ.out])⟩
        case measure => simp [intOf]; omega
    · have e : k = n := by omega
      subst e
      go_wp2_with fail
      go_ret
      exact Ans.int (by rw [HE.out, findV_none HA.out]) (up_trans hb0 hb)
/-- What both sides' SameForm hands back. -/
def sfR (n : Nat) (X Y : Nat → Int) (m : Nat) (X' Y' : Nat → Int) : Bool := chartB n X Y && chartB m X' Y' && ((n == m) && subB n X Y m X' Y')
def sfG (n : Nat) (X Y : Nat → Int) (m : Nat) (X' Y' : Nat → Int) : Bool := chartB n X Y && chartB m X' Y'
theorem Ans.bool2 {w : World} {a b a' b' : Bool} {w' : World} (h : a = a') (h' : b = b') (hb : Below w.heap.size w w') : Ans w (.tuple #[.bool a', .bool b']) (.returned (.tuple #[.bool a, .bool b])) w' := ⟨by rw [h, h'], hb⟩
set_option maxHeartbeats 2000000 in
theorem iSameForm_any (v v' : Value) (n m : Nat) (X Y X' Y' : Nat → Int) (hn : n ≤ 1048576) (hm : m ≤ 1048576) (w : World) (h : Spots w v n X Y) (h' : Spots w v' m X' Y') :
    Calls Try.prog 27 #[v, v'] w (Ans w (.tuple #[.bool (sfR n X Y m X' Y'), .bool (sfG n X Y m X' Y')])) := by
  have HV := h
  have HV' := h'
  obtain ⟨A, c, rfl, hnc, hrow⟩ := h
  obtain ⟨A', c', rfl, hnc', hrow'⟩ := h'
  clear hrow'
  cases hc : chartB n X Y with
  | false =>
    have HR := Lib.hid (show sfR n X Y m X' Y' = false ∧ sfG n X Y m X' Y' = false by simp [sfR, sfG, hc])
    clear hrow
    go_enter Try.func27, Try.ntmps27
    go_wp2_with ((go_at_call 13; refine (isChart_g _ _ _ _ _ (by first | exact Spots.up (by with_reducible assumption) (by (repeat (first | with_reducible exact Below.refl _ _ | with_reducible assumption | with_reducible refine up_alloc ?_ _ | with_reducible refine up_drew ?_ | with_reducible refine up_drewN ?_ _ | (with_reducible refine up_set ?_ ?hset _; case hset => first | (simp; done) | (simp; omega) | omega) | with_reducible refine up_trans ?_ (by with_reducible assumption)))) | exact OwnS.spots (OwnS.up (by with_reducible assumption) (by (repeat (first | with_reducible exact Below.refl _ _ | with_reducible assumption | with_reducible refine up_alloc ?_ _ | with_reducible refine up_drew ?_ | with_reducible refine up_drewN ?_ _ | (with_reducible refine up_set ?_ ?hset _; case hset => first | (simp; done) | (simp; omega) | omega) | with_reducible refine up_trans ?_ (by with_reducible assumption)))))) (by omega)).mono ?_; rintro e w1 ⟨rfl, hb⟩))
    go_ret2
    exact Ans.bool2 HR.out.1.symm HR.out.2.symm (by (repeat (first | with_reducible exact Below.refl _ _ | with_reducible assumption | with_reducible refine up_alloc ?_ _ | with_reducible refine up_drew ?_ | with_reducible refine up_drewN ?_ _ | (with_reducible refine up_set ?_ ?hset _; case hset => first | (simp; done) | (simp; omega) | omega) | with_reducible refine up_trans ?_ (by with_reducible assumption))))
  | true =>
    cases hc' : chartB m X' Y' with
    | false =>
      have HR := Lib.hid (show sfR n X Y m X' Y' = false ∧ sfG n X Y m X' Y' = false by simp [sfR, sfG, hc, hc'])
      clear hrow
      go_enter Try.func27, Try.ntmps27
      go_wp2_with ((go_at_call 13; refine (isChart_g _ _ _ _ _ (by first | exact Spots.up (by with_reducible assumption) (by (repeat (first | with_reducible exact Below.refl _ _ | with_reducible assumption | with_reducible refine up_alloc ?_ _ | with_reducible refine up_drew ?_ | with_reducible refine up_drewN ?_ _ | (with_reducible refine up_set ?_ ?hset _; case hset => first | (simp; done) | (simp; omega) | omega) | with_reducible refine up_trans ?_ (by with_reducible assumption)))) | exact OwnS.spots (OwnS.up (by with_reducible assumption) (by (repeat (first | with_reducible exact Below.refl _ _ | with_reducible assumption | with_reducible refine up_alloc ?_ _ | with_reducible refine up_drew ?_ | with_reducible refine up_drewN ?_ _ | (with_reducible refine up_set ?_ ?hset _; case hset => first | (simp; done) | (simp; omega) | omega) | with_reducible refine up_trans ?_ (by with_reducible assumption)))))) (by omega)).mono ?_; rintro e w1 ⟨rfl, hb⟩))
      go_ret2
      exact Ans.bool2 HR.out.1.symm HR.out.2.symm (by (repeat (first | with_reducible exact Below.refl _ _ | with_reducible assumption | with_reducible refine up_alloc ?_ _ | with_reducible refine up_drew ?_ | with_reducible refine up_drewN ?_ _ | (with_reducible refine up_set ?_ ?hset _; case hset => first | (simp; done) | (simp; omega) | omega) | with_reducible refine up_trans ?_ (by with_reducible assumption))))
    | true =>
      have HR := Lib.hid (show sfR n X Y m X' Y' = ((n == m) && subB n X Y m X' Y') ∧ sfG n X Y m X' Y' = true by simp [sfR, sfG, hc, hc'])
      by_cases hnm : n = m
      · have HR2 := Lib.hid (show ((n == m) && subB n X Y m X' Y') = subB n X Y m X' Y' by simp [hnm])
        have HN := Lib.hid hnm
        have t1 : ((n : Int) != m) = false := by simp; omega
        clear hnm
        go_enter Try.func27, Try.ntmps27
        go_wp2_with ((go_at_call 13; refine (isChart_g _ _ _ _ _ (by first | exact Spots.up (by with_reducible assumption) (by (repeat (first | with_reducible exact Below.refl _ _ | with_reducible assumption | with_reducible refine up_alloc ?_ _ | with_reducible refine up_drew ?_ | with_reducible refine up_drewN ?_ _ | (with_reducible refine up_set ?_ ?hset _; case hset => first | (simp; done) | (simp; omega) | omega) | with_reducible refine up_trans ?_ (by with_reducible assumption)))) | exact OwnS.spots (OwnS.up (by with_reducible assumption) (by (repeat (first | with_reducible exact Below.refl _ _ | with_reducible assumption | with_reducible refine up_alloc ?_ _ | with_reducible refine up_drew ?_ | with_reducible refine up_drewN ?_ _ | (with_reducible refine up_set ?_ ?hset _; case hset => first | (simp; done) | (simp; omega) | omega) | with_reducible refine up_trans ?_ (by with_reducible assumption)))))) (by omega)).mono ?_; rintro e w1 ⟨rfl, hb⟩))
        have HB : Below w.heap.size w w1 := by (repeat (first | with_reducible exact Below.refl _ _ | with_reducible assumption | with_reducible refine up_alloc ?_ _ | with_reducible refine up_drew ?_ | with_reducible refine up_drewN ?_ _ | (with_reducible refine up_set ?_ ?hset _; case hset => first | (simp; done) | (simp; omega) | omega) | with_reducible refine up_trans ?_ (by with_reducible assumption)))
        obtain ⟨wp, rfl⟩ : ∃ wp : World, wp = w1 := ⟨_, rfl⟩
        go_loopw [23] (fun i wr => ∃ k : Nat, k ≤ n ∧ i = .int .i64 k ∧ Below w.heap.size w wr ∧ allB (fun i => hasB (fun j => same (X i) (Y i) (X' j) (Y' j)) m) k = true) (fun i _ => n - (intOf i).toNat)
        case atStart => exact ⟨0, by omega, rfl, HB, rfl⟩
        case round =>
          clear hc hc' HB
          obtain ⟨k, hk, rfl, hb, ha⟩ := hrel
          have HA := Lib.hid ha
          clear ha
          by_cases hlt : k < n
          · obtain ⟨b, o, rfl, hr⟩ := hrow (by omega)
            have c1 := up_keep hb (hr k hlt).1
            have c2 := up_keep hb (hr k hlt).2
            clear hr hrow
            cases hq : hasB (fun j => same (X k) (Y k) (X' j) (Y' j)) m with
            | true =>
              have HQ := Lib.hid hq
              have HC := Lib.hid (fun w' hw => contains_any (.slice A' m c') m X' Y' (X k) (Y k) (by omega) w' hw)
              rw [hq] at HC
              clear hq
              go_wp2_with ((go_at_call 91; refine (from0 (HC.out _ (HV'.up (by (repeat (first | with_reducible exact Below.refl _ _ | with_reducible assumption | with_reducible refine up_alloc ?_ _ | with_reducible refine up_drew ?_ | with_reducible refine up_drewN ?_ _ | (with_reducible refine up_set ?_ ?hset _; case hset => first | (simp; done) | (simp; omega) | omega) | with_reducible refine up_trans ?_ (by with_reducible assumption)))))) (by first | exact hb0 | exact up_alloc hb0 _ | exact up_drew hb0 | exact up_drewN hb0 _ | exact Below.refl _ _)).mono ?_; rintro e w1 ⟨rfl, hb0⟩; obtain ⟨hc0, hf0⟩ := bcell hb0))
              go_roundw
              case rel => exact ⟨k + 1, by omega, by go_num, by (repeat (first | with_reducible exact Below.refl _ _ | with_reducible assumption | with_reducible refine up_alloc ?_ _ | with_reducible refine up_drew ?_ | with_reducible refine up_drewN ?_ _ | (with_reducible refine up_set ?_ ?hset _; case hset => first | (simp; done) | (simp; omega) | omega) | with_reducible refine up_trans ?_ (by with_reducible assumption))), allB_succ HA.out HQ.out⟩
              case measure => simp [intOf]; omega
            | false =>
              have HQ := Lib.hid hq
              have HC := Lib.hid (fun w' hw => contains_any (.slice A' m c') m X' Y' (X k) (Y k) (by omega) w' hw)
              rw [hq] at HC
              clear hq
              go_wp2_with ((go_at_call 91; refine (from0 (HC.out _ (HV'.up (by (repeat (first | with_reducible exact Below.refl _ _ | with_reducible assumption | with_reducible refine up_alloc ?_ _ | with_reducible refine up_drew ?_ | with_reducible refine up_drewN ?_ _ | (with_reducible refine up_set ?_ ?hset _; case hset => first | (simp; done) | (simp; omega) | omega) | with_reducible refine up_trans ?_ (by with_reducible assumption)))))) (by first | exact hb0 | exact up_alloc hb0 _ | exact up_drew hb0 | exact up_drewN hb0 _ | exact Below.refl _ _)).mono ?_; rintro e w1 ⟨rfl, hb0⟩; obtain ⟨hc0, hf0⟩ := bcell hb0))
              go_ret2
              exact Ans.bool2 (by rw [HR.out.1, show subB n X Y m X' Y' = false from allB_no hlt HQ.out, Bool.and_false]) HR.out.2.symm (by (repeat (first | with_reducible exact Below.refl _ _ | with_reducible assumption | with_reducible refine up_alloc ?_ _ | with_reducible refine up_drew ?_ | with_reducible refine up_drewN ?_ _ | (with_reducible refine up_set ?_ ?hset _; case hset => first | (simp; done) | (simp; omega) | omega) | with_reducible refine up_trans ?_ (by with_reducible assumption))))
          · have e : k = n := by omega
            subst e
            go_wp2_with fail
            go_ret2
            exact Ans.bool2 (by rw [HR.out.1, HR2.out]; exact HA.out.symm) HR.out.2.symm hb
      · have HR2 := Lib.hid (show ((n == m) && subB n X Y m X' Y') = false by simp [hnm])
        have t1 : ((n : Int) != m) = true := by simp; omega
        clear hnm hrow
        go_enter Try.func27, Try.ntmps27
        go_wp2_with ((go_at_call 13; refine (isChart_g _ _ _ _ _ (by first | exact Spots.up (by with_reducible assumption) (by (repeat (first | with_reducible exact Below.refl _ _ | with_reducible assumption | with_reducible refine up_alloc ?_ _ | with_reducible refine up_drew ?_ | with_reducible refine up_drewN ?_ _ | (with_reducible refine up_set ?_ ?hset _; case hset => first | (simp; done) | (simp; omega) | omega) | with_reducible refine up_trans ?_ (by with_reducible assumption)))) | exact OwnS.spots (OwnS.up (by with_reducible assumption) (by (repeat (first | with_reducible exact Below.refl _ _ | with_reducible assumption | with_reducible refine up_alloc ?_ _ | with_reducible refine up_drew ?_ | with_reducible refine up_drewN ?_ _ | (with_reducible refine up_set ?_ ?hset _; case hset => first | (simp; done) | (simp; omega) | omega) | with_reducible refine up_trans ?_ (by with_reducible assumption)))))) (by omega)).mono ?_; rintro e w1 ⟨rfl, hb⟩))
        go_ret2
        exact Ans.bool2 (by rw [HR.out.1, HR2.out]) HR.out.2.symm (by (repeat (first | with_reducible exact Below.refl _ _ | with_reducible assumption | with_reducible refine up_alloc ?_ _ | with_reducible refine up_drew ?_ | with_reducible refine up_drewN ?_ _ | (with_reducible refine up_set ?_ ?hset _; case hset => first | (simp; done) | (simp; omega) | omega) | with_reducible refine up_trans ?_ (by with_reducible assumption))))
set_option maxHeartbeats 2000000 in
theorem sSameForm_any (v v' : Value) (n m : Nat) (X Y X' Y' : Nat → Int) (hn : n ≤ 1048576) (hm : m ≤ 1048576) (w : World) (h : Spots w v n X Y) (h' : Spots w v' m X' Y') :
    Calls Try.prog 38 #[v, v'] w (Ans w (.tuple #[.bool (sfR n X Y m X' Y'), .bool (sfG n X Y m X' Y')])) := by
  have HV := h
  have HV' := h'
  obtain ⟨A, c, rfl, hnc, hrow⟩ := h
  obtain ⟨A', c', rfl, hnc', hrow'⟩ := h'
  clear hrow'
  cases hc : chartB n X Y with
  | false =>
    have HR := Lib.hid (show sfR n X Y m X' Y' = false ∧ sfG n X Y m X' Y' = false by simp [sfR, sfG, hc])
    clear hrow
    go_enter Try.func38, Try.ntmps38
    go_wp2_with ((go_at_call 86; refine (chGood_g _ _ _ _ _ (by first | exact Spots.up (by with_reducible assumption) (by (repeat (first | with_reducible exact Below.refl _ _ | with_reducible assumption | with_reducible refine up_alloc ?_ _ | with_reducible refine up_drew ?_ | with_reducible refine up_drewN ?_ _ | (with_reducible refine up_set ?_ ?hset _; case hset => first | (simp; done) | (simp; omega) | omega) | with_reducible refine up_trans ?_ (by with_reducible assumption)))) | exact OwnS.spots (OwnS.up (by with_reducible assumption) (by (repeat (first | with_reducible exact Below.refl _ _ | with_reducible assumption | with_reducible refine up_alloc ?_ _ | with_reducible refine up_drew ?_ | with_reducible refine up_drewN ?_ _ | (with_reducible refine up_set ?_ ?hset _; case hset => first | (simp; done) | (simp; omega) | omega) | with_reducible refine up_trans ?_ (by with_reducible assumption)))))) (by omega)).mono ?_; rintro e w1 ⟨rfl, hb⟩))
    go_ret2
    exact Ans.bool2 HR.out.1.symm HR.out.2.symm (by (repeat (first | with_reducible exact Below.refl _ _ | with_reducible assumption | with_reducible refine up_alloc ?_ _ | with_reducible refine up_drew ?_ | with_reducible refine up_drewN ?_ _ | (with_reducible refine up_set ?_ ?hset _; case hset => first | (simp; done) | (simp; omega) | omega) | with_reducible refine up_trans ?_ (by with_reducible assumption))))
  | true =>
    cases hc' : chartB m X' Y' with
    | false =>
      have HR := Lib.hid (show sfR n X Y m X' Y' = false ∧ sfG n X Y m X' Y' = false by simp [sfR, sfG, hc, hc'])
      clear hrow
      go_enter Try.func38, Try.ntmps38
      go_wp2_with ((go_at_call 86; refine (chGood_g _ _ _ _ _ (by first | exact Spots.up (by with_reducible assumption) (by (repeat (first | with_reducible exact Below.refl _ _ | with_reducible assumption | with_reducible refine up_alloc ?_ _ | with_reducible refine up_drew ?_ | with_reducible refine up_drewN ?_ _ | (with_reducible refine up_set ?_ ?hset _; case hset => first | (simp; done) | (simp; omega) | omega) | with_reducible refine up_trans ?_ (by with_reducible assumption)))) | exact OwnS.spots (OwnS.up (by with_reducible assumption) (by (repeat (first | with_reducible exact Below.refl _ _ | with_reducible assumption | with_reducible refine up_alloc ?_ _ | with_reducible refine up_drew ?_ | with_reducible refine up_drewN ?_ _ | (with_reducible refine up_set ?_ ?hset _; case hset => first | (simp; done) | (simp; omega) | omega) | with_reducible refine up_trans ?_ (by with_reducible assumption)))))) (by omega)).mono ?_; rintro e w1 ⟨rfl, hb⟩))
      go_ret2
      exact Ans.bool2 HR.out.1.symm HR.out.2.symm (by (repeat (first | with_reducible exact Below.refl _ _ | with_reducible assumption | with_reducible refine up_alloc ?_ _ | with_reducible refine up_drew ?_ | with_reducible refine up_drewN ?_ _ | (with_reducible refine up_set ?_ ?hset _; case hset => first | (simp; done) | (simp; omega) | omega) | with_reducible refine up_trans ?_ (by with_reducible assumption))))
    | true =>
      have HR := Lib.hid (show sfR n X Y m X' Y' = ((n == m) && subB n X Y m X' Y') ∧ sfG n X Y m X' Y' = true by simp [sfR, sfG, hc, hc'])
      go_enter Try.func38, Try.ntmps38
      go_wp2_with ((go_at_call 86; refine (chGood_g _ _ _ _ _ (by first | exact Spots.up (by with_reducible assumption) (by (repeat (first | with_reducible exact Below.refl _ _ | with_reducible assumption | with_reducible refine up_alloc ?_ _ | with_reducible refine up_drew ?_ | with_reducible refine up_drewN ?_ _ | (with_reducible refine up_set ?_ ?hset _; case hset => first | (simp; done) | (simp; omega) | omega) | with_reducible refine up_trans ?_ (by with_reducible assumption)))) | exact OwnS.spots (OwnS.up (by with_reducible assumption) (by (repeat (first | with_reducible exact Below.refl _ _ | with_reducible assumption | with_reducible refine up_alloc ?_ _ | with_reducible refine up_drew ?_ | with_reducible refine up_drewN ?_ _ | (with_reducible refine up_set ?_ ?hset _; case hset => first | (simp; done) | (simp; omega) | omega) | with_reducible refine up_trans ?_ (by with_reducible assumption)))))) (by omega)).mono ?_; rintro e w1 ⟨rfl, hb⟩))
      have HB : Below w.heap.size w w1 := by (repeat (first | with_reducible exact Below.refl _ _ | with_reducible assumption | with_reducible refine up_alloc ?_ _ | with_reducible refine up_drew ?_ | with_reducible refine up_drewN ?_ _ | (with_reducible refine up_set ?_ ?hset _; case hset => first | (simp; done) | (simp; omega) | omega) | with_reducible refine up_trans ?_ (by with_reducible assumption)))
      obtain ⟨wp, rfl⟩ : ∃ wp : World, wp = w1 := ⟨_, rfl⟩
      go_loopw [18] (fun i wr => ∃ k : Nat, k ≤ n ∧ i = .int .i64 k ∧ Below w.heap.size w wr ∧ allB (fun i => hasB (fun j => same (X i) (Y i) (X' j) (Y' j)) m) k = true) (fun i _ => n - (intOf i).toNat)
      case atStart => exact ⟨0, by omega, rfl, HB, rfl⟩
      case round =>
        clear hc hc' HB
        obtain ⟨k, hk, rfl, hb, ha⟩ := hrel
        have HA := Lib.hid ha
        clear ha
        by_cases hlt : k < n
        · obtain ⟨b, o, rfl, hr⟩ := hrow (by omega)
          have c1 := up_keep hb (hr k hlt).1
          have c2 := up_keep hb (hr k hlt).2
          clear hr hrow
          cases hq : hasB (fun j => same (X k) (Y k) (X' j) (Y' j)) m with
          | true =>
            have HQ := Lib.hid hq
            have HC := Lib.hid (fun w' hw => chFind_any (.slice A' m c') m X' Y' (X k) (Y k) (by omega) w' hw)
            have HF := hasB_find (fun j => same (X k) (Y k) (X' j) (Y' j)) m
            generalize findV (fun j => same (X k) (Y k) (X' j) (Y' j)) m = r at HC HF
            rw [hq] at HF
            have hr0 := HF
            simp only [decide_eq_true_eq, decide_eq_false_iff_not] at hr0
            clear hq HF
            go_wp2_with ((go_at_call 110; refine (from0 (HC.out _ (HV'.up (by (repeat (first | with_reducible exact Below.refl _ _ | with_reducible assumption | with_reducible refine up_alloc ?_ _ | with_reducible refine up_drew ?_ | with_reducible refine up_drewN ?_ _ | (with_reducible refine up_set ?_ ?hset _; case hset => first | (simp; done) | (simp; omega) | omega) | with_reducible refine up_trans ?_ (by with_reducible assumption)))))) (by first | exact hb0 | exact up_alloc hb0 _ | exact up_drew hb0 | exact up_drewN hb0 _ | exact Below.refl _ _)).mono ?_; rintro e w1 ⟨rfl, hb0⟩; obtain ⟨hc0, hf0⟩ := bcell hb0))
            go_roundw
            case rel => exact ⟨k + 1, by omega, by go_num, by (repeat (first | with_reducible exact Below.refl _ _ | with_reducible assumption | with_reducible refine up_alloc ?_ _ | with_reducible refine up_drew ?_ | with_reducible refine up_drewN ?_ _ | (with_reducible refine up_set ?_ ?hset _; case hset => first | (simp; done) | (simp; omega) | omega) | with_reducible refine up_trans ?_ (by with_reducible assumption))), allB_succ HA.out HQ.out⟩
            case measure => simp [intOf]; omega
          | false =>
            have HQ := Lib.hid hq
            have HC := Lib.hid (fun w' hw => chFind_any (.slice A' m c') m X' Y' (X k) (Y k) (by omega) w' hw)
            have HF := hasB_find (fun j => same (X k) (Y k) (X' j) (Y' j)) m
            generalize findV (fun j => same (X k) (Y k) (X' j) (Y' j)) m = r at HC HF
            rw [hq] at HF
            have hr0 := HF
            simp only [decide_eq_true_eq, decide_eq_false_iff_not] at hr0
            clear hq HF
            go_wp2_with ((go_at_call 110; refine (from0 (HC.out _ (HV'.up (by (repeat (first | with_reducible exact Below.refl _ _ | with_reducible assumption | with_reducible refine up_alloc ?_ _ | with_reducible refine up_drew ?_ | with_reducible refine up_drewN ?_ _ | (with_reducible refine up_set ?_ ?hset _; case hset => first | (simp; done) | (simp; omega) | omega) | with_reducible refine up_trans ?_ (by with_reducible assumption)))))) (by first | exact hb0 | exact up_alloc hb0 _ | exact up_drew hb0 | exact up_drewN hb0 _ | exact Below.refl _ _)).mono ?_; rintro e w1 ⟨rfl, hb0⟩; obtain ⟨hc0, hf0⟩ := bcell hb0))
            go_ret2
            exact Ans.bool2 (by rw [HR.out.1, show subB n X Y m X' Y' = false from allB_no hlt HQ.out, Bool.and_false]) HR.out.2.symm (by (repeat (first | with_reducible exact Below.refl _ _ | with_reducible assumption | with_reducible refine up_alloc ?_ _ | with_reducible refine up_drew ?_ | with_reducible refine up_drewN ?_ _ | (with_reducible refine up_set ?_ ?hset _; case hset => first | (simp; done) | (simp; omega) | omega) | with_reducible refine up_trans ?_ (by with_reducible assumption))))
        · have e : k = n := by omega
          subst e
          have HS := Lib.hid (show subB k X Y m X' Y' = true from HA.out)
          by_cases hnm : k = m
          · have t1 : ((k : Int) == m) = true := by simp; omega
            have HN := Lib.hid hnm
            clear hnm
            go_wp2_with fail
            go_ret2
            exact Ans.bool2 (by rw [HR.out.1, HS.out, HN.out]; simp) HR.out.2.symm hb
          · have t1 : ((k : Int) == m) = false := by simp; omega
            have HN := Lib.hid hnm
            clear hnm
            go_wp2_with fail
            go_ret2
            exact Ans.bool2 (by rw [HR.out.1]; simp [HN.out]) HR.out.2.symm hb
theorem iSameForm_g (v v' : Value) (n m : Nat) (X Y X' Y' : Nat → Int) (w : World) (h : Spots w v n X Y) (h' : Spots w v' m X' Y') (hn : n ≤ 1048576) (hm : m ≤ 1048576) :
    Calls Try.prog 27 #[v, v'] w (Ans w (.tuple #[.bool (sfR n X Y m X' Y'), .bool (sfG n X Y m X' Y')])) := iSameForm_any v v' n m X Y X' Y' hn hm w h h'
theorem sSameForm_g (v v' : Value) (n m : Nat) (X Y X' Y' : Nat → Int) (w : World) (h : Spots w v n X Y) (h' : Spots w v' m X' Y') (hn : n ≤ 1048576) (hm : m ≤ 1048576) :
    Calls Try.prog 38 #[v, v'] w (Ans w (.tuple #[.bool (sfR n X Y m X' Y'), .bool (sfG n X Y m X' Y')])) := sSameForm_any v v' n m X Y X' Y' hn hm w h h'
end Go.Proofs.Ytljbcfgecbonnaa
