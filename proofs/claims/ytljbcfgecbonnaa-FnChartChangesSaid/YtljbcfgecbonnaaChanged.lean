/-
  ChangedSpots on both sides.
-/
import Derived.Test.YtljbcfgecbonnaaRows
import Derived.Test.YtljbcfgecbonnaaBase
import Derived.Test.YtljbcfgecbonnaaSpot
import Derived.Test.YtljbcfgecbonnaaSlice
import Derived.Test.YtljbcfgecbonnaaChart
import Derived.Test.YtljbcfgecbonnaaForm
import Derived.Test.YtljbcfgecbonnaaInts
import Derived.Test.YtljbcfgecbonnaaIntsL
namespace Go.Proofs.Ytljbcfgecbonnaa
open Go.RowKit Go.Sort

theorem neq_spot (x y u v : Int) (w : World) : (binOp .neq 33 (.agg #[.int .i64 x, .int .i64 y]) (.agg #[.int .i64 u, .int .i64 v])).run Try.prog w = .ok (.bool (!same x y u v)) w := by
  have u3 := Try.underlying3
  have a3 := Try.isAgg3
  have z3 := Try.sizeOf3
  have hS : Try.prog.underlying 33 = some (.struct (Try.prog.fieldsOf 33)) := by kernel_rfl
  have hp : Try.prog.stoodInHeld 33 = false := by kernel_rfl
  unfold same
  rw [run_neq_struct, show (10000 : Nat) = 9999 + 1 from rfl, run_equalIn_agg w 9999 33 _ _ hS hp]
  simp only [Program.fieldsOf, Try.underlying33]
  go_simp
  by_cases h1 : x = u <;> by_cases h2 : y = v <;> simp [h1, h2]
/-- The places below n that D holds of, in order. -/
def chL (D : Nat → Bool) : Nat → List Int
  | 0 => []
  | k + 1 => if D k then chL D k ++ [(k : Int)] else chL D k
theorem chL_len (D : Nat → Bool) : ∀ k, (chL D k).length ≤ k
  | 0 => Nat.le_refl _
  | k + 1 => by
    have := chL_len D k
    unfold chL
    split
    · rw [List.length_append]; simp; omega
    · omega
/-- Where two lists of spots differ. -/
def difB (X Y X' Y' : Nat → Int) (i : Nat) : Bool := !same (X i) (Y i) (X' i) (Y' i)
def cpB (n : Nat) (X Y : Nat → Int) (m : Nat) (X' Y' : Nat → Int) : Bool := (chartB n X Y && chartB m X' Y') && decide (n = m)
def cgN (n : Nat) (X Y : Nat → Int) (m : Nat) (X' Y' : Nat → Int) : Nat := if cpB n X Y m X' Y' then (chL (difB X Y X' Y') n).length else 0
def cgX (n : Nat) (X Y X' Y' : Nat → Int) (i : Nat) : Int := (chL (difB X Y X' Y') n).getD i 0
theorem cgN_le (n : Nat) (X Y : Nat → Int) (m : Nat) (X' Y' : Nat → Int) : cgN n X Y m X' Y' ≤ n := by
  unfold cgN
  split
  · exact chL_len _ _
  · omega
set_option maxHeartbeats 1000000 in
theorem chPair_g (v v' : Value) (n m : Nat) (X Y X' Y' : Nat → Int) (w : World) (h : Spots w v n X Y) (h' : Spots w v' m X' Y') (hn : n ≤ 1048576) (hm : m ≤ 1048576) :
    Calls Try.prog 105 #[v, v'] w (Ans w (.bool (cpB n X Y m X' Y'))) := by
  cases hc : chartB n X Y with
  | false =>
    rw [show cpB n X Y m X' Y' = false by simp [cpB, hc]]
    go_enter Try.func105, Try.ntmps105
    go_wp2_with ((go_at_call 86; refine (chGood_g _ _ _ _ _ (by first | exact Spots.up (by with_reducible assumption) (by (repeat (first | with_reducible exact Below.refl _ _ | with_reducible assumption | with_reducible refine up_alloc ?_ _ | with_reducible refine up_drew ?_ | with_reducible refine up_drewN ?_ _ | (with_reducible refine up_set ?_ ?hset _; case hset => first | (simp; done) | (simp; omega) | omega) | with_reducible refine up_trans ?_ (by with_reducible assumption)))) | exact OwnS.spots (OwnS.up (by with_reducible assumption) (by (repeat (first | with_reducible exact Below.refl _ _ | with_reducible assumption | with_reducible refine up_alloc ?_ _ | with_reducible refine up_drew ?_ | with_reducible refine up_drewN ?_ _ | (with_reducible refine up_set ?_ ?hset _; case hset => first | (simp; done) | (simp; omega) | omega) | with_reducible refine up_trans ?_ (by with_reducible assumption)))))) (by omega)).mono ?_; rintro e w1 ⟨rfl, hb⟩))
    go_ret
    exact ⟨rfl, by (repeat (first | with_reducible exact Below.refl _ _ | with_reducible assumption | with_reducible refine up_alloc ?_ _ | with_reducible refine up_drew ?_ | with_reducible refine up_drewN ?_ _ | (with_reducible refine up_set ?_ ?hset _; case hset => first | (simp; done) | (simp; omega) | omega) | with_reducible refine up_trans ?_ (by with_reducible assumption)))⟩
  | true =>
    cases hc' : chartB m X' Y' with
    | false =>
      rw [show cpB n X Y m X' Y' = false by simp [cpB, hc']]
      go_enter Try.func105, Try.ntmps105
      go_wp2_with ((go_at_call 86; refine (chGood_g _ _ _ _ _ (by first | exact Spots.up (by with_reducible assumption) (by (repeat (first | with_reducible exact Below.refl _ _ | with_reducible assumption | with_reducible refine up_alloc ?_ _ | with_reducible refine up_drew ?_ | with_reducible refine up_drewN ?_ _ | (with_reducible refine up_set ?_ ?hset _; case hset => first | (simp; done) | (simp; omega) | omega) | with_reducible refine up_trans ?_ (by with_reducible assumption)))) | exact OwnS.spots (OwnS.up (by with_reducible assumption) (by (repeat (first | with_reducible exact Below.refl _ _ | with_reducible assumption | with_reducible refine up_alloc ?_ _ | with_reducible refine up_drew ?_ | with_reducible refine up_drewN ?_ _ | (with_reducible refine up_set ?_ ?hset _; case hset => first | (simp; done) | (simp; omega) | omega) | with_reducible refine up_trans ?_ (by with_reducible assumption)))))) (by omega)).mono ?_; rintro e w1 ⟨rfl, hb⟩))
      go_ret
      exact ⟨rfl, by (repeat (first | with_reducible exact Below.refl _ _ | with_reducible assumption | with_reducible refine up_alloc ?_ _ | with_reducible refine up_drew ?_ | with_reducible refine up_drewN ?_ _ | (with_reducible refine up_set ?_ ?hset _; case hset => first | (simp; done) | (simp; omega) | omega) | with_reducible refine up_trans ?_ (by with_reducible assumption)))⟩
    | true =>
      obtain ⟨A, c, hv, hnc, hrow⟩ := h
      have HV : Spots w v n X Y := ⟨A, c, hv, hnc, hrow⟩
      obtain ⟨A', c', hv', hnc', hrow'⟩ := h'
      have HV' : Spots w v' m X' Y' := ⟨A', c', hv', hnc', hrow'⟩
      subst hv hv'
      clear hrow hrow'
      rw [show cpB n X Y m X' Y' = ((n : Int) == (m : Int)) by simp only [cpB, hc, hc', Bool.and_self, Bool.true_and]; by_cases e : n = m <;> simp [e]; omega]
      go_enter Try.func105, Try.ntmps105
      go_wp2_with ((go_at_call 86; refine (chGood_g _ _ _ _ _ (by first | exact Spots.up (by with_reducible assumption) (by (repeat (first | with_reducible exact Below.refl _ _ | with_reducible assumption | with_reducible refine up_alloc ?_ _ | with_reducible refine up_drew ?_ | with_reducible refine up_drewN ?_ _ | (with_reducible refine up_set ?_ ?hset _; case hset => first | (simp; done) | (simp; omega) | omega) | with_reducible refine up_trans ?_ (by with_reducible assumption)))) | exact OwnS.spots (OwnS.up (by with_reducible assumption) (by (repeat (first | with_reducible exact Below.refl _ _ | with_reducible assumption | with_reducible refine up_alloc ?_ _ | with_reducible refine up_drew ?_ | with_reducible refine up_drewN ?_ _ | (with_reducible refine up_set ?_ ?hset _; case hset => first | (simp; done) | (simp; omega) | omega) | with_reducible refine up_trans ?_ (by with_reducible assumption)))))) (by omega)).mono ?_; rintro e w1 ⟨rfl, hb⟩))
      go_ret
      exact ⟨rfl, by (repeat (first | with_reducible exact Below.refl _ _ | with_reducible assumption | with_reducible refine up_alloc ?_ _ | with_reducible refine up_drew ?_ | with_reducible refine up_drewN ?_ _ | (with_reducible refine up_set ?_ ?hset _; case hset => first | (simp; done) | (simp; omega) | omega) | with_reducible refine up_trans ?_ (by with_reducible assumption)))⟩
set_option maxHeartbeats 2000000 in
theorem iChanged_any (v v' : Value) (n m : Nat) (X Y X' Y' : Nat → Int) (w : World) (h : Spots w v n X Y) (h' : Spots w v' m X' Y') (hn : n ≤ 1048576) (hm : m ≤ 1048576) :
    Calls Try.prog 28 #[v, v'] w (AnsIB w (cgN n X Y m X' Y') (cgX n X Y X' Y') (cpB n X Y m X' Y')) := by
  cases hc : chartB n X Y with
  | false =>
    rw [show cpB n X Y m X' Y' = false by simp [cpB, hc], show cgN n X Y m X' Y' = 0 by simp [cgN, cpB, hc]]
    go_enter Try.func28, Try.ntmps28
    go_wp2_with ((go_at_call 13; refine (isChart_g _ _ _ _ _ (by first | exact Spots.up (by with_reducible assumption) (by (repeat (first | with_reducible exact Below.refl _ _ | with_reducible assumption | with_reducible refine up_alloc ?_ _ | with_reducible refine up_drew ?_ | with_reducible refine up_drewN ?_ _ | (with_reducible refine up_set ?_ ?hset _; case hset => first | (simp; done) | (simp; omega) | omega) | with_reducible refine up_trans ?_ (by with_reducible assumption)))) | exact OwnS.spots (OwnS.up (by with_reducible assumption) (by (repeat (first | with_reducible exact Below.refl _ _ | with_reducible assumption | with_reducible refine up_alloc ?_ _ | with_reducible refine up_drew ?_ | with_reducible refine up_drewN ?_ _ | (with_reducible refine up_set ?_ ?hset _; case hset => first | (simp; done) | (simp; omega) | omega) | with_reducible refine up_trans ?_ (by with_reducible assumption)))))) (by omega)).mono ?_; rintro e w1 ⟨rfl, hb⟩))
    go_ret2
    exact AnsIB.nil (by (repeat (first | with_reducible exact Below.refl _ _ | with_reducible assumption | with_reducible refine up_alloc ?_ _ | with_reducible refine up_drew ?_ | with_reducible refine up_drewN ?_ _ | (with_reducible refine up_set ?_ ?hset _; case hset => first | (simp; done) | (simp; omega) | omega) | with_reducible refine up_trans ?_ (by with_reducible assumption))))
  | true =>
  cases hc' : chartB m X' Y' with
  | false =>
    rw [show cpB n X Y m X' Y' = false by simp [cpB, hc'], show cgN n X Y m X' Y' = 0 by simp [cgN, cpB, hc']]
    go_enter Try.func28, Try.ntmps28
    go_wp2_with ((go_at_call 13; refine (isChart_g _ _ _ _ _ (by first | exact Spots.up (by with_reducible assumption) (by (repeat (first | with_reducible exact Below.refl _ _ | with_reducible assumption | with_reducible refine up_alloc ?_ _ | with_reducible refine up_drew ?_ | with_reducible refine up_drewN ?_ _ | (with_reducible refine up_set ?_ ?hset _; case hset => first | (simp; done) | (simp; omega) | omega) | with_reducible refine up_trans ?_ (by with_reducible assumption)))) | exact OwnS.spots (OwnS.up (by with_reducible assumption) (by (repeat (first | with_reducible exact Below.refl _ _ | with_reducible assumption | with_reducible refine up_alloc ?_ _ | with_reducible refine up_drew ?_ | with_reducible refine up_drewN ?_ _ | (with_reducible refine up_set ?_ ?hset _; case hset => first | (simp; done) | (simp; omega) | omega) | with_reducible refine up_trans ?_ (by with_reducible assumption)))))) (by omega)).mono ?_; rintro e w1 ⟨rfl, hb⟩))
    go_ret2
    exact AnsIB.nil (by (repeat (first | with_reducible exact Below.refl _ _ | with_reducible assumption | with_reducible refine up_alloc ?_ _ | with_reducible refine up_drew ?_ | with_reducible refine up_drewN ?_ _ | (with_reducible refine up_set ?_ ?hset _; case hset => first | (simp; done) | (simp; omega) | omega) | with_reducible refine up_trans ?_ (by with_reducible assumption))))
  | true =>
    obtain ⟨A, c, hv, hnc, hrow⟩ := h
    have HV : Spots w v n X Y := ⟨A, c, hv, hnc, hrow⟩
    obtain ⟨A', c', hv', hnc', hrow'⟩ := h'
    have HV' : Spots w v' m X' Y' := ⟨A', c', hv', hnc', hrow'⟩
    subst hv hv'
    by_cases hnm : n = m
    · subst hnm
      rw [show cpB n X Y n X' Y' = true by simp [cpB, hc, hc'], show cgN n X Y n X' Y' = (chL (difB X Y X' Y') n).length by simp [cgN, cpB, hc, hc']]
      have hn12 := (chartB_iff.1 hc).1
      obtain ⟨hn1, hn12⟩ := hn12
      go_enter Try.func28, Try.ntmps28
      go_wp2_with fail
      refine (isChart_g _ n X Y _ HV (by omega)).mono ?_
      rintro e w1 ⟨rfl, hb0⟩
      go_wp2_with fail
      refine (isChart_g _ n X' Y' _ (HV'.up hb0) (by omega)).mono ?_
      rintro e w2 ⟨rfl, hb1⟩
      have hb := up_trans hb0 hb1
      clear hb0 hb1 HV HV'
      go_wp2_with fail
      go_loopw [6, 26] (fun v i wr => ∃ k : Nat, k ≤ n ∧ i = .int .i64 k ∧ OwnL w.heap.size wr v (chL (difB X Y X' Y') k) ∧ Below w.heap.size w wr) (fun _ i _ => n - (intOf i).toNat)
      case atStart => exact ⟨0, by omega, rfl, OwnL.empty hb.size, by (repeat (first | with_reducible exact Below.refl _ _ | with_reducible assumption | with_reducible refine up_alloc ?_ _ | with_reducible refine up_drew ?_ | with_reducible refine up_drewN ?_ _ | (with_reducible refine up_set ?_ ?hset _; case hset => first | (simp; done) | (simp; omega) | omega) | with_reducible refine up_trans ?_ (by with_reducible assumption)))⟩
      case round =>
        clear hb
        obtain ⟨k, hk, rfl, how, hb⟩ := hrel
        by_cases hlt : k < n
        · obtain ⟨b, o, rfl, hr⟩ := hrow (by omega)
          obtain ⟨b', o', rfl, hr'⟩ := hrow' (by omega)
          have c1 := up_keep hb (hr k hlt).1
          have c2 := up_keep hb (hr k hlt).2
          have c3 := up_keep hb (hr' k hlt).1
          have c4 := up_keep hb (hr' k hlt).2
          have hlen := chL_len (difB X Y X' Y') k
          have hlo := lt_of_cell c3
          clear hr hr' hrow hrow'
          cases hq : same (X k) (Y k) (X' k) (Y' k) with
          | true =>
            have he : ∀ w, (binOp .neq 33 (.agg #[.int .i64 (X k), .int .i64 (Y k)]) (.agg #[.int .i64 (X' k), .int .i64 (Y' k)])).run Try.prog w = .ok (.bool false) w := fun w => by rw [neq_spot, hq]; rfl
            have HL := Lib.hid (show chL (difB X Y X' Y') (k + 1) = chL (difB X Y X' Y') k by simp [chL, difB, hq])
            clear hq
            go_wp2_with fail
            go_quiet (fail)
            go_wp2_with fail
            go_roundw
            case rel => exact ⟨k + 1, by omega, by go_num, by rw [HL.out]; exact how.up (by (repeat (first | with_reducible exact Below.refl _ _ | with_reducible assumption | with_reducible refine up_alloc ?_ _ | with_reducible refine up_drew ?_ | with_reducible refine up_drewN ?_ _ | (with_reducible refine up_set ?_ ?hset _; case hset => first | (simp; done) | (simp; omega) | omega) | with_reducible refine up_trans ?_ (by with_reducible assumption)))), by (repeat (first | with_reducible exact Below.refl _ _ | with_reducible assumption | with_reducible refine up_alloc ?_ _ | with_reducible refine up_drew ?_ | with_reducible refine up_drewN ?_ _ | (with_reducible refine up_set ?_ ?hset _; case hset => first | (simp; done) | (simp; omega) | omega) | with_reducible refine up_trans ?_ (by with_reducible assumption)))⟩
            case measure => simp [intOf]; omega
          | false =>
            have he : ∀ w, (binOp .neq 33 (.agg #[.int .i64 (X k), .int .i64 (Y k)]) (.agg #[.int .i64 (X' k), .int .i64 (Y' k)])).run Try.prog w = .ok (.bool true) w := fun w => by rw [neq_spot, hq]; rfl
            have HL := Lib.hid (show chL (difB X Y X' Y') (k + 1) = chL (difB X Y X' Y') k ++ [(k : Int)] by simp [chL, difB, hq])
            clear hq
            go_wp2_with fail
            go_quiet (fail)
            go_wp2_with (at_builtin; refine wpList_app_int rfl (.tmp 38) (.tmp 40) rfl w.heap.size _ (chL (difB X Y X' Y') k) rfl rfl (by simp) (OwnL.up how (by (repeat (first | with_reducible exact Below.refl _ _ | with_reducible assumption | with_reducible refine up_alloc ?_ _ | with_reducible refine up_drew ?_ | with_reducible refine up_drewN ?_ _ | (with_reducible refine up_set ?_ ?hset _; case hset => first | (simp; done) | (simp; omega) | omega) | with_reducible refine up_trans ?_ (by with_reducible assumption))))) (show Below w.heap.size w _ from (by (repeat (first | with_reducible exact Below.refl _ _ | with_reducible assumption | with_reducible refine up_alloc ?_ _ | with_reducible refine up_drew ?_ | with_reducible refine up_drewN ?_ _ | (with_reducible refine up_set ?_ ?hset _; case hset => first | (simp; done) | (simp; omega) | omega) | with_reducible refine up_trans ?_ (by with_reducible assumption))))).size (by omega) ?_; intro v2 w2 ho2 hb2; replace hb2 := (show Below w.heap.size w _ from (by (repeat (first | with_reducible exact Below.refl _ _ | with_reducible assumption | with_reducible refine up_alloc ?_ _ | with_reducible refine up_drew ?_ | with_reducible refine up_drewN ?_ _ | (with_reducible refine up_set ?_ ?hset _; case hset => first | (simp; done) | (simp; omega) | omega) | with_reducible refine up_trans ?_ (by with_reducible assumption))))).trans hb2)
            go_roundw
            case rel => exact ⟨k + 1, by omega, by go_num, by rw [HL.out]; exact ho2, hb2⟩
            case measure => simp [intOf]; omega
        · have e : k = n := by omega
          subst e
          go_wp2_with fail
          go_ret2
          exact ⟨_, rfl, how.ownI, hb⟩
    · rw [show cpB n X Y m X' Y' = false by simp [cpB, hnm], show cgN n X Y m X' Y' = 0 by simp [cgN, cpB, hnm]]
      have h1 : ((n : Int) != m) = true := by simp; omega
      clear hrow hrow'
      go_enter Try.func28, Try.ntmps28
      go_wp2_with ((go_at_call 13; refine (isChart_g _ _ _ _ _ (by first | exact Spots.up (by with_reducible assumption) (by (repeat (first | with_reducible exact Below.refl _ _ | with_reducible assumption | with_reducible refine up_alloc ?_ _ | with_reducible refine up_drew ?_ | with_reducible refine up_drewN ?_ _ | (with_reducible refine up_set ?_ ?hset _; case hset => first | (simp; done) | (simp; omega) | omega) | with_reducible refine up_trans ?_ (by with_reducible assumption)))) | exact OwnS.spots (OwnS.up (by with_reducible assumption) (by (repeat (first | with_reducible exact Below.refl _ _ | with_reducible assumption | with_reducible refine up_alloc ?_ _ | with_reducible refine up_drew ?_ | with_reducible refine up_drewN ?_ _ | (with_reducible refine up_set ?_ ?hset _; case hset => first | (simp; done) | (simp; omega) | omega) | with_reducible refine up_trans ?_ (by with_reducible assumption)))))) (by omega)).mono ?_; rintro e w1 ⟨rfl, hb⟩))
      go_ret2
      exact AnsIB.nil (by (repeat (first | with_reducible exact Below.refl _ _ | with_reducible assumption | with_reducible refine up_alloc ?_ _ | with_reducible refine up_drew ?_ | with_reducible refine up_drewN ?_ _ | (with_reducible refine up_set ?_ ?hset _; case hset => first | (simp; done) | (simp; omega) | omega) | with_reducible refine up_trans ?_ (by with_reducible assumption))))
set_option maxHeartbeats 2000000 in
theorem sChanged_any (v v' : Value) (n m : Nat) (X Y X' Y' : Nat → Int) (w : World) (h : Spots w v n X Y) (h' : Spots w v' m X' Y') (hn : n ≤ 1048576) (hm : m ≤ 1048576) :
    Calls Try.prog 29 #[v, v'] w (AnsIB w (cgN n X Y m X' Y') (cgX n X Y X' Y') (cpB n X Y m X' Y')) := by
  cases hc : cpB n X Y m X' Y' with
  | false =>
    rw [show cgN n X Y m X' Y' = 0 by simp [cgN, hc]]
    go_enter Try.func29, Try.ntmps29
    go_wp2_with ((go_at_call 105; refine (chPair_g _ _ _ _ _ _ _ _ _ (by first | exact Spots.up (by with_reducible assumption) (by (repeat (first | with_reducible exact Below.refl _ _ | with_reducible assumption | with_reducible refine up_alloc ?_ _ | with_reducible refine up_drew ?_ | with_reducible refine up_drewN ?_ _ | (with_reducible refine up_set ?_ ?hset _; case hset => first | (simp; done) | (simp; omega) | omega) | with_reducible refine up_trans ?_ (by with_reducible assumption)))) | exact OwnS.spots (OwnS.up (by with_reducible assumption) (by (repeat (first | with_reducible exact Below.refl _ _ | with_reducible assumption | with_reducible refine up_alloc ?_ _ | with_reducible refine up_drew ?_ | with_reducible refine up_drewN ?_ _ | (with_reducible refine up_set ?_ ?hset _; case hset => first | (simp; done) | (simp; omega) | omega) | with_reducible refine up_trans ?_ (by with_reducible assumption)))))) (by first | exact Spots.up (by with_reducible assumption) (by (repeat (first | with_reducible exact Below.refl _ _ | with_reducible assumption | with_reducible refine up_alloc ?_ _ | with_reducible refine up_drew ?_ | with_reducible refine up_drewN ?_ _ | (with_reducible refine up_set ?_ ?hset _; case hset => first | (simp; done) | (simp; omega) | omega) | with_reducible refine up_trans ?_ (by with_reducible assumption)))) | exact OwnS.spots (OwnS.up (by with_reducible assumption) (by (repeat (first | with_reducible exact Below.refl _ _ | with_reducible assumption | with_reducible refine up_alloc ?_ _ | with_reducible refine up_drew ?_ | with_reducible refine up_drewN ?_ _ | (with_reducible refine up_set ?_ ?hset _; case hset => first | (simp; done) | (simp; omega) | omega) | with_reducible refine up_trans ?_ (by with_reducible assumption)))))) (by omega) (by omega)).mono ?_; rintro e w1 ⟨rfl, hb⟩))
    go_ret2
    exact AnsIB.nil (by (repeat (first | with_reducible exact Below.refl _ _ | with_reducible assumption | with_reducible refine up_alloc ?_ _ | with_reducible refine up_drew ?_ | with_reducible refine up_drewN ?_ _ | (with_reducible refine up_set ?_ ?hset _; case hset => first | (simp; done) | (simp; omega) | omega) | with_reducible refine up_trans ?_ (by with_reducible assumption))))
  | true =>
    rw [show cgN n X Y m X' Y' = (chL (difB X Y X' Y') n).length by simp [cgN, hc]]
    obtain ⟨A, c, hv, hnc, hrow⟩ := h
    have HV : Spots w v n X Y := ⟨A, c, hv, hnc, hrow⟩
    obtain ⟨A', c', hv', hnc', hrow'⟩ := h'
    have HV' : Spots w v' m X' Y' := ⟨A', c', hv', hnc', hrow'⟩
    subst hv hv'
    have hc2 := hc
    simp only [cpB, Bool.and_eq_true, decide_eq_true_eq] at hc2
    obtain ⟨⟨hca, hcb⟩, rfl⟩ := hc2
    obtain ⟨hn1, hn12⟩ := (chartB_iff.1 hca).1
    clear hca hcb
    · go_enter Try.func29, Try.ntmps29
      go_wp2_with fail
      refine (chPair_g _ _ n n X Y X' Y' _ HV HV' (by omega) (by omega)).mono ?_
      rintro e w1 ⟨rfl, hb⟩
      clear HV HV'
      go_wp2_with fail
      go_loopw [6, 15] (fun v i wr => ∃ k : Nat, k ≤ n ∧ i = .int .i64 k ∧ OwnL w.heap.size wr v (chL (difB X Y X' Y') k) ∧ Below w.heap.size w wr) (fun _ i _ => n - (intOf i).toNat)
      case atStart => exact ⟨0, by omega, rfl, OwnL.nil _ _, by (repeat (first | with_reducible exact Below.refl _ _ | with_reducible assumption | with_reducible refine up_alloc ?_ _ | with_reducible refine up_drew ?_ | with_reducible refine up_drewN ?_ _ | (with_reducible refine up_set ?_ ?hset _; case hset => first | (simp; done) | (simp; omega) | omega) | with_reducible refine up_trans ?_ (by with_reducible assumption)))⟩
      case round =>
        clear hb
        obtain ⟨k, hk, rfl, how, hb⟩ := hrel
        by_cases hlt : k < n
        · obtain ⟨b, o, rfl, hr⟩ := hrow (by omega)
          obtain ⟨b', o', rfl, hr'⟩ := hrow' (by omega)
          have c1 := up_keep hb (hr k hlt).1
          have c2 := up_keep hb (hr k hlt).2
          have c3 := up_keep hb (hr' k hlt).1
          have c4 := up_keep hb (hr' k hlt).2
          have hlen := chL_len (difB X Y X' Y') k
          have hlo := lt_of_cell c3
          clear hr hr' hrow hrow'
          cases hq : same (X k) (Y k) (X' k) (Y' k) with
          | true =>
            have he : ∀ w, (binOp .neq 33 (.agg #[.int .i64 (X k), .int .i64 (Y k)]) (.agg #[.int .i64 (X' k), .int .i64 (Y' k)])).run Try.prog w = .ok (.bool false) w := fun w => by rw [neq_spot, hq]; rfl
            have HL := Lib.hid (show chL (difB X Y X' Y') (k + 1) = chL (difB X Y X' Y') k by simp [chL, difB, hq])
            clear hq
            go_wp2_with fail
            go_quiet (fail)
            go_wp2_with fail
            go_roundw
            case rel => exact ⟨k + 1, by omega, by go_num, by rw [HL.out]; exact how.up (by (repeat (first | with_reducible exact Below.refl _ _ | with_reducible assumption | with_reducible refine up_alloc ?_ _ | with_reducible refine up_drew ?_ | with_reducible refine up_drewN ?_ _ | (with_reducible refine up_set ?_ ?hset _; case hset => first | (simp; done) | (simp; omega) | omega) | with_reducible refine up_trans ?_ (by with_reducible assumption)))), by (repeat (first | with_reducible exact Below.refl _ _ | with_reducible assumption | with_reducible refine up_alloc ?_ _ | with_reducible refine up_drew ?_ | with_reducible refine up_drewN ?_ _ | (with_reducible refine up_set ?_ ?hset _; case hset => first | (simp; done) | (simp; omega) | omega) | with_reducible refine up_trans ?_ (by with_reducible assumption)))⟩
            case measure => simp [intOf]; omega
          | false =>
            have he : ∀ w, (binOp .neq 33 (.agg #[.int .i64 (X k), .int .i64 (Y k)]) (.agg #[.int .i64 (X' k), .int .i64 (Y' k)])).run Try.prog w = .ok (.bool true) w := fun w => by rw [neq_spot, hq]; rfl
            have HL := Lib.hid (show chL (difB X Y X' Y') (k + 1) = chL (difB X Y X' Y') k ++ [(k : Int)] by simp [chL, difB, hq])
            clear hq
            go_wp2_with fail
            go_quiet (fail)
            go_wp2_with (at_builtin; refine wpList_app_int rfl (.tmp 26) (.tmp 28) rfl w.heap.size _ (chL (difB X Y X' Y') k) rfl rfl (by simp) (OwnL.up how (by (repeat (first | with_reducible exact Below.refl _ _ | with_reducible assumption | with_reducible refine up_alloc ?_ _ | with_reducible refine up_drew ?_ | with_reducible refine up_drewN ?_ _ | (with_reducible refine up_set ?_ ?hset _; case hset => first | (simp; done) | (simp; omega) | omega) | with_reducible refine up_trans ?_ (by with_reducible assumption))))) (show Below w.heap.size w _ from (by (repeat (first | with_reducible exact Below.refl _ _ | with_reducible assumption | with_reducible refine up_alloc ?_ _ | with_reducible refine up_drew ?_ | with_reducible refine up_drewN ?_ _ | (with_reducible refine up_set ?_ ?hset _; case hset => first | (simp; done) | (simp; omega) | omega) | with_reducible refine up_trans ?_ (by with_reducible assumption))))).size (by omega) ?_; intro v2 w2 ho2 hb2; replace hb2 := (show Below w.heap.size w _ from (by (repeat (first | with_reducible exact Below.refl _ _ | with_reducible assumption | with_reducible refine up_alloc ?_ _ | with_reducible refine up_drew ?_ | with_reducible refine up_drewN ?_ _ | (with_reducible refine up_set ?_ ?hset _; case hset => first | (simp; done) | (simp; omega) | omega) | with_reducible refine up_trans ?_ (by with_reducible assumption))))).trans hb2)
            go_roundw
            case rel => exact ⟨k + 1, by omega, by go_num, by rw [HL.out]; exact ho2, hb2⟩
            case measure => simp [intOf]; omega
        · have e : k = n := by omega
          subst e
          go_wp2_with fail
          go_ret2
          exact ⟨_, rfl, how.ownI, hb⟩
end Go.Proofs.Ytljbcfgecbonnaa
