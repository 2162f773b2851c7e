/-
  What is a chart: both sides' answers.
-/
import Derived.Test.YtbfhfjpfjkdcfaaDoorRows
import Derived.Test.YtbfhfjpfjkdcfaaDoorBase
import Derived.Test.YtbfhfjpfjkdcfaaDoorSpot
import Derived.Test.YtbfhfjpfjkdcfaaDoorSlice
namespace Go.Proofs.YtbfhfjpfjkdcfaaDoor
open Go.RowKit Go.Sort

/-- Two spots are equal. -/
def same (x y u v : Int) : Bool := x == u && y == v
theorem eql_spot (x y u v : Int) (w : World) : (binOp .eql 38 (.agg #[.int .i64 x, .int .i64 y]) (.agg #[.int .i64 u, .int .i64 v])).run Tryd.prog w = .ok (.bool (same x y u v)) w := by
  have u3 := Tryd.underlying3
  have a3 := Tryd.isAgg3
  have z3 := Tryd.sizeOf3
  have hS : Tryd.prog.underlying 38 = some (.struct (Tryd.prog.fieldsOf 38)) := by kernel_rfl
  have hp : Tryd.prog.stoodInHeld 38 = false := by kernel_rfl
  unfold same
  rw [run_eql_struct, show (10000 : Nat) = 9999 + 1 from rfl, run_equalIn_agg w 9999 38 _ _ hS hp]
  simp only [Program.fieldsOf, Tryd.underlying38]
  go_simp
  by_cases h1 : x = u <;> by_cases h2 : y = v <;> simp [h1, h2]
set_option maxHeartbeats 1000000 in
theorem index_any (v : Value) (n : Nat) (X Y : Nat → Int) (x y : Int) (hn : n ≤ 9223372036854775807) (w : World) (h : Spots w v n X Y) :
    Calls Tryd.prog 44 #[v, .agg #[.int .i64 x, .int .i64 y]] w (Ans w (.int .i64 (findV (fun i => same x y (X i) (Y i)) n))) := by
  obtain ⟨A, c, rfl, hnc, hrow⟩ := h
  obtain ⟨r, hr⟩ : ∃ r, r = findV (fun i => same x y (X i) (Y i)) n := ⟨_, rfl⟩
  rw [← hr]
  have HE := Lib.hid hr
  clear hr
  go_enter Tryd.func44, Tryd.ntmps44
  go_wp2_with fail
  have hnew := cell_new2 w (.int .i64 x) (.int .i64 y) 38
  generalize hW : World.alloc _ _ = W at *
  have hb0 : Below w.heap.size w W := by subst hW; (repeat (first | with_reducible exact Below.refl _ _ | with_reducible assumption | with_reducible refine up_alloc ?_ _ | with_reducible refine up_drew ?_ | with_reducible refine up_drewN ?_ _ | (with_reducible refine up_set ?_ ?hset _; case hset => first | (simp; done) | (simp; omega) | omega) | with_reducible refine up_trans ?_ (by with_reducible assumption)))
  have hs : w.heap.size < W.heap.size := by subst hW; simp
  clear hW
  obtain ⟨g0, g1⟩ := hnew
  go_loopw [8] (fun i wr => ∃ k : Nat, k ≤ n ∧ i = .int .i64 k ∧ Below W.heap.size W wr ∧ allB (fun i => !same x y (X i) (Y i)) k = true) (fun i _ => n - (intOf i).toNat)
  case atStart => exact ⟨0, by omega, rfl, Below.refl _ _, rfl⟩
  case round =>
    obtain ⟨k, hk, rfl, hb, ha⟩ := hrel
    have HA := Lib.hid ha
    clear ha
    by_cases hlt : k < n
    · obtain ⟨b, o, rfl, hr⟩ := hrow (by omega)
      have c1 := up_keep hb (up_keep hb0 (hr k hlt).1)
      have c2 := up_keep hb (up_keep hb0 (hr k hlt).2)
      have c3 := up_keep hb g0
      have c4 := up_keep hb g1
      clear hr hrow
      cases hq : same x y (X k) (Y k) with
      | true =>
        have he : ∀ w, (binOp .eql 38 (.agg #[.int .i64 x, .int .i64 y]) (.agg #[.int .i64 (X k), .int .i64 (Y k)])).run Tryd.prog w = .ok (.bool true) w := fun w => by rw [eql_spot, hq]
        have HQ := Lib.hid hq
        clear hq
        go_wp2_with fail
        go_quiet (fail)
        go_wp2_with fail
        go_ret
        exact Ans.int (by rw [HE.out, findV_at HA.out HQ.out hlt]) (up_trans hb0 (up_drewN hb _))
      | false =>
        have he : ∀ w, (binOp .eql 38 (.agg #[.int .i64 x, .int .i64 y]) (.agg #[.int .i64 (X k), .int .i64 (Y k)])).run Tryd.prog w = .ok (.bool false) w := fun w => by rw [eql_spot, hq]
        have HQ := Lib.hid hq
        clear hq
        go_wp2_with fail
        go_quiet (fail)
        go_wp2_with fail
        go_roundw
        case rel => exact ⟨k + 1, by omega, by go_num, up_drewN hb _, allB_succ HA.out (by simp [HQ.out])⟩
        case measure => simp [intOf]; omega
    · have e : k = n := by omega
      subst e
      go_wp2_with fail
      go_ret
      exact Ans.int (by rw [HE.out, findV_none HA.out]) (up_trans hb0 hb)
set_option maxHeartbeats 1000000 in
theorem contains_any (v : Value) (n : Nat) (X Y : Nat → Int) (x y : Int) (hn : n ≤ 9223372036854775807) (w : World) (h : Spots w v n X Y) :
    Calls Tryd.prog 34 #[v, .agg #[.int .i64 x, .int .i64 y]] w (Ans w (.bool (hasB (fun i => same x y (X i) (Y i)) n))) := by
  have HC := Lib.hid (fun w' hb => index_any v n X Y x y hn w' (h.up hb))
  have HF := Lib.hid (hasB_find (fun i => same x y (X i) (Y i)) n)
  obtain ⟨A, c, rfl, hnc, hrow⟩ := h
  clear hrow
  generalize hr : findV (fun i => same x y (X i) (Y i)) n = r at *
  clear hr
  go_enter Tryd.func34, Tryd.ntmps34
  go_wp2_with ((go_at_call 44; refine (from0 (HC.out _ (by (repeat (first | with_reducible exact Below.refl _ _ | with_reducible assumption | with_reducible refine up_alloc ?_ _ | with_reducible refine up_drew ?_ | with_reducible refine up_drewN ?_ _ | (with_reducible refine up_set ?_ ?hset _; case hset => first | (simp; done) | (simp; omega) | omega) | with_reducible refine up_trans ?_ (by with_reducible assumption))))) (by first | exact hb0 | exact up_alloc hb0 _ | exact up_drew hb0 | exact up_drewN hb0 _ | exact Below.refl _ _)).mono ?_; rintro e w1 ⟨rfl, hb0⟩; obtain ⟨hc0, hf0⟩ := bcell hb0))
  go_ret
  exact Ans.bool HF.out (by (repeat (first | with_reducible exact Below.refl _ _ | with_reducible assumption | with_reducible refine up_alloc ?_ _ | with_reducible refine up_drew ?_ | with_reducible refine up_drewN ?_ _ | (with_reducible refine up_set ?_ ?hset _; case hset => first | (simp; done) | (simp; omega) | omega) | with_reducible refine up_trans ?_ (by with_reducible assumption))))
/-- n spots are a chart. -/
def okB (X Y : Nat → Int) (i : Nat) : Bool := spotB (X i) (Y i) && !hasB (fun j => same (X i) (Y i) (X j) (Y j)) i
def chartB (n : Nat) (X Y : Nat → Int) : Bool := inB n 1 12 && allB (okB X Y) n
theorem chartB_iff {n : Nat} {X Y : Nat → Int} : chartB n X Y = true ↔ (1 ≤ n ∧ n ≤ 12) ∧ (∀ i, i < n → spotB (X i) (Y i) = true) ∧ ∀ i j, i < n → j < i → ¬ (X i = X j ∧ Y i = Y j) := by
  unfold chartB
  rw [Bool.and_eq_true, inB_iff, allB_iff]
  constructor
  · rintro ⟨⟨h1, h2⟩, h⟩
    refine ⟨⟨by omega, by omega⟩, fun i hi => ?_, fun i j hi hj hc => ?_⟩
    · have := h i hi; unfold okB at this; rw [Bool.and_eq_true] at this; exact this.1
    · have := h i hi
      unfold okB at this
      rw [Bool.and_eq_true, Bool.not_eq_true'] at this
      have h3 : hasB (fun j => same (X i) (Y i) (X j) (Y j)) i = true := hasB_iff.2 ⟨j, hj, by unfold same; simp [hc.1, hc.2]⟩
      rw [this.2] at h3; cases h3
  · rintro ⟨⟨h1, h2⟩, hs, hd⟩
    refine ⟨⟨by omega, by omega⟩, fun i hi => ?_⟩
    unfold okB
    rw [Bool.and_eq_true, Bool.not_eq_true']
    refine ⟨hs i hi, ?_⟩
    cases hh : hasB (fun j => same (X i) (Y i) (X j) (Y j)) i with
    | false => rfl
    | true =>
      obtain ⟨j, hj, hp⟩ := hasB_iff.1 hh
      unfold same at hp
      simp only [Bool.and_eq_true, beq_iff_eq] at hp
      exact absurd hp (hd i j hi hj)
theorem chartB_cong {n : Nat} {X Y X' Y' : Nat → Int} (hx : ∀ i, i < n → X i = X' i) (hy : ∀ i, i < n → Y i = Y' i) : chartB n X Y = chartB n X' Y' := by
  cases h : chartB n X' Y' with
  | true =>
    rw [chartB_iff] at h ⊢
    exact ⟨h.1, fun i hi => by rw [hx i hi, hy i hi]; exact h.2.1 i hi, fun i j hi hj => by rw [hx i hi, hy i hi, hx j (by omega), hy j (by omega)]; exact h.2.2 i j hi hj⟩
  | false =>
    cases h' : chartB n X Y with
    | false => rfl
    | true =>
      exfalso
      have : chartB n X' Y' = true := by
        rw [chartB_iff] at h' ⊢
        exact ⟨h'.1, fun i hi => by rw [← hx i hi, ← hy i hi]; exact h'.2.1 i hi, fun i j hi hj => by rw [← hx i hi, ← hy i hi, ← hx j (by omega), ← hy j (by omega)]; exact h'.2.2 i j hi hj⟩
      rw [h] at this; cases this
set_option maxHeartbeats 1000000 in
theorem isChart_any (v : Value) (n : Nat) (X Y : Nat → Int) (hn : n ≤ 9223372036854775807) (w : World) (h : Spots w v n X Y) :
    Calls Tryd.prog 22 #[v] w (Ans w (.bool (chartB n X Y))) := by
  have HV := Lib.hid h
  have HW := Lib.hid (within_any (n : Int) 1 12)
  obtain ⟨A, c, rfl, hnc, hrow⟩ := h
  cases hin : inB n 1 12 with
  | false =>
    have HE := Lib.hid (show chartB n X Y = false by unfold chartB; rw [hin]; rfl)
    rw [hin] at HW
    clear hin hrow
    go_enter Tryd.func22, Tryd.ntmps22
    go_wp2_with ((go_at_call 33; refine (HW.out _).mono ?_; rintro e w1 ⟨rfl, rfl⟩))
    go_ret
    exact Ans.bool HE.out.symm (by (repeat (first | with_reducible exact Below.refl _ _ | with_reducible assumption | with_reducible refine up_alloc ?_ _ | with_reducible refine up_drew ?_ | with_reducible refine up_drewN ?_ _ | (with_reducible refine up_set ?_ ?hset _; case hset => first | (simp; done) | (simp; omega) | omega) | with_reducible refine up_trans ?_ (by with_reducible assumption))))
  | true =>
    have HE := Lib.hid (show chartB n X Y = allB (okB X Y) n by unfold chartB; rw [hin]; rfl)
    rw [hin] at HW
    clear hin
    go_enter Tryd.func22, Tryd.ntmps22
    go_wp2_with ((go_at_call 33; refine (HW.out _).mono ?_; rintro e w1 ⟨rfl, rfl⟩))
    go_loopw [11] (fun i wr => ∃ k : Nat, k ≤ n ∧ i = .int .i64 k ∧ Below w.heap.size w wr ∧ allB (okB X Y) k = true) (fun i _ => n - (intOf i).toNat)
    case atStart => exact ⟨0, by omega, rfl, Below.refl _ _, rfl⟩
    case round =>
      obtain ⟨k, hk, rfl, hb, ha⟩ := hrel
      have HA := Lib.hid ha
      clear ha
      by_cases hlt : k < n
      · obtain ⟨b, o, rfl, hr⟩ := hrow (by omega)
        have c1 := up_keep hb (hr k hlt).1
        have c2 := up_keep hb (hr k hlt).2
        have HS := Lib.hid (isSpot_any (X k) (Y k))
        have HC := Lib.hid (fun (W : World) (hB : Below w.heap.size w W) => contains_any (.slice (some ⟨b, o, none⟩) k c) k X Y (X k) (Y k) (by omega) W ⟨_, _, rfl, by omega, fun _ => ⟨_, _, rfl, (hr.up hB).less (by omega)⟩⟩)
        have HK := Lib.hid (show okB X Y k = (spotB (X k) (Y k) && !hasB (fun j => same (X k) (Y k) (X j) (Y j)) k) from rfl)
        have hkc : k ≤ c := by omega
        clear hr hrow
        cases hs : spotB (X k) (Y k) with
        | false =>
          rw [hs] at HS HK
          clear hs
          go_wp2_with fail
          have hnew := cell_new2 wr (.int .i64 (X k)) (.int .i64 (Y k)) 38
          generalize hW : World.alloc _ _ = W at *
          have hb1 : Below w.heap.size w W := by subst hW; (repeat (first | with_reducible exact Below.refl _ _ | with_reducible assumption | with_reducible refine up_alloc ?_ _ | with_reducible refine up_drew ?_ | with_reducible refine up_drewN ?_ _ | (with_reducible refine up_set ?_ ?hset _; case hset => first | (simp; done) | (simp; omega) | omega) | with_reducible refine up_trans ?_ (by with_reducible assumption)))
          clear hW
          have g0 := cell_regrown hnew.1
          have g1 := cell_regrown hnew.2
          clear hnew
          refine wp_region_up (by kernel_rfl) (by kernel_rfl) ?_
          repeat (go_big_quiet_step (exact up_of (fun W _ => HS.out W) _ _))
          refine wpQuiet_nil ?_
          intro w1 hb0
          obtain ⟨hc0, hf0⟩ := bcell hb0
          go_wp2_with fail
          go_ret
          exact Ans.bool (by rw [HE.out, allB_no hlt HK.out]) (by (repeat (first | with_reducible exact Below.refl _ _ | with_reducible assumption | with_reducible refine up_alloc ?_ _ | with_reducible refine up_drew ?_ | with_reducible refine up_drewN ?_ _ | (with_reducible refine up_set ?_ ?hset _; case hset => first | (simp; done) | (simp; omega) | omega) | with_reducible refine up_trans ?_ (by with_reducible assumption))))
        | true =>
          cases hh : hasB (fun j => same (X k) (Y k) (X j) (Y j)) k with
          | true =>
            rw [hs] at HS HK
            rw [hh] at HC HK
            clear hs hh
            go_wp2_with fail
            have hnew := cell_new2 wr (.int .i64 (X k)) (.int .i64 (Y k)) 38
            generalize hW : World.alloc _ _ = W at *
            have hb1 : Below w.heap.size w W := by subst hW; (repeat (first | with_reducible exact Below.refl _ _ | with_reducible assumption | with_reducible refine up_alloc ?_ _ | with_reducible refine up_drew ?_ | with_reducible refine up_drewN ?_ _ | (with_reducible refine up_set ?_ ?hset _; case hset => first | (simp; done) | (simp; omega) | omega) | with_reducible refine up_trans ?_ (by with_reducible assumption)))
            clear hW
            have g0 := cell_regrown hnew.1
            have g1 := cell_regrown hnew.2
            clear hnew
            refine wp_region_up (by kernel_rfl) (by kernel_rfl) ?_
            repeat (go_big_quiet_step (first | exact up_of (fun W _ => HS.out W) _ _ | exact up_of (fun W hB => HC.out W (up_trans hb1 hB)) _ _))
            refine wpQuiet_nil ?_
            intro w1 hb0
            obtain ⟨hc0, hf0⟩ := bcell hb0
            go_wp2_with fail
            go_ret
            exact Ans.bool (by rw [HE.out, allB_no hlt HK.out]) (by (repeat (first | with_reducible exact Below.refl _ _ | with_reducible assumption | with_reducible refine up_alloc ?_ _ | with_reducible refine up_drew ?_ | with_reducible refine up_drewN ?_ _ | (with_reducible refine up_set ?_ ?hset _; case hset => first | (simp; done) | (simp; omega) | omega) | with_reducible refine up_trans ?_ (by with_reducible assumption))))
          | false =>
            rw [hs] at HS HK
            rw [hh] at HC HK
            clear hs hh
            go_wp2_with fail
            have hnew := cell_new2 wr (.int .i64 (X k)) (.int .i64 (Y k)) 38
            generalize hW : World.alloc _ _ = W at *
            have hb1 : Below w.heap.size w W := by subst hW; (repeat (first | with_reducible exact Below.refl _ _ | with_reducible assumption | with_reducible refine up_alloc ?_ _ | with_reducible refine up_drew ?_ | with_reducible refine up_drewN ?_ _ | (with_reducible refine up_set ?_ ?hset _; case hset => first | (simp; done) | (simp; omega) | omega) | with_reducible refine up_trans ?_ (by with_reducible assumption)))
            clear hW
            have g0 := cell_regrown hnew.1
            have g1 := cell_regrown hnew.2
            clear hnew
            refine wp_region_up (by kernel_rfl) (by kernel_rfl) ?_
            repeat (go_big_quiet_step (first | exact up_of (fun W _ => HS.out W) _ _ | exact up_of (fun W hB => HC.out W (up_trans hb1 hB)) _ _))
            refine wpQuiet_nil ?_
            intro w1 hb0
            obtain ⟨hc0, hf0⟩ := bcell hb0
            go_wp2_with fail
            go_roundw
            case rel => exact ⟨k + 1, by omega, by go_num, by (repeat (first | with_reducible exact Below.refl _ _ | with_reducible assumption | with_reducible refine up_alloc ?_ _ | with_reducible refine up_drew ?_ | with_reducible refine up_drewN ?_ _ | (with_reducible refine up_set ?_ ?hset _; case hset => first | (simp; done) | (simp; omega) | omega) | with_reducible refine up_trans ?_ (by with_reducible assumption))), allB_succ HA.out HK.out⟩
            case measure => simp [intOf]; omega
      · have e : k = n := by omega
        subst e
        go_wp2_with fail
        go_ret
        exact Ans.bool (by rw [HE.out, HA.out]) hb
theorem isChart_g (v : Value) (n : Nat) (X Y : Nat → Int) (w : World) (h : Spots w v n X Y) (hn : n ≤ 9223372036854775807) : Calls Tryd.prog 22 #[v] w (Ans w (.bool (chartB n X Y))) := isChart_any v n X Y hn w h
theorem contains_g (v : Value) (n : Nat) (X Y : Nat → Int) (x y : Int) (w : World) (h : Spots w v n X Y) (hn : n ≤ 9223372036854775807) :
    Calls Tryd.prog 34 #[v, .agg #[.int .i64 x, .int .i64 y]] w (Ans w (.bool (hasB (fun i => same x y (X i) (Y i)) n))) := contains_any v n X Y x y hn w h
set_option maxHeartbeats 2000000 in
theorem chGood_any (v : Value) (n : Nat) (X Y : Nat → Int) (hn : n ≤ 9223372036854775807) (w : World) (h : Spots w v n X Y) :
    Calls Tryd.prog 19 #[v] w (Ans w (.bool (chartB n X Y))) := by
  have HW := Lib.hid (l1In_any (n : Int) 1 12)
  obtain ⟨A, c, rfl, hnc, hrow⟩ := h
  obtain ⟨q, hq⟩ : ∃ q, q = inB n 1 12 := ⟨_, rfl⟩
  rw [← hq] at HW
  have HE := Lib.hid (show chartB n X Y = (q && allB (okB X Y) n) by unfold chartB; rw [hq])
  clear hq
  go_enter Tryd.func19, Tryd.ntmps19
  go_wp2_with fail
  go_loopw [9] (fun i wr => ∃ k : Nat, k ≤ n ∧ i = .int .i64 k ∧ Below w.heap.size w wr ∧ allB (okB X Y) k = true) (fun i _ => n - (intOf i).toNat)
  case atStart => exact ⟨0, by omega, rfl, Below.refl _ _, rfl⟩
  case round =>
    obtain ⟨k, hk, rfl, hb, ha⟩ := hrel
    have HA := Lib.hid ha
    clear ha
    by_cases hlt : k < n
    · obtain ⟨b, o, rfl, hr⟩ := hrow (by omega)
      have c1 := up_keep hb (hr k hlt).1
      have c2 := up_keep hb (hr k hlt).2
      have HR := Lib.hid hr
      have HS := Lib.hid (stGood_any (X k) (Y k))
      have HK := Lib.hid (show okB X Y k = (spotB (X k) (Y k) && !hasB (fun j => same (X k) (Y k) (X j) (Y j)) k) from rfl)
      have hkc : k ≤ c := by omega
      clear hr hrow
      cases hs : spotB (X k) (Y k) with
      | false =>
        rw [hs] at HS HK
        clear hs
        go_wp2_with ((go_at_call 30; refine (from0 (HS.out _) (by first | exact hb0 | exact up_alloc hb0 _ | exact up_drew hb0 | exact up_drewN hb0 _ | exact Below.refl _ _)).mono ?_; rintro e w1 ⟨rfl, hb0⟩; obtain ⟨hc0, hf0⟩ := bcell hb0))
        go_ret
        exact Ans.bool (by rw [HE.out, allB_no hlt HK.out, Bool.and_false]) (by (repeat (first | with_reducible exact Below.refl _ _ | with_reducible assumption | with_reducible refine up_alloc ?_ _ | with_reducible refine up_drew ?_ | with_reducible refine up_drewN ?_ _ | (with_reducible refine up_set ?_ ?hset _; case hset => first | (simp; done) | (simp; omega) | omega) | with_reducible refine up_trans ?_ (by with_reducible assumption))))
      | true =>
        rw [hs] at HS HK
        clear hs
        go_wp2_with ((go_at_call 30; refine (from0 (HS.out _) (by first | exact hb0 | exact up_alloc hb0 _ | exact up_drew hb0 | exact up_drewN hb0 _ | exact Below.refl _ _)).mono ?_; rintro e w1 ⟨rfl, hb0⟩; obtain ⟨hc0, hf0⟩ := bcell hb0))
        have g0 := up_keep hb0 (cell_new2 wr (.int .i64 (X k)) (.int .i64 (Y k)) 38).1
        have g1 := up_keep hb0 (cell_new2 wr (.int .i64 (X k)) (.int .i64 (Y k)) 38).2
        have hz : wr.heap.size < w1.heap.size := by have := hb0.size; simp at this; omega
        have hb1 : Below w.heap.size w w1 := by (repeat (first | with_reducible exact Below.refl _ _ | with_reducible assumption | with_reducible refine up_alloc ?_ _ | with_reducible refine up_drew ?_ | with_reducible refine up_drewN ?_ _ | (with_reducible refine up_set ?_ ?hset _; case hset => first | (simp; done) | (simp; omega) | omega) | with_reducible refine up_trans ?_ (by with_reducible assumption)))
        clear hc0 hf0 hb0
        obtain ⟨wo, rfl⟩ : ∃ wo : World, wo = wr := ⟨_, rfl⟩
        obtain ⟨wp, rfl⟩ : ∃ wp : World, wp = w1 := ⟨_, rfl⟩
        go_loopw [21] (fun i wi => ∃ j : Nat, j ≤ k ∧ i = .int .i64 j ∧ Below wp.heap.size wp wi ∧ allB (fun j => !same (X k) (Y k) (X j) (Y j)) j = true) (fun i _ => k - (intOf i).toNat)
        case atStart => exact ⟨0, by omega, rfl, Below.refl _ _, rfl⟩
        case round =>
          obtain ⟨j, hj, rfl, hbi, hai⟩ := hrel
          have HI := Lib.hid hai
          clear hai
          by_cases hjk : j < k
          · have d1 := up_keep hbi (up_keep hb1 (HR.out j (by omega)).1)
            have d2 := up_keep hbi (up_keep hb1 (HR.out j (by omega)).2)
            have e1 := up_keep hbi g0
            have e2 := up_keep hbi g1
            have hzz := Nat.lt_of_lt_of_le hz hbi.size
            cases hq : same (X k) (Y k) (X j) (Y j) with
            | true =>
              have he : ∀ w, (binOp .eql 38 (.agg #[.int .i64 (X k), .int .i64 (Y k)]) (.agg #[.int .i64 (X j), .int .i64 (Y j)])).run Tryd.prog w = .ok (.bool true) w := fun w => by rw [eql_spot, hq]
              have HQ := Lib.hid hq
              clear hq
              go_wp2_with fail
              go_ret
              exact Ans.bool (by rw [HE.out, allB_no hlt (by rw [HK.out, hasB_iff.2 ⟨j, hjk, HQ.out⟩]; rfl), Bool.and_false]) (by (repeat (first | with_reducible exact Below.refl _ _ | with_reducible assumption | with_reducible refine up_alloc ?_ _ | with_reducible refine up_drew ?_ | with_reducible refine up_drewN ?_ _ | (with_reducible refine up_set ?_ ?hset _; case hset => first | (simp; done) | (simp; omega) | omega) | with_reducible refine up_trans ?_ (by with_reducible assumption))))
            | false =>
              have he : ∀ w, (binOp .eql 38 (.agg #[.int .i64 (X k), .int .i64 (Y k)]) (.agg #[.int .i64 (X j), .int .i64 (Y j)])).run Tryd.prog w = .ok (.bool false) w := fun w => by rw [eql_spot, hq]
              have HQ := Lib.hid hq
              clear hq
              go_wp2_with fail
              go_roundw
              case rel => exact ⟨j + 1, by omega, by go_num, up_alloc hbi _, allB_succ HI.out (by rw [HQ.out]; rfl)⟩
              case measure => simp [intOf]; omega
          · have e : j = k := by omega
            subst e
            go_wp2_with fail
            go_roundw
            case rel => exact ⟨j + 1, by omega, by go_num, up_trans hb1 hbi, allB_succ HA.out (by rw [HK.out]; unfold hasB; rw [HI.out]; rfl)⟩
            case measure => simp [intOf]; omega
    · have e : k = n := by omega
      subst e
      go_wp2_with ((go_at_call 31; refine (HW.out _).mono ?_; rintro e w1 ⟨rfl, rfl⟩))
      go_ret
      exact Ans.bool (by rw [HE.out, HA.out, Bool.and_true]) (by (repeat (first | with_reducible exact Below.refl _ _ | with_reducible assumption | with_reducible refine up_alloc ?_ _ | with_reducible refine up_drew ?_ | with_reducible refine up_drewN ?_ _ | (with_reducible refine up_set ?_ ?hset _; case hset => first | (simp; done) | (simp; omega) | omega) | with_reducible refine up_trans ?_ (by with_reducible assumption))))
theorem chGood_g (v : Value) (n : Nat) (X Y : Nat → Int) (w : World) (h : Spots w v n X Y) (hn : n ≤ 9223372036854775807) : Calls Tryd.prog 19 #[v] w (Ans w (.bool (chartB n X Y))) := chGood_any v n X Y hn w h
end Go.Proofs.YtbfhfjpfjkdcfaaDoor
