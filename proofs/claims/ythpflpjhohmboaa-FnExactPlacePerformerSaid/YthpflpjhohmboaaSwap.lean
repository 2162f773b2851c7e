/-
  SwapPerformers and PlacePerformer on both sides.
-/
import Derived.Test.YthpflpjhohmboaaRows
import Derived.Test.YthpflpjhohmboaaBase
import Derived.Test.YthpflpjhohmboaaSpot
import Derived.Test.YthpflpjhohmboaaSlice
import Derived.Test.YthpflpjhohmboaaChart
import Derived.Test.YthpflpjhohmboaaAppend
import Derived.Test.YthpflpjhohmboaaForm
import Derived.Test.YthpflpjhohmboaaLawS
import Derived.Test.YthpflpjhohmboaaMark
import Derived.Test.YthpflpjhohmboaaOpen
import Derived.Test.YthpflpjhohmboaaTrod
import Derived.RegionTactic
import Derived.ChangeAlike
namespace Go.Proofs.Ythpflpjhohmboaa
open Go.RowKit Go.Sort Go.ChangeShapes Go.WideShapes

theorem cell_drew (w : World) (p : Addr) : w.drew.cell? p = w.cell? p := rfl
theorem frozen_drew (w : World) (p : Addr) : w.drew.frozen? p = w.frozen? p := rfl
/-- A chart, and a place in it. -/
def hasI (n : Nat) (X Y : Nat → Int) (i : Int) : Bool := chartB n X Y && inB i 0 ((n : Int) - 1)
theorem hasI_iff {n : Nat} {X Y : Nat → Int} {i : Int} : hasI n X Y i = true ↔ chartB n X Y = true ∧ 0 ≤ i ∧ i ≤ (n : Int) - 1 := by simp [hasI, inB_iff]
set_option maxHeartbeats 400000 in
theorem chHas_g (v : Value) (n : Nat) (X Y : Nat → Int) (i : Int) (w : World) (h : Spots w v n X Y) (hn : n ≤ 1048576) :
    Calls Try.prog 54 #[v, .int .i64 i] w (Ans w (.bool (hasI n X Y i))) := by
  obtain ⟨A, c, hv, hnc, hrow⟩ := h
  have HV : Spots w v n X Y := ⟨A, c, hv, hnc, hrow⟩
  subst hv
  clear hrow
  have H := Lib.hid (show hasI n X Y i = (chartB n X Y && inB i 0 ((n : Int) - 1)) from rfl)
  cases hc : chartB n X Y with
  | false =>
    rw [show hasI n X Y i = false by simp [hasI, hc]]
    go_enter Try.func54, Try.ntmps54
    go_wp2_with ((go_at_call 49; refine (chGood_g _ _ _ _ _ (by first | exact Spots.up (by with_reducible assumption) (by (repeat (first | with_reducible exact Below.refl _ _ | with_reducible assumption | with_reducible refine up_alloc ?_ _ | with_reducible refine up_drew ?_ | with_reducible refine up_drewN ?_ _ | (with_reducible refine up_set ?_ ?hset _; case hset => first | (simp; done) | (simp; omega) | omega) | with_reducible refine up_trans ?_ (by with_reducible assumption)))) | exact OwnS.spots (OwnS.up (by with_reducible assumption) (by (repeat (first | with_reducible exact Below.refl _ _ | with_reducible assumption | with_reducible refine up_alloc ?_ _ | with_reducible refine up_drew ?_ | with_reducible refine up_drewN ?_ _ | (with_reducible refine up_set ?_ ?hset _; case hset => first | (simp; done) | (simp; omega) | omega) | with_reducible refine up_trans ?_ (by with_reducible assumption)))))) (by omega)).mono ?_; rintro e w1 ⟨rfl, hb⟩))
    go_ret
    exact ⟨rfl, by (repeat (first | with_reducible exact Below.refl _ _ | with_reducible assumption | with_reducible refine up_alloc ?_ _ | with_reducible refine up_drew ?_ | with_reducible refine up_drewN ?_ _ | (with_reducible refine up_set ?_ ?hset _; case hset => first | (simp; done) | (simp; omega) | omega) | with_reducible refine up_trans ?_ (by with_reducible assumption)))⟩
  | true =>
    rw [show hasI n X Y i = inB i 0 ((n : Int) - 1) by simp [hasI, hc]]
    go_enter Try.func54, Try.ntmps54
    go_wp2_with (first | (go_at_call 49; refine (chGood_g _ _ _ _ _ (by first | exact Spots.up (by with_reducible assumption) (by (repeat (first | with_reducible exact Below.refl _ _ | with_reducible assumption | with_reducible refine up_alloc ?_ _ | with_reducible refine up_drew ?_ | with_reducible refine up_drewN ?_ _ | (with_reducible refine up_set ?_ ?hset _; case hset => first | (simp; done) | (simp; omega) | omega) | with_reducible refine up_trans ?_ (by with_reducible assumption)))) | exact OwnS.spots (OwnS.up (by with_reducible assumption) (by (repeat (first | with_reducible exact Below.refl _ _ | with_reducible assumption | with_reducible refine up_alloc ?_ _ | with_reducible refine up_drew ?_ | with_reducible refine up_drewN ?_ _ | (with_reducible refine up_set ?_ ?hset _; case hset => first | (simp; done) | (simp; omega) | omega) | with_reducible refine up_trans ?_ (by with_reducible assumption)))))) (by omega)).mono ?_; rintro e w1 ⟨rfl, hb⟩) | (go_at_call 60; refine (l1In_any _ _ _ _).mono ?_; rintro e w1 ⟨rfl, rfl⟩))
    go_ret
    exact ⟨rfl, by (repeat (first | with_reducible exact Below.refl _ _ | with_reducible assumption | with_reducible refine up_alloc ?_ _ | with_reducible refine up_drew ?_ | with_reducible refine up_drewN ?_ _ | (with_reducible refine up_set ?_ ?hset _; case hset => first | (simp; done) | (simp; omega) | omega) | with_reducible refine up_trans ?_ (by with_reducible assumption)))⟩
/-- The list with two places changed about. -/
def swX (i j : Nat) (X : Nat → Int) (t : Nat) : Int := if t = j then X i else if t = i then X j else X t
def swB (n : Nat) (X Y : Nat → Int) (i j : Int) : Bool := hasI n X Y i && hasI n X Y j
set_option maxHeartbeats 2000000 in
theorem iSwap_any (v : Value) (n : Nat) (X Y : Nat → Int) (i j : Int) (w : World) (h : Spots w v n X Y) (hn : n ≤ 1048576) :
    Calls Try.prog 23 #[v, .int .i64 i, .int .i64 j] w (AnsSB w (sel (swB n X Y i j) n) (swX i.toNat j.toNat X) (swX i.toNat j.toNat Y) (swB n X Y i j)) := by
  obtain ⟨A, c, hv, hnc, hrow⟩ := h
  have HV : Spots w v n X Y := ⟨A, c, hv, hnc, hrow⟩
  subst hv
  clear hrow
  cases hs : swB n X Y i j with
  | false =>
    unfold swB hasI at hs
    cases hc : chartB n X Y with
    | false =>
      go_enter Try.func23, Try.ntmps23
      go_wp2_with ((go_at_call 51; refine (isChart_g _ _ _ _ _ (by first | exact Spots.up (by with_reducible assumption) (by (repeat (first | with_reducible exact Below.refl _ _ | with_reducible assumption | with_reducible refine up_alloc ?_ _ | with_reducible refine up_drew ?_ | with_reducible refine up_drewN ?_ _ | (with_reducible refine up_set ?_ ?hset _; case hset => first | (simp; done) | (simp; omega) | omega) | with_reducible refine up_trans ?_ (by with_reducible assumption)))) | exact OwnS.spots (OwnS.up (by with_reducible assumption) (by (repeat (first | with_reducible exact Below.refl _ _ | with_reducible assumption | with_reducible refine up_alloc ?_ _ | with_reducible refine up_drew ?_ | with_reducible refine up_drewN ?_ _ | (with_reducible refine up_set ?_ ?hset _; case hset => first | (simp; done) | (simp; omega) | omega) | with_reducible refine up_trans ?_ (by with_reducible assumption)))))) (by omega)).mono ?_; rintro e w1 ⟨rfl, hb⟩))
      go_ret2
      exact AnsSB.nil (by (repeat (first | with_reducible exact Below.refl _ _ | with_reducible assumption | with_reducible refine up_alloc ?_ _ | with_reducible refine up_drew ?_ | with_reducible refine up_drewN ?_ _ | (with_reducible refine up_set ?_ ?hset _; case hset => first | (simp; done) | (simp; omega) | omega) | with_reducible refine up_trans ?_ (by with_reducible assumption))))
    | true =>
      rw [hc] at hs
      go_enter Try.func23, Try.ntmps23
      go_wp2_with (first | (go_at_call 51; refine (isChart_g _ _ _ _ _ (by first | exact Spots.up (by with_reducible assumption) (by (repeat (first | with_reducible exact Below.refl _ _ | with_reducible assumption | with_reducible refine up_alloc ?_ _ | with_reducible refine up_drew ?_ | with_reducible refine up_drewN ?_ _ | (with_reducible refine up_set ?_ ?hset _; case hset => first | (simp; done) | (simp; omega) | omega) | with_reducible refine up_trans ?_ (by with_reducible assumption)))) | exact OwnS.spots (OwnS.up (by with_reducible assumption) (by (repeat (first | with_reducible exact Below.refl _ _ | with_reducible assumption | with_reducible refine up_alloc ?_ _ | with_reducible refine up_drew ?_ | with_reducible refine up_drewN ?_ _ | (with_reducible refine up_set ?_ ?hset _; case hset => first | (simp; done) | (simp; omega) | omega) | with_reducible refine up_trans ?_ (by with_reducible assumption)))))) (by omega)).mono ?_; rintro e w1 ⟨rfl, hb⟩) | (go_at_call 56; refine (within_any _ _ _ _).mono ?_; rintro e w1 ⟨rfl, rfl⟩))
      all_goals first
        | (exfalso; simp_all; done)
        | (go_ret2; exact AnsSB.nil (by (repeat (first | with_reducible exact Below.refl _ _ | with_reducible assumption | with_reducible refine up_alloc ?_ _ | with_reducible refine up_drew ?_ | with_reducible refine up_drewN ?_ _ | (with_reducible refine up_set ?_ ?hset _; case hset => first | (simp; done) | (simp; omega) | omega) | with_reducible refine up_trans ?_ (by with_reducible assumption)))))
  | true =>
    simp only [swB, Bool.and_eq_true] at hs
    obtain ⟨hi, hj⟩ := hs
    obtain ⟨hc, i1, i2⟩ := hasI_iff.1 hi
    obtain ⟨_, j1, j2⟩ := hasI_iff.1 hj
    obtain ⟨I, rfl⟩ : ∃ I : Nat, i = I := ⟨i.toNat, by omega⟩
    obtain ⟨J, rfl⟩ : ∃ J : Nat, j = J := ⟨j.toNat, by omega⟩
    have b1 : inB (I : Int) 0 ((n : Int) - 1) = true := inB_iff.2 ⟨i1, i2⟩
    have b2 : inB (J : Int) 0 ((n : Int) - 1) = true := inB_iff.2 ⟨j1, j2⟩
    rw [show ((I : Int)).toNat = I by omega, show ((J : Int)).toNat = J by omega]
    clear hi hj
    go_enter Try.func23, Try.ntmps23
    go_wp2_with fail
    refine (isChart_g _ n X Y _ HV (by omega)).mono ?_
    rintro e w1 ⟨rfl, hb0⟩
    have hz := hb0.size
    have HM := HV.up hb0
    clear HV
    go_wp2_with (first
      | (go_at_call 56; refine (within_any _ _ _ _).mono ?_; rintro e w1 ⟨rfl, rfl⟩)
      | (at_builtin; refine wpList_app_copy rfl (.tmp 28) (.tmp 29) rfl w.heap.size _ _ n X Y rfl rfl (OwnR.empty hz _ _) (HM.up (by (repeat (first | with_reducible exact Below.refl _ _ | with_reducible assumption | with_reducible refine up_alloc ?_ _ | with_reducible refine up_drew ?_ | with_reducible refine up_drewN ?_ _ | (with_reducible refine up_set ?_ ?hset _; case hset => first | (simp; done) | (simp; omega) | omega) | with_reducible refine up_trans ?_ (by with_reducible assumption))))) (by simp; omega) (by omega) ?_; intro v3 w3 ho3 hb3; replace hb3 := (up_alloc hb0 _).trans hb3; obtain ⟨A, cp, rfl, hcp, hcr⟩ := ho3.ownS; obtain ⟨b, o, rfl, hbb, hf, hr⟩ := hcr (by omega); have d1 := (hr I (by omega)).1; have d2 := (hr I (by omega)).2; have d3 := (hr J (by omega)).1; have d4 := (hr J (by omega)).2; have f1 := hf (o + I * 2); have f2 := hf (o + I * 2 + 1); have f3 := hf (o + J * 2); have f4 := hf (o + J * 2 + 1); have HR := Lib.hid hr; have HF := Lib.hid hf; clear hr hf hcr))
    have hlt0 := HR.out.lt (by omega)
    have hI : I < n := by omega
    have hJ : J < n := by omega
    have R1 := HR.out.put hI (X J) (Y J)
    have R2 := R1.set1 J hJ (X I)
    have F1 := (HF.out.set ⟨b, o + I * 2, none⟩ (.int .i64 (X J))).set ⟨b, o + I * 2 + 1, none⟩ (.int .i64 (Y J))
    have x1 := (cell_drew _ _).trans (R1 J hJ).1
    have x2 := (cell_drew _ _).trans (R2 J hJ).2
    have x3 := (frozen_drew _ _).trans (F1 (o + J * 2))
    have x4 := (frozen_drew _ _).trans ((F1.set ⟨b, o + J * 2, none⟩ (.int .i64 (X I))) (o + J * 2 + 1))
    have R3 := Lib.hid (R1.put hJ (X I) (Y I))
    have F3 := Lib.hid ((F1.set ⟨b, o + J * 2, none⟩ (.int .i64 (X I))).set ⟨b, o + J * 2 + 1, none⟩ (.int .i64 (Y I)))
    clear ho3 hb0 HM hc R1 R2 F1
    go_region
    all_goals
      go_wp2
      go_ret2
      exact ⟨_, rfl, ⟨_, _, rfl, hcp, fun _ => ⟨_, _, rfl, hbb, fun q => F3.out q, fun t ht => R3.out t ht⟩⟩, by (repeat (first | with_reducible exact Below.refl _ _ | with_reducible assumption | with_reducible refine up_alloc ?_ _ | with_reducible refine up_drew ?_ | with_reducible refine up_drewN ?_ _ | (with_reducible refine up_set ?_ ?hset _; case hset => first | (simp; done) | (simp; omega) | omega) | with_reducible refine up_trans ?_ (by with_reducible assumption)))⟩
set_option maxHeartbeats 2000000 in
theorem sSwap_any (v : Value) (n : Nat) (X Y : Nat → Int) (i j : Int) (w : World) (h : Spots w v n X Y) (hn : n ≤ 1048576) :
    Calls Try.prog 22 #[v, .int .i64 i, .int .i64 j] w (AnsSB w (sel (swB n X Y i j) n) (swX i.toNat j.toNat X) (swX i.toNat j.toNat Y) (swB n X Y i j)) := by
  cases hi : hasI n X Y i with
  | false =>
    rw [show swB n X Y i j = false by simp [swB, hi]]
    go_enter Try.func22, Try.ntmps22
    go_wp2_with ((go_at_call 54; refine (chHas_g _ _ _ _ _ _ (by first | exact Spots.up (by with_reducible assumption) (by (repeat (first | with_reducible exact Below.refl _ _ | with_reducible assumption | with_reducible refine up_alloc ?_ _ | with_reducible refine up_drew ?_ | with_reducible refine up_drewN ?_ _ | (with_reducible refine up_set ?_ ?hset _; case hset => first | (simp; done) | (simp; omega) | omega) | with_reducible refine up_trans ?_ (by with_reducible assumption)))) | exact OwnS.spots (OwnS.up (by with_reducible assumption) (by (repeat (first | with_reducible exact Below.refl _ _ | with_reducible assumption | with_reducible refine up_alloc ?_ _ | with_reducible refine up_drew ?_ | with_reducible refine up_drewN ?_ _ | (with_reducible refine up_set ?_ ?hset _; case hset => first | (simp; done) | (simp; omega) | omega) | with_reducible refine up_trans ?_ (by with_reducible assumption)))))) (by omega)).mono ?_; rintro e w1 ⟨rfl, hb⟩))
    go_ret2
    exact AnsSB.nil (by (repeat (first | with_reducible exact Below.refl _ _ | with_reducible assumption | with_reducible refine up_alloc ?_ _ | with_reducible refine up_drew ?_ | with_reducible refine up_drewN ?_ _ | (with_reducible refine up_set ?_ ?hset _; case hset => first | (simp; done) | (simp; omega) | omega) | with_reducible refine up_trans ?_ (by with_reducible assumption))))
  | true =>
    cases hj : hasI n X Y j with
    | false =>
      rw [show swB n X Y i j = false by simp [swB, hj]]
      go_enter Try.func22, Try.ntmps22
      go_wp2_with ((go_at_call 54; refine (chHas_g _ _ _ _ _ _ (by first | exact Spots.up (by with_reducible assumption) (by (repeat (first | with_reducible exact Below.refl _ _ | with_reducible assumption | with_reducible refine up_alloc ?_ _ | with_reducible refine up_drew ?_ | with_reducible refine up_drewN ?_ _ | (with_reducible refine up_set ?_ ?hset _; case hset => first | (simp; done) | (simp; omega) | omega) | with_reducible refine up_trans ?_ (by with_reducible assumption)))) | exact OwnS.spots (OwnS.up (by with_reducible assumption) (by (repeat (first | with_reducible exact Below.refl _ _ | with_reducible assumption | with_reducible refine up_alloc ?_ _ | with_reducible refine up_drew ?_ | with_reducible refine up_drewN ?_ _ | (with_reducible refine up_set ?_ ?hset _; case hset => first | (simp; done) | (simp; omega) | omega) | with_reducible refine up_trans ?_ (by with_reducible assumption)))))) (by omega)).mono ?_; rintro e w1 ⟨rfl, hb⟩))
      go_ret2
      exact AnsSB.nil (by (repeat (first | with_reducible exact Below.refl _ _ | with_reducible assumption | with_reducible refine up_alloc ?_ _ | with_reducible refine up_drew ?_ | with_reducible refine up_drewN ?_ _ | (with_reducible refine up_set ?_ ?hset _; case hset => first | (simp; done) | (simp; omega) | omega) | with_reducible refine up_trans ?_ (by with_reducible assumption))))
    | true =>
      rw [show swB n X Y i j = true by simp [swB, hi, hj]]
      obtain ⟨hc, i1, i2⟩ := hasI_iff.1 hi
      obtain ⟨_, j1, j2⟩ := hasI_iff.1 hj
      obtain ⟨I, rfl⟩ : ∃ I : Nat, i = I := ⟨i.toNat, by omega⟩
      obtain ⟨J, rfl⟩ : ∃ J : Nat, j = J := ⟨j.toNat, by omega⟩
      rw [show ((I : Int)).toNat = I by omega, show ((J : Int)).toNat = J by omega]
      clear hc
      have hI : I < n := by omega
      have hJ : J < n := by omega
      go_enter Try.func22, Try.ntmps22
      go_wp2_with fail
      refine (chHas_g v n X Y _ _ h (by omega)).mono ?_
      rintro e w1 ⟨rfl, hb0⟩
      go_wp2_with fail
      refine (chHas_g v n X Y _ _ (h.up hb0) (by omega)).mono ?_
      rintro e w2 ⟨rfl, hb1⟩
      have hb2 := up_trans hb0 hb1
      have hsp := h.up hb2
      go_wp2_with fail
      refine (chOwn_g v n X Y _ hsp (by omega)).mono ?_
      rintro e w3 ⟨v1, rfl, ho, hb3⟩
      have hz2 := hb2.size
      have hbw := up_trans hb2 hb3
      obtain ⟨A, cp, rfl, hcp, hcr⟩ := ho.ownS
      obtain ⟨b, o, rfl, hbb, hf, hr⟩ := hcr (by omega)
      have hlt0 := hr.lt (by omega)
      have hbb' : w.heap.size ≤ b := by omega
      obtain ⟨A', c', rfl, hnc', hrow'⟩ := h
      obtain ⟨b0, o0, rfl, hr0⟩ := hrow' (by omega)
      have d1 := (hr I (by omega)).1; have d2 := (hr I (by omega)).2
      have d3 := (hr J (by omega)).1; have d4 := (hr J (by omega)).2
      have f1 := hf (o + I * 2); have f2 := hf (o + I * 2 + 1)
      have f3 := hf (o + J * 2); have f4 := hf (o + J * 2 + 1)
      have e3 := up_keep hbw (hr0 J hJ).1
      have e4 := up_keep hbw (hr0 J hJ).2
      have R1 := hr.put hI (X J) (Y J)
      have F1 := (hf.set ⟨b, o + I * 2, none⟩ (.int .i64 (X J))).set ⟨b, o + I * 2 + 1, none⟩ (.int .i64 (Y J))
      have hbW : Below w.heap.size w ((w3.setCell ⟨b, o + I * 2, none⟩ (.int .i64 (X J))).setCell ⟨b, o + I * 2 + 1, none⟩ (.int .i64 (Y J))) := (hbw.setCell hbb' _).setCell hbb' _
      have x1 := (R1 J hJ).1
      have x2 := (R1 J hJ).2
      have x3 := F1 (o + J * 2)
      have x4 := F1 (o + J * 2 + 1)
      have e1 := up_keep hbW (hr0 I hI).1
      have e2 := up_keep hbW (hr0 I hI).2
      have R3 := Lib.hid (R1.put hJ (X I) (Y I))
      have F3 := Lib.hid ((F1.set ⟨b, o + J * 2, none⟩ (.int .i64 (X I))).set ⟨b, o + J * 2 + 1, none⟩ (.int .i64 (Y I)))
      clear hr hf hcr ho R1 F1 hrow' hr0 hsp hb0 hb1 hb2 hb3
      go_wp2_with fail
      go_ret2
      exact ⟨_, rfl, ⟨_, _, rfl, hcp, fun _ => ⟨_, _, rfl, hbb', F3.out, R3.out⟩⟩, (hbW.setCell hbb' _).setCell hbb' _⟩
set_option maxHeartbeats 4000000 in
theorem fnExactSwapPerformers_walk (v : Value) (n : Nat) (X Y : Nat → Int) (i j : Int) (hn : n ≤ 9223372036854775807) (w : World) (h : Spots w v n X Y) :
    Calls Try.prog 5 #[v, .int .i64 i, .int .i64 j] w (Ans w (.bool true)) := by
  by_cases hl : n ≤ 1048576
  · have HZ := szV_pos (left := 1048576) (n := n) (by omega)
    have hm := sel_le (swB n X Y i j) n
    have HS := fun v w' (hw : Spots w' v n X Y) => sSwap_any v n X Y i j w' hw hl
    have HI := fun v w' (hw : Spots w' v n X Y) => iSwap_any v n X Y i j w' hw hl
    generalize swB n X Y i j = q at *
    generalize sel q n = m at *
    generalize swX i.toNat j.toNat X = U at *
    generalize swX i.toNat j.toNat Y = V at *
    go_enter Try.func5, Try.ntmps5
    have hW0 := Below.refl w.heap.size w
    go_wp2_with fail
    refine (szSpotS_g v _ _ _ _ _ h (by omega) (by omega) (by omega)).mono ?_
    rintro e w1 ⟨rfl, hb0⟩
    have hz0 := hb0.size
    have hW1 := up_trans hW0 hb0
    have h_v_1 := h.up hb0
    go_wp2_with fail
    refine (toSpotS_g v _ _ _ _ h_v_1 (by omega)).mono ?_
    rintro e w2 ⟨t0, rfl, h_t0_2, hb1⟩
    have hz1 := hb1.size
    have hW2 := up_trans hW1 hb1
    go_wp2_with fail
    refine (HS t0 _ h_t0_2.spots).mono ?_
    rintro e w3 ⟨rS, rfl, h_rS_3, hb2⟩
    have hz2 := hb2.size
    have hW3 := up_trans hW2 hb2
    have h_v_2 := h_v_1.up hb1
    have h_v_3 := h_v_2.up hb2
    go_wp2_with fail
    refine (toSpotS_g v _ _ _ _ h_v_3 (by omega)).mono ?_
    rintro e w4 ⟨x0, rfl, h_x0_4, hb3⟩
    have hz3 := hb3.size
    have hW4 := up_trans hW3 hb3
    go_wp2_with fail
    refine (HI x0 _ h_x0_4.spots).mono ?_
    rintro e w5 ⟨rI, rfl, h_rI_5, hb4⟩
    have hz4 := hb4.size
    have hW5 := up_trans hW4 hb4
    have h_rS_4 := h_rS_3.up hb3
    have h_rS_5 := h_rS_4.up hb4
    go_wp2_with fail
    refine (eqSpotS_g rI rS _ _ _ _ h_rI_5.spots h_rS_5.spots (by omega)).mono ?_
    rintro e w6 ⟨rfl, hb5⟩
    have hz5 := hb5.size
    have hW6 := up_trans hW5 hb5
    have h_v_4 := h_v_3.up hb3
    have h_v_5 := h_v_4.up hb4
    have h_v_6 := h_v_5.up hb5
    go_wp2_with fail
    refine (toSpotS_g v _ _ _ _ h_v_6 (by omega)).mono ?_
    rintro e w7 ⟨y0, rfl, h_y0_7, hb6⟩
    have hz6 := hb6.size
    have hW7 := up_trans hW6 hb6
    have h_x0_5 := h_x0_4.up hb4
    have h_x0_6 := h_x0_5.up hb5
    have h_x0_7 := h_x0_6.up hb6
    go_wp2_with fail
    refine (eqSpotS_g x0 y0 _ _ _ _ h_x0_7.spots h_y0_7.spots (by omega)).mono ?_
    rintro e w8 ⟨rfl, hb7⟩
    have hz7 := hb7.size
    have hW8 := up_trans hW7 hb7
    have h_x0_8 := h_x0_7.up hb7
    go_wp2_with fail
    refine (markSpotS_g _ x0 _ _ _ (1) _ h_x0_8 (by omega) (by omega) (by omega)).mono ?_
    rintro e w9 ⟨rfl, hg8, h_x0_9⟩
    have hz8 := hg8.size
    have hB8 : Below w3.heap.size w8 w9 := below_old h_x0_8 hg8 (by omega)
    have hW9 := hW8.trans (hB8.mono (by omega))
    have h_rI_6 := h_rI_5.up hb5
    have h_rI_7 := h_rI_6.up hb6
    have h_rI_8 := h_rI_7.up hb7
    have h_rI_9 := OwnS.young h_rI_8 h_x0_4.spots (by omega) hg8
    have h_rS_6 := h_rS_5.up hb5
    have h_rS_7 := h_rS_6.up hb6
    have h_rS_8 := h_rS_7.up hb7
    have h_rS_9 := Spots.old h_rS_3.spots h_rS_8.spots hB8
    go_wp2_with fail
    refine (eqSpotS_g rI rS _ _ _ _ h_rI_9.spots h_rS_9 (by omega)).mono ?_
    rintro e w10 ⟨rfl, hb9⟩
    have hz9 := hb9.size
    have hW10 := up_trans hW9 hb9
    have h_rI_10 := h_rI_9.up hb9
    go_wp2_with fail
    refine (markSpotS_g _ rI _ _ _ 1 _ h_rI_10 (by omega) (by omega) (by omega)).mono ?_
    rintro e w11 ⟨rfl, hg10, h_rI_11⟩
    have hz10 := hg10.size
    have hB10 : Below w4.heap.size w10 w11 := below_old h_rI_10 hg10 (by omega)
    have hW11 := hW10.trans (hB10.mono (by omega))
    go_wp2_with fail
    refine (heldSpotS_g rI _ 1 _ h_rI_11.spots (by omega) (by omega) (by omega)).mono ?_
    rintro e w12 ⟨rfl, hb11⟩
    have hz11 := hb11.size
    have hW12 := up_trans hW11 hb11
    have h_v_7 := h_v_6.up hb6
    have h_v_8 := h_v_7.up hb7
    have h_v_9 := Spots.old h_v_3 h_v_8 hB8
    have h_v_10 := h_v_9.up hb9
    have h_v_11 := Spots.old h_v_4 h_v_10 hB10
    have h_v_12 := h_v_11.up hb11
    go_wp2_with fail
    refine (toSpotS_g v _ _ _ _ h_v_12 (by omega)).mono ?_
    rintro e w13 ⟨z0, rfl, h_z0_13, hb12⟩
    have hz12 := hb12.size
    have hW13 := up_trans hW12 hb12
    go_wp2_with fail
    refine (HI z0 _ h_z0_13.spots).mono ?_
    rintro e w14 ⟨rH, rfl, h_rH_14, hb13⟩
    have hz13 := hb13.size
    have hW14 := up_trans hW13 hb13
    have h_rS_10 := h_rS_9.up hb9
    have h_rS_11 := Spots.old h_rS_4.spots h_rS_10 hB10
    have h_rS_12 := h_rS_11.up hb11
    have h_rS_13 := h_rS_12.up hb12
    have h_rS_14 := h_rS_13.up hb13
    go_wp2_with fail
    refine (eqSpotS_g rH rS _ _ _ _ h_rH_14.spots h_rS_14 (by omega)).mono ?_
    rintro e w15 ⟨rfl, hb14⟩
    have hz14 := hb14.size
    have hW15 := up_trans hW14 hb14
    have h_rI_12 := h_rI_11.up hb11
    have h_rI_13 := h_rI_12.up hb12
    have h_rI_14 := h_rI_13.up hb13
    have h_rI_15 := h_rI_14.up hb14
    go_wp2_with fail
    refine (heldSpotS_g rI _ 1 _ h_rI_15.spots (by omega) (by omega) (by omega)).mono ?_
    rintro e w16 ⟨rfl, hb15⟩
    have hz15 := hb15.size
    have hW16 := up_trans hW15 hb15
    go_wp2_with fail
    go_ret
    exact Ans.bool rfl hW16
  · have HZ := szV_neg (left := 1048576) (n := n) (by omega)
    go_enter Try.func5, Try.ntmps5
    go_wp2_with ((go_at_call 15; refine (szSpotS_g _ _ _ _ _ _ (by first | exact Spots.up (by with_reducible assumption) (by (repeat (first | with_reducible exact Below.refl _ _ | with_reducible assumption | with_reducible refine up_alloc ?_ _ | with_reducible refine up_drew ?_ | with_reducible refine up_drewN ?_ _ | (with_reducible refine up_set ?_ ?hset _; case hset => first | (simp; done) | (simp; omega) | omega) | with_reducible refine up_trans ?_ (by with_reducible assumption)))) | exact OwnS.spots (OwnS.up (by with_reducible assumption) (by (repeat (first | with_reducible exact Below.refl _ _ | with_reducible assumption | with_reducible refine up_alloc ?_ _ | with_reducible refine up_drew ?_ | with_reducible refine up_drewN ?_ _ | (with_reducible refine up_set ?_ ?hset _; case hset => first | (simp; done) | (simp; omega) | omega) | with_reducible refine up_trans ?_ (by with_reducible assumption)))))) (by omega) (by omega) (by omega)).mono ?_; rintro e w1 ⟨rfl, hb⟩))
    go_ret
    exact Ans.bool rfl (by (repeat (first | with_reducible exact Below.refl _ _ | with_reducible assumption | with_reducible refine up_alloc ?_ _ | with_reducible refine up_drew ?_ | with_reducible refine up_drewN ?_ _ | (with_reducible refine up_set ?_ ?hset _; case hset => first | (simp; done) | (simp; omega) | omega) | with_reducible refine up_trans ?_ (by with_reducible assumption))))

theorem fnExactSwapPerformers_law : LawWalk Try.prog 5 Try.f5 := by
  intro H enc W base args ds ps hval hA
  rw [Try.params5] at hval hA
  obtain ⟨v0, v1, v2, d0, d1, d2, p0, p1, p2, rfl, h0, h1, h2⟩ := args3 hA
  obtain ⟨n, X, Y, hs, hn⟩ := open_spots (hval 0 _ v0 rfl rfl) h0
  obtain ⟨a, rfl, _⟩ := open_int Try.underlying3 (hval 1 _ v1 rfl rfl) h1
  obtain ⟨b, rfl, _⟩ := open_int Try.underlying3 (hval 2 _ v2 rfl rfl) h2
  exact fnExactSwapPerformers_walk v0 n X Y a b hn W hs

set_option maxRecDepth 100000 in
theorem fnExactSwapPerformers_holds : Rows.FnExactSwapPerformersSaid :=
  OpenClaim.holds_of_wide 5 Try.f5 rfl rfl rfl rfl rfl rfl rfl ⟨rfl, rfl, rfl, rfl, rfl⟩ rfl rfl rfl rfl rfl (by kernel_rfl) Try.func5 (by kernel_rfl)
    (of_decide_eq_true (by kernel_rfl)) (by unfold Func.isWrapper; first | (rw [if_pos (by decide +kernel)]; kernel_rfl) | (rw [if_neg (by decide +kernel)]; exact ⟨rfl, rfl⟩))
    (fun os started H enc _ => lifted_of (C := Try.checked) (s := Rows.fnExactSwapPerformersSpec) (tb := 4) (by kernel_rfl) (by kernel_rfl) (by kernel_rfl) (by kernel_rfl) Try.func5 rfl Try.underlying4 rfl
      (fun H ds h => by
        have h2 : ds.length = 3 := by rw [Try.params5] at h; exact h
        match ds, h2 with
        | [_, _, _], _ => rfl)
      fnExactSwapPerformers_law os started H enc
      (ChangeSpec.witness6 (enc := enc) (C := Try.checked) false ⟨#[], #[.slice none 0 0, .int .i64 0, .int .i64 0], []⟩ 8 (by kernel_rfl) (by kernel_rfl) (by kernel_rfl) (by kernel_rfl)))

#print axioms fnExactSwapPerformers_holds
end Go.Proofs.Ythpflpjhohmboaa
