/-
  SwapPerformers and PlacePerformer on both sides.
-/
import Derived.Test.YtljbcfgecbonnaaRows
import Derived.Test.YtljbcfgecbonnaaBase
import Derived.Test.YtljbcfgecbonnaaSpot
import Derived.Test.YtljbcfgecbonnaaSlice
import Derived.Test.YtljbcfgecbonnaaChart
import Derived.Test.YtljbcfgecbonnaaAppend
import Derived.Test.YtljbcfgecbonnaaForm
import Derived.Test.YtljbcfgecbonnaaLawS
import Derived.Test.YtljbcfgecbonnaaMark
import Derived.Test.YtljbcfgecbonnaaOpen
import Derived.Test.YtljbcfgecbonnaaTrod
import Derived.RegionTactic
import Derived.ChangeAlike
namespace Go.Proofs.Ytljbcfgecbonnaa
open Go.RowKit Go.Sort Go.ChangeShapes Go.WideShapes

theorem cell_drew (w : World) (p : Addr) : w.drew.cell? p = w.cell? p := rfl
theorem frozen_drew (w : World) (p : Addr) : w.drew.frozen? p = w.frozen? p := rfl
/-- A chart, and a place in it. -/
def hasI (n : Nat) (X Y : Nat → Int) (i : Int) : Bool := chartB n X Y && inB i 0 ((n : Int) - 1)
theorem hasI_iff {n : Nat} {X Y : Nat → Int} {i : Int} : hasI n X Y i = true ↔ chartB n X Y = true ∧ 0 ≤ i ∧ i ≤ (n : Int) - 1 := by simp [hasI, inB_iff]
set_option maxHeartbeats 400000 in
theorem chHas_g (v : Value) (n : Nat) (X Y : Nat → Int) (i : Int) (w : World) (h : Spots w v n X Y) (hn : n ≤ 1048576) :
    Calls Try.prog 104 #[v, .int .i64 i] w (Ans w (.bool (hasI n X Y i))) := by
  obtain ⟨A, c, hv, hnc, hrow⟩ := h
  have HV : Spots w v n X Y := ⟨A, c, hv, hnc, hrow⟩
  subst hv
  clear hrow
  have H := Lib.hid (show hasI n X Y i = (chartB n X Y && inB i 0 ((n : Int) - 1)) from rfl)
  cases hc : chartB n X Y with
  | false =>
    rw [show hasI n X Y i = false by simp [hasI, hc]]
    go_enter Try.func104, Try.ntmps104
    go_wp2_with ((go_at_call 86; refine (chGood_g _ _ _ _ _ (by first | exact Spots.up (by with_reducible assumption) (by (repeat (first | with_reducible exact Below.refl _ _ | with_reducible assumption | with_reducible refine up_alloc ?_ _ | with_reducible refine up_drew ?_ | with_reducible refine up_drewN ?_ _ | (with_reducible refine up_set ?_ ?hset _; case hset => first | (simp; done) | (simp; omega) | omega) | with_reducible refine up_trans ?_ (by with_reducible assumption)))) | exact OwnS.spots (OwnS.up (by with_reducible assumption) (by (repeat (first | with_reducible exact Below.refl _ _ | with_reducible assumption | with_reducible refine up_alloc ?_ _ | with_reducible refine up_drew ?_ | with_reducible refine up_drewN ?_ _ | (with_reducible refine up_set ?_ ?hset _; case hset => first | (simp; done) | (simp; omega) | omega) | with_reducible refine up_trans ?_ (by with_reducible assumption)))))) (by omega)).mono ?_; rintro e w1 ⟨rfl, hb⟩))
    go_ret
    exact ⟨rfl, by (repeat (first | with_reducible exact Below.refl _ _ | with_reducible assumption | with_reducible refine up_alloc ?_ _ | with_reducible refine up_drew ?_ | with_reducible refine up_drewN ?_ _ | (with_reducible refine up_set ?_ ?hset _; case hset => first | (simp; done) | (simp; omega) | omega) | with_reducible refine up_trans ?_ (by with_reducible assumption)))⟩
  | true =>
    rw [show hasI n X Y i = inB i 0 ((n : Int) - 1) by simp [hasI, hc]]
    go_enter Try.func104, Try.ntmps104
    go_wp2_with (first | (go_at_call 86; refine (chGood_g _ _ _ _ _ (by first | exact Spots.up (by with_reducible assumption) (by (repeat (first | with_reducible exact Below.refl _ _ | with_reducible assumption | with_reducible refine up_alloc ?_ _ | with_reducible refine up_drew ?_ | with_reducible refine up_drewN ?_ _ | (with_reducible refine up_set ?_ ?hset _; case hset => first | (simp; done) | (simp; omega) | omega) | with_reducible refine up_trans ?_ (by with_reducible assumption)))) | exact OwnS.spots (OwnS.up (by with_reducible assumption) (by (repeat (first | with_reducible exact Below.refl _ _ | with_reducible assumption | with_reducible refine up_alloc ?_ _ | with_reducible refine up_drew ?_ | with_reducible refine up_drewN ?_ _ | (with_reducible refine up_set ?_ ?hset _; case hset => first | (simp; done) | (simp; omega) | omega) | with_reducible refine up_trans ?_ (by with_reducible assumption)))))) (by omega)).mono ?_; rintro e w1 ⟨rfl, hb⟩) | (go_at_call 101; refine (l1In_any _ _ _ _).mono ?_; rintro e w1 ⟨rfl, rfl⟩))
    go_ret
    exact ⟨rfl, by (repeat (first | with_reducible exact Below.refl _ _ | with_reducible assumption | with_reducible refine up_alloc ?_ _ | with_reducible refine up_drew ?_ | with_reducible refine up_drewN ?_ _ | (with_reducible refine up_set ?_ ?hset _; case hset => first | (simp; done) | (simp; omega) | omega) | with_reducible refine up_trans ?_ (by with_reducible assumption)))⟩
/-- The list with two places changed about. -/
def swX (i j : Nat) (X : Nat → Int) (t : Nat) : Int := if t = j then X i else if t = i then X j else X t
def swB (n : Nat) (X Y : Nat → Int) (i j : Int) : Bool := hasI n X Y i && hasI n X Y j
set_option maxHeartbeats 2000000 in
theorem iSwap_any (v : Value) (n : Nat) (X Y : Nat → Int) (i j : Int) (w : World) (h : Spots w v n X Y) (hn : n ≤ 1048576) :
    Calls Try.prog 25 #[v, .int .i64 i, .int .i64 j] w (AnsSB w (sel (swB n X Y i j) n) (swX i.toNat j.toNat X) (swX i.toNat j.toNat Y) (swB n X Y i j)) := by
  obtain ⟨A, c, hv, hnc, hrow⟩ := h
  have HV : Spots w v n X Y := ⟨A, c, hv, hnc, hrow⟩
  subst hv
  clear hrow
  cases hs : swB n X Y i j with
  | false =>
    unfold swB hasI at hs
    cases hc : chartB n X Y with
    | false =>
      go_enter Try.func25, Try.ntmps25
      go_wp2_with ((go_at_call 13; refine (isChart_g _ _ _ _ _ (by first | exact Spots.up (by with_reducible assumption) (by (repeat (first | with_reducible exact Below.refl _ _ | with_reducible assumption | with_reducible refine up_alloc ?_ _ | with_reducible refine up_drew ?_ | with_reducible refine up_drewN ?_ _ | (with_reducible refine up_set ?_ ?hset _; case hset => first | (simp; done) | (simp; omega) | omega) | with_reducible refine up_trans ?_ (by with_reducible assumption)))) | exact OwnS.spots (OwnS.up (by with_reducible assumption) (by (repeat (first | with_reducible exact Below.refl _ _ | with_reducible assumption | with_reducible refine up_alloc ?_ _ | with_reducible refine up_drew ?_ | with_reducible refine up_drewN ?_ _ | (with_reducible refine up_set ?_ ?hset _; case hset => first | (simp; done) | (simp; omega) | omega) | with_reducible refine up_trans ?_ (by with_reducible assumption)))))) (by omega)).mono ?_; rintro e w1 ⟨rfl, hb⟩))
      go_ret2
      exact AnsSB.nil (by (repeat (first | with_reducible exact Below.refl _ _ | with_reducible assumption | with_reducible refine up_alloc ?_ _ | with_reducible refine up_drew ?_ | with_reducible refine up_drewN ?_ _ | (with_reducible refine up_set ?_ ?hset _; case hset => first | (simp; done) | (simp; omega) | omega) | with_reducible refine up_trans ?_ (by with_reducible assumption))))
    | true =>
      rw [hc] at hs
      go_enter Try.func25, Try.ntmps25
      go_wp2_with (first | (go_at_call 13; refine (isChart_g _ _ _ _ _ (by first | exact Spots.up (by with_reducible assumption) (by (repeat (first | with_reducible exact Below.refl _ _ | with_reducible assumption | with_reducible refine up_alloc ?_ _ | with_reducible refine up_drew ?_ | with_reducible refine up_drewN ?_ _ | (with_reducible refine up_set ?_ ?hset _; case hset => first | (simp; done) | (simp; omega) | omega) | with_reducible refine up_trans ?_ (by with_reducible assumption)))) | exact OwnS.spots (OwnS.up (by with_reducible assumption) (by (repeat (first | with_reducible exact Below.refl _ _ | with_reducible assumption | with_reducible refine up_alloc ?_ _ | with_reducible refine up_drew ?_ | with_reducible refine up_drewN ?_ _ | (with_reducible refine up_set ?_ ?hset _; case hset => first | (simp; done) | (simp; omega) | omega) | with_reducible refine up_trans ?_ (by with_reducible assumption)))))) (by omega)).mono ?_; rintro e w1 ⟨rfl, hb⟩) | (go_at_call 89; refine (within_any _ _ _ _).mono ?_; rintro e w1 ⟨rfl, rfl⟩))
      all_goals first
        | (exfalso; simp_all; done)
        | (go_ret2; exact AnsSB.nil (by (repeat (first | with_reducible exact Below.refl _ _ | with_reducible assumption | with_reducible refine up_alloc ?_ _ | with_reducible refine up_drew ?_ | with_reducible refine up_drewN ?_ _ | (with_reducible refine up_set ?_ ?hset _; case hset => first | (simp; done) | (simp; omega) | omega) | with_reducible refine up_trans ?_ (by with_reducible assumption)))))
  | true =>
    simp only [swB, Bool.and_eq_true] at hs
    obtain ⟨hi, hj⟩ := hs
    obtain ⟨hc, i1, i2⟩ := hasI_iff.1 hi
    obtain ⟨_, j1, j2⟩ := hasI_iff.1 hj
    obtain ⟨I, rfl⟩ : ∃ I : Nat, i = I := ⟨i.toNat, by omega⟩
    obtain ⟨J, rfl⟩ : ∃ J : Nat, j = J := ⟨j.toNat, by omega⟩
    have b1 : inB (I : Int) 0 ((n : Int) - 1) = true := inB_iff.2 ⟨i1, i2⟩
    have b2 : inB (J : Int) 0 ((n : Int) - 1) = true := inB_iff.2 ⟨j1, j2⟩
    rw [show ((I : Int)).toNat = I by omega, show ((J : Int)).toNat = J by omega]
    clear hi hj
    go_enter Try.func25, Try.ntmps25
    go_wp2_with fail
    refine (isChart_g _ n X Y _ HV (by omega)).mono ?_
    rintro e w1 ⟨rfl, hb0⟩
    have hz := hb0.size
    have HM := HV.up hb0
    clear HV
    go_wp2_with (first
      | (go_at_call 89; refine (within_any _ _ _ _).mono ?_; rintro e w1 ⟨rfl, rfl⟩)
      | (at_builtin; refine wpList_app_copy rfl (.tmp 28) (.tmp 29) rfl w.heap.size _ _ n X Y rfl rfl (OwnR.empty hz _ _) (HM.up (by (repeat (first | with_reducible exact Below.refl _ _ | with_reducible assumption | with_reducible refine up_alloc ?_ _ | with_reducible refine up_drew ?_ | with_reducible refine up_drewN ?_ _ | (with_reducible refine up_set ?_ ?hset _; case hset => first | (simp; done) | (simp; omega) | omega) | with_reducible refine up_trans ?_ (by with_reducible assumption))))) (by simp; omega) (by omega) ?_; intro v3 w3 ho3 hb3; replace hb3 := (up_alloc hb0 _).trans hb3; obtain ⟨A, cp, rfl, hcp, hcr⟩ := ho3.ownS; obtain ⟨b, o, rfl, hbb, hf, hr⟩ := hcr (by omega); have d1 := (hr I (by omega)).1; have d2 := (hr I (by omega)).2; have d3 := (hr J (by omega)).1; have d4 := (hr J (by omega)).2; have f1 := hf (o + I * 2); have f2 := hf (o + I * 2 + 1); have f3 := hf (o + J * 2); have f4 := hf (o + J * 2 + 1); have HR := Lib.hid hr; have HF := Lib.hid hf; clear hr hf hcr))
    have hlt0 := HR.out.lt (by omega)
    have hI : I < n := by omega
    have hJ : J < n := by omega
    have R1 := HR.out.put hI (X J) (Y J)
    have R2 := R1.set1 J hJ (X I)
    have F1 := (HF.out.set ⟨b, o + I * 2, none⟩ (.int .i64 (X J))).set ⟨b, o + I * 2 + 1, none⟩ (.int .i64 (Y J))
    have x1 := (cell_drew _ _).trans (R1 J hJ).1
    have x2 := (cell_drew _ _).trans (R2 J hJ).2
    have x3 := (frozen_drew _ _).trans (F1 (o + J * 2))
    have x4 := (frozen_drew _ _).trans ((F1.set ⟨b, o + J * 2, none⟩ (.int .i64 (X I))) (o + J * 2 + 1))
    have R3 := Lib.hid (R1.put hJ (X I) (Y I))
    have F3 := Lib.hid ((F1.set ⟨b, o + J * 2, none⟩ (.int .i64 (X I))).set ⟨b, o + J * 2 + 1, none⟩ (.int .i64 (Y I)))
    clear ho3 hb0 HM hc R1 R2 F1
    go_region
    all_goals
      go_wp2
      go_ret2
      exact ⟨_, rfl, ⟨_, _, rfl, hcp, fun _ => ⟨_, _, rfl, hbb, fun q => F3.out q, fun t ht => R3.out t ht⟩⟩, by (repeat (first | with_reducible exact Below.refl _ _ | with_reducible assumption | with_reducible refine up_alloc ?_ _ | with_reducible refine up_drew ?_ | with_reducible refine up_drewN ?_ _ | (with_reducible refine up_set ?_ ?hset _; case hset => first | (simp; done) | (simp; omega) | omega) | with_reducible refine up_trans ?_ (by with_reducible assumption)))⟩
set_option maxHeartbeats 2000000 in
theorem sSwap_any (v : Value) (n : Nat) (X Y : Nat → Int) (i j : Int) (w : World) (h : Spots w v n X Y) (hn : n ≤ 1048576) :
    Calls Try.prog 26 #[v, .int .i64 i, .int .i64 j] w (AnsSB w (sel (swB n X Y i j) n) (swX i.toNat j.toNat X) (swX i.toNat j.toNat Y) (swB n X Y i j)) := by
  cases hi : hasI n X Y i with
  | false =>
    rw [show swB n X Y i j = false by simp [swB, hi]]
    go_enter Try.func26, Try.ntmps26
    go_wp2_with ((go_at_call 104; refine (chHas_g _ _ _ _ _ _ (by first | exact Spots.up (by with_reducible assumption) (by (repeat (first | with_reducible exact Below.refl _ _ | with_reducible assumption | with_reducible refine up_alloc ?_ _ | with_reducible refine up_drew ?_ | with_reducible refine up_drewN ?_ _ | (with_reducible refine up_set ?_ ?hset _; case hset => first | (simp; done) | (simp; omega) | omega) | with_reducible refine up_trans ?_ (by with_reducible assumption)))) | exact OwnS.spots (OwnS.up (by with_reducible assumption) (by (repeat (first | with_reducible exact Below.refl _ _ | with_reducible assumption | with_reducible refine up_alloc ?_ _ | with_reducible refine up_drew ?_ | with_reducible refine up_drewN ?_ _ | (with_reducible refine up_set ?_ ?hset _; case hset => first | (simp; done) | (simp; omega) | omega) | with_reducible refine up_trans ?_ (by with_reducible assumption)))))) (by omega)).mono ?_; rintro e w1 ⟨rfl, hb⟩))
    go_ret2
    exact AnsSB.nil (by (repeat (first | with_reducible exact Below.refl _ _ | with_reducible assumption | with_reducible refine up_alloc ?_ _ | with_reducible refine up_drew ?_ | with_reducible refine up_drewN ?_ _ | (with_reducible refine up_set ?_ ?hset _; case hset => first | (simp; done) | (simp; omega) | omega) | with_reducible refine up_trans ?_ (by with_reducible assumption))))
  | true =>
    cases hj : hasI n X Y j with
    | false =>
      rw [show swB n X Y i j = false by simp [swB, hj]]
      go_enter Try.func26, Try.ntmps26
      go_wp2_with ((go_at_call 104; refine (chHas_g _ _ _ _ _ _ (by first | exact Spots.up (by with_reducible assumption) (by (repeat (first | with_reducible exact Below.refl _ _ | with_reducible assumption | with_reducible refine up_alloc ?_ _ | with_reducible refine up_drew ?_ | with_reducible refine up_drewN ?_ _ | (with_reducible refine up_set ?_ ?hset _; case hset => first | (simp; done) | (simp; omega) | omega) | with_reducible refine up_trans ?_ (by with_reducible assumption)))) | exact OwnS.spots (OwnS.up (by with_reducible assumption) (by (repeat (first | with_reducible exact Below.refl _ _ | with_reducible assumption | with_reducible refine up_alloc ?_ _ | with_reducible refine up_drew ?_ | with_reducible refine up_drewN ?_ _ | (with_reducible refine up_set ?_ ?hset _; case hset => first | (simp; done) | (simp; omega) | omega) | with_reducible refine up_trans ?_ (by with_reducible assumption)))))) (by omega)).mono ?_; rintro e w1 ⟨rfl, hb⟩))
      go_ret2
      exact AnsSB.nil (by (repeat (first | with_reducible exact Below.refl _ _ | with_reducible assumption | with_reducible refine up_alloc ?_ _ | with_reducible refine up_drew ?_ | with_reducible refine up_drewN ?_ _ | (with_reducible refine up_set ?_ ?hset _; case hset => first | (simp; done) | (simp; omega) | omega) | with_reducible refine up_trans ?_ (by with_reducible assumption))))
    | true =>
      rw [show swB n X Y i j = true by simp [swB, hi, hj]]
      obtain ⟨hc, i1, i2⟩ := hasI_iff.1 hi
      obtain ⟨_, j1, j2⟩ := hasI_iff.1 hj
      obtain ⟨I, rfl⟩ : ∃ I : Nat, i = I := ⟨i.toNat, by omega⟩
      obtain ⟨J, rfl⟩ : ∃ J : Nat, j = J := ⟨j.toNat, by omega⟩
      rw [show ((I : Int)).toNat = I by omega, show ((J : Int)).toNat = J by omega]
      clear hc
      have hI : I < n := by omega
      have hJ : J < n := by omega
      go_enter Try.func26, Try.ntmps26
      go_wp2_with fail
      refine (chHas_g v n X Y _ _ h (by omega)).mono ?_
      rintro e w1 ⟨rfl, hb0⟩
      go_wp2_with fail
      refine (chHas_g v n X Y _ _ (h.up hb0) (by omega)).mono ?_
      rintro e w2 ⟨rfl, hb1⟩
      have hb2 := up_trans hb0 hb1
      have hsp := h.up hb2
      go_wp2_with fail
      refine (chOwn_g v n X Y _ hsp (by omega)).mono ?_
      rintro e w3 ⟨v1, rfl, ho, hb3⟩
      have hz2 := hb2.size
      have hbw := up_trans hb2 hb3
      obtain ⟨A, cp, rfl, hcp, hcr⟩ := ho.ownS
      obtain ⟨b, o, rfl, hbb, hf, hr⟩ := hcr (by omega)
      have hlt0 := hr.lt (by omega)
      have hbb' : w.heap.size ≤ b := by omega
      obtain ⟨A', c', rfl, hnc', hrow'⟩ := h
      obtain ⟨b0, o0, rfl, hr0⟩ := hrow' (by omega)
      have d1 := (hr I (by omega)).1; have d2 := (hr I (by omega)).2
      have d3 := (hr J (by omega)).1; have d4 := (hr J (by omega)).2
      have f1 := hf (o + I * 2); have f2 := hf (o + I * 2 + 1)
      have f3 := hf (o + J * 2); have f4 := hf (o + J * 2 + 1)
      have e3 := up_keep hbw (hr0 J hJ).1
      have e4 := up_keep hbw (hr0 J hJ).2
      have R1 := hr.put hI (X J) (Y J)
      have F1 := (hf.set ⟨b, o + I * 2, none⟩ (.int .i64 (X J))).set ⟨b, o + I * 2 + 1, none⟩ (.int .i64 (Y J))
      have hbW : Below w.heap.size w ((w3.setCell ⟨b, o + I * 2, none⟩ (.int .i64 (X J))).setCell ⟨b, o + I * 2 + 1, none⟩ (.int .i64 (Y J))) := (hbw.setCell hbb' _).setCell hbb' _
      have x1 := (R1 J hJ).1
      have x2 := (R1 J hJ).2
      have x3 := F1 (o + J * 2)
      have x4 := F1 (o + J * 2 + 1)
      have e1 := up_keep hbW (hr0 I hI).1
      have e2 := up_keep hbW (hr0 I hI).2
      have R3 := Lib.hid (R1.put hJ (X I) (Y I))
      have F3 := Lib.hid ((F1.set ⟨b, o + J * 2, none⟩ (.int .i64 (X I))).set ⟨b, o + J * 2 + 1, none⟩ (.int .i64 (Y I)))
      clear hr hf hcr ho R1 F1 hrow' hr0 hsp hb0 hb1 hb2 hb3
      go_wp2_with fail
      go_ret2
      exact ⟨_, rfl, ⟨_, _, rfl, hcp, fun _ => ⟨_, _, rfl, hbb', F3.out, R3.out⟩⟩, (hbW.setCell hbb' _).setCell hbb' _⟩
end Go.Proofs.Ytljbcfgecbonnaa
