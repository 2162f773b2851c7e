/-
  FnExactLeastCertificate: for all arguments the law returns true, and its arguments read afterwards as before. No condition.
-/
import Derived.Test.YtamoanhjajnahaaRows
import Derived.Test.YtamoanhjajnahaaBase
import Derived.Test.YtamoanhjajnahaaSpot
import Derived.Test.YtamoanhjajnahaaSlice
import Derived.Test.YtamoanhjajnahaaLawS
import Derived.Test.YtamoanhjajnahaaMark
import Derived.Test.YtamoanhjajnahaaOpen
import Derived.Test.YtamoanhjajnahaaTrod
import Derived.Test.YtamoanhjajnahaaInts
import Derived.Test.YtamoanhjajnahaaIntsL
import Derived.Test.YtamoanhjajnahaaTurned
import Derived.Test.YtamoanhjajnahaaTrans
import Derived.Test.YtamoanhjajnahaaOpenT
import Derived.Test.YtamoanhjajnahaaRowsI
import Derived.Test.YtamoanhjajnahaaCosts
import Derived.Test.YtamoanhjajnahaaAppend
import Derived.Test.YtamoanhjajnahaaAppendE
import Derived.Test.YtamoanhjajnahaaForm
import Derived.Test.YtamoanhjajnahaaCopyI
import Derived.Test.YtamoanhjajnahaaMatch
import Derived.Test.YtamoanhjajnahaaMatS
import Derived.Test.YtamoanhjajnahaaMatchP
import Derived.Test.YtamoanhjajnahaaMatchQ
import Derived.Test.YtamoanhjajnahaaOnes
import Derived.Test.YtamoanhjajnahaaTable
import Derived.Test.YtamoanhjajnahaaLeast
import Derived.Test.YtamoanhjajnahaaLeastM
import Derived.Test.YtamoanhjajnahaaCertP
import Derived.Test.YtamoanhjajnahaaCert
namespace Go.Proofs.Ytamoanhjajnahaa
open Go.RowKit Go.ChangeShapes Go.WideShapes Go.Sort

set_option maxRecDepth 100000 in
set_option maxHeartbeats 8000000 in
theorem fnExactLeastCertificate_walk (v : Value) (n : Nat) (R : Nat → Nat) (F : Nat → Nat → Int) (hn : n ≤ 9223372036854775807) (hR : ∀ i, i < n → R i ≤ 9223372036854775807) (w : World) (h : IRows w v n R F) :
    Calls Try.prog 11 #[v] w (Ans w (.bool true)) := by
  by_cases hle : (n : Int) + (sumR R n : Nat) ≤ 1048576
  · have HZ := szR_pos hle
    have hRR : ∀ i, i < n → R i ≤ 1048576 := fun i hi => by have := sumR_one (R := R) hi; omega
    have HS := Lib.hid (fun v w' (hw : IRows w' v n R F) => sLeastCertificate_g v n R F w' hw (by omega) hRR)
    have HI := Lib.hid (fun v w' (hw : IRows w' v n R F) => iLeastCertificate_g v n R F w' hw (by omega) hRR)
    have hm0 := sel_le (acB n R F) n
    generalize sel (acB n R F) n = mm at *
    generalize lcR n F = Y at *
    generalize lcC n F = X at *
    generalize acB n R F = q at *
    have ezq : (q != q) = false := by simp
    go_enter Try.func11, Try.ntmps11
    have hW0 := Below.refl w.heap.size w
    go_wp2_with fail
    refine (szIntSS_g v _ _ _ _ _ h (by omega) (by omega) hn hR).mono ?_
    rintro e w1 ⟨rfl, hb0⟩
    have hz0 := hb0.size
    have hW1 := up_trans hW0 hb0
    have h_a_1 := h.up hb0
    go_wp2_with fail
    refine (toIntSS_g v _ _ _ _ h_a_1 (by omega) hRR).mono ?_
    rintro e w2 ⟨t0, rfl, h_t0_2, hb1⟩
    have hz1 := hb1.size
    have hW2 := up_trans hW1 hb1
    go_wp2_with fail
    refine (HS.out t0 _ h_t0_2.rows).mono ?_
    rintro e w4 ⟨rS, rS2, w3, rfl, h_rS2_3, hb2, h_rS_4, hb3⟩
    have hz2 := hb2.size
    have hW3 := up_trans hW2 hb2
    have hz3 := hb3.size
    have hW4 := up_trans hW3 hb3
    have h_a_2 := h_a_1.up hb1
    have h_a_3 := h_a_2.up hb2
    have h_a_4 := h_a_3.up hb3
    go_wp2_with fail
    refine (toIntSS_g v _ _ _ _ h_a_4 (by omega) hRR).mono ?_
    rintro e w5 ⟨x0, rfl, h_x0_5, hb4⟩
    have hz4 := hb4.size
    have hW5 := up_trans hW4 hb4
    go_wp2_with fail
    refine (HI.out x0 _ h_x0_5.rows).mono ?_
    rintro e w7 ⟨rI, rI2, w6, rfl, h_rI2_6, hb5, h_rI_7, hb6⟩
    have hz5 := hb5.size
    have hW6 := up_trans hW5 hb5
    have hz6 := hb6.size
    have hW7 := up_trans hW6 hb6
    have h_rS_5 := h_rS_4.up hb4
    have h_rS_6 := h_rS_5.up hb5
    have h_rS_7 := h_rS_6.up hb6
    go_wp2_with fail
    refine (eqIntS_g rI rS _ _ _ h_rI_7.ints h_rS_7.ints (by omega)).mono ?_
    rintro e w8 ⟨rfl, hb7⟩
    have hz7 := hb7.size
    have hW8 := up_trans hW7 hb7
    have h_rI2_7 := h_rI2_6.up hb6
    have h_rI2_8 := h_rI2_7.up hb7
    have h_rS2_4 := h_rS2_3.up hb3
    have h_rS2_5 := h_rS2_4.up hb4
    have h_rS2_6 := h_rS2_5.up hb5
    have h_rS2_7 := h_rS2_6.up hb6
    have h_rS2_8 := h_rS2_7.up hb7
    go_wp2_with fail
    refine (eqIntS_g rI2 rS2 _ _ _ h_rI2_8.ints h_rS2_8.ints (by omega)).mono ?_
    rintro e w9 ⟨rfl, hb8⟩
    have hz8 := hb8.size
    have hW9 := up_trans hW8 hb8
    have h_a_5 := h_a_4.up hb4
    have h_a_6 := h_a_5.up hb5
    have h_a_7 := h_a_6.up hb6
    have h_a_8 := h_a_7.up hb7
    have h_a_9 := h_a_8.up hb8
    go_wp2_with fail
    refine (toIntSS_g v _ _ _ _ h_a_9 (by omega) hRR).mono ?_
    rintro e w10 ⟨y0, rfl, h_y0_10, hb9⟩
    have hz9 := hb9.size
    have hW10 := up_trans hW9 hb9
    have h_x0_6 := h_x0_5.up hb5
    have h_x0_7 := h_x0_6.up hb6
    have h_x0_8 := h_x0_7.up hb7
    have h_x0_9 := h_x0_8.up hb8
    have h_x0_10 := h_x0_9.up hb9
    go_wp2_with fail
    refine (eqIntSS_g x0 y0 _ _ _ _ h_x0_10.rows h_y0_10.rows (by omega) hRR).mono ?_
    rintro e w11 ⟨rfl, hb10⟩
    have hz10 := hb10.size
    have hW11 := up_trans hW10 hb10
    have h_x0_11 := h_x0_10.up hb10
    have hB_5_5 := Below.refl w5.heap.size w5
    have hB_5_6 := up_trans hB_5_5 hb5
    have hB_5_7 := up_trans hB_5_6 hb6
    have hB_5_8 := up_trans hB_5_7 hb7
    have hB_5_9 := up_trans hB_5_8 hb8
    have hB_5_10 := up_trans hB_5_9 hb9
    have hB_5_11 := up_trans hB_5_10 hb10
    go_wp2_with fail
    refine (markIntSS_g _ x0 _ _ _ (1) _ h_x0_11 (by omega) (by omega) (by omega) hRR).mono ?_
    rintro e w12 ⟨rfl, h_x0_12, hg11⟩
    have ht11 : Turned w4.heap.size w5.heap.size w11 w12 := hg11 _ _ h_x0_5.rows hB_5_11
    have hz11 := ht11.size
    have hW12 := hW11.trans ((ht11.below (by omega)).mono (by omega))
    have h_rI_8 := h_rI_7.up hb7
    have h_rI_9 := h_rI_8.up hb8
    have h_rI_10 := h_rI_9.up hb9
    have h_rI_11 := h_rI_10.up hb10
    have h_rI_12 := h_rI_11.turn ht11 (by omega)
    have h_rS_8 := h_rS_7.up hb7
    have h_rS_9 := h_rS_8.up hb8
    have h_rS_10 := h_rS_9.up hb9
    have h_rS_11 := h_rS_10.up hb10
    have h_rS_12 := Ints.turn h_rS_4.ints h_rS_11.ints ht11 (by omega) (by omega)
    go_wp2_with fail
    refine (eqIntS_g rI rS _ _ _ h_rI_12.ints h_rS_12 (by omega)).mono ?_
    rintro e w13 ⟨rfl, hb12⟩
    have hz12 := hb12.size
    have hW13 := up_trans hW12 hb12
    have h_rI2_9 := h_rI2_8.up hb8
    have h_rI2_10 := h_rI2_9.up hb9
    have h_rI2_11 := h_rI2_10.up hb10
    have h_rI2_12 := h_rI2_11.turn ht11 (by omega)
    have h_rI2_13 := h_rI2_12.up hb12
    have h_rS2_9 := h_rS2_8.up hb8
    have h_rS2_10 := h_rS2_9.up hb9
    have h_rS2_11 := h_rS2_10.up hb10
    have h_rS2_12 := OwnI.turnlo h_rS2_3.ints h_rS2_11 ht11 (by omega)
    have h_rS2_13 := h_rS2_12.up hb12
    go_wp2_with fail
    refine (eqIntS_g rI2 rS2 _ _ _ h_rI2_13.ints h_rS2_13.ints (by omega)).mono ?_
    rintro e w14 ⟨rfl, hb13⟩
    have hz13 := hb13.size
    have hW14 := up_trans hW13 hb13
    have h_rI_13 := h_rI_12.up hb12
    have h_rI_14 := h_rI_13.up hb13
    go_wp2_with fail
    refine (markIntS_g _ rI _ _ (1) _ h_rI_14 (by omega) (by omega) (by omega)).mono ?_
    rintro e w15 ⟨rfl, hg14, h_rI_15⟩
    have ht14 : Turned w6.heap.size w7.heap.size w14 w15 := markI_turned h_rI_14 h_rI_7.ints hg14
    have hz14 := ht14.size
    have hW15 := hW14.trans ((ht14.below (by omega)).mono (by omega))
    have h_rI2_14 := h_rI2_13.up hb13
    have h_rI2_15 := OwnI.turnlo h_rI2_6.ints h_rI2_14 ht14 (by omega)
    go_wp2_with fail
    refine (markIntS_g _ rI2 _ _ (1 + (mm : Nat)) _ h_rI2_15 (by omega) (by omega) (by omega)).mono ?_
    rintro e w16 ⟨rfl, hg15, h_rI2_16⟩
    have ht15 : Turned w5.heap.size w6.heap.size w15 w16 := markI_turned h_rI2_15 h_rI2_6.ints hg15
    have hz15 := ht15.size
    have hW16 := hW15.trans ((ht15.below (by omega)).mono (by omega))
    have h_rI_16 := h_rI_15.turn ht15 (by omega)
    go_wp2_with fail
    refine (heldIntS_g rI _ 1 _ h_rI_16.ints (by omega) (by omega) (by omega)).mono ?_
    rintro e w17 ⟨rfl, hb16⟩
    have hz16 := hb16.size
    have hW17 := up_trans hW16 hb16
    have h_rI2_17 := h_rI2_16.up hb16
    go_wp2_with fail
    refine (heldIntS_g rI2 _ (1 + (mm : Nat)) _ h_rI2_17.ints (by omega) (by omega) (by omega)).mono ?_
    rintro e w18 ⟨rfl, hb17⟩
    have hz17 := hb17.size
    have hW18 := up_trans hW17 hb17
    have h_a_10 := h_a_9.up hb9
    have h_a_11 := h_a_10.up hb10
    have hB_0_0 := Below.refl w.heap.size w
    have hB_0_1 := up_trans hB_0_0 hb0
    have hB_0_2 := up_trans hB_0_1 hb1
    have hB_0_3 := up_trans hB_0_2 hb2
    have hB_0_4 := up_trans hB_0_3 hb3
    have hB_0_5 := up_trans hB_0_4 hb4
    have hB_0_6 := up_trans hB_0_5 hb5
    have hB_0_7 := up_trans hB_0_6 hb6
    have hB_0_8 := up_trans hB_0_7 hb7
    have hB_0_9 := up_trans hB_0_8 hb8
    have hB_0_10 := up_trans hB_0_9 hb9
    have hB_0_11 := up_trans hB_0_10 hb10
    have h_a_12 := IRows.old h h_a_11 hB_0_11 ((ht11.below (by omega)).mono (by omega))
    have h_a_13 := h_a_12.up hb12
    have h_a_14 := h_a_13.up hb13
    have hB_0_12 := hB_0_11.trans ((ht11.below (by omega)).mono (by omega))
    have hB_0_13 := up_trans hB_0_12 hb12
    have hB_0_14 := up_trans hB_0_13 hb13
    have h_a_15 := IRows.old h h_a_14 hB_0_14 ((ht14.below (by omega)).mono (by omega))
    have hB_0_15 := hB_0_14.trans ((ht14.below (by omega)).mono (by omega))
    have h_a_16 := IRows.old h h_a_15 hB_0_15 ((ht15.below (by omega)).mono (by omega))
    have h_a_17 := h_a_16.up hb16
    have h_a_18 := h_a_17.up hb17
    go_wp2_with fail
    refine (toIntSS_g v _ _ _ _ h_a_18 (by omega) hRR).mono ?_
    rintro e w19 ⟨z0, rfl, h_z0_19, hb18⟩
    have hz18 := hb18.size
    have hW19 := up_trans hW18 hb18
    go_wp2_with fail
    refine (HI.out z0 _ h_z0_19.rows).mono ?_
    rintro e w21 ⟨rH, rH2, w20, rfl, h_rH2_20, hb19, h_rH_21, hb20⟩
    have hz19 := hb19.size
    have hW20 := up_trans hW19 hb19
    have hz20 := hb20.size
    have hW21 := up_trans hW20 hb20
    have h_rS_13 := h_rS_12.up hb12
    have h_rS_14 := h_rS_13.up hb13
    have h_rS_15 := Ints.turn h_rS_6.ints h_rS_14 ht14 (by omega) (by omega)
    have h_rS_16 := Ints.turn h_rS_5.ints h_rS_15 ht15 (by omega) (by omega)
    have h_rS_17 := h_rS_16.up hb16
    have h_rS_18 := h_rS_17.up hb17
    have h_rS_19 := h_rS_18.up hb18
    have h_rS_20 := h_rS_19.up hb19
    have h_rS_21 := h_rS_20.up hb20
    go_wp2_with fail
    refine (eqIntS_g rH rS _ _ _ h_rH_21.ints h_rS_21 (by omega)).mono ?_
    rintro e w22 ⟨rfl, hb21⟩
    have hz21 := hb21.size
    have hW22 := up_trans hW21 hb21
    have h_rH2_21 := h_rH2_20.up hb20
    have h_rH2_22 := h_rH2_21.up hb21
    have h_rS2_14 := h_rS2_13.up hb13
    have h_rS2_15 := OwnI.turnlo h_rS2_3.ints h_rS2_14 ht14 (by omega)
    have h_rS2_16 := OwnI.turnlo h_rS2_3.ints h_rS2_15 ht15 (by omega)
    have h_rS2_17 := h_rS2_16.up hb16
    have h_rS2_18 := h_rS2_17.up hb17
    have h_rS2_19 := h_rS2_18.up hb18
    have h_rS2_20 := h_rS2_19.up hb19
    have h_rS2_21 := h_rS2_20.up hb20
    have h_rS2_22 := h_rS2_21.up hb21
    go_wp2_with fail
    refine (eqIntS_g rH2 rS2 _ _ _ h_rH2_22.ints h_rS2_22.ints (by omega)).mono ?_
    rintro e w23 ⟨rfl, hb22⟩
    have hz22 := hb22.size
    have hW23 := up_trans hW22 hb22
    have h_rI_17 := h_rI_16.up hb16
    have h_rI_18 := h_rI_17.up hb17
    have h_rI_19 := h_rI_18.up hb18
    have h_rI_20 := h_rI_19.up hb19
    have h_rI_21 := h_rI_20.up hb20
    have h_rI_22 := h_rI_21.up hb21
    have h_rI_23 := h_rI_22.up hb22
    go_wp2_with fail
    refine (heldIntS_g rI _ 1 _ h_rI_23.ints (by omega) (by omega) (by omega)).mono ?_
    rintro e w24 ⟨rfl, hb23⟩
    have hz23 := hb23.size
    have hW24 := up_trans hW23 hb23
    have h_rI2_18 := h_rI2_17.up hb17
    have h_rI2_19 := h_rI2_18.up hb18
    have h_rI2_20 := h_rI2_19.up hb19
    have h_rI2_21 := h_rI2_20.up hb20
    have h_rI2_22 := h_rI2_21.up hb21
    have h_rI2_23 := h_rI2_22.up hb22
    have h_rI2_24 := h_rI2_23.up hb23
    go_wp2_with fail
    refine (heldIntS_g rI2 _ (1 + (mm : Nat)) _ h_rI2_24.ints (by omega) (by omega) (by omega)).mono ?_
    rintro e w25 ⟨rfl, hb24⟩
    have hz24 := hb24.size
    have hW25 := up_trans hW24 hb24
    go_wp2_with fail
    go_ret
    exact Ans.bool rfl hW25
  · have HZ := szR_neg hle
    go_enter Try.func11, Try.ntmps11
    go_wp2_with fail
    refine (szIntSS_g v _ _ _ _ _ h (by omega) (by omega) hn hR).mono ?_
    rintro e w1 ⟨rfl, hb0⟩
    go_wp2_with fail
    go_ret
    exact Ans.bool rfl hb0

set_option maxRecDepth 100000 in
theorem fnExactLeastCertificate_law : LawWalk Try.prog 11 Try.f11 := by
  intro H enc W base args ds ps hval hA
  rw [Try.params11] at hval hA
  obtain ⟨v0, d0, rfl, rfl, h0⟩ := trodAll_one hA
  obtain ⟨n, R, F, hs, hn, hR⟩ := open_rows (hval 0 _ v0 rfl rfl) h0
  exact fnExactLeastCertificate_walk v0 n R F hn hR W hs

set_option maxRecDepth 100000 in
set_option maxHeartbeats 4000000 in
theorem fnExactLeastCertificate_wit (os : Os) (H : Type) (enc : TypeId × Value → H) : ∃ (w : World) (tape : Tape) (i : Input), w.os = os ∧ (w.forCall tape i).Shaped Try.checked.prog ∧ i.vars = [] ∧ Input.okWide Try.checked.prog (w.forCall tape i) .any w.heap.size 11 i ∧
      Rows.fnExactLeastCertificateSpec.pre6 enc Try.checked.prog Try.f11 [] false (w.forCall tape i).memory i.args ∧ ({} : Assume).holds Try.checked.prog (lone (Frame.enter Try.checked.prog 11 i.args .normal) [] (w.forCall tape i)) :=
  ChangeSpec.witness6 (enc := enc) (C := Try.checked) false ⟨#[], #[.slice none 0 0], []⟩ 8 (by kernel_rfl) (by kernel_rfl) (by kernel_rfl) (by kernel_rfl)

set_option maxRecDepth 100000 in
set_option maxHeartbeats 4000000 in
theorem fnExactLeastCertificate_row (os : Os) (started : os.Started) (H : Type) (enc : TypeId × Value → H) :
    ReturnsInHanded {} Try.checked os 11 .any (Rows.fnExactLeastCertificateSpec.pre6 enc Try.checked.prog Try.f11 [] false) (Rows.fnExactLeastCertificateSpec.post enc Try.checked.prog Try.f11 false true false false) :=
  lifted_of (C := Try.checked) (s := Rows.fnExactLeastCertificateSpec) (tb := 4) (by kernel_rfl) (by kernel_rfl) (by kernel_rfl) (by kernel_rfl) Try.func11 rfl Try.underlying4 rfl
      (fun H ds h => by
        have h2 : ds.length = 1 := by rw [Try.params11] at h; exact h
        match ds, h2 with
        | [_], _ => rfl)
      fnExactLeastCertificate_law os started H enc (fnExactLeastCertificate_wit os H enc)

set_option maxRecDepth 100000 in
set_option maxHeartbeats 4000000 in
theorem fnExactLeastCertificate_holds : Rows.FnExactLeastCertificateSaid :=
  OpenClaim.holds_of_wide 11 Try.f11 rfl rfl rfl rfl rfl rfl rfl ⟨rfl, rfl, rfl, rfl, rfl⟩ rfl rfl rfl rfl rfl (by kernel_rfl) Try.func11 (by kernel_rfl)
    (of_decide_eq_true (by kernel_rfl)) (by unfold Func.isWrapper; first | (rw [if_pos (by decide +kernel)]; kernel_rfl) | (rw [if_neg (by decide +kernel)]; exact ⟨rfl, rfl⟩))
    (fun os started H enc _ => fnExactLeastCertificate_row os started H enc)

#print axioms fnExactLeastCertificate_holds
end Go.Proofs.Ytamoanhjajnahaa
