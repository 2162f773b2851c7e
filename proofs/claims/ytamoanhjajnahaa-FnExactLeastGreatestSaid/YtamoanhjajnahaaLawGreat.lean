/-
  FnExactLeastGreatest: for all arguments the law returns true, and its arguments read afterwards as before. No condition.
-/
import Derived.Test.YtamoanhjajnahaaRows
import Derived.Test.YtamoanhjajnahaaBase
import Derived.Test.YtamoanhjajnahaaSpot
import Derived.Test.YtamoanhjajnahaaSlice
import Derived.Test.YtamoanhjajnahaaLawS
import Derived.Test.YtamoanhjajnahaaMark
import Derived.Test.YtamoanhjajnahaaOpen
import Derived.Test.YtamoanhjajnahaaTrod
import Derived.Test.YtamoanhjajnahaaInts
import Derived.Test.YtamoanhjajnahaaIntsL
import Derived.Test.YtamoanhjajnahaaTurned
import Derived.Test.YtamoanhjajnahaaTrans
import Derived.Test.YtamoanhjajnahaaOpenT
import Derived.Test.YtamoanhjajnahaaRowsI
import Derived.Test.YtamoanhjajnahaaCosts
import Derived.Test.YtamoanhjajnahaaAppend
import Derived.Test.YtamoanhjajnahaaAppendE
import Derived.Test.YtamoanhjajnahaaForm
import Derived.Test.YtamoanhjajnahaaCopyI
import Derived.Test.YtamoanhjajnahaaMatch
import Derived.Test.YtamoanhjajnahaaMatS
import Derived.Test.YtamoanhjajnahaaMatchP
import Derived.Test.YtamoanhjajnahaaMatchQ
import Derived.Test.YtamoanhjajnahaaOnes
import Derived.Test.YtamoanhjajnahaaTable
import Derived.Test.YtamoanhjajnahaaLeast
import Derived.Test.YtamoanhjajnahaaLeastM
import Derived.Test.YtamoanhjajnahaaGreatP
import Derived.Test.YtamoanhjajnahaaGreat
import Derived.Test.YtamoanhjajnahaaWithin
import Derived.Test.YtamoanhjajnahaaPut
import Derived.Test.YtamoanhjajnahaaPutW
import Derived.Test.YtamoanhjajnahaaGreatS
namespace Go.Proofs.Ytamoanhjajnahaa
open Go.RowKit Go.ChangeShapes Go.WideShapes Go.Sort

set_option maxRecDepth 100000 in
set_option maxHeartbeats 8000000 in
theorem fnExactLeastGreatest_walk (v : Value) (n : Nat) (R : Nat → Nat) (F : Nat → Nat → Int) (hn : n ≤ 9223372036854775807) (hR : ∀ i, i < n → R i ≤ 9223372036854775807) (w : World) (h : IRows w v n R F) :
    Calls Try.prog 12 #[v] w (Ans w (.bool true)) := by
  by_cases hle : (n : Int) + (sumR R n : Nat) ≤ 1048576
  · have HZ := szR_pos hle
    have hRR : ∀ i, i < n → R i ≤ 1048576 := fun i hi => by have := sumR_one (R := R) hi; omega
    have HS := Lib.hid (fun v w' (hw : IRows w' v n R F) => sLeastGreatest_g v n R F w' hw (by omega) hRR)
    have HI := Lib.hid (fun v w' (hw : IRows w' v n R F) => iLeastGreatest_g v n R F w' hw (by omega) hRR)
    have hm0 := sel_le (acB n R F) n
    generalize sel (acB n R F) n = mm at *
    obtain ⟨za, hza⟩ : ∃ za, (if acB n R F then lgV n F else 0) = za := ⟨_, rfl⟩
    rw [hza] at HS HI
    clear hza
    generalize lgP n F = X at *
    generalize acB n R F = q at *
    have eza : (za != za) = false := by simp
    have ezq : (q != q) = false := by simp
    go_enter Try.func12, Try.ntmps12
    have hW0 := Below.refl w.heap.size w
    go_wp2_with fail
    refine (szIntSS_g v _ _ _ _ _ h (by omega) (by omega) hn hR).mono ?_
    rintro e w1 ⟨rfl, hb0⟩
    have hz0 := hb0.size
    have hW1 := up_trans hW0 hb0
    have h_a_1 := h.up hb0
    go_wp2_with fail
    refine (toIntSS_g v _ _ _ _ h_a_1 (by omega) hRR).mono ?_
    rintro e w2 ⟨t0, rfl, h_t0_2, hb1⟩
    have hz1 := hb1.size
    have hW2 := up_trans hW1 hb1
    go_wp2_with fail
    refine (HS.out t0 _ h_t0_2.rows).mono ?_
    rintro e w3 ⟨rS, rfl, h_rS_3, hb2⟩
    have hz2 := hb2.size
    have hW3 := up_trans hW2 hb2
    have h_a_2 := h_a_1.up hb1
    have h_a_3 := h_a_2.up hb2
    go_wp2_with fail
    refine (toIntSS_g v _ _ _ _ h_a_3 (by omega) hRR).mono ?_
    rintro e w4 ⟨x0, rfl, h_x0_4, hb3⟩
    have hz3 := hb3.size
    have hW4 := up_trans hW3 hb3
    go_wp2_with fail
    refine (HI.out x0 _ h_x0_4.rows).mono ?_
    rintro e w5 ⟨rI, rfl, h_rI_5, hb4⟩
    have hz4 := hb4.size
    have hW5 := up_trans hW4 hb4
    have h_rS_4 := h_rS_3.up hb3
    have h_rS_5 := h_rS_4.up hb4
    go_wp2_with fail
    refine (eqIntS_g rI rS _ _ _ h_rI_5.ints h_rS_5.ints (by omega)).mono ?_
    rintro e w6 ⟨rfl, hb5⟩
    have hz5 := hb5.size
    have hW6 := up_trans hW5 hb5
    have h_a_4 := h_a_3.up hb3
    have h_a_5 := h_a_4.up hb4
    have h_a_6 := h_a_5.up hb5
    go_wp2_with fail
    refine (toIntSS_g v _ _ _ _ h_a_6 (by omega) hRR).mono ?_
    rintro e w7 ⟨y0, rfl, h_y0_7, hb6⟩
    have hz6 := hb6.size
    have hW7 := up_trans hW6 hb6
    have h_x0_5 := h_x0_4.up hb4
    have h_x0_6 := h_x0_5.up hb5
    have h_x0_7 := h_x0_6.up hb6
    go_wp2_with fail
    refine (eqIntSS_g x0 y0 _ _ _ _ h_x0_7.rows h_y0_7.rows (by omega) hRR).mono ?_
    rintro e w8 ⟨rfl, hb7⟩
    have hz7 := hb7.size
    have hW8 := up_trans hW7 hb7
    have h_x0_8 := h_x0_7.up hb7
    have hB_4_4 := Below.refl w4.heap.size w4
    have hB_4_5 := up_trans hB_4_4 hb4
    have hB_4_6 := up_trans hB_4_5 hb5
    have hB_4_7 := up_trans hB_4_6 hb6
    have hB_4_8 := up_trans hB_4_7 hb7
    go_wp2_with fail
    refine (markIntSS_g _ x0 _ _ _ (1) _ h_x0_8 (by omega) (by omega) (by omega) hRR).mono ?_
    rintro e w9 ⟨rfl, h_x0_9, hg8⟩
    have ht8 : Turned w3.heap.size w4.heap.size w8 w9 := hg8 _ _ h_x0_4.rows hB_4_8
    have hz8 := ht8.size
    have hW9 := hW8.trans ((ht8.below (by omega)).mono (by omega))
    have h_rI_6 := h_rI_5.up hb5
    have h_rI_7 := h_rI_6.up hb6
    have h_rI_8 := h_rI_7.up hb7
    have h_rI_9 := h_rI_8.turn ht8 (by omega)
    have h_rS_6 := h_rS_5.up hb5
    have h_rS_7 := h_rS_6.up hb6
    have h_rS_8 := h_rS_7.up hb7
    have h_rS_9 := Ints.turn h_rS_3.ints h_rS_8.ints ht8 (by omega) (by omega)
    go_wp2_with fail
    refine (eqIntS_g rI rS _ _ _ h_rI_9.ints h_rS_9 (by omega)).mono ?_
    rintro e w10 ⟨rfl, hb9⟩
    have hz9 := hb9.size
    have hW10 := up_trans hW9 hb9
    have h_rI_10 := h_rI_9.up hb9
    go_wp2_with fail
    refine (markIntS_g _ rI _ _ (1) _ h_rI_10 (by omega) (by omega) (by omega)).mono ?_
    rintro e w11 ⟨rfl, hg10, h_rI_11⟩
    have ht10 : Turned w4.heap.size w5.heap.size w10 w11 := markI_turned h_rI_10 h_rI_5.ints hg10
    have hz10 := ht10.size
    have hW11 := hW10.trans ((ht10.below (by omega)).mono (by omega))
    go_wp2_with fail
    refine (heldIntS_g rI _ 1 _ h_rI_11.ints (by omega) (by omega) (by omega)).mono ?_
    rintro e w12 ⟨rfl, hb11⟩
    have hz11 := hb11.size
    have hW12 := up_trans hW11 hb11
    have h_a_7 := h_a_6.up hb6
    have h_a_8 := h_a_7.up hb7
    have hB_0_0 := Below.refl w.heap.size w
    have hB_0_1 := up_trans hB_0_0 hb0
    have hB_0_2 := up_trans hB_0_1 hb1
    have hB_0_3 := up_trans hB_0_2 hb2
    have hB_0_4 := up_trans hB_0_3 hb3
    have hB_0_5 := up_trans hB_0_4 hb4
    have hB_0_6 := up_trans hB_0_5 hb5
    have hB_0_7 := up_trans hB_0_6 hb6
    have hB_0_8 := up_trans hB_0_7 hb7
    have h_a_9 := IRows.old h h_a_8 hB_0_8 ((ht8.below (by omega)).mono (by omega))
    have h_a_10 := h_a_9.up hb9
    have hB_0_9 := hB_0_8.trans ((ht8.below (by omega)).mono (by omega))
    have hB_0_10 := up_trans hB_0_9 hb9
    have h_a_11 := IRows.old h h_a_10 hB_0_10 ((ht10.below (by omega)).mono (by omega))
    have h_a_12 := h_a_11.up hb11
    go_wp2_with fail
    refine (toIntSS_g v _ _ _ _ h_a_12 (by omega) hRR).mono ?_
    rintro e w13 ⟨z0, rfl, h_z0_13, hb12⟩
    have hz12 := hb12.size
    have hW13 := up_trans hW12 hb12
    go_wp2_with fail
    refine (HI.out z0 _ h_z0_13.rows).mono ?_
    rintro e w14 ⟨rH, rfl, h_rH_14, hb13⟩
    have hz13 := hb13.size
    have hW14 := up_trans hW13 hb13
    have h_rS_10 := h_rS_9.up hb9
    have h_rS_11 := Ints.turn h_rS_4.ints h_rS_10 ht10 (by omega) (by omega)
    have h_rS_12 := h_rS_11.up hb11
    have h_rS_13 := h_rS_12.up hb12
    have h_rS_14 := h_rS_13.up hb13
    go_wp2_with fail
    refine (eqIntS_g rH rS _ _ _ h_rH_14.ints h_rS_14 (by omega)).mono ?_
    rintro e w15 ⟨rfl, hb14⟩
    have hz14 := hb14.size
    have hW15 := up_trans hW14 hb14
    have h_rI_12 := h_rI_11.up hb11
    have h_rI_13 := h_rI_12.up hb12
    have h_rI_14 := h_rI_13.up hb13
    have h_rI_15 := h_rI_14.up hb14
    go_wp2_with fail
    refine (heldIntS_g rI _ 1 _ h_rI_15.ints (by omega) (by omega) (by omega)).mono ?_
    rintro e w16 ⟨rfl, hb15⟩
    have hz15 := hb15.size
    have hW16 := up_trans hW15 hb15
    go_wp2_with fail
    go_ret
    exact Ans.bool rfl hW16
  · have HZ := szR_neg hle
    go_enter Try.func12, Try.ntmps12
    go_wp2_with fail
    refine (szIntSS_g v _ _ _ _ _ h (by omega) (by omega) hn hR).mono ?_
    rintro e w1 ⟨rfl, hb0⟩
    go_wp2_with fail
    go_ret
    exact Ans.bool rfl hb0

set_option maxRecDepth 100000 in
theorem fnExactLeastGreatest_law : LawWalk Try.prog 12 Try.f12 := by
  intro H enc W base args ds ps hval hA
  rw [Try.params12] at hval hA
  obtain ⟨v0, d0, rfl, rfl, h0⟩ := trodAll_one hA
  obtain ⟨n, R, F, hs, hn, hR⟩ := open_rows (hval 0 _ v0 rfl rfl) h0
  exact fnExactLeastGreatest_walk v0 n R F hn hR W hs

set_option maxRecDepth 100000 in
set_option maxHeartbeats 4000000 in
theorem fnExactLeastGreatest_wit (os : Os) (H : Type) (enc : TypeId × Value → H) : ∃ (w : World) (tape : Tape) (i : Input), w.os = os ∧ (w.forCall tape i).Shaped Try.checked.prog ∧ i.vars = [] ∧ Input.okWide Try.checked.prog (w.forCall tape i) .any w.heap.size 12 i ∧
      Rows.fnExactLeastGreatestSpec.pre6 enc Try.checked.prog Try.f12 [] false (w.forCall tape i).memory i.args ∧ ({} : Assume).holds Try.checked.prog (lone (Frame.enter Try.checked.prog 12 i.args .normal) [] (w.forCall tape i)) :=
  ChangeSpec.witness6 (enc := enc) (C := Try.checked) false ⟨#[], #[.slice none 0 0], []⟩ 8 (by kernel_rfl) (by kernel_rfl) (by kernel_rfl) (by kernel_rfl)

set_option maxRecDepth 100000 in
set_option maxHeartbeats 4000000 in
theorem fnExactLeastGreatest_row (os : Os) (started : os.Started) (H : Type) (enc : TypeId × Value → H) :
    ReturnsInHanded {} Try.checked os 12 .any (Rows.fnExactLeastGreatestSpec.pre6 enc Try.checked.prog Try.f12 [] false) (Rows.fnExactLeastGreatestSpec.post enc Try.checked.prog Try.f12 false true false false) :=
  lifted_of (C := Try.checked) (s := Rows.fnExactLeastGreatestSpec) (tb := 4) (by kernel_rfl) (by kernel_rfl) (by kernel_rfl) (by kernel_rfl) Try.func12 rfl Try.underlying4 rfl
      (fun H ds h => by
        have h2 : ds.length = 1 := by rw [Try.params12] at h; exact h
        match ds, h2 with
        | [_], _ => rfl)
      fnExactLeastGreatest_law os started H enc (fnExactLeastGreatest_wit os H enc)

set_option maxRecDepth 100000 in
set_option maxHeartbeats 4000000 in
theorem fnExactLeastGreatest_holds : Rows.FnExactLeastGreatestSaid :=
  OpenClaim.holds_of_wide 12 Try.f12 rfl rfl rfl rfl rfl rfl rfl ⟨rfl, rfl, rfl, rfl, rfl⟩ rfl rfl rfl rfl rfl (by kernel_rfl) Try.func12 (by kernel_rfl)
    (of_decide_eq_true (by kernel_rfl)) (by unfold Func.isWrapper; first | (rw [if_pos (by decide +kernel)]; kernel_rfl) | (rw [if_neg (by decide +kernel)]; exact ⟨rfl, rfl⟩))
    (fun os started H enc _ => fnExactLeastGreatest_row os started H enc)

#print axioms fnExactLeastGreatest_holds
end Go.Proofs.Ytamoanhjajnahaa
