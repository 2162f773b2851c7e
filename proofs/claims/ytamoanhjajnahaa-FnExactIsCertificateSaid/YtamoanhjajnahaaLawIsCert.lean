/-
  FnExactIsCertificate: for all arguments the law returns true, and its arguments read afterwards as before. No condition.
-/
import Derived.Test.YtamoanhjajnahaaRows
import Derived.Test.YtamoanhjajnahaaBase
import Derived.Test.YtamoanhjajnahaaSpot
import Derived.Test.YtamoanhjajnahaaSlice
import Derived.Test.YtamoanhjajnahaaLawS
import Derived.Test.YtamoanhjajnahaaMark
import Derived.Test.YtamoanhjajnahaaOpen
import Derived.Test.YtamoanhjajnahaaTrod
import Derived.Test.YtamoanhjajnahaaInts
import Derived.Test.YtamoanhjajnahaaIntsL
import Derived.Test.YtamoanhjajnahaaTurned
import Derived.Test.YtamoanhjajnahaaTrans
import Derived.Test.YtamoanhjajnahaaOpenT
import Derived.Test.YtamoanhjajnahaaRowsI
import Derived.Test.YtamoanhjajnahaaCosts
import Derived.Test.YtamoanhjajnahaaMatch
import Derived.Test.YtamoanhjajnahaaMatS
namespace Go.Proofs.Ytamoanhjajnahaa
open Go.RowKit Go.ChangeShapes Go.WideShapes Go.Sort

set_option maxRecDepth 100000 in
set_option maxHeartbeats 8000000 in
theorem fnExactIsCertificate_walk (v : Value) (n : Nat) (R : Nat → Nat) (F : Nat → Nat → Int) (p : Value) (mp : Nat) (Pp : Nat → Int) (q : Value) (mq : Nat) (Pq : Nat → Int) (hn : n ≤ 9223372036854775807) (hR : ∀ i, i < n → R i ≤ 9223372036854775807) (hmp : mp ≤ 9223372036854775807) (hmq : mq ≤ 9223372036854775807) (w : World) (h : IRows w v n R F) (hp : Ints w p mp Pp) (hq : Ints w q mq Pq) :
    Calls Try.prog 4 #[v, p, q] w (Ans w (.bool true)) := by
  obtain ⟨Aqp, cqp, eqp, _⟩ := id hp.shape
  subst eqp
  obtain ⟨Aqq, cqq, eqq, _⟩ := id hq.shape
  subst eqq
  by_cases hlp : mp ≤ 1048576
  · by_cases hlq : mq ≤ 1048576
    · by_cases hle : (n : Int) + (sumR R n : Nat) ≤ 1048576
      · have HZ := szR_pos hle
        have hRR : ∀ i, i < n → R i ≤ 1048576 := fun i hi => by have := sumR_one (R := R) hi; omega
        have HS := Lib.hid (fun v u t w' (hw : IRows w' v n R F) (hu : Ints w' u mp Pp) (ht : Ints w' t mq Pq) => sIsCertificate_g v u t n R F mp Pp mq Pq w' hw hu ht (by omega) hRR (by omega) (by omega))
        have HI := Lib.hid (fun v u t w' (hw : IRows w' v n R F) (hu : Ints w' u mp Pp) (ht : Ints w' t mq Pq) => iIsCertificate_g v u t n R F mp Pp mq Pq w' hw hu ht (by omega) hRR (by omega) (by omega))
        obtain ⟨za, zq, hv⟩ : ∃ za zq, ctV n R F mp Pp mq Pq = .tuple #[.bool za, .bool zq] := ⟨_, _, rfl⟩
        rw [hv] at HI HS
        clear hv
        have eza : (za != za) = false := by simp
        have ezq : (zq != zq) = false := by simp
        go_enter Try.func4, Try.ntmps4
        have hW0 := Below.refl w.heap.size w
        go_wp2_with fail
        refine (szIntSS_g v _ _ _ _ _ h (by omega) (by omega) hn hR).mono ?_
        rintro e w1 ⟨rfl, hb0⟩
        have hz0 := hb0.size
        have hW1 := up_trans hW0 hb0
        have h_a_1 := h.up hb0
        go_wp2_with fail
        refine (toIntSS_g v _ _ _ _ h_a_1 (by omega) hRR).mono ?_
        rintro e w2 ⟨t0, rfl, h_t0_2, hb1⟩
        have hz1 := hb1.size
        have hW2 := up_trans hW1 hb1
        have h_p_1 := hp.up hb0
        have h_p_2 := h_p_1.up hb1
        go_wp2_with fail
        refine (toIntS_g (.slice Aqp mp cqp) _ _ _ h_p_2 (by omega)).mono ?_
        rintro e w3 ⟨t1, rfl, h_t1_3, hb2⟩
        have hz2 := hb2.size
        have hW3 := up_trans hW2 hb2
        have h_q_1 := hq.up hb0
        have h_q_2 := h_q_1.up hb1
        have h_q_3 := h_q_2.up hb2
        go_wp2_with fail
        refine (toIntS_g (.slice Aqq mq cqq) _ _ _ h_q_3 (by omega)).mono ?_
        rintro e w4 ⟨t2, rfl, h_t2_4, hb3⟩
        have hz3 := hb3.size
        have hW4 := up_trans hW3 hb3
        have h_t0_3 := h_t0_2.up hb2
        have h_t0_4 := h_t0_3.up hb3
        have h_t1_4 := h_t1_3.up hb3
        go_wp2_with fail
        refine (HS.out t0 t1 t2 _ h_t0_4.rows h_t1_4.ints h_t2_4.ints).mono ?_
        rintro e w5 ⟨rfl, hb4⟩
        have hz4 := hb4.size
        have hW5 := up_trans hW4 hb4
        have h_a_2 := h_a_1.up hb1
        have h_a_3 := h_a_2.up hb2
        have h_a_4 := h_a_3.up hb3
        have h_a_5 := h_a_4.up hb4
        go_wp2_with fail
        refine (toIntSS_g v _ _ _ _ h_a_5 (by omega) hRR).mono ?_
        rintro e w6 ⟨x0, rfl, h_x0_6, hb5⟩
        have hz5 := hb5.size
        have hW6 := up_trans hW5 hb5
        have h_p_3 := h_p_2.up hb2
        have h_p_4 := h_p_3.up hb3
        have h_p_5 := h_p_4.up hb4
        have h_p_6 := h_p_5.up hb5
        go_wp2_with fail
        refine (toIntS_g (.slice Aqp mp cqp) _ _ _ h_p_6 (by omega)).mono ?_
        rintro e w7 ⟨x1, rfl, h_x1_7, hb6⟩
        have hz6 := hb6.size
        have hW7 := up_trans hW6 hb6
        have h_q_4 := h_q_3.up hb3
        have h_q_5 := h_q_4.up hb4
        have h_q_6 := h_q_5.up hb5
        have h_q_7 := h_q_6.up hb6
        go_wp2_with fail
        refine (toIntS_g (.slice Aqq mq cqq) _ _ _ h_q_7 (by omega)).mono ?_
        rintro e w8 ⟨x2, rfl, h_x2_8, hb7⟩
        have hz7 := hb7.size
        have hW8 := up_trans hW7 hb7
        have h_x0_7 := h_x0_6.up hb6
        have h_x0_8 := h_x0_7.up hb7
        have h_x1_8 := h_x1_7.up hb7
        go_wp2_with fail
        refine (HI.out x0 x1 x2 _ h_x0_8.rows h_x1_8.ints h_x2_8.ints).mono ?_
        rintro e w9 ⟨rfl, hb8⟩
        have hz8 := hb8.size
        have hW9 := up_trans hW8 hb8
        have h_a_6 := h_a_5.up hb5
        have h_a_7 := h_a_6.up hb6
        have h_a_8 := h_a_7.up hb7
        have h_a_9 := h_a_8.up hb8
        go_wp2_with fail
        refine (toIntSS_g v _ _ _ _ h_a_9 (by omega) hRR).mono ?_
        rintro e w10 ⟨y0, rfl, h_y0_10, hb9⟩
        have hz9 := hb9.size
        have hW10 := up_trans hW9 hb9
        have h_x0_9 := h_x0_8.up hb8
        have h_x0_10 := h_x0_9.up hb9
        go_wp2_with fail
        refine (eqIntSS_g x0 y0 _ _ _ _ h_x0_10.rows h_y0_10.rows (by omega) hRR).mono ?_
        rintro e w11 ⟨rfl, hb10⟩
        have hz10 := hb10.size
        have hW11 := up_trans hW10 hb10
        have h_p_7 := h_p_6.up hb6
        have h_p_8 := h_p_7.up hb7
        have h_p_9 := h_p_8.up hb8
        have h_p_10 := h_p_9.up hb9
        have h_p_11 := h_p_10.up hb10
        go_wp2_with fail
        refine (toIntS_g (.slice Aqp mp cqp) _ _ _ h_p_11 (by omega)).mono ?_
        rintro e w12 ⟨y1, rfl, h_y1_12, hb11⟩
        have hz11 := hb11.size
        have hW12 := up_trans hW11 hb11
        have h_x1_9 := h_x1_8.up hb8
        have h_x1_10 := h_x1_9.up hb9
        have h_x1_11 := h_x1_10.up hb10
        have h_x1_12 := h_x1_11.up hb11
        go_wp2_with fail
        refine (eqIntS_g x1 y1 _ _ _ h_x1_12.ints h_y1_12.ints (by omega)).mono ?_
        rintro e w13 ⟨rfl, hb12⟩
        have hz12 := hb12.size
        have hW13 := up_trans hW12 hb12
        have h_q_8 := h_q_7.up hb7
        have h_q_9 := h_q_8.up hb8
        have h_q_10 := h_q_9.up hb9
        have h_q_11 := h_q_10.up hb10
        have h_q_12 := h_q_11.up hb11
        have h_q_13 := h_q_12.up hb12
        go_wp2_with fail
        refine (toIntS_g (.slice Aqq mq cqq) _ _ _ h_q_13 (by omega)).mono ?_
        rintro e w14 ⟨y2, rfl, h_y2_14, hb13⟩
        have hz13 := hb13.size
        have hW14 := up_trans hW13 hb13
        have h_x2_9 := h_x2_8.up hb8
        have h_x2_10 := h_x2_9.up hb9
        have h_x2_11 := h_x2_10.up hb10
        have h_x2_12 := h_x2_11.up hb11
        have h_x2_13 := h_x2_12.up hb12
        have h_x2_14 := h_x2_13.up hb13
        go_wp2_with fail
        refine (eqIntS_g x2 y2 _ _ _ h_x2_14.ints h_y2_14.ints (by omega)).mono ?_
        rintro e w15 ⟨rfl, hb14⟩
        have hz14 := hb14.size
        have hW15 := up_trans hW14 hb14
        go_wp2_with fail
        go_ret
        exact Ans.bool rfl hW15
      · have HZ := szR_neg hle
        go_enter Try.func4, Try.ntmps4
        go_wp2_with fail
        refine (szIntSS_g v _ _ _ _ _ h (by omega) (by omega) hn hR).mono ?_
        rintro e w1 ⟨rfl, hb0⟩
        go_wp2_with fail
        go_ret
        exact Ans.bool rfl hb0
    · clear hq
      go_enter Try.func4, Try.ntmps4
      go_wp2_with fail
      go_ret
      exact Ans.bool rfl (Below.refl _ _)
  · clear hp
    go_enter Try.func4, Try.ntmps4
    go_wp2_with fail
    go_ret
    exact Ans.bool rfl (Below.refl _ _)

set_option maxRecDepth 100000 in
theorem fnExactIsCertificate_law : LawWalk Try.prog 4 Try.f4 := by
  intro H enc W base args ds ps hval hA
  rw [Try.params4] at hval hA
  obtain ⟨v0, v1, v2, d0, d1, d2, p0, p1, p2, rfl, h0, h1, h2⟩ := args3 hA
  obtain ⟨n, R, F, hs, hn, hR⟩ := open_rows (hval 0 _ v0 rfl rfl) h0
  obtain ⟨mp, Pp, sp, bp⟩ := open_intS (hval 1 _ v1 rfl rfl) h1
  obtain ⟨mq, Pq, sq, bq⟩ := open_intS (hval 2 _ v2 rfl rfl) h2
  exact fnExactIsCertificate_walk v0 n R F v1 mp Pp v2 mq Pq hn hR bp bq W hs sp sq

set_option maxRecDepth 100000 in
set_option maxHeartbeats 4000000 in
theorem fnExactIsCertificate_wit (os : Os) (H : Type) (enc : TypeId × Value → H) : ∃ (w : World) (tape : Tape) (i : Input), w.os = os ∧ (w.forCall tape i).Shaped Try.checked.prog ∧ i.vars = [] ∧ Input.okWide Try.checked.prog (w.forCall tape i) .any w.heap.size 4 i ∧
      Rows.fnExactIsCertificateSpec.pre6 enc Try.checked.prog Try.f4 [] false (w.forCall tape i).memory i.args ∧ ({} : Assume).holds Try.checked.prog (lone (Frame.enter Try.checked.prog 4 i.args .normal) [] (w.forCall tape i)) :=
  ChangeSpec.witness6 (enc := enc) (C := Try.checked) false ⟨#[], #[.slice none 0 0, .slice none 0 0, .slice none 0 0], []⟩ 8 (by kernel_rfl) (by kernel_rfl) (by kernel_rfl) (by kernel_rfl)

set_option maxRecDepth 100000 in
set_option maxHeartbeats 4000000 in
theorem fnExactIsCertificate_row (os : Os) (started : os.Started) (H : Type) (enc : TypeId × Value → H) :
    ReturnsInHanded {} Try.checked os 4 .any (Rows.fnExactIsCertificateSpec.pre6 enc Try.checked.prog Try.f4 [] false) (Rows.fnExactIsCertificateSpec.post enc Try.checked.prog Try.f4 false true false false) :=
  lifted_of (C := Try.checked) (s := Rows.fnExactIsCertificateSpec) (tb := 4) (by kernel_rfl) (by kernel_rfl) (by kernel_rfl) (by kernel_rfl) Try.func4 rfl Try.underlying4 rfl
      (fun H ds h => by
        have h2 : ds.length = 3 := by rw [Try.params4] at h; exact h
        match ds, h2 with
        | [_, _, _], _ => rfl)
      fnExactIsCertificate_law os started H enc (fnExactIsCertificate_wit os H enc)

set_option maxRecDepth 100000 in
set_option maxHeartbeats 4000000 in
theorem fnExactIsCertificate_holds : Rows.FnExactIsCertificateSaid :=
  OpenClaim.holds_of_wide 4 Try.f4 rfl rfl rfl rfl rfl rfl rfl ⟨rfl, rfl, rfl, rfl, rfl⟩ rfl rfl rfl rfl rfl (by kernel_rfl) Try.func4 (by kernel_rfl)
    (of_decide_eq_true (by kernel_rfl)) (by unfold Func.isWrapper; first | (rw [if_pos (by decide +kernel)]; kernel_rfl) | (rw [if_neg (by decide +kernel)]; exact ⟨rfl, rfl⟩))
    (fun os started H enc _ => fnExactIsCertificate_row os started H enc)

#print axioms fnExactIsCertificate_holds
end Go.Proofs.Ytamoanhjajnahaa
