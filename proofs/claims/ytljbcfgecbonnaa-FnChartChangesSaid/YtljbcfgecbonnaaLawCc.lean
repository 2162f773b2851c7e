/-
  FnChartChanges: for all arguments the law returns true, and its arguments read afterwards as before. No condition.
-/
import Derived.Test.YtljbcfgecbonnaaRows
import Derived.Test.YtljbcfgecbonnaaBase
import Derived.Test.YtljbcfgecbonnaaSpot
import Derived.Test.YtljbcfgecbonnaaSlice
import Derived.Test.YtljbcfgecbonnaaTurned
import Derived.Test.YtljbcfgecbonnaaTrans
import Derived.BigQuiet
import Derived.Test.YtljbcfgecbonnaaCur
import Derived.Test.YtljbcfgecbonnaaDrawP
import Derived.Test.YtljbcfgecbonnaaOpen
import Derived.Test.YtljbcfgecbonnaaAppend
import Derived.Test.YtljbcfgecbonnaaAppendE
import Derived.Test.YtljbcfgecbonnaaForm
import Derived.Test.YtljbcfgecbonnaaSameForm
import Derived.Deep.LoopGhost
import Derived.Deep.Onto
import Derived.Deep.CutRange
import Derived.Deep.DeepCutAuto
import Derived.Deep.RegionHeld3
import Derived.Test.YtljbcfgecbonnaaDrawV
import Derived.Test.YtljbcfgecbonnaaDrawX
import Derived.Test.YtljbcfgecbonnaaDrawW
import Derived.Test.YtljbcfgecbonnaaDrawZ
import Derived.Test.YtljbcfgecbonnaaDrawJ
import Derived.Test.YtljbcfgecbonnaaBytes
import Derived.Test.YtljbcfgecbonnaaLawS
import Derived.Test.YtljbcfgecbonnaaDrawK
import Derived.Test.YtljbcfgecbonnaaQ
import Derived.Test.YtljbcfgecbonnaaPs
import Derived.Test.YtljbcfgecbonnaaSwap
import Derived.Test.YtljbcfgecbonnaaChanged
import Derived.Test.YtljbcfgecbonnaaPlace
import Derived.Test.YtljbcfgecbonnaaMoveC
import Derived.Test.YtljbcfgecbonnaaCcP
import Derived.Test.YtljbcfgecbonnaaFfV
namespace Go.Proofs.Ytljbcfgecbonnaa
open Go.RowKit Go.ChangeShapes Go.WideShapes Go.Sort

set_option maxHeartbeats 1000000 in
theorem sameInts_g (v v' : Value) (n : Nat) (X : Nat → Int) (w : World) (h : Ints w v n X) (h' : Ints w v' n X) (hn : n ≤ 1048576) :
    Calls Try.prog 30 #[v, v'] w (Ans w (.bool true)) := by
  obtain ⟨A, c, rfl, hnc, hrow⟩ := h
  obtain ⟨A', c', rfl, hnc', hrow'⟩ := h'
  go_enter Try.func30, Try.ntmps30
  go_wp2_with fail
  go_loopw [13] (fun i wr => ∃ k : Nat, k ≤ n ∧ i = .int .i64 k ∧ Below w.heap.size w wr) (fun i _ => n - (intOf i).toNat)
  case atStart => exact ⟨0, by omega, rfl, Below.refl _ _⟩
  case round =>
    obtain ⟨k, hk, rfl, hb⟩ := hrel
    by_cases hlt : k < n
    · obtain ⟨b, o, rfl, hr⟩ := hrow (by omega)
      obtain ⟨b', o', rfl, hr'⟩ := hrow' (by omega)
      have c1 := cell_regrown (up_keep hb (hr k hlt))
      have c3 := cell_regrown (up_keep hb (hr' k hlt))
      clear hr hr' hrow hrow'
      have hq' : (X k != X k) = false := by simp
      go_wp2_with fail
      refine wp_region_up (by kernel_rfl) (by kernel_rfl) ?_
      repeat (go_big_quiet_step (fail))
      refine wpQuiet_nil ?_
      intro w1 hb0
      obtain ⟨hc0, hf0⟩ := bcell hb0
      go_wp2_with fail
      go_roundw
      case rel => exact ⟨k + 1, by omega, by go_num, up_trans hb hb0⟩
      case measure => simp [intOf]; omega
    · have e : k = n := by omega
      subst e
      go_wp2_with fail
      go_ret
      exact Ans.bool rfl hb
set_option maxRecDepth 100000 in
set_option maxHeartbeats 16000000 in
theorem fnChartChanges_walk (v u : Value) (n m : Nat) (w : World) (hv : Bytes w v n) (hu : Bytes w u m) (hn : n ≤ 9223372036854775807) (hm : m ≤ 9223372036854775807) :
    Calls Try.prog 4 #[v, u] w (Ans w (.bool true)) := by
  have HV := Lib.hid hv
  have HU := Lib.hid hu
  obtain ⟨Av, cv, rfl, _, _⟩ := hv
  obtain ⟨Au, cu, rfl, _, _⟩ := hu
  have HB := Lib.hid (fun W => big_g Av Au n cv m cu W hn hm)
  go_enter Try.func4, Try.ntmps4
  go_wp2_with fail
  refine (HB.out _).mono ?_
  rintro e wz ⟨q, rfl, _, rfl⟩
  cases q with
  | true =>
    go_wp2_with fail
    go_ret
    exact ⟨rfl, Below.refl _ _⟩
  | false =>
    have hW_0 := Below.refl wz.heap.size wz
    go_wp2_with fail
    refine (drawSwapPerformers_g _ n _ HV.out hn).mono ?_
    rintro e w1 ⟨tl, nl, X, Y, I, K, rfl, hl, hnl, hb_0⟩
    have hW_1 := up_trans hW_0 hb_0
    obtain ⟨Al, cl, rfl, hlc, _⟩ := id hl
    obtain ⟨q, hq⟩ : ∃ q, swB nl X Y I K = q := ⟨_, rfl⟩
    obtain ⟨z, hz⟩ : ∃ z, sel q nl = z := ⟨_, rfl⟩
    have HSi := Lib.hid (fun W (h : Spots W (.slice Al nl cl) nl X Y) => iSwap_any _ nl X Y I K W h (by omega))
    have HSs := Lib.hid (fun W (h : Spots W (.slice Al nl cl) nl X Y) => sSwap_any _ nl X Y I K W h (by omega))
    rw [hq, hz] at HSi HSs
    have hzl : z ≤ nl := by rw [← hz]; exact sel_le q nl
    have HQ := Lib.hid hq
    have HZ := Lib.hid (show q = true → z = nl by intro h; rw [h] at hz; exact hz.symm)
    have eqq : (q != q) = false := by simp
    clear hq hz
    go_wp2_with fail
    refine (HSi.out _ hl).mono ?_
    rintro e w2 ⟨ts, rfl, hs, hb_1⟩
    have hW_2 := up_trans hW_1 hb_1
    go_wp2_with fail
    have h_l_2 := hl.up hb_1
    refine (HSs.out _ h_l_2).mono ?_
    rintro e w3 ⟨tr, rfl, hr, hb_2⟩
    have hW_3 := up_trans hW_2 hb_2
    as_aux_lemma =>
    go_wp2_with fail
    have h_s_3 := hs.spots.up hb_2
    refine (pSame_g _ _ z _ _ _ h_s_3 hr.spots (by omega)).mono ?_
    rintro e w4 ⟨rfl, hb_3⟩
    have hW_4 := up_trans hW_3 hb_3
    have h_l_3 := h_l_2.up hb_2
    have h_l_4 := h_l_3.up hb_3
    have h_s_4 := h_s_3.up hb_3
    have h_r_4 := hr.spots.up hb_3
    as_aux_lemma =>
    go_upto_if 82 with fail
    go_cut [12, 13, 14, 15, 16, 17, 18, 19] (fun _ _ _ _ _ _ _ _ wx => Below w4.heap.size w4 wx)
    case first =>
      as_aux_lemma =>
      cases q with
      | false =>
        go_wp2_with fail
        go_meet
        exact Below.refl _ _
      | true =>
        have hz := HZ.out rfl
        subst hz
        have hq := HQ.out
        unfold swB at hq
        rw [Bool.and_eq_true] at hq
        obtain ⟨hch, i1, i2⟩ := hasI_iff.1 hq.1
        obtain ⟨_, k1, k2⟩ := hasI_iff.1 hq.2
        clear hq
        have hi : I.toNat < z := by omega
        have hk : K.toNat < z := by omega
        have HS2 := Lib.hid (fun W t (h : Spots W t z (swX I.toNat K.toNat X) (swX I.toNat K.toNat Y)) => iSwap_any t z (swX I.toNat K.toNat X) (swX I.toNat K.toNat Y) I K W h (by omega))
        have hch2 := sw_chart hch hi hk
        rw [show swB z (swX I.toNat K.toNat X) (swX I.toNat K.toNat Y) I K = true by unfold swB; rw [Bool.and_eq_true]; exact ⟨hasI_iff.2 ⟨hch2, i1, i2⟩, hasI_iff.2 ⟨hch2, k1, k2⟩⟩, show swX I.toNat K.toNat (swX I.toNat K.toNat X) = X from funext (sw_sw _ _ X), show swX I.toNat K.toNat (swX I.toNat K.toNat Y) = Y from funext (sw_sw _ _ Y), show sel true z = z from rfl] at HS2
        have HF := Lib.hid (fun W t (h1 : Spots W (.slice Al z cl) z X Y) (h2 : Spots W t z (swX I.toNat K.toNat X) (swX I.toNat K.toNat Y)) => iSameForm_g _ t z z X Y _ _ W h1 h2 (by omega) (by omega))
        rw [(sw_same hch hi hk).1, (sw_same hch hi hk).2] at HF
        have HCi := Lib.hid (fun W t (h1 : Spots W (.slice Al z cl) z X Y) (h2 : Spots W t z (swX I.toNat K.toNat X) (swX I.toNat K.toNat Y)) => iChanged_any _ t z z X Y _ _ W h1 h2 (by omega) (by omega))
        have HCs := Lib.hid (fun W t (h1 : Spots W (.slice Al z cl) z X Y) (h2 : Spots W t z (swX I.toNat K.toNat X) (swX I.toNat K.toNat Y)) => sChanged_any _ t z z X Y _ _ W h1 h2 (by omega) (by omega))
        have hcg := (sw_changed hch hi hk).2
        rw [(sw_changed hch hi hk).1] at HCi HCs
        obtain ⟨cg, hcg2⟩ : ∃ cg, cgN z X Y z (swX I.toNat K.toNat X) (swX I.toNat K.toNat Y) = cg := ⟨_, rfl⟩
        rw [hcg2] at HCi HCs hcg
        obtain ⟨bq, hb1, hb2, hb3, hb4⟩ : ∃ bq, (I == K) = bq ∧ (I != K) = !bq ∧ (bq = true → cg = 0) ∧ (bq = false → cg = 2) := by
          refine ⟨I == K, rfl, rfl, fun h => ?_, fun h => ?_⟩
          · have : I = K := by simpa using h
            rw [hcg, this, if_pos rfl]
          · have : I ≠ K := by simpa using h
            rw [hcg, if_neg (by omega)]
        have hcz : cg ≤ z := by rw [← hcg2]; exact cgN_le _ _ _ _ _ _
        have HB1 := Lib.hid hb1
        have HB2 := Lib.hid hb2
        have HL := Lib.hid h_l_4
        have HR := Lib.hid h_r_4
        have HS0 := Lib.hid h_s_4
        clear hcg hcg2 hb1 hb2 hch hch2 HQ HZ HSi HSs HB HU HV
        as_aux_lemma =>
        go_wp2_with fail
        refine (HS2.out _ _ HS0.out).mono ?_
        rintro e v1 ⟨t1, rfl, ho1, hv1⟩
        obtain ⟨A1, c1, rfl, _, _⟩ := id ho1
        go_wp2_with fail
        refine (HF.out _ _ (HL.out.up hv1) (HS0.out.up hv1)).mono ?_
        rintro e v2 ⟨rfl, hv2⟩
        have hv12 := up_trans hv1 hv2
        go_wp2_with fail
        refine (HCi.out _ _ (HL.out.up hv12) (HS0.out.up hv12)).mono ?_
        rintro e v3 ⟨t3, rfl, ho3, hv3⟩
        have hv13 := up_trans hv12 hv3
        as_aux_lemma =>
        go_wp2_with fail
        refine (HCs.out _ _ (HL.out.up hv13) (HR.out.up hv13)).mono ?_
        rintro e v4 ⟨t4, rfl, ho4, hv4⟩
        have hv14 := up_trans hv13 hv4
        obtain ⟨A4, c4, rfl, _, _⟩ := id ho4
        as_aux_lemma =>
        have hbb1 := HB1.out
        have hbb2 := HB2.out
        cases bq with
        | true =>
          have hcg0 := hb3 rfl
          subst hcg0
          clear hb3 hb4 HB1 HB2
          go_wp2_with fail
          refine (pSame_g _ _ z X Y _ (ho1.spots.up (up_trans (up_trans hv2 hv3) hv4)) (HL.out.up hv14) (by omega)).mono ?_
          rintro e v5 ⟨rfl, hv5⟩
          go_wp2_with fail
          refine (sameInts_g _ _ 0 _ _ (ho3.ints.up (up_trans hv4 hv5)) (ho4.ints.up hv5) (by omega)).mono ?_
          rintro e v6 ⟨rfl, hv6⟩
          go_wp2_with fail
          go_meet
          exact up_trans (up_trans hv14 hv5) hv6
        | false =>
          have hcg0 := hb4 rfl
          subst hcg0
          clear hb3 hb4 HB1 HB2
          go_wp2_with fail
          refine (pSame_g _ _ z X Y _ (ho1.spots.up (up_trans (up_trans hv2 hv3) hv4)) (HL.out.up hv14) (by omega)).mono ?_
          rintro e v5 ⟨rfl, hv5⟩
          go_wp2_with fail
          refine (sameInts_g _ _ 2 _ _ (ho3.ints.up (up_trans hv4 hv5)) (ho4.ints.up hv5) (by omega)).mono ?_
          rintro e v6 ⟨rfl, hv6⟩
          go_wp2_with fail
          go_meet
          exact up_trans (up_trans hv14 hv5) hv6
    case rest =>
    obtain ⟨w5, rfl⟩ : ∃ W : World, W = wc := ⟨_, rfl⟩
    have hb_4 := hcut
    have hW_5 := up_trans hW_4 hb_4
    clear hcut HSi HSs HQ HZ eqq
    as_aux_lemma =>
    go_wp2_with fail
    refine (drawPlacePerformer_g _ m _ (HU.out.up hW_5) hm).mono ?_
    rintro e w6 ⟨tu, nu, U, V, p, x, y, rfl, hu, hnu, hb_5⟩
    have hW_6 := up_trans hW_5 hb_5
    obtain ⟨Au2, cu2, rfl, hnuc, _⟩ := id hu
    obtain ⟨q2, hq2⟩ : ∃ q, plB nu U V p x y = q := ⟨_, rfl⟩
    obtain ⟨z2, hz2⟩ : ∃ z, sel q2 nu = z := ⟨_, rfl⟩
    have HPi := Lib.hid (fun W (h : Spots W (.slice Au2 nu cu2) nu U V) => iPlace_any _ nu U V p x y W h (by omega))
    have HPs := Lib.hid (fun W (h : Spots W (.slice Au2 nu cu2) nu U V) => sPlace_any _ nu U V p x y W h (by omega))
    rw [hq2, hz2] at HPi HPs
    have hzl2 : z2 ≤ nu := by rw [← hz2]; exact sel_le q2 nu
    have HQ2 := Lib.hid hq2
    have HZ2 := Lib.hid (show q2 = true → z2 = nu by intro h; rw [h] at hz2; exact hz2.symm)
    have eq2 : (q2 != q2) = false := by simp
    clear hq2 hz2
    have k0 : ∀ t, (World.alloc w6 (.cells #[.int .i64 x, .int .i64 y] t)).cell? ⟨w6.heap.size, 0, none⟩ = some (.int .i64 x) := fun t => (cell_new2 _ _ _ t).1
    have k1 : ∀ t, (World.alloc w6 (.cells #[.int .i64 x, .int .i64 y] t)).cell? ⟨w6.heap.size, 1, none⟩ = some (.int .i64 y) := fun t => (cell_new2 _ _ _ t).2
    have k0' := k0 33
    have k1' := k1 33
    clear k0 k1
    go_wp2_with fail
    generalize hWx : World.alloc w6 _ = w7 at *
    have hb_6 : Below w6.heap.size w6 w7 := by subst hWx; exact below_alloc _ _
    have hW_7 := up_trans hW_6 hb_6
    have x_bx : Box2 w7 w6.heap.size x y := ⟨k0', k1'⟩
    clear hWx k0' k1'
    have h_u_7 := hu.up hb_6
    refine (HPi.out _ h_u_7).mono ?_
    rintro e w8 ⟨tp, rfl, hp, hb_7⟩
    have hW_8 := up_trans hW_7 hb_7
    have h_bx_8 := x_bx.up hb_7
    have y0 := h_bx_8.c0
    have y1 := h_bx_8.c1
    go_wp2_with fail
    have h_u_8 := h_u_7.up hb_7
    refine (HPs.out _ h_u_8).mono ?_
    rintro e w9 ⟨td, rfl, hd, hb_8⟩
    have hW_9 := up_trans hW_8 hb_8
    obtain ⟨Ad, cd, rfl, hdc, _⟩ := id hd
    clear y0 y1
    as_aux_lemma =>
    have h_p_9 := hp.spots.up hb_8
    have h_bx_9 := h_bx_8.up hb_8
    go_upto_region 18 with fail
    go_cut [202] (fun s wx => s = .bool false ∧ Below w9.heap.size w9 wx)
    case first =>
      as_aux_lemma =>
      have HPS := Lib.hid (fun W (hW : Below w9.heap.size w9 W) => pSame_g tp (.slice Ad z2 cd) z2 _ _ W (h_p_9.up hW) (hd.spots.up hW) (by omega))
      cases q2 with
      | false =>
        refine wp_region_up (by kernel_rfl) (by kernel_rfl) ?_
        repeat (go_big_quiet_step (exact up_of HPS.out _ _))
        refine wpQuiet_nil ?_
        intro w1 hb0
        obtain ⟨hc0, hf0⟩ := bcell hb0
        go_wp2_with fail
        go_meet
        exact ⟨rfl, hb0⟩
      | true =>
        have hz := HZ2.out rfl
        subst hz
        obtain ⟨⟨p1, p2⟩, hch⟩ := pl_facts HQ2.out
        obtain ⟨pN, rfl⟩ : ∃ pN : Nat, p = pN := ⟨p.toNat, by omega⟩
        simp only [Int.toNat_natCast] at hch
        have HCH := Lib.hid (fun W (hW : Below w9.heap.size w9 W) => isChart_g tp z2 _ _ W (h_p_9.up hW) (by omega))
        simp only [Int.toNat_natCast] at HCH
        rw [hch] at HCH
        obtain ⟨Ad2, cd2, e2, _, hr2⟩ := hd.spots
        injection e2 with e3 _ e4
        subst e3
        subst e4
        obtain ⟨bd, od, rfl, hR2⟩ := hr2 (by omega)
        have g0 := (hR2 pN (by omega)).1
        have g1 := (hR2 pN (by omega)).2
        rw [show plX (Int.toNat (pN : Int)) x U pN = x by simp [plX]] at g0
        rw [show plX (Int.toNat (pN : Int)) y V pN = y by simp [plX]] at g1
        have c0 := cell_regrown g0
        have c1 := cell_regrown g1
        have c2 := cell_regrown h_bx_9.c0
        have c3 := cell_regrown h_bx_9.c1
        clear g0 g1 hR2 hr2
        refine wp_region_up (by kernel_rfl) (by kernel_rfl) ?_
        repeat (go_big_quiet_step (first | exact up_of HPS.out _ _ | exact up_of HCH.out _ _))
        refine wpQuiet_nil ?_
        intro w1 hb0
        obtain ⟨hc0, hf0⟩ := bcell hb0
        go_wp2_with fail
        go_meet
        exact ⟨rfl, hb0⟩
    case rest =>
    obtain ⟨rfl, hb_9⟩ := hcut
    obtain ⟨w10, rfl⟩ : ∃ W : World, W = wc := ⟨_, rfl⟩
    have hW_10 := up_trans hW_9 hb_9
    clear HPi HPs HQ2 HZ2 eq2
    as_aux_lemma =>
    go_wp2_with fail
    refine (drawMoveChart_g _ m _ (HU.out.up hW_10) hm).mono ?_
    rintro e w11 ⟨tv, nv, F, H, x3, y3, rfl, hf, hnv, hb_10⟩
    have hW_11 := up_trans hW_10 hb_10
    obtain ⟨Af, cf, rfl, hfc, _⟩ := id hf
    obtain ⟨q3, hq3⟩ : ∃ q, mcB nv F H x3 y3 = q := ⟨_, rfl⟩
    obtain ⟨z3, hz3⟩ : ∃ z, sel q3 nv = z := ⟨_, rfl⟩
    have HMi := Lib.hid (fun W (h : Spots W (.slice Af nv cf) nv F H) => iMoveC_any _ nv F H x3 y3 W h (by omega))
    have HMs := Lib.hid (fun W (h : Spots W (.slice Af nv cf) nv F H) => sMoveC_any _ nv F H x3 y3 W h (by omega))
    rw [hq3, hz3] at HMi HMs
    have hzl3 : z3 ≤ nv := by rw [← hz3]; exact sel_le q3 nv
    have HQ3 := Lib.hid hq3
    have HZ3 := Lib.hid (show q3 = true → z3 = nv by intro h; rw [h] at hz3; exact hz3.symm)
    have eq3 : (q3 != q3) = false := by simp
    clear hq3 hz3
    go_wp2_with fail
    refine (HMi.out _ hf).mono ?_
    rintro e w12 ⟨ti, rfl, hi, hb_11⟩
    have hW_12 := up_trans hW_11 hb_11
    go_wp2_with fail
    have h_f_12 := hf.up hb_11
    refine (HMs.out _ h_f_12).mono ?_
    rintro e w13 ⟨tj, rfl, hj, hb_12⟩
    have hW_13 := up_trans hW_12 hb_12
    as_aux_lemma =>
    go_wp2_with fail
    have h_i_13 := hi.spots.up hb_12
    refine (pSame_g _ _ z3 _ _ _ h_i_13 hj.spots (by omega)).mono ?_
    rintro e w14 ⟨rfl, hb_13⟩
    have hW_14 := up_trans hW_13 hb_13
    have h_f_13 := h_f_12.up hb_12
    have h_f_14 := h_f_13.up hb_13
    have h_i_14 := h_i_13.up hb_13
    as_aux_lemma =>
    go_upto_if 232 with fail
    go_cut [34, 35] (fun _ _ wx => Below w14.heap.size w14 wx)
    case first =>
      as_aux_lemma =>
      cases q3 with
      | false =>
        go_wp2_with fail
        go_meet
        exact Below.refl _ _
      | true =>
        have hz := HZ3.out rfl
        subst hz
        have hq := HQ3.out
        have HM2 := Lib.hid (fun W t (h : Spots W t z3 (fun i => F i + x3) (fun i => H i + y3)) => iMoveC_any t z3 (fun i => F i + x3) (fun i => H i + y3) (-x3) (-y3) W h (by omega))
        rw [mc_back hq, show (fun i => (fun i => F i + x3) i + -x3) = F from funext fun i => (by show F i + x3 + -x3 = F i; omega), show (fun i => (fun i => H i + y3) i + -y3) = H from funext fun i => (by show H i + y3 + -y3 = H i; omega), show sel true z3 = z3 from rfl] at HM2
        unfold mcB dB at hq
        simp only [Bool.and_eq_true, inB_iff] at hq
        obtain ⟨⟨_, ⟨d1, d2⟩, d3, d4⟩, _⟩ := hq
        go_wp2_with fail
        refine (HM2.out _ _ h_i_14).mono ?_
        rintro e v1 ⟨t1, rfl, ho1, hv1⟩
        go_wp2_with fail
        refine (pSame_g _ _ z3 F H _ ho1.spots (h_f_14.up hv1) (by omega)).mono ?_
        rintro e v2 ⟨rfl, hv2⟩
        go_wp2_with fail
        go_meet
        exact up_trans hv1 hv2
    case rest =>
    obtain ⟨w15, rfl⟩ : ∃ W : World, W = wc := ⟨_, rfl⟩
    have hb_14 := hcut
    have hW_15 := up_trans hW_14 hb_14
    clear hcut HMi HMs HQ3 HZ3 eq3
    as_aux_lemma =>
    go_wp2_with fail
    refine (drawSameForm_g _ m _ (HU.out.up hW_15) hm).mono ?_
    rintro e w16 ⟨tb, nb, B1, B2, tc, nc, C1, C2, rfl, hsb, hsc, hnb, hnc, hb_15⟩
    have hW_16 := up_trans hW_15 hb_15
    have HFi := Lib.hid (fun W (h1 : Spots W tb nb B1 B2) (h2 : Spots W tc nc C1 C2) => iSameForm_g tb tc nb nc B1 B2 C1 C2 W h1 h2 (by omega) (by omega))
    have HFs := Lib.hid (fun W (h1 : Spots W tb nb B1 B2) (h2 : Spots W tc nc C1 C2) => sSameForm_g tb tc nb nc B1 B2 C1 C2 W h1 h2 (by omega) (by omega))
    have HFt := Lib.hid (fun W (h1 : Spots W tb nb B1 B2) (h2 : Spots W tc nc C1 C2) => iSameForm_g tc tb nc nb C1 C2 B1 B2 W h2 h1 (by omega) (by omega))
    rw [(sf_comm nb nc B1 B2 C1 C2).1, (sf_comm nb nc B1 B2 C1 C2).2] at HFt
    obtain ⟨r4, g4, e4⟩ : ∃ r g, sfR nb B1 B2 nc C1 C2 = r ∧ sfG nb B1 B2 nc C1 C2 = g := ⟨_, _, rfl, rfl⟩
    rw [e4.1, e4.2] at HFi HFs HFt
    have er4 : (r4 == r4) = true := by simp
    have eg4 : (g4 == g4) = true := by simp
    clear e4
    go_wp2_with fail
    refine (HFi.out _ hsb hsc).mono ?_
    rintro e w17 ⟨rfl, hb_16⟩
    have hW_17 := up_trans hW_16 hb_16
    go_wp2_with fail
    have h_b_17 := hsb.up hb_16
    have h_c_17 := hsc.up hb_16
    refine (HFs.out _ h_b_17 h_c_17).mono ?_
    rintro e w18 ⟨rfl, hb_17⟩
    have hW_18 := up_trans hW_17 hb_17
    go_wp2_with fail
    have h_b_18 := h_b_17.up hb_17
    have h_c_18 := h_c_17.up hb_17
    refine (HFt.out _ h_b_18 h_c_18).mono ?_
    rintro e w19 ⟨rfl, hb_18⟩
    have hW_19 := up_trans hW_18 hb_18
    as_aux_lemma =>
    go_wp2_with fail
    refine (drawChangedSpots_g _ m _ (HU.out.up hW_19) hm).mono ?_
    rintro e w20 ⟨td, nd, D1, D2, te, ne, E1, E2, rfl, hsd, hse, hnd, hne, hb_19⟩
    have hW_20 := up_trans hW_19 hb_19
    have HGi := Lib.hid (fun W (h1 : Spots W td nd D1 D2) (h2 : Spots W te ne E1 E2) => iChanged_any td te nd ne D1 D2 E1 E2 W h1 h2 (by omega) (by omega))
    have HGs := Lib.hid (fun W (h1 : Spots W td nd D1 D2) (h2 : Spots W te ne E1 E2) => sChanged_any td te nd ne D1 D2 E1 E2 W h1 h2 (by omega) (by omega))
    have hcn := cgN_le nd D1 D2 ne E1 E2
    obtain ⟨q5, cg, e5⟩ : ∃ q c, cpB nd D1 D2 ne E1 E2 = q ∧ cgN nd D1 D2 ne E1 E2 = c := ⟨_, _, rfl, rfl⟩
    rw [e5.1, e5.2] at HGi HGs
    rw [e5.2] at hcn
    have eq5 : (q5 == q5) = true := by simp
    clear e5
    go_wp2_with fail
    refine (HGi.out _ hsd hse).mono ?_
    rintro e w21 ⟨t8, rfl, h8, hb_20⟩
    have hW_21 := up_trans hW_20 hb_20
    go_wp2_with fail
    have h_d2_21 := hsd.up hb_20
    have h_e2_21 := hse.up hb_20
    refine (HGs.out _ h_d2_21 h_e2_21).mono ?_
    rintro e w22 ⟨t9, rfl, h9, hb_21⟩
    have hW_22 := up_trans hW_21 hb_21
    as_aux_lemma =>
    go_wp2_with fail
    have h_i8_22 := h8.ints.up hb_21
    refine (sameInts_g _ _ cg _ _ h_i8_22 h9.ints (by omega)).mono ?_
    rintro e w23 ⟨rfl, hb_22⟩
    have hW_23 := up_trans hW_22 hb_22
    go_wp2_with fail
    go_ret
    exact ⟨rfl, hW_23⟩

set_option maxRecDepth 100000 in
theorem fnChartChanges_law : LawWalk Try.prog 4 Try.f4 := by
  intro H enc W base args ds ps hval hA
  rw [Try.params4] at hval hA
  obtain ⟨v0, v1, d0, d1, p0, p1, rfl, rfl, rfl, h0, h1⟩ := trodAll_two hA
  obtain ⟨n, hs, hn⟩ := open_bytes (hval 0 _ v0 rfl rfl) h0
  obtain ⟨m, ht, hm⟩ := open_bytes (hval 1 _ v1 rfl rfl) h1
  exact fnChartChanges_walk v0 v1 n m W hs ht hn hm

set_option maxRecDepth 100000 in
set_option maxHeartbeats 4000000 in
theorem fnChartChanges_wit (os : Os) (H : Type) (enc : TypeId × Value → H) : ∃ (w : World) (tape : Tape) (i : Input), w.os = os ∧ (w.forCall tape i).Shaped Try.checked.prog ∧ i.vars = [] ∧ Input.okWide Try.checked.prog (w.forCall tape i) .any w.heap.size 4 i ∧
      Rows.fnChartChangesSpec.pre6 enc Try.checked.prog Try.f4 [] false (w.forCall tape i).memory i.args ∧ ({} : Assume).holds Try.checked.prog (lone (Frame.enter Try.checked.prog 4 i.args .normal) [] (w.forCall tape i)) :=
  ChangeSpec.witness6 (enc := enc) (C := Try.checked) false ⟨#[], #[.slice none 0 0, .slice none 0 0], []⟩ 8 (by kernel_rfl) (by kernel_rfl) (by kernel_rfl) (by kernel_rfl)

set_option maxRecDepth 100000 in
set_option maxHeartbeats 4000000 in
theorem fnChartChanges_row (os : Os) (started : os.Started) (H : Type) (enc : TypeId × Value → H) :
    ReturnsInHanded {} Try.checked os 4 .any (Rows.fnChartChangesSpec.pre6 enc Try.checked.prog Try.f4 [] false) (Rows.fnChartChangesSpec.post enc Try.checked.prog Try.f4 false true false false) :=
  lifted_of (C := Try.checked) (s := Rows.fnChartChangesSpec) (tb := 4) (by kernel_rfl) (by kernel_rfl) (by kernel_rfl) (by kernel_rfl) Try.func4 rfl Try.underlying4 rfl
      (fun H ds h => by
        have h2 : ds.length = 2 := by rw [Try.params4] at h; exact h
        match ds, h2 with
        | [_, _], _ => rfl)
      fnChartChanges_law os started H enc (fnChartChanges_wit os H enc)

set_option maxRecDepth 100000 in
set_option maxHeartbeats 4000000 in
theorem fnChartChanges_holds : Rows.FnChartChangesSaid :=
  OpenClaim.holds_of_wide 4 Try.f4 rfl rfl rfl rfl rfl rfl rfl ⟨rfl, rfl, rfl, rfl, rfl⟩ rfl rfl rfl rfl rfl (by kernel_rfl) Try.func4 (by kernel_rfl)
    (of_decide_eq_true (by kernel_rfl)) (by unfold Func.isWrapper; first | (rw [if_pos (by decide +kernel)]; kernel_rfl) | (rw [if_neg (by decide +kernel)]; exact ⟨rfl, rfl⟩))
    (fun os started H enc _ => fnChartChanges_row os started H enc)

#print axioms fnChartChanges_holds
end Go.Proofs.Ytljbcfgecbonnaa
