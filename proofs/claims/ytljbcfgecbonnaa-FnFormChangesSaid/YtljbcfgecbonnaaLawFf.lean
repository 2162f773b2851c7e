/-
  FnFormChanges: for all arguments the law returns true, and its arguments read afterwards as before. No condition.
-/
import Derived.Test.YtljbcfgecbonnaaRows
import Derived.Test.YtljbcfgecbonnaaBase
import Derived.Test.YtljbcfgecbonnaaSpot
import Derived.Test.YtljbcfgecbonnaaSlice
import Derived.Test.YtljbcfgecbonnaaLawS
import Derived.Test.YtljbcfgecbonnaaMark
import Derived.Test.YtljbcfgecbonnaaInts
import Derived.Test.YtljbcfgecbonnaaIntsL
import Derived.Test.YtljbcfgecbonnaaTurned
import Derived.Test.YtljbcfgecbonnaaTrans
import Derived.BigQuiet
import Derived.Test.YtljbcfgecbonnaaCur
import Derived.Test.YtljbcfgecbonnaaDrawP
import Derived.Test.YtljbcfgecbonnaaOpen
import Derived.Test.YtljbcfgecbonnaaDrawV
import Derived.Test.YtljbcfgecbonnaaAppend
import Derived.Test.YtljbcfgecbonnaaAppendE
import Derived.Test.YtljbcfgecbonnaaSameForm
import Derived.Deep.LoopGhost
import Derived.Deep.Onto
import Derived.Deep.CutRange
import Derived.Deep.DeepCutAuto
import Derived.Deep.RegionHeld3
import Derived.Test.YtljbcfgecbonnaaDrawW
import Derived.Test.YtljbcfgecbonnaaDrawZ
import Derived.Test.YtljbcfgecbonnaaBytes
import Derived.Test.YtljbcfgecbonnaaDrawJ
import Derived.Test.YtljbcfgecbonnaaQ
import Derived.Test.YtljbcfgecbonnaaPs
import Derived.Test.YtljbcfgecbonnaaJoin
import Derived.Test.YtljbcfgecbonnaaBounds
import Derived.Test.YtljbcfgecbonnaaMiddle
import Derived.Test.YtljbcfgecbonnaaClosest
import Derived.Test.YtljbcfgecbonnaaSpread
import Derived.Test.YtljbcfgecbonnaaFfP
import Derived.Test.YtljbcfgecbonnaaFfV
namespace Go.Proofs.Ytljbcfgecbonnaa
open Go.RowKit Go.ChangeShapes Go.WideShapes Go.Sort

set_option maxRecDepth 100000 in
set_option maxHeartbeats 16000000 in
theorem fnFormChanges_walk (v u : Value) (n m : Nat) (w : World) (hv : Bytes w v n) (hu : Bytes w u m) (hn : n ≤ 9223372036854775807) (hm : m ≤ 9223372036854775807) :
    Calls Try.prog 3 #[v, u] w (Ans w (.bool true)) := by
  have HV := Lib.hid hv
  have HU := Lib.hid hu
  obtain ⟨Av, cv, rfl, _, _⟩ := hv
  obtain ⟨Au, cu, rfl, _, _⟩ := hu
  have HB := Lib.hid (fun W => big_g Av Au n cv m cu W hn hm)
  go_enter Try.func3, Try.ntmps3
  go_wp2_with fail
  refine (HB.out _).mono ?_
  rintro e wz ⟨q, rfl, _, rfl⟩
  cases q with
  | true =>
    go_wp2_with fail
    go_ret
    exact ⟨rfl, Below.refl _ _⟩
  | false =>
    have hW_0 := Below.refl wz.heap.size wz
    go_wp2_with fail
    refine (drawJoinForms_g _ n _ HV.out hn).mono ?_
    rintro e w1 ⟨ta, na, X, Y, tb, nb, U, V, rfl, ha, hb, hna, hnb, hb_0⟩
    have hW_1 := up_trans hW_0 hb_0
    obtain ⟨Aa, ca, rfl, _⟩ := ha.shape
    obtain ⟨Ab, cb, rfl, _⟩ := hb.shape
    obtain ⟨q, hq⟩ : ∃ q, joinB na X Y nb U V = q := ⟨_, rfl⟩
    obtain ⟨k, hk⟩ : ∃ k, na + nb = k := ⟨_, rfl⟩
    have HJi := Lib.hid (fun W (h1 : Spots W (.slice Aa na ca) na X Y) (h2 : Spots W (.slice Ab nb cb) nb U V) => iJoin_any _ _ na nb X Y U V W h1 h2 (by omega))
    have HJs := Lib.hid (fun W (h1 : Spots W (.slice Aa na ca) na X Y) (h2 : Spots W (.slice Ab nb cb) nb U V) => sJoin_any _ _ na nb X Y U V W h1 h2 (by omega))
    rw [hq, hk] at HJi HJs
    have HQ := Lib.hid (show q = true → chartB k (cat na X U) (cat na Y V) = true by intro h; rw [h] at hq; unfold joinB at hq; rw [hk] at hq; simp only [Bool.and_eq_true] at hq; exact hq.2)
    have hwk : wrap64 ((na : Int) + nb) = (k : Int) := by rw [show (na : Int) + nb = k by omega]; exact IntWalk.wrap64_in _ (by omega)
    have ekk : ((k : Int) != (k : Int)) = false := by simp
    have eqq : (q != q) = false := by simp
    have hk26 : k ≤ 1048576 := by omega
    have hsk := sel_le q k
    obtain ⟨z, hz⟩ : ∃ z, sel q k = z := ⟨_, rfl⟩
    rw [hz] at HJi HJs hsk
    have HZ := Lib.hid (show q = true → z = k by intro h; rw [h] at hz; exact hz.symm)
    have HK := Lib.hid (show (k : Int) = (na : Int) + nb by omega)
    have HCJ := Lib.hid (fun t W (h : Spots W t k (cat na X U) (cat na Y V)) => isChart_g t k _ _ W h (by omega))
    clear hq hk hz
    go_wp2_with fail
    refine (HJi.out _ ha hb).mono ?_
    rintro e w2 ⟨tj, rfl, hj, hb_1⟩
    have hW_2 := up_trans hW_1 hb_1
    go_wp2_with fail
    have h_a_2 := ha.up hb_1
    have h_b_2 := hb.up hb_1
    refine (HJs.out _ h_a_2 h_b_2).mono ?_
    rintro e w3 ⟨tk, rfl, hk, hb_2⟩
    have hW_3 := up_trans hW_2 hb_2
    obtain ⟨Ak, ck, rfl, _⟩ := hk.shape
    have h_j_3 := hj.spots.up hb_2
    go_upto_region 6 with fail
    go_cut [82] (fun s wx => s = .bool false ∧ Below w3.heap.size w3 wx)
    case first =>
      as_aux_lemma =>
      have h1 := h_j_3
      have h2 := hk.spots
      cases q with
      | false =>
        go_wp2_with fail
        refine (pSame_g _ _ _ _ _ _ h1 h2 (by omega)).mono ?_
        rintro e w1 ⟨rfl, hb1⟩
        go_wp2_with fail
        go_meet
        exact ⟨rfl, hb1⟩
      | true =>
        have hz := HZ.out rfl
        subst hz
        have HCj := HCJ
        rw [HQ.out rfl] at HCj
        clear HCJ
        go_wp2_with fail
        refine (pSame_g _ _ _ _ _ _ h1 h2 (by omega)).mono ?_
        rintro e w1 ⟨rfl, hb1⟩
        go_wp2_with fail
        refine (HCj.out _ _ (h1.up hb1)).mono ?_
        rintro e w2 ⟨rfl, hb2⟩
        go_wp2_with fail
        go_meet
        exact ⟨rfl, up_trans hb1 hb2⟩
    case rest =>
    obtain ⟨rfl, hb_3⟩ := hcut
    obtain ⟨w4, rfl⟩ : ∃ W : World, W = wc := ⟨_, rfl⟩
    have hW_4 := up_trans hW_3 hb_3
    clear HJi HJs hwk ekk eqq hk26 hsk HQ HZ HK HCJ
    as_aux_lemma =>
    go_wp2_with fail
    refine (drawBoundsOf_g _ m _ (HU.out.up hW_4) hm).mono ?_
    rintro e w5 ⟨tl, nl, X1, Y1, rfl, hl, hnl, hb_4⟩
    have hW_5 := up_trans hW_4 hb_4
    obtain ⟨lx, ly, hx, hy, mx, my, rm, cb, hF⟩ := ff_vals nl X1 Y1
    have HF := Lib.hid hF
    have HIB := Lib.hid (fun W (h : Spots W tl nl X1 Y1) => iBounds_any tl nl X1 Y1 W h (by omega))
    have HSB := Lib.hid (fun W (h : Spots W tl nl X1 Y1) => sBounds_any tl nl X1 Y1 W h (by omega))
    have HIM := Lib.hid (fun W (h : Spots W tl nl X1 Y1) => iMiddle_any tl nl X1 Y1 W h (by omega))
    have HSM := Lib.hid (fun W (h : Spots W tl nl X1 Y1) => sMiddle_any tl nl X1 Y1 W h (by omega))
    have HIR := Lib.hid (fun W (h : Spots W tl nl X1 Y1) => iInnerRoom_g tl nl X1 Y1 W h (by omega))
    have HSR := Lib.hid (fun W (h : Spots W tl nl X1 Y1) => sInnerRoom_g tl nl X1 Y1 W h (by omega))
    have HIC := Lib.hid (fun W (h : Spots W tl nl X1 Y1) => isChart_g tl nl X1 Y1 W h (by omega))
    rw [hF.bnd] at HIB HSB
    rw [hF.mid] at HIM HSM
    rw [hF.irv] at HIR HSR
    rw [hF.ch] at HIC
    clear hF
    as_aux_lemma =>
    go_wp2_with fail
    refine (HIB.out _ hl).mono ?_
    rintro e w6 ⟨rfl, hb_5⟩
    have hW_6 := up_trans hW_5 hb_5
    go_wp2_with fail
    generalize hWx : World.alloc (World.alloc w6 _) _ = w7
    have hb_6 : Below w6.heap.size w6 w7 := by subst hWx; exact (below_alloc _ _).trans ((below_alloc _ _).mono (by simp))
    have hW_7 := up_trans hW_6 hb_6
    have x_b12 : Box2 w7 (w6.heap.size) lx ly := by subst hWx; exact ⟨by simp [go_sem], by simp [go_sem]⟩
    have x_b13 : Box2 w7 (w6.heap.size + 1) hx hy := by subst hWx; exact ⟨by simp [go_sem], by simp [go_sem]⟩
    clear hWx
    have h_l_6 := hl.up hb_5
    have h_l_7 := h_l_6.up hb_6
    refine (HSB.out _ h_l_7).mono ?_
    rintro e w8 ⟨rfl, hb_7⟩
    have hW_8 := up_trans hW_7 hb_7
    go_wp2_with fail
    generalize hWx : World.alloc (World.alloc w8 _) _ = w9
    have hb_8 : Below w8.heap.size w8 w9 := by subst hWx; exact (below_alloc _ _).trans ((below_alloc _ _).mono (by simp))
    have hW_9 := up_trans hW_8 hb_8
    have x_b15 : Box2 w9 (w8.heap.size) lx ly := by subst hWx; exact ⟨by simp [go_sem], by simp [go_sem]⟩
    have x_b16 : Box2 w9 (w8.heap.size + 1) hx hy := by subst hWx; exact ⟨by simp [go_sem], by simp [go_sem]⟩
    clear hWx
    as_aux_lemma =>
    have h_l_8 := h_l_7.up hb_7
    have h_l_9 := h_l_8.up hb_8
    refine (HIM.out _ h_l_9).mono ?_
    rintro e w10 ⟨rfl, hb_9⟩
    have hW_10 := up_trans hW_9 hb_9
    go_wp2_with fail
    generalize hWx : World.alloc w10 _ = w11
    have hb_10 : Below w10.heap.size w10 w11 := by subst hWx; exact below_alloc _ _
    have hW_11 := up_trans hW_10 hb_10
    have x_b18 : Box2 w11 (w10.heap.size) mx my := by subst hWx; exact ⟨by simp [go_sem], by simp [go_sem]⟩
    clear hWx
    have h_l_10 := h_l_9.up hb_9
    have h_l_11 := h_l_10.up hb_10
    refine (HSM.out _ h_l_11).mono ?_
    rintro e w12 ⟨rfl, hb_11⟩
    have hW_12 := up_trans hW_11 hb_11
    go_wp2_with fail
    generalize hWx : World.alloc w12 _ = w13
    have hb_12 : Below w12.heap.size w12 w13 := by subst hWx; exact below_alloc _ _
    have hW_13 := up_trans hW_12 hb_12
    have x_b20 : Box2 w13 (w12.heap.size) mx my := by subst hWx; exact ⟨by simp [go_sem], by simp [go_sem]⟩
    clear hWx
    as_aux_lemma =>
    have h_l_12 := h_l_11.up hb_11
    have h_l_13 := h_l_12.up hb_12
    refine (HIR.out _ h_l_13).mono ?_
    rintro e w14 ⟨rfl, hb_13⟩
    have hW_14 := up_trans hW_13 hb_13
    go_wp2_with fail
    have h_l_14 := h_l_13.up hb_13
    refine (HSR.out _ h_l_14).mono ?_
    rintro e w15 ⟨rfl, hb_14⟩
    have hW_15 := up_trans hW_14 hb_14
    have h_b12_8 := x_b12.up hb_7
    have h_b12_9 := h_b12_8.up hb_8
    have h_b12_10 := h_b12_9.up hb_9
    have h_b12_11 := h_b12_10.up hb_10
    have h_b12_12 := h_b12_11.up hb_11
    have h_b12_13 := h_b12_12.up hb_12
    have h_b12_14 := h_b12_13.up hb_13
    have h_b12_15 := h_b12_14.up hb_14
    have h_b13_8 := x_b13.up hb_7
    have h_b13_9 := h_b13_8.up hb_8
    have h_b13_10 := h_b13_9.up hb_9
    have h_b13_11 := h_b13_10.up hb_10
    have h_b13_12 := h_b13_11.up hb_11
    have h_b13_13 := h_b13_12.up hb_12
    have h_b13_14 := h_b13_13.up hb_13
    have h_b13_15 := h_b13_14.up hb_14
    have h_b15_10 := x_b15.up hb_9
    have h_b15_11 := h_b15_10.up hb_10
    have h_b15_12 := h_b15_11.up hb_11
    have h_b15_13 := h_b15_12.up hb_12
    have h_b15_14 := h_b15_13.up hb_13
    have h_b15_15 := h_b15_14.up hb_14
    have h_b16_10 := x_b16.up hb_9
    have h_b16_11 := h_b16_10.up hb_10
    have h_b16_12 := h_b16_11.up hb_11
    have h_b16_13 := h_b16_12.up hb_12
    have h_b16_14 := h_b16_13.up hb_13
    have h_b16_15 := h_b16_14.up hb_14
    have h_b18_12 := x_b18.up hb_11
    have h_b18_13 := h_b18_12.up hb_12
    have h_b18_14 := h_b18_13.up hb_13
    have h_b18_15 := h_b18_14.up hb_14
    have h_b20_14 := x_b20.up hb_13
    have h_b20_15 := h_b20_14.up hb_14
    have h_l_15 := h_l_14.up hb_14
    have z0_b12 := h_b12_15.c0
    have z1_b12 := h_b12_15.c1
    have z0_b13 := h_b13_15.c0
    have z1_b13 := h_b13_15.c1
    have z0_b15 := h_b15_15.c0
    have z1_b15 := h_b15_15.c1
    have z0_b16 := h_b16_15.c0
    have z1_b16 := h_b16_15.c1
    have z0_b18 := h_b18_15.c0
    have z1_b18 := h_b18_15.c1
    have z0_b20 := h_b20_15.c0
    have z1_b20 := h_b20_15.c1
    have ecb : (cb != cb) = false := by simp
    as_aux_lemma =>
    go_upto_region 15 with fail
    go_cut [165] (fun s wx => s = .bool false ∧ Below w15.heap.size w15 wx)
    case first =>
      as_aux_lemma =>
      go_wp2_with fail
      refine (HIC.out _ h_l_15).mono ?_
      rintro e w1 ⟨rfl, hb1⟩
      go_wp2_with fail
      go_meet
      exact ⟨rfl, hb1⟩
    case rest =>
    obtain ⟨rfl, hb_15⟩ := hcut
    obtain ⟨w16, rfl⟩ : ∃ W : World, W = wc := ⟨_, rfl⟩
    have hW_16 := up_trans hW_15 hb_15
    clear z0_b12 z1_b12 z0_b13 z1_b13 z0_b15 z1_b15 z0_b16 z1_b16 z0_b18 z1_b18 z0_b20 z1_b20
    have h_b15_16 := h_b15_15.up hb_15
    have h_b16_16 := h_b16_15.up hb_15
    have h_b20_16 := h_b20_15.up hb_15
    have h_l_16 := h_l_15.up hb_15
    as_aux_lemma =>
    go_upto_if 166 with fail
    go_cut [27, 28, 29] (fun _ _ _ wx => Below w16.heap.size w16 wx)
    case first =>
      as_aux_lemma =>
      cases cb with
      | false =>
        go_wp2_with fail
        go_meet
        exact Below.refl _ _
      | true =>
        have HL := Lib.hid (HF.out.lows rfl)
        have HM := Lib.hid (HF.out.mids rfl)
        have hone := HF.out.one rfl
        have hn1 := (chartB_iff.1 HF.out.ch).1
        have HCH := Lib.hid HF.out.ch
        have z0 := h_b20_16.c0
        have z1 := h_b20_16.c1
        have HX := Lib.hid (show cat nl X1 (fun _ => mx) nl = mx by unfold cat; rw [if_neg (by omega)])
        have HY := Lib.hid (show cat nl Y1 (fun _ => my) nl = my by unfold cat; rw [if_neg (by omega)])
        obtain ⟨bq, hbq1, hbq2⟩ : ∃ bq, (rm == 0) = bq ∧ ((nl : Int) == 1) = bq := ⟨_, rfl, hone.symm⟩
        have HB1 := Lib.hid hbq1
        have HB2 := Lib.hid hbq2
        clear hbq1 hbq2
        have hl16 := h_l_16
        have HB15 := Lib.hid h_b15_16
        have HB16 := Lib.hid h_b16_16
        have HLS := Lib.hid h_l_16
        clear hone HF HIB HSB HIM HSM HIR HSR HIC HB HU HV
        obtain ⟨Al, cl, rfl, hlc, _⟩ := h_l_16
        as_aux_lemma =>
        go_upto_region 18 with fail
        refine ff_r18 w12.heap.size Al nl cl X1 Y1 mx my w16 _ _ _ _ _ _ _ _ _ _ _ _ _ _ _ _ _ _ _ _ _ _ _ _ _ _ _ _ _ _ _ _ _ _ _ _ _ _ _ _ _ _ _ _ _ _ _ _ _ _ _ _ _ _ _ _ _ _ _ _ _ _ _ _ _ _ _ _ _ _ _ _ _ _ _ _ _ _ _ _ _ _ _ _ _ _ _ _ _ _ _ _ _ _ _ _ _ _ _ _ _ _ _ _ _ _ _ _ _ _ _ _ _ _ _ _ _ _ _ _ _ _ _ _ _ _ _ _ _ _ _ _ _ _ _ _ _ _ _ _ _ _ _ _ _ _ _ _ _ _ _ _ _ _ _ _ _ _ _ _ _ _ _ _ _ _ _ _ _ _ _ _ _ _ _ _ _ _ _ _ _ _ _ _ _ _ _ _ _ _ _ _ _ _ _ _ _ _ _ _ _ _ _ _ _ _ _ _ _ _ _ _ _ _ _ _ _ _ _ _ _ _ _ _ _ _ _ _ _ _ _ _ _ _ _ _ _ _ _ _ _ _ _ _ _ _ _ _ _ _ _ _ _ _ _ _ _ _ _ _ _ hl16 hn1 z0 z1 HX HY ?_
        rintro A9 c9 w9 u167 u168 u169 u170 u171 ho9 hb9
        obtain ⟨A9', c9', e9, _, hr9⟩ := ho9.ownS.spots
        injection e9 with e1 _ e2
        subst e1
        subst e2
        obtain ⟨bA, oA, rfl, hR9⟩ := hr9 (by omega)
        have HR9 := Lib.hid hR9
        clear hr9 hR9 ho9
        as_aux_lemma =>
        go_wp2_with fail
        go_loopw [174] (fun i wr => ∃ k : Nat, k ≤ nl + 1 ∧ i = .int .i64 k ∧ Below w9.heap.size w9 wr) (fun i _ => nl + 1 - (intOf i).toNat)
        case atStart => exact ⟨0, by omega, rfl, Below.refl _ _⟩
        case round =>
          obtain ⟨k, hk, rfl, hbr⟩ := hrel
          have hbs := up_trans hb9 hbr
          by_cases hlt : k < nl + 1
          · have g0 := up_keep hbr (HR9.out k hlt).1
            have g1 := up_keep hbr (HR9.out k hlt).2
            have jk : (k : Int) < (nl : Int) + 1 := by omega
            obtain ⟨xk, yk, ex, ey, b1, b2, b3, b4⟩ : ∃ xk yk, cat nl X1 (fun _ => mx) k = xk ∧ cat nl Y1 (fun _ => my) k = yk ∧ ¬ xk < lx ∧ ¬ yk < ly ∧ ¬ xk > hx ∧ ¬ yk > hy := by
              refine ⟨_, _, rfl, rfl, ?_⟩
              unfold cat
              by_cases h : k < nl
              · have := HL.out k h
                simp only [if_pos h]; omega
              · have := HM.out
                simp only [if_neg h]; omega
            rw [ex] at g0
            rw [ey] at g1
            clear ex ey
            have hbu := up_trans hbs (below_alloc wr (.cells #[.int .i64 xk, .int .i64 yk] 33))
            have l0 := (HB15.out.up hbu).c0
            have l1 := (HB15.out.up hbu).c1
            have h0 := (HB16.out.up hbu).c0
            have h1 := (HB16.out.up hbu).c1
            as_aux_lemma =>
            go_wp2_with fail
            go_roundw
            case rel => exact ⟨k + 1, by omega, by go_num, up_trans hbr (below_alloc _ _)⟩
            case measure => simp [intOf]; omega
          · have ek : k = nl + 1 := by omega
            subst ek
            as_aux_lemma =>
            go_wp2_with fail
            refine (iSpread_100 _ nl X1 Y1 _ (HLS.out.up hbs) (by omega) HCH.out).mono ?_
            rintro e w10 ⟨v10, rfl, ho10, hb10⟩
            have hbq1 := HB1.out
            have hbq2 := HB2.out
            have hbq3 : (bq != bq) = false := by simp
            go_wp2_with fail
            refine (pSame_g _ _ nl X1 Y1 _ ho10.spots (HLS.out.up (up_trans hbs hb10)) (by omega)).mono ?_
            rintro e w11 ⟨rfl, hb11⟩
            go_wp2_with fail
            go_meet
            exact up_trans (up_trans hbs hb10) hb11
    case rest =>
    obtain ⟨w17, rfl⟩ : ∃ W : World, W = wc := ⟨_, rfl⟩
    have hb_16 := hcut
    have hW_17 := up_trans hW_16 hb_16
    clear hcut
    as_aux_lemma =>
    go_wp2_with fail
    refine (drawSpreadForm_g _ m _ (HU.out.up hW_17) hm).mono ?_
    rintro e w18 ⟨tf, nf, X5, Y5, pc, rfl, hf, hnf, hb_17⟩
    have hW_18 := up_trans hW_17 hb_17
    obtain ⟨Af, cf, rfl, _⟩ := hf.shape
    obtain ⟨q5, hq5⟩ : ∃ q, spB nf X5 Y5 pc = q := ⟨_, rfl⟩
    obtain ⟨z5, hz5⟩ : ∃ z, sel q5 nf = z := ⟨_, rfl⟩
    have HPi := Lib.hid (fun W (h : Spots W (.slice Af nf cf) nf X5 Y5) => iSpreadForm_any _ nf X5 Y5 pc W h (by omega))
    have HPs := Lib.hid (fun W (h : Spots W (.slice Af nf cf) nf X5 Y5) => sSpreadForm_any _ nf X5 Y5 pc W h (by omega))
    rw [hq5, hz5] at HPi HPs
    have hs5 := sel_le q5 nf
    rw [hz5] at hs5
    have HZ5 := Lib.hid (show q5 = true → z5 = nf by intro h; rw [h] at hz5; exact hz5.symm)
    have eq5 : (q5 == q5) = true := by simp
    have en5 : ((nf : Int) == (nf : Int)) = true := by simp
    clear hq5 hz5
    go_wp2_with fail
    refine (HPi.out _ hf).mono ?_
    rintro e w19 ⟨ts, rfl, hs, hb_18⟩
    have hW_19 := up_trans hW_18 hb_18
    go_wp2_with fail
    have h_f_19 := hf.up hb_18
    refine (HPs.out _ h_f_19).mono ?_
    rintro e w20 ⟨tr, rfl, hr, hb_19⟩
    have hW_20 := up_trans hW_19 hb_19
    obtain ⟨Ar, cr, rfl, _⟩ := hr.shape
    have h_s_20 := hs.spots.up hb_19
    as_aux_lemma =>
    cases q5 with
    | false =>
      go_wp2_with fail
      refine (pSame_g _ _ _ _ _ _ h_s_20 hr.spots (by omega)).mono ?_
      rintro e w1 ⟨rfl, hb1⟩
      go_wp2_with fail
      go_ret
      exact ⟨rfl, up_trans hW_20 hb1⟩
    | true =>
      have hz := HZ5.out rfl
      subst hz
      go_wp2_with fail
      refine (pSame_g _ _ _ _ _ _ h_s_20 hr.spots (by omega)).mono ?_
      rintro e w1 ⟨rfl, hb1⟩
      go_wp2_with fail
      go_ret
      exact ⟨rfl, up_trans hW_20 hb1⟩

set_option maxRecDepth 100000 in
theorem fnFormChanges_law : LawWalk Try.prog 3 Try.f3 := by
  intro H enc W base args ds ps hval hA
  rw [Try.params3] at hval hA
  obtain ⟨v0, v1, d0, d1, p0, p1, rfl, rfl, rfl, h0, h1⟩ := trodAll_two hA
  obtain ⟨n, hs, hn⟩ := open_bytes (hval 0 _ v0 rfl rfl) h0
  obtain ⟨m, ht, hm⟩ := open_bytes (hval 1 _ v1 rfl rfl) h1
  exact fnFormChanges_walk v0 v1 n m W hs ht hn hm

set_option maxRecDepth 100000 in
set_option maxHeartbeats 4000000 in
theorem fnFormChanges_wit (os : Os) (H : Type) (enc : TypeId × Value → H) : ∃ (w : World) (tape : Tape) (i : Input), w.os = os ∧ (w.forCall tape i).Shaped Try.checked.prog ∧ i.vars = [] ∧ Input.okWide Try.checked.prog (w.forCall tape i) .any w.heap.size 3 i ∧
      Rows.fnFormChangesSpec.pre6 enc Try.checked.prog Try.f3 [] false (w.forCall tape i).memory i.args ∧ ({} : Assume).holds Try.checked.prog (lone (Frame.enter Try.checked.prog 3 i.args .normal) [] (w.forCall tape i)) :=
  ChangeSpec.witness6 (enc := enc) (C := Try.checked) false ⟨#[], #[.slice none 0 0, .slice none 0 0], []⟩ 8 (by kernel_rfl) (by kernel_rfl) (by kernel_rfl) (by kernel_rfl)

set_option maxRecDepth 100000 in
set_option maxHeartbeats 4000000 in
theorem fnFormChanges_row (os : Os) (started : os.Started) (H : Type) (enc : TypeId × Value → H) :
    ReturnsInHanded {} Try.checked os 3 .any (Rows.fnFormChangesSpec.pre6 enc Try.checked.prog Try.f3 [] false) (Rows.fnFormChangesSpec.post enc Try.checked.prog Try.f3 false true false false) :=
  lifted_of (C := Try.checked) (s := Rows.fnFormChangesSpec) (tb := 4) (by kernel_rfl) (by kernel_rfl) (by kernel_rfl) (by kernel_rfl) Try.func3 rfl Try.underlying4 rfl
      (fun H ds h => by
        have h2 : ds.length = 2 := by rw [Try.params3] at h; exact h
        match ds, h2 with
        | [_, _], _ => rfl)
      fnFormChanges_law os started H enc (fnFormChanges_wit os H enc)

set_option maxRecDepth 100000 in
set_option maxHeartbeats 4000000 in
theorem fnFormChanges_holds : Rows.FnFormChangesSaid :=
  OpenClaim.holds_of_wide 3 Try.f3 rfl rfl rfl rfl rfl rfl rfl ⟨rfl, rfl, rfl, rfl, rfl⟩ rfl rfl rfl rfl rfl (by kernel_rfl) Try.func3 (by kernel_rfl)
    (of_decide_eq_true (by kernel_rfl)) (by unfold Func.isWrapper; first | (rw [if_pos (by decide +kernel)]; kernel_rfl) | (rw [if_neg (by decide +kernel)]; exact ⟨rfl, rfl⟩))
    (fun os started H enc _ => fnFormChanges_row os started H enc)

#print axioms fnFormChanges_holds
end Go.Proofs.Ytljbcfgecbonnaa
