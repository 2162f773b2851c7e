/-
  FnForms: for all arguments the law returns true, and its arguments read afterwards as before. No condition.
-/
import Derived.Test.YtljbcfgecbonnaaRows
import Derived.Test.YtljbcfgecbonnaaBase
import Derived.Test.YtljbcfgecbonnaaSpot
import Derived.Test.YtljbcfgecbonnaaSlice
import Derived.Test.YtljbcfgecbonnaaTurned
import Derived.Test.YtljbcfgecbonnaaTrans
import Derived.BigQuiet
import Derived.Test.YtljbcfgecbonnaaCur
import Derived.Test.YtljbcfgecbonnaaDrawP
import Derived.Test.YtljbcfgecbonnaaOpen
import Derived.Test.YtljbcfgecbonnaaAppend
import Derived.Test.YtljbcfgecbonnaaAppendE
import Derived.Test.YtljbcfgecbonnaaForm
import Derived.Test.YtljbcfgecbonnaaSameForm
import Derived.Deep.LoopGhost
import Derived.Deep.Onto
import Derived.Deep.CutRange
import Derived.Deep.DeepCutAuto
import Derived.Deep.RegionHeld3
import Derived.Test.YtljbcfgecbonnaaDrawV
import Derived.Test.YtljbcfgecbonnaaDrawX
import Derived.Test.YtljbcfgecbonnaaDrawW
import Derived.Test.YtljbcfgecbonnaaDrawZ
import Derived.Test.YtljbcfgecbonnaaDrawJ
import Derived.Test.YtljbcfgecbonnaaBytes
import Derived.Test.YtljbcfgecbonnaaLawS
import Derived.Test.YtljbcfgecbonnaaDrawK
import Derived.Test.YtljbcfgecbonnaaQ
import Derived.Test.YtljbcfgecbonnaaPs
import Derived.Test.YtljbcfgecbonnaaLine
import Derived.Test.YtljbcfgecbonnaaLineS
import Derived.Test.YtljbcfgecbonnaaBlock
import Derived.Test.YtljbcfgecbonnaaWedge
import Derived.Test.YtljbcfgecbonnaaPoly
import Derived.Test.YtljbcfgecbonnaaTurn
import Derived.Test.YtljbcfgecbonnaaFoP
import Derived.Test.YtljbcfgecbonnaaFfV
import Derived.Test.YtljbcfgecbonnaaPiece
import Derived.Test.YtljbcfgecbonnaaFoR
namespace Go.Proofs.Ytljbcfgecbonnaa
open Go.RowKit Go.ChangeShapes Go.WideShapes Go.Sort

set_option maxRecDepth 100000 in
set_option maxHeartbeats 16000000 in
theorem fnForms_walk (v u : Value) (n m : Nat) (w : World) (hv : Bytes w v n) (hu : Bytes w u m) (hn : n ≤ 9223372036854775807) (hm : m ≤ 9223372036854775807) :
    Calls Try.prog 5 #[v, u] w (Ans w (.bool true)) := by
  have HV := Lib.hid hv
  have HU := Lib.hid hu
  obtain ⟨Av, cv, rfl, _, _⟩ := hv
  obtain ⟨Au, cu, rfl, _, _⟩ := hu
  have HB := Lib.hid (fun W => big_g Av Au n cv m cu W hn hm)
  go_enter Try.func5, Try.ntmps5
  go_wp2_with fail
  refine (HB.out _).mono ?_
  rintro e wz ⟨q, rfl, _, rfl⟩
  clear HB
  cases q with
  | true =>
    go_wp2_with fail
    go_ret
    exact ⟨rfl, Below.refl _ _⟩
  | false =>
    have hW_0 := Below.refl wz.heap.size wz
    go_wp2_with fail
    refine (drawLineOf_g _ n _ HV.out hn).mono ?_
    rintro e w1 ⟨ax, ay, bx, bz, p, rfl, hb_0⟩
    have hW_1 := up_trans hW_0 hb_0
    obtain ⟨q1, hq1⟩ : ∃ q, lnB ax ay bx bz p = q := ⟨_, rfl⟩
    obtain ⟨z1, hz1⟩ : ∃ z, sel q1 p.toNat = z := ⟨_, rfl⟩
    have HLi := Lib.hid (fun W => iLine_any ax ay bx bz p W)
    have HLs := Lib.hid (fun W => sLine_any ax ay bx bz p W)
    rw [hq1, hz1] at HLi HLs
    have hz12 : z1 ≤ 12 := by
      rw [← hz1]
      cases q1 with
      | false => simp [sel]
      | true => have := (ln_facts hq1).1; simp only [sel, if_true]; omega
    have HQ1 := Lib.hid hq1
    have HZ1 := Lib.hid (show q1 = true → z1 = p.toNat by intro h; rw [h] at hz1; exact hz1.symm)
    have eq1 : (q1 != q1) = false := by simp
    have k0 := (litc0 w1 #[.int .i64 ax, .int .i64 ay] 33)
    clear k0 hq1 hz1
    go_upto_region 4 with fail
    generalize hWx : World.alloc (World.alloc w1 _) _ = w2
    have hb_1 : Below w1.heap.size w1 w2 := by subst hWx; exact (below_alloc _ _).trans ((below_alloc _ _).mono (by simp))
    have hW_2 := up_trans hW_1 hb_1
    have x_b5 : Box2 w2 (w1.heap.size) ax ay := by subst hWx; exact ⟨by simp [go_sem], by simp [go_sem]⟩
    have x_b6 : Box2 w2 (w1.heap.size + 1) bx bz := by subst hWx; exact ⟨by simp [go_sem], by simp [go_sem]⟩
    clear hWx
    have y0_b5 := x_b5.c0
    have y1_b5 := x_b5.c1
    have y0_b6 := x_b6.c0
    have y1_b6 := x_b6.c1
    go_wp2_with fail
    refine (HLi.out _).mono ?_
    rintro e w3 ⟨tl, rfl, hl, hb_2⟩
    have hW_3 := up_trans hW_2 hb_2
    have h_b5_3 := x_b5.up hb_2
    have h_b6_3 := x_b6.up hb_2
    replace y0_b5 := h_b5_3.c0
    replace y1_b5 := h_b5_3.c1
    replace y0_b6 := h_b6_3.c0
    replace y1_b6 := h_b6_3.c1
    go_wp2_with fail
    refine (HLs.out _).mono ?_
    rintro e w4 ⟨tk, rfl, hk, hb_3⟩
    have hW_4 := up_trans hW_3 hb_3
    obtain ⟨Ak, ck, rfl, hkc, _⟩ := id hk
    have h_b5_4 := h_b5_3.up hb_3
    have h_b6_4 := h_b6_3.up hb_3
    have h_l_4 := hl.spots.up hb_3
    clear y0_b5 y1_b5 y0_b6 y1_b6
    as_aux_lemma =>
    go_wp2_with fail
    refine (pSame_g _ _ z1 _ _ _ h_l_4 hk.spots (by omega)).mono ?_
    rintro e w5 ⟨rfl, hb_4⟩
    have hW_5 := up_trans hW_4 hb_4
    have h_b5_5 := h_b5_4.up hb_4
    have h_b6_5 := h_b6_4.up hb_4
    have h_l_5 := h_l_4.up hb_4
    have h_k_5 := hk.spots.up hb_4
    as_aux_lemma =>
    go_upto_region 8 with fail
    refine fo_r8 ax ay bx bz p q1 z1 tl Ak ck w1.heap.size (w1.heap.size + 1) w5 _ _ _ _ _ _ _ _ _ _ _ _ _ _ _ _ _ _ _ _ _ _ _ _ _ _ _ _ _ _ _ _ _ _ _ _ _ _ _ _ _ _ _ _ _ _ _ _ _ _ _ _ _ _ _ _ _ _ _ _ _ _ _ _ _ _ _ _ _ _ _ _ _ _ _ _ _ _ _ _ _ _ _ _ _ _ _ _ _ _ _ _ _ _ _ _ _ _ _ _ _ _ _ _ _ _ _ _ _ _ _ _ _ _ _ _ _ _ _ _ _ _ _ _ _ _ _ _ _ _ _ _ _ _ _ _ _ _ _ _ _ _ _ _ _ _ _ _ _ _ _ _ _ _ _ _ _ _ _ _ _ _ _ _ _ _ _ _ _ _ _ _ _ _ _ _ _ _ _ _ _ _ _ _ _ _ _ _ _ _ _ _ _ _ _ _ _ _ _ _ _ _ _ _ _ _ _ _ _ _ _ _ _ _ _ _ _ _ _ _ _ _ _ _ _ _ _ _ _ _ _ _ _ _ _ _ _ _ _ _ _ _ _ _ _ _ _ _ _ _ _ _ _ _ _ _ _ _ _ _ _ _ _ _ _ _ _ _ _ _ _ _ _ _ _ _ _ _ _ _ _ _ _ _ _ _ _ _ _ _ _ _ _ _ _ _ _ _ _ _ _ _ _ _ _ _ _ _ _ _ _ _ _ _ _ _ _ _ _ _ _ _ _ _ _ _ _ _ _ _ _ _ _ _ _ _ _ _ _ _ _ _ _ _ _ _ _ _ _ _ _ _ _ _ _ _ _ _ _ _ _ h_l_5 h_k_5 h_b5_5 h_b6_5 HQ1 HZ1 hz12 ?_
    rintro w6 u83 u84 u85 u86 u87 u88 u89 u90 u91 u92 u93 u94 u95 u96 u97 u98 u99 u100 u101 u102 u103 u104 u105 u106 u107 u108 u109 u110 u111 u112 u113 hb_5
    have hW_6 := up_trans hW_5 hb_5
    clear HLi HLs HQ1 HZ1 eq1
    as_aux_lemma =>
    go_wp2_with fail
    refine (drawBlockOf_g _ m _ (HU.out.up hW_6) hm).mono ?_
    rintro e w7 ⟨cx, cy, r, f, fx, fy, rfl, hb_6⟩
    have hW_7 := up_trans hW_6 hb_6
    obtain ⟨q2, hq2⟩ : ∃ q, blB cx cy r f fx fy = q := ⟨_, rfl⟩
    obtain ⟨z2, hz2⟩ : ∃ z, sel q2 (r * f).toNat = z := ⟨_, rfl⟩
    have HBi := Lib.hid (fun W => iBlock_any cx cy r f fx fy W)
    have HBs := Lib.hid (fun W => sBlock_any cx cy r f fx fy W)
    rw [hq2, hz2] at HBi HBs
    have hz22 : z2 ≤ 12 := by
      rw [← hz2]
      cases q2 with
      | false => simp [sel]
      | true =>
        have h := hq2
        unfold blB at h
        rw [Bool.and_eq_true] at h
        exact (chartB_iff.1 h.2).1.2
    have HQ2 := Lib.hid hq2
    have HZ2 := Lib.hid (show q2 = true → z2 = (r * f).toNat by intro h; rw [h] at hz2; exact hz2.symm)
    have eq2 : (q2 != q2) = false := by simp
    clear hq2 hz2
    go_upto_region 11 with fail
    generalize hWx : World.alloc w7 _ = w8
    have hb_7 : Below w7.heap.size w7 w8 := by subst hWx; exact below_alloc _ _
    have hW_8 := up_trans hW_7 hb_7
    have x_b12 : Box2 w8 (w7.heap.size) cx cy := by subst hWx; exact ⟨by simp [go_sem], by simp [go_sem]⟩
    clear hWx
    have y0 := x_b12.c0
    have y1 := x_b12.c1
    go_wp2_with fail
    refine (HBi.out _).mono ?_
    rintro e w9 ⟨tb, rfl, hb, hb_8⟩
    have hW_9 := up_trans hW_8 hb_8
    have h_b12_9 := x_b12.up hb_8
    replace y0 := h_b12_9.c0
    replace y1 := h_b12_9.c1
    go_wp2_with fail
    refine (HBs.out _).mono ?_
    rintro e w10 ⟨tc, rfl, hc, hb_9⟩
    have hW_10 := up_trans hW_9 hb_9
    obtain ⟨Ac, cc, rfl, hcc, _⟩ := id hc
    clear y0 y1
    have h_b_10 := hb.spots.up hb_9
    as_aux_lemma =>
    go_wp2_with fail
    refine (pSame_g _ _ z2 _ _ _ h_b_10 hc.spots (by omega)).mono ?_
    rintro e w11 ⟨rfl, hb_10⟩
    have hW_11 := up_trans hW_10 hb_10
    have h_b12_10 := h_b12_9.up hb_9
    have h_b12_11 := h_b12_10.up hb_10
    have h_c_11 := hc.spots.up hb_10
    as_aux_lemma =>
    go_upto_if 150 with fail
    go_cut [21, 22] (fun _ _ wx => Below w11.heap.size w11 wx)
    case first =>
      as_aux_lemma =>
      cases q2 with
      | false =>
        go_wp2_with fail
        go_meet
        exact Below.refl _ _
      | true =>
        obtain ⟨⟨⟨r1, r2⟩, f1, f2⟩, ⟨⟨x1, x2⟩, y1, y2⟩, ⟨a1, a2⟩, b1, b2⟩ := bl_facts HQ2.out
        have hz := HZ2.out rfl
        obtain ⟨R, rfl⟩ : ∃ R : Nat, r = R := ⟨r.toNat, by omega⟩
        obtain ⟨F, rfl⟩ : ∃ F : Nat, f = F := ⟨f.toNat, by omega⟩
        have hmul : wrap64 ((R : Int) * (F : Int)) = (z2 : Int) := by
          rw [hz, show (((((R : Int) * (F : Int)).toNat : Nat)) : Int) = (R : Int) * (F : Int) from Int.toNat_of_nonneg (Int.mul_nonneg (by omega) (by omega))]
          exact IntWalk.wrap64_in _ (by have h1 := mul_bd (a := (R : Int)) (b := (F : Int)) (A := 12) (B := 12) (by omega) (by omega) (by omega) (by omega); omega)
        have HMul := Lib.hid hmul
        clear hz hmul
        obtain ⟨Ac2, cc2, e2, _, hr2⟩ := h_c_11
        injection e2 with e3 _ e4
        subst e3
        subst e4
        have HR2 := Lib.hid hr2
        have HBX := Lib.hid h_b12_11
        clear hr2 HQ2 HZ2 HBi HBs
        as_aux_lemma =>
        have hmul := HMul.out
        have ezz : ((z2 : Int) != (z2 : Int)) = false := by simp
        go_wp2_with fail
        clear hmul ezz
        go_loopw [159] (fun i wr => ∃ k : Nat, k ≤ z2 ∧ i = .int .i64 k ∧ Below w11.heap.size w11 wr) (fun i _ => z2 - (intOf i).toNat)
        case atStart => exact ⟨0, by omega, rfl, Below.refl _ _⟩
        case round =>
          obtain ⟨k, hk, rfl, hbr⟩ := hrel
          by_cases hlt : k < z2
          · obtain ⟨bd, od, rfl, hR2⟩ := HR2.out (by omega)
            have g0 := up_keep hbr (hR2 k hlt).1
            have g1 := up_keep hbr (hR2 k hlt).2
            clear hR2
            simp only [Int.toNat_natCast] at g0 g1
            have jk : (k : Int) < (z2 : Int) := by omega
            obtain ⟨sx, hsx⟩ : ∃ s, blX cx fx F k = s := ⟨_, rfl⟩
            obtain ⟨sy, hsy⟩ : ∃ s, blY cy fy F k = s := ⟨_, rfl⟩
            rw [hsx] at g0
            rw [hsy] at g1
            have HSX := Lib.hid hsx
            have HSY := Lib.hid hsy
            clear hsx hsy
            as_aux_lemma =>
            go_upto_region 21 with fail
            generalize hWx : World.alloc wr _ = wt
            have hbt : Below wr.heap.size wr wt := by subst hWx; exact below_alloc _ _
            have n0 : wt.cell? ⟨wr.heap.size, 0, none⟩ = some (.int .i64 sx) := by subst hWx; simp [go_sem]
            have n1 : wt.cell? ⟨wr.heap.size, 1, none⟩ = some (.int .i64 sy) := by subst hWx; simp [go_sem]
            clear hWx g0 g1
            have hbu := up_trans hbr hbt
            refine fo_r21 cx cy fx fy sx sy F k (w7.heap.size) wr.heap.size wt _ _ _ _ _ _ _ _ _ _ _ _ _ _ _ _ _ _ _ _ _ _ _ _ _ _ _ _ _ _ _ _ _ _ _ _ _ _ _ _ _ _ _ _ _ _ _ _ _ _ _ _ _ _ _ _ _ _ _ _ _ _ _ _ _ _ _ _ _ _ _ _ _ _ _ _ _ _ _ _ _ _ _ _ _ _ _ _ _ _ _ _ _ _ _ _ _ _ _ _ _ _ _ _ _ _ _ _ _ _ _ _ _ _ _ _ _ _ _ _ _ _ _ _ _ _ _ _ _ _ _ _ _ _ _ _ _ _ _ _ _ _ _ _ _ _ _ _ _ _ _ _ _ _ _ _ _ _ _ _ _ _ _ _ _ _ _ _ _ _ _ _ _ _ _ _ _ _ _ _ _ _ _ _ _ _ _ _ _ _ _ _ _ _ _ _ _ _ _ _ _ _ _ _ _ _ _ _ _ _ _ _ _ _ _ _ _ _ _ _ _ _ _ _ _ _ _ _ _ _ _ _ _ _ _ _ _ _ _ _ _ _ _ _ _ _ _ _ _ _ _ _ _ _ _ _ _ _ _ _ _ _ _ _ _ _ _ _ _ _ _ _ _ _ _ _ _ _ _ _ _ _ _ _ _ _ _ _ _ _ _ _ _ _ _ _ _ _ _ _ _ _ _ _ _ _ _ _ _ _ _ _ _ _ _ _ _ _ _ _ _ _ _ _ _ _ _ _ _ _ _ _ _ _ _ _ _ _ _ _ _ _ _ _ _ _ _ _ _ _ _ _ _ _ _ _ _ _ _ _ _ ⟨⟨x1, x2⟩, y1, y2⟩ ⟨a1, a2⟩ ⟨b1, b2⟩ (by omega) (by omega) HSX HSY ⟨n0, n1⟩ (HBX.out.up hbu) ?_
            rintro w0 u164 u165 u166 u167 u168 u169 u170 u171 u172 u173 u174 u175 u176 u177 u178 u179 u180 u181 u182 u183 u184 u185 u186 hb0
            clear n0 n1 HSX HSY
            go_wp2_with fail
            go_roundw
            case rel => exact ⟨k + 1, by omega, by go_num, up_trans hbu hb0⟩
            case measure => simp [intOf]; omega
          · have ek : k = z2 := by omega
            subst ek
            as_aux_lemma =>
            go_wp2_with fail
            go_meet
            exact hbr
    case rest =>
    obtain ⟨w12, rfl⟩ : ∃ W : World, W = wc := ⟨_, rfl⟩
    have hb_11 := hcut
    have hW_12 := up_trans hW_11 hb_11
    clear hcut HBi HBs HQ2 HZ2 eq2
    as_aux_lemma =>
    go_wp2_with fail
    refine (drawWedgeOf_g _ m _ (HU.out.up hW_12) hm).mono ?_
    rintro e w13 ⟨vx, vy, p3, v1, v2, rfl, hb_12⟩
    have hW_13 := up_trans hW_12 hb_12
    obtain ⟨q3, hq3⟩ : ∃ q, weB vx vy p3 v1 v2 = q := ⟨_, rfl⟩
    obtain ⟨z3, hz3⟩ : ∃ z, sel q3 p3.toNat = z := ⟨_, rfl⟩
    have HWi := Lib.hid (fun W => iWedge_any vx vy p3 v1 v2 W)
    have HWs := Lib.hid (fun W => sWedge_any vx vy p3 v1 v2 W)
    rw [hq3, hz3] at HWi HWs
    have hz33 : z3 ≤ 12 ∧ (q3 = true → (z3 : Int) = p3) := by
      rw [← hz3]
      cases q3 with
      | false => simp [sel]
      | true =>
        have h := hq3
        unfold weB weOk at h
        simp only [Bool.and_eq_true, inB_iff] at h
        simp only [sel, if_true]
        omega
    have HZ3 := Lib.hid hz33.2
    have hz34 := hz33.1
    have eq3 : (q3 != q3) = false := by simp
    clear hq3 hz3 hz33
    go_upto_region 25 with fail
    generalize hWx : World.alloc w13 _ = w14
    have hb_13 : Below w13.heap.size w13 w14 := by subst hWx; exact below_alloc _ _
    have hW_14 := up_trans hW_13 hb_13
    have x_b23 : Box2 w14 (w13.heap.size) vx vy := by subst hWx; exact ⟨by simp [go_sem], by simp [go_sem]⟩
    clear hWx
    have y0 := x_b23.c0
    have y1 := x_b23.c1
    go_wp2_with fail
    refine (HWi.out _).mono ?_
    rintro e w15 ⟨td, rfl, hd, hb_14⟩
    have hW_15 := up_trans hW_14 hb_14
    have h_b23_15 := x_b23.up hb_14
    replace y0 := h_b23_15.c0
    replace y1 := h_b23_15.c1
    go_wp2_with fail
    refine (HWs.out _).mono ?_
    rintro e w16 ⟨te, rfl, he, hb_15⟩
    have hW_16 := up_trans hW_15 hb_15
    obtain ⟨Ae, ce, rfl, hec, _⟩ := id he
    clear y0 y1
    as_aux_lemma =>
    go_wp2_with fail
    refine (drawPolyLine_g _ m _ (HU.out.up hW_16) hm).mono ?_
    rintro e w17 ⟨tp, np, PX, PY, p4, rfl, hp, hnp, hb_16⟩
    have hW_17 := up_trans hW_16 hb_16
    obtain ⟨Ap, cp4, rfl, hpc, _⟩ := id hp
    obtain ⟨q4, hq4⟩ : ∃ q, poB np PX PY p4 = q := ⟨_, rfl⟩
    obtain ⟨z4, hz4⟩ : ∃ z, sel q4 p4.toNat = z := ⟨_, rfl⟩
    have HPi := Lib.hid (fun W (h : Spots W (.slice Ap np cp4) np PX PY) => iPolyLine_any _ np PX PY p4 W h (by omega))
    have HPs := Lib.hid (fun W (h : Spots W (.slice Ap np cp4) np PX PY) => sPolyLine_any _ np PX PY p4 W h (by omega))
    rw [hq4, hz4] at HPi HPs
    have hz44 : z4 ≤ 12 := by
      rw [← hz4]
      cases q4 with
      | false => simp [sel]
      | true => have := (po_facts hq4).1; simp only [sel, if_true]; omega
    have HQ4 := Lib.hid hq4
    have HZ4 := Lib.hid (show q4 = true → z4 = p4.toNat by intro h; rw [h] at hz4; exact hz4.symm)
    have eq4 : (q4 != q4) = false := by simp
    clear hq4 hz4
    go_wp2_with fail
    refine (HPi.out _ hp).mono ?_
    rintro e w18 ⟨tx, rfl, hx, hb_17⟩
    have hW_18 := up_trans hW_17 hb_17
    go_wp2_with fail
    have h_p_18 := hp.up hb_17
    refine (HPs.out _ h_p_18).mono ?_
    rintro e w19 ⟨ty, rfl, hy, hb_18⟩
    have hW_19 := up_trans hW_18 hb_18
    obtain ⟨Ay, cy4, rfl, hyc, _⟩ := id hy
    have h_d_16 := hd.spots.up hb_15
    have h_d_17 := h_d_16.up hb_16
    have h_d_18 := h_d_17.up hb_17
    have h_d_19 := h_d_18.up hb_18
    have h_e_17 := he.spots.up hb_16
    have h_e_18 := h_e_17.up hb_17
    have h_e_19 := h_e_18.up hb_18
    have h_x_19 := hx.spots.up hb_18
    as_aux_lemma =>
    go_upto_region 30 with fail
    go_cut [257] (fun s wx => s = .bool false ∧ Below w19.heap.size w19 wx)
    case first =>
      as_aux_lemma =>
      have HD := Lib.hid h_d_19
      have HE := Lib.hid h_e_19
      have HX := Lib.hid h_x_19
      have HY := Lib.hid hy.spots
      cases q3 with
      | false =>
        go_wp2_with fail
        refine (pSame_g _ _ z3 _ _ _ HD.out HE.out (by omega)).mono ?_
        rintro e w1 ⟨rfl, hb1⟩
        go_wp2_with fail
        refine (pSame_g _ _ z4 _ _ _ (HX.out.up hb1) (HY.out.up hb1) (by omega)).mono ?_
        rintro e w2 ⟨rfl, hb2⟩
        go_wp2_with fail
        go_meet
        exact ⟨rfl, up_trans hb1 hb2⟩
      | true =>
        have hz := HZ3.out rfl
        subst hz
        have ezz : ((z3 : Int) != (z3 : Int)) = false := by simp
        go_wp2_with fail
        refine (pSame_g _ _ z3 _ _ _ HD.out HE.out (by omega)).mono ?_
        rintro e w1 ⟨rfl, hb1⟩
        go_wp2_with fail
        refine (pSame_g _ _ z4 _ _ _ (HX.out.up hb1) (HY.out.up hb1) (by omega)).mono ?_
        rintro e w2 ⟨rfl, hb2⟩
        go_wp2_with fail
        go_meet
        exact ⟨rfl, up_trans hb1 hb2⟩
    case rest =>
    obtain ⟨rfl, hb_19⟩ := hcut
    obtain ⟨w20, rfl⟩ : ∃ W : World, W = wc := ⟨_, rfl⟩
    have hW_20 := up_trans hW_19 hb_19
    clear HWi HWs HPi HPs HZ3 eq3
    have h_y_20 := hy.spots.up hb_19
    have h_p_19 := h_p_18.up hb_18
    have h_p_20 := h_p_19.up hb_19
    as_aux_lemma =>
    go_upto_region 32 with fail
    refine fo_r32 p4 q4 z4 np PX PY Ay cy4 Ap cp4 w20 _ _ _ _ _ _ _ _ _ _ _ _ _ _ _ _ _ _ _ _ _ _ _ _ _ _ _ _ _ _ _ _ _ _ _ _ _ _ _ _ _ _ _ _ _ _ _ _ _ _ _ _ _ _ _ _ _ _ _ _ _ _ _ _ _ _ _ _ _ _ _ _ _ _ _ _ _ _ _ _ _ _ _ _ _ _ _ _ _ _ _ _ _ _ _ _ _ _ _ _ _ _ _ _ _ _ _ _ _ _ _ _ _ _ _ _ _ _ _ _ _ _ _ _ _ _ _ _ _ _ _ _ _ _ _ _ _ _ _ _ _ _ _ _ _ _ _ _ _ _ _ _ _ _ _ _ _ _ _ _ _ _ _ _ _ _ _ _ _ _ _ _ _ _ _ _ _ _ _ _ _ _ _ _ _ _ _ _ _ _ _ _ _ _ _ _ _ _ _ _ _ _ _ _ _ _ _ _ _ _ _ _ _ _ _ _ _ _ _ _ _ _ _ _ _ _ _ _ _ _ _ _ _ _ _ _ _ _ _ _ _ _ _ _ _ _ _ _ _ _ _ _ _ _ _ _ _ _ _ _ _ _ _ _ _ _ _ _ _ _ _ _ _ _ _ _ _ _ _ _ _ _ _ _ _ _ _ _ _ _ _ _ _ _ _ _ _ _ _ _ _ _ _ _ _ _ _ _ _ _ _ _ _ _ _ _ _ _ _ _ _ _ _ _ _ _ _ _ _ _ _ _ _ _ _ _ _ _ _ _ _ _ _ _ _ _ _ _ _ _ _ _ _ _ _ _ _ _ _ _ _ _ _ h_y_20 h_p_20 HQ4 HZ4 hz44 ?_
    rintro w21 u258 u259 u260 u261 u262 u263 u264 u265 u266 u267 u268 u269 u270 u271 u272 u273 u274 u275 u276 u277 u278 u279 u280 u281 u282 u283 u284 u285 u286 u287 u288 u289 u290 hb_20
    have hW_21 := up_trans hW_20 hb_20
    clear HQ4 HZ4 eq4
    as_aux_lemma =>
    go_wp2_with fail
    refine (drawTurnForm_g _ m _ (HU.out.up hW_21) hm).mono ?_
    rintro e w22 ⟨tf, nf, FX, FY, p5, rfl, hf, hnf, hb_21⟩
    have hW_22 := up_trans hW_21 hb_21
    obtain ⟨Af, cf, rfl, hfc, _⟩ := id hf
    obtain ⟨q5, hq5⟩ : ∃ q, tuB nf FX FY p5 = q := ⟨_, rfl⟩
    obtain ⟨z5, hz5⟩ : ∃ z, sel q5 nf = z := ⟨_, rfl⟩
    have HTi := Lib.hid (fun W (h : Spots W (.slice Af nf cf) nf FX FY) => iTurnForm_any _ nf FX FY p5 W h (by omega))
    have HTs := Lib.hid (fun W (h : Spots W (.slice Af nf cf) nf FX FY) => sTurnForm_any _ nf FX FY p5 W h (by omega))
    rw [hq5, hz5] at HTi HTs
    have hz55 : z5 ≤ nf := by rw [← hz5]; exact sel_le q5 nf
    have HQ5 := Lib.hid hq5
    have HZ5 := Lib.hid (show q5 = true → z5 = nf by intro h; rw [h] at hz5; exact hz5.symm)
    have eq5 : (q5 != q5) = false := by simp
    clear hq5 hz5
    go_wp2_with fail
    refine (HTi.out _ hf).mono ?_
    rintro e w23 ⟨ti, rfl, hi, hb_22⟩
    have hW_23 := up_trans hW_22 hb_22
    go_wp2_with fail
    have h_f_23 := hf.up hb_22
    refine (HTs.out _ h_f_23).mono ?_
    rintro e w24 ⟨tj, rfl, hj, hb_23⟩
    have hW_24 := up_trans hW_23 hb_23
    obtain ⟨Aj, cj, rfl, hjc, _⟩ := id hj
    have h_i_24 := hi.spots.up hb_23
    as_aux_lemma =>
    go_wp2_with fail
    refine (pSame_g _ _ z5 _ _ _ h_i_24 hj.spots (by omega)).mono ?_
    rintro e w25 ⟨rfl, hb_24⟩
    have hW_25 := up_trans hW_24 hb_24
    have h_f_24 := h_f_23.up hb_23
    have h_f_25 := h_f_24.up hb_24
    have h_j_25 := hj.spots.up hb_24
    as_aux_lemma =>
    cases q5 with
    | false =>
      go_wp2_with fail
      go_ret
      exact ⟨rfl, hW_25⟩
    | true =>
      have hz := HZ5.out rfl
      subst hz
      obtain ⟨ch1, ch2⟩ := tu_facts HQ5.out
      have HS1 := Lib.hid (chartB_iff.1 ch1).2.1
      have HS2 := Lib.hid (chartB_iff.1 ch2).2.1
      have HSQ := Lib.hid (fun i j => tu_sq FX FY (rd (sumN FX z5) z5) (rd (sumN FY z5) z5) p5.toNat i j)
      obtain ⟨b1, c1⟩ := (chartB_iff.1 ch1).1
      obtain ⟨Aj2, cj2, e2, _, hr2⟩ := h_j_25
      injection e2 with e3 _ e4
      subst e3
      subst e4
      obtain ⟨bj, oj, rfl, hR2⟩ := hr2 (by omega)
      obtain ⟨Af2, cf2, e2, _, hr3⟩ := h_f_25
      injection e2 with e3 _ e4
      subst e3
      subst e4
      obtain ⟨bf, of, rfl, hR3⟩ := hr3 (by omega)
      have HR2 := Lib.hid hR2
      have HR3 := Lib.hid hR3
      clear hR2 hR3 hr2 hr3 ch1 ch2 HTi HTs HQ5 HZ5 HV HU
      generalize tuX FX FY (rd (sumN FX z5) z5) (rd (sumN FY z5) z5) p5.toNat = TX at *
      generalize tuY FX FY (rd (sumN FX z5) z5) (rd (sumN FY z5) z5) p5.toNat = TY at *
      as_aux_lemma =>
      go_wp2_with fail
      go_loopw [321] (fun i wr => ∃ k : Nat, k ≤ z5 ∧ i = .int .i64 k ∧ Below w25.heap.size w25 wr) (fun i _ => z5 - (intOf i).toNat)
      case atStart => exact ⟨0, by omega, rfl, Below.refl _ _⟩
      case round =>
        obtain ⟨k, hk, rfl, hbr⟩ := hrel
        obtain ⟨wo, rfl⟩ : ∃ W : World, W = wr := ⟨_, rfl⟩
        by_cases hlt : k < z5
        · have g0 := up_keep hbr (HR2.out k hlt).1
          have g1 := up_keep hbr (HR2.out k hlt).2
          have jk : (k : Int) < (z5 : Int) := by omega
          have s1 := HS1.out k hlt
          have s2 := HS2.out k hlt
          as_aux_lemma =>
          go_upto_region 43 with fail
          generalize hWx : World.alloc wo _ = wt
          have hbt : Below wo.heap.size wo wt := by subst hWx; exact below_alloc _ _
          have HBS := Lib.hid (show Box2 wt wo.heap.size (TX k) (TY k) by subst hWx; exact ⟨by simp [go_sem], by simp [go_sem]⟩)
          clear hWx g0 g1
          have hbu := up_trans hbr hbt
          have jkc : (k : Int) ≤ (cj : Int) := by omega
          have jk0 : (0 : Int) ≤ (k : Int) := by omega
          go_wp2_with fail
          go_loopw [330] (fun i wr => ∃ l : Nat, l ≤ k ∧ i = .int .i64 l ∧ Below wt.heap.size wt wr) (fun i _ => k - (intOf i).toNat)
          case atStart => exact ⟨0, by omega, rfl, Below.refl _ _⟩
          case round =>
            obtain ⟨l, hl, rfl, hbl⟩ := hrel
            have hbz := up_trans hbu hbl
            by_cases hlk : l < k
            · have hln : l < z5 := by omega
              have g0 := up_keep hbz (HR2.out l hln).1
              have g1 := up_keep hbz (HR2.out l hln).2
              have jl : (l : Int) < (k : Int) := by omega
              have jlz : (l : Int) < (z5 : Int) := by omega
              have s3 := HS1.out l hln
              have s4 := HS2.out l hln
              have HQ1 := Lib.hid (fun W => iSquareOf_any _ _ _ _ s2 s4 W)
              have HQ2 := Lib.hid (fun W => iSquareOf_any _ _ _ _ s1 s3 W)
              rw [HSQ.out k l] at HQ1
              obtain ⟨z, hz⟩ : ∃ z, sq (FX k) (FY k) (FX l) (FY l) = z := ⟨_, rfl⟩
              rw [hz] at HQ1 HQ2
              clear hz s1 s2 s3 s4
              have ezz : (z != z) = false := by simp
              as_aux_lemma =>
              go_upto_region 46 with fail
              generalize hWx : World.alloc wr _ = wv
              have hbv : Below wr.heap.size wr wv := by subst hWx; exact below_alloc _ _
              have m0 : wv.cell? ⟨wr.heap.size, 0, none⟩ = some (.int .i64 (TX l)) := by subst hWx; simp [go_sem]
              have m1 : wv.cell? ⟨wr.heap.size, 1, none⟩ = some (.int .i64 (TY l)) := by subst hWx; simp [go_sem]
              clear hWx g0 g1
              have hbzv := up_trans hbz hbv
              have n0 := (HBS.out.up (up_trans hbl hbv)).c0
              have n1 := (HBS.out.up (up_trans hbl hbv)).c1
              go_wp2_with fail
              refine (HQ1.out _).mono ?_
              rintro e wx ⟨rfl, hbx⟩
              have hbzx := up_trans hbzv hbx
              clear m0 m1 n0 n1
              as_aux_lemma =>
              go_upto_region 47 with fail
              refine fo_r47 z _ _ _ _ k l z5 bf of _ wx _ _ _ _ _ _ _ _ _ _ _ _ _ _ _ _ _ _ _ _ _ _ _ _ _ _ _ _ _ _ _ _ _ _ _ _ _ _ _ _ _ _ _ _ _ _ _ _ _ _ _ _ _ _ _ _ _ _ _ _ _ _ _ _ _ _ _ _ _ _ _ _ _ _ _ _ _ _ _ _ _ _ _ _ _ _ _ _ _ _ _ _ _ _ _ _ _ _ _ _ _ _ _ _ _ _ _ _ _ _ _ _ _ _ _ _ _ _ _ _ _ _ _ _ _ _ _ _ _ _ _ _ _ _ _ _ _ _ _ _ _ _ _ _ _ _ _ _ _ _ _ _ _ _ _ _ _ _ _ _ _ _ _ _ _ _ _ _ _ _ _ _ _ _ _ _ _ _ _ _ _ _ _ _ _ _ _ _ _ _ _ _ _ _ _ _ _ _ _ _ _ _ _ _ _ _ _ _ _ _ _ _ _ _ _ _ _ _ _ _ _ _ _ _ _ _ _ _ _ _ _ _ _ _ _ _ _ _ _ _ _ _ _ _ _ _ _ _ _ _ _ _ _ _ _ _ _ _ _ _ _ _ _ _ _ _ _ _ _ _ _ _ _ _ _ _ _ _ _ _ _ _ _ _ _ _ _ _ _ _ _ _ _ _ _ _ _ _ _ _ _ _ _ _ _ _ _ _ _ _ _ _ _ _ _ _ _ _ _ _ _ _ _ _ _ _ _ _ _ _ _ _ _ _ _ _ _ _ _ _ _ _ _ _ _ _ _ _ _ _ _ _ _ _ _ _ _ _ _ _ _ _ _ _ HQ2 jk jlz (up_keep hbzx (HR3.out k hlt).1) (up_keep hbzx (HR3.out k hlt).2) (up_keep hbzx (HR3.out l hln).1) (up_keep hbzx (HR3.out l hln).2) ?_
              rintro w0 u341 u342 u343 u344 u345 u346 u347 u348 u349 u350 u351 u352 hb0
              go_wp2_with fail
              go_roundw
              case rel => exact ⟨l + 1, by omega, by go_num, up_trans (up_trans (up_trans hbl hbv) hbx) hb0⟩
              case measure => simp [intOf]; omega
            · have el : l = k := by omega
              subst el
              as_aux_lemma =>
              go_wp2_with fail
              go_roundw
              case rel => exact ⟨l + 1, by omega, by go_num, hbz⟩
              case measure => simp [intOf]; omega
        · have ek : k = z5 := by omega
          subst ek
          as_aux_lemma =>
          go_wp2_with fail
          go_ret
          exact ⟨rfl, up_trans hW_25 hbr⟩

set_option maxRecDepth 100000 in
theorem fnForms_law : LawWalk Try.prog 5 Try.f5 := by
  intro H enc W base args ds ps hval hA
  rw [Try.params5] at hval hA
  obtain ⟨v0, v1, d0, d1, p0, p1, rfl, rfl, rfl, h0, h1⟩ := trodAll_two hA
  obtain ⟨n, hs, hn⟩ := open_bytes (hval 0 _ v0 rfl rfl) h0
  obtain ⟨m, ht, hm⟩ := open_bytes (hval 1 _ v1 rfl rfl) h1
  exact fnForms_walk v0 v1 n m W hs ht hn hm

set_option maxRecDepth 100000 in
set_option maxHeartbeats 4000000 in
theorem fnForms_wit (os : Os) (H : Type) (enc : TypeId × Value → H) : ∃ (w : World) (tape : Tape) (i : Input), w.os = os ∧ (w.forCall tape i).Shaped Try.checked.prog ∧ i.vars = [] ∧ Input.okWide Try.checked.prog (w.forCall tape i) .any w.heap.size 5 i ∧
      Rows.fnFormsSpec.pre6 enc Try.checked.prog Try.f5 [] false (w.forCall tape i).memory i.args ∧ ({} : Assume).holds Try.checked.prog (lone (Frame.enter Try.checked.prog 5 i.args .normal) [] (w.forCall tape i)) :=
  ChangeSpec.witness6 (enc := enc) (C := Try.checked) false ⟨#[], #[.slice none 0 0, .slice none 0 0], []⟩ 8 (by kernel_rfl) (by kernel_rfl) (by kernel_rfl) (by kernel_rfl)

set_option maxRecDepth 100000 in
set_option maxHeartbeats 4000000 in
theorem fnForms_row (os : Os) (started : os.Started) (H : Type) (enc : TypeId × Value → H) :
    ReturnsInHanded {} Try.checked os 5 .any (Rows.fnFormsSpec.pre6 enc Try.checked.prog Try.f5 [] false) (Rows.fnFormsSpec.post enc Try.checked.prog Try.f5 false true false false) :=
  lifted_of (C := Try.checked) (s := Rows.fnFormsSpec) (tb := 4) (by kernel_rfl) (by kernel_rfl) (by kernel_rfl) (by kernel_rfl) Try.func5 rfl Try.underlying4 rfl
      (fun H ds h => by
        have h2 : ds.length = 2 := by rw [Try.params5] at h; exact h
        match ds, h2 with
        | [_, _], _ => rfl)
      fnForms_law os started H enc (fnForms_wit os H enc)

set_option maxRecDepth 100000 in
set_option maxHeartbeats 4000000 in
theorem fnForms_holds : Rows.FnFormsSaid :=
  OpenClaim.holds_of_wide 5 Try.f5 rfl rfl rfl rfl rfl rfl rfl ⟨rfl, rfl, rfl, rfl, rfl⟩ rfl rfl rfl rfl rfl (by kernel_rfl) Try.func5 (by kernel_rfl)
    (of_decide_eq_true (by kernel_rfl)) (by unfold Func.isWrapper; first | (rw [if_pos (by decide +kernel)]; kernel_rfl) | (rw [if_neg (by decide +kernel)]; exact ⟨rfl, rfl⟩))
    (fun os started H enc _ => fnForms_row os started H enc)

#print axioms fnForms_holds
end Go.Proofs.Ytljbcfgecbonnaa
