/-
  FnApart: for all arguments the law returns true, and its arguments read afterwards as before. No condition.
-/
import Derived.Test.YtljdhicmcmppgaaRows
import Derived.Test.YtljdhicmcmppgaaBase
import Derived.Test.YtljdhicmcmppgaaSpot
import Derived.Test.YtljdhicmcmppgaaSlice
import Derived.Test.YtljdhicmcmppgaaTurned
import Derived.Test.YtljdhicmcmppgaaTrans
import Derived.BigQuiet
import Derived.Test.YtljdhicmcmppgaaCur
import Derived.Test.YtljdhicmcmppgaaDrawP
import Derived.Test.YtljdhicmcmppgaaOpen
import Derived.Deep.LoopGhost
import Derived.Deep.Onto
import Derived.Deep.CutRange
import Derived.Deep.DeepCutAuto
import Derived.Test.YtljdhicmcmppgaaPiece
import Derived.Test.YtljdhicmcmppgaaQ
import Derived.Test.YtljdhicmcmppgaaLawS
import Derived.Test.YtljdhicmcmppgaaApQ
import Derived.Test.YtljdhicmcmppgaaDrawT2
import Derived.Test.YtljdhicmcmppgaaApR
namespace Go.Proofs.Ytljdhicmcmppgaa
open Go.RowKit Go.ChangeShapes Go.WideShapes Go.Sort

set_option maxRecDepth 100000 in
set_option maxHeartbeats 16000000 in
theorem fnApart_walk (vv uu : Value) (n m : Nat) (w0 : World) (hv : Bytes w0 vv n) (hu : Bytes w0 uu m) (hn : n ≤ 9223372036854775807) (hm : m ≤ 9223372036854775807) :
    Calls Try.prog 3 #[vv, uu] w0 (Ans w0 (.bool true)) := by
  obtain ⟨z, hz⟩ : ∃ z, IntKind.i64.wrap ((n : Int) + m) = z := ⟨_, rfl⟩
  have HV := Lib.hid hv
  have HU := Lib.hid hu
  obtain ⟨Av, cv, rfl, _, _⟩ := hv
  obtain ⟨Au, cu, rfl, _, _⟩ := hu
  by_cases hz1 : z > 1048576
  · go_enter Try.func3, Try.ntmps3
    go_wp2_with fail
    go_ret
    exact ⟨rfl, Below.refl _ _⟩
  go_enter Try.func3, Try.ntmps3
  have hW_0 := Below.refl w0.heap.size w0
  go_wp2_with fail
  refine (drawLeastApart_g _ n _ HV.out hn).mono ?_
  rintro e w1 ⟨x, y, u, v, c, x', y', u', v', c', rfl, hb_0⟩
  have hW_1 := up_trans hW_0 hb_0
  obtain ⟨q, hq⟩ : ∃ q, togB x y u v c x' y' u' v' c' = q := ⟨_, rfl⟩
  obtain ⟨tp, htp⟩ : ∃ t, (if q then (apM x y u v x' y' u' v').1 else 0) = t := ⟨_, rfl⟩
  obtain ⟨bp, hbp⟩ : ∃ t, (if q then (apM x y u v x' y' u' v').2 else 0) = t := ⟨_, rfl⟩
  obtain ⟨tt, htt⟩ : ∃ t, (if q then (ctM x y u v x' y' u' v' c).1 else 0) = t := ⟨_, rfl⟩
  obtain ⟨tz, htz⟩ : ∃ t, (if q then (ctM x y u v x' y' u' v' c).2 else 0) = t := ⟨_, rfl⟩
  have HLi := Lib.hid (fun W => iLeastApart_any x y u v c x' y' u' v' c' W)
  have HLs := Lib.hid (fun W => sLeastApart_any x y u v c x' y' u' v' c' W)
  have HTi := Lib.hid (fun W => iClosestTime_any x y u v c x' y' u' v' c' W)
  have HTs := Lib.hid (fun W => sClosestTime_any x y u v c x' y' u' v' c' W)
  unfold ctV at HTi HTs
  rw [lapV_eq] at HLi HLs
  rw [hq] at HLi HLs HTi HTs
  rw [htp, hbp] at HLi HLs
  rw [htt, htz] at HTi HTs
  have HQ := Lib.hid hq
  have HF := Lib.hid (And.intro (And.intro htp hbp) (And.intro htt htz))
  clear hq htp hbp htt htz
  go_upto_region 4 with fail
  generalize hWx : World.alloc (World.alloc w1 _) _ = w2
  have hb_1 : Below w1.heap.size w1 w2 := by subst hWx; exact (below_alloc _ _).trans ((below_alloc _ _).mono (by simp))
  have hW_2 := up_trans hW_1 hb_1
  have k_a_2 : MC w2 (w1.heap.size) x y u v c := by subst hWx; exact ⟨by simp [go_sem], by simp [go_sem], by simp [go_sem], by simp [go_sem], by simp [go_sem]⟩
  have k_b_2 : MC w2 (w1.heap.size + 1) x' y' u' v' c' := by subst hWx; exact ⟨by simp [go_sem], by simp [go_sem], by simp [go_sem], by simp [go_sem], by simp [go_sem]⟩
  clear hWx
  have i0 := k_a_2.c0
  have i1 := k_a_2.c1
  have i2 := k_a_2.c2
  have i3 := k_a_2.c3
  have i4 := k_a_2.c4
  have j0 := k_b_2.c0
  have j1 := k_b_2.c1
  have j2 := k_b_2.c2
  have j3 := k_b_2.c3
  have j4 := k_b_2.c4
  go_wp2_with fail
  refine (HLi.out _).mono ?_
  rintro e w3 ⟨rfl, hb_2⟩
  clear i0 i1 i2 i3 i4 j0 j1 j2 j3 j4
  have hW_3 := up_trans hW_2 hb_2
  have k_a_3 := k_a_2.up hb_2
  clear k_a_2
  have k_b_3 := k_b_2.up hb_2
  clear k_b_2
  have i0 := k_a_3.c0
  have i1 := k_a_3.c1
  have i2 := k_a_3.c2
  have i3 := k_a_3.c3
  have i4 := k_a_3.c4
  have j0 := k_b_3.c0
  have j1 := k_b_3.c1
  have j2 := k_b_3.c2
  have j3 := k_b_3.c3
  have j4 := k_b_3.c4
  go_wp2_with fail
  refine (HLs.out _).mono ?_
  rintro e w4 ⟨rfl, hb_3⟩
  clear i0 i1 i2 i3 i4 j0 j1 j2 j3 j4
  have hW_4 := up_trans hW_3 hb_3
  have k_a_4 := k_a_3.up hb_3
  clear k_a_3
  have k_b_4 := k_b_3.up hb_3
  clear k_b_3
  as_aux_lemma =>
  have i0 := k_a_4.c0
  have i1 := k_a_4.c1
  have i2 := k_a_4.c2
  have i3 := k_a_4.c3
  have i4 := k_a_4.c4
  have j0 := k_b_4.c0
  have j1 := k_b_4.c1
  have j2 := k_b_4.c2
  have j3 := k_b_4.c3
  have j4 := k_b_4.c4
  go_wp2_with fail
  refine (HTi.out _).mono ?_
  rintro e w5 ⟨rfl, hb_4⟩
  clear i0 i1 i2 i3 i4 j0 j1 j2 j3 j4
  have hW_5 := up_trans hW_4 hb_4
  have k_a_5 := k_a_4.up hb_4
  clear k_a_4
  have k_b_5 := k_b_4.up hb_4
  clear k_b_4
  have i0 := k_a_5.c0
  have i1 := k_a_5.c1
  have i2 := k_a_5.c2
  have i3 := k_a_5.c3
  have i4 := k_a_5.c4
  have j0 := k_b_5.c0
  have j1 := k_b_5.c1
  have j2 := k_b_5.c2
  have j3 := k_b_5.c3
  have j4 := k_b_5.c4
  go_wp2_with fail
  refine (HTs.out _).mono ?_
  rintro e w6 ⟨rfl, hb_5⟩
  clear i0 i1 i2 i3 i4 j0 j1 j2 j3 j4
  have hW_6 := up_trans hW_5 hb_5
  have k_a_6 := k_a_5.up hb_5
  clear k_a_5
  have k_b_6 := k_b_5.up hb_5
  clear k_b_5
  clear HLi HLs HTi HTs
  as_aux_lemma =>
  go_wp2_with fail
  refine (drawStayApart_g _ m _ (HU.out.up hW_6) hm).mono ?_
  rintro e w7 ⟨x1, y1, u1, v1, c1, x1', y1', u1', v1', c1', d, rfl, hb_6⟩
  have hW_7 := up_trans hW_6 hb_6
  have k_a_7 := k_a_6.up hb_6
  clear k_a_6
  have k_b_7 := k_b_6.up hb_6
  clear k_b_6
  obtain ⟨q3, hq3⟩ : ∃ q, saOk x1 y1 u1 v1 c1 x1' y1' u1' v1' c1' d = q := ⟨_, rfl⟩
  obtain ⟨s, hs⟩ : ∃ s, (saOk x1 y1 u1 v1 c1 x1' y1' u1' v1' c1' d && saB x1 y1 u1 v1 x1' y1' u1' v1' d) = s := ⟨_, rfl⟩
  obtain ⟨nn, hnn⟩ : ∃ t, ccN x1 y1 u1 v1 c1 x1' y1' u1' v1' c1' d = t := ⟨_, rfl⟩
  have hn65 : nn ≤ 65 := by rw [← hnn]; exact ccN_le x1 y1 u1 v1 c1 x1' y1' u1' v1' c1' d
  have HSi := Lib.hid (fun W => iStayApart_any x1 y1 u1 v1 c1 x1' y1' u1' v1' c1' d W)
  have HSs := Lib.hid (fun W => sStayApart_any x1 y1 u1 v1 c1 x1' y1' u1' v1' c1' d W)
  have HCi := Lib.hid (fun W => iCloseC_any x1 y1 u1 v1 c1 x1' y1' u1' v1' c1' d W)
  have HCs := Lib.hid (fun W => sCloseC_any x1 y1 u1 v1 c1 x1' y1' u1' v1' c1' d W)
  unfold saV at HSi HSs
  rw [hs, hq3] at HSi HSs
  rw [show ccOk x1 y1 u1 v1 c1 x1' y1' u1' v1' c1' d = q3 from hq3, hnn] at HCi HCs
  have HQ3 := Lib.hid hq3
  have HS := Lib.hid hs
  have HN := Lib.hid hnn
  clear hq3 hs hnn
  go_upto_region 9 with fail
  generalize hWx : World.alloc (World.alloc w7 _) _ = w8
  have hb_7 : Below w7.heap.size w7 w8 := by subst hWx; exact (below_alloc _ _).trans ((below_alloc _ _).mono (by simp))
  have hW_8 := up_trans hW_7 hb_7
  have k_a_8 := k_a_7.up hb_7
  clear k_a_7
  have k_b_8 := k_b_7.up hb_7
  clear k_b_7
  have k_c_8 : MC w8 (w7.heap.size) x1 y1 u1 v1 c1 := by subst hWx; exact ⟨by simp [go_sem], by simp [go_sem], by simp [go_sem], by simp [go_sem], by simp [go_sem]⟩
  have k_d_8 : MC w8 (w7.heap.size + 1) x1' y1' u1' v1' c1' := by subst hWx; exact ⟨by simp [go_sem], by simp [go_sem], by simp [go_sem], by simp [go_sem], by simp [go_sem]⟩
  clear hWx
  have i0 := k_c_8.c0
  have i1 := k_c_8.c1
  have i2 := k_c_8.c2
  have i3 := k_c_8.c3
  have i4 := k_c_8.c4
  have j0 := k_d_8.c0
  have j1 := k_d_8.c1
  have j2 := k_d_8.c2
  have j3 := k_d_8.c3
  have j4 := k_d_8.c4
  go_wp2_with fail
  refine (HSi.out _).mono ?_
  rintro e w9 ⟨rfl, hb_8⟩
  clear i0 i1 i2 i3 i4 j0 j1 j2 j3 j4
  have hW_9 := up_trans hW_8 hb_8
  have k_a_9 := k_a_8.up hb_8
  clear k_a_8
  have k_b_9 := k_b_8.up hb_8
  clear k_b_8
  have k_c_9 := k_c_8.up hb_8
  clear k_c_8
  have k_d_9 := k_d_8.up hb_8
  clear k_d_8
  have i0 := k_c_9.c0
  have i1 := k_c_9.c1
  have i2 := k_c_9.c2
  have i3 := k_c_9.c3
  have i4 := k_c_9.c4
  have j0 := k_d_9.c0
  have j1 := k_d_9.c1
  have j2 := k_d_9.c2
  have j3 := k_d_9.c3
  have j4 := k_d_9.c4
  go_wp2_with fail
  refine (HSs.out _).mono ?_
  rintro e w10 ⟨rfl, hb_9⟩
  clear i0 i1 i2 i3 i4 j0 j1 j2 j3 j4
  have hW_10 := up_trans hW_9 hb_9
  have k_a_10 := k_a_9.up hb_9
  clear k_a_9
  have k_b_10 := k_b_9.up hb_9
  clear k_b_9
  have k_c_10 := k_c_9.up hb_9
  clear k_c_9
  have k_d_10 := k_d_9.up hb_9
  clear k_d_9
  as_aux_lemma =>
  have i0 := k_c_10.c0
  have i1 := k_c_10.c1
  have i2 := k_c_10.c2
  have i3 := k_c_10.c3
  have i4 := k_c_10.c4
  have j0 := k_d_10.c0
  have j1 := k_d_10.c1
  have j2 := k_d_10.c2
  have j3 := k_d_10.c3
  have j4 := k_d_10.c4
  go_wp2_with fail
  refine (HCi.out _).mono ?_
  rintro e w11 ⟨x26, rfl, h26, hb_10⟩
  clear i0 i1 i2 i3 i4 j0 j1 j2 j3 j4
  have hW_11 := up_trans hW_10 hb_10
  have k_a_11 := k_a_10.up hb_10
  clear k_a_10
  have k_b_11 := k_b_10.up hb_10
  clear k_b_10
  have k_c_11 := k_c_10.up hb_10
  clear k_c_10
  have k_d_11 := k_d_10.up hb_10
  clear k_d_10
  have k_26_11 := h26.ints
  clear h26
  have i0 := k_c_11.c0
  have i1 := k_c_11.c1
  have i2 := k_c_11.c2
  have i3 := k_c_11.c3
  have i4 := k_c_11.c4
  have j0 := k_d_11.c0
  have j1 := k_d_11.c1
  have j2 := k_d_11.c2
  have j3 := k_d_11.c3
  have j4 := k_d_11.c4
  go_wp2_with fail
  refine (HCs.out _).mono ?_
  rintro e w12 ⟨x28, rfl, h28, hb_11⟩
  clear i0 i1 i2 i3 i4 j0 j1 j2 j3 j4
  have hW_12 := up_trans hW_11 hb_11
  have k_a_12 := k_a_11.up hb_11
  clear k_a_11
  have k_b_12 := k_b_11.up hb_11
  clear k_b_11
  have k_c_12 := k_c_11.up hb_11
  clear k_c_11
  have k_d_12 := k_d_11.up hb_11
  clear k_d_11
  have k_26_12 := k_26_11.up hb_11
  clear k_26_11
  obtain ⟨A28, c28, rfl, _, _⟩ := id h28
  have k_28_12 := h28.ints
  clear h28
  clear HSi HSs HCi HCs
  as_aux_lemma =>
  go_wp2_with fail
  refine (drawApartAt_g _ m _ (HU.out.up hW_12) hm).mono ?_
  rintro e w13 ⟨x2, y2, u2, v2, c2, x2', y2', u2', v2', c2', z2, rfl, hb_12⟩
  have hW_13 := up_trans hW_12 hb_12
  have k_a_13 := k_a_12.up hb_12
  clear k_a_12
  have k_b_13 := k_b_12.up hb_12
  clear k_b_12
  have k_c_13 := k_c_12.up hb_12
  clear k_c_12
  have k_d_13 := k_d_12.up hb_12
  clear k_d_12
  have k_26_13 := k_26_12.up hb_12
  clear k_26_12
  have k_28_13 := k_28_12.up hb_12
  clear k_28_12
  have HAi := Lib.hid (fun W => iApartAt_any x2 y2 u2 v2 c2 x2' y2' u2' v2' c2' z2 W)
  have HAs := Lib.hid (fun W => sApartAt_any x2 y2 u2 v2 c2 x2' y2' u2' v2' c2' z2 W)
  obtain ⟨ua, va, q7, hq7⟩ : ∃ ua va q, aaV x2 y2 u2 v2 c2 x2' y2' u2' v2' c2' z2 = .tuple #[.int .i64 ua, .int .i64 va, .bool q] := ⟨_, _, _, rfl⟩
  rw [hq7] at HAi HAs
  clear hq7
  go_upto_region 14 with fail
  generalize hWx : World.alloc (World.alloc w13 _) _ = w14
  have hb_13 : Below w13.heap.size w13 w14 := by subst hWx; exact (below_alloc _ _).trans ((below_alloc _ _).mono (by simp))
  have hW_14 := up_trans hW_13 hb_13
  have k_a_14 := k_a_13.up hb_13
  clear k_a_13
  have k_b_14 := k_b_13.up hb_13
  clear k_b_13
  have k_c_14 := k_c_13.up hb_13
  clear k_c_13
  have k_d_14 := k_d_13.up hb_13
  clear k_d_13
  have k_26_14 := k_26_13.up hb_13
  clear k_26_13
  have k_28_14 := k_28_13.up hb_13
  clear k_28_13
  have k_e_14 : MC w14 (w13.heap.size) x2 y2 u2 v2 c2 := by subst hWx; exact ⟨by simp [go_sem], by simp [go_sem], by simp [go_sem], by simp [go_sem], by simp [go_sem]⟩
  have k_f_14 : MC w14 (w13.heap.size + 1) x2' y2' u2' v2' c2' := by subst hWx; exact ⟨by simp [go_sem], by simp [go_sem], by simp [go_sem], by simp [go_sem], by simp [go_sem]⟩
  clear hWx
  have i0 := k_e_14.c0
  have i1 := k_e_14.c1
  have i2 := k_e_14.c2
  have i3 := k_e_14.c3
  have i4 := k_e_14.c4
  have j0 := k_f_14.c0
  have j1 := k_f_14.c1
  have j2 := k_f_14.c2
  have j3 := k_f_14.c3
  have j4 := k_f_14.c4
  go_wp2_with fail
  refine (HAi.out _).mono ?_
  rintro e w15 ⟨rfl, hb_14⟩
  clear i0 i1 i2 i3 i4 j0 j1 j2 j3 j4
  have hW_15 := up_trans hW_14 hb_14
  have k_a_15 := k_a_14.up hb_14
  clear k_a_14
  have k_b_15 := k_b_14.up hb_14
  clear k_b_14
  have k_c_15 := k_c_14.up hb_14
  clear k_c_14
  have k_d_15 := k_d_14.up hb_14
  clear k_d_14
  have k_26_15 := k_26_14.up hb_14
  clear k_26_14
  have k_28_15 := k_28_14.up hb_14
  clear k_28_14
  have k_e_15 := k_e_14.up hb_14
  clear k_e_14
  have k_f_15 := k_f_14.up hb_14
  clear k_f_14
  have i0 := k_e_15.c0
  have i1 := k_e_15.c1
  have i2 := k_e_15.c2
  have i3 := k_e_15.c3
  have i4 := k_e_15.c4
  have j0 := k_f_15.c0
  have j1 := k_f_15.c1
  have j2 := k_f_15.c2
  have j3 := k_f_15.c3
  have j4 := k_f_15.c4
  go_wp2_with fail
  refine (HAs.out _).mono ?_
  rintro e w16 ⟨rfl, hb_15⟩
  clear i0 i1 i2 i3 i4 j0 j1 j2 j3 j4
  have hW_16 := up_trans hW_15 hb_15
  have k_a_16 := k_a_15.up hb_15
  clear k_a_15
  have k_b_16 := k_b_15.up hb_15
  clear k_b_15
  have k_c_16 := k_c_15.up hb_15
  clear k_c_15
  have k_d_16 := k_d_15.up hb_15
  clear k_d_15
  have k_26_16 := k_26_15.up hb_15
  clear k_26_15
  have k_28_16 := k_28_15.up hb_15
  clear k_28_15
  have k_e_16 := k_e_15.up hb_15
  clear k_e_15
  have k_f_16 := k_f_15.up hb_15
  clear k_f_15
  clear HAi HAs k_e_16 k_f_16
  as_aux_lemma =>
  go_upto_region 16 with fail
  refine ap_r16 tp bp tt tz ua va q q3 q7 s nn (fun i => (ccL x1 y1 u1 v1 x1' y1' u1' v1' c1 d).getD i 0) _ _ w16 _ _ _ _ _ _ _ _ _ _ _ _ _ _ _ _ _ _ _ _ _ _ _ _ _ _ _ _ _ _ _ _ _ _ _ _ _ _ _ _ _ _ _ _ _ _ _ _ _ _ _ _ _ _ _ _ _ _ _ _ _ _ _ _ _ _ _ _ _ _ _ _ _ _ _ _ _ _ _ _ _ _ _ _ _ _ _ _ _ _ _ _ _ _ _ _ _ _ _ _ _ _ _ _ _ _ _ _ _ _ _ _ _ _ _ _ _ _ _ _ _ _ _ _ _ _ _ _ _ _ _ _ _ _ _ _ _ _ _ _ _ _ _ _ _ _ _ _ _ _ _ _ _ _ _ _ _ _ _ _ _ _ _ _ _ _ _ _ _ _ _ _ _ _ _ _ _ _ _ _ _ _ _ _ _ _ _ _ _ _ _ _ _ _ _ _ _ _ _ _ _ _ _ _ _ _ _ _ _ _ _ _ _ _ _ _ _ _ _ _ _ _ _ _ _ _ _ _ _ _ _ _ _ _ _ _ _ _ _ _ _ _ _ _ _ _ _ _ _ _ _ _ _ _ _ _ _ _ _ _ _ _ _ _ _ _ _ _ _ _ _ _ _ _ _ _ _ _ _ _ _ _ _ _ _ _ _ _ _ _ _ _ _ _ _ _ _ _ _ _ _ _ _ _ _ _ _ _ _ _ _ _ _ _ _ _ _ _ _ _ _ _ _ _ _ _ _ _ _ _ _ _ _ _ _ _ _ _ _ _ _ hn65 k_26_16 k_28_16 ?_
  rintro w17 u157 u158 u159 u160 u161 u162 u163 u164 u165 u166 u167 u168 u169 u170 u171 u172 u173 u174 u175 u176 u177 u178 u179 u180 u181 u182 u183 u184 u185 u186 u187 u188 u189 u190 u191 u192 u193 u194 u195 u196 u197 u198 u199 u200 u201 u202 u203 u204 u205 u206 u207 u208 u209 u210 u211 u212 u213 u214 u215 u216 u217 u218 u219 u220 u221 u222 u223 u224 u225 u226 u227 u228 u229 hb_16
  have hW_17 := up_trans hW_16 hb_16
  have k_a_17 := k_a_16.up hb_16
  clear k_a_16
  have k_b_17 := k_b_16.up hb_16
  clear k_b_16
  have k_c_17 := k_c_16.up hb_16
  clear k_c_16
  have k_d_17 := k_d_16.up hb_16
  clear k_d_16
  have k_26_17 := k_26_16.up hb_16
  clear k_26_16
  have k_28_17 := k_28_16.up hb_16
  clear k_28_16
  clear k_26_17
  as_aux_lemma =>
  go_upto_if 231 with fail
  refine ap_if231 x1 y1 u1 v1 c1 x1' y1' u1' v1' c1' d q3 s _ _ _ nn _ w17 _ _ _ _ _ _ _ _ _ _ _ _ _ _ _ _ _ _ _ _ _ _ _ _ _ _ _ _ _ _ _ _ _ _ _ _ _ _ _ _ _ _ _ _ _ _ _ _ _ _ _ _ _ _ _ _ _ _ _ _ _ _ _ _ _ _ _ _ _ _ _ _ _ _ _ _ _ _ _ _ _ _ _ _ _ _ _ _ _ _ _ _ _ _ _ _ _ _ _ _ _ _ _ _ _ _ _ _ _ _ _ _ _ _ _ _ _ _ _ _ _ _ _ _ _ _ _ _ _ _ _ _ _ _ _ _ _ _ _ _ _ _ _ _ _ _ _ _ _ _ _ _ _ _ _ _ _ _ _ _ _ _ _ _ _ _ _ _ _ _ _ _ _ _ _ _ _ _ _ _ _ _ _ _ _ _ _ _ _ _ _ _ _ _ _ _ _ _ _ _ _ _ _ _ _ _ _ _ _ _ _ _ _ _ _ _ _ _ _ _ _ _ _ _ _ _ _ _ _ _ _ _ _ _ _ _ _ _ _ _ _ _ _ _ _ _ _ _ _ _ _ _ _ _ _ _ _ _ _ _ _ _ _ _ _ _ _ _ _ _ _ _ _ _ _ _ _ _ _ _ _ _ _ _ _ _ _ _ _ _ _ _ _ _ _ _ _ _ _ _ _ _ _ _ _ _ _ _ _ _ _ _ _ _ _ _ _ _ _ _ _ _ _ HQ3 HS HN (Lib.hid k_28_17) (Lib.hid k_c_17) (Lib.hid k_d_17) ?_
  rintro w18 u4 u39 u40 u41 u42 u43 u44 u45 u46 u47 u48 u49 u50 u51 u232 u233 u234 u235 u236 u237 u238 u239 u240 u241 u242 u243 u244 u245 u246 u247 u248 u249 u250 u251 u252 u253 u254 u255 u256 u257 u258 u259 u260 u261 u262 u263 u264 u265 u266 u267 u268 u269 u270 u271 u272 u273 u274 u275 u276 u277 u278 u279 u280 u281 u282 u283 u284 u285 u286 u287 u288 u289 u290 u291 u292 u293 u294 u295 u296 u297 u298 u299 u300 u301 u302 u303 u304 u305 u306 u307 u308 u309 u310 u311 u312 u313 u314 u315 u316 u317 u318 u319 u320 u321 u322 u323 u324 u325 u326 u327 u328 u329 u330 hb_17
  have hW_18 := up_trans hW_17 hb_17
  have k_a_18 := k_a_17.up hb_17
  clear k_a_17
  have k_b_18 := k_b_17.up hb_17
  clear k_b_17
  have k_c_18 := k_c_17.up hb_17
  clear k_c_17
  have k_d_18 := k_d_17.up hb_17
  clear k_d_17
  have k_28_18 := k_28_17.up hb_17
  clear k_28_17
  clear HQ3 HS HN k_28_18 k_c_18 k_d_18 hn65
  cases q with
  | false =>
    as_aux_lemma =>
    go_wp2_with fail
    go_ret
    exact ⟨rfl, hW_18⟩
  | true =>
    obtain ⟨⟨hm1, hm2⟩, rfl⟩ := togB_iff.1 HQ.out
    obtain ⟨⟨htp, hbp⟩, htt, htz⟩ := HF.out
    simp only [if_true] at htp hbp htt htz
    have HLr := Lib.hid (fun W => iLeastApart_any x' y' u' v' c x y u v c W)
    rw [lapV_eq, tog_comm HQ.out, ap_comm, htp, hbp] at HLr
    simp only [if_true] at HLr
    have hc := (moveB_iff.1 hm1).2
    obtain ⟨ra, rb⟩ := apM_bd hm1 hm2
    obtain ⟨t1, t2, t3⟩ := ct_facts (x' := x') (y' := y') (u' := u') (v' := v') hm1
    obtain ⟨_, t4⟩ := ct_top hm1 hm2
    rw [htp] at ra
    rw [hbp] at rb
    rw [htt] at t2 t3
    rw [htz] at t1 t3 t4
    have HAi := Lib.hid (fun (k : Nat) (W : World) (hk : (k : Int) ≤ c) => iApartAt_ok x y u v x' y' u' v' c k hm1 hm2 (by omega) hk W)
    have HAs := Lib.hid (fun (k : Nat) (W : World) (hk : (k : Int) ≤ c) => apartAt_any x y u v x' y' u' v' c k hm1 hm2 (by omega) hk W)
    have HR := Lib.hid (fun (k : Nat) (hk : (k : Int) ≤ c) => (at_facts (d := 0) hm1 hm2 hk).rng)
    have HLL := Lib.hid (fun (k : Nat) (hk : (k : Int) ≤ c) => (at_facts (d := 0) hm1 hm2 hk).least)
    have HE := Lib.hid (fun (k : Nat) (hk : (k : Int) ≤ c) => (at_facts (d := 0) hm1 hm2 hk).time)
    rw [htp, hbp] at HLL
    rw [htt, htz, htp, hbp] at HE
    clear htp hbp htt htz HQ HF hm1 hm2
    have i0 := k_a_18.c0
    have i1 := k_a_18.c1
    have i2 := k_a_18.c2
    have i3 := k_a_18.c3
    have i4 := k_a_18.c4
    have j0 := k_b_18.c0
    have j1 := k_b_18.c1
    have j2 := k_b_18.c2
    have j3 := k_b_18.c3
    have j4 := k_b_18.c4
    as_aux_lemma =>
    go_wp2_with fail
    refine (HLr.out _).mono ?_
    rintro e w19 ⟨rfl, hb_18⟩
    clear i0 i1 i2 i3 i4 j0 j1 j2 j3 j4
    have hW_19 := up_trans hW_18 hb_18
    have k_a_19 := k_a_18.up hb_18
    clear k_a_18
    have k_b_19 := k_b_18.up hb_18
    clear k_b_18
    go_upto_region 33 with fail
    refine ap_r33 tp bp tt tz c _ w19 _ _ _ _ _ _ _ _ _ _ _ _ _ _ _ _ _ _ _ _ _ _ _ _ _ _ _ _ _ _ _ _ _ _ _ _ _ _ _ _ _ _ _ _ _ _ _ _ _ _ _ _ _ _ _ _ _ _ _ _ _ _ _ _ _ _ _ _ _ _ _ _ _ _ _ _ _ _ _ _ _ _ _ _ _ _ _ _ _ _ _ _ _ _ _ _ _ _ _ _ _ _ _ _ _ _ _ _ _ _ _ _ _ _ _ _ _ _ _ _ _ _ _ _ _ _ _ _ _ _ _ _ _ _ _ _ _ _ _ _ _ _ _ _ _ _ _ _ _ _ _ _ _ _ _ _ _ _ _ _ _ _ _ _ _ _ _ _ _ _ _ _ _ _ _ _ _ _ _ _ _ _ _ _ _ _ _ _ _ _ _ _ _ _ _ _ _ _ _ _ _ _ _ _ _ _ _ _ _ _ _ _ _ _ _ _ _ _ _ _ _ _ _ _ _ _ _ _ _ _ _ _ _ _ _ _ _ _ _ _ _ _ _ _ _ _ _ _ _ _ _ _ _ _ _ _ _ _ _ _ _ _ _ _ _ _ _ _ _ _ _ _ _ _ _ _ _ _ _ _ _ _ _ _ _ _ _ _ _ _ _ _ _ _ _ _ _ _ _ _ _ _ _ _ _ _ _ _ _ _ _ _ _ _ _ _ _ _ _ _ _ _ _ _ _ _ _ _ _ _ _ _ _ _ _ _ _ _ _ _ _ _ _ _ _ _ _ _ _ _ _ _ _ _ _ _ _ _ _ _ _ _ _ _ _ _ _ _ _ _ _ _ _ _ _ _ _ _ _ _ _ _ _ _ _ _ _ _ _ _ _ _ _ _ _ _ _ rb.1 ra.1 ⟨t1, t4⟩ t2 hc t3 k_a_19.c4 ?_
    rintro w20 u340 u341 u342 u343 u344 u345 u346 u347 u348 u349 u350 u351 u352 u353 u354 u355 u356 u357 u358 u359 u360 u361 u362 u363 u364 u365 u366 u367 u368 u369 u370 u371 u372 u373 u374 hb_19
    have hW_20 := up_trans hW_19 hb_19
    have k_a_20 := k_a_19.up hb_19
    clear k_a_19
    have k_b_20 := k_b_19.up hb_19
    clear k_b_19
    as_aux_lemma =>
    go_wp2_with fail
    refine ap_l36 x y u v x' y' u' v' c tp bp tt tz _ _ (fun k => lowA (sqm x y u v x' y' u' v' c k) (c * c)) (fun k => lowB (sqm x y u v x' y' u' v' c k) (c * c)) w20 _ _ _ _ _ _ _ _ _ _ _ _ _ _ _ _ _ _ _ _ _ _ _ _ _ _ _ _ _ _ _ _ _ _ _ _ _ _ _ _ _ _ _ _ _ _ _ _ _ _ _ _ _ _ _ _ _ _ _ _ _ _ _ _ _ _ _ _ _ _ _ _ _ _ _ _ _ _ _ _ _ _ _ _ _ _ _ _ _ _ _ _ _ _ _ _ _ _ _ _ _ _ _ _ _ _ _ _ _ _ _ _ _ _ _ _ _ _ _ _ _ _ _ _ _ _ _ _ _ _ _ _ _ _ _ _ _ _ _ _ _ _ _ _ _ _ _ _ _ _ _ _ _ _ _ _ _ _ _ _ _ _ _ _ _ _ _ _ _ _ _ _ _ _ _ _ _ _ _ _ _ _ _ _ _ _ _ _ _ _ _ _ _ _ _ _ _ _ _ _ _ _ _ _ _ _ _ _ _ _ _ _ _ _ _ _ _ _ _ _ _ _ _ _ _ _ _ _ _ _ _ _ _ _ _ _ _ _ _ _ _ _ _ _ _ _ _ _ _ _ _ _ _ _ _ _ _ _ _ _ _ _ _ _ _ _ _ _ _ _ _ _ _ _ _ _ _ _ _ _ _ _ _ _ _ _ _ _ _ _ _ _ _ _ _ _ _ _ _ _ _ _ _ _ _ _ _ _ _ _ _ _ _ _ _ _ _ _ _ _ _ _ _ _ _ _ _ _ _ _ _ _ _ _ _ _ _ _ _ _ _ _ _ _ _ _ _ _ _ _ _ _ _ _ _ _ _ _ _ _ _ _ _ _ _ _ _ _ _ _ _ _ _ _ _ _ _ _ _ _ _ _ _ _ _ _ _ _ _ _ _ _ _ _ _ _ _ _ _ _ _ _ _ _ _ _ _ _ _ _ _ _ _ _ _ _ _ _ _ _ _ _ _ _ _ _ _ _ _ _ _ _ _ _ hc ra rb (Lib.hid k_a_20) (Lib.hid k_b_20) HAi HAs HR HLL HE ?_
    rintro w21 u4 u55 u56 u57 u58 u59 u60 u61 u376 u377 u378 u379 u380 u381 u382 u383 u384 u385 u386 u387 u388 u389 u390 u391 u392 u393 u394 u395 u396 u397 u398 u399 u400 u401 u402 u403 u404 u405 u406 u407 u408 u409 u410 u411 u412 u413 u414 u415 u416 u417 u418 u419 u420 u421 u422 u423 u424 u425 u426 u427 u428 u429 u430 u431 u432 u433 u434 u435 u436 u437 u438 u439 hb_20
    have hW_21 := up_trans hW_20 hb_20
    have k_a_21 := k_a_20.up hb_20
    clear k_a_20
    have k_b_21 := k_b_20.up hb_20
    clear k_b_20
    as_aux_lemma =>
    go_wp2_with fail
    go_ret
    exact ⟨rfl, hW_21⟩

set_option maxRecDepth 100000 in
theorem fnApart_law : LawWalk Try.prog 3 Try.f3 := by
  intro H enc W base args ds ps hval hA
  rw [Try.params3] at hval hA
  obtain ⟨v0, v1, d0, d1, p0, p1, rfl, rfl, rfl, h0, h1⟩ := trodAll_two hA
  obtain ⟨n, hs, hn⟩ := open_bytes (hval 0 _ v0 rfl rfl) h0
  obtain ⟨m, ht, hm⟩ := open_bytes (hval 1 _ v1 rfl rfl) h1
  exact fnApart_walk v0 v1 n m W hs ht hn hm

set_option maxRecDepth 100000 in
set_option maxHeartbeats 4000000 in
theorem fnApart_wit (os : Os) (H : Type) (enc : TypeId × Value → H) : ∃ (w : World) (tape : Tape) (i : Input), w.os = os ∧ (w.forCall tape i).Shaped Try.checked.prog ∧ i.vars = [] ∧ Input.okWide Try.checked.prog (w.forCall tape i) .any w.heap.size 3 i ∧
      Rows.fnApartSpec.pre6 enc Try.checked.prog Try.f3 [] false (w.forCall tape i).memory i.args ∧ ({} : Assume).holds Try.checked.prog (lone (Frame.enter Try.checked.prog 3 i.args .normal) [] (w.forCall tape i)) :=
  ChangeSpec.witness6 (enc := enc) (C := Try.checked) false ⟨#[], #[.slice none 0 0, .slice none 0 0], []⟩ 8 (by kernel_rfl) (by kernel_rfl) (by kernel_rfl) (by kernel_rfl)

set_option maxRecDepth 100000 in
set_option maxHeartbeats 4000000 in
theorem fnApart_row (os : Os) (started : os.Started) (H : Type) (enc : TypeId × Value → H) :
    ReturnsInHanded {} Try.checked os 3 .any (Rows.fnApartSpec.pre6 enc Try.checked.prog Try.f3 [] false) (Rows.fnApartSpec.post enc Try.checked.prog Try.f3 false true false false) :=
  lifted_of (C := Try.checked) (s := Rows.fnApartSpec) (tb := 4) (by kernel_rfl) (by kernel_rfl) (by kernel_rfl) (by kernel_rfl) Try.func3 rfl Try.underlying4 rfl
      (fun H ds h => by
        have h2 : ds.length = 2 := by rw [Try.params3] at h; exact h
        match ds, h2 with
        | [_, _], _ => rfl)
      fnApart_law os started H enc (fnApart_wit os H enc)

set_option maxRecDepth 100000 in
set_option maxHeartbeats 4000000 in
theorem fnApart_holds : Rows.FnApartSaid :=
  OpenClaim.holds_of_wide 3 Try.f3 rfl rfl rfl rfl rfl rfl rfl ⟨rfl, rfl, rfl, rfl, rfl⟩ rfl rfl rfl rfl rfl (by kernel_rfl) Try.func3 (by kernel_rfl)
    (of_decide_eq_true (by kernel_rfl)) (by unfold Func.isWrapper; first | (rw [if_pos (by decide +kernel)]; kernel_rfl) | (rw [if_neg (by decide +kernel)]; exact ⟨rfl, rfl⟩))
    (fun os started H enc _ => fnApart_row os started H enc)

#print axioms fnApart_holds
end Go.Proofs.Ytljdhicmcmppgaa
