/-
  FnMatchings: for all arguments the law returns true, and its arguments read afterwards as before. No condition.
-/
import Derived.Test.YtadlemadnifohaaRows
import Derived.Test.YtadlemadnifohaaBase
import Derived.Test.YtadlemadnifohaaSpot
import Derived.Test.YtadlemadnifohaaSlice
import Derived.Test.YtadlemadnifohaaLawS
import Derived.Test.YtadlemadnifohaaMark
import Derived.Test.YtadlemadnifohaaOpen
import Derived.Test.YtadlemadnifohaaTrod
import Derived.Test.YtadlemadnifohaaInts
import Derived.Test.YtadlemadnifohaaIntsL
import Derived.Test.YtadlemadnifohaaTurned
import Derived.Test.YtadlemadnifohaaTrans
import Derived.Test.YtadlemadnifohaaOpenT
import Derived.Test.YtadlemadnifohaaRowsI
import Derived.Test.YtadlemadnifohaaCosts
import Derived.Test.YtadlemadnifohaaAppend
import Derived.Test.YtadlemadnifohaaAppendE
import Derived.Test.YtadlemadnifohaaForm
import Derived.Test.YtadlemadnifohaaCopyI
import Derived.Test.YtadlemadnifohaaMatch
import Derived.Test.YtadlemadnifohaaMatS
import Derived.Test.YtadlemadnifohaaMatchP
import Derived.Test.YtadlemadnifohaaMatchQ
import Derived.Test.YtadlemadnifohaaOnes
import Derived.Test.YtadlemadnifohaaTable
import Derived.Test.YtadlemadnifohaaLeast
import Derived.Test.YtadlemadnifohaaLeastM
import Derived.Test.YtadlemadnifohaaRowB
import Derived.Deep.CutRange
import Derived.Deep.DeepCutAuto
import Derived.Test.YtadlemadnifohaaPair
import Derived.Test.YtadlemadnifohaaGreedy
import Derived.Test.YtadlemadnifohaaCount
import Derived.Test.YtadlemadnifohaaCertP
import Derived.Test.YtadlemadnifohaaFmP
import Derived.Test.YtadlemadnifohaaQ
import Derived.Test.YtadlemadnifohaaQS
import Derived.Test.YtadlemadnifohaaDrawC
import Derived.Test.YtadlemadnifohaaDrawM
import Derived.Test.YtadlemadnifohaaDrawT
import Derived.Test.YtadlemadnifohaaDrawS
import Derived.Test.YtadlemadnifohaaCert
import Derived.Deep.CutRange
import Derived.Deep.DeepCutAuto
import Derived.Test.YtadlemadnifohaaFmF
import Derived.Test.YtadlemadnifohaaPiece
import Derived.Test.YtadlemadnifohaaFmR
namespace Go.Proofs.Ytadlemadnifohaa
open Go.RowKit Go.ChangeShapes Go.WideShapes Go.Sort

set_option maxRecDepth 100000 in
set_option maxHeartbeats 16000000 in
theorem fnMatchings_walk (v u : Value) (n m : Nat) (w : World) (hv : Bytes w v n) (hu : Bytes w u m) (hn : n ≤ 9223372036854775807) (hm : m ≤ 9223372036854775807) :
    Calls Try.prog 3 #[v, u] w (Ans w (.bool true)) := by
  obtain ⟨z, hz⟩ : ∃ z, IntKind.i64.wrap ((n : Int) + m) = z := ⟨_, rfl⟩
  have HV := Lib.hid hv
  have HU := Lib.hid hu
  obtain ⟨Av, cv, rfl, _, _⟩ := hv
  obtain ⟨Au, cu, rfl, _, _⟩ := hu
  by_cases hz1 : z > 1048576
  · go_enter Try.func3, Try.ntmps3
    go_wp2_with fail
    go_ret
    exact ⟨rfl, Below.refl _ _⟩
  · go_enter Try.func3, Try.ntmps3
    have hW_0 := Below.refl w.heap.size w
    go_wp2_with fail
    refine (drawLeastMatching_g _ n _ HV.out hn).mono ?_
    rintro e w1 ⟨tc, nc, R, F, rfl, hc, hnc, hR, hb_0⟩
    have hW_1 := up_trans hW_0 hb_0
    have hRR : ∀ i, i < nc → R i ≤ 1048576 := fun i hi => by have := hR i hi; omega
    have HLi := Lib.hid (fun W (hW : IRows W tc nc R F) => iLeastMatching_g tc nc R F W hW (by omega) hRR)
    have HLs := Lib.hid (fun W (hW : IRows W tc nc R F) => sLeastMatching_g tc nc R F W hW (by omega) hRR)
    have HCi := Lib.hid (fun W (hW : IRows W tc nc R F) => iLeastCertificate_g tc nc R F W hW (by omega) hRR)
    have HCs := Lib.hid (fun W (hW : IRows W tc nc R F) => sLeastCertificate_g tc nc R F W hW (by omega) hRR)
    have HGi := Lib.hid (fun W (hW : IRows W tc nc R F) => iGreedyMatching_g tc nc R F W hW (by omega) hRR)
    have HGs := Lib.hid (fun W (hW : IRows W tc nc R F) => sGreedyMatching_g tc nc R F W hW (by omega) hRR)
    have HKi := Lib.hid (fun W (hW : IRows W tc nc R F) => iCountLeast_g tc nc R F W hW (by omega) hRR)
    have HKs := Lib.hid (fun W (hW : IRows W tc nc R F) => sCountLeast_g tc nc R F W hW (by omega) hRR)
    have HAc := Lib.hid (fun W (hW : IRows W tc nc R F) => areCosts_g tc nc R F W hW (by omega) hRR)
    have hmx := sel_le (acB nc R F) nc
    rw [show clV nc R F = .tuple #[.int .i64 (if acB nc R F then wayU nc F (tabU (· + ·) 1000000000 nc F) 0 else 0), .bool (acB nc R F)] from rfl] at HKi HKs
    obtain ⟨q, hq⟩ : ∃ q, acB nc R F = q := ⟨_, rfl⟩
    rw [hq] at HLi HLs HCi HCs HGi HGs HKi HKs HAc hmx
    obtain ⟨mm, hmm⟩ : ∃ mm, sel q nc = mm := ⟨_, rfl⟩
    obtain ⟨za, hza⟩ : ∃ za, (if q then lmS nc F else 0) = za := ⟨_, rfl⟩
    obtain ⟨zg, hzg⟩ : ∃ zg, (if q then sumP F (gmP nc F) nc else 0) = zg := ⟨_, rfl⟩
    obtain ⟨zc, hzc⟩ : ∃ zc, (if q then wayU nc F (tabU (· + ·) 1000000000 nc F) 0 else 0) = zc := ⟨_, rfl⟩
    rw [hmm] at HLi HLs HCi HCs HGi HGs hmx
    rw [hza] at HLi HLs
    rw [hzg] at HGi HGs
    rw [hzc] at HKi HKs
    have HQ := Lib.hid hq
    have HMM := Lib.hid hmm
    have HZA := Lib.hid hza
    have HZG := Lib.hid hzg
    have HZC := Lib.hid hzc
    have HRR := Lib.hid hRR
    clear hq hmm hza hzg hzc hRR hR
    have eq0 : (q != q) = false := by simp
    have eza : (za != za) = false := by simp
    have ezg : (zg != zg) = false := by simp
    have ezc : (zc != zc) = false := by simp
    as_aux_lemma =>
    go_wp2_with fail
    refine (HLi.out _ hc).mono ?_
    rintro e w2 ⟨x6, rfl, h6, hb_1⟩
    have hW_2 := up_trans hW_1 hb_1
    go_wp2_with fail
    have h_c_2 := hc.up hb_1
    refine (HLs.out _ h_c_2).mono ?_
    rintro e w3 ⟨x9, rfl, h9, hb_2⟩
    have hW_3 := up_trans hW_2 hb_2
    as_aux_lemma =>
    go_wp2_with fail
    have h_c_3 := h_c_2.up hb_2
    refine (HCi.out _ h_c_3).mono ?_
    rintro e w4 ⟨x12, x13, wm3, rfl, hx13, hbm3, hx12, hbn3⟩
    have hb_3 := up_trans hbm3 hbn3
    replace hx13 := hx13.up hbn3
    have hW_4 := up_trans hW_3 hb_3
    clear hbm3 hbn3
    go_wp2_with fail
    have h_c_4 := h_c_3.up hb_3
    refine (HCs.out _ h_c_4).mono ?_
    rintro e w5 ⟨x15, x16, wm4, rfl, hx16, hbm4, hx15, hbn4⟩
    have hb_4 := up_trans hbm4 hbn4
    replace hx16 := hx16.up hbn4
    have hW_5 := up_trans hW_4 hb_4
    clear hbm4 hbn4
    as_aux_lemma =>
    go_wp2_with fail
    have h_c_5 := h_c_4.up hb_4
    refine (HGi.out _ h_c_5).mono ?_
    rintro e w6 ⟨x18, rfl, h18, hb_5⟩
    have hW_6 := up_trans hW_5 hb_5
    go_wp2_with fail
    have h_c_6 := h_c_5.up hb_5
    refine (HGs.out _ h_c_6).mono ?_
    rintro e w7 ⟨x21, rfl, h21, hb_6⟩
    have hW_7 := up_trans hW_6 hb_6
    as_aux_lemma =>
    go_wp2_with fail
    have h_c_7 := h_c_6.up hb_6
    refine (HKi.out _ h_c_7).mono ?_
    rintro e w8 ⟨rfl, hb_7⟩
    have hW_8 := up_trans hW_7 hb_7
    go_wp2_with fail
    have h_c_8 := h_c_7.up hb_7
    refine (HKs.out _ h_c_8).mono ?_
    rintro e w9 ⟨rfl, hb_8⟩
    have hW_9 := up_trans hW_8 hb_8
    as_aux_lemma =>
    go_wp2_with fail
    refine (drawForcedPair_g _ m _ (HU.out.up hW_9) hm).mono ?_
    rintro e w10 ⟨ta, na, Ra, Fa, ia, ka, rfl, hta, hnta, hRta, hb_9⟩
    have hW_10 := up_trans hW_9 hb_9
    have hRRta : ∀ i, i < na → Ra i ≤ 1048576 := fun i hi => by have := hRta i hi; omega
    have HFi := Lib.hid (fun W (hW : IRows W ta na Ra Fa) => iForcedPair_g ta na Ra Fa ia ka W hW (by omega) hRRta)
    have HFs := Lib.hid (fun W (hW : IRows W ta na Ra Fa) => sForcedPair_g ta na Ra Fa ia ka W hW (by omega) hRRta)
    rw [show fdV na Ra Fa ia ka = .tuple #[.int .i64 (if prB na Ra Fa ia ka then tabU (· + ·) 1000000000 na (setF 1000000000 Fa ia.toNat (fdB ka)) 0 else 0), .bool (prB na Ra Fa ia ka)] from rfl] at HFi HFs
    obtain ⟨q7, hq7⟩ : ∃ q, prB na Ra Fa ia ka = q := ⟨_, rfl⟩
    rw [hq7] at HFi HFs
    obtain ⟨zf, hzf⟩ : ∃ zf, (if q7 then tabU (· + ·) 1000000000 na (setF 1000000000 Fa ia.toNat (fdB ka)) 0 else 0) = zf := ⟨_, rfl⟩
    rw [hzf] at HFi HFs
    have HQ7 := Lib.hid hq7
    have HZF := Lib.hid hzf
    have HRA := Lib.hid hRRta
    clear hq7 hzf hRRta hRta
    have eq7 : (q7 != q7) = false := by simp
    have ezf : (zf != zf) = false := by simp
    go_wp2_with fail
    refine (HFi.out _ hta).mono ?_
    rintro e w11 ⟨rfl, hb_10⟩
    have hW_11 := up_trans hW_10 hb_10
    as_aux_lemma =>
    go_wp2_with fail
    have h_ta_11 := hta.up hb_10
    refine (HFs.out _ h_ta_11).mono ?_
    rintro e w12 ⟨rfl, hb_11⟩
    have hW_12 := up_trans hW_11 hb_11
    go_wp2_with fail
    refine (drawForbiddenPair_g _ m _ (HU.out.up hW_12) hm).mono ?_
    rintro e w13 ⟨tb, nb, Rb, Fb, ib, kb, rfl, htb, hntb, hRtb, hb_12⟩
    have hW_13 := up_trans hW_12 hb_12
    have hRRtb : ∀ i, i < nb → Rb i ≤ 1048576 := fun i hi => by have := hRtb i hi; omega
    have HDi := Lib.hid (fun W (hW : IRows W tb nb Rb Fb) => iForbiddenPair_g tb nb Rb Fb ib kb W hW (by omega) hRRtb)
    have HDs := Lib.hid (fun W (hW : IRows W tb nb Rb Fb) => sForbiddenPair_g tb nb Rb Fb ib kb W hW (by omega) hRRtb)
    obtain ⟨zb, q9, hzb⟩ : ∃ zb q9, fpV nb Rb Fb ib kb = .tuple #[.int .i64 zb, .bool q9] := ⟨_, _, rfl⟩
    rw [hzb] at HDi HDs
    clear hzb hRRtb hRtb
    have eq9 : (q9 != q9) = false := by simp
    have ezb : (zb != zb) = false := by simp
    as_aux_lemma =>
    go_wp2_with fail
    refine (HDi.out _ htb).mono ?_
    rintro e w14 ⟨rfl, hb_13⟩
    have hW_14 := up_trans hW_13 hb_13
    go_wp2_with fail
    have h_tb_14 := htb.up hb_13
    refine (HDs.out _ h_tb_14).mono ?_
    rintro e w15 ⟨rfl, hb_14⟩
    have hW_15 := up_trans hW_14 hb_14
    as_aux_lemma =>
    go_wp2_with fail
    refine (drawMatchingSum_g _ m _ (HU.out.up hW_15) hm).mono ?_
    rintro e w16 ⟨tu, nu, Ru, Fu, tv, Pv, rfl, htu, htv, hntu, hRtu, hb_15⟩
    have hW_16 := up_trans hW_15 hb_15
    have hRRtu : ∀ i, i < nu → Ru i ≤ 1048576 := fun i hi => by have := hRtu i hi; omega
    have HMi := Lib.hid (fun W (hW : IRows W tu nu Ru Fu) (hX : Ints W tv nu Pv) => iMatchingSum_g tu tv nu Ru Fu nu Pv W hW hX (by omega) hRRtu (by omega))
    have HMs := Lib.hid (fun W (hW : IRows W tu nu Ru Fu) (hX : Ints W tv nu Pv) => sMatchingSum_g tu tv nu Ru Fu nu Pv W hW hX (by omega) hRRtu (by omega))
    rw [show msV nu Ru Fu nu Pv = .tuple #[.int .i64 (if msOk nu Ru Fu nu Pv then sumP Fu Pv nu else 0), .bool (msOk nu Ru Fu nu Pv)] from rfl] at HMi HMs
    obtain ⟨q11, hq11⟩ : ∃ q, msOk nu Ru Fu nu Pv = q := ⟨_, rfl⟩
    rw [hq11] at HMi HMs
    obtain ⟨zm, hzm⟩ : ∃ zm, (if q11 then sumP Fu Pv nu else 0) = zm := ⟨_, rfl⟩
    rw [hzm] at HMi HMs
    have HQ11 := Lib.hid hq11
    have HZM := Lib.hid hzm
    have HRU := Lib.hid hRRtu
    clear hq11 hzm hRRtu hRtu
    have eq11 : (q11 != q11) = false := by simp
    have ezm : (zm != zm) = false := by simp
    go_wp2_with fail
    refine (HMi.out _ htu htv).mono ?_
    rintro e w17 ⟨rfl, hb_16⟩
    have hW_17 := up_trans hW_16 hb_16
    as_aux_lemma =>
    go_wp2_with fail
    have h_tu_17 := htu.up hb_16
    have h_tv_17 := htv.up hb_16
    refine (HMs.out _ h_tu_17 h_tv_17).mono ?_
    rintro e w18 ⟨rfl, hb_17⟩
    have hW_18 := up_trans hW_17 hb_17
    have h_x6_3 := h6.up hb_2
    have h_x6_4 := h_x6_3.up hb_3
    have h_x6_5 := h_x6_4.up hb_4
    have h_x6_6 := h_x6_5.up hb_5
    have h_x6_7 := h_x6_6.up hb_6
    have h_x6_8 := h_x6_7.up hb_7
    have h_x6_9 := h_x6_8.up hb_8
    have h_x6_10 := h_x6_9.up hb_9
    have h_x6_11 := h_x6_10.up hb_10
    have h_x6_12 := h_x6_11.up hb_11
    have h_x6_13 := h_x6_12.up hb_12
    have h_x6_14 := h_x6_13.up hb_13
    have h_x6_15 := h_x6_14.up hb_14
    have h_x6_16 := h_x6_15.up hb_15
    have h_x6_17 := h_x6_16.up hb_16
    have h_x6_18 := h_x6_17.up hb_17
    have h_x9_4 := h9.up hb_3
    have h_x9_5 := h_x9_4.up hb_4
    have h_x9_6 := h_x9_5.up hb_5
    have h_x9_7 := h_x9_6.up hb_6
    have h_x9_8 := h_x9_7.up hb_7
    have h_x9_9 := h_x9_8.up hb_8
    have h_x9_10 := h_x9_9.up hb_9
    have h_x9_11 := h_x9_10.up hb_10
    have h_x9_12 := h_x9_11.up hb_11
    have h_x9_13 := h_x9_12.up hb_12
    have h_x9_14 := h_x9_13.up hb_13
    have h_x9_15 := h_x9_14.up hb_14
    have h_x9_16 := h_x9_15.up hb_15
    have h_x9_17 := h_x9_16.up hb_16
    have h_x9_18 := h_x9_17.up hb_17
    have h_x12_5 := hx12.up hb_4
    have h_x12_6 := h_x12_5.up hb_5
    have h_x12_7 := h_x12_6.up hb_6
    have h_x12_8 := h_x12_7.up hb_7
    have h_x12_9 := h_x12_8.up hb_8
    have h_x12_10 := h_x12_9.up hb_9
    have h_x12_11 := h_x12_10.up hb_10
    have h_x12_12 := h_x12_11.up hb_11
    have h_x12_13 := h_x12_12.up hb_12
    have h_x12_14 := h_x12_13.up hb_13
    have h_x12_15 := h_x12_14.up hb_14
    have h_x12_16 := h_x12_15.up hb_15
    have h_x12_17 := h_x12_16.up hb_16
    have h_x12_18 := h_x12_17.up hb_17
    have h_x13_5 := hx13.up hb_4
    have h_x13_6 := h_x13_5.up hb_5
    have h_x13_7 := h_x13_6.up hb_6
    have h_x13_8 := h_x13_7.up hb_7
    have h_x13_9 := h_x13_8.up hb_8
    have h_x13_10 := h_x13_9.up hb_9
    have h_x13_11 := h_x13_10.up hb_10
    have h_x13_12 := h_x13_11.up hb_11
    have h_x13_13 := h_x13_12.up hb_12
    have h_x13_14 := h_x13_13.up hb_13
    have h_x13_15 := h_x13_14.up hb_14
    have h_x13_16 := h_x13_15.up hb_15
    have h_x13_17 := h_x13_16.up hb_16
    have h_x13_18 := h_x13_17.up hb_17
    have h_x15_6 := hx15.up hb_5
    have h_x15_7 := h_x15_6.up hb_6
    have h_x15_8 := h_x15_7.up hb_7
    have h_x15_9 := h_x15_8.up hb_8
    have h_x15_10 := h_x15_9.up hb_9
    have h_x15_11 := h_x15_10.up hb_10
    have h_x15_12 := h_x15_11.up hb_11
    have h_x15_13 := h_x15_12.up hb_12
    have h_x15_14 := h_x15_13.up hb_13
    have h_x15_15 := h_x15_14.up hb_14
    have h_x15_16 := h_x15_15.up hb_15
    have h_x15_17 := h_x15_16.up hb_16
    have h_x15_18 := h_x15_17.up hb_17
    have h_x16_6 := hx16.up hb_5
    have h_x16_7 := h_x16_6.up hb_6
    have h_x16_8 := h_x16_7.up hb_7
    have h_x16_9 := h_x16_8.up hb_8
    have h_x16_10 := h_x16_9.up hb_9
    have h_x16_11 := h_x16_10.up hb_10
    have h_x16_12 := h_x16_11.up hb_11
    have h_x16_13 := h_x16_12.up hb_12
    have h_x16_14 := h_x16_13.up hb_13
    have h_x16_15 := h_x16_14.up hb_14
    have h_x16_16 := h_x16_15.up hb_15
    have h_x16_17 := h_x16_16.up hb_16
    have h_x16_18 := h_x16_17.up hb_17
    have h_x18_7 := h18.up hb_6
    have h_x18_8 := h_x18_7.up hb_7
    have h_x18_9 := h_x18_8.up hb_8
    have h_x18_10 := h_x18_9.up hb_9
    have h_x18_11 := h_x18_10.up hb_10
    have h_x18_12 := h_x18_11.up hb_11
    have h_x18_13 := h_x18_12.up hb_12
    have h_x18_14 := h_x18_13.up hb_13
    have h_x18_15 := h_x18_14.up hb_14
    have h_x18_16 := h_x18_15.up hb_15
    have h_x18_17 := h_x18_16.up hb_16
    have h_x18_18 := h_x18_17.up hb_17
    have h_x21_8 := h21.up hb_7
    have h_x21_9 := h_x21_8.up hb_8
    have h_x21_10 := h_x21_9.up hb_9
    have h_x21_11 := h_x21_10.up hb_10
    have h_x21_12 := h_x21_11.up hb_11
    have h_x21_13 := h_x21_12.up hb_12
    have h_x21_14 := h_x21_13.up hb_13
    have h_x21_15 := h_x21_14.up hb_14
    have h_x21_16 := h_x21_15.up hb_15
    have h_x21_17 := h_x21_16.up hb_16
    have h_x21_18 := h_x21_17.up hb_17
    have h_c_9 := h_c_8.up hb_8
    have h_c_10 := h_c_9.up hb_9
    have h_c_11 := h_c_10.up hb_10
    have h_c_12 := h_c_11.up hb_11
    have h_c_13 := h_c_12.up hb_12
    have h_c_14 := h_c_13.up hb_13
    have h_c_15 := h_c_14.up hb_14
    have h_c_16 := h_c_15.up hb_15
    have h_c_17 := h_c_16.up hb_16
    have h_c_18 := h_c_17.up hb_17
    as_aux_lemma =>
    go_upto_region 21 with fail
    have HAc2 := Lib.hid (fun W (hW : Below w18.heap.size w18 W) => HAc.out W (h_c_18.up hW))
    refine fm_r21 q q7 q9 q11 za zg zc zf zb zm mm tc x6 x9 x12 x13 x15 x16 x18 x21 (lmP nc F) (lcR nc F) (lcC nc F) (gmP nc F) w18 _ _ _ _ _ _ _ _ _ _ _ _ _ _ _ _ _ _ _ _ _ _ _ _ _ _ _ _ _ _ _ _ _ _ _ _ _ _ _ _ _ _ _ _ _ _ _ _ _ _ _ _ _ _ _ _ _ _ _ _ _ _ _ _ _ _ _ _ _ _ _ _ _ _ _ _ _ _ _ _ _ _ _ _ _ _ _ _ _ _ _ _ _ _ _ _ _ _ _ _ _ _ _ _ _ _ _ _ _ _ _ _ _ _ _ _ _ _ _ _ _ _ _ _ _ _ _ _ _ _ _ _ _ _ _ _ _ _ _ _ _ _ _ _ _ _ _ _ _ _ _ _ _ _ _ _ _ _ _ _ _ _ _ _ _ _ _ _ _ _ _ _ _ _ _ _ _ _ _ _ _ _ _ _ _ _ _ _ _ _ _ _ _ _ _ _ _ _ _ _ _ _ _ _ _ _ _ _ _ _ _ _ _ _ _ _ _ _ _ _ _ _ _ _ _ _ _ _ _ _ _ _ _ _ _ _ _ _ _ _ _ _ _ _ _ _ _ _ _ _ _ _ _ _ _ _ _ _ _ _ _ _ _ _ _ _ _ _ _ _ _ _ _ _ _ _ _ _ _ _ _ _ _ _ _ _ _ _ _ _ _ _ _ _ _ _ _ _ _ _ _ _ _ _ _ _ _ _ _ _ _ _ _ _ _ _ _ _ _ _ _ _ _ _ _ _ _ _ _ _ _ _ _ _ _ _ _ _ _ _ _ _ _ _ _ _ _ _ _ _ _ _ _ _ _ _ _ _ _ _ _ _ _ _ _ _ _ _ _ _ _ _ _ _ _ _ _ _ _ _ _ _ _ _ _ _ _ _ _ _ _ _ _ _ _ (by omega) h_x6_18.ints h_x9_18.ints h_x12_18.ints h_x15_18.ints h_x13_18.ints h_x16_18.ints h_x18_18.ints h_x21_18.ints HAc2 ?_
    rintro w19 u185 u186 u187 u188 u189 u190 u191 u192 u193 u194 u195 u196 u197 u198 u199 u200 u201 u202 u203 u204 u205 u206 u207 u208 u209 u210 u211 u212 u213 u214 u215 u216 u217 u218 u219 u220 u221 u222 u223 u224 u225 u226 u227 u228 u229 u230 u231 u232 u233 u234 u235 u236 u237 u238 u239 u240 u241 u242 u243 u244 u245 u246 u247 u248 u249 u250 u251 u252 u253 u254 u255 u256 u257 u258 u259 u260 u261 u262 u263 u264 u265 u266 u267 u268 u269 u270 u271 u272 u273 u274 u275 u276 u277 u278 u279 u280 u281 u282 u283 u284 u285 u286 u287 u288 u289 u290 u291 hb_18
    have hW_19 := up_trans hW_18 hb_18
    clear HAc2
    have h_ta_12 := h_ta_11.up hb_11
    have h_ta_13 := h_ta_12.up hb_12
    have h_ta_14 := h_ta_13.up hb_13
    have h_ta_15 := h_ta_14.up hb_14
    have h_ta_16 := h_ta_15.up hb_15
    have h_ta_17 := h_ta_16.up hb_16
    have h_ta_18 := h_ta_17.up hb_17
    have h_ta_19 := h_ta_18.up hb_18
    have h_tu_18 := h_tu_17.up hb_17
    have h_tu_19 := h_tu_18.up hb_18
    as_aux_lemma =>
    go_upto_if 293 with fail
    refine fm_if293 q11 zm nu Ru Fu Pv tu w19 _ _ _ _ _ _ _ _ _ _ _ _ _ _ _ _ _ _ _ _ _ _ _ _ _ _ _ _ _ _ _ _ _ _ _ _ _ _ _ _ _ _ _ _ _ _ _ _ _ _ _ _ _ _ _ _ _ _ _ _ _ _ _ _ _ _ _ _ _ _ _ _ _ _ _ _ _ _ _ _ _ _ _ _ _ _ _ _ _ _ _ _ _ _ _ _ _ _ _ _ _ _ _ _ _ _ _ _ _ _ _ _ _ _ _ _ _ _ _ _ _ _ _ _ _ _ _ _ _ _ _ _ _ _ _ _ _ _ _ _ _ _ _ _ _ _ _ _ _ _ _ _ _ _ _ _ _ _ _ _ _ _ _ _ _ _ _ _ _ _ _ _ _ _ _ _ _ _ _ _ _ _ _ _ _ _ _ _ _ _ _ _ _ _ _ _ _ _ _ _ _ _ _ _ _ _ _ _ _ _ _ _ _ _ _ _ _ _ _ _ _ _ _ _ _ _ _ _ _ _ _ _ _ _ _ _ _ _ _ _ _ _ _ _ _ _ _ _ _ _ _ _ _ _ _ _ _ _ _ _ _ _ _ _ _ _ _ _ _ _ _ _ _ _ _ _ _ _ _ _ _ _ _ _ _ _ _ _ _ _ _ _ _ _ _ _ _ _ _ _ _ _ _ _ _ _ _ _ _ _ _ _ _ _ _ _ _ _ _ _ _ _ _ _ _ _ _ _ _ _ _ _ _ _ _ _ _ _ _ _ _ _ _ _ _ _ _ _ _ _ _ _ _ _ _ _ _ _ _ _ _ _ _ _ _ _ _ _ _ _ _ _ _ _ _ _ _ _ _ _ _ _ _ _ _ _ _ _ _ _ _ _ _ _ _ _ _ _ _ _ _ _ _ _ _ _ _ _ _ _ _ _ _ _ _ _ _ _ _ _ _ _ _ _ _ _ _ _ _ _ _ _ _ _ _ _ _ _ _ _ _ _ _ _ _ _ _ _ _ _ _ _ _ _ _ _ _ _ _ _ _ _ _ _ _ _ _ _ _ _ _ _ _ _ _ _ _ _ _ _ _ _ _ _ _ _ _ _ _ _ _ _ _ _ _ _ _ _ _ _ _ _ _ _ _ _ _ _ _ _ _ _ _ _ _ _ _ _ _ _ _ _ _ _ _ _ _ _ _ _ _ _ _ _ _ (by omega) HRU HQ11 HZM h_tu_19 ?_
    rintro w20 u48 u49 u50 u51 u52 u53 u294 u295 u296 u297 u298 u299 u300 u301 u302 u303 u304 u305 u306 u307 u308 u309 u310 u311 u312 u313 u314 u315 u316 u317 u318 u319 u320 u321 hb_19
    have hW_20 := up_trans hW_19 hb_19
    clear HRU HQ11 HZM
    have h_ta_20 := h_ta_19.up hb_19
    as_aux_lemma =>
    go_upto_if 322 with fail
    refine fm_if322 q7 zf ia ka na Ra Fa ta w20 _ _ _ _ _ _ _ _ _ _ _ _ _ _ _ _ _ _ _ _ _ _ _ _ _ _ _ _ _ _ _ _ _ _ _ _ _ _ _ _ _ _ _ _ _ _ _ _ _ _ _ _ _ _ _ _ _ _ _ _ _ _ _ _ _ _ _ _ _ _ _ _ _ _ _ _ _ _ _ _ _ _ _ _ _ _ _ _ _ _ _ _ _ _ _ _ _ _ _ _ _ _ _ _ _ _ _ _ _ _ _ _ _ _ _ _ _ _ _ _ _ _ _ _ _ _ _ _ _ _ _ _ _ _ _ _ _ _ _ _ _ _ _ _ _ _ _ _ _ _ _ _ _ _ _ _ _ _ _ _ _ _ _ _ _ _ _ _ _ _ _ _ _ _ _ _ _ _ _ _ _ _ _ _ _ _ _ _ _ _ _ _ _ _ _ _ _ _ _ _ _ _ _ _ _ _ _ _ _ _ _ _ _ _ _ _ _ _ _ _ _ _ _ _ _ _ _ _ _ _ _ _ _ _ _ _ _ _ _ _ _ _ _ _ _ _ _ _ _ _ _ _ _ _ _ _ _ _ _ _ _ _ _ _ _ _ _ _ _ _ _ _ _ _ _ _ _ _ _ _ _ _ _ _ _ _ _ _ _ _ _ _ _ _ _ _ _ _ _ _ _ _ _ _ _ _ _ _ _ _ _ _ _ _ _ _ _ _ _ _ _ _ _ _ _ _ _ _ _ _ _ _ _ _ _ _ _ _ _ _ _ _ _ _ _ _ _ _ _ _ _ _ _ _ _ _ _ _ _ _ _ _ _ _ _ _ _ _ _ _ _ _ _ _ _ _ _ _ _ _ _ _ _ _ _ _ _ _ _ _ _ _ _ _ _ _ _ _ _ _ _ _ _ _ _ _ _ _ _ _ _ _ _ _ (by omega) HRA HQ7 HZF h_ta_20 ?_
    rintro w21 u54 u55 u56 u57 u58 u59 u60 u61 u62 u63 u323 u324 u325 u326 u327 u328 u329 u330 u331 u332 u333 u334 u335 u336 u337 u338 u339 u340 u341 u342 u343 u344 u345 u346 u347 u348 u349 u350 u351 u352 u353 u354 u355 u356 u357 u358 u359 u360 u361 u362 u363 u364 u365 u366 u367 u368 u369 u370 u371 u372 u373 u374 u375 u376 u377 u378 u379 u380 u381 u382 u383 u384 u385 u386 u387 u388 u389 u390 u391 u392 u393 u394 u395 u396 u397 u398 u399 u400 u401 u402 u403 u404 u405 u406 u407 u408 u409 u410 u411 u412 u413 u414 u415 u416 u417 u418 u419 u420 u421 u422 u423 u424 u425 u426 u427 u428 u429 u430 u431 hb_20
    have hW_21 := up_trans hW_20 hb_20
    clear HRA HQ7 HZF
    have h_c_19 := h_c_18.up hb_18
    have h_c_20 := h_c_19.up hb_19
    have h_c_21 := h_c_20.up hb_20
    have h_x6_19 := h_x6_18.up hb_18
    have h_x6_20 := h_x6_19.up hb_19
    have h_x6_21 := h_x6_20.up hb_20
    have h_x9_19 := h_x9_18.up hb_18
    have h_x9_20 := h_x9_19.up hb_19
    have h_x9_21 := h_x9_20.up hb_20
    have h_x12_19 := h_x12_18.up hb_18
    have h_x12_20 := h_x12_19.up hb_19
    have h_x12_21 := h_x12_20.up hb_20
    have h_x13_19 := h_x13_18.up hb_18
    have h_x13_20 := h_x13_19.up hb_19
    have h_x13_21 := h_x13_20.up hb_20
    have h_x15_19 := h_x15_18.up hb_18
    have h_x15_20 := h_x15_19.up hb_19
    have h_x15_21 := h_x15_20.up hb_20
    have h_x16_19 := h_x16_18.up hb_18
    have h_x16_20 := h_x16_19.up hb_19
    have h_x16_21 := h_x16_20.up hb_20
    have h_x18_19 := h_x18_18.up hb_18
    have h_x18_20 := h_x18_19.up hb_19
    have h_x18_21 := h_x18_20.up hb_20
    --[4
    as_aux_lemma =>
    cases q with
    | false =>
      go_wp2_with fail
      go_ret
      exact ⟨rfl, hW_21⟩
    | true =>
      have CF := Lib.hid (costs_facts HQ.out)
      have hmm := HMM.out
      rw [show sel true nc = nc from rfl] at hmm
      subst hmm
      have ea := HZA.out
      have eg := HZG.out
      have ec := HZC.out
      simp only [if_true] at ea eg ec
      have HXi := Lib.hid (fun W (hW : IRows W tc nc R F) (hX : Ints W x12 nc (lcR nc F)) (hY : Ints W x13 nc (lcC nc F)) => iIsCertificate_g tc x12 x13 nc R F nc (lcR nc F) nc (lcC nc F) W hW hX hY (by omega) HRR.out (by omega) (by omega))
      rw [show ctV nc R F nc (lcR nc F) nc (lcC nc F) = .tuple #[.bool true, .bool true] by unfold ctV; rw [CF.out.ct, CF.out.cb]; rfl] at HXi
      have HM1 := Lib.hid (fun W (hW : IRows W tc nc R F) (hX : Ints W x6 nc (lmP nc F)) => iMatchingSum_g tc x6 nc R F nc (lmP nc F) W hW hX (by omega) HRR.out (by omega))
      rw [show msV nc R F nc (lmP nc F) = .tuple #[.int .i64 za, .bool true] by unfold msV; rw [CF.out.ml, CF.out.sl, ea]; rfl] at HM1
      have HM2 := Lib.hid (fun W (hW : IRows W tc nc R F) (hX : Ints W x18 nc (gmP nc F)) => iMatchingSum_g tc x18 nc R F nc (gmP nc F) W hW hX (by omega) HRR.out (by omega))
      rw [show msV nc R F nc (gmP nc F) = .tuple #[.int .i64 zg, .bool true] by unfold msV; rw [CF.out.mg, eg]; rfl] at HM2
      have hlt1 : ¬ zg < za := by have := CF.out.le; omega
      have hlt2 : ¬ zc < 1 := by have := CF.out.way; omega
      have hsr := CF.out.lsr
      rw [ea] at hsr
      have hss0 := CF.out.ss
      rw [ea] at hss0
      have HS1 := Lib.hid (fun W (h : Ints W x15 nc (lcR nc F)) => qSum_g x15 nc (lcR nc F) W h (by omega) (fun i hi => by have := CF.out.row i hi; omega))
      have HS2 := Lib.hid (fun W (h : Ints W x16 nc (lcC nc F)) => qSum_g x16 nc (lcC nc F) W h (by omega) (fun i hi => by have := CF.out.col i hi; omega))
      obtain ⟨s1, hs1⟩ : ∃ s, sumN (lcR nc F) nc = s := ⟨_, rfl⟩
      obtain ⟨s2, hs2⟩ : ∃ s, sumN (lcC nc F) nc = s := ⟨_, rfl⟩
      rw [hs1] at HS1 hss0
      rw [hs2] at HS2 hss0
      have HWS := Lib.hid (show s1 + s2 = za ∧ 0 ≤ za ∧ za ≤ 25200000 from ⟨hss0, hsr⟩)
      have HI15 := Lib.hid h_x15_21.ints
      have HI16 := Lib.hid h_x16_21.ints
      have hn1 := CF.out.n1
      obtain ⟨A15, c15, e15, _, hr15⟩ := HI15.out
      obtain ⟨b15, o15, f15, hw15⟩ := hr15 (by omega)
      obtain ⟨A16, c16, e16, _, hr16⟩ := HI16.out
      obtain ⟨b16, o16, f16, hw16⟩ := hr16 (by omega)
      obtain ⟨A9, c9, e9, _, hr9⟩ := h_x9_21.ints
      obtain ⟨b9, o9, f9, hw9⟩ := hr9 (by omega)
      obtain ⟨bt, ot, ct, B, O, C, et, hM⟩ := mat_of h_c_21 HQ.out
      have HW15 := Lib.hid hw15
      have HW16 := Lib.hid hw16
      have HW9 := Lib.hid hw9
      have HMt := Lib.hid hM
      have HT := Lib.hid h_c_21
      have H12 := Lib.hid h_x12_21.ints
      have H13 := Lib.hid h_x13_21.ints
      have H6 := Lib.hid h_x6_21.ints
      have H18 := Lib.hid h_x18_21.ints
      clear ea eg ec hsr hs1 hs2 hr15 hr16 hr9 hw15 hw16 hw9 hM
      clear h_x12_21 h_x13_21 h_x15_21 h_x16_21 h_x18_21 h_x6_21 h_x9_21 h_c_21
      subst f15 f16 f9 e15 e16 e9 et
      as_aux_lemma =>
      go_wp2_with fail
      refine (HXi.out _ HT.out H12.out H13.out).mono ?_
      rintro e v1 ⟨rfl, hv1⟩
      go_wp2_with fail
      refine (HM1.out _ (HT.out.up hv1) (H6.out.up hv1)).mono ?_
      rintro e v2 ⟨rfl, hv2⟩
      have hv12 := up_trans hv1 hv2
      go_wp2_with fail
      refine (HM2.out _ (HT.out.up hv12) (H18.out.up hv12)).mono ?_
      rintro e v3 ⟨rfl, hv3⟩
      have hv13 := up_trans hv12 hv3
      as_aux_lemma =>
      have HS1' := Lib.hid (fun W (hW : Below v3.heap.size v3 W) => HS1.out W ((HI15.out.up hv13).up hW))
      have HS2' := Lib.hid (fun W (hW : Below v3.heap.size v3 W) => HS2.out W ((HI16.out.up hv13).up hW))
      go_upto_region 40 with fail
      refine fm_r40 za zg zc s1 s2 _ _ v3 _ _ _ _ _ _ _ _ _ _ _ _ _ _ _ _ _ _ _ _ _ _ _ _ _ _ _ _ _ _ _ _ _ _ _ _ _ _ _ _ _ _ _ _ _ _ _ _ _ _ _ _ _ _ _ _ _ _ _ _ _ _ _ _ _ _ _ _ _ _ _ _ _ _ _ _ _ _ _ _ _ _ _ _ _ _ _ _ _ _ _ _ _ _ _ _ _ _ _ _ _ _ _ _ _ _ _ _ _ _ _ _ _ _ _ _ _ _ _ _ _ _ _ _ _ _ _ _ _ _ _ _ _ _ _ _ _ _ _ _ _ _ _ _ _ _ _ _ _ _ _ _ _ _ _ _ _ _ _ _ _ _ _ _ _ _ _ _ _ _ _ _ _ _ _ _ _ _ _ _ _ _ _ _ _ _ _ _ _ _ _ _ _ _ _ _ _ _ _ _ _ _ _ _ _ _ _ _ _ _ _ _ _ _ _ _ _ _ _ _ _ _ _ _ _ _ _ _ _ _ _ _ _ _ _ _ _ _ _ _ _ _ _ _ _ _ _ _ _ _ _ _ _ _ _ _ _ _ _ _ _ _ _ _ _ _ _ _ _ _ _ _ _ _ _ _ _ _ _ _ _ _ _ _ _ _ _ _ _ _ _ _ _ _ _ _ _ _ _ _ _ _ _ _ _ _ _ _ _ _ _ _ _ _ _ _ _ _ _ _ _ _ _ _ _ _ _ _ _ _ _ _ _ _ _ _ _ _ _ _ _ _ _ _ _ _ _ _ _ _ _ _ _ _ _ _ _ _ _ _ _ _ _ _ _ _ _ _ _ _ _ _ _ _ _ _ _ _ _ _ _ _ _ _ _ _ _ _ _ _ _ _ _ _ _ _ _ _ _ _ _ _ _ _ _ _ _ _ _ _ _ _ _ _ _ _ _ _ _ _ _ _ _ _ _ _ _ _ _ _ _ _ _ _ _ _ _ _ _ _ _ _ _ _ _ _ _ _ _ _ _ _ _ _ _ _ _ _ _ _ _ _ _ _ _ _ _ _ _ _ _ _ _ _ _ _ _ _ _ _ _ _ _ _ _ HS1' HS2' HWS (by omega) (by omega) ?_
      rintro v4 u453 u454 u455 u456 u457 u458 u459 u460 u461 u462 u463 u464 u465 u466 u467 u468 u469 u470 u471 u472 u473 u474 u475 u476 u477 u478 u479 u480 u481 u482 u483 u484 u485 u486 u487 u488 u489 u490 u491 u492 u493 hv4
      have hv14 := up_trans hv13 hv4
      have HW15' := Lib.hid (fun k (hk : k < nc) => up_keep hv14 (HW15.out k hk))
      have HW16' := Lib.hid (fun k (hk : k < nc) => up_keep hv14 (HW16.out k hk))
      have HCC := Lib.hid (fun k (hk : k < nc) => And.intro (CF.out.col k hk).2 (CF.out.row k hk).2)
      clear HS1 HS2 HS1' HS2' HI15 HI16 HWS hlt1 hlt2
      as_aux_lemma =>
      go_wp2_with fail
      refine fm_loop43 nc _ _ _ _ _ _ (lcR nc F) (lcC nc F) v4 _ _ _ _ _ _ _ _ _ _ _ _ _ _ _ _ _ _ _ _ _ _ _ _ _ _ _ _ _ _ _ _ _ _ _ _ _ _ _ _ _ _ _ _ _ _ _ _ _ _ _ _ _ _ _ _ _ _ _ _ _ _ _ _ _ _ _ _ _ _ _ _ _ _ _ _ _ _ _ _ _ _ _ _ _ _ _ _ _ _ _ _ _ _ _ _ _ _ _ _ _ _ _ _ _ _ _ _ _ _ _ _ _ _ _ _ _ _ _ _ _ _ _ _ _ _ _ _ _ _ _ _ _ _ _ _ _ _ _ _ _ _ _ _ _ _ _ _ _ _ _ _ _ _ _ _ _ _ _ _ _ _ _ _ _ _ _ _ _ _ _ _ _ _ _ _ _ _ _ _ _ _ _ _ _ _ _ _ _ _ _ _ _ _ _ _ _ _ _ _ _ _ _ _ _ _ _ _ _ _ _ _ _ _ _ _ _ _ _ _ _ _ _ _ _ _ _ _ _ _ _ _ _ _ _ _ _ _ _ _ _ _ _ _ _ _ _ _ _ _ _ _ _ _ _ _ _ _ _ _ _ _ _ _ _ _ _ _ _ _ _ _ _ _ _ _ _ _ _ _ _ _ _ _ _ _ _ _ _ _ _ _ _ _ _ _ _ _ _ _ _ _ _ _ _ _ _ _ _ _ _ _ _ _ _ _ _ _ _ _ _ _ _ _ _ _ _ _ _ _ _ _ _ _ _ _ _ _ _ _ _ _ _ _ _ _ _ _ _ _ _ _ _ _ _ _ _ _ _ _ _ _ _ _ _ _ _ _ _ _ _ _ _ _ _ _ _ _ _ _ _ _ _ _ _ _ _ _ _ _ _ _ _ _ _ _ _ _ _ _ _ _ _ _ _ _ _ _ _ _ _ _ _ _ _ _ _ _ _ _ _ _ _ _ _ _ _ _ _ _ _ _ _ _ _ _ _ _ _ _ _ _ _ _ _ _ _ _ _ _ _ _ _ _ _ _ _ _ _ _ _ _ _ _ _ _ _ _ _ _ _ _ _ _ _ _ _ _ _ _ _ _ _ _ _ _ _ _ _ _ _ _ _ _ _ _ _ _ _ _ _ _ _ _ _ _ _ _ _ _ _ _ _ _ _ _ _ _ _ _ _ _ _ _ _ _ _ _ _ _ _ _ _ _ CF.out.n12 HW15' HW16' HCC ?_
      rintro v5 u4 u70 u71 u498 u499 u500 u501 u502 u503 u504 u505 u506 u507 u508 u509 u510 u511 hv5
      have hv15 := up_trans hv14 hv5
      have HW15'' := Lib.hid (fun k (hk : k < nc) => up_keep hv15 (HW15.out k hk))
      have HW16'' := Lib.hid (fun k (hk : k < nc) => up_keep hv15 (HW16.out k hk))
      have HW9'' := Lib.hid (fun k (hk : k < nc) => up_keep hv15 (HW9.out k hk))
      have HMt'' := Lib.hid (HMt.out.up hv15)
      as_aux_lemma =>
      go_wp2_with fail
      refine fm_loop49 nc _ _ _ _ _ _ _ _ _ _ _ _ R F B O C v5 _ _ _ _ _ _ _ _ _ _ _ _ _ _ _ _ _ _ _ _ _ _ _ _ _ _ _ _ _ _ _ _ _ _ _ _ _ _ _ _ _ _ _ _ _ _ _ _ _ _ _ _ _ _ _ _ _ _ _ _ _ _ _ _ _ _ _ _ _ _ _ _ _ _ _ _ _ _ _ _ _ _ _ _ _ _ _ _ _ _ _ _ _ _ _ _ _ _ _ _ _ _ _ _ _ _ _ _ _ _ _ _ _ _ _ _ _ _ _ _ _ _ _ _ _ _ _ _ _ _ _ _ _ _ _ _ _ _ _ _ _ _ _ _ _ _ _ _ _ _ _ _ _ _ _ _ _ _ _ _ _ _ _ _ _ _ _ _ _ _ _ _ _ _ _ _ _ _ _ _ _ _ _ _ _ _ _ _ _ _ _ _ _ _ _ _ _ _ _ _ _ _ _ _ _ _ _ _ _ _ _ _ _ _ _ _ _ _ _ _ _ _ _ _ _ _ _ _ _ _ _ _ _ _ _ _ _ _ _ _ _ _ _ _ _ _ _ _ _ _ _ _ _ _ _ _ _ _ _ _ _ _ _ _ _ _ _ _ _ _ _ _ _ _ _ _ _ _ _ _ _ _ _ _ _ _ _ _ _ _ _ _ _ _ _ _ _ _ _ _ _ _ _ _ _ _ _ _ _ _ _ _ _ _ _ _ _ _ _ _ _ _ _ _ _ _ _ _ _ _ _ _ _ _ _ _ _ _ _ _ _ _ _ _ _ _ _ _ _ _ _ _ _ _ _ _ _ _ _ _ _ _ _ _ _ _ _ _ _ _ _ _ _ _ _ _ _ _ _ _ _ _ _ _ _ _ _ _ _ _ _ _ _ _ _ _ _ _ _ _ _ _ _ _ _ _ _ _ _ _ _ _ _ _ _ _ _ _ _ _ _ _ _ _ _ _ _ _ _ _ _ _ _ _ _ _ _ _ _ _ _ _ _ _ _ _ _ _ _ _ _ _ _ _ _ _ _ _ _ _ _ _ _ _ _ _ _ _ _ _ _ _ _ _ _ _ _ _ _ _ _ _ _ _ _ _ _ _ _ _ _ _ _ _ _ _ _ _ _ _ _ _ _ _ _ _ _ _ _ _ _ _ _ _ _ _ _ _ _ _ _ _ _ _ _ _ _ _ _ _ _ _ CF.out.n12 CF HW9'' HW15'' HW16'' HMt'' ?_
      rintro v6 u4 u72 u73 u515 u516 u517 u518 u519 u520 u521 u522 u523 u524 u525 u526 u527 u528 u529 u530 u531 u532 u533 u534 u535 u536 hv6
      as_aux_lemma =>
      go_wp2_with fail
      go_ret
      exact ⟨rfl, up_trans hW_21 (up_trans hv15 hv6)⟩

set_option maxRecDepth 100000 in
theorem fnMatchings_law : LawWalk Try.prog 3 Try.f3 := by
  intro H enc W base args ds ps hval hA
  rw [Try.params3] at hval hA
  obtain ⟨v0, v1, d0, d1, p0, p1, rfl, rfl, rfl, h0, h1⟩ := trodAll_two hA
  obtain ⟨n, hs, hn⟩ := open_bytes (hval 0 _ v0 rfl rfl) h0
  obtain ⟨m, ht, hm⟩ := open_bytes (hval 1 _ v1 rfl rfl) h1
  exact fnMatchings_walk v0 v1 n m W hs ht hn hm

set_option maxRecDepth 100000 in
set_option maxHeartbeats 4000000 in
theorem fnMatchings_wit (os : Os) (H : Type) (enc : TypeId × Value → H) : ∃ (w : World) (tape : Tape) (i : Input), w.os = os ∧ (w.forCall tape i).Shaped Try.checked.prog ∧ i.vars = [] ∧ Input.okWide Try.checked.prog (w.forCall tape i) .any w.heap.size 3 i ∧
      Rows.fnMatchingsSpec.pre6 enc Try.checked.prog Try.f3 [] false (w.forCall tape i).memory i.args ∧ ({} : Assume).holds Try.checked.prog (lone (Frame.enter Try.checked.prog 3 i.args .normal) [] (w.forCall tape i)) :=
  ChangeSpec.witness6 (enc := enc) (C := Try.checked) false ⟨#[], #[.slice none 0 0, .slice none 0 0], []⟩ 8 (by kernel_rfl) (by kernel_rfl) (by kernel_rfl) (by kernel_rfl)

set_option maxRecDepth 100000 in
set_option maxHeartbeats 4000000 in
theorem fnMatchings_row (os : Os) (started : os.Started) (H : Type) (enc : TypeId × Value → H) :
    ReturnsInHanded {} Try.checked os 3 .any (Rows.fnMatchingsSpec.pre6 enc Try.checked.prog Try.f3 [] false) (Rows.fnMatchingsSpec.post enc Try.checked.prog Try.f3 false true false false) :=
  lifted_of (C := Try.checked) (s := Rows.fnMatchingsSpec) (tb := 4) (by kernel_rfl) (by kernel_rfl) (by kernel_rfl) (by kernel_rfl) Try.func3 rfl Try.underlying4 rfl
      (fun H ds h => by
        have h2 : ds.length = 2 := by rw [Try.params3] at h; exact h
        match ds, h2 with
        | [_, _], _ => rfl)
      fnMatchings_law os started H enc (fnMatchings_wit os H enc)

set_option maxRecDepth 100000 in
set_option maxHeartbeats 4000000 in
theorem fnMatchings_holds : Rows.FnMatchingsSaid :=
  OpenClaim.holds_of_wide 3 Try.f3 rfl rfl rfl rfl rfl rfl rfl ⟨rfl, rfl, rfl, rfl, rfl⟩ rfl rfl rfl rfl rfl (by kernel_rfl) Try.func3 (by kernel_rfl)
    (of_decide_eq_true (by kernel_rfl)) (by unfold Func.isWrapper; first | (rw [if_pos (by decide +kernel)]; kernel_rfl) | (rw [if_neg (by decide +kernel)]; exact ⟨rfl, rfl⟩))
    (fun os started H enc _ => fnMatchings_row os started H enc)

#print axioms fnMatchings_holds
end Go.Proofs.Ytadlemadnifohaa
