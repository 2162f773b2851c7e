/-
  FnCertificatesOf: for all arguments the law returns true, and its arguments read afterwards as before. No condition.
-/
import Derived.Test.YtadlemadnifohaaRows
import Derived.Test.YtadlemadnifohaaBase
import Derived.Test.YtadlemadnifohaaSpot
import Derived.Test.YtadlemadnifohaaSlice
import Derived.Test.YtadlemadnifohaaLawS
import Derived.Test.YtadlemadnifohaaMark
import Derived.Test.YtadlemadnifohaaOpen
import Derived.Test.YtadlemadnifohaaTrod
import Derived.Test.YtadlemadnifohaaInts
import Derived.Test.YtadlemadnifohaaIntsL
import Derived.Test.YtadlemadnifohaaTurned
import Derived.Test.YtadlemadnifohaaTrans
import Derived.Test.YtadlemadnifohaaOpenT
import Derived.Test.YtadlemadnifohaaRowsI
import Derived.Test.YtadlemadnifohaaCosts
import Derived.Test.YtadlemadnifohaaAppend
import Derived.Test.YtadlemadnifohaaAppendE
import Derived.Test.YtadlemadnifohaaForm
import Derived.Test.YtadlemadnifohaaCopyI
import Derived.Test.YtadlemadnifohaaMatch
import Derived.Test.YtadlemadnifohaaMatS
import Derived.Test.YtadlemadnifohaaMatchP
import Derived.Test.YtadlemadnifohaaMatchQ
import Derived.Test.YtadlemadnifohaaOnes
import Derived.Test.YtadlemadnifohaaTable
import Derived.Test.YtadlemadnifohaaLeast
import Derived.Test.YtadlemadnifohaaLeastM
import Derived.Test.YtadlemadnifohaaRowB
import Derived.Test.YtadlemadnifohaaFcP
import Derived.Deep.CutRange
import Derived.Deep.DeepCutAuto
import Derived.Test.YtadlemadnifohaaPair
import Derived.Test.YtadlemadnifohaaGreedy
import Derived.Test.YtadlemadnifohaaCount
import Derived.Test.YtadlemadnifohaaCertP
import Derived.Test.YtadlemadnifohaaFmP
import Derived.Test.YtadlemadnifohaaQ
import Derived.Test.YtadlemadnifohaaDrawC
import Derived.Test.YtadlemadnifohaaDrawM
import Derived.Test.YtadlemadnifohaaDrawU
import Derived.Test.YtadlemadnifohaaCert
import Derived.Test.YtadlemadnifohaaGreatP
import Derived.Test.YtadlemadnifohaaGreat
import Derived.Test.YtadlemadnifohaaWithin
import Derived.Test.YtadlemadnifohaaPut
import Derived.Test.YtadlemadnifohaaPutW
import Derived.Test.YtadlemadnifohaaGreatS
import Derived.Test.YtadlemadnifohaaFcP
import Derived.Deep.CutRange
import Derived.Deep.DeepCutAuto
namespace Go.Proofs.Ytadlemadnifohaa
open Go.RowKit Go.ChangeShapes Go.WideShapes Go.Sort

set_option maxRecDepth 100000 in
set_option maxHeartbeats 16000000 in
theorem fnCertificatesOf_walk (v u : Value) (n m : Nat) (w : World) (hv : Bytes w v n) (hu : Bytes w u m) (hn : n ≤ 9223372036854775807) (hm : m ≤ 9223372036854775807) :
    Calls Try.prog 4 #[v, u] w (Ans w (.bool true)) := by
  obtain ⟨z, hz⟩ : ∃ z, IntKind.i64.wrap ((n : Int) + m) = z := ⟨_, rfl⟩
  have HV := Lib.hid hv
  have HU := Lib.hid hu
  obtain ⟨Av, cv, rfl, _, _⟩ := hv
  obtain ⟨Au, cu, rfl, _, _⟩ := hu
  by_cases hz1 : z > 1048576
  · go_enter Try.func4, Try.ntmps4
    go_wp2_with fail
    go_ret
    exact ⟨rfl, Below.refl _ _⟩
  · go_enter Try.func4, Try.ntmps4
    have hW_0 := Below.refl w.heap.size w
    go_wp2_with fail
    refine (drawIsCertificate_g _ n _ HV.out hn).mono ?_
    rintro e w1 ⟨tc, nc, R, F, tr, X, mk, tk, Y, rfl, hc, hr, hk, hmk, hnc, hR, hb_0⟩
    have hW_1 := up_trans hW_0 hb_0
    have hRR : ∀ i, i < nc → R i ≤ 1048576 := fun i hi => by have := hR i hi; omega
    have HCi := Lib.hid (fun W (hW : IRows W tc nc R F) (hX : Ints W tr nc X) (hY : Ints W tk mk Y) => iIsCertificate_g tc tr tk nc R F nc X mk Y W hW hX hY (by omega) hRR (by omega) (by omega))
    have HCs := Lib.hid (fun W (hW : IRows W tc nc R F) (hX : Ints W tr nc X) (hY : Ints W tk mk Y) => sIsCertificate_g tc tr tk nc R F nc X mk Y W hW hX hY (by omega) hRR (by omega) (by omega))
    have HLi := Lib.hid (fun W (hW : IRows W tc nc R F) => iLeastMatching_g tc nc R F W hW (by omega) hRR)
    have HLs := Lib.hid (fun W (hW : IRows W tc nc R F) => sLeastMatching_g tc nc R F W hW (by omega) hRR)
    obtain ⟨b1, hb1⟩ : ∃ b, ctB nc F X Y = b := ⟨_, rfl⟩
    obtain ⟨b2, hb2⟩ : ∃ b, ctOk nc R F nc X mk Y = b := ⟨_, rfl⟩
    rw [show ctV nc R F nc X mk Y = .tuple #[.bool (b2 && b1), .bool b2] by unfold ctV; rw [hb1, hb2]] at HCi HCs
    obtain ⟨b3, hb3⟩ : ∃ b, (b2 && b1) = b := ⟨_, rfl⟩
    rw [hb3] at HCi HCs
    have HB1 := Lib.hid hb1
    have HB2 := Lib.hid hb2
    have HB3 := Lib.hid hb3
    clear hb1 hb2 hb3 hRR hR
    have eb2 : (b2 != b2) = false := by simp
    have eb3 : (b3 != b3) = false := by simp
    go_wp2_with fail
    refine (HCi.out _ hc hr hk).mono ?_
    rintro e w2 ⟨rfl, hb_1⟩
    have hW_2 := up_trans hW_1 hb_1
    go_wp2_with fail
    have h_c_2 := hc.up hb_1
    have h_r_2 := hr.up hb_1
    have h_k_2 := hk.up hb_1
    refine (HCs.out _ h_c_2 h_r_2 h_k_2).mono ?_
    rintro e w3 ⟨rfl, hb_2⟩
    have hW_3 := up_trans hW_2 hb_2
    go_wp2_with fail
    refine (drawLeastGreatest_g _ m _ (HU.out.up hW_3) hm).mono ?_
    rintro e w4 ⟨ta, na, Ra, Fa, rfl, hta, hna, hRa, hb_3⟩
    have hW_4 := up_trans hW_3 hb_3
    have hRRa : ∀ i, i < na → Ra i ≤ 1048576 := fun i hi => by have := hRa i hi; omega
    have HGi := Lib.hid (fun W (hW : IRows W ta na Ra Fa) => iLeastGreatest_g ta na Ra Fa W hW (by omega) hRRa)
    have HGs := Lib.hid (fun W (hW : IRows W ta na Ra Fa) => sLeastGreatest_g ta na Ra Fa W hW (by omega) hRRa)
    obtain ⟨q, hq⟩ : ∃ q, acB na Ra Fa = q := ⟨_, rfl⟩
    rw [hq] at HGi HGs
    obtain ⟨zg, hzg⟩ : ∃ zg, (if q then lgV na Fa else 0) = zg := ⟨_, rfl⟩
    rw [hzg] at HGi HGs
    have hmx := sel_le q na
    obtain ⟨mm, hmm⟩ : ∃ mm, sel q na = mm := ⟨_, rfl⟩
    rw [hmm] at HGi HGs hmx
    have HQ := Lib.hid hq
    have HZG := Lib.hid hzg
    have HMM := Lib.hid hmm
    clear hq hzg hmm hRRa hRa
    have eq0 : (q != q) = false := by simp
    have ezg : (zg != zg) = false := by simp
    as_aux_lemma =>
    go_wp2_with fail
    refine (HGi.out _ hta).mono ?_
    rintro e w5 ⟨x13, rfl, h13, hb_4⟩
    have hW_5 := up_trans hW_4 hb_4
    go_wp2_with fail
    have h_a_5 := hta.up hb_4
    refine (HGs.out _ h_a_5).mono ?_
    rintro e w6 ⟨x16, rfl, h16, hb_5⟩
    have hW_6 := up_trans hW_5 hb_5
    go_wp2_with fail
    have h_x13_6 := h13.up hb_5
    refine (qInts_g x13 x16 _ _ _ h_x13_6.ints h16.ints (by omega)).mono ?_
    rintro e w7 ⟨rfl, hb_6⟩
    have hW_7 := up_trans hW_6 hb_6
    have h_c_3 := h_c_2.up hb_2
    have h_c_4 := h_c_3.up hb_3
    have h_c_5 := h_c_4.up hb_4
    have h_c_6 := h_c_5.up hb_5
    have h_c_7 := h_c_6.up hb_6
    have h_r_3 := h_r_2.up hb_2
    have h_r_4 := h_r_3.up hb_3
    have h_r_5 := h_r_4.up hb_4
    have h_r_6 := h_r_5.up hb_5
    have h_r_7 := h_r_6.up hb_6
    have h_k_3 := h_k_2.up hb_2
    have h_k_4 := h_k_3.up hb_3
    have h_k_5 := h_k_4.up hb_4
    have h_k_6 := h_k_5.up hb_5
    have h_k_7 := h_k_6.up hb_6
    as_aux_lemma =>
    go_upto_region 11 with fail
    go_cut [108] (fun s wx => s = .bool (b2 && b3) ∧ w7 = wx)
    case first =>
      cases b2 with
      | false =>
        go_wp2_with fail
        go_meet
        exact ⟨rfl, rfl⟩
      | true =>
        go_wp2_with fail
        go_meet
        exact ⟨by simp, rfl⟩
    case rest =>
    obtain ⟨rfl, ec⟩ := hcut
    subst ec
    obtain ⟨b4, hb4⟩ : ∃ b, (b2 && b3) = b := ⟨_, rfl⟩
    rw [hb4]
    have HB4 := Lib.hid hb4
    clear hb4
    as_aux_lemma =>
    go_upto_if 108 with fail
    go_cut [19, 20, 21, 22, 23, 24] (fun _ _ _ _ _ _ wx => Below w7.heap.size w7 wx)
    case first =>
      as_aux_lemma =>
      cases b4 with
      | false =>
        go_wp2_with fail
        go_meet
        exact Below.refl _ _
      | true =>
          have e4 : b2 = true ∧ b3 = true := by have := HB4.out; simpa using this
          obtain ⟨e2, e3⟩ := e4
          subst e2
          subst e3
          have e1 : b1 = true := by have := HB3.out; simpa using this
          subst e1
          obtain ⟨ha, _, rfl, h12, hX, hY, hsum⟩ := ct_weak HB2.out HB1.out
          rw [ha] at HLi HLs
          simp only [if_true] at HLi HLs
          obtain ⟨zl, hzl⟩ : ∃ zl, lmS mk F = zl := ⟨_, rfl⟩
          rw [hzl] at HLi HLs hsum
          have HS1 := Lib.hid (fun W (h : Ints W tr mk X) => qSum_g tr mk X W h (by omega) (fun i hi => by have := hX i hi; omega))
          have HS2 := Lib.hid (fun W (h : Ints W tk mk Y) => qSum_g tk mk Y W h (by omega) (fun i hi => by have := hY i hi; omega))
          have d1 := sumN_bd (X := X) (M := 2100000) (by omega) mk hX
          have d2 := sumN_bd (X := Y) (M := 2100000) (by omega) mk hY
          have d3 : (mk : Int) * 2100000 ≤ 12 * 2100000 := Int.mul_le_mul_of_nonneg_right (by omega) (by omega)
          obtain ⟨s1, hs1⟩ : ∃ s, sumN X mk = s := ⟨_, rfl⟩
          obtain ⟨s2, hs2⟩ : ∃ s, sumN Y mk = s := ⟨_, rfl⟩
          rw [hs1] at HS1 d1 hsum
          rw [hs2] at HS2 d2 hsum
          have hws : IntKind.i64.wrap (s1 + s2) = s1 + s2 := IntWalk.i64_in _ (by omega)
          have hnl : ¬ s1 + s2 > zl := by omega
          have ezl : (zl != zl) = false := by simp
          have HC := Lib.hid h_c_7
          have HRr := Lib.hid h_r_7
          have HRk := Lib.hid h_k_7
          clear hs1 hs2 hzl hX hY d1 d2 d3 ha
          go_wp2_with fail
          refine (HLi.out _ HC.out).mono ?_
          rintro e v1 ⟨y1, rfl, hy1, hv1⟩
          go_wp2_with fail
          refine (HLs.out _ (HC.out.up hv1)).mono ?_
          rintro e v2 ⟨y2, rfl, hy2, hv2⟩
          have hv12 := up_trans hv1 hv2
          go_wp2_with fail
          refine (HS1.out _ (HRr.out.up hv12)).mono ?_
          rintro e v3 ⟨rfl, hv3⟩
          have hv13 := up_trans hv12 hv3
          go_wp2_with fail
          refine (HS2.out _ (HRk.out.up hv13)).mono ?_
          rintro e v4 ⟨rfl, hv4⟩
          go_wp2_with fail
          go_meet
          exact up_trans hv13 hv4
    case rest =>
    as_aux_lemma =>
    obtain ⟨w8, rfl⟩ : ∃ W : World, W = wc := ⟨_, rfl⟩
    have hb_7 := hcut
    clear hcut
    have hW_8 := up_trans hW_7 hb_7
    have h_a_6 := h_a_5.up hb_5
    have h_a_7 := h_a_6.up hb_6
    have h_a_8 := h_a_7.up hb_7
    have h_x16_7 := h16.up hb_6
    have h_x16_8 := h_x16_7.up hb_7
    cases q with
    | false =>
      go_wp2_with fail
      go_ret
      exact ⟨rfl, hW_8⟩
    | true =>
      have GF := Lib.hid (great_facts HQ.out)
      have hmm := HMM.out
      rw [show sel true na = na from rfl] at hmm
      subst hmm
      have eg := HZG.out
      simp only [if_true] at eg
      have hn1 := GF.out.n1
      have hmxz := GF.out.mx
      rw [eg] at hmxz
      have HMX := Lib.hid hmxz
      have HMK := Lib.hid (fun i k => show mkV na Fa i k = if Fa i k ≥ zg then 1 else 0 by unfold mkV; rw [eg])
      obtain ⟨A9, c9, e9, _, hr9⟩ := h_x16_8.ints
      obtain ⟨b9, o9, f9, hw9⟩ := hr9 (by omega)
      obtain ⟨bt, ot, ct, B, O, C, et, hM⟩ := mat_of h_a_8 HQ.out
      have HW9 := Lib.hid hw9
      have HMt := Lib.hid hM
      have HT := Lib.hid h_a_8
      have HP := Lib.hid (fun i => lgP_lgN (n := na) (F := Fa) i)
      clear eg hr9 hw9 hM hmxz h_a_8 h_x16_8
      subst f9 e9 et
      go_wp2_with fail
      go_loopw [25, 145] (fun s i wr => ∃ k : Nat, k ≤ na ∧ i = .int .i64 k ∧ s = .int .i64 (mxF Fa (lgN na Fa) k) ∧ Below w8.heap.size w8 wr) (fun _ i _ => na - (intOf i).toNat)
      case atStart => exact ⟨0, by omega, rfl, rfl, Below.refl _ _⟩
      case round =>
        as_aux_lemma =>
        obtain ⟨k, hk, rfl, rfl, hbk⟩ := hrel
        by_cases hlt : k < na
        · have g9 := up_keep hbk (HW9.out k hlt)
          rw [HP.out k] at g9
          have hp := GF.out.at_ k hlt
          have gr := up_keep hbk (HMt.out.row k hlt)
          have gf := up_keep hbk (HMt.out.at hlt hp)
          have HS := Lib.hid (show mxF Fa (lgN na Fa) (k + 1) = if Fa k (lgN na Fa k) > mxF Fa (lgN na Fa) k then Fa k (lgN na Fa k) else mxF Fa (lgN na Fa) k from rfl)
          generalize mxF Fa (lgN na Fa) k = mx at *
          generalize lgN na Fa k = p at *
          generalize Fa k p = f at *
          have j1 : (k : Int) < (na : Int) := by omega
          have j2 : (p : Int) < (na : Int) := by omega
          by_cases hf : f > mx
          · have HFx := Lib.hid hf
            have hfd : decide (f > mx) = true := decide_eq_true hf
            clear hf
            have hf : mx < f := HFx.out
            go_wp2_with fail
            go_roundw
            case rel => exact ⟨k + 1, by omega, by go_num, by rw [HS.out, if_pos HFx.out], hbk⟩
            case measure => simp [intOf]; omega
          · have HFx := Lib.hid hf
            go_wp2_with fail
            go_roundw
            case rel => exact ⟨k + 1, by omega, by go_num, by rw [HS.out, if_neg HFx.out], hbk⟩
            case measure => simp [intOf]; omega
        · have ek : k = na := by omega
          subst ek
          rw [HMX.out]
          obtain ⟨v6, rfl⟩ : ∃ W : World, W = wr := ⟨_, rfl⟩
          have hsv := hbk.size
          as_aux_lemma =>
          go_wp2_with fail
          go_loopw [28, 172] (fun q i wr => ∃ j : Nat, j ≤ k ∧ i = .int .i64 j ∧ OwnB v6.heap.size wr q j (fun _ => k) (mkV k Fa) ∧ Below v6.heap.size v6 wr) (fun _ i _ => k - (intOf i).toNat)
          case atStart => exact ⟨0, by omega, rfl, OwnB.nil _ _ _ _, Below.refl _ _⟩
          case round =>
            as_aux_lemma =>
            obtain ⟨j, hj, rfl, how, hb⟩ := hrel
            by_cases hlt : j < k
            · have j1 : (j : Int) < (k : Int) := by omega
              have gr := up_keep (up_trans hbk hb) (HMt.out.row j hlt)
              have HB := Lib.hid how
              clear how
              obtain ⟨v7, rfl⟩ : ∃ W : World, W = wr := ⟨_, rfl⟩
              go_wp2_with fail
              go_loopw [31, 178] (fun q i wi => ∃ t : Nat, t ≤ k ∧ i = .int .i64 t ∧ OwnN v7.heap.size wi q t (mkV k Fa j) ∧ Below v7.heap.size v7 wi) (fun _ i _ => k - (intOf i).toNat)
              case atStart => exact ⟨0, by omega, rfl, OwnN.nil _ _ _, Below.refl _ _⟩
              case round =>
                as_aux_lemma =>
                obtain ⟨t, ht, rfl, hot, hbt⟩ := hrel
                have HN := Lib.hid hot
                obtain ⟨A5, c5, e5, _, _⟩ := hot.shape
                clear hot
                subst e5
                by_cases hlt2 : t < k
                · have gf := up_keep (up_trans (up_trans hbk hb) hbt) (HMt.out.at hlt hlt2)
                  have j2 : (t : Int) < (k : Int) := by omega
                  have hv : mkV k Fa j t = if Fa j t ≥ zg then 1 else 0 := HMK.out j t
                  generalize Fa j t = f at *
                  have hs7 := hbt.size
                  by_cases hf : f ≥ zg
                  · rw [if_pos hf] at hv
                    have HVx := Lib.hid hv
                    clear hv
                    go_wp2_with (at_builtin; refine wpList_app_int2 rfl (.tmp 185) (.tmp 187) rfl v7.heap.size _ t (mkV k Fa j) rfl rfl HVx.out (by simp [go_sem]) (OwnN.up HN.out (show Below wr.heap.size wr _ from (by (repeat (first | with_reducible exact Below.refl _ _ | with_reducible assumption | with_reducible refine up_alloc ?_ _ | with_reducible refine up_drew ?_ | with_reducible refine up_drewN ?_ _ | (with_reducible refine up_set ?_ ?hset _; case hset => first | (simp; done) | (simp; omega) | omega) | with_reducible refine up_trans ?_ (by with_reducible assumption)))))) (Nat.le_trans hs7 (show Below wr.heap.size wr _ from (by (repeat (first | with_reducible exact Below.refl _ _ | with_reducible assumption | with_reducible refine up_alloc ?_ _ | with_reducible refine up_drew ?_ | with_reducible refine up_drewN ?_ _ | (with_reducible refine up_set ?_ ?hset _; case hset => first | (simp; done) | (simp; omega) | omega) | with_reducible refine up_trans ?_ (by with_reducible assumption))))).size) (by omega) ?_; intro v8 w8 ho8 hb8 _ _; replace hb8 := hbt.trans (((show Below wr.heap.size wr _ from (by (repeat (first | with_reducible exact Below.refl _ _ | with_reducible assumption | with_reducible refine up_alloc ?_ _ | with_reducible refine up_drew ?_ | with_reducible refine up_drewN ?_ _ | (with_reducible refine up_set ?_ ?hset _; case hset => first | (simp; done) | (simp; omega) | omega) | with_reducible refine up_trans ?_ (by with_reducible assumption))))).mono hs7).trans hb8))
                    go_roundw
                    case rel => exact ⟨t + 1, by omega, by go_num, ho8, hb8⟩
                    case measure => simp [intOf]; omega
                  · rw [if_neg hf] at hv
                    have HVx := Lib.hid hv
                    clear hv
                    go_wp2_with (at_builtin; refine wpList_app_int2 rfl (.tmp 185) (.tmp 187) rfl v7.heap.size _ t (mkV k Fa j) rfl rfl HVx.out (by simp [go_sem]) (OwnN.up HN.out (show Below wr.heap.size wr _ from (by (repeat (first | with_reducible exact Below.refl _ _ | with_reducible assumption | with_reducible refine up_alloc ?_ _ | with_reducible refine up_drew ?_ | with_reducible refine up_drewN ?_ _ | (with_reducible refine up_set ?_ ?hset _; case hset => first | (simp; done) | (simp; omega) | omega) | with_reducible refine up_trans ?_ (by with_reducible assumption)))))) (Nat.le_trans hs7 (show Below wr.heap.size wr _ from (by (repeat (first | with_reducible exact Below.refl _ _ | with_reducible assumption | with_reducible refine up_alloc ?_ _ | with_reducible refine up_drew ?_ | with_reducible refine up_drewN ?_ _ | (with_reducible refine up_set ?_ ?hset _; case hset => first | (simp; done) | (simp; omega) | omega) | with_reducible refine up_trans ?_ (by with_reducible assumption))))).size) (by omega) ?_; intro v8 w8 ho8 hb8 _ _; replace hb8 := hbt.trans (((show Below wr.heap.size wr _ from (by (repeat (first | with_reducible exact Below.refl _ _ | with_reducible assumption | with_reducible refine up_alloc ?_ _ | with_reducible refine up_drew ?_ | with_reducible refine up_drewN ?_ _ | (with_reducible refine up_set ?_ ?hset _; case hset => first | (simp; done) | (simp; omega) | omega) | with_reducible refine up_trans ?_ (by with_reducible assumption))))).mono hs7).trans hb8))
                    go_roundw
                    case rel => exact ⟨t + 1, by omega, by go_num, ho8, hb8⟩
                    case measure => simp [intOf]; omega
                · have et : t = k := by omega
                  subst et
                  have hs6 := hb.size
                  go_wp2_with (at_builtin; refine wpList_app_row (wa := v7) rfl (.tmp 190) (.tmp 192) rfl v6.heap.size _ j (fun _ => t) (mkV t Fa) rfl rfl (by simp [go_sem]) HB.out hs6 (show Below v7.heap.size v7 _ from (by (repeat (first | with_reducible exact Below.refl _ _ | with_reducible assumption | with_reducible refine up_alloc ?_ _ | with_reducible refine up_drew ?_ | with_reducible refine up_drewN ?_ _ | (with_reducible refine up_set ?_ ?hset _; case hset => first | (simp; done) | (simp; omega) | omega) | with_reducible refine up_trans ?_ (by with_reducible assumption))))) (HN.out.ownI.up (show Below wr.heap.size wr _ from (by (repeat (first | with_reducible exact Below.refl _ _ | with_reducible assumption | with_reducible refine up_alloc ?_ _ | with_reducible refine up_drew ?_ | with_reducible refine up_drewN ?_ _ | (with_reducible refine up_set ?_ ?hset _; case hset => first | (simp; done) | (simp; omega) | omega) | with_reducible refine up_trans ?_ (by with_reducible assumption)))))) (by omega) ?_; intro v9 w9 ho9 hb9; replace hb9 := hb.trans (((show Below v7.heap.size v7 _ from (by (repeat (first | with_reducible exact Below.refl _ _ | with_reducible assumption | with_reducible refine up_alloc ?_ _ | with_reducible refine up_drew ?_ | with_reducible refine up_drewN ?_ _ | (with_reducible refine up_set ?_ ?hset _; case hset => first | (simp; done) | (simp; omega) | omega) | with_reducible refine up_trans ?_ (by with_reducible assumption))))).mono hs6).trans hb9))
                  go_roundw
                  case rel => exact ⟨j + 1, by omega, by go_num, ho9, hb9⟩
                  case measure => simp [intOf]; omega
            · have ej : j = k := by omega
              subst ej
              have h12 := GF.out.n12
              have hrw := how.rw.rows
              obtain ⟨A5, c5, e5, _⟩ := hrw.shape
              subst e5
              have HMi := Lib.hid (fun W (hW : IRows W (.slice A5 j c5) j (fun _ => j) (mkV j Fa)) => iLeastMatching_g (.slice A5 j c5) j (fun _ => j) (mkV j Fa) W hW (by omega) (fun i hi => by omega))
              have HMs := Lib.hid (fun W (hW : IRows W (.slice A5 j c5) j (fun _ => j) (mkV j Fa)) => sLeastMatching_g (.slice A5 j c5) j (fun _ => j) (mkV j Fa) W hW (by omega) (fun i hi => by omega))
              rw [GF.out.ok] at HMi HMs
              simp only [if_true] at HMi HMs
              obtain ⟨zl, hzl⟩ : ∃ zl, lmS j (mkV j Fa) = zl := ⟨_, rfl⟩
              rw [hzl] at HMi HMs
              have hz1 : zl ≥ 1 := by have := GF.out.one; omega
              have ezl : (zl == zl) = true := by simp
              have HQr := Lib.hid hrw
              clear hrw hzl how
              as_aux_lemma =>
              go_wp2_with fail
              refine (HMi.out _ HQr.out).mono ?_
              rintro e v8 ⟨y1, rfl, hy1, hv8⟩
              go_wp2_with fail
              refine (HMs.out _ (HQr.out.up hv8)).mono ?_
              rintro e v9 ⟨y2, rfl, hy2, hv9⟩
              go_wp2_with fail
              go_ret
              exact ⟨rfl, (hW_8.trans (hbk.mono hW_8.size)).trans ((hb.trans ((up_trans hv8 hv9).mono hb.size)).mono (by have := hW_8.size; omega))⟩

set_option maxRecDepth 100000 in
theorem fnCertificatesOf_law : LawWalk Try.prog 4 Try.f4 := by
  intro H enc W base args ds ps hval hA
  rw [Try.params4] at hval hA
  obtain ⟨v0, v1, d0, d1, p0, p1, rfl, rfl, rfl, h0, h1⟩ := trodAll_two hA
  obtain ⟨n, hs, hn⟩ := open_bytes (hval 0 _ v0 rfl rfl) h0
  obtain ⟨m, ht, hm⟩ := open_bytes (hval 1 _ v1 rfl rfl) h1
  exact fnCertificatesOf_walk v0 v1 n m W hs ht hn hm

set_option maxRecDepth 100000 in
set_option maxHeartbeats 4000000 in
theorem fnCertificatesOf_wit (os : Os) (H : Type) (enc : TypeId × Value → H) : ∃ (w : World) (tape : Tape) (i : Input), w.os = os ∧ (w.forCall tape i).Shaped Try.checked.prog ∧ i.vars = [] ∧ Input.okWide Try.checked.prog (w.forCall tape i) .any w.heap.size 4 i ∧
      Rows.fnCertificatesOfSpec.pre6 enc Try.checked.prog Try.f4 [] false (w.forCall tape i).memory i.args ∧ ({} : Assume).holds Try.checked.prog (lone (Frame.enter Try.checked.prog 4 i.args .normal) [] (w.forCall tape i)) :=
  ChangeSpec.witness6 (enc := enc) (C := Try.checked) false ⟨#[], #[.slice none 0 0, .slice none 0 0], []⟩ 8 (by kernel_rfl) (by kernel_rfl) (by kernel_rfl) (by kernel_rfl)

set_option maxRecDepth 100000 in
set_option maxHeartbeats 4000000 in
theorem fnCertificatesOf_row (os : Os) (started : os.Started) (H : Type) (enc : TypeId × Value → H) :
    ReturnsInHanded {} Try.checked os 4 .any (Rows.fnCertificatesOfSpec.pre6 enc Try.checked.prog Try.f4 [] false) (Rows.fnCertificatesOfSpec.post enc Try.checked.prog Try.f4 false true false false) :=
  lifted_of (C := Try.checked) (s := Rows.fnCertificatesOfSpec) (tb := 4) (by kernel_rfl) (by kernel_rfl) (by kernel_rfl) (by kernel_rfl) Try.func4 rfl Try.underlying4 rfl
      (fun H ds h => by
        have h2 : ds.length = 2 := by rw [Try.params4] at h; exact h
        match ds, h2 with
        | [_, _], _ => rfl)
      fnCertificatesOf_law os started H enc (fnCertificatesOf_wit os H enc)

set_option maxRecDepth 100000 in
set_option maxHeartbeats 4000000 in
theorem fnCertificatesOf_holds : Rows.FnCertificatesOfSaid :=
  OpenClaim.holds_of_wide 4 Try.f4 rfl rfl rfl rfl rfl rfl rfl ⟨rfl, rfl, rfl, rfl, rfl⟩ rfl rfl rfl rfl rfl (by kernel_rfl) Try.func4 (by kernel_rfl)
    (of_decide_eq_true (by kernel_rfl)) (by unfold Func.isWrapper; first | (rw [if_pos (by decide +kernel)]; kernel_rfl) | (rw [if_neg (by decide +kernel)]; exact ⟨rfl, rfl⟩))
    (fun os started H enc _ => fnCertificatesOf_row os started H enc)

#print axioms fnCertificatesOf_holds
end Go.Proofs.Ytadlemadnifohaa
