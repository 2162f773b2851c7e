/-
  BestSwap on both sides.
-/
import Derived.Test.YtkmnkodgmngaeaaRows
import Derived.Test.YtkmnkodgmngaeaaBase
import Derived.Test.YtkmnkodgmngaeaaSpot
import Derived.Test.YtkmnkodgmngaeaaSlice
import Derived.Test.YtkmnkodgmngaeaaChart
import Derived.Test.YtkmnkodgmngaeaaLawS
import Derived.Test.YtkmnkodgmngaeaaMark
import Derived.Test.YtkmnkodgmngaeaaOpen
import Derived.Test.YtkmnkodgmngaeaaTrod
import Derived.Test.YtkmnkodgmngaeaaInts
import Derived.Test.YtkmnkodgmngaeaaIntsL
import Derived.Test.YtkmnkodgmngaeaaTurned
import Derived.Test.YtkmnkodgmngaeaaTrans
import Derived.Test.YtkmnkodgmngaeaaAppend
import Derived.Test.YtkmnkodgmngaeaaAppendE
import Derived.Test.YtkmnkodgmngaeaaForm
import Derived.Test.YtkmnkodgmngaeaaMatch
import Derived.Test.YtkmnkodgmngaeaaChanged
import Derived.Test.YtkmnkodgmngaeaaIsTrans
import Derived.Test.YtkmnkodgmngaeaaCopyI
import Derived.Test.YtkmnkodgmngaeaaNewT
import Derived.Test.YtkmnkodgmngaeaaMoves
import Derived.Test.YtkmnkodgmngaeaaAppendM
import Derived.Test.YtkmnkodgmngaeaaMovesOf
import Derived.Test.YtkmnkodgmngaeaaSwapT
import Derived.Deep.RegionHeld3

namespace Go.Proofs.Ytkmnkodgmngaeaa
open Go.RowKit Go.ChangeShapes Go.WideShapes Go.Sort

theorem TrOk.swap {d : TrD} (h : TrOk d) {i j : Nat} (hi : i < d.l) (hj : j < d.l) : TrOk (swT d i j) :=
  ⟨h.n12, h.n1, h.lp, h.mp, h.c1, h.c64, h.sx, h.su, fun t ht => by
    show 0 ≤ swP i j d.P t ∧ swP i j d.P t < d.m
    unfold swP
    split
    · exact h.pp i hi
    · split
      · exact h.pp j hj
      · exact h.pp t ht⟩
/-- What a swap makes less. -/
def lessM (d : TrD) (i k : Nat) : Int := sumM d d.l - sumM (swT d i k) d.l
def bsStep (d : TrD) (i k : Nat) (s : Nat × Nat × Int) : Nat × Nat × Int := if s.2.2 < lessM d i k then (i, k, lessM d i k) else s
def bsIn (d : TrD) (i : Nat) (s : Nat × Nat × Int) : Nat → Nat × Nat × Int
  | 0 => s
  | j + 1 => bsStep d i (i + 1 + j) (bsIn d i s j)
def bsOut (d : TrD) : Nat → Nat × Nat × Int
  | 0 => (0, 0, 0)
  | i + 1 => bsIn d i (bsOut d i) (d.n - (i + 1))
theorem lessM_bd {d : TrD} (h : TrOk d) {i k : Nat} (hi : i < d.l) (hk : k < d.l) : -25079808 ≤ lessM d i k ∧ lessM d i k ≤ 25079808 := by
  have a := sumM_bd h d.l (Nat.le_refl _)
  have b := sumM_bd (h.swap hi hk) d.l (Nat.le_refl _)
  have := h.lp; have := h.n12
  unfold lessM
  omega
def bsV (d : TrD) : Value := if trB d && (bsOut d d.n).2.2 != 0 then .tuple #[.int .i64 ((bsOut d d.n).1 : Nat), .int .i64 ((bsOut d d.n).2.1 : Nat), .int .i64 (bsOut d d.n).2.2, .bool true] else .tuple #[.int .i64 0, .int .i64 0, .int .i64 0, .bool false]
theorem bsV_shape (d : TrD) : ∃ a b c q, bsV d = .tuple #[.int .i64 a, .int .i64 b, .int .i64 c, .bool q] := by
  unfold bsV
  split <;> exact ⟨_, _, _, _, rfl⟩
theorem squareSum_sw (v : Value) (d : TrD) (i j : Nat) (w : World) (h : Trn w v (swT d i j)) (hd : TrOk (swT d i j)) : Calls Try.prog 127 #[v] w (Ans w (.int .i64 (sumM (swT d i j) d.l))) := squareSum_g v (swT d i j) w h hd
theorem asSum_sw (v : Value) (d : TrD) (i j : Nat) (w : World) (h : Trn w v (swT d i j)) (hd : TrOk (swT d i j)) : Calls Try.prog 126 #[v] w (Ans w (.int .i64 (sumM (swT d i j) d.l))) := asSum_g v (swT d i j) w h hd
set_option maxRecDepth 100000 in
set_option maxHeartbeats 4000000 in
theorem iBestSwap_g (v : Value) (d : TrD) (w : World) (h : Trn w v d) (hn : d.n ≤ 1048576) (hm : d.m ≤ 1048576) (hl : d.l ≤ 1048576) : Calls Try.prog 31 #[v] w (Ans w (bsV d)) := by
  obtain ⟨f, t, p, rfl, hf, ht, hp⟩ := h
  have HF := Lib.hid hf
  have HT := Lib.hid ht
  have HP := Lib.hid hp
  obtain ⟨A1, c1, rfl, b1⟩ := hf.shape
  obtain ⟨A2, c2, rfl, b2⟩ := ht.shape
  obtain ⟨A3, c3, rfl, b3⟩ := hp.shape
  clear hf ht hp
  have HTr := Lib.hid (fun W (hW : Below w.heap.size w W) => (show Trn W (.agg #[.slice A1 d.n c1, .slice A2 d.m c2, .int .i64 d.c, .slice A3 d.l c3]) d from ⟨_, _, _, rfl, HF.out.up hW, HT.out.up hW, HP.out.up hW⟩))
  have HG := Lib.hid (fun W hW => isTransition_g _ d W (HTr.out W hW) hn hm hl)
  cases e1 : trB d with
  | false =>
    rw [e1] at HG
    rw [show bsV d = .tuple #[.int .i64 0, .int .i64 0, .int .i64 0, .bool false] by simp [bsV, e1]]
    clear e1
    go_enter Try.func31, Try.ntmps31
    go_wp2_with fail
    refine (HG.out _ (by (repeat (first | with_reducible exact Below.refl _ _ | with_reducible assumption | with_reducible refine up_alloc ?_ _ | with_reducible refine up_drew ?_ | with_reducible refine up_drewN ?_ _ | (with_reducible refine up_set ?_ ?hset _; case hset => first | (simp; done) | (simp; omega) | omega) | with_reducible refine up_trans ?_ (by with_reducible assumption))))).mono ?_
    rintro e w1 ⟨rfl, hb1⟩
    go_wp2_with fail
    refine bodyPost_ret (v := .tuple #[.int .i64 0, .int .i64 0, .int .i64 0, .bool false]) (by simp [results, Try.results31, go_sem]) rfl ?_
    exact ⟨rfl, by (repeat (first | with_reducible exact Below.refl _ _ | with_reducible assumption | with_reducible refine up_alloc ?_ _ | with_reducible refine up_drew ?_ | with_reducible refine up_drewN ?_ _ | (with_reducible refine up_set ?_ ?hset _; case hset => first | (simp; done) | (simp; omega) | omega) | with_reducible refine up_trans ?_ (by with_reducible assumption)))⟩
  | true =>
    rw [e1] at HG
    have HK := Lib.hid (TrOk.of e1)
    have l1 := HK.out.lp; have l3 := HK.out.n12; have l4 := HK.out.n1
    have HV := Lib.hid (show bsV d = if (bsOut d d.n).2.2 != 0 then .tuple #[.int .i64 ((bsOut d d.n).1 : Nat), .int .i64 ((bsOut d d.n).2.1 : Nat), .int .i64 (bsOut d d.n).2.2, .bool true] else .tuple #[.int .i64 0, .int .i64 0, .int .i64 0, .bool false] by unfold bsV; rw [e1]; simp only [Bool.true_and])
    clear e1
    generalize hVV : bsV d = VV at *
    clear hVV
    go_enter Try.func31, Try.ntmps31
    go_wp2_with fail
    generalize hW : World.alloc _ _ = W at *
    have hbW : Below w.heap.size w W := by subst hW; (repeat (first | with_reducible exact Below.refl _ _ | with_reducible assumption | with_reducible refine up_alloc ?_ _ | with_reducible refine up_drew ?_ | with_reducible refine up_drewN ?_ _ | (with_reducible refine up_set ?_ ?hset _; case hset => first | (simp; done) | (simp; omega) | omega) | with_reducible refine up_trans ?_ (by with_reducible assumption)))
    have k0 : W.cell? ⟨w.heap.size, 0, none⟩ = some (.slice A1 d.n c1) := by subst hW; simp [go_sem]
    have k1 : W.cell? ⟨w.heap.size, 1, none⟩ = some (.slice A2 d.m c2) := by subst hW; simp [go_sem]
    have k2 : W.cell? ⟨w.heap.size, 2, none⟩ = some (.int .i64 d.c) := by subst hW; simp [go_sem]
    have k3 : W.cell? ⟨w.heap.size, 3, none⟩ = some (.slice A3 d.l c3) := by subst hW; simp [go_sem]
    have HSZ := Lib.hid (show W.heap.size = w.heap.size + 1 by subst hW; simp)
    clear hW
    refine (HG.out _ hbW).mono ?_
    rintro e w1 ⟨rfl, hb1⟩
    replace k0 := up_keep hb1 k0
    replace k1 := up_keep hb1 k1
    replace k2 := up_keep hb1 k2
    replace k3 := up_keep hb1 k3
    have hw1 := up_trans hbW hb1
    go_wp2_with fail
    refine (squareSum_g _ d _ (HTr.out _ hw1) HK.out).mono ?_
    rintro e w2 ⟨rfl, hb2⟩
    replace k0 := up_keep hb2 k0
    replace k1 := up_keep hb2 k1
    replace k2 := up_keep hb2 k2
    replace k3 := up_keep hb2 k3
    have hw2 := up_trans hw1 hb2
    go_wp2_with fail
    have HK0 := Lib.hid k0; have HK1 := Lib.hid k1; have HK2 := Lib.hid k2; have HK3 := Lib.hid k3
    go_loopw [6, 7, 8, 21] (fun x y z i wr => ∃ (a : Nat) (s : Nat × Nat × Int), a ≤ d.n ∧ x = .int .i64 (s.1 : Nat) ∧ y = .int .i64 (s.2.1 : Nat) ∧ z = .int .i64 s.2.2 ∧ i = .int .i64 a ∧ Below w2.heap.size w2 wr ∧ s = bsOut d a) (fun _ _ _ i _ => d.n - (intOf i).toNat)
    case atStart => exact ⟨0, _, by omega, rfl, rfl, rfl, rfl, Below.refl _ _, rfl⟩
    case round =>
      obtain ⟨a, S0, ha, rfl, rfl, rfl, rfl, hb, hs⟩ := hrel
      have HSO := Lib.hid hs.symm
      have HKo := HK
      clear hs k0 k1 k2 k3
      by_cases hlta : a < d.n
      · have HO1 := Lib.hid (show a + 1 ≤ d.n by omega)
        have q0 := up_keep hb HK0.out
        go_wp2_with fail
        clear q0
        obtain ⟨w4, rfl⟩ : ∃ W : World, W = wr := ⟨_, rfl⟩
        go_loopw [6, 7, 8, 11] (fun x y z i wi => ∃ (j : Nat) (s : Nat × Nat × Int), a + 1 + j ≤ d.n ∧ x = .int .i64 (s.1 : Nat) ∧ y = .int .i64 (s.2.1 : Nat) ∧ z = .int .i64 s.2.2 ∧ i = .int .i64 ((a + 1 + j : Nat) : Int) ∧ Below w2.heap.size w2 wi ∧ s = bsIn d a S0 j) (fun _ _ _ i _ => d.n - (intOf i).toNat)
        case atStart => exact ⟨0, _, by omega, rfl, rfl, rfl, by go_num, hb, rfl⟩
        case round =>
          obtain ⟨j, s, hj, rfl, rfl, rfl, rfl, hb, hs⟩ := hrel
          have HB0 := Lib.hid hs
          clear hs
          have hle1 := HO1.out
          have q0 := up_keep hb (HK0.out); have q1 := up_keep hb (HK1.out); have q2 := up_keep hb (HK2.out); have q3 := up_keep hb (HK3.out)
          by_cases hltj : a + 1 + j < d.n
          · obtain ⟨K, hK⟩ : ∃ K, a + 1 + j = K := ⟨_, rfl⟩
            have HB := Lib.hid (show bsIn d a S0 (j + 1) = if s.2.2 < lessM d a K then (a, K, lessM d a K) else s by
              show bsStep d a (a + 1 + j) (bsIn d a S0 j) = _
              rw [← HB0.out, hK]; rfl)
            have HKK := Lib.hid hK
            rw [hK] at hltj ⊢
            have hal : a < d.l := by omega
            have hKl : K < d.l := by omega
            obtain ⟨I, rfl⟩ : ∃ I, I = a := ⟨_, rfl⟩
            have HKs := Lib.hid (HKo.out.swap hal hKl)
            have HW := Lib.hid (fun W hW => swapPlaces_g _ d I K W (HTr.out W hW) hal hKl hn hm hl)
            have HS1 := Lib.hid (fun W hW => squareSum_g _ d W (HTr.out W hW) HKo.out)
            have hm1 := sumM_bd HKo.out d.l (Nat.le_refl _)
            have hm2 := sumM_bd HKs.out d.l (Nat.le_refl _)
            have HLe := Lib.hid (show lessM d I K = sumM d d.l - sumM (swT d I K) d.l from rfl)
            have hlb := lessM_bd HKo.out hal hKl
            have jn : (K : Int) < (d.n : Int) := by omega
            have hwr := hw2.trans (hb.mono hw2.size)
            clear hK
            by_cases hlt2 : s.2.2 < lessM d I K
            · have hdec : decide (s.2.2 < sumM d d.l - sumM (swT d I K) d.l) = true := by rw [← HLe.out]; simpa using hlt2
              go_wp2_with fail
              refine (HW.out _ (by (repeat (first | with_reducible exact Below.refl _ _ | with_reducible assumption | with_reducible refine up_alloc ?_ _ | with_reducible refine up_drew ?_ | with_reducible refine up_drewN ?_ _ | (with_reducible refine up_set ?_ ?hset _; case hset => first | (simp; done) | (simp; omega) | omega) | with_reducible refine up_trans ?_ (by with_reducible assumption))))).mono ?_
              rintro e w5 ⟨u, rfl, hsw, hb5⟩
              obtain ⟨f3, t3, p3, he3, _⟩ := id hsw
              subst he3
              go_wp2_with fail
              refine (squareSum_sw _ d I K _ hsw.trn HKs.out).mono ?_
              rintro e w6 ⟨rfl, hb6⟩
              go_wp2_with fail
              go_roundw
              case rel =>
                have hKK := HKK.out
                refine ⟨j + 1, (I, K, lessM d I K), by omega, rfl, rfl, rfl, congrArg (Value.int .i64) (by omega), (show Below w2.heap.size w2 _ from hb.trans ((show Below wr.heap.size wr _ from (by (repeat (first | with_reducible exact Below.refl _ _ | with_reducible assumption | with_reducible refine up_alloc ?_ _ | with_reducible refine up_drew ?_ | with_reducible refine up_drewN ?_ _ | (with_reducible refine up_set ?_ ?hset _; case hset => first | (simp; done) | (simp; omega) | omega) | with_reducible refine up_trans ?_ (by with_reducible assumption))))).mono hb.size)), ?_⟩
                rw [HB.out, if_pos hlt2]
              case measure => simp [intOf] <;> omega
            · have hdec : decide (s.2.2 < sumM d d.l - sumM (swT d I K) d.l) = false := by rw [← HLe.out]; simpa using hlt2
              go_wp2_with fail
              refine (HW.out _ (by (repeat (first | with_reducible exact Below.refl _ _ | with_reducible assumption | with_reducible refine up_alloc ?_ _ | with_reducible refine up_drew ?_ | with_reducible refine up_drewN ?_ _ | (with_reducible refine up_set ?_ ?hset _; case hset => first | (simp; done) | (simp; omega) | omega) | with_reducible refine up_trans ?_ (by with_reducible assumption))))).mono ?_
              rintro e w5 ⟨u, rfl, hsw, hb5⟩
              obtain ⟨f3, t3, p3, he3, _⟩ := id hsw
              subst he3
              go_wp2_with fail
              refine (squareSum_sw _ d I K _ hsw.trn HKs.out).mono ?_
              rintro e w6 ⟨rfl, hb6⟩
              go_wp2_with fail
              go_roundw
              case rel =>
                have hKK := HKK.out
                refine ⟨j + 1, s, by omega, rfl, rfl, rfl, congrArg (Value.int .i64) (by omega), (show Below w2.heap.size w2 _ from hb.trans ((show Below wr.heap.size wr _ from (by (repeat (first | with_reducible exact Below.refl _ _ | with_reducible assumption | with_reducible refine up_alloc ?_ _ | with_reducible refine up_drew ?_ | with_reducible refine up_drewN ?_ _ | (with_reducible refine up_set ?_ ?hset _; case hset => first | (simp; done) | (simp; omega) | omega) | with_reducible refine up_trans ?_ (by with_reducible assumption))))).mono hb.size)), ?_⟩
                rw [HB.out, if_neg (by omega)]
              case measure => simp [intOf] <;> omega
          · have e : a + 1 + j = d.n := by omega
            have HE1 := Lib.hid (show bsOut d (a + 1) = s by
              show bsIn d a (bsOut d a) (d.n - (a + 1)) = s
              rw [show d.n - (a + 1) = j by omega, HSO.out, ← HB0.out])
            go_wp2_with fail
            go_roundw
            case rel => exact ⟨a + 1, s, by omega, rfl, rfl, rfl, by go_num, hb, HE1.out.symm⟩
            case measure => simp [intOf] <;> omega

      · have e : a = d.n := by omega
        subst e
        by_cases hz : S0.2.2 = 0
        · have hdec : (S0.2.2 == 0) = true := by simpa using hz
          have HVE := Lib.hid (show VV = .tuple #[.int .i64 0, .int .i64 0, .int .i64 0, .bool false] by rw [HV.out, HSO.out]; simp [hz])
          clear hz
          go_wp2_with fail
          refine bodyPost_ret (v := .tuple #[.int .i64 0, .int .i64 0, .int .i64 0, .bool false]) (by simp [results, Try.results31, go_sem]) rfl ?_
          rw [HVE.out]
          exact ⟨rfl, hw2.trans (hb.mono hw2.size)⟩
        · have hdec : (S0.2.2 == 0) = false := by simpa using hz
          have HVE := Lib.hid (show VV = .tuple #[.int .i64 (S0.1 : Nat), .int .i64 (S0.2.1 : Nat), .int .i64 S0.2.2, .bool true] by rw [HV.out, HSO.out]; simp [hz])
          clear hz
          go_wp2_with fail
          refine bodyPost_ret (v := .tuple #[.int .i64 (S0.1 : Nat), .int .i64 (S0.2.1 : Nat), .int .i64 S0.2.2, .bool true]) (by simp [results, Try.results31, go_sem]) rfl ?_
          rw [HVE.out]
          exact ⟨rfl, hw2.trans (hb.mono hw2.size)⟩

set_option maxRecDepth 100000 in
set_option maxHeartbeats 4000000 in
theorem sBestSwap_g (v : Value) (d : TrD) (w : World) (h : Trn w v d) (hn : d.n ≤ 1048576) (hm : d.m ≤ 1048576) (hl : d.l ≤ 1048576) : Calls Try.prog 30 #[v] w (Ans w (bsV d)) := by
  obtain ⟨f, t, p, rfl, hf, ht, hp⟩ := h
  have HF := Lib.hid hf
  have HT := Lib.hid ht
  have HP := Lib.hid hp
  obtain ⟨A1, c1, rfl, b1⟩ := hf.shape
  obtain ⟨A2, c2, rfl, b2⟩ := ht.shape
  obtain ⟨A3, c3, rfl, b3⟩ := hp.shape
  clear hf ht hp
  have HTr := Lib.hid (fun W (hW : Below w.heap.size w W) => (show Trn W (.agg #[.slice A1 d.n c1, .slice A2 d.m c2, .int .i64 d.c, .slice A3 d.l c3]) d from ⟨_, _, _, rfl, HF.out.up hW, HT.out.up hW, HP.out.up hW⟩))
  have HG := Lib.hid (fun W hW => asGood_g _ d W (HTr.out W hW) hn hm hl)
  cases e1 : trB d with
  | false =>
    rw [e1] at HG
    rw [show bsV d = .tuple #[.int .i64 0, .int .i64 0, .int .i64 0, .bool false] by simp [bsV, e1]]
    clear e1
    go_enter Try.func30, Try.ntmps30
    go_wp2_with fail
    refine (HG.out _ (by (repeat (first | with_reducible exact Below.refl _ _ | with_reducible assumption | with_reducible refine up_alloc ?_ _ | with_reducible refine up_drew ?_ | with_reducible refine up_drewN ?_ _ | (with_reducible refine up_set ?_ ?hset _; case hset => first | (simp; done) | (simp; omega) | omega) | with_reducible refine up_trans ?_ (by with_reducible assumption))))).mono ?_
    rintro e w1 ⟨rfl, hb1⟩
    go_wp2_with fail
    refine bodyPost_ret (v := .tuple #[.int .i64 0, .int .i64 0, .int .i64 0, .bool false]) (by simp [results, Try.results30, go_sem]) rfl ?_
    exact ⟨rfl, by (repeat (first | with_reducible exact Below.refl _ _ | with_reducible assumption | with_reducible refine up_alloc ?_ _ | with_reducible refine up_drew ?_ | with_reducible refine up_drewN ?_ _ | (with_reducible refine up_set ?_ ?hset _; case hset => first | (simp; done) | (simp; omega) | omega) | with_reducible refine up_trans ?_ (by with_reducible assumption)))⟩
  | true =>
    rw [e1] at HG
    have HK := Lib.hid (TrOk.of e1)
    have l1 := HK.out.lp; have l3 := HK.out.n12; have l4 := HK.out.n1
    have HV := Lib.hid (show bsV d = if (bsOut d d.n).2.2 != 0 then .tuple #[.int .i64 ((bsOut d d.n).1 : Nat), .int .i64 ((bsOut d d.n).2.1 : Nat), .int .i64 (bsOut d d.n).2.2, .bool true] else .tuple #[.int .i64 0, .int .i64 0, .int .i64 0, .bool false] by unfold bsV; rw [e1]; simp only [Bool.true_and])
    clear e1
    generalize hVV : bsV d = VV at *
    clear hVV
    go_enter Try.func30, Try.ntmps30
    go_wp2_with fail
    generalize hW : World.alloc _ _ = W at *
    have hbW : Below w.heap.size w W := by subst hW; (repeat (first | with_reducible exact Below.refl _ _ | with_reducible assumption | with_reducible refine up_alloc ?_ _ | with_reducible refine up_drew ?_ | with_reducible refine up_drewN ?_ _ | (with_reducible refine up_set ?_ ?hset _; case hset => first | (simp; done) | (simp; omega) | omega) | with_reducible refine up_trans ?_ (by with_reducible assumption)))
    have k0 : W.cell? ⟨w.heap.size, 0, none⟩ = some (.slice A1 d.n c1) := by subst hW; simp [go_sem]
    have k1 : W.cell? ⟨w.heap.size, 1, none⟩ = some (.slice A2 d.m c2) := by subst hW; simp [go_sem]
    have k2 : W.cell? ⟨w.heap.size, 2, none⟩ = some (.int .i64 d.c) := by subst hW; simp [go_sem]
    have k3 : W.cell? ⟨w.heap.size, 3, none⟩ = some (.slice A3 d.l c3) := by subst hW; simp [go_sem]
    have HSZ := Lib.hid (show W.heap.size = w.heap.size + 1 by subst hW; simp)
    clear hW
    refine (HG.out _ hbW).mono ?_
    rintro e w1 ⟨rfl, hb1⟩
    replace k0 := up_keep hb1 k0
    replace k1 := up_keep hb1 k1
    replace k2 := up_keep hb1 k2
    replace k3 := up_keep hb1 k3
    have hw1 := up_trans hbW hb1
    go_wp2_with fail
    have HK0 := Lib.hid k0; have HK1 := Lib.hid k1; have HK2 := Lib.hid k2; have HK3 := Lib.hid k3
    go_loopw [6, 7, 8, 18] (fun x y z i wr => ∃ (a : Nat) (s : Nat × Nat × Int), a ≤ d.n ∧ x = .int .i64 (s.1 : Nat) ∧ y = .int .i64 (s.2.1 : Nat) ∧ z = .int .i64 s.2.2 ∧ i = .int .i64 a ∧ Below w1.heap.size w1 wr ∧ s = bsOut d a) (fun _ _ _ i _ => d.n - (intOf i).toNat)
    case atStart => exact ⟨0, _, by omega, rfl, rfl, rfl, rfl, Below.refl _ _, rfl⟩
    case round =>
      obtain ⟨a, S0, ha, rfl, rfl, rfl, rfl, hb, hs⟩ := hrel
      have HSO := Lib.hid hs.symm
      have HKo := HK
      clear hs k0 k1 k2 k3
      by_cases hlta : a < d.n
      · have HO1 := Lib.hid (show a + 1 ≤ d.n by omega)
        have q0 := up_keep hb HK0.out
        go_wp2_with fail
        clear q0
        obtain ⟨w4, rfl⟩ : ∃ W : World, W = wr := ⟨_, rfl⟩
        go_loopw [6, 7, 8, 10] (fun x y z i wi => ∃ (j : Nat) (s : Nat × Nat × Int), a + 1 + j ≤ d.n ∧ x = .int .i64 (s.1 : Nat) ∧ y = .int .i64 (s.2.1 : Nat) ∧ z = .int .i64 s.2.2 ∧ i = .int .i64 ((a + 1 + j : Nat) : Int) ∧ Below w1.heap.size w1 wi ∧ s = bsIn d a S0 j) (fun _ _ _ i _ => d.n - (intOf i).toNat)
        case atStart => exact ⟨0, _, by omega, rfl, rfl, rfl, by go_num, hb, rfl⟩
        case round =>
          obtain ⟨j, s, hj, rfl, rfl, rfl, rfl, hb, hs⟩ := hrel
          have HB0 := Lib.hid hs
          clear hs
          have hle1 := HO1.out
          have q0 := up_keep hb (HK0.out); have q1 := up_keep hb (HK1.out); have q2 := up_keep hb (HK2.out); have q3 := up_keep hb (HK3.out)
          by_cases hltj : a + 1 + j < d.n
          · obtain ⟨K, hK⟩ : ∃ K, a + 1 + j = K := ⟨_, rfl⟩
            have HB := Lib.hid (show bsIn d a S0 (j + 1) = if s.2.2 < lessM d a K then (a, K, lessM d a K) else s by
              show bsStep d a (a + 1 + j) (bsIn d a S0 j) = _
              rw [← HB0.out, hK]; rfl)
            have HKK := Lib.hid hK
            rw [hK] at hltj ⊢
            have hal : a < d.l := by omega
            have hKl : K < d.l := by omega
            obtain ⟨I, rfl⟩ : ∃ I, I = a := ⟨_, rfl⟩
            have HKs := Lib.hid (HKo.out.swap hal hKl)
            have HW := Lib.hid (fun W hW => asSwap_g _ d I K W (HTr.out W hW) hal hKl hn hm hl)
            have HS1 := Lib.hid (fun W hW => asSum_g _ d W (HTr.out W hW) HKo.out)
            have hm1 := sumM_bd HKo.out d.l (Nat.le_refl _)
            have hm2 := sumM_bd HKs.out d.l (Nat.le_refl _)
            have HLe := Lib.hid (show lessM d I K = sumM d d.l - sumM (swT d I K) d.l from rfl)
            have hlb := lessM_bd HKo.out hal hKl
            have jn : (K : Int) < (d.n : Int) := by omega
            have hwr := hw1.trans (hb.mono hw1.size)
            clear hK
            by_cases hlt2 : s.2.2 < lessM d I K
            · have hdec : decide (s.2.2 < sumM d d.l - sumM (swT d I K) d.l) = true := by rw [← HLe.out]; simpa using hlt2
              go_wp2_with fail
              have hz0 : IntKind.i64.wrap (sumM d d.l - sumM (swT d I K) d.l) = sumM d d.l - sumM (swT d I K) d.l := IntWalk.i64_in _ (by omega)
              go_region_held3 (fun w' => w'.cell? ⟨w.heap.size, 0, none⟩ = some (.slice A1 d.n c1) ∧ w'.cell? ⟨w.heap.size, 1, none⟩ = some (.slice A2 d.m c2) ∧ w'.cell? ⟨w.heap.size, 2, none⟩ = some (.int .i64 d.c) ∧ w'.cell? ⟨w.heap.size, 3, none⟩ = some (.slice A3 d.l c3))
                (first | exact ⟨by assumption, by assumption, by assumption, by assumption⟩ | go_keep) (first
                | (go_at_call 126; first | ((with_reducible refine (HS1.out _ (show Below w.heap.size w _ from (by (repeat (first | with_reducible exact Below.refl _ _ | with_reducible assumption | with_reducible refine up_alloc ?_ _ | with_reducible refine up_drew ?_ | with_reducible refine up_drewN ?_ _ | (with_reducible refine up_set ?_ ?hset _; case hset => first | (simp; done) | (simp; omega) | omega) | with_reducible refine up_trans ?_ (by with_reducible assumption)))))).mono ?_); rintro e wa ⟨rfl, hba⟩; have y0 := up_keep (show Below wr.heap.size wr wa from (by (repeat (first | with_reducible exact Below.refl _ _ | with_reducible assumption | with_reducible refine up_alloc ?_ _ | with_reducible refine up_drew ?_ | with_reducible refine up_drewN ?_ _ | (with_reducible refine up_set ?_ ?hset _; case hset => first | (simp; done) | (simp; omega) | omega) | with_reducible refine up_trans ?_ (by with_reducible assumption))))) q0; have y1 := up_keep (show Below wr.heap.size wr wa from (by (repeat (first | with_reducible exact Below.refl _ _ | with_reducible assumption | with_reducible refine up_alloc ?_ _ | with_reducible refine up_drew ?_ | with_reducible refine up_drewN ?_ _ | (with_reducible refine up_set ?_ ?hset _; case hset => first | (simp; done) | (simp; omega) | omega) | with_reducible refine up_trans ?_ (by with_reducible assumption))))) q1; have y2 := up_keep (show Below wr.heap.size wr wa from (by (repeat (first | with_reducible exact Below.refl _ _ | with_reducible assumption | with_reducible refine up_alloc ?_ _ | with_reducible refine up_drew ?_ | with_reducible refine up_drewN ?_ _ | (with_reducible refine up_set ?_ ?hset _; case hset => first | (simp; done) | (simp; omega) | omega) | with_reducible refine up_trans ?_ (by with_reducible assumption))))) q2; have y3 := up_keep (show Below wr.heap.size wr wa from (by (repeat (first | with_reducible exact Below.refl _ _ | with_reducible assumption | with_reducible refine up_alloc ?_ _ | with_reducible refine up_drew ?_ | with_reducible refine up_drewN ?_ _ | (with_reducible refine up_set ?_ ?hset _; case hset => first | (simp; done) | (simp; omega) | omega) | with_reducible refine up_trans ?_ (by with_reducible assumption))))) q3) | ((with_reducible refine (asSum_sw _ d I K _ (hsw.trn.up (show Below ws.heap.size ws _ from (by (repeat (first | with_reducible exact Below.refl _ _ | with_reducible assumption | with_reducible refine up_alloc ?_ _ | with_reducible refine up_drew ?_ | with_reducible refine up_drewN ?_ _ | (with_reducible refine up_set ?_ ?hset _; case hset => first | (simp; done) | (simp; omega) | omega) | with_reducible refine up_trans ?_ (by with_reducible assumption)))))) HKs.out).mono ?_); rintro e wb ⟨rfl, hbb⟩; have y0 := up_keep (show Below wr.heap.size wr wb from (by (repeat (first | with_reducible exact Below.refl _ _ | with_reducible assumption | with_reducible refine up_alloc ?_ _ | with_reducible refine up_drew ?_ | with_reducible refine up_drewN ?_ _ | (with_reducible refine up_set ?_ ?hset _; case hset => first | (simp; done) | (simp; omega) | omega) | with_reducible refine up_trans ?_ (by with_reducible assumption))))) q0; have y1 := up_keep (show Below wr.heap.size wr wb from (by (repeat (first | with_reducible exact Below.refl _ _ | with_reducible assumption | with_reducible refine up_alloc ?_ _ | with_reducible refine up_drew ?_ | with_reducible refine up_drewN ?_ _ | (with_reducible refine up_set ?_ ?hset _; case hset => first | (simp; done) | (simp; omega) | omega) | with_reducible refine up_trans ?_ (by with_reducible assumption))))) q1; have y2 := up_keep (show Below wr.heap.size wr wb from (by (repeat (first | with_reducible exact Below.refl _ _ | with_reducible assumption | with_reducible refine up_alloc ?_ _ | with_reducible refine up_drew ?_ | with_reducible refine up_drewN ?_ _ | (with_reducible refine up_set ?_ ?hset _; case hset => first | (simp; done) | (simp; omega) | omega) | with_reducible refine up_trans ?_ (by with_reducible assumption))))) q2; have y3 := up_keep (show Below wr.heap.size wr wb from (by (repeat (first | with_reducible exact Below.refl _ _ | with_reducible assumption | with_reducible refine up_alloc ?_ _ | with_reducible refine up_drew ?_ | with_reducible refine up_drewN ?_ _ | (with_reducible refine up_set ?_ ?hset _; case hset => first | (simp; done) | (simp; omega) | omega) | with_reducible refine up_trans ?_ (by with_reducible assumption))))) q3))
                | (go_at_call 134; (refine (HW.out _ (show Below w.heap.size w _ from (by (repeat (first | with_reducible exact Below.refl _ _ | with_reducible assumption | with_reducible refine up_alloc ?_ _ | with_reducible refine up_drew ?_ | with_reducible refine up_drewN ?_ _ | (with_reducible refine up_set ?_ ?hset _; case hset => first | (simp; done) | (simp; omega) | omega) | with_reducible refine up_trans ?_ (by with_reducible assumption)))))).mono ?_); rintro e ws ⟨u, rfl, hsw, hbs⟩; obtain ⟨f3, t3, p3, he3, _⟩ := id hsw; subst he3; have y0 := up_keep (show Below wr.heap.size wr ws from (by (repeat (first | with_reducible exact Below.refl _ _ | with_reducible assumption | with_reducible refine up_alloc ?_ _ | with_reducible refine up_drew ?_ | with_reducible refine up_drewN ?_ _ | (with_reducible refine up_set ?_ ?hset _; case hset => first | (simp; done) | (simp; omega) | omega) | with_reducible refine up_trans ?_ (by with_reducible assumption))))) q0; have y1 := up_keep (show Below wr.heap.size wr ws from (by (repeat (first | with_reducible exact Below.refl _ _ | with_reducible assumption | with_reducible refine up_alloc ?_ _ | with_reducible refine up_drew ?_ | with_reducible refine up_drewN ?_ _ | (with_reducible refine up_set ?_ ?hset _; case hset => first | (simp; done) | (simp; omega) | omega) | with_reducible refine up_trans ?_ (by with_reducible assumption))))) q1; have y2 := up_keep (show Below wr.heap.size wr ws from (by (repeat (first | with_reducible exact Below.refl _ _ | with_reducible assumption | with_reducible refine up_alloc ?_ _ | with_reducible refine up_drew ?_ | with_reducible refine up_drewN ?_ _ | (with_reducible refine up_set ?_ ?hset _; case hset => first | (simp; done) | (simp; omega) | omega) | with_reducible refine up_trans ?_ (by with_reducible assumption))))) q2; have y3 := up_keep (show Below wr.heap.size wr ws from (by (repeat (first | with_reducible exact Below.refl _ _ | with_reducible assumption | with_reducible refine up_alloc ?_ _ | with_reducible refine up_drew ?_ | with_reducible refine up_drewN ?_ _ | (with_reducible refine up_set ?_ ?hset _; case hset => first | (simp; done) | (simp; omega) | omega) | with_reducible refine up_trans ?_ (by with_reducible assumption))))) q3))
              all_goals
                clear hz0
                go_wp2_with fail
                go_roundw
                case rel =>
                  have hKK := HKK.out
                  refine ⟨j + 1, (I, K, lessM d I K), by omega, rfl, rfl, rfl, congrArg (Value.int .i64) (by omega), (show Below w1.heap.size w1 _ from hb.trans ((show Below wr.heap.size wr _ from (by (repeat (first | with_reducible exact Below.refl _ _ | with_reducible assumption | with_reducible refine up_alloc ?_ _ | with_reducible refine up_drew ?_ | with_reducible refine up_drewN ?_ _ | (with_reducible refine up_set ?_ ?hset _; case hset => first | (simp; done) | (simp; omega) | omega) | with_reducible refine up_trans ?_ (by with_reducible assumption))))).mono hb.size)), ?_⟩
                  rw [HB.out, if_pos hlt2]
                case measure => simp [intOf] <;> omega
            · have hdec : decide (s.2.2 < sumM d d.l - sumM (swT d I K) d.l) = false := by rw [← HLe.out]; simpa using hlt2
              go_wp2_with fail
              have hz0 : IntKind.i64.wrap (sumM d d.l - sumM (swT d I K) d.l) = sumM d d.l - sumM (swT d I K) d.l := IntWalk.i64_in _ (by omega)
              go_region_held3 (fun w' => w'.cell? ⟨w.heap.size, 0, none⟩ = some (.slice A1 d.n c1) ∧ w'.cell? ⟨w.heap.size, 1, none⟩ = some (.slice A2 d.m c2) ∧ w'.cell? ⟨w.heap.size, 2, none⟩ = some (.int .i64 d.c) ∧ w'.cell? ⟨w.heap.size, 3, none⟩ = some (.slice A3 d.l c3))
                (first | exact ⟨by assumption, by assumption, by assumption, by assumption⟩ | go_keep) (first
                | (go_at_call 126; first | ((with_reducible refine (HS1.out _ (show Below w.heap.size w _ from (by (repeat (first | with_reducible exact Below.refl _ _ | with_reducible assumption | with_reducible refine up_alloc ?_ _ | with_reducible refine up_drew ?_ | with_reducible refine up_drewN ?_ _ | (with_reducible refine up_set ?_ ?hset _; case hset => first | (simp; done) | (simp; omega) | omega) | with_reducible refine up_trans ?_ (by with_reducible assumption)))))).mono ?_); rintro e wa ⟨rfl, hba⟩; have y0 := up_keep (show Below wr.heap.size wr wa from (by (repeat (first | with_reducible exact Below.refl _ _ | with_reducible assumption | with_reducible refine up_alloc ?_ _ | with_reducible refine up_drew ?_ | with_reducible refine up_drewN ?_ _ | (with_reducible refine up_set ?_ ?hset _; case hset => first | (simp; done) | (simp; omega) | omega) | with_reducible refine up_trans ?_ (by with_reducible assumption))))) q0; have y1 := up_keep (show Below wr.heap.size wr wa from (by (repeat (first | with_reducible exact Below.refl _ _ | with_reducible assumption | with_reducible refine up_alloc ?_ _ | with_reducible refine up_drew ?_ | with_reducible refine up_drewN ?_ _ | (with_reducible refine up_set ?_ ?hset _; case hset => first | (simp; done) | (simp; omega) | omega) | with_reducible refine up_trans ?_ (by with_reducible assumption))))) q1; have y2 := up_keep (show Below wr.heap.size wr wa from (by (repeat (first | with_reducible exact Below.refl _ _ | with_reducible assumption | with_reducible refine up_alloc ?_ _ | with_reducible refine up_drew ?_ | with_reducible refine up_drewN ?_ _ | (with_reducible refine up_set ?_ ?hset _; case hset => first | (simp; done) | (simp; omega) | omega) | with_reducible refine up_trans ?_ (by with_reducible assumption))))) q2; have y3 := up_keep (show Below wr.heap.size wr wa from (by (repeat (first | with_reducible exact Below.refl _ _ | with_reducible assumption | with_reducible refine up_alloc ?_ _ | with_reducible refine up_drew ?_ | with_reducible refine up_drewN ?_ _ | (with_reducible refine up_set ?_ ?hset _; case hset => first | (simp; done) | (simp; omega) | omega) | with_reducible refine up_trans ?_ (by with_reducible assumption))))) q3) | ((with_reducible refine (asSum_sw _ d I K _ (hsw.trn.up (show Below ws.heap.size ws _ from (by (repeat (first | with_reducible exact Below.refl _ _ | with_reducible assumption | with_reducible refine up_alloc ?_ _ | with_reducible refine up_drew ?_ | with_reducible refine up_drewN ?_ _ | (with_reducible refine up_set ?_ ?hset _; case hset => first | (simp; done) | (simp; omega) | omega) | with_reducible refine up_trans ?_ (by with_reducible assumption)))))) HKs.out).mono ?_); rintro e wb ⟨rfl, hbb⟩; have y0 := up_keep (show Below wr.heap.size wr wb from (by (repeat (first | with_reducible exact Below.refl _ _ | with_reducible assumption | with_reducible refine up_alloc ?_ _ | with_reducible refine up_drew ?_ | with_reducible refine up_drewN ?_ _ | (with_reducible refine up_set ?_ ?hset _; case hset => first | (simp; done) | (simp; omega) | omega) | with_reducible refine up_trans ?_ (by with_reducible assumption))))) q0; have y1 := up_keep (show Below wr.heap.size wr wb from (by (repeat (first | with_reducible exact Below.refl _ _ | with_reducible assumption | with_reducible refine up_alloc ?_ _ | with_reducible refine up_drew ?_ | with_reducible refine up_drewN ?_ _ | (with_reducible refine up_set ?_ ?hset _; case hset => first | (simp; done) | (simp; omega) | omega) | with_reducible refine up_trans ?_ (by with_reducible assumption))))) q1; have y2 := up_keep (show Below wr.heap.size wr wb from (by (repeat (first | with_reducible exact Below.refl _ _ | with_reducible assumption | with_reducible refine up_alloc ?_ _ | with_reducible refine up_drew ?_ | with_reducible refine up_drewN ?_ _ | (with_reducible refine up_set ?_ ?hset _; case hset => first | (simp; done) | (simp; omega) | omega) | with_reducible refine up_trans ?_ (by with_reducible assumption))))) q2; have y3 := up_keep (show Below wr.heap.size wr wb from (by (repeat (first | with_reducible exact Below.refl _ _ | with_reducible assumption | with_reducible refine up_alloc ?_ _ | with_reducible refine up_drew ?_ | with_reducible refine up_drewN ?_ _ | (with_reducible refine up_set ?_ ?hset _; case hset => first | (simp; done) | (simp; omega) | omega) | with_reducible refine up_trans ?_ (by with_reducible assumption))))) q3))
                | (go_at_call 134; (refine (HW.out _ (show Below w.heap.size w _ from (by (repeat (first | with_reducible exact Below.refl _ _ | with_reducible assumption | with_reducible refine up_alloc ?_ _ | with_reducible refine up_drew ?_ | with_reducible refine up_drewN ?_ _ | (with_reducible refine up_set ?_ ?hset _; case hset => first | (simp; done) | (simp; omega) | omega) | with_reducible refine up_trans ?_ (by with_reducible assumption)))))).mono ?_); rintro e ws ⟨u, rfl, hsw, hbs⟩; obtain ⟨f3, t3, p3, he3, _⟩ := id hsw; subst he3; have y0 := up_keep (show Below wr.heap.size wr ws from (by (repeat (first | with_reducible exact Below.refl _ _ | with_reducible assumption | with_reducible refine up_alloc ?_ _ | with_reducible refine up_drew ?_ | with_reducible refine up_drewN ?_ _ | (with_reducible refine up_set ?_ ?hset _; case hset => first | (simp; done) | (simp; omega) | omega) | with_reducible refine up_trans ?_ (by with_reducible assumption))))) q0; have y1 := up_keep (show Below wr.heap.size wr ws from (by (repeat (first | with_reducible exact Below.refl _ _ | with_reducible assumption | with_reducible refine up_alloc ?_ _ | with_reducible refine up_drew ?_ | with_reducible refine up_drewN ?_ _ | (with_reducible refine up_set ?_ ?hset _; case hset => first | (simp; done) | (simp; omega) | omega) | with_reducible refine up_trans ?_ (by with_reducible assumption))))) q1; have y2 := up_keep (show Below wr.heap.size wr ws from (by (repeat (first | with_reducible exact Below.refl _ _ | with_reducible assumption | with_reducible refine up_alloc ?_ _ | with_reducible refine up_drew ?_ | with_reducible refine up_drewN ?_ _ | (with_reducible refine up_set ?_ ?hset _; case hset => first | (simp; done) | (simp; omega) | omega) | with_reducible refine up_trans ?_ (by with_reducible assumption))))) q2; have y3 := up_keep (show Below wr.heap.size wr ws from (by (repeat (first | with_reducible exact Below.refl _ _ | with_reducible assumption | with_reducible refine up_alloc ?_ _ | with_reducible refine up_drew ?_ | with_reducible refine up_drewN ?_ _ | (with_reducible refine up_set ?_ ?hset _; case hset => first | (simp; done) | (simp; omega) | omega) | with_reducible refine up_trans ?_ (by with_reducible assumption))))) q3))
              all_goals
                clear hz0
                go_wp2_with fail
                go_roundw
                case rel =>
                  have hKK := HKK.out
                  refine ⟨j + 1, s, by omega, rfl, rfl, rfl, congrArg (Value.int .i64) (by omega), (show Below w1.heap.size w1 _ from hb.trans ((show Below wr.heap.size wr _ from (by (repeat (first | with_reducible exact Below.refl _ _ | with_reducible assumption | with_reducible refine up_alloc ?_ _ | with_reducible refine up_drew ?_ | with_reducible refine up_drewN ?_ _ | (with_reducible refine up_set ?_ ?hset _; case hset => first | (simp; done) | (simp; omega) | omega) | with_reducible refine up_trans ?_ (by with_reducible assumption))))).mono hb.size)), ?_⟩
                  rw [HB.out, if_neg (by omega)]
                case measure => simp [intOf] <;> omega
          · have e : a + 1 + j = d.n := by omega
            have HE1 := Lib.hid (show bsOut d (a + 1) = s by
              show bsIn d a (bsOut d a) (d.n - (a + 1)) = s
              rw [show d.n - (a + 1) = j by omega, HSO.out, ← HB0.out])
            go_wp2_with fail
            go_roundw
            case rel => exact ⟨a + 1, s, by omega, rfl, rfl, rfl, by go_num, hb, HE1.out.symm⟩
            case measure => simp [intOf] <;> omega

      · have e : a = d.n := by omega
        subst e
        by_cases hz : S0.2.2 = 0
        · have hdec : (S0.2.2 == 0) = true := by simpa using hz
          have HVE := Lib.hid (show VV = .tuple #[.int .i64 0, .int .i64 0, .int .i64 0, .bool false] by rw [HV.out, HSO.out]; simp [hz])
          clear hz
          go_wp2_with fail
          refine bodyPost_ret (v := .tuple #[.int .i64 0, .int .i64 0, .int .i64 0, .bool false]) (by simp [results, Try.results30, go_sem]) rfl ?_
          rw [HVE.out]
          exact ⟨rfl, hw1.trans (hb.mono hw1.size)⟩
        · have hdec : (S0.2.2 == 0) = false := by simpa using hz
          have HVE := Lib.hid (show VV = .tuple #[.int .i64 (S0.1 : Nat), .int .i64 (S0.2.1 : Nat), .int .i64 S0.2.2, .bool true] by rw [HV.out, HSO.out]; simp [hz])
          clear hz
          go_wp2_with fail
          refine bodyPost_ret (v := .tuple #[.int .i64 (S0.1 : Nat), .int .i64 (S0.2.1 : Nat), .int .i64 S0.2.2, .bool true]) (by simp [results, Try.results30, go_sem]) rfl ?_
          rw [HVE.out]
          exact ⟨rfl, hw1.trans (hb.mono hw1.size)⟩

end Go.Proofs.Ytkmnkodgmngaeaa
