/-
  GreedyMatching on both sides.
-/
import Derived.Test.YtadlemadnifohaaRows
import Derived.Test.YtadlemadnifohaaBase
import Derived.Test.YtadlemadnifohaaSpot
import Derived.Test.YtadlemadnifohaaSlice
import Derived.Test.YtadlemadnifohaaLawS
import Derived.Test.YtadlemadnifohaaMark
import Derived.Test.YtadlemadnifohaaAppend
import Derived.Test.YtadlemadnifohaaAppendE
import Derived.Test.YtadlemadnifohaaForm
import Derived.Test.YtadlemadnifohaaInts
import Derived.Test.YtadlemadnifohaaIntsL
import Derived.Test.YtadlemadnifohaaCopyI
import Derived.Test.YtadlemadnifohaaTurned
import Derived.Test.YtadlemadnifohaaTrans
import Derived.Test.YtadlemadnifohaaMatch
import Derived.Test.YtadlemadnifohaaRowsI
import Derived.Test.YtadlemadnifohaaCosts
import Derived.Test.YtadlemadnifohaaMatS
import Derived.Test.YtadlemadnifohaaMatchP
import Derived.Test.YtadlemadnifohaaMatchQ
import Derived.Test.YtadlemadnifohaaOnes
import Derived.Test.YtadlemadnifohaaTable
import Derived.Test.YtadlemadnifohaaLeast
import Derived.Test.YtadlemadnifohaaLeastM
namespace Go.Proofs.Ytadlemadnifohaa
open Go.RowKit Go.ChangeShapes Go.WideShapes Go.Sort

/-- The best of the first k columns that are not in U, or -1. -/
def gbK (F : Nat → Nat → Int) (U r : Nat) : Nat → Int
  | 0 => -1
  | k + 1 => if !U.testBit k && (decide (gbK F U r k < 0) || decide (F r k < F r (gbK F U r k).toNat)) then (k : Int) else gbK F U r k
def gbU (F : Nat → Nat → Int) (n : Nat) : Nat → Nat
  | 0 => 0
  | r + 1 => gbU F n r ||| 2 ^ (gbK F (gbU F n r) r n).toNat
def gbP (F : Nat → Nat → Int) (n r : Nat) : Nat := (gbK F (gbU F n r) r n).toNat
def gmP (n : Nat) (F : Nat → Nat → Int) (r : Nat) : Int := (gbP F n r : Nat)
theorem gbK_rng (F : Nat → Nat → Int) (U r : Nat) : ∀ k, -1 ≤ gbK F U r k ∧ gbK F U r k < k ∧ (0 ≤ gbK F U r k → U.testBit (gbK F U r k).toNat = false) ∧ ((∃ j, j < k ∧ U.testBit j = false) → 0 ≤ gbK F U r k)
  | 0 => ⟨by simp [gbK], by simp [gbK], fun h => absurd h (by simp [gbK]), fun ⟨j, h, _⟩ => absurd h (by omega)⟩
  | k + 1 => by
    obtain ⟨h1, h2, h3, h4⟩ := gbK_rng F U r k
    simp only [gbK]
    by_cases hc : (!U.testBit k && (decide (gbK F U r k < 0) || decide (F r k < F r (gbK F U r k).toNat))) = true
    · rw [if_pos hc]
      simp only [Bool.and_eq_true, Bool.not_eq_true'] at hc
      exact ⟨by omega, by omega, fun _ => by simpa using hc.1, fun _ => by omega⟩
    · rw [if_neg hc]
      refine ⟨h1, by omega, h3, fun ⟨j, hj, hb⟩ => ?_⟩
      by_cases e : j = k
      · subst e
        rw [hb] at hc
        simp only [Bool.not_false, Bool.true_and, Bool.or_eq_true, decide_eq_true_eq, not_or] at hc
        omega
      · exact h4 ⟨j, by omega, hb⟩
theorem gbU_ok (F : Nat → Nat → Int) (n : Nat) : ∀ r, r ≤ n → gbU F n r < 2 ^ n ∧ freeN (gbU F n r) n = n - r ∧ gbU F n r = usedS (gbP F n) r ∧ (r < n → gbP F n r < n ∧ gbK F (gbU F n r) r n = (gbP F n r : Nat))
  | 0, _ => by
    have h0 : freeN (gbU F n 0) n = n - 0 := by simp [gbU, freeN_zero]
    refine ⟨Nat.two_pow_pos n, h0, rfl, fun hn => ?_⟩
    obtain ⟨k1, k2, _, k4⟩ := gbK_rng F (gbU F n 0) 0 n
    have := k4 (freeN_ex n (by rw [h0]; omega))
    unfold gbP
    omega
  | r + 1, hr => by
    obtain ⟨h1, h2, h3, h4⟩ := gbU_ok F n r (by omega)
    obtain ⟨h5, h6⟩ := h4 (by omega)
    obtain ⟨k1, k2, k3, _⟩ := gbK_rng F (gbU F n r) r n
    have hb := k3 (by omega)
    have hfree : freeN (gbU F n (r + 1)) n = n - (r + 1) := by
      have := freeN_set hb n
      rw [if_pos (by omega)] at this
      show freeN (gbU F n r ||| 2 ^ (gbK F (gbU F n r) r n).toNat) n = _
      omega
    refine ⟨or_lt h1 h5, hfree, by show gbU F n r ||| 2 ^ gbP F n r = usedS (gbP F n) r ||| 2 ^ gbP F n r; rw [h3], fun hn => ?_⟩
    obtain ⟨k1, k2, _, k4⟩ := gbK_rng F (gbU F n (r + 1)) (r + 1) n
    have := k4 (freeN_ex n (by rw [hfree]; omega))
    unfold gbP
    omega
theorem gmP_rng (n : Nat) (F : Nat → Nat → Int) : ∀ i, i < n → 0 ≤ gmP n F i ∧ gmP n F i < n := fun i hi => by
  have := ((gbU_ok F n i (by omega)).2.2.2 hi).1
  unfold gmP
  omega
theorem gmP_has (n : Nat) (F : Nat → Nat → Int) {r : Nat} (hr : r ≤ n) (k : Nat) : hasB (fun j => gmP n F j == (k : Int)) r = (gbU F n r).testBit k := by
  rw [(gbU_ok F n r hr).2.2.1, Bool.eq_iff_iff, usedS_bit]
  have key : (allB (fun j => !(gmP n F j == (k : Int))) r = true) ↔ ∀ j, j < r → gbP F n j ≠ k := by
    rw [allB_iff]
    constructor
    · intro h j hj e
      have := h j hj
      unfold gmP at this
      rw [e] at this
      simp at this
    · intro h j hj
      have := h j hj
      unfold gmP
      simp
      omega
  unfold hasB
  cases e : allB (fun j => !(gmP n F j == (k : Int))) r with
  | true =>
    rw [e] at key
    simp only [Bool.not_true, Bool.false_eq_true, false_iff]
    rintro ⟨j, hj, hk⟩
    exact (key.1 rfl) j hj hk
  | false =>
    rw [e] at key
    simp only [Bool.not_false, true_iff]
    refine Classical.byContradiction fun hn => ?_
    have := key.2 (fun j hj hk => hn ⟨j, hj, hk⟩)
    cases this
theorem gbK_take {F : Nat → Nat → Int} {U r k : Nat} (hb : U.testBit k = false) (h : gbK F U r k < 0 ∨ F r k < F r (gbK F U r k).toNat) : gbK F U r (k + 1) = (k : Int) := by
  simp only [gbK]
  rw [if_pos (by simpa [hb] using h)]
theorem gbK_skip {F : Nat → Nat → Int} {U r k : Nat} (h : U.testBit k = true ∨ (0 ≤ gbK F U r k ∧ ¬ F r k < F r (gbK F U r k).toNat)) : gbK F U r (k + 1) = gbK F U r k := by
  simp only [gbK]
  rw [if_neg]
  rcases h with h | ⟨h1, h2⟩
  · simp [h]
  · simp; intro _; omega
set_option maxRecDepth 100000 in
set_option maxHeartbeats 2000000 in
theorem iGreedyMatching_g (v : Value) (n : Nat) (R : Nat → Nat) (F : Nat → Nat → Int) (w : World) (h : IRows w v n R F) (hn : n ≤ 1048576) (hR : ∀ i, i < n → R i ≤ 1048576) :
    Calls Try.prog 10 #[v] w (AnsLM w (sel (acB n R F) n) (gmP n F) (if acB n R F then sumP F (gmP n F) n else 0) (acB n R F)) := by
  have HI := Lib.hid h
  have HA := Lib.hid (areCosts_g v n R F w h hn hR)
  cases e1 : acB n R F with
  | false =>
    rw [e1] at HA
    obtain ⟨A, c, rfl, _⟩ := h.shape
    clear h hR
    clear e1
    go_enter Try.func10, Try.ntmps10
    go_wp2_with (go_at_call 24; refine (HA.out).mono ?_; rintro e w1 ⟨rfl, hb1⟩)
    go_ret3
    exact AnsLM.nil hb1
  | true =>
    rw [e1] at HA
    obtain ⟨⟨n1, n12⟩, _, hF⟩ := acB_iff e1
    obtain ⟨b, o, c, B, O, C, rfl, hM⟩ := mat_of h e1
    have HM := Lib.hid hM
    have HF := Lib.hid hF
    have HV := Lib.hid e1
    simp only [if_true]
    clear h hR e1 hF hM
    go_enter Try.func10, Try.ntmps10
    go_wp2_with (go_at_call 24; refine (HA.out).mono ?_; rintro e w1 ⟨rfl, hb1⟩)
    go_loopw [5, 6, 18] (fun u q i wr => ∃ r : Nat, r ≤ n ∧ i = .int .i64 r ∧ u = .int .i64 (gbU F n r : Nat) ∧ OwnN w1.heap.size wr q r (gmP n F) ∧ Below w1.heap.size w1 wr) (fun _ _ i _ => n - (intOf i).toNat)
    case atStart => exact ⟨0, by omega, rfl, rfl, OwnN.empty (Nat.le_refl _) _, below_alloc _ _⟩
    case round =>
      obtain ⟨r, hr, rfl, rfl, how, hb⟩ := hrel
      have hw1 := hb1.trans (hb.mono hb1.size)
      by_cases hlt : r < n
      · have hok := gbU_ok F n r hr
        have hok' := hok.2.2.2 hlt
        have hU12 := lt4096 n12 hok.1
        have HPl := Lib.hid hok'.2
        have HNx := Lib.hid (show gbU F n (r + 1) = gbU F n r ||| 2 ^ gbP F n r from rfl)
        have hpn := hok'.1
        have how2 := Lib.hid how
        have d0 := up_keep hw1 (HM.out.row r hlt)
        obtain ⟨U, hU⟩ : ∃ U, gbU F n r = U := ⟨_, rfl⟩
        rw [hU] at hU12 HPl HNx ⊢
        clear hok hok' how hU
        go_wp2_with fail
        obtain ⟨w4, rfl⟩ : ∃ W : World, W = wr := ⟨_, rfl⟩
        clear d0
        go_loopw [9, 24] (fun z i wi => ∃ k : Nat, k ≤ n ∧ i = .int .i64 k ∧ z = .int .i64 (gbK F U r k) ∧ Below w4.heap.size w4 wi) (fun _ i _ => n - (intOf i).toNat)
        case atStart => exact ⟨0, by omega, rfl, rfl, Below.refl _ _⟩
        case round =>
          obtain ⟨k, hk, rfl, rfl, hbi⟩ := hrel
          by_cases hkn : k < n
          · have hwi := hw1.trans (hbi.mono hw1.size)
            have d1 := up_keep hwi (HM.out.at hlt hkn)
            have j1 : (k : Int) < (n : Int) := by omega
            have hb0 := shr_bit0 (q := k) hU12
            cases hbit : U.testBit k with
            | true =>
              rw [hbit] at hb0
              have HE := Lib.hid (gbK_skip (F := F) (r := r) (.inl hbit))
              clear hbit
              simp only [Bool.not_true] at hb0
              go_wp2_with fail
              go_roundw
              case rel => exact ⟨k + 1, by omega, by go_num, by rw [HE.out], by (repeat (first | with_reducible exact Below.refl _ _ | with_reducible assumption | with_reducible refine up_alloc ?_ _ | with_reducible refine up_drew ?_ | with_reducible refine up_drewN ?_ _ | (with_reducible refine up_set ?_ ?hset _; case hset => first | (simp; done) | (simp; omega) | omega) | with_reducible refine up_trans ?_ (by with_reducible assumption)))⟩
              case measure => simp [intOf]; omega
            | false =>
              rw [hbit] at hb0
              simp only [Bool.not_false] at hb0
              have hrg := gbK_rng F U r k
              by_cases hneg : gbK F U r k < 0
              · have HE := Lib.hid (gbK_take (r := r) hbit (.inl hneg))
                have e : gbK F U r k = -1 := by omega
                have hdec : decide (gbK F U r k < 0) = true := by simpa using hneg
                clear hbit hrg e
                go_wp2_with fail
                go_roundw
                case rel => exact ⟨k + 1, by omega, by go_num, by rw [HE.out], by (repeat (first | with_reducible exact Below.refl _ _ | with_reducible assumption | with_reducible refine up_alloc ?_ _ | with_reducible refine up_drew ?_ | with_reducible refine up_drewN ?_ _ | (with_reducible refine up_set ?_ ?hset _; case hset => first | (simp; done) | (simp; omega) | omega) | with_reducible refine up_trans ?_ (by with_reducible assumption)))⟩
                case measure => simp [intOf]; omega
              · obtain ⟨g, hg⟩ : ∃ g : Nat, gbK F U r k = g := ⟨(gbK F U r k).toNat, by omega⟩
                have hgn : g < n := by omega
                have d2 := up_keep hwi (HM.out.at hlt hgn)
                have j2 : (g : Int) < (n : Int) := by omega
                have hdec : decide ((g : Int) < 0) = false := by simp
                have HG := Lib.hid hg
                by_cases hq : F r k < F r g
                · have HE := Lib.hid (gbK_take (r := r) hbit (.inr (show F r k < F r (gbK F U r k).toNat by rw [hg]; simpa using hq)))
                  have hd2 : decide (F r k < F r g) = true := by simpa using hq
                  rw [hg]
                  clear hbit hrg hneg hg hq
                  go_wp2_with fail
                  go_roundw
                  case rel => exact ⟨k + 1, by omega, by go_num, by rw [HE.out], by (repeat (first | with_reducible exact Below.refl _ _ | with_reducible assumption | with_reducible refine up_alloc ?_ _ | with_reducible refine up_drew ?_ | with_reducible refine up_drewN ?_ _ | (with_reducible refine up_set ?_ ?hset _; case hset => first | (simp; done) | (simp; omega) | omega) | with_reducible refine up_trans ?_ (by with_reducible assumption)))⟩
                  case measure => simp [intOf]; omega
                · have HE := Lib.hid (gbK_skip (F := F) (r := r) (U := U) (k := k) (.inr ⟨by omega, by rw [hg]; simpa using hq⟩))
                  have hd2 : decide (F r k < F r g) = false := by simpa using hq
                  rw [hg]
                  clear hbit hrg hneg hg hq
                  go_wp2_with fail
                  go_roundw
                  case rel => exact ⟨k + 1, by omega, by go_num, by rw [HE.out, HG.out], by (repeat (first | with_reducible exact Below.refl _ _ | with_reducible assumption | with_reducible refine up_alloc ?_ _ | with_reducible refine up_drew ?_ | with_reducible refine up_drewN ?_ _ | (with_reducible refine up_set ?_ ?hset _; case hset => first | (simp; done) | (simp; omega) | omega) | with_reducible refine up_trans ?_ (by with_reducible assumption)))⟩
                  case measure => simp [intOf]; omega
          · have e : k = n := by omega
            subst e
            rw [HPl.out]
            have how := OwnN.up how2.out hbi
            have hbw := hb.trans (hbi.mono hb.size)
            have hor := or_bitU (q := gbP F k r) hU12 (by omega)
            rw [← HNx.out] at hor
            have hor' := hor
            rw [IntWalk.i64_left] at hor'
            have HX := Lib.hid (show gmP k F r = ((gbP F k r : Nat) : Int) from rfl)
            generalize gbP F k r = pl at *
            obtain ⟨U2, hU2⟩ : ∃ U2, gbU F k (r + 1) = U2 := ⟨_, rfl⟩
            rw [hU2] at hor hor' HNx
            have HU2 := Lib.hid hU2
            clear hU2
            go_wp2_with (at_builtin; refine wpList_app_int2 rfl (.tmp 48) (.tmp 50) rfl w1.heap.size _ r (gmP k F) rfl rfl HX.out (by simp [go_sem]) (OwnN.up how (by (repeat (first | with_reducible exact Below.refl _ _ | with_reducible assumption | with_reducible refine up_alloc ?_ _ | with_reducible refine up_drew ?_ | with_reducible refine up_drewN ?_ _ | (with_reducible refine up_set ?_ ?hset _; case hset => first | (simp; done) | (simp; omega) | omega) | with_reducible refine up_trans ?_ (by with_reducible assumption))))) (show Below w1.heap.size w1 _ from (by (repeat (first | with_reducible exact Below.refl _ _ | with_reducible assumption | with_reducible refine up_alloc ?_ _ | with_reducible refine up_drew ?_ | with_reducible refine up_drewN ?_ _ | (with_reducible refine up_set ?_ ?hset _; case hset => first | (simp; done) | (simp; omega) | omega) | with_reducible refine up_trans ?_ (by with_reducible assumption))))).size (by omega) ?_; intro v2 w2 ho2 hb2 _ _; replace hb2 := (show Below w1.heap.size w1 _ from (by (repeat (first | with_reducible exact Below.refl _ _ | with_reducible assumption | with_reducible refine up_alloc ?_ _ | with_reducible refine up_drew ?_ | with_reducible refine up_drewN ?_ _ | (with_reducible refine up_set ?_ ?hset _; case hset => first | (simp; done) | (simp; omega) | omega) | with_reducible refine up_trans ?_ (by with_reducible assumption))))).trans hb2)
            go_roundw
            case rel => exact ⟨r + 1, by omega, by go_num, by rw [HU2.out], ho2, hb2⟩
            case measure => simp [intOf]; omega
      · have e : r = n := by omega
        subst e
        go_wp2_with fail
        refine (sumOf_g _ _ r R F (gmP r F) _ (HI.out.up hw1) HV.out how.ownI.ints (gmP_rng r F)).mono ?_
        rintro e w3 ⟨rfl, hb3⟩
        go_wp2_with fail
        go_ret3
        exact ⟨_, rfl, (how.ownI.up hb3).more hb1.size, up_trans hw1 hb3⟩
theorem l1Has_n {base : Nat} {w w' : World} {q : Value} {r : Nat} {X : Nat → Int} (h : OwnN base w q r X) (hb : Below w.heap.size w w') (hr : r ≤ 12) (x : Int) (t : Bool) (e : hasB (fun j => X j == x) r = t) :
    Calls Try.prog 38 #[q, .int .i64 x] w' (Ans w' (.bool t)) := by
  rw [← e]
  exact l1Has_g q r X x w' (h.ownI.ints.up hb) (by omega)
set_option maxRecDepth 100000 in
set_option maxHeartbeats 2000000 in
theorem sGreedyMatching_g (v : Value) (n : Nat) (R : Nat → Nat) (F : Nat → Nat → Int) (w : World) (h : IRows w v n R F) (hn : n ≤ 1048576) (hR : ∀ i, i < n → R i ≤ 1048576) :
    Calls Try.prog 11 #[v] w (AnsLM w (sel (acB n R F) n) (gmP n F) (if acB n R F then sumP F (gmP n F) n else 0) (acB n R F)) := by
  have HI := Lib.hid h
  have HA := Lib.hid (maGood_g v n R F w h hn hR)
  cases e1 : acB n R F with
  | false =>
    rw [e1] at HA
    obtain ⟨A, c, rfl, _⟩ := h.shape
    clear h hR
    clear e1
    go_enter Try.func11, Try.ntmps11
    go_wp2_with (go_at_call 35; refine (HA.out).mono ?_; rintro e w1 ⟨rfl, hb1⟩)
    go_ret3
    exact AnsLM.nil hb1
  | true =>
    rw [e1] at HA
    obtain ⟨⟨n1, n12⟩, _, hF⟩ := acB_iff e1
    obtain ⟨b, o, c, B, O, C, rfl, hM⟩ := mat_of h e1
    have HM := Lib.hid hM
    have HF := Lib.hid hF
    have HV := Lib.hid e1
    simp only [if_true]
    clear h hR e1 hF hM
    go_enter Try.func11, Try.ntmps11
    go_wp2_with (go_at_call 35; refine (HA.out).mono ?_; rintro e w1 ⟨rfl, hb1⟩)
    go_loopw [5, 16] (fun q i wr => ∃ r : Nat, r ≤ n ∧ i = .int .i64 r ∧ OwnN w1.heap.size wr q r (gmP n F) ∧ Below w1.heap.size w1 wr) (fun _ i _ => n - (intOf i).toNat)
    case atStart => exact ⟨0, by omega, rfl, OwnN.nil _ _ _, Below.refl _ _⟩
    case round =>
      obtain ⟨r, hr, rfl, how, hb⟩ := hrel
      have hw1 := hb1.trans (hb.mono hb1.size)
      by_cases hlt : r < n
      · have hok := gbU_ok F n r hr
        have hok' := hok.2.2.2 hlt
        have HPl := Lib.hid hok'.2
        have hpn := hok'.1
        have HHas := Lib.hid (fun k => gmP_has n F hr k)
        have how2 := Lib.hid how
        have d0 := up_keep hw1 (HM.out.row r hlt)
        obtain ⟨U, hU⟩ : ∃ U, gbU F n r = U := ⟨_, rfl⟩
        rw [hU] at HPl HHas
        clear hok hok' how hU
        go_wp2_with fail
        obtain ⟨w4, rfl⟩ : ∃ W : World, W = wr := ⟨_, rfl⟩
        clear d0
        go_loopw [8, 22] (fun z i wi => ∃ k : Nat, k ≤ n ∧ i = .int .i64 k ∧ z = .int .i64 (gbK F U r k) ∧ Below w4.heap.size w4 wi) (fun _ i _ => n - (intOf i).toNat)
        case atStart => exact ⟨0, by omega, rfl, rfl, Below.refl _ _⟩
        case round =>
          obtain ⟨k, hk, rfl, rfl, hbi⟩ := hrel
          by_cases hkn : k < n
          · have hwi := hw1.trans (hbi.mono hw1.size)
            have d1 := up_keep hwi (HM.out.at hlt hkn)
            have d2p := fun g (hg : g < n) => up_keep hwi (HM.out.at hlt hg)
            have HD2 := Lib.hid d2p
            clear d2p
            have j1 : (k : Int) < (n : Int) := by omega
            cases hbit : U.testBit k with
            | true =>
              have HC := Lib.hid (l1Has_n how2.out hbi (by omega) (k : Int) true (by rw [HHas.out, hbit]))
              have HE := Lib.hid (gbK_skip (F := F) (r := r) (.inl hbit))
              clear hbit
              go_wp2_with (go_at_call 38; refine (HC.out).mono ?_; rintro e w7 ⟨rfl, hb7⟩)
              go_roundw
              case rel => exact ⟨k + 1, by omega, by go_num, by rw [HE.out], by (repeat (first | with_reducible exact Below.refl _ _ | with_reducible assumption | with_reducible refine up_alloc ?_ _ | with_reducible refine up_drew ?_ | with_reducible refine up_drewN ?_ _ | (with_reducible refine up_set ?_ ?hset _; case hset => first | (simp; done) | (simp; omega) | omega) | with_reducible refine up_trans ?_ (by with_reducible assumption)))⟩
              case measure => simp [intOf]; omega
            | false =>
              have HC := Lib.hid (l1Has_n how2.out hbi (by omega) (k : Int) false (by rw [HHas.out, hbit]))
              have hrg := gbK_rng F U r k
              by_cases hneg : gbK F U r k < 0
              · have HE := Lib.hid (gbK_take (r := r) hbit (.inl hneg))
                have hdec : decide (gbK F U r k < 0) = true := by simpa using hneg
                clear hbit hrg
                go_wp2_with (go_at_call 38; refine (HC.out).mono ?_; rintro e w7 ⟨rfl, hb7⟩)
                go_roundw
                case rel => exact ⟨k + 1, by omega, by go_num, by rw [HE.out], by (repeat (first | with_reducible exact Below.refl _ _ | with_reducible assumption | with_reducible refine up_alloc ?_ _ | with_reducible refine up_drew ?_ | with_reducible refine up_drewN ?_ _ | (with_reducible refine up_set ?_ ?hset _; case hset => first | (simp; done) | (simp; omega) | omega) | with_reducible refine up_trans ?_ (by with_reducible assumption)))⟩
                case measure => simp [intOf]; omega
              · obtain ⟨g, hg⟩ : ∃ g : Nat, gbK F U r k = g := ⟨(gbK F U r k).toNat, by omega⟩
                have hgn : g < n := by omega
                have j2 : (g : Int) < (n : Int) := by omega
                have hdec : decide ((g : Int) < 0) = false := by simp
                have HG := Lib.hid hg
                by_cases hq : F r k < F r g
                · have HE := Lib.hid (gbK_take (r := r) hbit (.inr (show F r k < F r (gbK F U r k).toNat by rw [hg]; simpa using hq)))
                  have hd2 : decide (F r k < F r g) = true := by simpa using hq
                  rw [hg]
                  clear hbit hrg hneg hg hq
                  go_wp2_with (go_at_call 38; refine (HC.out).mono ?_; rintro e w7 ⟨rfl, hb7⟩; have d3 := up_keep hb7 (HD2.out g hgn))
                  go_roundw
                  case rel => exact ⟨k + 1, by omega, by go_num, by rw [HE.out], by (repeat (first | with_reducible exact Below.refl _ _ | with_reducible assumption | with_reducible refine up_alloc ?_ _ | with_reducible refine up_drew ?_ | with_reducible refine up_drewN ?_ _ | (with_reducible refine up_set ?_ ?hset _; case hset => first | (simp; done) | (simp; omega) | omega) | with_reducible refine up_trans ?_ (by with_reducible assumption)))⟩
                  case measure => simp [intOf]; omega
                · have HE := Lib.hid (gbK_skip (F := F) (r := r) (U := U) (k := k) (.inr ⟨by omega, by rw [hg]; simpa using hq⟩))
                  have hd2 : decide (F r k < F r g) = false := by simpa using hq
                  rw [hg]
                  clear hbit hrg hneg hg hq
                  go_wp2_with (go_at_call 38; refine (HC.out).mono ?_; rintro e w7 ⟨rfl, hb7⟩; have d3 := up_keep hb7 (HD2.out g hgn))
                  go_roundw
                  case rel => exact ⟨k + 1, by omega, by go_num, by rw [HE.out, HG.out], by (repeat (first | with_reducible exact Below.refl _ _ | with_reducible assumption | with_reducible refine up_alloc ?_ _ | with_reducible refine up_drew ?_ | with_reducible refine up_drewN ?_ _ | (with_reducible refine up_set ?_ ?hset _; case hset => first | (simp; done) | (simp; omega) | omega) | with_reducible refine up_trans ?_ (by with_reducible assumption)))⟩
                  case measure => simp [intOf]; omega
          · have e : k = n := by omega
            subst e
            rw [HPl.out]
            have how := OwnN.up how2.out hbi
            have hbw := hb.trans (hbi.mono hb.size)
            have HX := Lib.hid (show gmP k F r = ((gbP F k r : Nat) : Int) from rfl)
            generalize gbP F k r = pl at *
            go_wp2_with (at_builtin; refine wpList_app_int2 rfl (.tmp 45) (.tmp 47) rfl w1.heap.size _ r (gmP k F) rfl rfl HX.out (by simp [go_sem]) (OwnN.up how (by (repeat (first | with_reducible exact Below.refl _ _ | with_reducible assumption | with_reducible refine up_alloc ?_ _ | with_reducible refine up_drew ?_ | with_reducible refine up_drewN ?_ _ | (with_reducible refine up_set ?_ ?hset _; case hset => first | (simp; done) | (simp; omega) | omega) | with_reducible refine up_trans ?_ (by with_reducible assumption))))) (show Below w1.heap.size w1 _ from (by (repeat (first | with_reducible exact Below.refl _ _ | with_reducible assumption | with_reducible refine up_alloc ?_ _ | with_reducible refine up_drew ?_ | with_reducible refine up_drewN ?_ _ | (with_reducible refine up_set ?_ ?hset _; case hset => first | (simp; done) | (simp; omega) | omega) | with_reducible refine up_trans ?_ (by with_reducible assumption))))).size (by omega) ?_; intro v2 w2 ho2 hb2 _ _; replace hb2 := (show Below w1.heap.size w1 _ from (by (repeat (first | with_reducible exact Below.refl _ _ | with_reducible assumption | with_reducible refine up_alloc ?_ _ | with_reducible refine up_drew ?_ | with_reducible refine up_drewN ?_ _ | (with_reducible refine up_set ?_ ?hset _; case hset => first | (simp; done) | (simp; omega) | omega) | with_reducible refine up_trans ?_ (by with_reducible assumption))))).trans hb2)
            go_roundw
            case rel => exact ⟨r + 1, by omega, by go_num, ho2, hb2⟩
            case measure => simp [intOf]; omega
      · have e : r = n := by omega
        subst e
        go_wp2_with fail
        refine (maSum_g _ _ r R F (gmP r F) _ (HI.out.up hw1) HV.out how.ownI.ints (gmP_rng r F)).mono ?_
        rintro e w3 ⟨rfl, hb3⟩
        go_wp2_with fail
        go_ret3
        exact ⟨_, rfl, (how.ownI.up hb3).more hb1.size, up_trans hw1 hb3⟩
end Go.Proofs.Ytadlemadnifohaa
