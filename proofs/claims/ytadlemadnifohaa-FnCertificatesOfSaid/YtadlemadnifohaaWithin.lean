/-
  The first matching with no cost above a bound.
-/
import Derived.Test.YtadlemadnifohaaRows
import Derived.Test.YtadlemadnifohaaBase
import Derived.Test.YtadlemadnifohaaSpot
import Derived.Test.YtadlemadnifohaaSlice
import Derived.Test.YtadlemadnifohaaLawS
import Derived.Test.YtadlemadnifohaaMark
import Derived.Test.YtadlemadnifohaaAppend
import Derived.Test.YtadlemadnifohaaAppendE
import Derived.Test.YtadlemadnifohaaForm
import Derived.Test.YtadlemadnifohaaInts
import Derived.Test.YtadlemadnifohaaIntsL
import Derived.Test.YtadlemadnifohaaCopyI
import Derived.Test.YtadlemadnifohaaTurned
import Derived.Test.YtadlemadnifohaaTrans
import Derived.Test.YtadlemadnifohaaMatch
import Derived.Test.YtadlemadnifohaaRowsI
import Derived.Test.YtadlemadnifohaaCosts
import Derived.Test.YtadlemadnifohaaMatS
import Derived.Test.YtadlemadnifohaaMatchP
import Derived.Test.YtadlemadnifohaaMatchQ
import Derived.Test.YtadlemadnifohaaOnes
import Derived.Test.YtadlemadnifohaaTable
import Derived.Test.YtadlemadnifohaaLeast
import Derived.Test.YtadlemadnifohaaLeastM
import Derived.Test.YtadlemadnifohaaRowB
import Derived.Test.YtadlemadnifohaaLeastR
import Derived.Test.YtadlemadnifohaaGreatP
namespace Go.Proofs.Ytadlemadnifohaa
open Go.RowKit Go.ChangeShapes Go.WideShapes Go.Sort

theorem acB_mk {n : Nat} (h1 : 1 ≤ n) (h2 : n ≤ 12) (F : Nat → Nat → Int) (m : Int) : acB n (fun _ => n) (mkG F m) = true := by
  unfold acB
  rw [Bool.and_eq_true]
  refine ⟨inB_iff.2 ⟨by omega, by omega⟩, allB_iff.2 (fun i hi => ?_)⟩
  rw [Bool.and_eq_true]
  refine ⟨by simp, allB_iff.2 (fun j hj => inB_iff.2 ?_)⟩
  have := mkG_rng F m i j
  omega
set_option maxRecDepth 100000 in
set_option maxHeartbeats 2000000 in
theorem maWithin_m (b o c n : Nat) (F : Nat → Nat → Int) (B O C : Nat → Nat) (m : Int) (w : World) (hM : MatAt w b o n F B O C) (h1 : 1 ≤ n) (h2 : n ≤ 12) (hm : 0 ≤ m ∧ m ≤ 2100000) :
    Calls Try.prog 58 #[.slice (some ⟨b, o, none⟩) n c, .int .i64 m] w (AnsI w (if lgV n F ≤ m then n else 0) (lmP n (mkG F m))) := by
  have HM := Lib.hid hM
  have HIff := Lib.hid (lgV_iff (F := F) h2 hm.1 hm.2)
  have HAc := Lib.hid (acB_mk h1 h2 F m)
  obtain ⟨L, hL⟩ : ∃ L, (if lgV n F ≤ m then n else 0) = L := ⟨_, rfl⟩
  rw [hL]
  have HL := Lib.hid hL
  clear hM hL
  go_enter Try.func58, Try.ntmps58
  go_wp2_with fail
  go_loopw [5, 15] (fun q i wr => ∃ k : Nat, k ≤ n ∧ i = .int .i64 k ∧ OwnB w.heap.size wr q k (fun _ => n) (mkG F m) ∧ Below w.heap.size w wr) (fun _ i _ => n - (intOf i).toNat)
  case atStart => exact ⟨0, by omega, rfl, OwnB.nil _ _ _ _, Below.refl _ _⟩
  case round =>
    obtain ⟨k, hk, rfl, how, hb⟩ := hrel
    by_cases hlt : k < n
    · have d0 := up_keep hb (HM.out.row k hlt)
      have HOw := Lib.hid how
      have hs := hb.size
      clear how
      go_wp2_with fail
      obtain ⟨w4, rfl⟩ : ∃ W : World, W = wr := ⟨_, rfl⟩
      clear d0
      go_loopw [8, 21] (fun v j wx => ∃ p : Nat, p ≤ n ∧ j = .int .i64 p ∧ OwnN w4.heap.size wx v p (mkG F m k) ∧ Below w4.heap.size w4 wx) (fun _ j _ => n - (intOf j).toNat)
      case atStart => exact ⟨0, by omega, rfl, OwnN.nil _ _ _, Below.refl _ _⟩
      case round =>
        obtain ⟨p, hp, rfl, hon, hbx⟩ := hrel
        by_cases hpn : p < n
        · have d1 := up_keep (hb.trans (hbx.mono hb.size)) (HM.out.at hlt hpn)
          have j1 : (p : Int) < (n : Int) := by omega
          by_cases hq : F k p ≤ m
          · have hdec : decide (F k p ≤ m) = true := decide_eq_true hq
            have HX := Lib.hid (show mkG F m k p = 0 from mkG_yes hq)
            clear hq
            go_wp2_with (at_builtin; refine wpList_app_int2 rfl (.tmp 28) (.tmp 29) rfl w4.heap.size _ p (mkG F m k) rfl rfl HX.out (by simp [go_sem]) (OwnN.up hon (by (repeat (first | with_reducible exact Below.refl _ _ | with_reducible assumption | with_reducible refine up_alloc ?_ _ | with_reducible refine up_drew ?_ | with_reducible refine up_drewN ?_ _ | (with_reducible refine up_set ?_ ?hset _; case hset => first | (simp; done) | (simp; omega) | omega) | with_reducible refine up_trans ?_ (by with_reducible assumption))))) (show Below w4.heap.size w4 _ from (by (repeat (first | with_reducible exact Below.refl _ _ | with_reducible assumption | with_reducible refine up_alloc ?_ _ | with_reducible refine up_drew ?_ | with_reducible refine up_drewN ?_ _ | (with_reducible refine up_set ?_ ?hset _; case hset => first | (simp; done) | (simp; omega) | omega) | with_reducible refine up_trans ?_ (by with_reducible assumption))))).size (by omega) ?_; intro v2 w2 ho2 hb2 _ _; replace hb2 := (show Below w4.heap.size w4 _ from (by (repeat (first | with_reducible exact Below.refl _ _ | with_reducible assumption | with_reducible refine up_alloc ?_ _ | with_reducible refine up_drew ?_ | with_reducible refine up_drewN ?_ _ | (with_reducible refine up_set ?_ ?hset _; case hset => first | (simp; done) | (simp; omega) | omega) | with_reducible refine up_trans ?_ (by with_reducible assumption))))).trans hb2)
            go_roundw
            case rel => exact ⟨p + 1, by omega, by go_num, ho2, hb2⟩
            case measure => simp [intOf]; omega
          · have hdec : decide (F k p ≤ m) = false := decide_eq_false hq
            have HX := Lib.hid (show mkG F m k p = 1 from mkG_no hq)
            clear hq
            go_wp2_with (at_builtin; refine wpList_app_int2 rfl (.tmp 31) (.tmp 32) rfl w4.heap.size _ p (mkG F m k) rfl rfl HX.out (by simp [go_sem]) (OwnN.up hon (by (repeat (first | with_reducible exact Below.refl _ _ | with_reducible assumption | with_reducible refine up_alloc ?_ _ | with_reducible refine up_drew ?_ | with_reducible refine up_drewN ?_ _ | (with_reducible refine up_set ?_ ?hset _; case hset => first | (simp; done) | (simp; omega) | omega) | with_reducible refine up_trans ?_ (by with_reducible assumption))))) (show Below w4.heap.size w4 _ from (by (repeat (first | with_reducible exact Below.refl _ _ | with_reducible assumption | with_reducible refine up_alloc ?_ _ | with_reducible refine up_drew ?_ | with_reducible refine up_drewN ?_ _ | (with_reducible refine up_set ?_ ?hset _; case hset => first | (simp; done) | (simp; omega) | omega) | with_reducible refine up_trans ?_ (by with_reducible assumption))))).size (by omega) ?_; intro v2 w2 ho2 hb2 _ _; replace hb2 := (show Below w4.heap.size w4 _ from (by (repeat (first | with_reducible exact Below.refl _ _ | with_reducible assumption | with_reducible refine up_alloc ?_ _ | with_reducible refine up_drew ?_ | with_reducible refine up_drewN ?_ _ | (with_reducible refine up_set ?_ ?hset _; case hset => first | (simp; done) | (simp; omega) | omega) | with_reducible refine up_trans ?_ (by with_reducible assumption))))).trans hb2)
            go_roundw
            case rel => exact ⟨p + 1, by omega, by go_num, ho2, hb2⟩
            case measure => simp [intOf]; omega
        · have e : p = n := by omega
          have hon2 := hon
          rw [e] at hon2
          have ho := hon2.ownI
          obtain ⟨a2, q2, rfl, _⟩ := ho.shape
          have j1 : ¬ (p : Int) < (n : Int) := by omega
          clear e hpn hon hon2
          have HO := Lib.hid ho
          clear ho
          go_wp2_with (at_builtin; refine wpList_app_row (wa := w4) rfl (.tmp 35) (.tmp 37) rfl w.heap.size _ k (fun _ => n) (mkG F m) rfl rfl (by simp [go_sem]) HOw.out hs (show Below w4.heap.size w4 _ from (by (repeat (first | with_reducible exact Below.refl _ _ | with_reducible assumption | with_reducible refine up_alloc ?_ _ | with_reducible refine up_drew ?_ | with_reducible refine up_drewN ?_ _ | (with_reducible refine up_set ?_ ?hset _; case hset => first | (simp; done) | (simp; omega) | omega) | with_reducible refine up_trans ?_ (by with_reducible assumption))))) (HO.out.up (show Below wr.heap.size wr _ from (by (repeat (first | with_reducible exact Below.refl _ _ | with_reducible assumption | with_reducible refine up_alloc ?_ _ | with_reducible refine up_drew ?_ | with_reducible refine up_drewN ?_ _ | (with_reducible refine up_set ?_ ?hset _; case hset => first | (simp; done) | (simp; omega) | omega) | with_reducible refine up_trans ?_ (by with_reducible assumption)))))) (by omega) ?_; intro v3 w3 ho3 hb3; replace hb3 := (hb.trans ((show Below w4.heap.size w4 _ from (by (repeat (first | with_reducible exact Below.refl _ _ | with_reducible assumption | with_reducible refine up_alloc ?_ _ | with_reducible refine up_drew ?_ | with_reducible refine up_drewN ?_ _ | (with_reducible refine up_set ?_ ?hset _; case hset => first | (simp; done) | (simp; omega) | omega) | with_reducible refine up_trans ?_ (by with_reducible assumption))))).mono hb.size)).trans hb3)
          go_roundw
          case rel => exact ⟨k + 1, by omega, by go_num, ho3, hb3⟩
          case measure => simp [intOf]; omega
    · have e : k = n := by omega
      have how2 := how
      rw [e] at how2
      have HR := Lib.hid how2.rw.rows
      have j1 : ¬ (k : Int) < (n : Int) := by omega
      clear e hlt how how2
      go_wp2_with fail
      refine (maLeast_r _ n (fun _ => n) (mkG F m) _ HR.out HAc.out).mono ?_
      rintro e w2 ⟨v2, rfl, hv2, hb2⟩
      have hw2 := up_trans hb hb2
      have hs := hb.size
      have HV := Lib.hid hv2
      clear hv2
      by_cases hq : lgV n F ≤ m
      · have hdec : decide (0 < lmS n (mkG F m)) = false := decide_eq_false (fun hh => absurd (HIff.out.1 hh) (by omega))
        have HLn := Lib.hid (show n = L by rw [← HL.out, if_pos hq])
        clear hq
        go_wp2_with fail
        go_ret
        exact ⟨_, rfl, by rw [← HLn.out]; exact HV.out.more hs, hw2⟩
      · have hdec : decide (0 < lmS n (mkG F m)) = true := decide_eq_true (HIff.out.2 (by omega))
        have HLn := Lib.hid (show 0 = L by rw [← HL.out, if_neg hq])
        clear hq
        go_wp2_with fail
        go_ret
        exact ⟨_, rfl, by rw [← HLn.out]; exact OwnI.nil, hw2⟩
end Go.Proofs.Ytadlemadnifohaa
