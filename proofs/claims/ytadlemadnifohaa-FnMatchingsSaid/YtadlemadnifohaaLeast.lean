/-
  The first least matching, on both sides.
-/
import Derived.Test.YtadlemadnifohaaRows
import Derived.Test.YtadlemadnifohaaBase
import Derived.Test.YtadlemadnifohaaSpot
import Derived.Test.YtadlemadnifohaaSlice
import Derived.Test.YtadlemadnifohaaLawS
import Derived.Test.YtadlemadnifohaaMark
import Derived.Test.YtadlemadnifohaaAppend
import Derived.Test.YtadlemadnifohaaAppendE
import Derived.Test.YtadlemadnifohaaInts
import Derived.Test.YtadlemadnifohaaIntsL
import Derived.Test.YtadlemadnifohaaCopyI
import Derived.Test.YtadlemadnifohaaTurned
import Derived.Test.YtadlemadnifohaaTrans
import Derived.Test.YtadlemadnifohaaMatch
import Derived.Test.YtadlemadnifohaaRowsI
import Derived.Test.YtadlemadnifohaaCosts
import Derived.Test.YtadlemadnifohaaMatS
import Derived.Test.YtadlemadnifohaaMatchP
import Derived.Test.YtadlemadnifohaaOnes
import Derived.Test.YtadlemadnifohaaTable
import Derived.Deep.QuietTactic
import Derived.BigQuiet
namespace Go.Proofs.Ytadlemadnifohaa
open Go.RowKit Go.ChangeShapes Go.WideShapes Go.Sort

/-- The place of row r, its set before it and behind it. -/
structure PlAt (n : Nat) (F : Nat → Nat → Int) (Tab : Nat → Int) (r U k : Nat) : Prop where
  u : usedM n F Tab r = U
  un : U < 2 ^ n
  kn : k < n
  bit : U.testBit k = false
  eq : F r k + Tab (U ||| 2 ^ k) = Tab U
  no : ∀ j, j < k → U.testBit j = true ∨ F r j + Tab (U ||| 2 ^ j) ≠ Tab U
  nx : usedM n F Tab (r + 1) = U ||| 2 ^ k
theorem plAt {T : Int} {n : Nat} {F : Nat → Nat → Int} (hT : 0 ≤ T) (hC : ∀ i k, i < n → k < n → 0 ≤ F i k) (h0 : tabU (· + ·) T n F 0 < T) {r : Nat} (hr : r < n) :
    PlAt n F (tabU (· + ·) T n F) r (usedM n F (tabU (· + ·) T n F) r) (placeM n F (tabU (· + ·) T n F) r) := by
  obtain ⟨h1, _, _, _, h5⟩ := placeM_ok hT hC h0 r (by omega)
  obtain ⟨k1, k2, k3⟩ := h5 hr
  have hk := k2
  unfold okM at hk
  simp only [Bool.and_eq_true, Bool.not_eq_true', beq_iff_eq] at hk
  refine ⟨rfl, h1, k1, hk.1, hk.2, fun j hj => ?_, rfl⟩
  have := k3 j hj
  unfold okM at this
  simp only [Bool.and_eq_false_iff, Bool.not_eq_false', beq_eq_false_iff_ne] at this
  exact this
theorem tabU_rng {T M : Int} {n : Nat} {F : Nat → Nat → Int} (hT : 0 ≤ T) (hM : 0 ≤ M) (h2 : n ≤ 12) (hF : ∀ i k, i < n → k < n → 0 ≤ F i k ∧ F i k ≤ M) (u : Nat) : 0 ≤ tabU (· + ·) T n F u ∧ tabU (· + ·) T n F u ≤ 12 * M := by
  have a := tabU_nonneg (T := T) hT (fun i k hi hk => (hF i k hi hk).1) u
  have b := tabU_bd (T := T) (M := M) (fun i k hi hk => (hF i k hi hk).2) _ u rfl
  have c := freeN_le u n
  have d : (freeN u n : Int) * M ≤ 12 * M := Int.mul_le_mul_of_nonneg_right (by omega) hM
  exact ⟨a, by omega⟩
set_option maxRecDepth 100000 in
set_option maxHeartbeats 2000000 in
theorem leastMatching_m (b o c n : Nat) (F : Nat → Nat → Int) (B O C : Nat → Nat) (w : World) (hM : MatAt w b o n F B O C) (h1 : 1 ≤ n) (h2 : n ≤ 12) (hF : ∀ i k, i < n → k < n → 0 ≤ F i k ∧ F i k ≤ 1099511627776)
    (h0 : tabU (· + ·) 13194139533312 n F 0 < 13194139533312) :
    Calls Try.prog 33 #[.slice (some ⟨b, o, none⟩) n c] w (AnsI w n (fun r => (placeM n F (tabU (· + ·) 13194139533312 n F) r : Nat))) := by
  have HPl := Lib.hid (fun r (hr : r < n) => plAt (T := 13194139533312) (by omega) (fun i k hi hk => (hF i k hi hk).1) h0 hr)
  have HB := Lib.hid (tabU_rng (T := 13194139533312) (by omega) (by omega) h2 hF)
  have HL := Lib.hid (leastSums_m b o c n F B O C w hM h1 h2 hF)
  have HM := Lib.hid hM
  have HF := Lib.hid hF
  have hN2 := two_pow_n h1 h2
  clear hM hF h0
  generalize hTab : tabU (· + ·) 13194139533312 n F = Tab at *
  clear hTab
  go_enter Try.func33, Try.ntmps33
  go_wp2_with fail
  refine (HL.out).mono ?_
  rintro e w1 ⟨v1, rfl, hv1, hb1⟩
  obtain ⟨A1, c1, rfl, _, hr1⟩ := hv1
  obtain ⟨b1, o1, rfl, hbb1, _, hr1⟩ := hr1 (by omega)
  have HT := Lib.hid hr1
  obtain ⟨N, hN⟩ : ∃ N, 2 ^ n = N := ⟨_, rfl⟩
  rw [hN] at HT hN2
  have HN := Lib.hid hN
  rw [hN]
  clear hr1 hN
  go_wp2_with fail
  go_loopw [4, 5, 13] (fun u q i wr => ∃ r : Nat, r ≤ n ∧ i = .int .i64 r ∧ u = .int .i64 (usedM n F Tab r : Nat) ∧ OwnN w1.heap.size wr q r (fun r => (placeM n F Tab r : Nat)) ∧ Below w1.heap.size w1 wr) (fun _ _ i _ => n - (intOf i).toNat)
  case atStart => exact ⟨0, by omega, rfl, rfl, OwnN.empty (Nat.le_refl _) _, below_alloc _ _⟩
  case round =>
    obtain ⟨r, hr, rfl, rfl, how, hb⟩ := hrel
    by_cases hlt : r < n
    · obtain ⟨k0, hk0⟩ : ∃ k, placeM n F Tab r = k := ⟨_, rfl⟩
      obtain ⟨U, hU⟩ : ∃ U, usedM n F Tab r = U := ⟨_, rfl⟩
      have HP := Lib.hid (HPl.out r hlt)
      rw [hk0, hU] at HP
      rw [hU]
      have HK0 := Lib.hid hk0
      have hUn := HP.out.un
      have hk0n := HP.out.kn
      rw [HN.out] at hUn
      have hU12 : U < 4096 := by omega
      have how2 := Lib.hid how
      clear hk0 hU how
      go_wp2_with fail
      obtain ⟨w4, rfl⟩ : ∃ W : World, W = wr := ⟨_, rfl⟩
      go_loopw [4, 5, 18] (fun u q i wi => ∃ k : Nat, k ≤ k0 ∧ i = .int .i64 k ∧ u = .int .i64 U ∧ OwnN w1.heap.size wi q r (fun r => (placeM n F Tab r : Nat)) ∧ Below w1.heap.size w1 wi) (fun _ _ i _ => n - (intOf i).toNat)
      case atStart => exact ⟨0, by omega, rfl, rfl, how2.out, hb⟩
      case round =>
        obtain ⟨k, hk, rfl, rfl, how, hbi⟩ := hrel
        have hkn : k < n := by omega
        have j1 : (k : Int) < (n : Int) := by omega
        have j2 : (r : Int) < (n : Int) := by omega
        have j3 : (U : Int) < (N : Int) := by omega
        have hb0 := shr_bit0 (q := k) hU12
        cases hbit : U.testBit k with
        | true =>
          rw [hbit] at hb0
          have hne : k ≠ k0 := fun e => by subst e; rw [HP.out.bit] at hbit; cases hbit
          clear hbit
          go_wp2_with fail
          go_quiet (fail)
          go_wp2_with fail
          go_roundw
          case rel => exact ⟨k + 1, by omega, by go_num, rfl, OwnN.up how (by (repeat (first | with_reducible exact Below.refl _ _ | with_reducible assumption | with_reducible refine up_alloc ?_ _ | with_reducible refine up_drew ?_ | with_reducible refine up_drewN ?_ _ | (with_reducible refine up_set ?_ ?hset _; case hset => first | (simp; done) | (simp; omega) | omega) | with_reducible refine up_trans ?_ (by with_reducible assumption)))), by (repeat (first | with_reducible exact Below.refl _ _ | with_reducible assumption | with_reducible refine up_alloc ?_ _ | with_reducible refine up_drew ?_ | with_reducible refine up_drewN ?_ _ | (with_reducible refine up_set ?_ ?hset _; case hset => first | (simp; done) | (simp; omega) | omega) | with_reducible refine up_trans ?_ (by with_reducible assumption)))⟩
          case measure => simp [intOf]; omega
        | false =>
          rw [hbit] at hb0
          have hU2lt : U ||| 2 ^ k < N := by rw [← HN.out]; exact or_lt (by rw [HN.out]; exact hUn) hkn
          have hor := or_bitU (q := k) hU12 (by omega)
          obtain ⟨U2, hU2⟩ : ∃ U2, U ||| 2 ^ k = U2 := ⟨_, rfl⟩
          rw [hU2] at hU2lt hor
          have hor' := hor
          rw [IntWalk.i64_left] at hor'
          have hwi := hb1.trans (hbi.mono hb1.size)
          have d0 := up_keep hwi (HM.out.row r hlt)
          have d1 := up_keep hwi (HM.out.at hlt hkn)
          have t1 := up_keep hbi (HT.out U2 hU2lt)
          have t2 := up_keep hbi (HT.out U hUn)
          have j4 : (U2 : Int) < (N : Int) := by omega
          have f1 := HF.out r k hlt hkn
          have g1 := HB.out U2
          have g2 := HB.out U
          have HU2 := Lib.hid hU2
          have hz0 : IntKind.i64.wrap (F r k + Tab U2) = F r k + Tab U2 := IntWalk.i64_in _ (by omega)
          clear hU2
          by_cases hq : F r k + Tab U2 = Tab U
          · have hdec : (F r k + Tab U2 == Tab U) = true := by simpa using hq
            have hke : k = k0 := by
              rcases Nat.lt_or_ge k k0 with h | h
              · rcases HP.out.no k h with h' | h'
                · rw [hbit] at h'; cases h'
                · rw [HU2.out] at h'; exact absurd hq h'
              · omega
            have HQ : placeM n F Tab r = k := by rw [HK0.out, hke]
            have HX := Lib.hid (show ((placeM n F Tab r : Nat) : Int) = (k : Int) by rw [HQ])
            have HNx := Lib.hid (show usedM n F Tab (r + 1) = U2 by rw [HP.out.nx, ← hke, HU2.out])
            clear hq hbit HQ hke
            go_wp2_with fail
            go_quiet (fail)
            clear hz0 d0 d1 t1 t2
            have hbn : Below wr.heap.size wr (wr.drewN nq) := up_drewN (Below.refl _ _) nq
            replace how := OwnN.up how hbn
            replace hbi := hbi.trans (hbn.mono hbi.size)
            clear hbn
            generalize wr.drewN nq = w5 at *
            go_wp2_with (at_builtin; refine wpList_app_int2 rfl (.tmp 48) (.tmp 50) rfl w1.heap.size _ r (fun r => (placeM n F Tab r : Nat)) rfl rfl HX.out (by simp [go_sem]) (OwnN.up how (by (repeat (first | with_reducible exact Below.refl _ _ | with_reducible assumption | with_reducible refine up_alloc ?_ _ | with_reducible refine up_drew ?_ | with_reducible refine up_drewN ?_ _ | (with_reducible refine up_set ?_ ?hset _; case hset => first | (simp; done) | (simp; omega) | omega) | with_reducible refine up_trans ?_ (by with_reducible assumption))))) (show Below w1.heap.size w1 _ from (by (repeat (first | with_reducible exact Below.refl _ _ | with_reducible assumption | with_reducible refine up_alloc ?_ _ | with_reducible refine up_drew ?_ | with_reducible refine up_drewN ?_ _ | (with_reducible refine up_set ?_ ?hset _; case hset => first | (simp; done) | (simp; omega) | omega) | with_reducible refine up_trans ?_ (by with_reducible assumption))))).size (by omega) ?_; intro v2 w2 ho2 hb2 _ _; replace hb2 := (show Below w1.heap.size w1 _ from (by (repeat (first | with_reducible exact Below.refl _ _ | with_reducible assumption | with_reducible refine up_alloc ?_ _ | with_reducible refine up_drew ?_ | with_reducible refine up_drewN ?_ _ | (with_reducible refine up_set ?_ ?hset _; case hset => first | (simp; done) | (simp; omega) | omega) | with_reducible refine up_trans ?_ (by with_reducible assumption))))).trans hb2)
            go_roundw
            case rel => exact ⟨r + 1, by omega, by go_num, by rw [HNx.out], ho2, hb2⟩
            case measure => simp [intOf]; omega
          · have hdec : (F r k + Tab U2 == Tab U) = false := by simpa using hq
            have hne : k ≠ k0 := fun e => by subst e; rw [← HU2.out] at hq; exact hq HP.out.eq
            clear hq hbit
            go_wp2_with fail
            go_quiet (fail)
            clear hz0
            go_wp2_with fail
            go_roundw
            case rel => exact ⟨k + 1, by omega, by go_num, rfl, OwnN.up how (by (repeat (first | with_reducible exact Below.refl _ _ | with_reducible assumption | with_reducible refine up_alloc ?_ _ | with_reducible refine up_drew ?_ | with_reducible refine up_drewN ?_ _ | (with_reducible refine up_set ?_ ?hset _; case hset => first | (simp; done) | (simp; omega) | omega) | with_reducible refine up_trans ?_ (by with_reducible assumption)))), by (repeat (first | with_reducible exact Below.refl _ _ | with_reducible assumption | with_reducible refine up_alloc ?_ _ | with_reducible refine up_drew ?_ | with_reducible refine up_drewN ?_ _ | (with_reducible refine up_set ?_ ?hset _; case hset => first | (simp; done) | (simp; omega) | omega) | with_reducible refine up_trans ?_ (by with_reducible assumption)))⟩
            case measure => simp [intOf]; omega
    · have e : r = n := by omega
      subst e
      go_wp2_with fail
      go_ret
      exact ⟨_, rfl, how.ownI.more hb1.size, hb1.trans (hb.mono hb1.size)⟩
theorem compN_compN {n u : Nat} (h : u < 2 ^ n) : compN n (compN n u) = u := by unfold compN; omega
theorem compN_or {n u k : Nat} (h : u < 2 ^ n) (hk : k < n) (hb : u.testBit k = false) : compN n u ^^^ 2 ^ k = compN n (u ||| 2 ^ k) := by
  have hc := compN_lt h
  obtain ⟨h1, h2⟩ := compN_xor hc hk (by rw [compN_bit h k hk, hb]; rfl)
  rw [compN_compN h] at h2
  rw [← h2, compN_compN (by omega)]
/-- Returned: n numbers in new memory, and a sum; nothing that was there has turned. -/
def AnsII (w : World) (n : Nat) (X : Nat → Int) (a : Int) (e : Ending) (w' : World) : Prop := ∃ v, e = .returned (.tuple #[v, .int .i64 a]) ∧ OwnI w.heap.size w' v n X ∧ Below w.heap.size w w'
set_option maxRecDepth 100000 in
set_option maxHeartbeats 2000000 in
theorem maLeast_m (b o c n : Nat) (F : Nat → Nat → Int) (B O C : Nat → Nat) (w : World) (hM : MatAt w b o n F B O C) (h1 : 1 ≤ n) (h2 : n ≤ 12) (hF : ∀ i k, i < n → k < n → 0 ≤ F i k ∧ F i k ≤ 1000000000)
    (h0 : tabU (· + ·) 1000000000 n F 0 < 1000000000) :
    Calls Try.prog 36 #[.slice (some ⟨b, o, none⟩) n c] w (AnsII w n (fun r => (placeM n F (tabU (· + ·) 1000000000 n F) r : Nat)) (tabU (· + ·) 1000000000 n F 0)) := by
  have HPl := Lib.hid (fun r (hr : r < n) => plAt (T := 1000000000) (by omega) (fun i k hi hk => (hF i k hi hk).1) h0 hr)
  have HB := Lib.hid (tabU_rng (T := 1000000000) (by omega) (by omega) h2 hF)
  have HL := Lib.hid (maTable_m b o c n F B O C w hM h1 h2 hF)
  have HM := Lib.hid hM
  have HF := Lib.hid hF
  have hN2 := two_pow_n h1 h2
  clear hM hF h0
  generalize hTab : tabU (· + ·) 1000000000 n F = Tab at *
  clear hTab
  go_enter Try.func36, Try.ntmps36
  go_wp2_with fail
  refine (HL.out).mono ?_
  rintro e w1 ⟨v1, rfl, hv1, hb1⟩
  obtain ⟨A1, c1, rfl, _, hr1⟩ := hv1
  obtain ⟨b1, o1, rfl, hbb1, _, hr1⟩ := hr1 (by omega)
  obtain ⟨N, hN⟩ : ∃ N, 2 ^ n = N := ⟨_, rfl⟩
  have HT := Lib.hid (show ∀ s, s < N → w1.cell? ⟨b1, o1 + s, none⟩ = some (.int .i64 (Tab (compN n s))) by rw [← hN]; exact hr1)
  rw [hN] at hN2
  have HN := Lib.hid hN
  rw [hN]
  clear hr1 hN
  have hN1 : (N : Int) - 1 = ((compN n 0 : Nat) : Int) := by unfold compN; rw [HN.out]; omega
  go_wp2_with fail
  go_loopw [5, 6, 19] (fun u q i wr => ∃ r : Nat, r ≤ n ∧ i = .int .i64 r ∧ u = .int .i64 (compN n (usedM n F Tab r) : Nat) ∧ OwnN w1.heap.size wr q r (fun r => (placeM n F Tab r : Nat)) ∧ Below w1.heap.size w1 wr) (fun _ _ i _ => n - (intOf i).toNat)
  case atStart => exact ⟨0, by omega, rfl, rfl, OwnN.nil _ _ _, Below.refl _ _⟩
  case round =>
    clear hN1
    obtain ⟨r, hr, rfl, rfl, how, hb⟩ := hrel
    by_cases hlt : r < n
    · obtain ⟨k0, hk0⟩ : ∃ k, placeM n F Tab r = k := ⟨_, rfl⟩
      obtain ⟨U, hU⟩ : ∃ U, usedM n F Tab r = U := ⟨_, rfl⟩
      have HP := Lib.hid (HPl.out r hlt)
      rw [hk0, hU] at HP
      rw [hU]
      have HK0 := Lib.hid hk0
      have hUn0 := HP.out.un
      have hUn := HP.out.un
      have hk0n := HP.out.kn
      have hSn0 := compN_lt hUn0
      have HSb := Lib.hid (fun k hk => compN_bit hUn0 k hk)
      have HSx := Lib.hid (fun k hk hb => compN_or (k := k) hUn0 hk hb)
      have HSc := Lib.hid (compN_compN hUn0)
      rw [HN.out] at hUn
      obtain ⟨s, hs⟩ : ∃ s, compN n U = s := ⟨_, rfl⟩
      rw [hs] at hSn0 HSb HSx HSc
      rw [hs]
      rw [HN.out] at hSn0
      have hs12 : s < 4096 := by omega
      have how2 := Lib.hid how
      have hw1 := hb1.trans (hb.mono hb1.size)
      have d0 := up_keep hw1 (HM.out.row r hlt)
      clear hk0 hU how hs hUn0
      go_wp2_with fail
      obtain ⟨w4, rfl⟩ : ∃ W : World, W = wr := ⟨_, rfl⟩
      clear d0 hw1
      go_loopw [9, 25] (fun z i wi => ∃ k : Nat, k ≤ n ∧ i = .int .i64 k ∧ z = .int .i64 (if k0 < k then (k0 : Int) else -1) ∧ Below w4.heap.size w4 wi) (fun _ i _ => n - (intOf i).toNat)
      case atStart => exact ⟨0, by omega, rfl, rfl, Below.refl _ _⟩
      case round =>
        obtain ⟨k, hk, rfl, rfl, hbi⟩ := hrel
        by_cases hkn : k < n
        · have hw1 := hb1.trans (hb.mono hb1.size)
          have hwi := hw1.trans (hbi.mono hw1.size)
          have d1 := up_keep hwi (HM.out.at hlt hkn)
          have j1 : (k : Int) < (n : Int) := by omega
          by_cases hfound : k0 < k
          · rw [if_pos hfound]
            have hdec : decide ((k0 : Int) < 0) = false := by simp
            have HE := Lib.hid (show (if k0 < k + 1 then (k0 : Int) else -1) = (k0 : Int) from if_pos (by omega))
            go_wp2_with fail
            go_quiet (fail)
            go_wp2_with fail
            go_roundw
            case rel => exact ⟨k + 1, by omega, by go_num, by rw [HE.out], by (repeat (first | with_reducible exact Below.refl _ _ | with_reducible assumption | with_reducible refine up_alloc ?_ _ | with_reducible refine up_drew ?_ | with_reducible refine up_drewN ?_ _ | (with_reducible refine up_set ?_ ?hset _; case hset => first | (simp; done) | (simp; omega) | omega) | with_reducible refine up_trans ?_ (by with_reducible assumption)))⟩
            case measure => simp [intOf]; omega
          · rw [if_neg hfound]
            have hb0 := shr_bit (q := k) hs12
            rw [HSb.out k hkn] at hb0
            have hz1 : IntKind.u64.wrap (k : Int) = (k : Int) := IntWalk.u64_in _ (by omega)
            have hz2 : min k 64 = k := by omega
            cases hbit : U.testBit k with
            | true =>
              rw [hbit] at hb0
              have hne : k ≠ k0 := fun e => by subst e; rw [HP.out.bit] at hbit; cases hbit
              have HE := Lib.hid (show (if k0 < k + 1 then (k0 : Int) else -1) = -1 from if_neg (by omega))
              clear hbit
              simp only [Bool.not_true] at hb0
              go_wp2_with fail
              go_quiet (fail)
              clear hz1 hz2
              go_wp2_with fail
              go_roundw
              case rel => exact ⟨k + 1, by omega, by go_num, by rw [HE.out], by (repeat (first | with_reducible exact Below.refl _ _ | with_reducible assumption | with_reducible refine up_alloc ?_ _ | with_reducible refine up_drew ?_ | with_reducible refine up_drewN ?_ _ | (with_reducible refine up_set ?_ ?hset _; case hset => first | (simp; done) | (simp; omega) | omega) | with_reducible refine up_trans ?_ (by with_reducible assumption)))⟩
              case measure => simp [intOf]; omega
            | false =>
              rw [hbit] at hb0
              simp only [Bool.not_false] at hb0
              have hce := HSx.out k hkn hbit
              have hU2lt : U ||| 2 ^ k < N := by rw [← HN.out]; exact or_lt (by rw [HN.out]; exact hUn) hkn
              have hxor := xor_bit (q := k) hs12 (by omega)
              rw [hce] at hxor
              obtain ⟨U2, hU2⟩ : ∃ U2, U ||| 2 ^ k = U2 := ⟨_, rfl⟩
              rw [hU2] at hU2lt hxor
              have hS2n : compN n U2 < N := by rw [← HN.out]; exact compN_lt (by rw [HN.out]; exact hU2lt)
              have HSc2 := Lib.hid (show compN n (compN n U2) = U2 from compN_compN (by rw [HN.out]; exact hU2lt))
              obtain ⟨s2, hs2⟩ : ∃ s2, compN n U2 = s2 := ⟨_, rfl⟩
              rw [hs2] at hxor hS2n HSc2
              have t1 := up_keep hbi (up_keep hb (HT.out s2 hS2n))
              have t2 := up_keep hbi (up_keep hb (HT.out s hSn0))
              rw [HSc2.out] at t1
              rw [HSc.out] at t2
              have j3 : (s : Int) < (N : Int) := by omega
              have j4 : (s2 : Int) < (N : Int) := by omega
              have f1 := HF.out r k hlt hkn
              have g1 := HB.out U2
              have g2 := HB.out U
              have HU2 := Lib.hid hU2
              have hz0 : IntKind.i64.wrap (F r k + Tab U2) = F r k + Tab U2 := IntWalk.i64_in _ (by omega)
              clear hU2 hs2 hce
              by_cases hq : F r k + Tab U2 = Tab U
              · have hdec : (F r k + Tab U2 == Tab U) = true := by simpa using hq
                have hke : k = k0 := by
                  rcases Nat.lt_or_ge k k0 with h | h
                  · rcases HP.out.no k h with h' | h'
                    · rw [hbit] at h'; cases h'
                    · rw [HU2.out] at h'; exact absurd hq h'
                  · omega
                have HE := Lib.hid (show (if k0 < k + 1 then (k0 : Int) else -1) = (k : Int) by rw [if_pos (by omega), hke])
                clear hq hbit hke
                go_wp2_with fail
                go_quiet (fail)
                clear hz0 hz1 hz2
                go_wp2_with fail
                go_roundw
                case rel => exact ⟨k + 1, by omega, by go_num, by rw [HE.out], by (repeat (first | with_reducible exact Below.refl _ _ | with_reducible assumption | with_reducible refine up_alloc ?_ _ | with_reducible refine up_drew ?_ | with_reducible refine up_drewN ?_ _ | (with_reducible refine up_set ?_ ?hset _; case hset => first | (simp; done) | (simp; omega) | omega) | with_reducible refine up_trans ?_ (by with_reducible assumption)))⟩
                case measure => simp [intOf]; omega
              · have hdec : (F r k + Tab U2 == Tab U) = false := by simpa using hq
                have hne : k ≠ k0 := fun e => by subst e; rw [← HU2.out] at hq; exact hq HP.out.eq
                have HE := Lib.hid (show (if k0 < k + 1 then (k0 : Int) else -1) = -1 from if_neg (by omega))
                clear hq hbit
                go_wp2_with fail
                go_quiet (fail)
                clear hz0 hz1 hz2
                go_wp2_with fail
                go_roundw
                case rel => exact ⟨k + 1, by omega, by go_num, by rw [HE.out], by (repeat (first | with_reducible exact Below.refl _ _ | with_reducible assumption | with_reducible refine up_alloc ?_ _ | with_reducible refine up_drew ?_ | with_reducible refine up_drewN ?_ _ | (with_reducible refine up_set ?_ ?hset _; case hset => first | (simp; done) | (simp; omega) | omega) | with_reducible refine up_trans ?_ (by with_reducible assumption)))⟩
                case measure => simp [intOf]; omega
        · have e : k = n := by omega
          subst e
          rw [if_pos hk0n]
          have hxor := xor_bit (q := k0) hs12 (by omega)
          rw [HSx.out k0 hk0n HP.out.bit, ← HP.out.nx] at hxor
          have HX := Lib.hid (show ((placeM k F Tab r : Nat) : Int) = (k0 : Int) by rw [HK0.out])
          have how := OwnN.up how2.out hbi
          have hbw := hb.trans (hbi.mono hb.size)
          obtain ⟨s3, hs3⟩ : ∃ s3, compN k (usedM k F Tab (r + 1)) = s3 := ⟨_, rfl⟩
          rw [hs3] at hxor
          have hxor' := hxor
          rw [IntWalk.i64_left] at hxor'
          have HS3 := Lib.hid hs3
          clear hs3
          go_wp2_with (at_builtin; refine wpList_app_int2 rfl (.tmp 59) (.tmp 61) rfl w1.heap.size _ r (fun r => (placeM k F Tab r : Nat)) rfl rfl HX.out (by simp [go_sem]) (OwnN.up how (by (repeat (first | with_reducible exact Below.refl _ _ | with_reducible assumption | with_reducible refine up_alloc ?_ _ | with_reducible refine up_drew ?_ | with_reducible refine up_drewN ?_ _ | (with_reducible refine up_set ?_ ?hset _; case hset => first | (simp; done) | (simp; omega) | omega) | with_reducible refine up_trans ?_ (by with_reducible assumption))))) (show Below w1.heap.size w1 _ from (by (repeat (first | with_reducible exact Below.refl _ _ | with_reducible assumption | with_reducible refine up_alloc ?_ _ | with_reducible refine up_drew ?_ | with_reducible refine up_drewN ?_ _ | (with_reducible refine up_set ?_ ?hset _; case hset => first | (simp; done) | (simp; omega) | omega) | with_reducible refine up_trans ?_ (by with_reducible assumption))))).size (by omega) ?_; intro v2 w2 ho2 hb2 _ _; replace hb2 := (show Below w1.heap.size w1 _ from (by (repeat (first | with_reducible exact Below.refl _ _ | with_reducible assumption | with_reducible refine up_alloc ?_ _ | with_reducible refine up_drew ?_ | with_reducible refine up_drewN ?_ _ | (with_reducible refine up_set ?_ ?hset _; case hset => first | (simp; done) | (simp; omega) | omega) | with_reducible refine up_trans ?_ (by with_reducible assumption))))).trans hb2)
          go_roundw
          case rel => exact ⟨r + 1, by omega, by go_num, by rw [HS3.out], ho2, hb2⟩
          case measure => simp [intOf]; omega
    · have e : r = n := by omega
      subst e
      have t0 := up_keep hb (HT.out (compN r 0) (by unfold compN; rw [HN.out]; omega))
      rw [compN_compN (by rw [HN.out]; omega)] at t0
      have hN1 : (N : Int) - 1 = ((compN r 0 : Nat) : Int) := by unfold compN; rw [HN.out]; omega
      have j1 : ((compN r 0 : Nat) : Int) < (N : Int) := by omega
      have hz0 : IntKind.i64.wrap ((N : Int) - 1) = ((compN r 0 : Nat) : Int) := by rw [hN1]; exact IntWalk.i64_in _ (by omega)
      go_wp2_with fail
      go_quiet (fail)
      clear hz0
      have hbn : Below wr.heap.size wr (wr.drewN nq) := up_drewN (Below.refl _ _) nq
      replace how := OwnN.up how hbn
      replace hb := hb.trans (hbn.mono hb.size)
      go_wp2_with fail
      go_ret2
      exact ⟨_, rfl, how.ownI.more hb1.size, hb1.trans (hb.mono hb1.size)⟩
end Go.Proofs.Ytadlemadnifohaa
