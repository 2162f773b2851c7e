/-
  The table of least sums, on both sides.
-/
import Derived.Test.YtadlemadnifohaaRows
import Derived.Test.YtadlemadnifohaaBase
import Derived.Test.YtadlemadnifohaaSpot
import Derived.Test.YtadlemadnifohaaSlice
import Derived.Test.YtadlemadnifohaaLawS
import Derived.Test.YtadlemadnifohaaMark
import Derived.Test.YtadlemadnifohaaInts
import Derived.Test.YtadlemadnifohaaIntsL
import Derived.Test.YtadlemadnifohaaTurned
import Derived.Test.YtadlemadnifohaaTrans
import Derived.Test.YtadlemadnifohaaMatch
import Derived.Test.YtadlemadnifohaaRowsI
import Derived.Test.YtadlemadnifohaaCosts
import Derived.Test.YtadlemadnifohaaMatS
import Derived.Test.YtadlemadnifohaaMatchP
import Derived.Test.YtadlemadnifohaaOnes
import Derived.Deep.QuietTactic
import Derived.RegionTactic
import Derived.StillTailTactics
namespace Go.Proofs.Ytadlemadnifohaa
open Go.RowKit Go.ChangeShapes Go.WideShapes Go.Sort

/-- The first k columns' share of the least. -/
theorem minK_step0 {T : Int} {u : Nat} {g : Nat → Int} {k : Nat} (h : u.testBit k = true) : minK T u g (k + 1) = minK T u g k := by simp [minK, h]
theorem minK_step1 {T : Int} {u : Nat} {g : Nat → Int} {k : Nat} (h : u.testBit k = false) : minK T u g (k + 1) = min (minK T u g k) (g k) := by simp [minK, h]
theorem two_pow_n {n : Nat} (h1 : 1 ≤ n) (h2 : n ≤ 12) : 2 ≤ 2 ^ n ∧ 2 ^ n ≤ 4096 := by
  have a : 2 ^ 1 ≤ 2 ^ n := Nat.pow_le_pow_right (by omega) h1
  have b : 2 ^ n ≤ 2 ^ 12 := Nat.pow_le_pow_right (by omega) h2
  omega
theorem shl_n {n : Nat} (h2 : n ≤ 12) : IntKind.i64.wrap ((2 : Int) ^ n) = ((2 ^ n : Nat) : Int) := by
  have b : 2 ^ n ≤ 2 ^ 12 := Nat.pow_le_pow_right (by omega) h2
  rw [show ((2 : Int) ^ n) = ((2 ^ n : Nat) : Int) by simp]
  generalize 2 ^ n = z at *
  exact IntWalk.i64_in _ (by omega)
theorem shr_bit0 {U q : Nat} (hU : U < 4096) : (bits .and .i64 ((U : Int) / 2 ^ q) 1 == 0) = !U.testBit q := by
  have e : ((U : Int) / 2 ^ q) = ((U / 2 ^ q : Nat) : Int) := by simp
  have hlt : U / 2 ^ q < 4096 := Nat.lt_of_le_of_lt (Nat.div_le_self _ _) hU
  rw [e, show (1 : Int) = ((1 : Nat) : Int) from rfl, bits_and_i64_nat _ 1 hlt (by omega), Nat.and_one_is_mod, Nat.testBit_eq_decide_div_mod_eq, Bool.eq_iff_iff]
  simp only [beq_iff_eq, Bool.not_eq_true', decide_eq_false_iff_not]
  omega
theorem freeN_all {u : Nat} : ∀ n, (∀ k, k < n → u.testBit k = true) → freeN u n = 0
  | 0, _ => rfl
  | n + 1, h => by simp [freeN, freeN_all n (fun k hk => h k (by omega)), h n (by omega)]
theorem freeN_full (n : Nat) : freeN (2 ^ n - 1) n = 0 := freeN_all n (fun k hk => by rw [Nat.testBit_two_pow_sub_one]; simpa using hk)
theorem freeN_pos {u n : Nat} (h : u + 1 < 2 ^ n) : 0 < freeN u n := by
  rcases Nat.eq_zero_or_pos (freeN u n) with h0 | h0
  · exfalso
    have hb := freeN_none n h0
    have : u = 2 ^ n - 1 := Nat.eq_of_testBit_eq (fun i => by
      rw [Nat.testBit_two_pow_sub_one]
      by_cases hi : i < n
      · rw [hb i hi]; simp [hi]
      · rw [Nat.testBit_lt_two_pow (Nat.lt_of_lt_of_le (show u < 2 ^ n by omega) (Nat.pow_le_pow_right (by omega) (by omega)))]; simp [hi])
    omega
  · exact h0
theorem or_gt {u k : Nat} (h : u.testBit k = false) : u < u ||| 2 ^ k := by
  have h1 : u ≤ u ||| 2 ^ k := Nat.left_le_or
  rcases Nat.lt_or_ge u (u ||| 2 ^ k) with h2 | h2
  · exact h2
  · exfalso
    have e : u ||| 2 ^ k = u := by omega
    have := bit_or u k k
    rw [e, h] at this
    simp at this
theorem or_bitU {U q : Nat} (hU : U < 4096) (hq : q < 12) : bits .or .i64 (U : Int) (IntKind.i64.wrap (2 ^ q)) = ((U ||| 2 ^ q : Nat) : Int) := or_bit hU hq
set_option maxRecDepth 100000 in
set_option maxHeartbeats 400000 in
theorem leastSums_m (b o c n : Nat) (F : Nat → Nat → Int) (B O C : Nat → Nat) (w : World) (hM : MatAt w b o n F B O C) (h1 : 1 ≤ n) (h2 : n ≤ 12) (hF : ∀ i k, i < n → k < n → 0 ≤ F i k ∧ F i k ≤ 1099511627776) :
    Calls Try.prog 40 #[.slice (some ⟨b, o, none⟩) n c] w (AnsI w (2 ^ n) (fun u => tabU (· + ·) 13194139533312 n F u)) := by
  obtain ⟨N, hN⟩ : ∃ N, 2 ^ n = N := ⟨_, rfl⟩
  have hN2 := two_pow_n h1 h2
  have hsh := shl_n h2
  rw [hN] at hN2 hsh ⊢
  obtain ⟨i0, hi0, hz0, hz1, hz2⟩ := info_parts info_int
  have hmk : ∀ W : World, (Instr.makeSlice 25 (.int .i64 (N : Int)) (.int .i64 (N : Int))).run Try.prog W = .ok (.slice (some ⟨W.heap.size, 0, none⟩) N N) (W.alloc (.cells (madeCells #[.int .i64 0] N) 3)) := fun W => by
    have := run_make_rowN (P := Try.prog) 25 3 i0 _ Try.underlying25 hi0 hz0 .i64 .i64 N N (Nat.le_refl _) (by rw [hz2]; omega) (by omega) W
    rw [this, hz1, Nat.mul_one]; rfl
  clear hi0 hz0 hz1 hz2 i0
  have HM := Lib.hid hM
  have HF := Lib.hid hF
  have HN := Lib.hid hN
  clear hM hF hN
  go_enter Try.func40, Try.ntmps40
  go_wp2_with fail
  go_loopw [5] (fun i wr => ∃ (k : Nat) (X : Nat → Int), k + 1 ≤ N ∧ i = .int .i64 ((k : Int) - 1) ∧ Below w.heap.size w wr ∧ w.heap.size + 1 ≤ wr.heap.size ∧ Free wr w.heap.size ∧ Row1 wr w.heap.size 0 N X ∧
      ∀ u, k ≤ u → u < N → X u = tabU (· + ·) 13194139533312 n F u) (fun i _ => (intOf i + 1).toNat)
  case atStart =>
    refine ⟨N - 1, _, by omega, congrArg (Value.int .i64) (by omega), below_alloc _ _, by simp, free_made _ _ _, row1_made _ _ _, fun u hu1 hu2 => ?_⟩
    rw [show u = 2 ^ n - 1 by rw [HN.out]; omega, tabU_full _ _ _ _ _ (freeN_full n)]
  case round =>
    obtain ⟨k, X, hk, rfl, hb, hs, hf, hr, hx⟩ := hrel
    have HR := Lib.hid hr
    have HX := Lib.hid hx
    have HFr := Lib.hid hf
    clear hr hx hf
    rcases Nat.eq_zero_or_pos k with h0 | h0
    · subst h0
      go_wp2_with fail
      go_ret
      exact ⟨_, rfl, ⟨_, _, rfl, Nat.le_refl _, fun _ => ⟨_, _, rfl, Nat.le_refl _, HFr.out, HR.out.cong (fun u hu => HX.out u (Nat.zero_le _) hu)⟩⟩, hb⟩
    · obtain ⟨U, rfl⟩ : ∃ U, k = U + 1 := ⟨k - 1, by omega⟩
      rw [show (((U + 1 : Nat) : Int) - 1) = (U : Int) by omega]
      have hUN : U < N := by omega
      have hU2 : U < 2 ^ n := by rw [HN.out]; exact hUN
      have hU12 := lt4096 h2 hU2
      have hfp := freeN_pos (n := n) (u := U) (by rw [HN.out]; omega)
      have hfl := freeN_le U n
      have HT := Lib.hid (tabU_step (· + ·) 13194139533312 n F U hfp)
      obtain ⟨row, hrow⟩ : ∃ row, n - freeN U n = row := ⟨_, rfl⟩
      have hrn : row < n := by omega
      have HC := Lib.hid (fun W => onesCount_any U n h2 hU2 W)
      rw [hrow] at HT HC
      have d0 := up_keep hb (HM.out.row row hrn)
      have x0 := HR.out.at0 hUN
      have f0 := HFr.out U
      clear hrow hfp hfl hU2
      go_wp2_with (go_at_call 41; refine (HC.out _).mono ?_; rintro e w1 ⟨rfl, rfl⟩)
      have HX1 := Lib.hid (fun u (hu1 : U < u) hu2 => HX.out u hu1 hu2)
      obtain ⟨w4, rfl⟩ : ∃ W : World, W = wr := ⟨_, rfl⟩
      go_loopw [7] (fun j wx => ∃ (m : Nat) (X' : Nat → Int), m ≤ n ∧ j = .int .i64 m ∧ Below w.heap.size w wx ∧ w.heap.size + 1 ≤ wx.heap.size ∧ Free wx w.heap.size ∧ Row1 wx w.heap.size 0 N X' ∧
        (∀ u, U < u → u < N → X' u = tabU (· + ·) 13194139533312 n F u) ∧ X' U = minK 13194139533312 U (fun k => F row k + tabU (· + ·) 13194139533312 n F (U ||| 2 ^ k)) m) (fun j _ => n - (intOf j).toNat)
      case atStart =>
        exact ⟨0, _, by omega, rfl, hb.setCell (Nat.le_refl _) _, by rw [size_set]; exact hs, HFr.out.set _ _, HR.out.put0 hUN _, fun u hu1 hu2 => by
          simp only [if_neg (show ¬ u = U by omega)]; exact HX1.out u hu1 hu2, by simp [minK]⟩
      case round =>
        obtain ⟨m, X', hm, rfl, hbx, hsx, hfx, hrx, hxx, hxU⟩ := hrel
        have HR' := Lib.hid hrx
        have HX' := Lib.hid hxx
        have HF' := Lib.hid hfx
        have HU := Lib.hid hxU
        clear hrx hxx hfx hxU x0 f0 d0
        by_cases hlt : m < n
        · have hb0 := shr_bit0 (q := m) hU12
          cases hbit : U.testBit m with
          | true =>
            rw [hbit] at hb0
            have HK := Lib.hid (minK_step0 (T := 13194139533312) (g := fun k => F row k + tabU (· + ·) 13194139533312 n F (U ||| 2 ^ k)) hbit)
            clear hbit
            go_wp2_with fail
            go_roundw
            case rel => exact ⟨m + 1, X', by omega, by go_num, hbx, hsx, HF'.out, HR'.out, HX'.out, by rw [HK.out]; exact HU.out⟩
            case measure => simp [intOf]; omega
          | false =>
            rw [hbit] at hb0
            have HK := Lib.hid (minK_step1 (T := 13194139533312) (g := fun k => F row k + tabU (· + ·) 13194139533312 n F (U ||| 2 ^ k)) hbit)
            have hgt := or_gt hbit
            have hU2lt : U ||| 2 ^ m < N := by rw [← HN.out]; exact or_lt (by rw [HN.out]; exact hUN) hlt
            have hor := or_bitU (q := m) hU12 (by omega)
            obtain ⟨U2, hU2⟩ : ∃ U2, U ||| 2 ^ m = U2 := ⟨_, rfl⟩
            rw [hU2] at hgt hU2lt hor
            have x0 := HR'.out.at0 hUN
            have x1 := HR'.out.at0 hU2lt
            rw [HX'.out U2 hgt hU2lt] at x1
            have f0 := HF'.out U
            have d0 := up_keep hbx (HM.out.row row hrn)
            have d1 := up_keep hbx (HM.out.at hrn hlt)
            have hF1 := HF.out row m hrn hlt
            have hT0 := tabU_nonneg (T := 13194139533312) (by omega) (fun i k hi hk => (HF.out i k hi hk).1) U2
            have hT1 := tabU_bd (T := 13194139533312) (M := 1099511627776) (fun i k hi hk => (HF.out i k hi hk).2) _ U2 rfl
            have hT3 := freeN_le U2 n
            obtain ⟨T2, hT2⟩ : ∃ t, tabU (· + ·) 13194139533312 n F U2 = t := ⟨_, rfl⟩
            rw [hT2] at x1 hT0 hT1
            have j1 : (U : Int) < (N : Int) := by omega
            have j2 : (U2 : Int) < (N : Int) := by omega
            have j3 : (row : Int) < (n : Int) := by omega
            have j4 : (m : Int) < (n : Int) := by omega
            have HU2 := Lib.hid hU2
            have HT2 := Lib.hid hT2
            have HU' := Lib.hid (show X' U = minK 13194139533312 U (fun k => F row k + tabU (· + ·) 13194139533312 n F (U ||| 2 ^ k)) m from HU.out)
            have hz0 : IntKind.i64.wrap (F row m + T2) = F row m + T2 := IntWalk.i64_in _ (by omega)
            clear hbit hU2 hT2 hT1 hT3
            go_wp2_with fail
            refine wp_region_still_tail 23 (by kernel_rfl) (by kernel_rfl) ?_
            simp only [List.take_succ_cons, List.take_zero, List.drop_succ_cons, List.drop_zero]
            repeat still_step
            refine wpStill_nil ?_
            have hbd : Below wr.heap.size wr wr.drew := up_drew (Below.refl _ _)
            have HRd := Lib.hid (HR'.out.up hbd)
            have HFd := Lib.hid (HF'.out.up (by omega) hbd)
            have hbd1 := hbx.trans (hbd.mono hbx.size)
            have hsd := hbd.size
            change wpList _ _ _ _ _ wr.drew
            clear x0 x1 d0 d1 f0 hz0 hbd
            generalize wr.drew = w5 at *
            have x0 := HRd.out.at0 hUN
            have f0 := HFd.out U
            go_wp2_with fail
            go_roundw
            case rel =>
              refine ⟨m + 1, _, by omega, by go_num, hbd1.setCell (Nat.le_refl _) _, by rw [size_set]; omega, HFd.out.set _ _, HRd.out.put0 hUN _, fun u hu1 hu2 => ?_, ?_⟩
              · simp only [if_neg (show ¬ u = U by omega)]; exact HX'.out u hu1 hu2
              · simp only [if_true]
                rw [HK.out, ← HU'.out, HU2.out, HT2.out]
                split <;> omega
            case measure => simp [intOf]; omega
        · have e : m = n := by omega
          subst e
          go_wp2_with fail
          go_roundw
          case rel =>
            refine ⟨U, X', by omega, rfl, hbx, hsx, HF'.out, HR'.out, fun u hu1 hu2 => ?_⟩
            by_cases e : u = U
            · subst e; rw [HU.out, HT.out]
            · exact HX'.out u (by omega) hu2
          case measure => simp [intOf] <;> omega
theorem bits_xor_i64_nat (a b : Nat) (ha : a < 4096) (hb : b < 4096) : bits .xor .i64 (a : Int) (b : Int) = ((a ^^^ b : Nat) : Int) := by
  have hx : a ^^^ b < 2 ^ 12 := Nat.xor_lt_two_pow (by omega) (by omega)
  have h1 : (BitVec.ofInt 64 (a : Int)).toNat = a := by
    rw [BitVec.ofInt_natCast, BitVec.toNat_ofNat]; exact Nat.mod_eq_of_lt (by omega)
  have h2 : (BitVec.ofInt 64 (b : Int)).toNat = b := by
    rw [BitVec.ofInt_natCast, BitVec.toNat_ofNat]; exact Nat.mod_eq_of_lt (by omega)
  show IntKind.i64.wrap ((BitVec.ofInt 64 (a : Int) ^^^ BitVec.ofInt 64 (b : Int)).toNat : Int) = _
  rw [BitVec.toNat_xor, h1, h2, IntKind.wrap_i64]
  omega
theorem xor_bit {U q : Nat} (hU : U < 4096) (hq : q < 12) : bits .xor .i64 (U : Int) (IntKind.i64.wrap (2 ^ q)) = ((U ^^^ 2 ^ q : Nat) : Int) := by
  have h3 : 2 ^ q < 2 ^ 12 := Nat.pow_lt_pow_right (by omega) (by omega)
  rw [show ((2 : Int) ^ q) = ((2 ^ q : Nat) : Int) by simp]
  generalize 2 ^ q = z at *
  rw [show IntKind.i64.wrap (z : Int) = (z : Int) from IntWalk.i64_in _ (by omega), bits_xor_i64_nat _ _ hU (by omega)]
theorem shr_val {U q : Nat} (hU : U < 4096) : bits .and .i64 ((U : Int) / 2 ^ q) 1 = if U.testBit q then 1 else 0 := by
  have e : ((U : Int) / 2 ^ q) = ((U / 2 ^ q : Nat) : Int) := by simp
  have hlt : U / 2 ^ q < 4096 := Nat.lt_of_le_of_lt (Nat.div_le_self _ _) hU
  rw [e, show (1 : Int) = ((1 : Nat) : Int) from rfl, bits_and_i64_nat _ 1 hlt (by omega), Nat.and_one_is_mod, Nat.testBit_eq_decide_div_mod_eq]
  by_cases h : U / 2 ^ q % 2 = 1
  · simp [h]
  · simp [h]; omega
/-- The columns that are not in a set. -/
def compN (n s : Nat) : Nat := 2 ^ n - (s + 1)
theorem compN_bit {n s : Nat} (h : s < 2 ^ n) (k : Nat) (hk : k < n) : (compN n s).testBit k = !s.testBit k := by
  unfold compN
  rw [Nat.testBit_two_pow_sub_succ h]
  simp [hk]
theorem compN_lt {n s : Nat} (h : s < 2 ^ n) : compN n s < 2 ^ n := by unfold compN; omega
theorem compN_free {n s : Nat} (h : s < 2 ^ n) : ∀ j, j ≤ n → freeN (compN n s) j + freeN s j = j
  | 0, _ => rfl
  | j + 1, hj => by
    have ih := compN_free h j (by omega)
    simp only [freeN, compN_bit h j (by omega)]
    cases s.testBit j <;> simp <;> omega
theorem compN_xor {n s k : Nat} (h : s < 2 ^ n) (hk : k < n) (hb : s.testBit k = true) : s ^^^ 2 ^ k < s ∧ compN n (s ^^^ 2 ^ k) = compN n s ||| 2 ^ k := by
  have hx : ∀ i, (s ^^^ 2 ^ k).testBit i = (s.testBit i && !decide (k = i)) := fun i => by
    rw [Nat.testBit_xor, Nat.testBit_two_pow]
    by_cases e : k = i
    · subst e; simp [hb]
    · simp [e]
  have hu : (s ^^^ 2 ^ k).testBit k = false := by rw [hx]; simp
  have e1 : (s ^^^ 2 ^ k) ||| 2 ^ k = s := Nat.eq_of_testBit_eq (fun i => by
    rw [bit_or, hx]
    by_cases e : k = i
    · subst e; simp [hb]
    · simp [e])
  have h1 := or_gt hu
  rw [e1] at h1
  refine ⟨h1, Nat.eq_of_testBit_eq (fun i => ?_)⟩
  by_cases hi : i < n
  · rw [compN_bit (by omega) i hi, bit_or, compN_bit h i hi, hx]
    by_cases e : k = i <;> simp [e]
  · have hp : 2 ^ n ≤ 2 ^ i := Nat.pow_le_pow_right (by omega) (by omega)
    rw [Nat.testBit_lt_two_pow (Nat.lt_of_lt_of_le (compN_lt (by omega)) hp), Nat.testBit_lt_two_pow (Nat.lt_of_lt_of_le (or_lt (compN_lt h) hk) hp)]
set_option maxRecDepth 100000 in
set_option maxHeartbeats 1000000 in
theorem maTable_m (b o c n : Nat) (F : Nat → Nat → Int) (B O C : Nat → Nat) (w : World) (hM : MatAt w b o n F B O C) (h1 : 1 ≤ n) (h2 : n ≤ 12) (hF : ∀ i k, i < n → k < n → 0 ≤ F i k ∧ F i k ≤ 1000000000) :
    Calls Try.prog 42 #[.slice (some ⟨b, o, none⟩) n c] w (AnsI w (2 ^ n) (fun s => tabU (· + ·) 1000000000 n F (compN n s))) := by
  obtain ⟨N, hN⟩ : ∃ N, 2 ^ n = N := ⟨_, rfl⟩
  have hN2 := two_pow_n h1 h2
  have hsh := shl_n h2
  rw [hN] at hN2 hsh ⊢
  obtain ⟨i0, hi0, hz0, hz1, hz2⟩ := info_parts info_int
  have hmk : ∀ W : World, (Instr.makeSlice 25 (.int .i64 (N : Int)) (.int .i64 (N : Int))).run Try.prog W = .ok (.slice (some ⟨W.heap.size, 0, none⟩) N N) (W.alloc (.cells (madeCells #[.int .i64 0] N) 3)) := fun W => by
    have := run_make_rowN (P := Try.prog) 25 3 i0 _ Try.underlying25 hi0 hz0 .i64 .i64 N N (Nat.le_refl _) (by rw [hz2]; omega) (by omega) W
    rw [this, hz1, Nat.mul_one]; rfl
  clear hi0 hz0 hz1 hz2 i0
  have HM := Lib.hid hM
  have HF := Lib.hid hF
  have HN := Lib.hid hN
  clear hM hF hN
  go_enter Try.func42, Try.ntmps42
  go_wp2_with fail
  go_loopw [5] (fun i wr => ∃ (s : Nat) (X : Nat → Int), 1 ≤ s ∧ s ≤ N ∧ i = .int .i64 s ∧ Below w.heap.size w wr ∧ w.heap.size + 1 ≤ wr.heap.size ∧ Free wr w.heap.size ∧ Row1 wr w.heap.size 0 N X ∧
      ∀ u, u < s → X u = tabU (· + ·) 1000000000 n F (compN n u)) (fun i _ => N - (intOf i).toNat)
  case atStart =>
    refine ⟨1, _, by omega, by omega, rfl, below_alloc _ _, by simp, free_made _ _ _, row1_made _ _ _, fun u hu => ?_⟩
    rw [show u = 0 by omega, show compN n 0 = 2 ^ n - 1 from rfl, tabU_full _ _ _ _ _ (freeN_full n)]
  case round =>
    obtain ⟨s, X, hs1, hsN, rfl, hb, hs, hf, hr, hx⟩ := hrel
    have HR := Lib.hid hr
    have HX := Lib.hid hx
    have HFr := Lib.hid hf
    clear hr hx hf
    by_cases hlt0 : s < N
    · have hs2 : s < 2 ^ n := by rw [HN.out]; exact hlt0
      have hs12 := lt4096 h2 hs2
      have hj0 : (s : Int) < (N : Int) := by omega
      go_wp2_with fail
      go_loop [6, 7] (fun z j => ∃ m : Nat, m ≤ n ∧ j = .int .i64 m ∧ z = .int .i64 (m - freeN s m : Nat)) (fun _ j => n - (intOf j).toNat)
      case atStart => exact ⟨0, by omega, rfl, rfl⟩
      case round =>
        obtain ⟨m, hm, rfl, rfl⟩ := hrel
        have hfm := freeN_le s m
        by_cases hlt : m < n
        · have hv := shr_val (q := m) hs12
          cases hbit : s.testBit m with
          | true =>
            rw [hbit] at hv
            have HS := Lib.hid (show ((m + 1 - freeN s (m + 1) : Nat) : Int) = ((m - freeN s m : Nat) : Int) + 1 by simp [freeN, hbit]; omega)
            clear hbit
            simp only [if_true] at hv
            go_wp2_with fail
            go_round
            case rel => exact ⟨m + 1, by omega, by go_num, by rw [HS.out]⟩
            case measure => simp [intOf]; omega
          | false =>
            rw [hbit] at hv
            have HS := Lib.hid (show ((m + 1 - freeN s (m + 1) : Nat) : Int) = ((m - freeN s m : Nat) : Int) by simp [freeN, hbit])
            clear hbit
            simp only [Bool.false_eq_true, if_false] at hv
            go_wp2_with fail
            go_round
            case rel => exact ⟨m + 1, by omega, by go_num, by rw [HS.out]⟩
            case measure => simp [intOf]; omega
        · have e : m = n := by omega
          subst e
          have hcf := compN_free hs2 m (Nat.le_refl _)
          have hsp : freeN s m < m := by
            rcases Nat.lt_or_ge (freeN s m) m with h | h
            · exact h
            · exfalso
              have h0 : s = 0 := Nat.eq_of_testBit_eq (fun i => by
                rw [Nat.zero_testBit]
                by_cases hi : i < m
                · have := freeN_none m (u := compN m s) (by omega) i hi
                  rw [compN_bit hs2 i hi] at this
                  simpa using this
                · exact Nat.testBit_lt_two_pow (Nat.lt_of_lt_of_le hs2 (Nat.pow_le_pow_right (by omega) (by omega))))
              omega
          have hfp : 0 < freeN (compN m s) m := by omega
          have HT := Lib.hid (tabU_step (· + ·) 1000000000 m F (compN m s) hfp)
          obtain ⟨row, hrow⟩ : ∃ row, m - freeN (compN m s) m = row := ⟨_, rfl⟩
          obtain ⟨z, hz⟩ : ∃ z, m - freeN s m = z := ⟨_, rfl⟩
          rw [hz]
          have hrn : row < m := by omega
          have hsub : (m : Int) - (z : Int) = (row : Int) := by omega
          have hzm : z ≤ m := by omega
          rw [hrow] at HT
          have d0 := up_keep hb (HM.out.row row hrn)
          have x0 := HR.out.at0 hlt0
          have f0 := HFr.out s
          have jr : (row : Int) < (m : Int) := by omega
          clear hrow hfp hcf hsp hz hfm
          have HW := Lib.hid (MatAt.up HM.out hb)
          have hne : w.heap.size ≠ b := by have := lt_of_cell (HM.out.row row hrn); omega
          have d1 : (wr.setCell ⟨w.heap.size, s, none⟩ (.int .i64 1000000000)).cell? ⟨b, o + row, none⟩ = some (.slice (some ⟨B row, O row, none⟩) m (C row)) := up_keep (hb.setCell (Nat.le_refl _) _) (HM.out.row row hrn)
          go_wp2_with fail
          have HX1 := Lib.hid (fun u (hu : u < s) => HX.out u hu)
          obtain ⟨w4, rfl⟩ : ∃ W : World, W = wr := ⟨_, rfl⟩
          go_loopw [45] (fun j wx => ∃ (k : Nat) (X' : Nat → Int), k ≤ m ∧ j = .int .i64 k ∧ Below w.heap.size w wx ∧ w.heap.size + 1 ≤ wx.heap.size ∧ Free wx w.heap.size ∧ Row1 wx w.heap.size 0 N X' ∧
            (∀ u, u < s → X' u = tabU (· + ·) 1000000000 m F (compN m u)) ∧ X' s = minK 1000000000 (compN m s) (fun k => F row k + tabU (· + ·) 1000000000 m F (compN m s ||| 2 ^ k)) k) (fun j _ => m - (intOf j).toNat)
          case atStart =>
            exact ⟨0, _, by omega, rfl, hb.setCell (Nat.le_refl _) _, by rw [size_set]; exact hs, HFr.out.set _ _, HR.out.put0 hlt0 _, fun u hu => by
              simp only [if_neg (show ¬ u = s by omega)]; exact HX1.out u hu, by simp [minK]⟩
          case round =>
            obtain ⟨k, X', hk, rfl, hbx, hsx, hfx, hrx, hxx, hxU⟩ := hrel
            have HR' := Lib.hid hrx
            have HX' := Lib.hid hxx
            have HF' := Lib.hid hfx
            have HU := Lib.hid (show X' s = minK 1000000000 (compN m s) (fun k => F row k + tabU (· + ·) 1000000000 m F (compN m s ||| 2 ^ k)) k from hxU)
            clear hrx hxx hfx hxU x0 f0 d0 d1
            by_cases hlt : k < m
            · have hb0 := shr_bit (q := k) hs12
              have hcb := compN_bit hs2 k hlt
              have d1 := up_keep hbx (HM.out.at hrn hlt)
              have j4 : (k : Int) < (m : Int) := by omega
              cases hbit : s.testBit k with
              | false =>
                rw [hbit] at hb0 hcb
                have HK := Lib.hid (minK_step0 (T := 1000000000) (g := fun k => F row k + tabU (· + ·) 1000000000 m F (compN m s ||| 2 ^ k)) hcb)
                clear hbit hcb
                go_wp2_with fail
                go_roundw
                case rel => exact ⟨k + 1, X', by omega, by go_num, hbx, hsx, HF'.out, HR'.out, HX'.out, by rw [HK.out]; exact HU.out⟩
                case measure => simp [intOf]; omega
              | true =>
                rw [hbit] at hb0 hcb
                have HK := Lib.hid (minK_step1 (T := 1000000000) (g := fun k => F row k + tabU (· + ·) 1000000000 m F (compN m s ||| 2 ^ k)) hcb)
                obtain ⟨hgt, hce⟩ := compN_xor hs2 hlt hbit
                have hxor := xor_bit (q := k) hs12 (by omega)
                obtain ⟨U2, hU2⟩ : ∃ U2, s ^^^ 2 ^ k = U2 := ⟨_, rfl⟩
                rw [hU2] at hgt hce hxor
                have hU2lt : U2 < N := by omega
                have x0 := HR'.out.at0 hlt0
                have x1 := HR'.out.at0 hU2lt
                rw [HX'.out U2 hgt, hce] at x1
                have f0 := HF'.out s
                have hF1 := HF.out row k hrn hlt
                have hT0 := tabU_nonneg (T := 1000000000) (by omega) (fun i k hi hk => (HF.out i k hi hk).1) (compN m s ||| 2 ^ k)
                have hT1 := tabU_bd (T := 1000000000) (M := 1000000000) (fun i k hi hk => (HF.out i k hi hk).2) _ (compN m s ||| 2 ^ k) rfl
                have hT3 := freeN_le (compN m s ||| 2 ^ k) m
                obtain ⟨T2, hT2⟩ : ∃ t, tabU (· + ·) 1000000000 m F (compN m s ||| 2 ^ k) = t := ⟨_, rfl⟩
                rw [hT2] at x1 hT0 hT1
                have j2 : (U2 : Int) < (N : Int) := by omega
                have HT2 := Lib.hid hT2
                have hz0 : IntKind.i64.wrap (F row k + T2) = F row k + T2 := IntWalk.i64_in _ (by omega)
                have HA := Lib.hid (show ∀ W, Calls Try.prog 37 #[.int .i64 (X' s), .int .i64 (F row k + T2)] W (fun e w2 => e = .returned (.int .i64 (min (X' s) (F row k + T2))) ∧ w2 = W) from fun W => (l1Least_any _ _ W).mono fun _ _ ⟨p, q⟩ => ⟨p, q.symm⟩)
                have hz1 : IntKind.u64.wrap (k : Int) = (k : Int) := IntWalk.u64_in _ (by omega)
                have hz2 : min k 64 = k := by omega
                clear hbit hcb hce hU2 hT2 hT1 hT3
                go_wp2_with fail
                refine wp_region_still_tail 18 (by kernel_rfl) (by kernel_rfl) ?_
                simp only [List.take_succ_cons, List.take_zero, List.drop_succ_cons, List.drop_zero]
                repeat (first | still_step | (refine wpStill_step (fun K hK => ?_); go_simp; (with_reducible refine ⟨_, HA.out _, hK _ ?_⟩); clear hK K))
                refine wpStill_nil ?_
                have hbd : Below wr.heap.size wr wr.drew := up_drew (Below.refl _ _)
                have HRd := Lib.hid (HR'.out.up hbd)
                have HFd := Lib.hid (HF'.out.up (by omega) hbd)
                have hbd1 := hbx.trans (hbd.mono hbx.size)
                have hsd := hbd.size
                change wpList _ _ _ _ _ wr.drew
                clear x0 x1 d1 f0 hz0 hz1 hz2 hbd
                generalize wr.drew = w5 at *
                have x0 := HRd.out.at0 hlt0
                have f0 := HFd.out s
                go_wp2_with fail
                go_roundw
                case rel =>
                  refine ⟨k + 1, _, by omega, by go_num, hbd1.setCell (Nat.le_refl _) _, by rw [size_set]; omega, HFd.out.set _ _, HRd.out.put0 hlt0 _, fun u hu => ?_, ?_⟩
                  · simp only [if_neg (show ¬ u = s by omega)]; exact HX'.out u hu
                  · simp only [if_true]
                    rw [HK.out, ← HU.out, HT2.out]
                case measure => simp [intOf]; omega
            · have e : k = m := by omega
              subst e
              go_wp2_with fail
              go_roundw
              case rel =>
                refine ⟨s + 1, X', by omega, by omega, by go_num, hbx, hsx, HF'.out, HR'.out, fun u hu => ?_⟩
                by_cases e : u = s
                · subst e; rw [HU.out, HT.out]
                · exact HX'.out u (by omega)
              case measure => simp [intOf] <;> omega
    · have e : s = N := by omega
      subst e
      go_wp2_with fail
      go_ret
      exact ⟨_, rfl, ⟨_, _, rfl, Nat.le_refl _, fun _ => ⟨_, _, rfl, Nat.le_refl _, HFr.out, HR.out.cong (fun u hu => HX.out u hu)⟩⟩, hb⟩
end Go.Proofs.Ytadlemadnifohaa
