/-
  ForcedPair and ForbiddenPair on both sides.
-/
import Derived.Test.YtadlemadnifohaaRows
import Derived.Test.YtadlemadnifohaaBase
import Derived.Test.YtadlemadnifohaaSpot
import Derived.Test.YtadlemadnifohaaSlice
import Derived.Test.YtadlemadnifohaaLawS
import Derived.Test.YtadlemadnifohaaMark
import Derived.Test.YtadlemadnifohaaOpen
import Derived.Test.YtadlemadnifohaaTrod
import Derived.Test.YtadlemadnifohaaInts
import Derived.Test.YtadlemadnifohaaIntsL
import Derived.Test.YtadlemadnifohaaTurned
import Derived.Test.YtadlemadnifohaaTrans
import Derived.Test.YtadlemadnifohaaOpenT
import Derived.Test.YtadlemadnifohaaRowsI
import Derived.Test.YtadlemadnifohaaCosts
import Derived.Test.YtadlemadnifohaaAppend
import Derived.Test.YtadlemadnifohaaAppendE
import Derived.Test.YtadlemadnifohaaForm
import Derived.Test.YtadlemadnifohaaCopyI
import Derived.Test.YtadlemadnifohaaMatch
import Derived.Test.YtadlemadnifohaaMatS
import Derived.Test.YtadlemadnifohaaMatchP
import Derived.Test.YtadlemadnifohaaMatchQ
import Derived.Test.YtadlemadnifohaaOnes
import Derived.Test.YtadlemadnifohaaTable
import Derived.Test.YtadlemadnifohaaLeast
import Derived.Test.YtadlemadnifohaaLeastM
import Derived.Test.YtadlemadnifohaaRowB
import Derived.Deep.CutRange
import Derived.Deep.DeepCutAuto
namespace Go.Proofs.Ytadlemadnifohaa
open Go.RowKit Go.ChangeShapes Go.WideShapes Go.Sort

/-- Costs in memory of their own: the rows' blocks are apart. -/
structure MatOwn (base : Nat) (w : World) (b o n : Nat) (F : Nat → Nat → Int) (B O C : Nat → Nat) : Prop where
  mat : MatAt w b o n F B O C
  bb : base ≤ b
  rb : ∀ i, i < n → base ≤ B i ∧ B i < w.heap.size ∧ Free w (B i) ∧ B i ≠ b
  ne : ∀ i j, i < n → j < n → i ≠ j → B i ≠ B j
theorem matOwn_of {base : Nat} {w : World} {v : Value} {n : Nat} {F : Nat → Nat → Int} (h : OwnRw base w v n (fun _ => n) F) (hn : 0 < n) : ∃ b o c B O C, v = .slice (some ⟨b, o, none⟩) n c ∧ MatOwn base w b o n F B O C := by
  obtain ⟨A, c, V, rfl, hnc, hr, hf, hd⟩ := h
  obtain ⟨b, o, rfl, hbb, hrq, hne⟩ := hr hn
  have key : ∀ i, ∃ q : Nat × Nat × Nat, i < n → V i = .slice (some ⟨q.1, q.2.1, none⟩) n q.2.2 ∧ base ≤ q.1 ∧ Free w q.1 ∧ Row1 w q.1 q.2.1 n (F i) := fun i => by
    by_cases hi : i < n
    · obtain ⟨A', c', e, _, hrr⟩ := hf i hi
      obtain ⟨b', o', rfl, k1, k2, k3⟩ := hrr hn
      exact ⟨(b', o', c'), fun _ => ⟨e, k1, k2, k3⟩⟩
    · exact ⟨(0, 0, 0), fun h => absurd h hi⟩
  obtain ⟨G, hG⟩ := Classical.axiomOfChoice key
  refine ⟨b, o, c, fun i => (G i).1, fun i => (G i).2.1, fun i => (G i).2.2, rfl, ⟨fun i hi => by rw [hrq i hi, (hG i hi).1], fun i hi => (hG i hi).2.2.2⟩, hbb, fun i hi => ⟨(hG i hi).2.1, (hG i hi).2.2.2.lt hn, (hG i hi).2.2.1, fun e => ?_⟩, fun i j hi hj hij e => ?_⟩
  · refine hne i hi hn ?_
    rw [(hG i hi).1]
    simp only [Value.ownBlock, e]
  · refine hd i j hi hj hij hn hn ?_
    rw [(hG i hi).1, (hG j hj).1]
    simp only [Value.ownBlock, e]
/-- One row is turned. -/
theorem MatOwn.change {base : Nat} {w w' : World} {b o n : Nat} {F : Nat → Nat → Int} {B O C : Nat → Nat} (h : MatOwn base w b o n F B O C) {I : Nat} (hI : I < n) (hg : w.grownBy w' (some (B I))) {X : Nat → Int} (hr : Row1 w' (B I) (O I) n X) :
    MatAt w' b o n (fun i => if i = I then X else F i) B O C := by
  refine ⟨fun i hi => far_keep (Below.refl _ _) hg (h.mat.row i hi) (by have := (h.rb I hI).2.2.2; simp; omega), fun i hi => ?_⟩
  by_cases e : i = I
  · subst e; simp only [if_true]; exact hr
  · simp only [if_neg e]
    exact (h.mat.num i hi).only hg (by have := h.ne I i hI hi (Ne.symm e); simp; omega)
/-- A pair of valid costs. -/
def prB (n : Nat) (R : Nat → Nat) (F : Nat → Nat → Int) (i k : Int) : Bool := (acB n R F && inB i 0 ((n : Int) - 1)) && inB k 0 ((n : Int) - 1)
/-- The costs with some of row I set to B. -/
def setF (B : Int) (F : Nat → Nat → Int) (I : Nat) (fb : Nat → Bool) (r j : Nat) : Int := if r = I then (if fb j then B else F r j) else F r j
theorem setF_rng {B : Int} {F : Nat → Nat → Int} {n I : Nat} {fb : Nat → Bool} (hB : 2100000 ≤ B) (hF : ∀ i k, i < n → k < n → 0 ≤ F i k ∧ F i k ≤ 2100000) : ∀ i k, i < n → k < n → 0 ≤ setF B F I fb i k ∧ setF B F I fb i k ≤ B := fun i k hi hk => by
  have := hF i k hi hk
  unfold setF
  split
  · split <;> omega
  · omega
theorem setF_agree {F : Nat → Nat → Int} {n I : Nat} {fb : Nat → Bool} (h2 : n ≤ 12) (hF : ∀ i k, i < n → k < n → 0 ≤ F i k ∧ F i k ≤ 2100000) (hlow : tabU (· + ·) 13194139533312 n (setF 1099511627776 F I fb) 0 ≤ 25200000) :
    tabU (· + ·) 13194139533312 n (setF 1099511627776 F I fb) 0 = tabU (· + ·) 1000000000 n (setF 1000000000 F I fb) 0 := by
  have a := tab_agree (B := 1000000000) (T := 13194139533312) (C' := setF 1000000000 F I fb) (by omega) (by omega) (fun i k hi hk => (setF_rng (I := I) (fb := fb) (B := 1099511627776) (by omega) hF i k hi hk).1) (fun i k hi hk => by
    have := hF i k hi hk
    unfold setF
    split
    · split <;> omega
    · omega) (freeN 0 n) 0 (freeN_le 0 n)
  unfold tabU at hlow ⊢
  omega
def fdB (k : Int) (j : Nat) : Bool := !((j : Int) == k)
def fbB (k : Int) (j : Nat) : Bool := (j : Int) == k
theorem forced_low {F : Nat → Nat → Int} {n I K : Nat} (h2 : n ≤ 12) (hI : I < n) (hK : K < n) (hF : ∀ i k, i < n → k < n → 0 ≤ F i k ∧ F i k ≤ 2100000) : tabU (· + ·) 13194139533312 n (setF 1099511627776 F I (fdB K)) 0 ≤ 25200000 := by
  have := tabU_bd1 (T := 13194139533312) (C := setF 1099511627776 F I (fdB K)) (M := 2100000) hI hK (fun a b ha hb hab => by
    have := hF a b ha hb
    unfold setF fdB
    split
    · rename_i e
      have := hab e
      subst this
      simp
      omega
    · omega) n 0 (freeN_zero n) (fun _ => Nat.zero_testBit _)
  have e : (n : Int) * 2100000 ≤ 12 * 2100000 := Int.mul_le_mul_of_nonneg_right (by omega) (by omega)
  omega
theorem forbid_low {F : Nat → Nat → Int} {n I K : Nat} (h2 : n ≤ 12) (hn : 2 ≤ n) (hI : I < n) (hK : K < n) (hF : ∀ i k, i < n → k < n → 0 ≤ F i k ∧ F i k ≤ 2100000) : tabU (· + ·) 13194139533312 n (setF 1099511627776 F I (fbB K)) 0 ≤ 25200000 := by
  have := tabU_bd2 (T := 13194139533312) (C := setF 1099511627776 F I (fbB K)) (M := 2100000) hI hK hn (fun a b ha hb hab => by
    have := hF a b ha hb
    unfold setF fbB
    split
    · rename_i e
      have := hab e
      rw [if_neg (by simp; omega)]
      omega
    · omega) n 0 (freeN_zero n) (fun _ h => by omega)
  have e : (n : Int) * 2100000 ≤ 12 * 2100000 := Int.mul_le_mul_of_nonneg_right (by omega) (by omega)
  omega
set_option maxRecDepth 100000 in
set_option maxHeartbeats 1000000 in
theorem isPair_g (v : Value) (n : Nat) (R : Nat → Nat) (F : Nat → Nat → Int) (i k : Int) (w : World) (h : IRows w v n R F) (hn : n ≤ 1048576) (hR : ∀ i, i < n → R i ≤ 1048576) :
    Calls Try.prog 45 #[v, .int .i64 i, .int .i64 k] w (Ans w (.bool (prB n R F i k))) := by
  have HA := Lib.hid (areCosts_g v n R F w h hn hR)
  obtain ⟨A, c, rfl, _⟩ := h.shape
  clear h hR
  cases e1 : acB n R F with
  | false =>
    rw [e1] at HA
    have HE := Lib.hid (show prB n R F i k = false by simp [prB, e1])
    clear e1
    go_enter Try.func45, Try.ntmps45
    go_wp2_with (go_at_call 24; refine (HA.out).mono ?_; rintro e w1 ⟨rfl, hb1⟩)
    go_ret
    exact Ans.bool (by rw [HE.out]) hb1
  | true =>
    rw [e1] at HA
    cases e2 : inB i 0 ((n : Int) - 1) with
    | false =>
      have HE := Lib.hid (show prB n R F i k = false by simp [prB, e2])
      clear e1
      go_enter Try.func45, Try.ntmps45
      go_wp2_with (first | (go_at_call 24; refine (HA.out).mono ?_; rintro e w1 ⟨rfl, hb1⟩) | (go_at_call 52; refine (within_any _ _ _ _).mono ?_; rintro e w1 ⟨rfl, rfl⟩))
      go_ret
      exact Ans.bool (by rw [HE.out]) hb1
    | true =>
      have HE := Lib.hid (show prB n R F i k = inB k 0 ((n : Int) - 1) by simp [prB, e1, e2])
      clear e1
      go_enter Try.func45, Try.ntmps45
      go_wp2_with (first | (go_at_call 24; refine (HA.out).mono ?_; rintro e w1 ⟨rfl, hb1⟩) | (go_at_call 52; refine (within_any _ _ _ _).mono ?_; rintro e w1 ⟨rfl, rfl⟩))
      go_ret
      exact Ans.bool (by rw [HE.out]) hb1
set_option maxRecDepth 100000 in
set_option maxHeartbeats 1000000 in
theorem maPair_g (v : Value) (n : Nat) (R : Nat → Nat) (F : Nat → Nat → Int) (i k : Int) (w : World) (h : IRows w v n R F) (hn : n ≤ 1048576) (hR : ∀ i, i < n → R i ≤ 1048576) :
    Calls Try.prog 47 #[v, .int .i64 i, .int .i64 k] w (Ans w (.bool (prB n R F i k))) := by
  have HA := Lib.hid (maGood_g v n R F w h hn hR)
  obtain ⟨A, c, rfl, _⟩ := h.shape
  clear h hR
  cases e1 : acB n R F with
  | false =>
    rw [e1] at HA
    have HE := Lib.hid (show prB n R F i k = false by simp [prB, e1])
    clear e1
    go_enter Try.func47, Try.ntmps47
    go_wp2_with (go_at_call 35; refine (HA.out).mono ?_; rintro e w1 ⟨rfl, hb1⟩)
    go_ret
    exact Ans.bool (by rw [HE.out]) hb1
  | true =>
    rw [e1] at HA
    cases e2 : inB i 0 ((n : Int) - 1) with
    | false =>
      have HE := Lib.hid (show prB n R F i k = false by simp [prB, e2])
      clear e1
      go_enter Try.func47, Try.ntmps47
      go_wp2_with (first | (go_at_call 35; refine (HA.out).mono ?_; rintro e w1 ⟨rfl, hb1⟩) | (go_at_call 60; refine (l1In_any _ _ _ _).mono ?_; rintro e w1 ⟨rfl, rfl⟩))
      go_ret
      exact Ans.bool (by rw [HE.out]) hb1
    | true =>
      have HE := Lib.hid (show prB n R F i k = inB k 0 ((n : Int) - 1) by simp [prB, e1, e2])
      clear e1
      go_enter Try.func47, Try.ntmps47
      go_wp2_with (first | (go_at_call 35; refine (HA.out).mono ?_; rintro e w1 ⟨rfl, hb1⟩) | (go_at_call 60; refine (l1In_any _ _ _ _).mono ?_; rintro e w1 ⟨rfl, rfl⟩))
      go_ret
      exact Ans.bool (by rw [HE.out]) hb1
def fdV (n : Nat) (R : Nat → Nat) (F : Nat → Nat → Int) (i k : Int) : Value := .tuple #[.int .i64 (if prB n R F i k then tabU (· + ·) 1000000000 n (setF 1000000000 F i.toNat (fdB k)) 0 else 0), .bool (prB n R F i k)]
def fpB (n : Nat) (R : Nat → Nat) (F : Nat → Nat → Int) (i k : Int) : Bool := prB n R F i k && !((n : Int) == 1)
def fpV (n : Nat) (R : Nat → Nat) (F : Nat → Nat → Int) (i k : Int) : Value := .tuple #[.int .i64 (if fpB n R F i k then tabU (· + ·) 1000000000 n (setF 1000000000 F i.toNat (fbB k)) 0 else 0), .bool (fpB n R F i k)]
theorem prB_iff {n : Nat} {R : Nat → Nat} {F : Nat → Nat → Int} {i k : Int} (h : prB n R F i k = true) : acB n R F = true ∧ (0 ≤ i ∧ i ≤ (n : Int) - 1) ∧ 0 ≤ k ∧ k ≤ (n : Int) - 1 := by
  simp only [prB, Bool.and_eq_true] at h
  exact ⟨h.1.1, inB_iff.1 h.1.2, inB_iff.1 h.2⟩
set_option maxRecDepth 100000 in
set_option maxHeartbeats 2000000 in
theorem iForcedPair_g (v : Value) (n : Nat) (R : Nat → Nat) (F : Nat → Nat → Int) (i k : Int) (w : World) (h : IRows w v n R F) (hn : n ≤ 1048576) (hR : ∀ i, i < n → R i ≤ 1048576) :
    Calls Try.prog 15 #[v, .int .i64 i, .int .i64 k] w (Ans w (fdV n R F i k)) := by
  have HI := Lib.hid h
  have HRR := Lib.hid hR
  have HA := Lib.hid (isPair_g v n R F i k w h hn hR)
  cases e1 : prB n R F i k with
  | false =>
    rw [e1] at HA
    rw [show fdV n R F i k = .tuple #[.int .i64 0, .bool false] by simp [fdV, e1]]
    obtain ⟨A, c, rfl, _⟩ := h.shape
    clear h hR e1
    go_enter Try.func15, Try.ntmps15
    go_wp2_with (go_at_call 45; refine (HA.out).mono ?_; rintro e w1 ⟨rfl, hb1⟩)
    go_ret2
    exact ⟨rfl, hb1⟩
  | true =>
    rw [e1] at HA
    rw [show fdV n R F i k = .tuple #[.int .i64 (tabU (· + ·) 1000000000 n (setF 1000000000 F i.toNat (fdB k)) 0), .bool true] by simp [fdV, e1]]
    obtain ⟨e2, ⟨i1, i2⟩, k1, k2⟩ := prB_iff e1
    obtain ⟨I, rfl⟩ : ∃ I : Nat, i = I := ⟨i.toNat, by omega⟩
    obtain ⟨K, rfl⟩ : ∃ K : Nat, k = K := ⟨k.toNat, by omega⟩
    rw [show ((I : Int)).toNat = I by omega]
    obtain ⟨⟨n1, n12⟩, hRn, hF⟩ := acB_iff e2
    have hI : I < n := by omega
    have hK : K < n := by omega
    have HLow0 := setF_agree n12 hF (forced_low n12 hI hK hF)
    rw [← HLow0]
    have HCp := Lib.hid (fun W (hW : Below w.heap.size w W) => copyLists_g v n R F W (HI.out.up hW) hn HRR.out)
    have HF := Lib.hid hF
    have HRn := Lib.hid hRn
    obtain ⟨A, c, rfl, _⟩ := h.shape
    clear h hR e1 e2 hF hRn HLow0
    
    go_enter Try.func15, Try.ntmps15
    go_wp2_with (go_at_call 45; refine (HA.out).mono ?_; rintro e w1 ⟨rfl, hb1⟩)
    refine (HCp.out _ hb1).mono ?_
    rintro e w2 ⟨v2, rfl, hv2, hb2⟩
    have hw2 := up_trans hb1 hb2
    have hs1 := hb1.size
    have hv3 : OwnRw w.heap.size w2 v2 n (fun _ => n) F := by
      obtain ⟨A', c', V', q1, q2, q3, q4, q5⟩ := hv2.more hs1
      exact ⟨A', c', V', q1, q2, fun h0 => by
        obtain ⟨bq, oq, s1, s2, s3, s4⟩ := q3 h0
        exact ⟨bq, oq, s1, s2, s3, fun i hi h => s4 i hi (by rw [HRn.out i hi]; exact h)⟩, fun i hi => by
        have := q4 i hi
        rw [HRn.out i hi] at this
        exact this, fun i j hi hj hij h1 h2 => q5 i j hi hj hij (by rw [HRn.out i hi]; exact h1) (by rw [HRn.out j hj]; exact h2)⟩
    obtain ⟨b2, o2, c2, B, O, C, rfl, hMo⟩ := matOwn_of hv3 (by omega)
    have HMo := Lib.hid hMo
    have d0 := hMo.mat.row I hI
    have j1 : (I : Int) < (n : Int) := by omega
    have j2 : (K : Int) < (n : Int) := by omega
    clear hv2 hv3 hMo
    go_wp2_with fail
    go_loopw [22] (fun q wr => ∃ m : Nat, m ≤ n ∧ q = .int .i64 m ∧ w2.grownBy wr (some (B I)) ∧ Free wr (B I) ∧ Row1 wr (B I) (O I) n (fun j => if j < m ∧ fdB K j = true then 1099511627776 else F I j)) (fun q _ => n - (intOf q).toNat)
    case atStart => exact ⟨0, by omega, rfl, World.grownBy.refl _ _, (HMo.out.rb I hI).2.2.1, (HMo.out.mat.num I hI).cong (fun j _ => by simp)⟩
    case round =>
      obtain ⟨m, hm, rfl, hg, hf, hr⟩ := hrel
      have HG := Lib.hid hg
      have HFr := Lib.hid hf
      have HR' := Lib.hid hr
      have hne : some (B I) ≠ some b2 := by have := (HMo.out.rb I hI).2.2.2; simp; omega
      have r0 := far_keep (Below.refl _ _) HG.out (HMo.out.mat.row I hI) hne
      clear hg hf hr d0
      by_cases hlt : m < n
      · have j4 : (m : Int) < (n : Int) := by omega
        have x0 := HR'.out m hlt
        have f0 := HFr.out (O I + m)
        by_cases hmk : m = K
        · have hd2 : ((m : Int) != (K : Int)) = false := by simp; omega
          have hfd : fdB K m = false := by simp [fdB, hmk]
          have HC := Lib.hid (show ∀ j, (if j < m ∧ fdB K j = true then (1099511627776 : Int) else F I j) = if j < m + 1 ∧ fdB K j = true then 1099511627776 else F I j from fun j => by
            by_cases e : j = m
            · subst e; simp [hfd]
            · by_cases e2 : j < m
              · simp [e2, show j < m + 1 by omega]
              · simp [e2, show ¬ j < m + 1 by omega])
          clear hfd hmk
          go_wp2_with fail
          go_roundw
          case rel => exact ⟨m + 1, by omega, by go_num, HG.out, HFr.out, HR'.out.cong (fun j _ => HC.out j)⟩
          case measure => simp [intOf]; omega
        · have hd2 : ((m : Int) != (K : Int)) = true := by simp; omega
          have hfd : fdB K m = true := by simp [fdB]; omega
          have HC := Lib.hid (show ∀ j, (if j = m then (1099511627776 : Int) else if j < m ∧ fdB K j = true then (1099511627776 : Int) else F I j) = if j < m + 1 ∧ fdB K j = true then 1099511627776 else F I j from fun j => by
            by_cases e : j = m
            · subst e; simp [hfd]
            · by_cases e2 : j < m
              · simp [e, e2, show j < m + 1 by omega]
              · simp [e, e2, show ¬ j < m + 1 by omega])
          clear hfd hmk
          go_wp2_with fail
          go_roundw
          case rel => exact ⟨m + 1, by omega, by go_num, grown_set HG.out rfl _, HFr.out.set _ _, (HR'.out.put hlt 1099511627776).cong (fun j _ => HC.out j)⟩
          case measure => simp [intOf]; omega
      · have e : m = n := by omega
        subst e
        have hM2 := HMo.out.change hI HG.out HR'.out
        have hM3 : MatAt wr b2 o2 m (setF 1099511627776 F I (fdB K)) B O C := ⟨hM2.row, fun i hi => (hM2.num i hi).cong (fun j hj => by
          unfold setF
          by_cases e : i = I
          · subst e; simp [hj]
          · simp [e])⟩
        have hbg : Below w.heap.size w wr := hw2.trans ((Below.refl _ _).grown HG.out hw2.size (fun k hk => by have := (HMo.out.rb I hI).1; cases hk; omega))
        have hL := leastSums_m b2 o2 c2 m (setF 1099511627776 F I (fdB K)) B O C wr hM3 n1 n12 (setF_rng (by omega) HF.out)
        have HLs := Lib.hid hL
        have hN2 := two_pow_n n1 n12
        obtain ⟨N, hN⟩ : ∃ N, 2 ^ m = N := ⟨_, rfl⟩
        rw [hN] at HLs hN2
        clear hL hM2 hM3 hN
        go_wp2_with fail
        refine (HLs.out).mono ?_
        rintro e w7 ⟨v7, rfl, hv7, hb7⟩
        obtain ⟨A7, c7, rfl, _, hr7⟩ := hv7
        obtain ⟨b7, o7, rfl, _, _, hr7q⟩ := hr7 (by omega)
        have y0 : w7.cell? ⟨b7, o7 + 0, none⟩ = some (.int .i64 (tabU (· + ·) 13194139533312 m (setF 1099511627776 F I (fdB K)) 0)) := hr7q 0 (by omega)
        rw [Nat.add_zero] at y0
        have hj0 : (0 : Int) < (N : Int) := by omega
        clear hr7 hr7q
        go_wp2_with fail
        go_ret2
        exact ⟨rfl, up_trans hbg hb7⟩

set_option maxRecDepth 100000 in
set_option maxHeartbeats 2000000 in
theorem iForbiddenPair_g (v : Value) (n : Nat) (R : Nat → Nat) (F : Nat → Nat → Int) (i k : Int) (w : World) (h : IRows w v n R F) (hn : n ≤ 1048576) (hR : ∀ i, i < n → R i ≤ 1048576) :
    Calls Try.prog 18 #[v, .int .i64 i, .int .i64 k] w (Ans w (fpV n R F i k)) := by
  have HI := Lib.hid h
  have HRR := Lib.hid hR
  have HA := Lib.hid (isPair_g v n R F i k w h hn hR)
  cases e1 : prB n R F i k with
  | false =>
    rw [e1] at HA
    rw [show fpV n R F i k = .tuple #[.int .i64 0, .bool false] by simp [fpV, fpB, e1]]
    obtain ⟨A, c, rfl, _⟩ := h.shape
    clear h hR e1
    go_enter Try.func18, Try.ntmps18
    go_wp2_with (go_at_call 45; refine (HA.out).mono ?_; rintro e w1 ⟨rfl, hb1⟩)
    go_ret2
    exact ⟨rfl, hb1⟩
  | true =>
    rw [e1] at HA
    by_cases hn1 : n = 1
    · have hd1 : ((n : Int) == 1) = true := by simp; omega
      rw [show fpV n R F i k = .tuple #[.int .i64 0, .bool false] by simp [fpV, fpB, hn1]]
      obtain ⟨A, c, rfl, _⟩ := h.shape
      clear h hR e1 hn1
      go_enter Try.func18, Try.ntmps18
      go_wp2_with (go_at_call 45; refine (HA.out).mono ?_; rintro e w1 ⟨rfl, hb1⟩)
      go_ret2
      exact ⟨rfl, hb1⟩
    have hd1 : ((n : Int) == 1) = false := by simp; omega
    rw [show fpV n R F i k = .tuple #[.int .i64 (tabU (· + ·) 1000000000 n (setF 1000000000 F i.toNat (fbB k)) 0), .bool true] by simp [fpV, show fpB n R F i k = true by (unfold fpB; rw [e1, hd1]; rfl)]]
    obtain ⟨e2, ⟨i1, i2⟩, k1, k2⟩ := prB_iff e1
    obtain ⟨I, rfl⟩ : ∃ I : Nat, i = I := ⟨i.toNat, by omega⟩
    obtain ⟨K, rfl⟩ : ∃ K : Nat, k = K := ⟨k.toNat, by omega⟩
    rw [show ((I : Int)).toNat = I by omega]
    obtain ⟨⟨n1, n12⟩, hRn, hF⟩ := acB_iff e2
    have hI : I < n := by omega
    have hK : K < n := by omega
    have HLow0 := setF_agree n12 hF (forbid_low n12 (by omega) hI hK hF)
    rw [← HLow0]
    have HCp := Lib.hid (fun W (hW : Below w.heap.size w W) => copyLists_g v n R F W (HI.out.up hW) hn HRR.out)
    have HF := Lib.hid hF
    have HRn := Lib.hid hRn
    obtain ⟨A, c, rfl, _⟩ := h.shape
    clear h hR e1 e2 hF hRn HLow0
    clear hn1
    go_enter Try.func18, Try.ntmps18
    go_wp2_with (go_at_call 45; refine (HA.out).mono ?_; rintro e w1 ⟨rfl, hb1⟩)
    refine (HCp.out _ hb1).mono ?_
    rintro e w2 ⟨v2, rfl, hv2, hb2⟩
    have hw2 := up_trans hb1 hb2
    have hs1 := hb1.size
    have hv3 : OwnRw w.heap.size w2 v2 n (fun _ => n) F := by
      obtain ⟨A', c', V', q1, q2, q3, q4, q5⟩ := hv2.more hs1
      exact ⟨A', c', V', q1, q2, fun h0 => by
        obtain ⟨bq, oq, s1, s2, s3, s4⟩ := q3 h0
        exact ⟨bq, oq, s1, s2, s3, fun i hi h => s4 i hi (by rw [HRn.out i hi]; exact h)⟩, fun i hi => by
        have := q4 i hi
        rw [HRn.out i hi] at this
        exact this, fun i j hi hj hij h1 h2 => q5 i j hi hj hij (by rw [HRn.out i hi]; exact h1) (by rw [HRn.out j hj]; exact h2)⟩
    obtain ⟨b2, o2, c2, B, O, C, rfl, hMo⟩ := matOwn_of hv3 (by omega)
    have HMo := Lib.hid hMo
    have d0 := hMo.mat.row I hI
    have j1 : (I : Int) < (n : Int) := by omega
    have j2 : (K : Int) < (n : Int) := by omega
    clear hv2 hv3 hMo
    have x0 := HMo.out.mat.at hI hK
    have f0 := (HMo.out.rb I hI).2.2.1 (O I + K)
    have hg := grown_set (World.grownBy.refl w2 (some (B I))) (p := ⟨B I, O I + K, none⟩) rfl (.int .i64 1099511627776)
    have HG := Lib.hid hg
    have HR' := Lib.hid ((HMo.out.mat.num I hI).put hK 1099511627776)
    clear hg
    go_upto_region 5 with fail
    generalize hW9 : World.setCell w2 _ _ = wr at *
    clear hW9 x0 f0 d0
    have hM2 := HMo.out.change hI HG.out HR'.out
    have hM3 : MatAt wr b2 o2 n (setF 1099511627776 F I (fbB K)) B O C := ⟨hM2.row, fun i hi => (hM2.num i hi).cong (fun j hj => by
      unfold setF fbB
      by_cases e : i = I
      · subst e
        by_cases e2 : j = K
        · subst e2; simp
        · simp only [if_true, if_neg e2]
          rw [if_neg (by simp; omega)]
      · simp [e])⟩
    have hbg : Below w.heap.size w wr := hw2.trans ((Below.refl _ _).grown HG.out hw2.size (fun k hk => by have := (HMo.out.rb I hI).1; cases hk; omega))
    have hL := leastSums_m b2 o2 c2 n (setF 1099511627776 F I (fbB K)) B O C wr hM3 n1 n12 (setF_rng (by omega) HF.out)
    have HLs := Lib.hid hL
    have hN2 := two_pow_n n1 n12
    obtain ⟨N, hN⟩ : ∃ N, 2 ^ n = N := ⟨_, rfl⟩
    rw [hN] at HLs hN2
    clear hL hM2 hM3 hN
    go_wp2_with fail
    refine (HLs.out).mono ?_
    rintro e w7 ⟨v7, rfl, hv7, hb7⟩
    obtain ⟨A7, c7, rfl, _, hr7⟩ := hv7
    obtain ⟨b7, o7, rfl, _, _, hr7q⟩ := hr7 (by omega)
    have y0 : w7.cell? ⟨b7, o7 + 0, none⟩ = some (.int .i64 (tabU (· + ·) 13194139533312 n (setF 1099511627776 F I (fbB K)) 0)) := hr7q 0 (by omega)
    rw [Nat.add_zero] at y0
    have hj0 : (0 : Int) < (N : Int) := by omega
    clear hr7 hr7q
    go_wp2_with fail
    go_ret2
    exact ⟨rfl, up_trans hbg hb7⟩

set_option maxRecDepth 100000 in
set_option maxHeartbeats 2000000 in
theorem maWith_g (v : Value) (n : Nat) (R : Nat → Nat) (F : Nat → Nat → Int) (I : Nat) (fb : Nat → Bool) (b0 c0 : Nat) (w : World) (h : IRows w v n R F) (e : acB n R F = true) (hu : RowV w b0 0 n (fun j => .bool (fb j))) :
    Calls Try.prog 48 #[v, .int .i64 I, .slice (some ⟨b0, 0, none⟩) n c0] w (AnsRw w n (fun _ => n) (setF 1000000000 F I fb)) := by
  obtain ⟨⟨n1, n12⟩, hR, _⟩ := acB_iff e
  obtain ⟨A, c, V, rfl, hnc, hrow, hf⟩ := h
  have HF := Lib.hid (fun i (hi : i < n) => (show Ints w (V i) n (F i) by have := hf i hi; rwa [hR i hi] at this))
  have HRow := Lib.hid hrow
  have HU := Lib.hid hu
  clear e hu hf hrow hR
  go_enter Try.func48, Try.ntmps48
  go_wp2_with fail
  go_loopw [7, 14] (fun q i wr => ∃ r : Nat, r ≤ n ∧ i = .int .i64 r ∧ OwnB w.heap.size wr q r (fun _ => n) (setF 1000000000 F I fb) ∧ Below w.heap.size w wr) (fun _ i _ => n - (intOf i).toNat)
  case atStart => exact ⟨0, by omega, rfl, OwnB.nil _ _ _ _, Below.refl _ _⟩
  case round =>
    obtain ⟨r, hr, rfl, how, hb⟩ := hrel
    by_cases hlt : r < n
    · obtain ⟨b, o, rfl, hr0⟩ := HRow.out (by omega)
      have c1 := up_keep hb (hr0 r hlt)
      obtain ⟨a1, q1, e1, _⟩ := (HF.out r hlt).shape
      have HC := Lib.hid (l1Own_g (V r) n (F r) wr ((HF.out r hlt).up hb) (by omega))
      rw [e1] at c1 HC
      have hs := hb.size
      have how2 := Lib.hid how
      clear hr0 e1 how
      go_wp2_with fail
      refine (HC.out).mono ?_
      rintro e w2 ⟨v2, rfl, ho, hb2⟩
      obtain ⟨a2, q2, rfl, hq2, hrr⟩ := ho
      obtain ⟨b2, o2, rfl, hbb2, hfr2, hrw2⟩ := hrr (by omega)
      have HRw := Lib.hid hrw2
      have HFr := Lib.hid hfr2
      have hs2 := hb2.size
      clear hrr hrw2 hfr2
      go_wp2_with fail
      obtain ⟨w4, rfl⟩ : ∃ W : World, W = wr := ⟨_, rfl⟩
      go_loopw [23] (fun i wi => ∃ j : Nat, j ≤ n ∧ i = .int .i64 j ∧ Below w4.heap.size w4 wi ∧ Free wi b2 ∧ Row1 wi b2 o2 n (fun t => if t < j ∧ r = I ∧ fb t = true then 1000000000 else F r t)) (fun i _ => n - (intOf i).toNat)
      case atStart => exact ⟨0, by omega, rfl, hb2, HFr.out, HRw.out.cong (fun t _ => by simp)⟩
      case round =>
        obtain ⟨j, hj, rfl, hbj, hfj, hrj⟩ := hrel
        have HFj := Lib.hid hfj
        have HRj := Lib.hid hrj
        clear hfj hrj
        by_cases hlt2 : j < n
        · have j1 : (j : Int) < (n : Int) := by omega
          have x0 := HRj.out j hlt2
          have f0 := HFj.out (o2 + j)
          have d3 : wr.cell? ⟨b0, j, none⟩ = some (.bool (fb j)) := by
            have := up_keep (hb.trans (hbj.mono hs)) (HU.out j hlt2)
            rwa [Nat.zero_add] at this
          have HB2 := Lib.hid hbb2
          by_cases hrI : r = I
          · have hd1 : ((r : Int) == (I : Int)) = true := by simp; omega
            have HrI := Lib.hid hrI
            clear hrI
            cases hfb : fb j with
            | true =>
              rw [hfb] at d3
              have HC2 := Lib.hid (show ∀ t, (if t = j then (1000000000 : Int) else if t < j ∧ r = I ∧ fb t = true then 1000000000 else F r t) = if t < j + 1 ∧ r = I ∧ fb t = true then 1000000000 else F r t from fun t => by
                by_cases e : t = j
                · subst e; simp [hfb, HrI.out]
                · by_cases e2 : t < j
                  · simp [e, e2, show t < j + 1 by omega]
                  · simp [e, e2, show ¬ t < j + 1 by omega])
              clear hfb
              go_wp2_with fail
              go_roundw
              case rel => exact ⟨j + 1, by omega, by go_num, hbj.setCell HB2.out _, HFj.out.set _ _, (HRj.out.put hlt2 1000000000).cong (fun t _ => HC2.out t)⟩
              case measure => simp [intOf]; omega
            | false =>
              rw [hfb] at d3
              have HC2 := Lib.hid (show ∀ t, (if t < j ∧ r = I ∧ fb t = true then (1000000000 : Int) else F r t) = if t < j + 1 ∧ r = I ∧ fb t = true then 1000000000 else F r t from fun t => by
                by_cases e : t = j
                · subst e; simp [hfb]
                · by_cases e2 : t < j
                  · simp [e2, show t < j + 1 by omega]
                  · simp [e2, show ¬ t < j + 1 by omega])
              clear hfb
              go_wp2_with fail
              go_roundw
              case rel => exact ⟨j + 1, by omega, by go_num, hbj, HFj.out, HRj.out.cong (fun t _ => HC2.out t)⟩
              case measure => simp [intOf]; omega
          · have hd1 : ((r : Int) == (I : Int)) = false := by simp; omega
            have HC2 := Lib.hid (show ∀ t, (if t < j ∧ r = I ∧ fb t = true then (1000000000 : Int) else F r t) = if t < j + 1 ∧ r = I ∧ fb t = true then 1000000000 else F r t from fun t => by simp [hrI])
            clear hrI
            go_wp2_with fail
            go_roundw
            case rel => exact ⟨j + 1, by omega, by go_num, hbj, HFj.out, HRj.out.cong (fun t _ => HC2.out t)⟩
            case measure => simp [intOf]; omega
        · have e : j = n := by omega
          subst e
          have hrv : OwnI w4.heap.size wr (.slice (some ⟨b2, o2, none⟩) j q2) j (setF 1000000000 F I fb r) := ⟨_, _, rfl, hq2, fun _ => ⟨_, _, rfl, hbb2, HFj.out, HRj.out.cong (fun t ht => by
            unfold setF
            by_cases e : r = I
            · simp [e, ht]
            · simp [e])⟩⟩
          have HRv := Lib.hid hrv
          clear hrv
          go_wp2_with (at_builtin; refine wpList_app_row (wa := w4) rfl (.tmp 39) (.tmp 41) rfl w.heap.size _ r (fun _ => j) (setF 1000000000 F I fb) rfl rfl (by simp [go_sem]) how2.out hs (hbj.trans ((show Below wr.heap.size wr _ from (by (repeat (first | with_reducible exact Below.refl _ _ | with_reducible assumption | with_reducible refine up_alloc ?_ _ | with_reducible refine up_drew ?_ | with_reducible refine up_drewN ?_ _ | (with_reducible refine up_set ?_ ?hset _; case hset => first | (simp; done) | (simp; omega) | omega) | with_reducible refine up_trans ?_ (by with_reducible assumption))))).mono hbj.size)) (HRv.out.up (show Below wr.heap.size wr _ from (by (repeat (first | with_reducible exact Below.refl _ _ | with_reducible assumption | with_reducible refine up_alloc ?_ _ | with_reducible refine up_drew ?_ | with_reducible refine up_drewN ?_ _ | (with_reducible refine up_set ?_ ?hset _; case hset => first | (simp; done) | (simp; omega) | omega) | with_reducible refine up_trans ?_ (by with_reducible assumption)))))) (by omega) ?_; intro v3 w3 ho3 hb3; replace hb3 := (hb.trans ((hbj.trans ((show Below wr.heap.size wr _ from (by (repeat (first | with_reducible exact Below.refl _ _ | with_reducible assumption | with_reducible refine up_alloc ?_ _ | with_reducible refine up_drew ?_ | with_reducible refine up_drewN ?_ _ | (with_reducible refine up_set ?_ ?hset _; case hset => first | (simp; done) | (simp; omega) | omega) | with_reducible refine up_trans ?_ (by with_reducible assumption))))).mono hbj.size)).mono hs)).trans hb3)
          go_roundw
          case rel => exact ⟨r + 1, by omega, by go_num, ho3, hb3⟩
          case measure => simp [intOf]; omega
    · have e : r = n := by omega
      subst e
      go_wp2_with fail
      go_ret
      exact ⟨_, rfl, how.rw, hb⟩
theorem info_boolN : (Try.prog.info? 4).map (fun i => (i.zero, i.size, i.bytes)) = some (some (.bool false), 1, 1) := by kernel_rfl
theorem rowV_madeB (w : World) (t : TypeId) (n : Nat) : RowV (w.alloc (.cells (madeCells #[.bool false] n) t)) w.heap.size 0 n (fun _ => .bool false) := fun i hi => by
  have : (w.alloc (.cells (madeCells #[.bool false] n) t)).cell? ⟨w.heap.size, 0 + i, none⟩ = (madeCells #[.bool false] n)[0 + i]? := by
    unfold World.cell?; rw [heap_alloc_new]; rfl
  rw [this, madeCells, Array.getElem?_map, Array.getElem?_range, if_pos (by omega)]
  simp [Nat.mod_one]
theorem RowV.cong {w : World} {b o n : Nat} {V V' : Nat → Value} (h : RowV w b o n V) (e : ∀ i, i < n → V i = V' i) : RowV w b o n V' := fun i hi => by rw [← e i hi]; exact h i hi
theorem maLeast_s (v : Value) (n : Nat) (F : Nat → Nat → Int) (w : World) (base : Nat) (h : OwnRw base w v n (fun _ => n) F) (n1 : 1 ≤ n) (n12 : n ≤ 12) (hF : ∀ i k, i < n → k < n → 0 ≤ F i k ∧ F i k ≤ 1000000000) (h0 : tabU (· + ·) 1000000000 n F 0 < 1000000000) :
    ∃ X, Calls Try.prog 36 #[v] w (AnsII w n X (tabU (· + ·) 1000000000 n F 0)) := by
  obtain ⟨b, o, c, B, O, C, rfl, hM⟩ := matOwn_of h n1
  exact ⟨_, maLeast_m b o c n F B O C w hM.mat n1 n12 hF h0⟩
set_option maxRecDepth 100000 in
set_option maxHeartbeats 2000000 in
theorem sForcedPair_g (v : Value) (n : Nat) (R : Nat → Nat) (F : Nat → Nat → Int) (i k : Int) (w : World) (h : IRows w v n R F) (hn : n ≤ 1048576) (hR : ∀ i, i < n → R i ≤ 1048576) :
    Calls Try.prog 16 #[v, .int .i64 i, .int .i64 k] w (Ans w (fdV n R F i k)) := by
  have HI := Lib.hid h
  have HA := Lib.hid (maPair_g v n R F i k w h hn hR)
  cases e1 : prB n R F i k with
  | false =>
    rw [e1] at HA
    rw [show fdV n R F i k = .tuple #[.int .i64 0, .bool false] by simp [fdV, e1]]
    obtain ⟨A, c, rfl, _⟩ := h.shape
    clear h hR e1
    go_enter Try.func16, Try.ntmps16
    go_wp2_with (go_at_call 47; refine (HA.out).mono ?_; rintro e w1 ⟨rfl, hb1⟩)
    go_ret2
    exact ⟨rfl, hb1⟩
  | true =>
    rw [e1] at HA
    rw [show fdV n R F i k = .tuple #[.int .i64 (tabU (· + ·) 1000000000 n (setF 1000000000 F i.toNat (fdB k)) 0), .bool true] by simp [fdV, e1]]
    obtain ⟨e2, ⟨i1, i2⟩, k1, k2⟩ := prB_iff e1
    obtain ⟨I, rfl⟩ : ∃ I : Nat, i = I := ⟨i.toNat, by omega⟩
    obtain ⟨K, rfl⟩ : ∃ K : Nat, k = K := ⟨k.toNat, by omega⟩
    rw [show ((I : Int)).toNat = I by omega]
    obtain ⟨⟨n1, n12⟩, hRn, hF⟩ := acB_iff e2
    have hI : I < n := by omega
    have hK : K < n := by omega
    have HLow := Lib.hid (show tabU (· + ·) 1000000000 n (setF 1000000000 F I (fdB K)) 0 < 1000000000 by
      have a := forced_low n12 hI hK hF
      rw [setF_agree n12 hF a] at a
      omega)
    have HF := Lib.hid hF
    have HV := Lib.hid e2
    obtain ⟨i0, hi0, hz0, hz1, hz2⟩ := info_parts info_boolN
    have hmk : ∀ W : World, (Instr.makeSlice 62 (.int .i64 (n : Int)) (.int .i64 (n : Int))).run Try.prog W = .ok (.slice (some ⟨W.heap.size, 0, none⟩) n n) (W.alloc (.cells (madeCells #[.bool false] n) 4)) := fun W => by
      have := run_make_rowN (P := Try.prog) 62 4 i0 _ Try.underlying62 hi0 hz0 .i64 .i64 n n (Nat.le_refl _) (by rw [hz2]; omega) (by omega) W
      rw [this, hz1, Nat.mul_one]; rfl
    clear hi0 hz0 hz1 hz2 i0
    have j1 : (I : Int) < (n : Int) := by omega
    have j2 : (K : Int) < (n : Int) := by omega
    obtain ⟨A, c, rfl, _⟩ := h.shape
    clear h hR e1 e2 hF hRn
    
    go_enter Try.func16, Try.ntmps16
    go_wp2_with fail
    refine (HA.out).mono ?_
    rintro e w1 ⟨rfl, hb1⟩
    go_wp2_with fail
    go_loopw [22] (fun q wr => ∃ m : Nat, m ≤ n ∧ q = .int .i64 m ∧ Below w1.heap.size w1 wr ∧ w1.heap.size < wr.heap.size ∧ Free wr w1.heap.size ∧ RowV wr w1.heap.size 0 n (fun j => .bool (decide (j < m) && fdB K j))) (fun q _ => n - (intOf q).toNat)
    case atStart => exact ⟨0, by omega, rfl, below_alloc _ _, by simp, free_made _ _ _, (rowV_madeB _ _ _).cong (fun j _ => by simp)⟩
    case round =>
      obtain ⟨m, hm, rfl, hb, hs, hf, hr⟩ := hrel
      have HFr := Lib.hid hf
      have HR' := Lib.hid hr
      clear hf hr
      by_cases hlt : m < n
      · have j4 : (m : Int) < (n : Int) := by omega
        have x0 := HR'.out.at0 hlt
        have f0 := HFr.out m
        have HC := Lib.hid (show ∀ j t, t = fdB K m → (if j = m then Value.bool t else Value.bool (decide (j < m) && fdB K j)) = Value.bool (decide (j < m + 1) && fdB K j) from fun j t ht => by
          by_cases e : j = m
          · subst e; simp [ht]
          · by_cases e2 : j < m
            · simp [e, e2, show j < m + 1 by omega]
            · simp [e, e2, show ¬ j < m + 1 by omega])
        have hfd : fdB K m = ((m : Int) != (K : Int)) := by simp [fdB, bne]
        have HFd := Lib.hid hfd
        clear hfd
        go_wp2_with fail
        go_roundw
        case rel => exact ⟨m + 1, by omega, by go_num, hb.setCell (Nat.le_refl _) _, by rw [size_set]; omega, HFr.out.set _ _, (HR'.out.put0 hlt _).cong (fun j _ => HC.out j _ HFd.out.symm)⟩
        case measure => simp [intOf]; omega
      · have e : m = n := by omega
        subst e
        have hrow : RowV wr w1.heap.size 0 m (fun j => .bool (fdB K j)) := HR'.out.cong (fun j hj => by simp [hj])
        have hwx := up_trans hb1 hb
        have HRow := Lib.hid hrow
        clear hrow
        go_wp2_with fail
        refine (maWith_g _ m R F I (fdB K) w1.heap.size _ _ (HI.out.up hwx) HV.out HRow.out).mono ?_
        rintro e w2 ⟨v2, rfl, hv2, hb2⟩
        have hw2 := up_trans hwx hb2
        obtain ⟨a2, q2, rfl, _⟩ := hv2.rows.shape
        obtain ⟨Xp, hL⟩ := maLeast_s _ m (setF 1000000000 F I (fdB K)) w2 _ hv2 n1 n12 (setF_rng (by omega) HF.out) HLow.out
        have HLs := Lib.hid hL
        clear hL hv2
        go_wp2_with fail
        refine (HLs.out).mono ?_
        rintro e w7 ⟨v7, rfl, hv7, hb7⟩
        go_wp2_with fail
        go_ret2
        exact ⟨rfl, up_trans hw2 hb7⟩

set_option maxRecDepth 100000 in
set_option maxHeartbeats 2000000 in
theorem sForbiddenPair_g (v : Value) (n : Nat) (R : Nat → Nat) (F : Nat → Nat → Int) (i k : Int) (w : World) (h : IRows w v n R F) (hn : n ≤ 1048576) (hR : ∀ i, i < n → R i ≤ 1048576) :
    Calls Try.prog 19 #[v, .int .i64 i, .int .i64 k] w (Ans w (fpV n R F i k)) := by
  have HI := Lib.hid h
  have HA := Lib.hid (maPair_g v n R F i k w h hn hR)
  cases e1 : prB n R F i k with
  | false =>
    rw [e1] at HA
    rw [show fpV n R F i k = .tuple #[.int .i64 0, .bool false] by simp [fpV, fpB, e1]]
    obtain ⟨A, c, rfl, _⟩ := h.shape
    clear h hR e1
    go_enter Try.func19, Try.ntmps19
    go_wp2_with (go_at_call 47; refine (HA.out).mono ?_; rintro e w1 ⟨rfl, hb1⟩)
    go_ret2
    exact ⟨rfl, hb1⟩
  | true =>
    rw [e1] at HA
    by_cases hn1 : n = 1
    · have hd1 : ((n : Int) == 1) = true := by simp; omega
      rw [show fpV n R F i k = .tuple #[.int .i64 0, .bool false] by simp [fpV, fpB, hn1]]
      obtain ⟨A, c, rfl, _⟩ := h.shape
      clear h hR e1 hn1
      go_enter Try.func19, Try.ntmps19
      go_wp2_with (go_at_call 47; refine (HA.out).mono ?_; rintro e w1 ⟨rfl, hb1⟩)
      go_ret2
      exact ⟨rfl, hb1⟩
    have hd1 : ((n : Int) == 1) = false := by simp; omega
    rw [show fpV n R F i k = .tuple #[.int .i64 (tabU (· + ·) 1000000000 n (setF 1000000000 F i.toNat (fbB k)) 0), .bool true] by simp [fpV, show fpB n R F i k = true by (unfold fpB; rw [e1, hd1]; rfl)]]
    obtain ⟨e2, ⟨i1, i2⟩, k1, k2⟩ := prB_iff e1
    obtain ⟨I, rfl⟩ : ∃ I : Nat, i = I := ⟨i.toNat, by omega⟩
    obtain ⟨K, rfl⟩ : ∃ K : Nat, k = K := ⟨k.toNat, by omega⟩
    rw [show ((I : Int)).toNat = I by omega]
    obtain ⟨⟨n1, n12⟩, hRn, hF⟩ := acB_iff e2
    have hI : I < n := by omega
    have hK : K < n := by omega
    have HLow := Lib.hid (show tabU (· + ·) 1000000000 n (setF 1000000000 F I (fbB K)) 0 < 1000000000 by
      have a := forbid_low n12 (by omega) hI hK hF
      rw [setF_agree n12 hF a] at a
      omega)
    have HF := Lib.hid hF
    have HV := Lib.hid e2
    obtain ⟨i0, hi0, hz0, hz1, hz2⟩ := info_parts info_boolN
    have hmk : ∀ W : World, (Instr.makeSlice 62 (.int .i64 (n : Int)) (.int .i64 (n : Int))).run Try.prog W = .ok (.slice (some ⟨W.heap.size, 0, none⟩) n n) (W.alloc (.cells (madeCells #[.bool false] n) 4)) := fun W => by
      have := run_make_rowN (P := Try.prog) 62 4 i0 _ Try.underlying62 hi0 hz0 .i64 .i64 n n (Nat.le_refl _) (by rw [hz2]; omega) (by omega) W
      rw [this, hz1, Nat.mul_one]; rfl
    clear hi0 hz0 hz1 hz2 i0
    have j1 : (I : Int) < (n : Int) := by omega
    have j2 : (K : Int) < (n : Int) := by omega
    obtain ⟨A, c, rfl, _⟩ := h.shape
    clear h hR e1 e2 hF hRn
    clear hn1
    go_enter Try.func19, Try.ntmps19
    go_wp2_with fail
    refine (HA.out).mono ?_
    rintro e w1 ⟨rfl, hb1⟩
    have hx0 := (rowV_madeB w1 4 n).at0 hK
    have hf0 := free_made w1 (madeCells #[.bool false] n) 4 K
    have hj3 : (K : Int) < (n : Int) := by omega
    have HWe := Lib.hid (show (w1.alloc (.cells (madeCells #[.bool false] n) 4)).setCell ⟨w1.heap.size, K, none⟩ (.bool true) = w1.alloc (.cells ((madeCells #[.bool false] n).setIfInBounds K (.bool true)) 4) by simp [go_sem])
    go_upto_region 5 with fail
    rw [← HWe.out]
    generalize hW9 : World.setCell _ _ _ = wr at *
    have hb : Below w1.heap.size w1 wr := by subst hW9; exact (below_alloc _ _).setCell (Nat.le_refl _) _
    have hrow : RowV wr w1.heap.size 0 n (fun j => .bool (fbB K j)) := by
      subst hW9
      exact ((rowV_madeB w1 4 n).put0 hK _).cong (fun j _ => by
        by_cases e : j = K
        · subst e; simp [fbB]
        · simp only [if_neg e]
          rw [show fbB K j = false by simp [fbB]; omega])
    have hwx := up_trans hb1 hb
    clear hW9 hx0 hf0 HWe
    have HRow := Lib.hid hrow
    clear hrow
    go_wp2_with fail
    refine (maWith_g _ n R F I (fbB K) w1.heap.size _ _ (HI.out.up hwx) HV.out HRow.out).mono ?_
    rintro e w2 ⟨v2, rfl, hv2, hb2⟩
    have hw2 := up_trans hwx hb2
    obtain ⟨a2, q2, rfl, _⟩ := hv2.rows.shape
    obtain ⟨Xp, hL⟩ := maLeast_s _ n (setF 1000000000 F I (fbB K)) w2 _ hv2 n1 n12 (setF_rng (by omega) HF.out) HLow.out
    have HLs := Lib.hid hL
    clear hL hv2
    go_wp2_with fail
    refine (HLs.out).mono ?_
    rintro e w7 ⟨v7, rfl, hv7, hb7⟩
    go_wp2_with fail
    go_ret2
    exact ⟨rfl, up_trans hw2 hb7⟩

end Go.Proofs.Ytadlemadnifohaa
