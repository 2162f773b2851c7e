/-
  Plain laws on matchings: certificates, forced and forbidden pairs, sums.
-/
import Derived.Test.YtadlemadnifohaaRows
import Derived.Test.YtadlemadnifohaaBase
import Derived.Test.YtadlemadnifohaaSpot
import Derived.Test.YtadlemadnifohaaSlice
import Derived.Test.YtadlemadnifohaaLawS
import Derived.Test.YtadlemadnifohaaMark
import Derived.Test.YtadlemadnifohaaOpen
import Derived.Test.YtadlemadnifohaaTrod
import Derived.Test.YtadlemadnifohaaInts
import Derived.Test.YtadlemadnifohaaIntsL
import Derived.Test.YtadlemadnifohaaTurned
import Derived.Test.YtadlemadnifohaaTrans
import Derived.Test.YtadlemadnifohaaOpenT
import Derived.Test.YtadlemadnifohaaRowsI
import Derived.Test.YtadlemadnifohaaCosts
import Derived.Test.YtadlemadnifohaaAppend
import Derived.Test.YtadlemadnifohaaAppendE
import Derived.Test.YtadlemadnifohaaForm
import Derived.Test.YtadlemadnifohaaCopyI
import Derived.Test.YtadlemadnifohaaMatch
import Derived.Test.YtadlemadnifohaaMatS
import Derived.Test.YtadlemadnifohaaMatchP
import Derived.Test.YtadlemadnifohaaMatchQ
import Derived.Test.YtadlemadnifohaaOnes
import Derived.Test.YtadlemadnifohaaTable
import Derived.Test.YtadlemadnifohaaLeast
import Derived.Test.YtadlemadnifohaaLeastM
import Derived.Test.YtadlemadnifohaaRowB
import Derived.Deep.CutRange
import Derived.Deep.DeepCutAuto
import Derived.Test.YtadlemadnifohaaPair
import Derived.Test.YtadlemadnifohaaGreedy
import Derived.Test.YtadlemadnifohaaCount
import Derived.Test.YtadlemadnifohaaCertP
namespace Go.Proofs.Ytadlemadnifohaa
open Go.RowKit

theorem sumN_one {h g : Nat → Int} {a : Nat} (hg : ∀ j, j ≠ a → g j = h j) : ∀ n, sumN g n = sumN h n + (if a < n then g a - h a else 0)
  | 0 => by simp [sumN]
  | n + 1 => by
    simp only [sumN]
    rw [sumN_one hg n]
    by_cases e : n = a
    · subst e
      rw [if_neg (by omega), if_pos (by omega)]; omega
    · rw [hg n e]
      by_cases h1 : a < n
      · rw [if_pos h1, if_pos (by omega)]; omega
      · rw [if_neg h1, if_neg (by omega)]; omega
theorem sumN_perm (h : Nat → Int) : ∀ (n : Nat) (σ : Nat → Nat), Perm n σ → sumN (fun j => h (σ j)) n = sumN h n
  | 0, _, _ => rfl
  | n + 1, σ, hp => by
    by_cases hm : σ n = n
    · have hp' : Perm n σ := ⟨fun j hj => by
        have := hp.1 j (by omega)
        have : σ j ≠ n := fun e => by have := hp.2 j n (by omega) (by omega) (by omega); omega
        omega, fun i j hi hj e => hp.2 i j (by omega) (by omega) e⟩
      simp only [sumN]
      rw [sumN_perm h n σ hp', hm]
    · obtain ⟨a, ha, hσ⟩ := hp.onto (show n < n + 1 by omega)
      have han : a < n := by
        rcases Nat.lt_or_ge a n with h | h
        · exact h
        · exact absurd (show σ n = n by rw [show n = a by omega, hσ]; omega) hm
      have hmn : σ n < n := by have := hp.1 n (by omega); omega
      have hp' : Perm n (fun j => if j = a then σ n else σ j) := ⟨fun j hj => by
        dsimp only
        by_cases e : j = a
        · rw [if_pos e]; exact hmn
        · rw [if_neg e]
          have := hp.1 j (by omega)
          have : σ j ≠ n := fun e' => e (hp.2 j a (by omega) (by omega) (by omega))
          omega, fun i j hi hj e => by
        dsimp only at e
        by_cases e1 : i = a
        · by_cases e2 : j = a
          · omega
          · rw [if_pos e1, if_neg e2] at e
            have := hp.2 n j (by omega) (by omega) e
            omega
        · by_cases e2 : j = a
          · rw [if_neg e1, if_pos e2] at e
            have := hp.2 i n (by omega) (by omega) e
            omega
          · rw [if_neg e1, if_neg e2] at e
            exact hp.2 i j (by omega) (by omega) e⟩
      have ih := sumN_perm h n _ hp'
      have ho := sumN_one (h := fun j => h (σ j)) (g := fun j => h (if j = a then σ n else σ j)) (a := a) (fun j hj => by simp [hj]) n
      rw [if_pos han] at ho
      simp only [if_true] at ho
      simp only [sumN]
      rw [hσ] at ho
      omega
theorem mt_perm {n l : Nat} {P : Nat → Int} (h : mtB n l P = true) : l = n ∧ Perm n (fun i => (P i).toNat) ∧ (∀ i, i < n → 0 ≤ P i ∧ P i < n) := by
  obtain ⟨rfl, hr⟩ := mt_places h
  simp only [mtB, Bool.and_eq_true, beq_iff_eq] at h
  have hh := allB_iff.1 h.1
  have nob : ∀ i j, i < j → j < l → P i = P j → False := fun i j hij hj e => by
    have := hh j hj
    simp only [Bool.and_eq_true, Bool.not_eq_true'] at this
    have h2 := this.2
    have h3 : hasB (fun q => P q == P j) j = true := by
      unfold hasB
      rw [Bool.not_eq_true', Bool.eq_false_iff]
      intro ha
      have := allB_iff.1 ha i hij
      simp [e] at this
    rw [h3] at h2
    cases h2
  refine ⟨rfl, ⟨fun j hj => ?_, fun i j hi hj e => ?_⟩, hr⟩
  · have := hr j hj; dsimp only; omega
  · have a := hr i hi
    have b := hr j hj
    dsimp only at e
    have e2 : P i = P j := by omega
    rcases Nat.lt_trichotomy i j with h | h | h
    · exact (nob i j h hj e2).elim
    · exact h
    · exact (nob j i h hi e2.symm).elim
theorem perm_mt {n : Nat} {σ : Nat → Nat} (h : Perm n σ) : mtB n n (fun i => (σ i : Nat)) = true := by
  simp only [mtB, Bool.and_eq_true, beq_self_eq_true, and_true]
  refine allB_iff.2 fun i hi => ?_
  simp only [Bool.and_eq_true, Bool.not_eq_true']
  refine ⟨inB_iff.2 ⟨by omega, by have := h.1 i hi; omega⟩, ?_⟩
  unfold hasB
  rw [Bool.not_eq_false']
  refine allB_iff.2 fun j hj => ?_
  simp only [Bool.not_eq_true', beq_eq_false_iff_ne, ne_eq]
  intro e
  have := h.2 j i (by omega) hi (by omega)
  omega
theorem sumP_cong {F : Nat → Nat → Int} {P P' : Nat → Int} : ∀ n, (∀ i, i < n → P i = P' i) → sumP F P n = sumP F P' n
  | 0, _ => rfl
  | n + 1, h => by simp only [sumP]; rw [sumP_cong n (fun i hi => h i (by omega)), h n (by omega)]
theorem gbP_perm (F : Nat → Nat → Int) (n : Nat) : Perm n (gbP F n) := by
  have nob : ∀ i j, i < j → j < n → gbP F n i = gbP F n j → False := fun i j hij hj e => by
    obtain ⟨_, _, h3, h4⟩ := gbU_ok F n j (by omega)
    obtain ⟨h5, h6⟩ := h4 hj
    have hb := (gbK_rng F (gbU F n j) j n).2.2.1 (by omega)
    rw [h6, Int.toNat_natCast, h3] at hb
    rw [(usedS_bit _ _ _).2 ⟨i, hij, e⟩] at hb
    cases hb
  refine ⟨fun j hj => ((gbU_ok F n j (by omega)).2.2.2 hj).1, fun i j hi hj e => ?_⟩
  rcases Nat.lt_trichotomy i j with h | h | h
  · exact (nob i j h hj e).elim
  · exact h
  · exact (nob j i h hi e.symm).elim
section
variable {n : Nat} {F : Nat → Nat → Int}
theorem greedy_ge : lmS n F ≤ sumP F (gmP n F) n := by
  have := tabU_least (T := 1000000000) (C := F) (gbP_perm F n)
  have e : sumP F (gmP n F) n = sumC F (gbP F n) n := sumP_sumC F _ n
  rw [e]; exact this
theorem own_ge {l : Nat} {P : Nat → Int} (h : mtB n l P = true) : lmS n F ≤ sumP F P n := by
  obtain ⟨_, hp, hr⟩ := mt_perm h
  have := tabU_least (T := 1000000000) (C := F) hp
  have e : sumP F P n = sumC F (fun i => (P i).toNat) n := by
    rw [← sumP_sumC]
    exact sumP_cong n (fun i hi => by have := hr i hi; omega)
  rw [e]; exact this
/-- The columns' numbers are feasible: the rounds have come to their end. -/
theorem lcC_feas (h1 : 1 ≤ n) (h2 : n ≤ 12) (hF : ∀ i k, i < n → k < n → 0 ≤ F i k ∧ F i k ≤ 2100000) : Feas n F (lcP n F) (lcC n F) := by
  have hP := lcP_perm h2 hF
  have key : ∀ m t, colsN n (stg n F t 0 0) ≤ m → ∃ t, ∀ j, j < n → stg n F t n 0 j = stg n F t 0 0 j := by
    intro m
    induction m with
    | zero =>
      intro t ht
      refine ⟨t, fun j hj => ?_⟩
      have a := fun q hq => stg_rng (n := n) (F := F) h1 h2 hF (t + 1) 0 0 (by omega) (by omega) q hq
      by_cases e : stg n F t n 0 j = stg n F t 0 0 j
      · exact e
      · have hle : ∀ q, stg n F (t + 1) 0 0 q ≤ stg n F t 0 0 q := fun q => roundR_le n q
        have := colsN_lt (n := n) (X := stg n F (t + 1) 0 0) (Y := stg n F t 0 0) (fun q hq => ⟨(a q hq).1, hle q⟩) ⟨j, hj, by
          have := hle j
          rw [stg_round] at e
          omega⟩
        omega
    | succ m ih =>
      intro t ht
      by_cases he : ∀ j, j < n → stg n F t n 0 j = stg n F t 0 0 j
      · exact ⟨t, he⟩
      · obtain ⟨j, hj⟩ := Classical.not_forall.1 he
        obtain ⟨hj, e⟩ := Classical.not_imp.1 hj
        have a := fun q hq => stg_rng (n := n) (F := F) h1 h2 hF (t + 1) 0 0 (by omega) (by omega) q hq
        have hle : ∀ q, stg n F (t + 1) 0 0 q ≤ stg n F t 0 0 q := fun q => roundR_le n q
        have := colsN_lt (n := n) (X := stg n F (t + 1) 0 0) (Y := stg n F t 0 0) (fun q hq => ⟨(a q hq).1, hle q⟩) ⟨j, hj, by
          have := hle j
          rw [stg_round] at e
          omega⟩
        exact ih (t + 1) (by omega)
  obtain ⟨t, ht⟩ := key _ 0 (Nat.le_refl _)
  have hx := stg_fix h2 hF t ht
  intro i k hi hk
  have hpi := hP.1 i hi
  have a := roundR_bound (C := F) (P := lcP n F) (n := n) (x := stg n F t 0 0) (i := i) hk n hi
  have b := ht k hk
  have c : stg n F t n 0 k = roundR F (lcP n F) n (stg n F t 0 0) n k := rfl
  have d1 := hx k hk
  have d2 := hx _ hpi
  have d3 := ht _ hpi
  omega
theorem lcC_zero (h1 : 1 ≤ n) (h2 : n ≤ 12) (hF : ∀ i k, i < n → k < n → 0 ≤ F i k ∧ F i k ≤ 2100000) : ∃ k, k < n ∧ lcC n F k = 0 := by
  have hP := lcP_perm h2 hF
  obtain ⟨z, hz, hz0, k, hk, hzk⟩ := feas_ex hP h1 (fun σ hσ => by rw [lcP_sum h2 hF]; exact tabU_least hσ)
  have a : z k ≤ lcC n F k := roundsR_ge (x := fun _ => 0) hz hP hz0 n k hk
  have b := (stg_rng (n := n) (F := F) h1 h2 hF n 0 0 (by omega) (by omega) k hk).2
  have c : lcC n F k = stg n F n 0 0 k := rfl
  exact ⟨k, hk, by omega⟩
theorem lcC_rng (h1 : 1 ≤ n) (h2 : n ≤ 12) (hF : ∀ i k, i < n → k < n → 0 ≤ F i k ∧ F i k ≤ 2100000) : ∀ k, k < n → -2100000 ≤ lcC n F k ∧ lcC n F k ≤ 0 := fun k hk => stg_rng h1 h2 hF n 0 0 (by omega) (by omega) k hk
theorem lc_le (h1 : 1 ≤ n) (h2 : n ≤ 12) (hF : ∀ i k, i < n → k < n → 0 ≤ F i k ∧ F i k ≤ 2100000) : ∀ i k, i < n → k < n → lcR n F i + lcC n F k ≤ F i k := fun i k hi hk => by
  have := lcC_feas h1 h2 hF i k hi hk
  unfold lcR
  omega
theorem lcR_rng (h1 : 1 ≤ n) (h2 : n ≤ 12) (hF : ∀ i k, i < n → k < n → 0 ≤ F i k ∧ F i k ≤ 2100000) : ∀ i, i < n → 0 ≤ lcR n F i ∧ lcR n F i ≤ 2100000 := fun i hi => by
  obtain ⟨k, hk, hz⟩ := lcC_zero h1 h2 hF
  have a := lc_le h1 h2 hF i k hi hk
  have b := hF i k hi hk
  have hp := (lcP_perm h2 hF).1 i hi
  have c := lcC_rng h1 h2 hF _ hp
  have d := hF i _ hi hp
  unfold lcR at *
  omega
theorem lc_sum (h2 : n ≤ 12) (hF : ∀ i k, i < n → k < n → 0 ≤ F i k ∧ F i k ≤ 2100000) : sumN (lcR n F) n + sumN (lcC n F) n = lmS n F := by
  have hP := lcP_perm h2 hF
  have a := lcP_sum h2 hF
  rw [sumC_eq] at a
  have b := sumN_sub (fun i => F i (lcP n F i)) (fun i => lcC n F (lcP n F i)) n
  have c := sumN_perm (lcC n F) n _ hP
  have d : sumN (lcR n F) n = sumN (fun j => F j (lcP n F j) - lcC n F (lcP n F j)) n := rfl
  omega
theorem lc_ct (h1 : 1 ≤ n) (h2 : n ≤ 12) (hF : ∀ i k, i < n → k < n → 0 ≤ F i k ∧ F i k ≤ 2100000) : nuB n (lcR n F) n = true ∧ nuB n (lcC n F) n = true ∧ ctB n F (lcR n F) (lcC n F) = true := by
  refine ⟨?_, ?_, ?_⟩
  · simp only [nuB, beq_self_eq_true, Bool.true_and]
    exact allB_iff.2 fun j hj => inB_iff.2 (by have := lcR_rng h1 h2 hF j hj; omega)
  · simp only [nuB, beq_self_eq_true, Bool.true_and]
    exact allB_iff.2 fun j hj => inB_iff.2 (by have := lcC_rng h1 h2 hF j hj; omega)
  · exact allB_iff.2 fun i hi => allB_iff.2 fun k hk => decide_eq_true (lc_le h1 h2 hF i k hi hk)
theorem sumW_ge {p : Nat → Bool} {g : Nat → Int} {k : Nat} (hp : p k = true) (hg : ∀ j, 0 ≤ g j) : ∀ m, k < m → g k ≤ sumW p g m
  | 0, h => absurd h (by omega)
  | m + 1, h => by
    have nn : ∀ m, 0 ≤ sumW p g m := fun m => by
      induction m with
      | zero => simp [sumW]
      | succ m ih => simp only [sumW]; have := hg m; split <;> omega
    simp only [sumW]
    by_cases e : k = m
    · subst e
      rw [if_pos hp]
      have := nn k
      omega
    · have := sumW_ge hp hg m (by omega)
      have := hg m
      split <;> omega
theorem way_one (h2 : n ≤ 12) (hF : ∀ i k, i < n → k < n → 0 ≤ F i k ∧ F i k ≤ 2100000) : 1 ≤ wayU n F (tabU (· + ·) 1000000000 n F) 0 := by
  have hok := placeM_ok (T := 1000000000) (n := n) (C := F) (by omega) (fun i k hi hk => (hF i k hi hk).1) (tab_low (by omega) h2 hF 0)
  have key : ∀ d, d ≤ n → 1 ≤ wayU n F (tabU (· + ·) 1000000000 n F) (usedM n F (tabU (· + ·) 1000000000 n F) (n - d)) := by
    intro d
    induction d with
    | zero =>
      intro _
      rw [wayU_full (by rw [(hok (n - 0) (by omega)).2.1]; omega)]
      omega
    | succ d ih =>
      intro hd
      have hr := hok (n - (d + 1)) (by omega)
      have hf := hr.2.1
      obtain ⟨hlt, hk, _⟩ := hr.2.2.2.2 (by omega)
      rw [wayU_step (by rw [hf]; omega), hf, show n - (n - (n - (d + 1))) = n - (d + 1) by omega]
      have h4 := ih (by omega)
      have h5 : usedM n F (tabU (· + ·) 1000000000 n F) (n - d) = usedM n F (tabU (· + ·) 1000000000 n F) (n - (d + 1)) ||| 2 ^ placeM n F (tabU (· + ·) 1000000000 n F) (n - (d + 1)) := by
        rw [show n - d = (n - (d + 1)) + 1 by omega]; rfl
      rw [h5] at h4
      exact Int.le_trans h4 (sumW_ge hk (fun j => (wayU_bd h2 _).1) n hlt)
  have := key n (Nat.le_refl _)
  rw [show n - n = 0 by omega] at this
  exact this
end
theorem sumC_mono {C C' : Nat → Nat → Int} {P : Nat → Nat} : ∀ n, (∀ i, i < n → C i (P i) ≤ C' i (P i)) → sumC C P n ≤ sumC C' P n
  | 0, _ => Int.le_refl _
  | n + 1, h => by have := sumC_mono n (fun i hi => h i (by omega)); have := h n (by omega); simp only [sumC]; omega
section
variable {n : Nat} {F : Nat → Nat → Int}
theorem setF_ge {B : Int} {I : Nat} {fb : Nat → Bool} {r j : Nat} (h : F r j ≤ B) : F r j ≤ setF B F I fb r j := by
  unfold setF
  split
  · split <;> omega
  · omega
/-- The least sum where some costs of a row are set to a great one. -/
theorem set_ge {I : Nat} {fb : Nat → Bool} (h2 : n ≤ 12) (hF : ∀ i k, i < n → k < n → 0 ≤ F i k ∧ F i k ≤ 2100000) (hlow : tabU (· + ·) 13194139533312 n (setF 1099511627776 F I fb) 0 ≤ 25200000) :
    lmS n F ≤ tabU (· + ·) 1000000000 n (setF 1000000000 F I fb) 0 := by
  have hs := setF_agree h2 hF hlow
  have hn0 : ∀ i k, i < n → k < n → 0 ≤ setF 1000000000 F I fb i k := fun i k hi hk => (setF_rng (I := I) (fb := fb) (B := 1000000000) (by omega) hF i k hi hk).1
  have hlt : tabU (· + ·) 1000000000 n (setF 1000000000 F I fb) 0 < 1000000000 := by omega
  have hp := placeM_perm (T := 1000000000) (by omega) hn0 hlt
  have hk := placeM_ok (T := 1000000000) (by omega) hn0 hlt n (Nat.le_refl _)
  have hz := tabU_full (· + ·) 1000000000 n (setF 1000000000 F I fb) _ (show freeN (usedM n (setF 1000000000 F I fb) (tabU (· + ·) 1000000000 n (setF 1000000000 F I fb)) n) n = 0 by rw [hk.2.1]; omega)
  have he := hk.2.2.2.1
  rw [hz] at he
  have a := tabU_least (T := 1000000000) (C := F) hp
  have b := sumC_mono (C := F) (C' := setF 1000000000 F I fb) (P := placeM n (setF 1000000000 F I fb) (tabU (· + ·) 1000000000 n (setF 1000000000 F I fb))) n (fun i hi => by
    have := hF i _ hi (hp.1 i hi)
    exact setF_ge (by omega))
  unfold lmS
  omega
theorem set_le {I : Nat} {fb : Nat → Bool} (h2 : n ≤ 12) (hF : ∀ i k, i < n → k < n → 0 ≤ F i k ∧ F i k ≤ 2100000) (hb : fb (lcP n F I) = false) :
    tabU (· + ·) 1000000000 n (setF 1000000000 F I fb) 0 ≤ lmS n F := by
  have a := tabU_least (T := 1000000000) (C := setF 1000000000 F I fb) (lcP_perm h2 hF)
  have b := lcP_sum h2 hF
  have c := sumC_mono (C := setF 1000000000 F I fb) (C' := F) (P := lcP n F) n (fun i hi => by
    unfold setF
    by_cases e : i = I
    · subst e
      rw [if_pos rfl, hb]; simp
    · rw [if_neg e]; omega)
  omega
/-- What the law asks of a forced and a forbidden pair. -/
theorem pair_facts {R : Nat → Nat} {i k : Int} (h : prB n R F i k = true) :
    lmS n F ≤ tabU (· + ·) 1000000000 n (setF 1000000000 F i.toNat (fdB k)) 0 ∧
    (lmP n F i.toNat = k → tabU (· + ·) 1000000000 n (setF 1000000000 F i.toNat (fdB k)) 0 = lmS n F) ∧
    (¬ lmP n F i.toNat = k → fpB n R F i k = true ∧ tabU (· + ·) 1000000000 n (setF 1000000000 F i.toNat (fbB k)) 0 = lmS n F) ∧
    (fpB n R F i k = true → lmS n F ≤ tabU (· + ·) 1000000000 n (setF 1000000000 F i.toNat (fbB k)) 0) := by
  obtain ⟨e, hi, hk⟩ := prB_iff h
  obtain ⟨⟨h1, h2⟩, _, hF⟩ := acB_iff e
  obtain ⟨I, rfl⟩ : ∃ I : Nat, i = I := ⟨i.toNat, by omega⟩
  obtain ⟨K, rfl⟩ : ∃ K : Nat, k = K := ⟨k.toNat, by omega⟩
  rw [show ((I : Int)).toNat = I by omega]
  have hI : I < n := by omega
  have hK : K < n := by omega
  have a := set_ge h2 hF (forced_low h2 hI hK hF)
  have hb : ∀ _ : 2 ≤ n, lmS n F ≤ tabU (· + ·) 1000000000 n (setF 1000000000 F I (fbB K)) 0 := fun hn => set_ge h2 hF (forbid_low h2 hn hI hK hF)
  have hpn := (lcP_perm h2 hF).1 I hI
  have hl := lmP_lcP n F I
  refine ⟨a, fun e1 => ?_, fun e1 => ?_, fun e1 => ?_⟩
  · have := set_le (I := I) (fb := fdB K) h2 hF (by unfold fdB; simp; omega)
    omega
  · have hn2 : 2 ≤ n := by omega
    have := set_le (I := I) (fb := fbB K) h2 hF (by unfold fbB; simp; omega)
    refine ⟨?_, by have := hb hn2; omega⟩
    unfold fpB
    rw [h]
    simp
    omega
  · unfold fpB at e1
    simp only [Bool.and_eq_true, Bool.not_eq_true', beq_eq_false_iff_ne, ne_eq] at e1
    exact hb (by omega)
end
end Go.Proofs.Ytadlemadnifohaa
