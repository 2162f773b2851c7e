/-
  What FnMatchings asks, gathered.
-/
import Derived.Test.YtadlemadnifohaaRows
import Derived.Test.YtadlemadnifohaaBase
import Derived.Test.YtadlemadnifohaaSpot
import Derived.Test.YtadlemadnifohaaSlice
import Derived.Test.YtadlemadnifohaaLawS
import Derived.Test.YtadlemadnifohaaMark
import Derived.Test.YtadlemadnifohaaOpen
import Derived.Test.YtadlemadnifohaaTrod
import Derived.Test.YtadlemadnifohaaInts
import Derived.Test.YtadlemadnifohaaIntsL
import Derived.Test.YtadlemadnifohaaTurned
import Derived.Test.YtadlemadnifohaaTrans
import Derived.Test.YtadlemadnifohaaOpenT
import Derived.Test.YtadlemadnifohaaRowsI
import Derived.Test.YtadlemadnifohaaCosts
import Derived.Test.YtadlemadnifohaaAppend
import Derived.Test.YtadlemadnifohaaAppendE
import Derived.Test.YtadlemadnifohaaForm
import Derived.Test.YtadlemadnifohaaCopyI
import Derived.Test.YtadlemadnifohaaMatch
import Derived.Test.YtadlemadnifohaaMatS
import Derived.Test.YtadlemadnifohaaMatchP
import Derived.Test.YtadlemadnifohaaMatchQ
import Derived.Test.YtadlemadnifohaaOnes
import Derived.Test.YtadlemadnifohaaTable
import Derived.Test.YtadlemadnifohaaLeast
import Derived.Test.YtadlemadnifohaaLeastM
import Derived.Test.YtadlemadnifohaaRowB
import Derived.Deep.CutRange
import Derived.Deep.DeepCutAuto
import Derived.Test.YtadlemadnifohaaPair
import Derived.Test.YtadlemadnifohaaGreedy
import Derived.Test.YtadlemadnifohaaCount
import Derived.Test.YtadlemadnifohaaCertP
import Derived.Test.YtadlemadnifohaaFmP
import Derived.Test.YtadlemadnifohaaQ
import Derived.Test.YtadlemadnifohaaQS
import Derived.Test.YtadlemadnifohaaDrawC
import Derived.Test.YtadlemadnifohaaDrawM
import Derived.Test.YtadlemadnifohaaDrawT
import Derived.Test.YtadlemadnifohaaDrawS
import Derived.Test.YtadlemadnifohaaCert
import Derived.Deep.CutRange
import Derived.Deep.DeepCutAuto
namespace Go.Proofs.Ytadlemadnifohaa
open Go.RowKit

/-- What the law asks of valid costs. -/
structure CostsF (n : Nat) (R : Nat → Nat) (F : Nat → Nat → Int) : Prop where
  n1 : 1 ≤ n
  n12 : n ≤ 12
  rng : ∀ i k, i < n → k < n → 0 ≤ F i k ∧ F i k ≤ 2100000
  ml : msOk n R F n (lmP n F) = true
  sl : sumP F (lmP n F) n = lmS n F
  mg : msOk n R F n (gmP n F) = true
  le : lmS n F ≤ sumP F (gmP n F) n
  ct : ctOk n R F n (lcR n F) n (lcC n F) = true
  cb : ctB n F (lcR n F) (lcC n F) = true
  ss : sumN (lcR n F) n + sumN (lcC n F) n = lmS n F
  lsr : 0 ≤ lmS n F ∧ lmS n F ≤ 25200000
  way : 1 ≤ wayU n F (tabU (· + ·) 1000000000 n F) 0
  col : ∀ k, k < n → -2100000 ≤ lcC n F k ∧ lcC n F k ≤ 0
  row : ∀ k, k < n → 0 ≤ lcR n F k ∧ lcR n F k ≤ 2100000
  at_ : ∀ i, i < n → ∃ k : Nat, k < n ∧ lmP n F i = k ∧ lcR n F i + lcC n F k = F i k
theorem costs_facts {n : Nat} {R : Nat → Nat} {F : Nat → Nat → Int} (h : acB n R F = true) : CostsF n R F := by
  obtain ⟨⟨h1, h2⟩, _, hF⟩ := acB_iff h
  have hP := lcP_perm h2 hF
  obtain ⟨c1, c2, c3⟩ := lc_ct h1 h2 hF
  refine ⟨h1, h2, hF, ?_, lmS_sum h2 hF, ?_, greedy_ge, ?_, c3, lc_sum h2 hF, by have := tabU_rng (T := 1000000000) (M := 2100000) (by omega) (by omega) h2 hF 0; unfold lmS; omega, way_one h2 hF, lcC_rng h1 h2 hF, lcR_rng h1 h2 hF, fun i hi => ⟨lcP n F i, hP.1 i hi, rfl, ?_⟩⟩
  · unfold msOk
    rw [h, Bool.true_and]
    exact perm_mt hP
  · unfold msOk
    rw [h, Bool.true_and]
    exact perm_mt (gbP_perm F n)
  · unfold ctOk
    rw [h, c1, c2]; rfl
  · unfold lcR
    omega
theorem ms_facts {n : Nat} {R : Nat → Nat} {F : Nat → Nat → Int} {l : Nat} {P : Nat → Int} (h : msOk n R F l P = true) : acB n R F = true ∧ lmS n F ≤ sumP F P n := by
  unfold msOk at h
  simp only [Bool.and_eq_true] at h
  exact ⟨h.1, own_ge h.2⟩
end Go.Proofs.Ytadlemadnifohaa
