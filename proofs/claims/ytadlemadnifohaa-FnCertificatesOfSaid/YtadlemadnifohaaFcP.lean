/-
  What FnCertificatesOf asks, in plain numbers.
-/
import Derived.Test.YtadlemadnifohaaRows
import Derived.Test.YtadlemadnifohaaBase
import Derived.Test.YtadlemadnifohaaSpot
import Derived.Test.YtadlemadnifohaaSlice
import Derived.Test.YtadlemadnifohaaLawS
import Derived.Test.YtadlemadnifohaaMark
import Derived.Test.YtadlemadnifohaaOpen
import Derived.Test.YtadlemadnifohaaTrod
import Derived.Test.YtadlemadnifohaaInts
import Derived.Test.YtadlemadnifohaaIntsL
import Derived.Test.YtadlemadnifohaaTurned
import Derived.Test.YtadlemadnifohaaTrans
import Derived.Test.YtadlemadnifohaaOpenT
import Derived.Test.YtadlemadnifohaaRowsI
import Derived.Test.YtadlemadnifohaaCosts
import Derived.Test.YtadlemadnifohaaAppend
import Derived.Test.YtadlemadnifohaaAppendE
import Derived.Test.YtadlemadnifohaaForm
import Derived.Test.YtadlemadnifohaaCopyI
import Derived.Test.YtadlemadnifohaaMatch
import Derived.Test.YtadlemadnifohaaMatS
import Derived.Test.YtadlemadnifohaaMatchP
import Derived.Test.YtadlemadnifohaaMatchQ
import Derived.Test.YtadlemadnifohaaOnes
import Derived.Test.YtadlemadnifohaaTable
import Derived.Test.YtadlemadnifohaaLeast
import Derived.Test.YtadlemadnifohaaLeastM
import Derived.Test.YtadlemadnifohaaRowB
import Derived.Deep.CutRange
import Derived.Deep.DeepCutAuto
import Derived.Test.YtadlemadnifohaaPair
import Derived.Test.YtadlemadnifohaaGreedy
import Derived.Test.YtadlemadnifohaaCount
import Derived.Test.YtadlemadnifohaaCertP
import Derived.Test.YtadlemadnifohaaFmP
import Derived.Test.YtadlemadnifohaaQ
import Derived.Test.YtadlemadnifohaaDrawC
import Derived.Test.YtadlemadnifohaaDrawM
import Derived.Test.YtadlemadnifohaaDrawU
import Derived.Test.YtadlemadnifohaaCert
import Derived.Test.YtadlemadnifohaaGreatP
import Derived.Test.YtadlemadnifohaaGreat
import Derived.Test.YtadlemadnifohaaWithin
import Derived.Test.YtadlemadnifohaaPut
import Derived.Test.YtadlemadnifohaaPutW
import Derived.Test.YtadlemadnifohaaGreatS
import Derived.Deep.CutRange
import Derived.Deep.DeepCutAuto
namespace Go.Proofs.Ytadlemadnifohaa
open Go.RowKit

/-- A certificate is below the least sum. -/
theorem ct_weak {n : Nat} {R : Nat → Nat} {F : Nat → Nat → Int} {l m : Nat} {X Y : Nat → Int} (h : ctOk n R F l X m Y = true) (hb : ctB n F X Y = true) :
    acB n R F = true ∧ l = n ∧ m = n ∧ n ≤ 12 ∧ (∀ i, i < n → -2100000 ≤ X i ∧ X i ≤ 2100000) ∧ (∀ i, i < n → -2100000 ≤ Y i ∧ Y i ≤ 2100000) ∧ sumN X n + sumN Y n ≤ lmS n F := by
  unfold ctOk at h
  simp only [Bool.and_eq_true] at h
  obtain ⟨⟨ha, hx⟩, hy⟩ := h
  obtain ⟨rfl, hX⟩ := nuB_iff hx
  obtain ⟨rfl, hY⟩ := nuB_iff hy
  obtain ⟨⟨h1, h2⟩, _, hF⟩ := acB_iff ha
  refine ⟨ha, rfl, rfl, h2, hX, hY, ?_⟩
  have hP := lcP_perm h2 hF
  have a := lcP_sum h2 hF
  rw [sumC_eq] at a
  have b := sumN_perm Y m _ hP
  have c := sumN_le (h := fun j => X j + Y (lcP m F j)) (h' := fun j => F j (lcP m F j)) m (fun k hk => of_decide_eq_true (allB_iff.1 (allB_iff.1 hb k hk) (lcP m F k) (hP.1 k hk)))
  have d : ∀ q, sumN (fun j => X j + Y (lcP m F j)) q = sumN X q + sumN (fun j => Y (lcP m F j)) q := fun q => by
    induction q with
    | zero => rfl
    | succ q ih => simp only [sumN]; omega
  have e := d m
  omega
/-- The greatest of the first k rows' costs at the places P, above 0. -/
def mxF (F : Nat → Nat → Int) (P : Nat → Nat) : Nat → Int
  | 0 => 0
  | k + 1 => if F k (P k) > mxF F P k then F k (P k) else mxF F P k
theorem mxF_ge (F : Nat → Nat → Int) (P : Nat → Nat) : ∀ n i, i < n → F i (P i) ≤ mxF F P n
  | 0, _, h => absurd h (by omega)
  | n + 1, i, h => by
    simp only [mxF]
    by_cases e : i = n
    · subst e; split <;> omega
    · have := mxF_ge F P n i (by omega)
      split <;> omega
theorem mxF_le {F : Nat → Nat → Int} {P : Nat → Nat} {M : Int} (hM : 0 ≤ M) : ∀ n, (∀ i, i < n → F i (P i) ≤ M) → 0 ≤ mxF F P n ∧ mxF F P n ≤ M
  | 0, _ => ⟨Int.le_refl _, hM⟩
  | n + 1, h => by
    have a := mxF_le hM n (fun i hi => h i (by omega))
    have b := h n (by omega)
    simp only [mxF]
    split <;> omega
/-- The marks: 1 at the greatest cost and above. -/
def mkV (n : Nat) (F : Nat → Nat → Int) (i k : Nat) : Int := if F i k ≥ lgV n F then 1 else 0
structure GreatF (n : Nat) (F : Nat → Nat → Int) : Prop where
  n1 : 1 ≤ n
  n12 : n ≤ 12
  rng : ∀ i k, i < n → k < n → 0 ≤ F i k ∧ F i k ≤ 2100000
  at_ : ∀ i, i < n → lgN n F i < n
  mx : mxF F (lgN n F) n = lgV n F
  ok : acB n (fun _ => n) (mkV n F) = true
  one : 1 ≤ lmS n (mkV n F)
theorem lmS_cong {n : Nat} {F F' : Nat → Nat → Int} (h2 : n ≤ 12) (hF : ∀ i k, i < n → k < n → 0 ≤ F i k ∧ F i k ≤ 2100000) (hF' : ∀ i k, i < n → k < n → 0 ≤ F' i k ∧ F' i k ≤ 2100000) (e : ∀ i k, i < n → k < n → F i k = F' i k) : lmS n F = lmS n F' := by
  have key : ∀ {G G' : Nat → Nat → Int}, (∀ i k, i < n → k < n → 0 ≤ G i k ∧ G i k ≤ 2100000) → (∀ i k, i < n → k < n → G i k = G' i k) → lmS n G' ≤ lmS n G := fun {G G'} hG e => by
    have hP := lcP_perm h2 hG
    have a := tabU_least (T := 1000000000) (C := G') hP
    have b := lcP_sum h2 hG
    have c := sumC_mono (C := G') (C' := G) (P := lcP n G) n (fun i hi => by rw [e i _ hi (hP.1 i hi)]; omega)
    unfold lmS at *
    omega
  have a := key hF e
  have b := key hF' (fun i k hi hk => (e i k hi hk).symm)
  omega
theorem mkV_one {n : Nat} {F : Nat → Nat → Int} {i k : Nat} (h : F i k ≥ lgV n F) : 1 ≤ mkV n F i k := by unfold mkV; rw [if_pos h]; omega
theorem great_facts {n : Nat} {R : Nat → Nat} {F : Nat → Nat → Int} (h : acB n R F = true) : GreatF n F := by
  obtain ⟨⟨h1, h2⟩, _, hF⟩ := acB_iff h
  have hv := bgU_rng h1 hF 0
  have hv0 : 0 ≤ lgV n F := hv.1
  have hv1 : lgV n F ≤ 2100000 := hv.2
  have hA := fun i (hi : i < n) => lgAt h1 h2 hF hi
  have hmk : ∀ i k, i < n → k < n → 0 ≤ mkV n F i k ∧ mkV n F i k ≤ 2100000 := fun i k _ _ => by unfold mkV; split <;> omega
  have hm := mxF_le (F := F) (P := lgN n F) hv0 n (fun i hi => (hA i hi).le.1)
  have hmm : mxF F (lgN n F) n = lgV n F := by
    have hP : Perm n (lgN n F) := lcP_perm (F := mkG F (lgV n F)) h2 (mkG_rng' F _ n)
    have a := tabU_least (T := 1000000000) (C := mkG F (mxF F (lgN n F) n)) hP
    have b : sumC (mkG F (mxF F (lgN n F) n)) (lgN n F) n = 0 := by
      rw [sumC_eq]
      rw [sumN_congr (h' := fun _ => 0) n (fun k hk => mkG_yes (mxF_ge F _ n k hk))]
      have : ∀ q, sumN (fun _ => (0 : Int)) q = 0 := fun q => by
        induction q with
        | zero => rfl
        | succ q ih => simp only [sumN]; omega
      exact this n
    have c := (lgV_iff (F := F) h2 (m := mxF F (lgN n F) n) hm.1 (by omega))
    have d : ¬ 0 < lmS n (mkG F (mxF F (lgN n F) n)) := by unfold lmS; omega
    have e : lgV n F ≤ mxF F (lgN n F) n := by
      by_cases q : lgV n F ≤ mxF F (lgN n F) n
      · exact q
      · exact absurd (c.2 q) d
    omega
  refine ⟨h1, h2, hF, fun i hi => (hA i hi).kn, hmm, ?_, ?_⟩
  · unfold acB
    simp only [Bool.and_eq_true]
    refine ⟨inB_iff.2 (by omega), allB_iff.2 fun i hi => ?_⟩
    simp only [beq_self_eq_true, Bool.true_and]
    exact allB_iff.2 fun j hj => inB_iff.2 (by have := hmk i j hi hj; omega)
  · by_cases hz : lgV n F = 0
    · have hP := lcP_perm h2 hmk
      have a := lcP_sum h2 hmk
      have b := sumC_mono (C := fun _ _ => 1) (C' := mkV n F) (P := lcP n (mkV n F)) n (fun i hi => by
        have := hF i _ hi (hP.1 i hi)
        exact mkV_one (by omega))
      have c : ∀ q, sumC (fun _ _ => (1 : Int)) (lcP n (mkV n F)) q = q := fun q => by
        induction q with
        | zero => rfl
        | succ q ih => simp only [sumC]; omega
      have d := c n
      omega
    · have a := (lgV_iff (F := F) h2 (m := lgV n F - 1) (by omega) (by omega)).2 (by omega)
      have b := lmS_cong (F := mkG F (lgV n F - 1)) (F' := mkV n F) h2 (mkG_rng' F _ n) hmk (fun i k hi hk => by
        unfold mkG mkV
        by_cases q : F i k ≤ lgV n F - 1
        · rw [if_pos q, if_neg (by omega)]
        · rw [if_neg q, if_pos (by omega)])
      omega
end Go.Proofs.Ytadlemadnifohaa
