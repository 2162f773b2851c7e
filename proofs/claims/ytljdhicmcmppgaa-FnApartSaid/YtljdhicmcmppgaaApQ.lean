/-
  What FnApart asks, gathered.
-/
import Derived.Test.YtljdhicmcmppgaaRows
import Derived.Test.YtljdhicmcmppgaaApP
import Derived.Test.YtljdhicmcmppgaaApC
import Derived.Test.YtljdhicmcmppgaaApD
import Derived.Test.YtljdhicmcmppgaaCcP
namespace Go.Proofs.Ytljdhicmcmppgaa
open Go.RowKit

theorem chL_mem {D : Nat → Bool} {k : Nat} : ∀ {n : Nat}, (k : Int) ∈ chL D n ↔ k < n ∧ D k = true
  | 0 => by simp [chL]
  | n + 1 => by
    have ih := chL_mem (D := D) (k := k) (n := n)
    unfold chL
    by_cases h : D n = true
    · rw [if_pos h, List.mem_append, ih, List.mem_singleton]
      constructor
      · rintro (⟨h1, h2⟩ | h1)
        · exact ⟨by omega, h2⟩
        · have : k = n := by omega
          subst this
          exact ⟨by omega, h⟩
      · rintro ⟨h1, h2⟩
        by_cases e : k = n
        · exact .inr (by rw [e])
        · exact .inl ⟨by omega, h2⟩
    · rw [if_neg h, ih]
      constructor
      · rintro ⟨h1, h2⟩
        exact ⟨by omega, h2⟩
      · rintro ⟨h1, h2⟩
        by_cases e : k = n
        · subst e; exact absurd h2 h
        · exact ⟨by omega, h2⟩
theorem has_chL {D : Nat → Bool} {n k : Nat} (hk : k < n) : hasN (fun i => (chL D n).getD i 0) k (chL D n).length = D k := by
  rw [Bool.eq_iff_iff]
  unfold hasN
  rw [hasB_iff]
  constructor
  · rintro ⟨i, hi, e⟩
    have e2 : (chL D n).getD i 0 = (k : Int) := by simpa using e
    rw [List.getD_eq_getElem?_getD, List.getElem?_eq_getElem hi, Option.getD_some] at e2
    have : (k : Int) ∈ chL D n := by rw [← e2]; exact List.getElem_mem hi
    exact (chL_mem.1 this).2
  · intro h
    obtain ⟨i, hi, e⟩ := List.mem_iff_getElem.1 (chL_mem.2 ⟨hk, h⟩)
    exact ⟨i, hi, by show ((chL D n).getD i 0 == (k : Int)) = true; rw [List.getD_eq_getElem?_getD, List.getElem?_eq_getElem hi, Option.getD_some, e]; simp⟩
theorem low_rng {a b : Int} (ha : 0 ≤ a) (hb : 0 < b) (A B : Int) (hA : a ≤ A) (hB : b ≤ B) : (0 ≤ lowA a b ∧ lowA a b ≤ A) ∧ 1 ≤ lowB a b ∧ lowB a b ≤ B := by
  have h := low_bd ha hb
  have := lowB_pos (a := a) hb
  omega
/-- What the law asks at one count. -/
structure AtF (x y u v x' y' u' v' c d : Int) (k : Nat) : Prop where
  rng : (0 ≤ lowA (sqm x y u v x' y' u' v' c k) (c * c) ∧ lowA (sqm x y u v x' y' u' v' c k) (c * c) ≤ 11838003609600) ∧ 1 ≤ lowB (sqm x y u v x' y' u' v' c k) (c * c) ∧ lowB (sqm x y u v x' y' u' v' c k) (c * c) ≤ 8359936
  has : hasN (fun i => (ccL x y u v x' y' u' v' c d).getD i 0) k (ccL x y u v x' y' u' v' c d).length = lessB (lowA (sqm x y u v x' y' u' v' c k) (c * c)) (lowB (sqm x y u v x' y' u' v' c k) (c * c)) (d * d) 1
  least : lessB (lowA (sqm x y u v x' y' u' v' c k) (c * c)) (lowB (sqm x y u v x' y' u' v' c k) (c * c)) (apM x y u v x' y' u' v').1 (apM x y u v x' y' u' v').2 = false
  time : (ctM x y u v x' y' u' v' c).2 = 1 → (k : Int) = (ctM x y u v x' y' u' v' c).1 → lowA (sqm x y u v x' y' u' v' c k) (c * c) = (apM x y u v x' y' u' v').1 ∧ lowB (sqm x y u v x' y' u' v' c k) (c * c) = (apM x y u v x' y' u' v').2
theorem at_least {x y u v x' y' u' v' c : Int} {k : Nat} (h : moveB x y u v c = true) (hk : (k : Int) ≤ c) : (apM x y u v x' y' u' v').1 * (c * c) ≤ sqm x y u v x' y' u' v' c k * (apM x y u v x' y' u' v').2 := by
  rw [sqm_dAt]
  have hc := (moveB_iff.1 h).2
  exact ap_least (by omega) hk (by omega) rfl rfl
theorem at_facts {x y u v x' y' u' v' c d : Int} {k : Nat} (h : moveB x y u v c = true) (h' : moveB x' y' u' v' c = true) (hk : (k : Int) ≤ c) : AtF x y u v x' y' u' v' c d k := by
  have hc := (moveB_iff.1 h).2
  have hs := sqm_bd h h' (show (0 : Int) ≤ k by omega) hk
  obtain ⟨_, _, ⟨s1, s2⟩, ⟨s3, s4⟩, s5, s6⟩ := hs
  have hsq : 0 ≤ sqm x y u v x' y' u' v' c k ∧ sqm x y u v x' y' u' v' c k ≤ 214748364800 := by unfold sqm; omega
  refine ⟨low_rng hsq.1 (by omega) _ _ (by omega) (by omega), ?_, ?_, ?_⟩
  · unfold ccL
    rw [has_chL (by omega)]
    unfold ccD lessB
    refine decide_eq_decide.2 ?_
    rw [Int.mul_one, low_lt (by omega), Int.mul_assoc (d * d)]
  · have hl := at_least (x' := x') (y' := y') (u' := u') (v' := v') h hk
    obtain ⟨g, hg, e1, e2⟩ := low_mul (a := sqm x y u v x' y' u' v' c k) (b := c * c) (by omega)
    unfold lessB
    rw [decide_eq_false_iff_not]
    intro hlt
    generalize lowA (sqm x y u v x' y' u' v' c k) (c * c) = A at *
    generalize lowB (sqm x y u v x' y' u' v' c k) (c * c) = B at *
    generalize (apM x y u v x' y' u' v').1 = p at *
    generalize (apM x y u v x' y' u' v').2 = q at *
    rw [← e1, ← e2] at hl
    have h3 := Int.mul_lt_mul_of_pos_left hlt hg
    have h4 : g * (A * q) = A * g * q := by grind
    have h5 : g * (p * B) = p * (B * g) := by grind
    omega
  · intro h1 h2
    rw [sqm_dAt, h2]
    exact ct_at (by omega) rfl rfl h1
theorem stay_less {x y u v x' y' u' v' d : Int} : saB x y u v x' y' u' v' d = !lessB (apM x y u v x' y' u' v').1 (apM x y u v x' y' u' v').2 (d * d) 1 := by
  unfold saB lessB
  generalize (apM x y u v x' y' u' v').1 = p
  generalize (apM x y u v x' y' u' v').2 = q
  rw [Int.mul_one]
  by_cases h : d * d * q ≤ p
  · simp [h]
  · simp [h]; omega
theorem stay_none {x y u v x' y' u' v' c d : Int} (h : moveB x y u v c = true) (h' : moveB x' y' u' v' c = true) (hs : saB x y u v x' y' u' v' d = true) : (ccL x y u v x' y' u' v' c d).length = 0 := by
  have hc := (moveB_iff.1 h).2
  refine chL_none fun t ht => ?_
  have hl := at_least (x' := x') (y' := y') (u' := u') (v' := v') (k := t) h (by omega)
  have hq := (apM_bd h h').2.1
  unfold saB at hs
  rw [decide_eq_true_iff] at hs
  unfold ccD
  rw [decide_eq_false_iff_not]
  intro hlt
  generalize (apM x y u v x' y' u' v').1 = p at *
  generalize (apM x y u v x' y' u' v').2 = q at *
  generalize sqm x y u v x' y' u' v' c t = S at *
  have hcc : 0 < c * c := Int.mul_pos (by omega) (by omega)
  have h1 := Int.mul_lt_mul_of_pos_right hlt (show 0 < q by omega)
  have h2 := Int.mul_le_mul_of_nonneg_right hs (show 0 ≤ c * c by omega)
  have h3 : d * d * c * c * q = d * d * q * (c * c) := by grind
  omega
theorem tog_comm {x y u v c x' y' u' v' c' : Int} (h : togB x y u v c x' y' u' v' c' = true) : togB x' y' u' v' c' x y u v c = true := by
  obtain ⟨⟨h1, h2⟩, h3⟩ := togB_iff.1 h
  exact togB_iff.2 ⟨⟨h2, h1⟩, h3.symm⟩
theorem ct_facts {x y u v x' y' u' v' c : Int} (h : moveB x y u v c = true) : 1 ≤ (ctM x y u v x' y' u' v' c).2 ∧ 0 ≤ (ctM x y u v x' y' u' v' c).1 ∧ (ctM x y u v x' y' u' v' c).1 ≤ c * (ctM x y u v x' y' u' v' c).2 := by
  have hc := (moveB_iff.1 h).2
  refine ct_bd (by omega) ?_
  have := sq_nonneg (u - u' - (x - x'))
  have := sq_nonneg (v - v' - (y - y'))
  omega
theorem ct_top {x y u v x' y' u' v' c : Int} (h : moveB x y u v c = true) (h' : moveB x' y' u' v' c = true) : (ctM x y u v x' y' u' v' c).1 ≤ 4179968 * 64 ∧ (ctM x y u v x' y' u' v' c).2 ≤ 8359936 := by
  have hB := (Way.mk' x y u v x' y' u' v').bd h h'
  have hc := (moveB_iff.1 h).2
  have hd : -4179968 ≤ ((x - x') * (u - u' - (x - x')) + (y - y') * (v - v' - (y - y'))) := by have := hB.c1; have := hB.d1; have := hB.a1; have := hB.b1; have := hB.e1; have := hB.f1; omega
  have hz : ((u - u' - (x - x')) * (u - u' - (x - x')) + (v - v' - (y - y')) * (v - v' - (y - y'))) ≤ 8359936 := by have := hB.c2; have := hB.d2; have := hB.a2; have := hB.b2; have := hB.e2; have := hB.f2; omega
  unfold ctM
  generalize ((x - x') * (u - u' - (x - x')) + (y - y') * (v - v' - (y - y'))) = dot at *
  generalize ((u - u' - (x - x')) * (u - u' - (x - x')) + (v - v' - (y - y')) * (v - v' - (y - y'))) = sz at *
  simp only
  unfold ctA ctZ
  split
  · omega
  · split
    · omega
    · have hm := mul_bd (a := -dot) (b := c) (A := 4179968) (B := 64) (by omega) (by omega) (by omega) (by omega)
      have hn : 0 ≤ -dot * c := Int.mul_nonneg (by omega) (by omega)
      have := low_bd (a := -dot * c) (b := sz) hn (by omega)
      omega
end Go.Proofs.Ytljdhicmcmppgaa
