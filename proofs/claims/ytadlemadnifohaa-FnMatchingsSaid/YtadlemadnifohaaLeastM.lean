/-
  LeastMatching on both sides.
-/
import Derived.Test.YtadlemadnifohaaRows
import Derived.Test.YtadlemadnifohaaBase
import Derived.Test.YtadlemadnifohaaSpot
import Derived.Test.YtadlemadnifohaaSlice
import Derived.Test.YtadlemadnifohaaLawS
import Derived.Test.YtadlemadnifohaaMark
import Derived.Test.YtadlemadnifohaaAppend
import Derived.Test.YtadlemadnifohaaAppendE
import Derived.Test.YtadlemadnifohaaForm
import Derived.Test.YtadlemadnifohaaInts
import Derived.Test.YtadlemadnifohaaIntsL
import Derived.Test.YtadlemadnifohaaCopyI
import Derived.Test.YtadlemadnifohaaTurned
import Derived.Test.YtadlemadnifohaaTrans
import Derived.Test.YtadlemadnifohaaMatch
import Derived.Test.YtadlemadnifohaaRowsI
import Derived.Test.YtadlemadnifohaaCosts
import Derived.Test.YtadlemadnifohaaMatS
import Derived.Test.YtadlemadnifohaaMatchP
import Derived.Test.YtadlemadnifohaaMatchQ
import Derived.Test.YtadlemadnifohaaOnes
import Derived.Test.YtadlemadnifohaaTable
import Derived.Test.YtadlemadnifohaaLeast
namespace Go.Proofs.Ytadlemadnifohaa
open Go.RowKit Go.ChangeShapes Go.WideShapes Go.Sort

/-- Ordinary costs: both tables are one. -/
theorem tab_same {n : Nat} {F : Nat → Nat → Int} (h2 : n ≤ 12) (hF : ∀ i k, i < n → k < n → 0 ≤ F i k ∧ F i k ≤ 2100000) : tabU (· + ·) 13194139533312 n F = tabU (· + ·) 1000000000 n F := by
  funext u
  have a := tab_agree (B := 1000000000) (T := 13194139533312) (C' := F) (by omega) (by omega) (fun i k hi hk => (hF i k hi hk).1) (fun i k hi hk => by have := hF i k hi hk; omega) (freeN u n) u (freeN_le u n)
  have b := (tabU_rng (T := 13194139533312) (M := 2100000) (by omega) (by omega) h2 hF u).2
  unfold tabU at b ⊢
  omega
theorem tab_low {T : Int} (hT : 25200000 < T) {n : Nat} {F : Nat → Nat → Int} (h2 : n ≤ 12) (hF : ∀ i k, i < n → k < n → 0 ≤ F i k ∧ F i k ≤ 2100000) (u : Nat) : tabU (· + ·) T n F u < T := by
  have b := (tabU_rng (T := T) (M := 2100000) (by omega) (by omega) h2 hF u).2
  omega
/-- The first least matching, and its sum. -/
def lmP (n : Nat) (F : Nat → Nat → Int) (r : Nat) : Int := (placeM n F (tabU (· + ·) 1000000000 n F) r : Nat)
def lmS (n : Nat) (F : Nat → Nat → Int) : Int := tabU (· + ·) 1000000000 n F 0
theorem lmP_rng {n : Nat} {F : Nat → Nat → Int} (h2 : n ≤ 12) (hF : ∀ i k, i < n → k < n → 0 ≤ F i k ∧ F i k ≤ 2100000) : ∀ i, i < n → 0 ≤ lmP n F i ∧ lmP n F i < n := fun i hi => by
  have h := ((placeM_ok (T := 1000000000) (by omega) (fun i k hi hk => (hF i k hi hk).1) (tab_low (by omega) h2 hF 0) i (by omega)).2.2.2.2 hi).1
  unfold lmP
  omega
theorem sumP_sumC (F : Nat → Nat → Int) (P : Nat → Nat) : ∀ k, sumP F (fun r => (P r : Nat)) k = sumC F P k
  | 0 => rfl
  | k + 1 => by simp only [sumP, sumC]; rw [sumP_sumC F P k]; simp
theorem lmS_sum {n : Nat} {F : Nat → Nat → Int} (h2 : n ≤ 12) (hF : ∀ i k, i < n → k < n → 0 ≤ F i k ∧ F i k ≤ 2100000) : sumP F (lmP n F) n = lmS n F := by
  have h := placeM_ok (T := 1000000000) (by omega) (fun i k hi hk => (hF i k hi hk).1) (tab_low (by omega) h2 hF 0) n (Nat.le_refl _)
  have e : sumP F (lmP n F) n = sumC F (placeM n F (tabU (· + ·) 1000000000 n F)) n := sumP_sumC F _ n
  have hz := tabU_full (· + ·) 1000000000 n F _ (show freeN (usedM n F (tabU (· + ·) 1000000000 n F) n) n = 0 by rw [h.2.1]; omega)
  have := h.2.2.2.1
  rw [e]
  unfold lmS
  omega
/-- Returned: a list of numbers in new memory, a number and a Bool. -/
def AnsLM (w : World) (l : Nat) (X : Nat → Int) (a : Int) (q : Bool) (e : Ending) (w' : World) : Prop := ∃ v, e = .returned (.tuple #[v, .int .i64 a, .bool q]) ∧ OwnI w.heap.size w' v l X ∧ Below w.heap.size w w'
theorem AnsLM.nil {w w' : World} {X : Nat → Int} (hb : Below w.heap.size w w') : AnsLM w 0 X 0 false (.returned (.tuple #[.slice none 0 0, .int .i64 0, .bool false])) w' := ⟨_, rfl, OwnI.nil, hb⟩
set_option maxRecDepth 100000 in
set_option maxHeartbeats 2000000 in
theorem iLeastMatching_g (v : Value) (n : Nat) (R : Nat → Nat) (F : Nat → Nat → Int) (w : World) (h : IRows w v n R F) (hn : n ≤ 1048576) (hR : ∀ i, i < n → R i ≤ 1048576) :
    Calls Try.prog 6 #[v] w (AnsLM w (sel (acB n R F) n) (lmP n F) (if acB n R F then lmS n F else 0) (acB n R F)) := by
  have HI := Lib.hid h
  have HA := Lib.hid (areCosts_g v n R F w h hn hR)
  obtain ⟨A, c, rfl, _⟩ := h.shape
  clear h hR
  cases e1 : acB n R F with
  | false =>
    rw [e1] at HA
    clear e1
    go_enter Try.func6, Try.ntmps6
    go_wp2_with (go_at_call 24; refine (HA.out).mono ?_; rintro e w1 ⟨rfl, hb1⟩)
    go_ret3
    exact AnsLM.nil hb1
  | true =>
    rw [e1] at HA
    obtain ⟨⟨n1, n12⟩, _, hF⟩ := acB_iff e1
    have HLm := Lib.hid (fun W (hW : Below w.heap.size w W) => by
      obtain ⟨b, o, c', B, O, C, hq, hM⟩ := mat_of (HI.out.up hW) e1
      have := leastMatching_m b o c' n F B O C W hM n1 n12 (fun i k hi hk => by have := hF i k hi hk; omega) (tab_low (by omega) n12 hF 0)
      rw [← hq, tab_same n12 hF] at this
      exact (show Calls Try.prog 33 #[.slice A n c] W (AnsI W n (lmP n F)) from this))
    have HSm := Lib.hid (fun W u (hW : Below w.heap.size w W) (hu : Ints W u n (lmP n F)) => sumOf_g _ u n R F (lmP n F) W (HI.out.up hW) e1 hu (lmP_rng n12 hF))
    rw [lmS_sum n12 hF] at HSm
    simp only [if_true]
    clear e1 hF
    go_enter Try.func6, Try.ntmps6
    go_wp2_with (go_at_call 24; refine (HA.out).mono ?_; rintro e w1 ⟨rfl, hb1⟩)
    refine (HLm.out _ hb1).mono ?_
    rintro e w2 ⟨u, rfl, hu, hb2⟩
    have hw2 := up_trans hb1 hb2
    have hs1 := hb1.size
    go_wp2_with fail
    refine (HSm.out _ _ hw2 hu.ints).mono ?_
    rintro e w3 ⟨rfl, hb3⟩
    go_wp2_with fail
    go_ret3
    exact ⟨_, rfl, (hu.up hb3).more hs1, up_trans hw2 hb3⟩
set_option maxRecDepth 100000 in
set_option maxHeartbeats 2000000 in
theorem sLeastMatching_g (v : Value) (n : Nat) (R : Nat → Nat) (F : Nat → Nat → Int) (w : World) (h : IRows w v n R F) (hn : n ≤ 1048576) (hR : ∀ i, i < n → R i ≤ 1048576) :
    Calls Try.prog 7 #[v] w (AnsLM w (sel (acB n R F) n) (lmP n F) (if acB n R F then lmS n F else 0) (acB n R F)) := by
  have HI := Lib.hid h
  have HA := Lib.hid (maGood_g v n R F w h hn hR)
  obtain ⟨A, c, rfl, _⟩ := h.shape
  clear h hR
  cases e1 : acB n R F with
  | false =>
    rw [e1] at HA
    clear e1
    go_enter Try.func7, Try.ntmps7
    go_wp2_with (go_at_call 35; refine (HA.out).mono ?_; rintro e w1 ⟨rfl, hb1⟩)
    go_ret3
    exact AnsLM.nil hb1
  | true =>
    rw [e1] at HA
    obtain ⟨⟨n1, n12⟩, _, hF⟩ := acB_iff e1
    have HLm := Lib.hid (fun W (hW : Below w.heap.size w W) => by
      obtain ⟨b, o, c', B, O, C, hq, hM⟩ := mat_of (HI.out.up hW) e1
      have := maLeast_m b o c' n F B O C W hM n1 n12 (fun i k hi hk => by have := hF i k hi hk; omega) (tab_low (by omega) n12 hF 0)
      rw [← hq] at this
      exact (show Calls Try.prog 36 #[.slice A n c] W (AnsII W n (lmP n F) (lmS n F)) from this))
    simp only [if_true]
    clear e1 hF
    go_enter Try.func7, Try.ntmps7
    go_wp2_with (go_at_call 35; refine (HA.out).mono ?_; rintro e w1 ⟨rfl, hb1⟩)
    refine (HLm.out _ hb1).mono ?_
    rintro e w2 ⟨u, rfl, hu, hb2⟩
    have hw2 := up_trans hb1 hb2
    have hs1 := hb1.size
    go_wp2_with fail
    go_ret3
    exact ⟨_, rfl, hu.more hs1, hw2⟩
end Go.Proofs.Ytadlemadnifohaa
