/-
  Costs (lists of lists of numbers): the laws' helpers on them, what a law's costs are; AreCosts on both sides.
-/
import Derived.Test.YtadlemadnifohaaRows
import Derived.Test.YtadlemadnifohaaBase
import Derived.Test.YtadlemadnifohaaSpot
import Derived.Test.YtadlemadnifohaaSlice
import Derived.Test.YtadlemadnifohaaLawS
import Derived.Test.YtadlemadnifohaaMark
import Derived.Test.YtadlemadnifohaaOpen
import Derived.Test.YtadlemadnifohaaTrod
import Derived.Test.YtadlemadnifohaaInts
import Derived.Test.YtadlemadnifohaaIntsL
import Derived.Test.YtadlemadnifohaaTurned
import Derived.Test.YtadlemadnifohaaTrans
import Derived.Test.YtadlemadnifohaaOpenT
import Derived.Test.YtadlemadnifohaaRowsI
import Derived.Deep.RegionHeld3
namespace Go.Proofs.Ytadlemadnifohaa
open Go.RowKit Go.ChangeShapes Go.WideShapes Go.Sort

section
variable {H : Type} {enc : TypeId × Value → H} {w : World} {base b0 : Nat} {sp : Nat → Bool} {held : Bool} {r : Reach} {v : Value} {d : DataW H} {p : List MemPlace}
set_option maxRecDepth 100000 in
theorem trod_rows {f : Nat} {c0 : Value} {y : DataW H × List MemPlace} (hf : DataW.trod enc Try.prog w base sp held f 23 [c0] = some y) :
    ∃ n R F, IRows w c0 n R F ∧ n ≤ 9223372036854775807 ∧ ∀ i, i < n → R i ≤ 9223372036854775807 := by
  rcases Go.Deep.open_slice1 Try.underlying23 (by kernel_rfl) hf with ⟨hcs, _⟩ | ⟨a, len, cap, m, n, V, D, Pl, hcs, _, hl, hm, hmm, _, hi⟩
  · simp only [List.cons.injEq, and_true] at hcs
    subst hcs
    exact ⟨0, fun _ => 0, fun _ _ => 0, ⟨_, _, fun _ => .slice none 0 0, rfl, Nat.le_refl _, fun h => absurd h (by omega), fun i hi => absurd hi (by omega)⟩, by omega, fun i hi => absurd hi (by omega)⟩
  · simp only [List.cons.injEq, and_true] at hcs
    subst hcs
    have hlm : len ≤ m := by rw [hmm]; split <;> omega
    have key : ∀ i, ∃ q : Nat × (Nat → Int), i < len → w.cell? (a.add i) = some (V i) ∧ Ints w (V i) q.1 q.2 ∧ q.1 ≤ 9223372036854775807 := fun i => by
      by_cases hil : i < len
      · obtain ⟨hc, ht⟩ := hi i (by omega)
        obtain ⟨k, X, h1, h2⟩ := trod_ints ht
        exact ⟨(k, X), fun _ => ⟨hc, h1, h2⟩⟩
      · exact ⟨(0, fun _ => 0), fun h => absurd h hil⟩
    obtain ⟨G, hG⟩ := Classical.axiomOfChoice key
    refine ⟨len, fun i => (G i).1, fun i => (G i).2, ⟨_, _, V, rfl, hl, fun hn => ⟨a.block, a.off, ?_, fun i hil => (cell_at (hG i hil).1).1⟩, fun i hil => (hG i hil).2.1⟩, by unfold maxLen at hm; omega, fun i hil => (hG i hil).2.2⟩
    obtain ⟨k, X, e⟩ : ∃ k X, Ints w (V 0) k X := ⟨_, _, (hG 0 hn).2.1⟩
    obtain ⟨A', c', e', _⟩ := e
    have hc0 := (hG 0 hn).1
    rw [e'] at hc0
    rw [← (cell_at hc0).2 rfl]
set_option maxRecDepth 100000 in
theorem open_rows (hv : Value.okWide Try.prog w r b0 23 v) (h : DataW.Trod enc Try.prog w base sp held 23 v d p) :
    ∃ n R F, IRows w v n R F ∧ n ≤ 9223372036854775807 ∧ ∀ i, i < n → R i ≤ 9223372036854775807 := by
  obtain ⟨A, len, cap, rfl⟩ := okWide_slice Try.underlying23 hv
  obtain ⟨f, hf⟩ := h
  exact trod_rows (show DataW.trod enc Try.prog w base sp held f 23 [.slice A len cap] = some (d, p) from hf)
end
/-- How many more numbers there may be behind these rows, or -1. -/
def szR (left : Int) (n : Nat) (R : Nat → Nat) : Int := if (n : Int) + (sumR R n : Nat) ≤ left then left - n - (sumR R n : Nat) else -1
theorem szR_pos {left : Int} {n : Nat} {R : Nat → Nat} (h : (n : Int) + (sumR R n : Nat) ≤ left) : szR left n R = left - n - (sumR R n : Nat) := if_pos h
theorem szR_neg {left : Int} {n : Nat} {R : Nat → Nat} (h : ¬ (n : Int) + (sumR R n : Nat) ≤ left) : szR left n R = -1 := if_neg h
theorem sumR_one {R : Nat → Nat} {n i : Nat} (hi : i < n) : R i ≤ sumR R n := by
  have := sumR_le R (show i + 1 ≤ n by omega)
  simp only [sumR] at this
  omega
theorem RowV.put {w : World} {b o n : Nat} {V : Nat → Value} (h : RowV w b o n V) {k : Nat} (hk : k < n) (x : Value) : RowV (w.setCell ⟨b, o + k, none⟩ x) b o n (fun i => if i = k then x else V i) := fun i hi => by
  by_cases e : i = k
  · subst e
    simp only [if_true]
    exact cell_set_same w b (o + i) _ x (h i hi)
  · simp only [if_neg e]
    rw [cell_set_ne w b (o + k) x b (o + i) (by omega)]
    exact h i hi
theorem RowV.put0 {w : World} {b n : Nat} {V : Nat → Value} (h : RowV w b 0 n V) {k : Nat} (hk : k < n) (x : Value) : RowV (w.setCell ⟨b, k, none⟩ x) b 0 n (fun i => if i = k then x else V i) := by
  have := h.put hk x
  rwa [Nat.zero_add] at this
theorem RowV.at0 {w : World} {b n : Nat} {V : Nat → Value} (h : RowV w b 0 n V) {k : Nat} (hk : k < n) : w.cell? ⟨b, k, none⟩ = some (V k) := by
  have := h k hk; rwa [Nat.zero_add] at this
theorem rowV_made (w : World) (t : TypeId) (n : Nat) : RowV (w.alloc (.cells (madeCells #[.slice none 0 0] n) t)) w.heap.size 0 n (fun _ => .slice none 0 0) := fun i hi => by
  have : (w.alloc (.cells (madeCells #[.slice none 0 0] n) t)).cell? ⟨w.heap.size, 0 + i, none⟩ = (madeCells #[.slice none 0 0] n)[0 + i]? := by
    unfold World.cell?; rw [heap_alloc_new]; rfl
  rw [this, madeCells, Array.getElem?_map, Array.getElem?_range, if_pos (by omega)]
  simp [Nat.mod_one]
theorem OwnI.block_lt {base : Nat} {w : World} {v : Value} {n : Nat} {X : Nat → Int} (h : OwnI base w v n X) (hn : 0 < n) {b : Nat} (hb : v.ownBlock = some b) : base ≤ b ∧ b < w.heap.size := by
  obtain ⟨A, c, rfl, _, hr⟩ := h
  obtain ⟨b', o, rfl, h1, _, h2⟩ := hr hn
  have := h2.lt hn
  simp [Value.ownBlock] at hb
  omega
/-- Valid costs. -/
def acB (n : Nat) (R : Nat → Nat) (F : Nat → Nat → Int) : Bool := inB n 1 12 && allB (fun i => (R i == n) && allB (fun j => inB (F i j) 0 2100000) (R i)) n
theorem acB_iff {n : Nat} {R : Nat → Nat} {F : Nat → Nat → Int} (h : acB n R F = true) : (1 ≤ n ∧ n ≤ 12) ∧ (∀ i, i < n → R i = n) ∧ ∀ i k, i < n → k < n → 0 ≤ F i k ∧ F i k ≤ 2100000 := by
  simp only [acB, Bool.and_eq_true] at h
  have h1 := inB_iff.1 h.1
  have h2 := allB_iff.1 h.2
  have h3 : ∀ i, i < n → R i = n := fun i hi => by
    have := h2 i hi
    simp only [Bool.and_eq_true, beq_iff_eq] at this
    exact this.1
  refine ⟨by omega, h3, fun i k hi hk => ?_⟩
  have := h2 i hi
  simp only [Bool.and_eq_true] at this
  exact inB_iff.1 (allB_iff.1 this.2 k (by rw [h3 i hi]; exact hk))
set_option maxRecDepth 100000 in
set_option maxHeartbeats 2000000 in
theorem l1All_g (v : Value) (l : Nat) (P : Nat → Int) (lo hi : Int) (w : World) (h : Ints w v l P) (hl : l ≤ 9223372036854775807) :
    Calls Try.prog 59 #[v, .int .i64 lo, .int .i64 hi] w (Ans w (.bool (allB (fun j => inB (P j) lo hi) l))) := by
  obtain ⟨A, c, rfl, hnc, hrow⟩ := h
  go_enter Try.func59, Try.ntmps59
  go_wp2_with fail
  go_loop [11] (fun i => ∃ k : Nat, k ≤ l ∧ i = .int .i64 k ∧ allB (fun j => inB (P j) lo hi) k = true) (fun i => l - (intOf i).toNat)
  case atStart => exact ⟨0, by omega, rfl, rfl⟩
  case round =>
    obtain ⟨k, hk, rfl, ha⟩ := hrel
    have HA := Lib.hid ha
    clear ha
    by_cases hlt : k < l
    · obtain ⟨b, o, rfl, hrr⟩ := hrow (by omega)
      have c0 := hrr k hlt
      clear hrr hrow
      cases hq : inB (P k) lo hi with
      | true =>
        have HQ := Lib.hid hq
        go_wp2_with (go_at_call 60; refine (l1In_any _ _ _ _).mono ?_; rintro e w1 ⟨rfl, rfl⟩)
        go_round
        case rel => exact ⟨k + 1, by omega, by go_num, allB_succ HA.out HQ.out⟩
        case measure => simp [intOf]; omega
      | false =>
        have HQ := Lib.hid hq
        go_wp2_with (go_at_call 60; refine (l1In_any _ _ _ _).mono ?_; rintro e w1 ⟨rfl, rfl⟩)
        go_ret
        exact Ans.bool (by rw [allB_no hlt HQ.out]) (Below.refl _ _)
    · have e : k = l := by omega
      subst e
      have HB := Lib.hid (show allB (fun j => inB (P j) lo hi) k = true from HA.out)
      go_wp2_with fail
      go_ret
      exact Ans.bool (by rw [HB.out]) (Below.refl _ _)
set_option maxRecDepth 100000 in
set_option maxHeartbeats 2000000 in
theorem maGood_g (v : Value) (n : Nat) (R : Nat → Nat) (F : Nat → Nat → Int) (w : World) (h : IRows w v n R F) (hn : n ≤ 1048576) (hR : ∀ i, i < n → R i ≤ 1048576) :
    Calls Try.prog 35 #[v] w (Ans w (.bool (acB n R F))) := by
  have HE := Lib.hid (show acB n R F = (inB n 1 12 && allB (fun i => (R i == n) && allB (fun j => inB (F i j) 0 2100000) (R i)) n) from rfl)
  obtain ⟨A, c, V, rfl, hnc, hrow, hf⟩ := h
  have HF := Lib.hid hf
  have HRR := Lib.hid hR
  have HRow := Lib.hid hrow
  clear hf hR hrow
  go_enter Try.func35, Try.ntmps35
  go_wp2_with fail
  go_loopw [7] (fun i wr => ∃ k : Nat, k ≤ n ∧ i = .int .i64 k ∧ Below w.heap.size w wr ∧ allB (fun i => (R i == n) && allB (fun j => inB (F i j) 0 2100000) (R i)) k = true) (fun i _ => n - (intOf i).toNat)
  case atStart => exact ⟨0, by omega, rfl, Below.refl _ _, rfl⟩
  case round =>
    obtain ⟨k, hk, rfl, hb, ha⟩ := hrel
    have HA := Lib.hid ha
    clear ha
    by_cases hlt : k < n
    · obtain ⟨b, o, rfl, hr⟩ := HRow.out (by omega)
      have c0 := up_keep hb (hr k hlt)
      obtain ⟨a1, q1, e1, _⟩ := (HF.out k hlt).shape
      have HC := Lib.hid (l1All_g (V k) (R k) (F k) 0 2100000 wr ((HF.out k hlt).up hb) (by have := HRR.out k hlt; omega))
      have hrk := HRR.out k hlt
      rw [e1] at c0 HC
      clear hr e1
      by_cases hq1 : R k = n
      · have hdec : ((R k : Int) != (n : Int)) = false := by simp; omega
        cases hq2 : allB (fun j => inB (F k j) 0 2100000) (R k) with
        | true =>
          rw [hq2] at HC
          have HQ := Lib.hid (show ((R k == n) && allB (fun j => inB (F k j) 0 2100000) (R k)) = true by rw [hq2]; simpa using hq1)
          clear hq2 hq1
          go_wp2_with (go_at_call 59; refine (HC.out).mono ?_; rintro e w2 ⟨rfl, hb2⟩)
          go_roundw
          case rel => exact ⟨k + 1, by omega, by go_num, up_trans hb hb2, allB_succ HA.out HQ.out⟩
          case measure => simp [intOf]; omega
        | false =>
          rw [hq2] at HC
          have HQ := Lib.hid (show ((R k == n) && allB (fun j => inB (F k j) 0 2100000) (R k)) = false by rw [hq2]; simp)
          clear hq2 hq1
          go_wp2_with (go_at_call 59; refine (HC.out).mono ?_; rintro e w2 ⟨rfl, hb2⟩)
          go_ret
          exact Ans.bool (by rw [HE.out, allB_no hlt HQ.out]; simp) (up_trans hb hb2)
      · have hdec : ((R k : Int) != (n : Int)) = true := by simp; omega
        have HQ := Lib.hid (show ((R k == n) && allB (fun j => inB (F k j) 0 2100000) (R k)) = false by simp [hq1])
        clear hq1
        go_wp2_with fail
        go_ret
        exact Ans.bool (by rw [HE.out, allB_no hlt HQ.out]; simp) hb
    · have e : k = n := by omega
      subst e
      go_wp2_with (go_at_call 60; refine (l1In_any _ _ _ _).mono ?_; rintro e w1 ⟨rfl, rfl⟩)
      go_ret
      exact Ans.bool (by rw [HE.out, HA.out]; simp) hb
set_option maxRecDepth 100000 in
set_option maxHeartbeats 4000000 in
theorem areCosts_g (v : Value) (n : Nat) (R : Nat → Nat) (F : Nat → Nat → Int) (w : World) (h : IRows w v n R F) (hn : n ≤ 1048576) (hR : ∀ i, i < n → R i ≤ 1048576) :
    Calls Try.prog 24 #[v] w (Ans w (.bool (acB n R F))) := by
  obtain ⟨A, c, V, rfl, hnc, hrow, hf⟩ := h
  have HF := Lib.hid hf
  have HRR := Lib.hid hR
  have HRow := Lib.hid hrow
  clear hf hR hrow
  cases h12 : inB n 1 12 with
  | false =>
    have HE := Lib.hid (show acB n R F = false by simp [acB, h12])
    go_enter Try.func24, Try.ntmps24
    go_wp2_with (go_at_call 52; refine (within_any _ _ _ _).mono ?_; rintro e w1 ⟨rfl, rfl⟩)
    go_ret
    exact Ans.bool (by rw [HE.out]) (Below.refl _ _)
  | true =>
    have HE := Lib.hid (show acB n R F = allB (fun i => (R i == n) && allB (fun j => inB (F i j) 0 2100000) (R i)) n by simp [acB, h12])
    go_enter Try.func24, Try.ntmps24
    go_wp2_with (go_at_call 52; refine (within_any _ _ _ _).mono ?_; rintro e w1 ⟨rfl, rfl⟩)
    go_loop [15] (fun i => ∃ k : Nat, k ≤ n ∧ i = .int .i64 k ∧ allB (fun i => (R i == n) && allB (fun j => inB (F i j) 0 2100000) (R i)) k = true) (fun i => n - (intOf i).toNat)
    case atStart => exact ⟨0, by omega, rfl, rfl⟩
    case round =>
      obtain ⟨k, hk, rfl, ha⟩ := hrel
      have HA := Lib.hid ha
      clear ha
      by_cases hlt : k < n
      · obtain ⟨b, o, rfl, hr⟩ := HRow.out (by omega)
        have c0 := hr k hlt
        obtain ⟨a1, q1, e1, _⟩ := (HF.out k hlt).shape
        have HRo := Lib.hid (show 0 < R k → ∃ b o, a1 = some ⟨b, o, none⟩ ∧ Row1 w b o (R k) (F k) by
          obtain ⟨A', c', e', _, hrr⟩ := HF.out k hlt
          rw [e1] at e'
          cases e'
          exact hrr)
        have hrk := HRR.out k hlt
        rw [e1] at c0
        clear hr e1
        by_cases hq1 : R k = n
        · have hdec : ((R k : Int) != (n : Int)) = false := by simp; omega
          have HQ1 := Lib.hid hq1
          clear hq1
          go_wp2_with fail
          go_loop [25] (fun i => ∃ j : Nat, j ≤ R k ∧ i = .int .i64 j ∧ allB (fun j => inB (F k j) 0 2100000) j = true) (fun i => R k - (intOf i).toNat)
          case atStart => exact ⟨0, by omega, rfl, rfl⟩
          case round =>
            obtain ⟨j, hj, rfl, hb⟩ := hrel
            have HB := Lib.hid hb
            clear hb
            by_cases hlt2 : j < R k
            · obtain ⟨b2, o2, rfl, hr2⟩ := HRo.out (by omega)
              have c1 := hr2 j hlt2
              clear hr2
              cases hq : inB (F k j) 0 2100000 with
              | true =>
                have HQ := Lib.hid hq
                go_wp2_with (go_at_call 52; refine (within_any _ _ _ _).mono ?_; rintro e w1 ⟨rfl, rfl⟩)
                go_round
                case rel => exact ⟨j + 1, by omega, by go_num, allB_succ HB.out HQ.out⟩
                case measure => simp [intOf]; omega
              | false =>
                have HQ := Lib.hid hq
                go_wp2_with (go_at_call 52; refine (within_any _ _ _ _).mono ?_; rintro e w1 ⟨rfl, rfl⟩)
                go_ret
                exact Ans.bool (by rw [HE.out, allB_no hlt (by rw [allB_no hlt2 HQ.out]; simp)]) (Below.refl _ _)
            · have e : j = R k := by omega
              subst e
              have HQ := Lib.hid (show ((R k == n) && allB (fun j => inB (F k j) 0 2100000) (R k)) = true by rw [HB.out, HQ1.out]; simp)
              go_wp2_with fail
              go_round
              case rel => exact ⟨k + 1, by omega, by go_num, allB_succ HA.out HQ.out⟩
              case measure => simp [intOf]; omega
        · have hdec : ((R k : Int) != (n : Int)) = true := by simp; omega
          have HQ := Lib.hid (show ((R k == n) && allB (fun j => inB (F k j) 0 2100000) (R k)) = false by simp [hq1])
          clear hq1
          go_wp2_with fail
          go_ret
          exact Ans.bool (by rw [HE.out, allB_no hlt HQ.out]) (Below.refl _ _)
      · have e : k = n := by omega
        subst e
        have HB := Lib.hid (show allB (fun i => (R i == k) && allB (fun j => inB (F i j) 0 2100000) (R i)) k = true from HA.out)
        go_wp2_with fail
        go_ret
        exact Ans.bool (by rw [HE.out, HB.out]) (Below.refl _ _)
end Go.Proofs.Ytadlemadnifohaa
