/-
  The reading of texts, in plain words: both sides' answers are one.
-/
import Derived.Test.YtbfhfjpfjkdcfaaDoorRows
import Derived.Test.YtbfhfjpfjkdcfaaDoorBase
import Derived.Test.YtbfhfjpfjkdcfaaDoorSpot
import Derived.Test.YtbfhfjpfjkdcfaaDoorSlice
import Derived.Test.YtbfhfjpfjkdcfaaDoorChart
import Derived.Test.YtbfhfjpfjkdcfaaDoorTxtP
namespace Go.Proofs.YtbfhfjpfjkdcfaaDoor

/-! ### Where a byte stands first -/
def cut1 (b : UInt8) : List UInt8 → Option (List UInt8 × List UInt8)
  | [] => none
  | c :: l => if c = b then some ([], l) else (cut1 b l).map fun x => (c :: x.1, x.2)
theorem cut1_none {b : UInt8} : ∀ {l : List UInt8}, cut1 b l = none ↔ b ∉ l
  | [] => by simp [cut1]
  | c :: l => by
    by_cases h : c = b
    · simp [cut1, h]
    · simp [cut1, h, cut1_none (l := l), Ne.symm h]
theorem cut1_some {b : UInt8} : ∀ {l p q : List UInt8}, cut1 b l = some (p, q) ↔ l = p ++ b :: q ∧ b ∉ p
  | [], p, q => by simp [cut1]
  | c :: l, p, q => by
    by_cases h : c = b
    · subst h
      simp only [cut1, if_true, Option.some.injEq, Prod.mk.injEq]
      constructor
      · rintro ⟨rfl, rfl⟩; simp
      · rintro ⟨h1, h2⟩
        cases p with
        | nil => simpa using h1
        | cons d p => exact absurd (by simp at h1; simp [h1.1]) h2
    · simp only [cut1, if_neg h, Option.map_eq_some_iff, Prod.mk.injEq]
      constructor
      · rintro ⟨⟨p', q'⟩, h1, rfl, rfl⟩
        obtain ⟨h2, h3⟩ := cut1_some.1 h1
        exact ⟨by simp [h2], by simp [h3, Ne.symm h]⟩
      · rintro ⟨h1, h2⟩
        cases p with
        | nil => simp at h1; exact absurd h1.1 h
        | cons d p =>
          simp at h1
          obtain ⟨rfl, h4⟩ := h1
          exact ⟨(p, q), cut1_some.2 ⟨h4, by simp at h2; exact h2.2⟩, rfl, rfl⟩

/-! ### The pieces between a byte -/
def splitL (b : UInt8) : List UInt8 → List (List UInt8)
  | [] => [[]]
  | c :: l => if c = b then [] :: splitL b l else match splitL b l with
    | [] => [[c]]
    | h :: t => (c :: h) :: t
theorem splitL_cons (b c : UInt8) (l : List UInt8) : splitL b (c :: l) = if c = b then [] :: splitL b l else match splitL b l with
    | [] => [[c]]
    | h :: t => (c :: h) :: t := rfl
theorem splitL_ne (b : UInt8) : ∀ l : List UInt8, splitL b l ≠ []
  | [] => by simp [splitL]
  | c :: l => by
    unfold splitL
    split
    · simp
    · split <;> simp
theorem splitL_hit {b : UInt8} {q : List UInt8} : ∀ {p : List UInt8}, b ∉ p → splitL b (p ++ b :: q) = p :: splitL b q
  | [], _ => by simp [splitL]
  | c :: p, h => by
    simp at h
    have := splitL_hit (q := q) (p := p) h.2
    rw [List.cons_append, splitL_cons, if_neg (Ne.symm h.1), this]
theorem splitL_miss {b : UInt8} : ∀ {l : List UInt8}, b ∉ l → splitL b l = [l]
  | [], _ => rfl
  | c :: l, h => by
    simp at h
    unfold splitL
    rw [if_neg (Ne.symm h.1), splitL_miss h.2]
theorem splitL_end (b : UInt8) : ∀ l : List UInt8, splitL b (l ++ [b]) = splitL b l ++ [[]]
  | [] => by simp [splitL]
  | c :: l => by
    have ih := splitL_end b l
    rw [List.cons_append, splitL_cons, splitL_cons]
    by_cases h : c = b
    · rw [if_pos h, if_pos h, ih]; rfl
    · rw [if_neg h, if_neg h, ih]
      cases hs : splitL b l with
      | nil => exact absurd hs (splitL_ne b l)
      | cons x t => rfl
theorem splitL_join (b : UInt8) : ∀ l : List UInt8, ((splitL b l).map (· ++ [b])).flatten = l ++ [b]
  | [] => by simp [splitL]
  | c :: l => by
    have ih := splitL_join b l
    unfold splitL
    by_cases h : c = b
    · rw [if_pos h]; simp [ih, h]
    · rw [if_neg h]
      cases hs : splitL b l with
      | nil => exact absurd hs (splitL_ne b l)
      | cons x t => rw [hs] at ih; simp at ih ⊢; exact ih

/-! ### Decimal numbers -/
def isDig (c : UInt8) : Bool := decide (48 ≤ c.toNat) && decide (c.toNat ≤ 57)
def valL (l : List UInt8) : Nat := l.foldl (fun n c => 10 * n + (c.toNat - 48)) 0
def natB (m : Nat) (l : List UInt8) : Option Nat := if (1 ≤ l.length ∧ l.length ≤ m) ∧ ¬ (1 < l.length ∧ l.head? = some 48) ∧ l.all isDig = true then some (valL l) else none
theorem valL_snoc (l : List UInt8) (c : UInt8) : valL (l ++ [c]) = 10 * valL l + (c.toNat - 48) := by simp [valL]
theorem ofNat_toNat (c : UInt8) : UInt8.ofNat c.toNat = c := by simp
theorem dig_of (r : Nat) (h : r < 10) : (UInt8.ofNat (48 + r)).toNat = 48 + r := by
  rw [UInt8.toNat_ofNat', Nat.mod_eq_of_lt (by omega)]
theorem valL_lt : ∀ (k : Nat) (l : List UInt8), l.length = k → l.all isDig = true → valL l < 10 ^ k
  | 0, l, hk, _ => by
    have : l = [] := List.length_eq_zero_iff.1 hk
    subst this; simp [valL]
  | k + 1, l, hk, hd => by
    rcases List.eq_nil_or_concat l with rfl | ⟨t, c, rfl⟩
    · simp at hk
    · simp only [List.concat_eq_append] at hk hd ⊢
      rw [valL_snoc]
      simp [isDig] at hk hd
      have := valL_lt k t hk (by simp [List.all_eq_true, isDig]; exact hd.1)
      rw [Nat.pow_succ]
      omega
theorem dec_val : ∀ (k : Nat) (l : List UInt8), l.length = k → 1 ≤ k → ¬ (1 < l.length ∧ l.head? = some 48) → l.all isDig = true → l = Lib.decDigits (valL l)
  | 0, _, _, h, _, _ => by omega
  | k + 1, l, hk, _, hz, hd => by
    rcases List.eq_nil_or_concat l with rfl | ⟨t, c, rfl⟩
    · simp at hk
    · simp only [List.concat_eq_append] at hk hd hz ⊢
      have hc : 48 ≤ c.toNat ∧ c.toNat ≤ 57 := by simp [isDig] at hd; exact hd.2
      have ht : t.all isDig = true := by simp [isDig] at hd; simp [List.all_eq_true, isDig]; exact hd.1
      have hkt : t.length = k := by simpa using hk
      rw [valL_snoc]
      have hcc : UInt8.ofNat (48 + (c.toNat - 48)) = c := by rw [show 48 + (c.toNat - 48) = c.toNat by omega, ofNat_toNat]
      by_cases h0 : k = 0
      · have : t = [] := List.length_eq_zero_iff.1 (by omega)
        subst this
        rw [show 10 * valL [] + (c.toNat - 48) = c.toNat - 48 by simp [valL], Lib.decDigits_one (by omega), hcc]
        rfl
      · cases t with
        | nil => simp at hkt; omega
        | cons d t =>
          have hz' : ¬ (1 < (d :: t).length ∧ (d :: t).head? = some 48) := by
            intro h; exact hz ⟨by simp, by simpa using h.2⟩
          have hd48 : d ≠ 48 := by
            intro h; subst h; exact hz ⟨by simp, by simp⟩
          have ih := dec_val k (d :: t) hkt (by omega) hz' ht
          have hpos : 1 ≤ valL (d :: t) := by
            rcases Nat.eq_zero_or_pos (valL (d :: t)) with h | h
            · rw [h, Lib.decDigits_one (by omega)] at ih
              simp at ih
              exact absurd ih.1 hd48
            · exact h
          rw [dec_step (n := 10 * valL (d :: t) + (c.toNat - 48)) (by omega), show (10 * valL (d :: t) + (c.toNat - 48)) / 10 = valL (d :: t) by omega, show (10 * valL (d :: t) + (c.toNat - 48)) % 10 = c.toNat - 48 by omega, hcc, ← ih]
theorem natB_dec {m n : Nat} {l : List UInt8} (h : natB m l = some n) : l = Lib.decDigits n ∧ n < 10 ^ m := by
  unfold natB at h
  split at h
  · rename_i hc
    obtain ⟨⟨h1, h2⟩, h3, h4⟩ := hc
    obtain rfl := Option.some.inj h
    exact ⟨dec_val _ l rfl h1 h3 h4, Nat.lt_of_lt_of_le (valL_lt _ l rfl h4) (Nat.pow_le_pow_right (by omega) h2)⟩
  · cases h
/-- A number's digits are digits, without a nought ahead, and give the number. -/
theorem dec_ok (n : Nat) : (Lib.decDigits n).all isDig = true ∧ valL (Lib.decDigits n) = n ∧ 1 ≤ (Lib.decDigits n).length ∧ ((Lib.decDigits n).head? = some 48 → n = 0) := by
  induction n using Nat.strongRecOn with
  | ind n ih =>
    by_cases h : n < 10
    · rw [Lib.decDigits_one h]
      have := dig_of n h
      generalize UInt8.ofNat (48 + n) = d at this
      refine ⟨by simp [isDig, this]; omega, by simp [valL, this], by simp, fun h0 => ?_⟩
      simp at h0
      subst h0
      have h2 : (48 : UInt8).toNat = 48 := rfl
      omega
    · rw [dec_step h]
      obtain ⟨i1, i2, i3, i4⟩ := ih (n / 10) (by omega)
      have := dig_of (n % 10) (by omega)
      generalize UInt8.ofNat (48 + n % 10) = d at this
      refine ⟨?_, ?_, by simp, fun h0 => ?_⟩
      · simp only [List.all_append, i1, Bool.true_and]
        simp [isDig, this]; omega
      · rw [valL_snoc, i2, this]; omega
      · have : (Lib.decDigits (n / 10)).head? = some 48 := by
          cases hd : Lib.decDigits (n / 10) with
          | nil => rw [hd] at i3; simp at i3
          | cons a t => rw [hd] at h0; simpa using h0
        have := i4 this
        omega
theorem natB_of {m n : Nat} (hn : n ≤ 999) (hm : 3 ≤ m) : natB m (Lib.decDigits n) = some n := by
  obtain ⟨h1, h2, h3, h4⟩ := dec_ok n
  have h5 := dec_len hn
  unfold natB
  rw [if_pos ⟨⟨h3, by omega⟩, fun ⟨a, b⟩ => by
    have h0 := h4 b
    subst h0
    rw [Lib.decDigits_one (by omega)] at a
    simp at a, h1⟩, h2]
theorem dig_ne {l : List UInt8} (h : l.all isDig = true) {b : UInt8} (hb : isDig b = false) : b ∉ l := fun hm => by
  have := List.all_eq_true.1 h b hm
  rw [hb] at this
  cases this
theorem dec_ne (n : Nat) {b : UInt8} (hb : isDig b = false) : b ∉ Lib.decDigits n := dig_ne (dec_ok n).1 hb

/-! ### Steps, spots -/
def rdL (m : Nat) (l : List UInt8) : Option Nat := match cut1 43 l with
  | none => (natB m l).map (8 * ·)
  | some (p, q) => match natB m p, natB m q with
    | some n, some k => if 1 ≤ k ∧ k ≤ 7 then some (8 * n + k) else none
    | _, _ => none
theorem rdL_stp {m n : Nat} {l : List UInt8} (h : rdL m l = some n) : l = stpL n ∧ n < 8 * 10 ^ m := by
  unfold rdL at h
  cases hc : cut1 43 l with
  | none =>
    rw [hc] at h
    obtain ⟨k, hk, rfl⟩ := Option.map_eq_some_iff.1 h
    obtain ⟨h1, h2⟩ := natB_dec hk
    refine ⟨?_, by omega⟩
    unfold stpL
    rw [if_pos (by omega), show 8 * k / 8 = k by omega]
    exact h1
  | some x =>
    obtain ⟨p, q⟩ := x
    rw [hc] at h
    obtain ⟨h3, _⟩ := cut1_some.1 hc
    simp only at h
    cases hp : natB m p with
    | none => rw [hp] at h; simp at h
    | some a =>
      cases hq : natB m q with
      | none => rw [hp, hq] at h; simp at h
      | some k =>
        rw [hp, hq] at h
        simp only at h
        split at h
        · rename_i hk
          obtain rfl := Option.some.inj h
          obtain ⟨a1, a2⟩ := natB_dec hp
          obtain ⟨q1, _⟩ := natB_dec hq
          refine ⟨?_, by omega⟩
          unfold stpL
          rw [if_neg (by omega), show (8 * a + k) / 8 = a by omega, show (8 * a + k) % 8 = k by omega, ← a1, ← q1]
          exact h3
        · cases h
theorem rdL_of {m n : Nat} (hn : n ≤ 1280) (hm : 3 ≤ m) : rdL m (stpL n) = some n := by
  have hd : isDig 43 = false := by decide
  unfold rdL stpL
  by_cases h : n % 8 = 0
  · rw [if_pos h, cut1_none.2 (dec_ne _ hd)]
    simp only
    rw [natB_of (by omega) hm]
    simp; omega
  · rw [if_neg h, cut1_some.2 ⟨rfl, dec_ne _ hd⟩]
    simp only
    rw [natB_of (by omega) hm, natB_of (by omega) hm]
    simp only
    rw [if_pos (by omega)]
    congr 1; omega
theorem stp_ne {n : Nat} {b : UInt8} (hb : isDig b = false) (h43 : b ≠ 43) : b ∉ stpL n := by
  unfold stpL
  split
  · exact dec_ne _ hb
  · simp only [List.mem_append, List.mem_cons, not_or]
    exact ⟨dec_ne _ hb, h43, dec_ne _ hb⟩
def spP (m : Nat) (l : List UInt8) : Option (Nat × Nat) := match cut1 44 l with
  | none => none
  | some (p, q) => match rdL m p, rdL m q with
    | some x, some y => if x ≤ 1280 ∧ y ≤ 672 then some (x, y) else none
    | _, _ => none
theorem spP_iff {m x y : Nat} {l : List UInt8} (hm : 3 ≤ m) : spP m l = some (x, y) ↔ (x ≤ 1280 ∧ y ≤ 672) ∧ l = spL x y := by
  have hd : (44 : UInt8) ∉ stpL x := stp_ne (by decide) (by decide)
  constructor
  · intro h
    unfold spP at h
    cases hc : cut1 44 l with
    | none => rw [hc] at h; cases h
    | some z =>
      obtain ⟨p, q⟩ := z
      rw [hc] at h
      obtain ⟨h3, _⟩ := cut1_some.1 hc
      simp only at h
      cases hp : rdL m p with
      | none => rw [hp] at h; simp at h
      | some a =>
        cases hq : rdL m q with
        | none => rw [hp, hq] at h; simp at h
        | some k =>
          rw [hp, hq] at h
          simp only at h
          split at h
          · rename_i hk
            obtain ⟨rfl, rfl⟩ := Prod.mk.inj (Option.some.inj h)
            refine ⟨hk, ?_⟩
            unfold spL
            rw [← (rdL_stp hp).1, ← (rdL_stp hq).1]
            exact h3
          · cases h
  · rintro ⟨⟨hx, hy⟩, rfl⟩
    unfold spP spL
    rw [cut1_some.2 ⟨rfl, hd⟩]
    simp only
    rw [rdL_of hx hm, rdL_of (by omega) hm]
    simp [hx, hy]
theorem spP_same {m m' : Nat} (hm : 3 ≤ m) (hm' : 3 ≤ m') (l : List UInt8) : spP m l = spP m' l := by
  cases h : spP m l with
  | some z => exact ((spP_iff (x := z.1) (y := z.2) hm').2 ((spP_iff hm).1 h)).symm
  | none =>
    cases h' : spP m' l with
    | some z => rw [(spP_iff (x := z.1) (y := z.2) hm).2 ((spP_iff hm').1 h')] at h; cases h
    | none => rfl

/-! ### Charts -/
def xO (o : List (Nat × Nat)) (i : Nat) : Int := ((o.getD i (0, 0)).1 : Int)
def yO (o : List (Nat × Nat)) (i : Nat) : Int := ((o.getD i (0, 0)).2 : Int)
def goodO (o : List (Nat × Nat)) : Bool := chartB o.length (xO o) (yO o)
def textO (o : List (Nat × Nat)) : List UInt8 := txL (xO o) (yO o) o.length
def allP (m : Nat) : List (List UInt8) → Option (List (Nat × Nat))
  | [] => some []
  | l :: t => match spP m l with
    | none => none
    | some a => (allP m t).map (a :: ·)
def specR (l : List UInt8) : Option (List (Nat × Nat)) := if 13 < (splitL 10 l).length then none else match allP 6 (splitL 10 l).dropLast with
  | none => none
  | some o => if goodO o = true ∧ textO o = l then some o else none
def linesR (l : List UInt8) : Option (List (List UInt8)) := if l = [] then some [] else if l.getLast? = some 10 then some (splitL 10 l.dropLast) else none
def implR (l : List UInt8) : Option (List (Nat × Nat)) := match linesR l with
  | none => none
  | some ls => if 12 < ls.length then none else match allP 9 ls with
    | none => none
    | some o => if goodO o = true then some o else none
theorem allP_same {m m' : Nat} (hm : 3 ≤ m) (hm' : 3 ≤ m') : ∀ ls : List (List UInt8), allP m ls = allP m' ls
  | [] => rfl
  | l :: t => by unfold allP; rw [spP_same hm hm' l, allP_same hm hm' t]
theorem txL_cong {X Y X' Y' : Nat → Int} : ∀ {n : Nat}, (∀ i, i < n → X i = X' i) → (∀ i, i < n → Y i = Y' i) → txL X Y n = txL X' Y' n
  | 0, _, _ => rfl
  | n + 1, hx, hy => by
    unfold txL
    rw [txL_cong (n := n) (fun i hi => hx i (by omega)) (fun i hi => hy i (by omega)), hx n (by omega), hy n (by omega)]
theorem txL_front (X Y : Nat → Int) : ∀ n : Nat, txL X Y (n + 1) = spL (X 0).toNat (Y 0).toNat ++ [10] ++ txL (fun i => X (i + 1)) (fun i => Y (i + 1)) n
  | 0 => by simp [txL]
  | n + 1 => by
    have ih := txL_front X Y n
    rw [txL, ih, txL]
    simp
theorem textO_cons (a : Nat × Nat) (o : List (Nat × Nat)) : textO (a :: o) = spL a.1 a.2 ++ [10] ++ textO o := by
  unfold textO
  rw [List.length_cons, txL_front]
  congr 1
theorem textO_all {m : Nat} (hm : 3 ≤ m) : ∀ {ls : List (List UInt8)} {o : List (Nat × Nat)}, allP m ls = some o → textO o = (ls.map (· ++ [10])).flatten
  | [], o, h => by
    obtain rfl := Option.some.inj h
    rfl
  | l :: t, o, h => by
    unfold allP at h
    cases hs : spP m l with
    | none => rw [hs] at h; cases h
    | some a =>
      rw [hs] at h
      simp only at h
      obtain ⟨r, hr, rfl⟩ := Option.map_eq_some_iff.1 h
      rw [textO_cons, textO_all hm hr, ← ((spP_iff (x := a.1) (y := a.2) hm).1 hs).2]
      simp
theorem allP_len {m : Nat} : ∀ {ls : List (List UInt8)} {o : List (Nat × Nat)}, allP m ls = some o → o.length = ls.length
  | [], o, h => by
    obtain rfl := Option.some.inj h
    rfl
  | l :: t, o, h => by
    unfold allP at h
    cases hs : spP m l with
    | none => rw [hs] at h; cases h
    | some a =>
      rw [hs] at h
      simp only at h
      obtain ⟨r, hr, rfl⟩ := Option.map_eq_some_iff.1 h
      simp [allP_len hr]
theorem textO_end : ∀ o : List (Nat × Nat), textO o = [] ∨ (textO o).getLast? = some 10
  | [] => .inl rfl
  | a :: o => by
    rw [textO_cons]
    rcases textO_end o with h | h
    · right; rw [h]; simp
    · right
      rw [List.getLast?_append, h]; rfl
/-- BOTH SIDES' ANSWERS ARE ONE. -/
theorem specR_implR (l : List UInt8) : specR l = implR l := by
  unfold specR implR linesR
  by_cases h0 : l = []
  · subst h0
    rw [if_pos rfl]
    simp [splitL, allP, goodO, chartB, inB]
  · rw [if_neg h0]
    by_cases h1 : l.getLast? = some 10
    · rw [if_pos h1]
      obtain ⟨t, rfl⟩ : ∃ t, l = t ++ [10] := by
        rcases List.eq_nil_or_concat l with rfl | ⟨t, c, rfl⟩
        · exact absurd rfl h0
        · simp at h1; subst h1; exact ⟨t, by simp⟩
      simp only [List.dropLast_concat]
      rw [splitL_end]
      simp only [List.dropLast_concat, List.length_append, List.length_cons, List.length_nil]
      by_cases h2 : 12 < (splitL 10 t).length
      · rw [if_pos (by omega), if_pos h2]
      · rw [if_neg (by omega), if_neg h2, allP_same (m := 6) (m' := 9) (by omega) (by omega)]
        cases ha : allP 9 (splitL 10 t) with
        | none => rfl
        | some o =>
          simp only
          have : textO o = t ++ [10] := by rw [textO_all (by omega) ha, splitL_join]
          simp [this]
    · rw [if_neg h1]
      simp only
      split
      · rfl
      · cases ha : allP 6 (splitL 10 l).dropLast with
        | none => rfl
        | some o =>
          simp only
          rw [if_neg]
          rintro ⟨_, h3⟩
          rcases textO_end o with h | h
          · exact h0 (h3.symm.trans h)
          · rw [h3] at h; exact h1 h
end Go.Proofs.YtbfhfjpfjkdcfaaDoor
