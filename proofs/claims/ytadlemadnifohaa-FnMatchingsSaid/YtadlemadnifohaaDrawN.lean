/-
  A list of rows of numbers in memory of its own that a cursor's draws may stand beside.
-/
import Derived.Test.YtadlemadnifohaaRows
import Derived.Test.YtadlemadnifohaaBase
import Derived.Test.YtadlemadnifohaaSpot
import Derived.Test.YtadlemadnifohaaSlice
import Derived.Test.YtadlemadnifohaaLawS
import Derived.Test.YtadlemadnifohaaMark
import Derived.Test.YtadlemadnifohaaInts
import Derived.Test.YtadlemadnifohaaIntsL
import Derived.Test.YtadlemadnifohaaTurned
import Derived.Test.YtadlemadnifohaaTrans
import Derived.BigQuiet
import Derived.Test.YtadlemadnifohaaCur
import Derived.Test.YtadlemadnifohaaDrawP
import Derived.Test.YtadlemadnifohaaCopyI
import Derived.Test.YtadlemadnifohaaRowsI
import Derived.Test.YtadlemadnifohaaCosts
import Derived.Test.YtadlemadnifohaaRowB
namespace Go.Proofs.Ytadlemadnifohaa
open Go.RowKit

theorem Turned.grown {w w' : World} {p : Nat} (h : Turned p (p + 1) w w') : w.grownBy w' (some p) := ⟨h.os, h.tape, h.output, h.size, fun k hk hne => h.block k hk (by have : k ≠ p := fun e => hne (by rw [e]); omega)⟩
theorem OwnN.kept {base : Nat} {w w' : World} {v : Value} {n : Nat} {X : Nat → Int} (h : OwnN base w v n X) {row : Option Nat} (hg : w.grownBy w' row) (hr : ∀ k, row = some k → v.ownBlock ≠ some k) : OwnN base w' v n X :=
  World.ownsRow.kept h hg (by
    cases hv : v.ownBlock with
    | none => exact .inl rfl
    | some k => exact .inr (fun e => hr k e.symm hv))
theorem OwnN.turn {base : Nat} {w w' : World} {v : Value} {n : Nat} {X : Nat → Int} (h : OwnN base w v n X) {p : Nat} (ht : Turned p (p + 1) w w') (hp : p < base) : OwnN base w' v n X :=
  h.kept ht.grown (fun k hk e => by have := (World.ownsRow.lt h k e).1; injection hk with hk; omega)
theorem OwnN.cong {base : Nat} {w : World} {v : Value} {n : Nat} {X X' : Nat → Int} (h : OwnN base w v n X) (e : ∀ i, i < n → X i = X' i) : OwnN base w v n X' := by
  have : cells1 X n = cells1 X' n := by unfold cells1; exact List.map_congr_left (fun i hi => by rw [e i (by simpa using hi)])
  unfold OwnN at *
  rw [← this]; exact h
theorem OwnN.more {base base' : Nat} {w : World} {v : Value} {n : Nat} {X : Nat → Int} (h : OwnN base w v n X) (hb : base' ≤ base) : OwnN base' w v n X := by
  refine ⟨h.1, h.2.imp id fun ⟨g, cap, cur, h1, h2, h3⟩ => ⟨g, cap, cur, h1, Nat.le_trans hb h2, h3⟩⟩
/-- n rows of numbers, each in a block of its own. -/
structure OwnBL (base : Nat) (w : World) (q : Value) (n : Nat) (R : Nat → Nat) (F : Nat → Nat → Int) (L : Nat → Value) : Prop where
  head : w.ownsRow base 25 1 q n (cellsV L n)
  rows : ∀ i, i < n → OwnN base w (L i) (R i) (F i)
  apart : ∀ i, i < n → ∀ k, (L i).ownBlock = some k → q.ownBlock ≠ some k
  each : ∀ i j, i < n → j < n → i ≠ j → ∀ k, (L i).ownBlock = some k → (L j).ownBlock ≠ some k
section
variable {base : Nat} {w w' : World} {q : Value} {n : Nat} {R : Nat → Nat} {F : Nat → Nat → Int} {L : Nat → Value}
theorem OwnBL.lt (h : OwnBL base w q n R F L) : (∀ k, q.ownBlock = some k → base ≤ k ∧ k < w.heap.size) ∧ ∀ i, i < n → ∀ k, (L i).ownBlock = some k → base ≤ k ∧ k < w.heap.size :=
  ⟨fun k hk => World.ownsRow.lt h.head k hk, fun i hi k hk => World.ownsRow.lt (h.rows i hi) k hk⟩
theorem OwnBL.kept (h : OwnBL base w q n R F L) {row : Option Nat} (hg : w.grownBy w' row) (hr : ∀ k, row = some k → k < base) : OwnBL base w' q n R F L := by
  refine ⟨World.ownsRow.kept h.head hg ?_, fun i hi => (h.rows i hi).kept hg (fun k hk e => ?_), h.apart, h.each⟩
  · cases hv : q.ownBlock with
    | none => exact .inl rfl
    | some k => exact .inr (fun e => by have := hr k e.symm; have := (h.lt.1 k hv).1; omega)
  · have := hr k hk; have := (h.lt.2 i hi k e).1; omega
theorem OwnBL.turn (h : OwnBL base w q n R F L) {p : Nat} (ht : Turned p (p + 1) w w') (hp : p < base) : OwnBL base w' q n R F L :=
  h.kept ht.grown (fun k hk => by injection hk with hk; omega)
theorem OwnBL.up (h : OwnBL base w q n R F L) (hb : Below w.heap.size w w') : OwnBL base w' q n R F L :=
  h.kept (row := none) ⟨hb.os, hb.tape, hb.output, hb.size, fun k hk _ => hb.block k hk⟩ (fun k hk => by cases hk)
theorem OwnBL.nil (base : Nat) (w : World) (R : Nat → Nat) (F : Nat → Nat → Int) (L : Nat → Value) : OwnBL base w (.slice none 0 0) 0 R F L :=
  ⟨World.ownsRow_nil _ _ _ _, fun i hi => absurd hi (by omega), fun i hi => absurd hi (by omega), fun i j hi => absurd hi (by omega)⟩
theorem OwnBL.irows (h : OwnBL base w q n R F L) : IRows w q n R F := by
  have h10 := h.head
  rcases h.head.2 with ⟨rfl, h0⟩ | ⟨g, cap, cur, rfl, hb, hg, hnc, _⟩
  · subst h0
    exact OwnRw.nil.rows (base := 0)
  · refine ⟨_, _, L, rfl, hnc, fun hn => ⟨g, 0, rfl, fun i hi => ?_⟩, fun i hi => (h.rows i hi).ownI.ints⟩
    rw [Nat.zero_add]
    have := World.ownsRow.cellAt h10 i (by omega)
    rw [this]
    exact cellsV_get L n i hi
theorem OwnBL.shape (h : OwnBL base w q n R F L) : ∃ A c, q = .slice A n c ∧ n ≤ c := by
  rcases h.head.2 with ⟨rfl, rfl⟩ | ⟨g, cap, cur, rfl, hb, hg, hnc, hm, _⟩
  · exact ⟨none, 0, rfl, Nat.le_refl _⟩
  · exact ⟨_, _, rfl, hnc⟩
/-- The I-th row, and what is left where it alone is turned. -/
theorem OwnBL.row (h : OwnBL base w q n R F L) {I : Nat} (hI : I < n) : ∃ g c, q = .slice (some ⟨g, 0, none⟩) n c ∧ w.cell? ⟨g, I, none⟩ = some (L I) ∧ Free w g ∧ base ≤ g ∧ g < w.heap.size ∧ OwnN base w (L I) (R I) (F I) := by
  have h10 := h.head
  rcases h.head.2 with ⟨rfl, h0⟩ | ⟨g, cap, cur, rfl, hb, hg, hnc, _⟩
  · omega
  · refine ⟨g, cap, rfl, ?_, fun o => World.ownsRow.frozenAt h10 o, hb, (h.lt.1 g rfl).2, h.rows I hI⟩
    have := World.ownsRow.cellAt h10 I (by omega)
    rw [this]
    exact cellsV_get L n I hI
/-- The I-th row's memory turned; the others as before. -/
theorem OwnBL.change (h : OwnBL base w q n R F L) {I : Nat} (hI : I < n) {row : Option Nat} (hg : w.grownBy w' row) (hr : ∀ k, row = some k → (L I).ownBlock = some k) {X : Nat → Int} (hx : OwnN base w' (L I) (R I) X) :
    OwnBL base w' q n R (fun i => if i = I then X else F i) L := by
  refine ⟨World.ownsRow.kept h.head hg ?_, fun i hi => ?_, h.apart, h.each⟩
  · cases hv : q.ownBlock with
    | none => exact .inl rfl
    | some k => exact .inr (fun e => h.apart I hI k (hr k e.symm) hv)
  · by_cases e : i = I
    · subst e; simp only [if_true]; exact hx
    · simp only [if_neg e]
      exact (h.rows i hi).kept hg (fun k hk e' => h.each I i hI hi (Ne.symm e) k (hr k hk) e')
/-- Another row laid in the I-th place. -/
theorem OwnBL.lay (h : OwnBL base w q n R F L) {I : Nat} (hI : I < n) {g c : Nat} (hq : q = .slice (some ⟨g, 0, none⟩) n c) {row : Option Nat} (hg : w.grownBy w' row) (hr : ∀ k, row = some k → (L I).ownBlock = some k)
    {v : Value} {r : Nat} {X : Nat → Int} (hx : OwnN base w' v r X) (hv : v.ownBlock = (L I).ownBlock ∨ v.ownBlock = some w.heap.size) :
    ∃ L' F', OwnBL base (w'.setCell ⟨g, I, none⟩ v) q n (fun i => if i = I then r else R i) F' L' := by
  subst hq
  have hq1 : w'.ownsRow base 25 1 (.slice (some ⟨g, 0, none⟩) n c) n (cellsV L n) := World.ownsRow.kept h.head hg (.inr (fun e => h.apart I hI g (hr g e.symm) rfl))
  obtain ⟨s1, s2⟩ := World.ownsRow.stored hq1 I v
  have hvg : v.ownBlock ≠ some g := by
    rcases hv with e | e
    · rw [e]; exact fun e' => h.apart I hI g e' rfl
    · rw [e]; have := (h.lt.1 g rfl).2; simp; omega
  have hot : ∀ i, i < n → i ≠ I → ∀ k, (L i).ownBlock = some k → v.ownBlock ≠ some k := fun i hi e k hk => by
    rcases hv with e' | e'
    · rw [e']; exact fun e2 => h.each i I hi hI e k hk e2
    · rw [e']; have := (h.lt.2 i hi k hk).2; simp; omega
  refine ⟨fun i => if i = I then v else L i, fun i => if i = I then X else F i, ?_, fun i hi => ?_, fun i hi k hk => ?_, fun i j hi hj hij k hk => ?_⟩
  · have : (cellsV L n).set I v = cellsV (fun i => if i = I then v else L i) n := by
      apply List.ext_getElem?
      intro i
      rw [List.getElem?_set]
      by_cases e : I = i
      · subst e
        rw [if_pos rfl, cellsV_len, if_pos hI, cellsV_get _ _ _ hI, if_pos rfl]
      · rw [if_neg e]
        by_cases hi : i < n
        · rw [cellsV_get _ _ _ hi, cellsV_get _ _ _ hi, if_neg (Ne.symm e)]
        · rw [List.getElem?_eq_none (by rw [cellsV_len]; omega), List.getElem?_eq_none (by rw [cellsV_len]; omega)]
    rw [← this]; exact s1
  · by_cases e : i = I
    · subst e
      simp only [if_true]
      exact hx.kept s2 (fun k hk e => by injection hk with hk; subst hk; exact hvg e)
    · simp only [if_neg e]
      exact ((h.rows i hi).kept hg (fun k hk e' => h.each I i hI hi (Ne.symm e) k (hr k hk) e')).kept s2 (fun k hk e' => by injection hk with hk; subst hk; exact h.apart i hi _ e' rfl)
  · by_cases e : i = I
    · subst e
      simp only [if_true] at hk
      intro e2
      have : g = k := by simpa [Value.ownBlock] using e2
      subst this
      exact hvg hk
    · simp only [if_neg e] at hk
      exact h.apart i hi k hk
  · by_cases e : i = I
    · subst e
      simp only [if_true] at hk
      simp only [if_neg (Ne.symm hij)]
      intro e2
      exact hot j hj (Ne.symm hij) k e2 hk
    · simp only [if_neg e] at hk
      by_cases e2 : j = I
      · subst e2
        simp only [if_true]
        exact hot i hi e k hk
      · simp only [if_neg e2]
        exact h.each i j hi hj hij k hk
end
set_option maxRecDepth 100000 in
/-- 'append(out, row)', the row made since the world wa; beside it only the cursor has turned. -/
theorem run_app_rowN {wa w : World} (ty : TypeId) (base : Nat) (q : Value) (n : Nat) (R : Nat → Nat) (F : Nat → Nat → Int) (L : Nat → Value) {g p r : Nat} {X : Nat → Int} {rv : Value} (hc0 : w.cell? ⟨g, 0, none⟩ = some rv)
    (hown : OwnBL base wa q n R F L) (hbase : base ≤ wa.heap.size) (ht : Turned p (p + 1) wa w) (hp : p < base) (hrv : OwnN wa.heap.size w rv r X) (hn : n ≤ 1048576) :
    ∃ v' w', (Builtin.append_ #[23, 23] ty #[q, .slice (some ⟨g, 0, none⟩) 1 1]).run Try.prog w = .ok v' w' ∧
      OwnBL base w' v' (n + 1) (fun i => if i = n then r else R i) (fun i => if i = n then X else F i) (fun i => if i = n then rv else L i) ∧ Below base w w' := by
  have hl := hown.lt
  have how := hown.turn ht hp
  have hs := ht.size
  obtain ⟨A1, c1, e1, _⟩ := hrv.shape
  obtain ⟨i0, hi0, hz0, hz1, hz2⟩ := info_parts info_rowB
  obtain ⟨v', w', hr, k1, k2, _, k5⟩ := run_append_own_at (P := Try.prog) w base 23 ty 25 i0 _ 1 24 Try.underlying23 hi0 hz0 hz1 hz2 rfl (by omega) q n _ how.head ⟨g, 0, none⟩ 1 1
    [rv] rfl (by
      intro j u hu
      rw [add_none, Nat.zero_add]
      match j, hu with
      | 0, hu => simp only [List.getElem?_cons_zero, Option.some.injEq] at hu; subst hu; exact hc0) (by
      intro u hu
      simp only [List.mem_cons, List.not_mem_nil, or_false] at hu
      rcases hu with rfl; rw [e1]; rfl) (by unfold maxLen; omega) (by omega) (by omega)
  have hsz := k2.size
  have rvb : ∀ k, rv.ownBlock = some k → wa.heap.size ≤ k ∧ k < w.heap.size := fun k hk => World.ownsRow.lt hrv k hk
  have hv' : ∀ k, v'.ownBlock = some k → k < wa.heap.size ∨ k = w.heap.size := fun k hk => by
    rcases k5 with e | e
    · rw [e] at hk; exact .inl (hl.1 k hk).2
    · rw [e] at hk; injection hk with hk; exact .inr hk.symm
  refine ⟨v', w', hr, ⟨?_, fun i hi => ?_, fun i hi k hk e' => ?_, fun i j hi hj hij k hk => ?_⟩, below_grown k2 (by omega) (fun k hk => (hl.1 k hk).1)⟩
  · rw [cellsV_succ, cellsV_cong n (L' := L) (fun i hi => if_neg (by omega)), if_pos rfl]
    exact k1
  · by_cases e : i = n
    · subst e
      simp only [if_true]
      exact (hrv.kept k2 (fun k hk e => by have := (hl.1 k hk).2; have := (rvb k e).1; omega)).more hbase
    · simp only [if_neg e]
      exact (how.rows i (by omega)).kept k2 (fun k hk e' => how.apart i (by omega) k e' hk)
  · by_cases e : i = n
    · subst e
      simp only [if_true] at hk
      have := rvb k hk
      have := hv' k e'
      omega
    · simp only [if_neg e] at hk
      rcases k5 with e2 | e2
      · rw [e2] at e'; exact how.apart i (by omega) k hk e'
      · rw [e2] at e'; injection e' with e'; have := (hl.2 i (by omega) k hk).2; omega
  · by_cases e : i = n
    · subst e
      simp only [if_true] at hk
      simp only [if_neg (Ne.symm hij)]
      intro e2
      have := rvb k hk
      have := (hl.2 j (by omega) k e2).2
      omega
    · simp only [if_neg e] at hk
      by_cases e2 : j = n
      · subst e2
        simp only [if_true]
        intro e3
        have := rvb k e3
        have := (hl.2 i (by omega) k hk).2
        omega
      · simp only [if_neg e2]
        exact how.each i j (by omega) (by omega) hij k hk
theorem wpList_app_rowN {ops : Array Oper} {rest : List Oper} {o : Oper} {a : Act} {Q : Exit → Act → World → Prop} {wa w : World} (hgd : o.guard = none) (s x : Operand)
    (ho : o.op = .call { callee := .builtin .append, args := #[s, x], argTypes := #[23, 23] })
    (base : Nat) (q : Value) (n : Nat) (R : Nat → Nat) (F : Nat → Nat → Int) (L : Nat → Value) {g p r : Nat} {X : Nat → Int} {rv : Value} (hs : a.eval s = q) (hx : a.eval x = .slice (some ⟨g, 0, none⟩) 1 1) (hc0 : w.cell? ⟨g, 0, none⟩ = some rv)
    (hown : OwnBL base wa q n R F L) (hbase : base ≤ wa.heap.size) (ht : Turned p (p + 1) wa w) (hp : p < base) (hrv : OwnN wa.heap.size w rv r X) (hn : n ≤ 1048576)
    (h : ∀ v' w', OwnBL base w' v' (n + 1) (fun i => if i = n then r else R i) (fun i => if i = n then X else F i) (fun i => if i = n then rv else L i) → Below base w w' → wpList Try.prog ops Q rest (a.put o.dst v') w') : wpList Try.prog ops Q (o :: rest) a w := by
  obtain ⟨v', w', hr, h1, h2⟩ := run_app_rowN o.type base q n R F L hc0 hown hbase ht hp hrv hn
  refine wpList_plain hgd fun _ hK => ?_
  unfold Oper.wp execOp
  simp only [ho, resolve, invoke, builtin, Sem.run_bind, Sem.run_pure, Result.andThen_ok, List.map_toArray, List.map_cons, List.map_nil, hs, hx, hr]
  exact hK _ _ (h v' w' h1 h2)
end Go.Proofs.Ytadlemadnifohaa
