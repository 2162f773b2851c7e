/-
  Slices of spots in memory: what they read, and how that stands while memory grows or other blocks are written.
-/
import Derived.Test.YtbfhfjpfjkdcfaaDoorRows
import Derived.Test.YtbfhfjpfjkdcfaaDoorBase
namespace Go.Proofs.YtbfhfjpfjkdcfaaDoor
open Go.RowKit

theorem cell_set_same (w : World) (b o : Nat) (u v : Value) (h : w.cell? ⟨b, o, none⟩ = some u) : (w.setCell ⟨b, o, none⟩ v).cell? ⟨b, o, none⟩ = some v := by
  unfold World.cell? at h ⊢
  simp only [World.setCell, Array.getElem?_modify, if_true]
  cases hb : w.heap[b]? with
  | none => simp [hb] at h
  | some ob =>
    cases ob <;> simp [hb] at h
    rename_i cs t fr
    simp only [Option.map_some, Option.isSome_none, Bool.false_eq_true, if_false]
    have hlt : o < cs.size := by
      rcases Nat.lt_or_ge o cs.size with h' | h'
      · exact h'
      · rw [Array.getElem?_eq_none h'] at h; cases h
    simp [hlt]
theorem cell_set_ne (w : World) (b o : Nat) (v : Value) (b' o' : Nat) (h : b ≠ b' ∨ o ≠ o') : (w.setCell ⟨b, o, none⟩ v).cell? ⟨b', o', none⟩ = w.cell? ⟨b', o', none⟩ :=
  World.cell?_setCell_other w _ _ v (by intro e; injection e with e1 e2; omega)

/-- p holds of all numbers below n. -/
def allB (p : Nat → Bool) : Nat → Bool
  | 0 => true
  | n + 1 => allB p n && p n
theorem allB_iff {p : Nat → Bool} {n : Nat} : allB p n = true ↔ ∀ i, i < n → p i = true := by
  induction n with
  | zero => simp [allB]
  | succ n ih =>
    simp only [allB, Bool.and_eq_true, ih]
    constructor
    · rintro ⟨h1, h2⟩ i hi
      by_cases e : i = n
      · subst e; exact h2
      · exact h1 i (by omega)
    · intro h
      exact ⟨fun i hi => h i (by omega), h n (by omega)⟩
theorem allB_no {p : Nat → Bool} {n k : Nat} (hk : k < n) (h : p k = false) : allB p n = false := by
  cases hb : allB p n with
  | false => rfl
  | true => have := allB_iff.1 hb k hk; rw [h] at this; cases this
theorem allB_succ {p : Nat → Bool} {n : Nat} (h : allB p n = true) (h' : p n = true) : allB p (n + 1) = true := by simp [allB, h, h']
theorem allB_cong {p q : Nat → Bool} {n : Nat} (h : ∀ i, i < n → p i = q i) : allB p n = allB q n := by
  induction n with
  | zero => rfl
  | succ n ih => simp only [allB]; rw [ih (fun i hi => h i (by omega)), h n (by omega)]

/-- The first number below n of which p holds, or -1. -/
def findV (p : Nat → Bool) : Nat → Int
  | 0 => -1
  | n + 1 => if 0 ≤ findV p n then findV p n else if p n then n else -1
theorem findV_none {p : Nat → Bool} {n : Nat} (h : allB (fun i => !p i) n = true) : findV p n = -1 := by
  induction n with
  | zero => rfl
  | succ n ih =>
    simp only [allB, Bool.and_eq_true, Bool.not_eq_true'] at h
    simp only [findV]
    rw [ih h.1, h.2]; rfl
theorem findV_at {p : Nat → Bool} {n k : Nat} (h : allB (fun i => !p i) k = true) (hp : p k = true) (hk : k < n) : findV p n = k := by
  induction n with
  | zero => omega
  | succ n ih =>
    simp only [findV]
    by_cases e : k = n
    · subst e
      rw [findV_none h, if_neg (by omega), if_pos hp]
    · rw [ih (by omega), if_pos (by omega)]
/-- p holds of some number below n. -/
def hasB (p : Nat → Bool) (n : Nat) : Bool := !allB (fun i => !p i) n
theorem find_iff (p : Nat → Bool) (n : Nat) : 0 ≤ findV p n ↔ allB (fun i => !p i) n = false := by
  induction n with
  | zero => simp [findV, allB]
  | succ n ih =>
    have e : findV p (n + 1) = if 0 ≤ findV p n then findV p n else if p n then (n : Int) else -1 := rfl
    have e2 : allB (fun i => !p i) (n + 1) = (allB (fun i => !p i) n && !p n) := rfl
    rw [e, e2]
    by_cases h : 0 ≤ findV p n
    · rw [if_pos h]
      simp [ih.1 h, h]
    · rw [if_neg h]
      have : allB (fun i => !p i) n = true := by
        cases ha : allB (fun i => !p i) n with
        | true => rfl
        | false => exact absurd (ih.2 ha) h
      rw [this]
      cases hp : p n <;> simp
theorem hasB_find (p : Nat → Bool) (n : Nat) : decide (0 ≤ findV p n) = hasB p n := by
  unfold hasB
  cases ha : allB (fun i => !p i) n with
  | true => rw [findV_none ha]; rfl
  | false => simpa using (find_iff p n).2 ha
theorem hasB_iff {p : Nat → Bool} {n : Nat} : hasB p n = true ↔ ∃ i, i < n ∧ p i = true := by
  unfold hasB
  constructor
  · intro h
    have h' : ¬ allB (fun i => !p i) n = true := by simpa using h
    rw [allB_iff] at h'
    apply Classical.byContradiction
    intro hc
    apply h'
    intro i hi
    cases hp : p i with
    | false => rfl
    | true => exact absurd ⟨i, hi, hp⟩ hc
  · rintro ⟨i, hi, hp⟩
    rw [allB_no hi (by simp [hp])]; rfl
theorem cell_new2 (w : World) (u v : Value) (t : TypeId) : (w.alloc (.cells #[u, v] t)).cell? ⟨w.heap.size, 0, none⟩ = some u ∧ (w.alloc (.cells #[u, v] t)).cell? ⟨w.heap.size, 1, none⟩ = some v := by
  constructor <;> (unfold World.cell?; rw [heap_alloc_new]; rfl)

/-- The n rows of two numbers from ⟨b, o⟩ on. -/
def Row2 (w : World) (b o n : Nat) (X Y : Nat → Int) : Prop := ∀ i, i < n → w.cell? ⟨b, o + i * 2, none⟩ = some (.int .i64 (X i)) ∧ w.cell? ⟨b, o + i * 2 + 1, none⟩ = some (.int .i64 (Y i))

section
variable {w w' : World} {b o n : Nat} {X Y X' Y' : Nat → Int}
theorem Row2.lt (h : Row2 w b o n X Y) (hn : 0 < n) : b < w.heap.size := lt_of_cell (h 0 hn).1
theorem Row2.at0 (h : Row2 w b 0 n X Y) {k : Nat} (hk : k < n) : w.cell? ⟨b, k * 2, none⟩ = some (.int .i64 (X k)) ∧ w.cell? ⟨b, k * 2 + 1, none⟩ = some (.int .i64 (Y k)) := by
  have := h k hk; rwa [Nat.zero_add] at this
theorem Row2.up (h : Row2 w b o n X Y) (hb : Below w.heap.size w w') : Row2 w' b o n X Y := fun i hi => ⟨up_keep hb (h i hi).1, up_keep hb (h i hi).2⟩
theorem Row2.cong (h : Row2 w b o n X Y) (hx : ∀ i, i < n → X i = X' i) (hy : ∀ i, i < n → Y i = Y' i) : Row2 w b o n X' Y' := fun i hi => by rw [← hx i hi, ← hy i hi]; exact h i hi
theorem Row2.less (h : Row2 w b o n X Y) {m : Nat} (hm : m ≤ n) : Row2 w b o m X Y := fun i hi => h i (by omega)
theorem Row2.only (h : Row2 w b o n X Y) {row : Option Nat} (hg : w.grownBy w' row) (hr : row ≠ some b) : Row2 w' b o n X Y := fun i hi => by
  have e : ∀ o', w'.cell? ⟨b, o', none⟩ = w.cell? ⟨b, o', none⟩ := fun o' => World.cell?_of_block (hg.block b (lt_of_cell (h i hi).1) (Ne.symm hr))
  rw [e, e]; exact h i hi
theorem Row2.set1 (h : Row2 w b o n X Y) (k : Nat) (hk : k < n) (x : Int) : Row2 (w.setCell ⟨b, o + k * 2, none⟩ (.int .i64 x)) b o n (fun i => if i = k then x else X i) Y := fun i hi => by
  dsimp only
  by_cases e : i = k
  · subst e
    exact ⟨by rw [if_pos rfl]; exact cell_set_same _ _ _ _ _ (h i hi).1, by rw [cell_set_ne _ _ _ _ _ _ (by omega)]; exact (h i hi).2⟩
  · rw [if_neg e, cell_set_ne _ _ _ _ _ _ (by omega), cell_set_ne _ _ _ _ _ _ (by omega)]; exact h i hi
theorem Row2.set2 (h : Row2 w b o n X Y) (k : Nat) (hk : k < n) (y : Int) : Row2 (w.setCell ⟨b, o + k * 2 + 1, none⟩ (.int .i64 y)) b o n X (fun i => if i = k then y else Y i) := fun i hi => by
  dsimp only
  by_cases e : i = k
  · subst e
    exact ⟨by rw [cell_set_ne _ _ _ _ _ _ (by omega)]; exact (h i hi).1, by rw [if_pos rfl]; exact cell_set_same _ _ _ _ _ (h i hi).2⟩
  · rw [if_neg e, cell_set_ne _ _ _ _ _ _ (by omega), cell_set_ne _ _ _ _ _ _ (by omega)]; exact h i hi
end

theorem Row2.put {w : World} {b o n : Nat} {X Y : Nat → Int} (h : Row2 w b o n X Y) {k : Nat} (hk : k < n) (x y : Int) :
    Row2 ((w.setCell ⟨b, o + k * 2, none⟩ (.int .i64 x)).setCell ⟨b, o + k * 2 + 1, none⟩ (.int .i64 y)) b o n (fun i => if i = k then x else X i) (fun i => if i = k then y else Y i) := (h.set1 k hk x).set2 k hk y
theorem Row2.put0 {w : World} {b n : Nat} {X Y : Nat → Int} (h : Row2 w b 0 n X Y) {k : Nat} (hk : k < n) (x y : Int) :
    Row2 ((w.setCell ⟨b, k * 2, none⟩ (.int .i64 x)).setCell ⟨b, k * 2 + 1, none⟩ (.int .i64 y)) b 0 n (fun i => if i = k then x else X i) (fun i => if i = k then y else Y i) := by
  have := h.put hk x y; rwa [Nat.zero_add] at this
theorem size_set (w : World) (a : Addr) (v : Value) : (w.setCell a v).heap.size = w.heap.size := by simp [World.setCell]

/-- No cell of block b is frozen. -/
def Free (w : World) (b : Nat) : Prop := ∀ o, w.frozen? ⟨b, o, none⟩ = false
theorem Free.up {w w' : World} {b : Nat} (h : Free w b) (hlt : b < w.heap.size) (hb : Below w.heap.size w w') : Free w' b := fun o => by rw [hb.frozen (p := ⟨b, o, none⟩) hlt]; exact h o
theorem Free.set {w : World} {b : Nat} (h : Free w b) (a : Addr) (v : Value) : Free (w.setCell a v) b := fun o => by rw [World.frozen?_setCell]; exact h o
theorem Free.only {w w' : World} {b : Nat} (h : Free w b) (hlt : b < w.heap.size) {row : Option Nat} (hg : w.grownBy w' row) (hr : row ≠ some b) : Free w' b := fun o => by
  rw [World.frozen?_of_block (hg.block b hlt (Ne.symm hr))]; exact h o

/-- The slice value v reads as n spots. -/
def Spots (w : World) (v : Value) (n : Nat) (X Y : Nat → Int) : Prop := ∃ A c, v = .slice A n c ∧ n ≤ c ∧ (0 < n → ∃ b o, A = some ⟨b, o, none⟩ ∧ Row2 w b o n X Y)
theorem Spots.up {w w' : World} {v : Value} {n : Nat} {X Y : Nat → Int} (h : Spots w v n X Y) (hb : Below w.heap.size w w') : Spots w' v n X Y := by
  obtain ⟨A, c, hv, hc, hr⟩ := h
  exact ⟨A, c, hv, hc, fun hn => by obtain ⟨b, o, ha, h⟩ := hr hn; exact ⟨b, o, ha, h.up hb⟩⟩
theorem Spots.cong {w : World} {v : Value} {n : Nat} {X Y X' Y' : Nat → Int} (h : Spots w v n X Y) (hx : ∀ i, i < n → X i = X' i) (hy : ∀ i, i < n → Y i = Y' i) : Spots w v n X' Y' := by
  obtain ⟨A, c, hv, hc, hr⟩ := h
  exact ⟨A, c, hv, hc, fun hn => by obtain ⟨b, o, ha, h⟩ := hr hn; exact ⟨b, o, ha, h.cong hx hy⟩⟩

/-- The slice value v reads as n spots in memory of its own: in a block from base on, of which no cell is frozen. -/
def OwnS (base : Nat) (w : World) (v : Value) (n : Nat) (X Y : Nat → Int) : Prop := ∃ A c, v = .slice A n c ∧ n ≤ c ∧ (0 < n → ∃ b o, A = some ⟨b, o, none⟩ ∧ base ≤ b ∧ Free w b ∧ Row2 w b o n X Y)
section
variable {base : Nat} {w w' : World} {v : Value} {n : Nat} {X Y X' Y' : Nat → Int}
theorem OwnS.spots (h : OwnS base w v n X Y) : Spots w v n X Y := by
  obtain ⟨A, c, hv, hc, hr⟩ := h
  exact ⟨A, c, hv, hc, fun hn => by obtain ⟨b, o, ha, _, _, h⟩ := hr hn; exact ⟨b, o, ha, h⟩⟩
theorem OwnS.up (h : OwnS base w v n X Y) (hb : Below w.heap.size w w') : OwnS base w' v n X Y := by
  obtain ⟨A, c, hv, hc, hr⟩ := h
  exact ⟨A, c, hv, hc, fun hn => by obtain ⟨b, o, ha, h1, h2, h⟩ := hr hn; exact ⟨b, o, ha, h1, h2.up (h.lt hn) hb, h.up hb⟩⟩
theorem OwnS.cong (h : OwnS base w v n X Y) (hx : ∀ i, i < n → X i = X' i) (hy : ∀ i, i < n → Y i = Y' i) : OwnS base w v n X' Y' := by
  obtain ⟨A, c, hv, hc, hr⟩ := h
  exact ⟨A, c, hv, hc, fun hn => by obtain ⟨b, o, ha, h1, h2, h⟩ := hr hn; exact ⟨b, o, ha, h1, h2, h.cong hx hy⟩⟩
theorem OwnS.more (h : OwnS base w v n X Y) {base' : Nat} (hb : base' ≤ base) : OwnS base' w v n X Y := by
  obtain ⟨A, c, hv, hc, hr⟩ := h
  exact ⟨A, c, hv, hc, fun hn => by obtain ⟨b, o, ha, h1, h2, h⟩ := hr hn; exact ⟨b, o, ha, by omega, h2, h⟩⟩
end

/-- Returned: n spots in new memory; nothing that was there has turned. -/
def AnsS (w : World) (n : Nat) (X Y : Nat → Int) (e : Ending) (w' : World) : Prop := ∃ v, e = .returned v ∧ OwnS w.heap.size w' v n X Y ∧ Below w.heap.size w w'

theorem fromS {P : Program} {f : FuncId} {args : Array Value} {w0 w : World} {n : Nat} {X Y : Nat → Int} (h : Calls P f args w (AnsS w n X Y)) (h0 : Below w0.heap.size w0 w) :
    Calls P f args w fun e w' => ∃ v, e = .returned v ∧ OwnS w.heap.size w' v n X Y ∧ Below w.heap.size w w' ∧ Below w0.heap.size w0 w' := h.mono fun _ _ ⟨v, h1, h2, h3⟩ => ⟨v, h1, h2, h3, up_trans h0 h3⟩

theorem row2_made (w : World) (t : TypeId) (n : Nat) : Row2 (w.alloc (.cells (madeCells #[.int .i64 0, .int .i64 0] (n * 2)) t)) w.heap.size 0 n (fun _ => 0) (fun _ => 0) := fun i hi => by
  have hh : ∀ o, (w.alloc (.cells (madeCells #[.int .i64 0, .int .i64 0] (n * 2)) t)).cell? ⟨w.heap.size, o, none⟩ = (madeCells #[.int .i64 0, .int .i64 0] (n * 2))[o]? := fun o => by
    unfold World.cell?; rw [heap_alloc_new]; rfl
  rw [hh, hh]
  have h0 : (0 + i * 2) % 2 = 0 := by omega
  have h1 : (0 + i * 2 + 1) % 2 = 1 := by omega
  constructor
  · rw [madeCells, Array.getElem?_map, Array.getElem?_range, if_pos (by omega)]
    simp [h0]
  · rw [madeCells, Array.getElem?_map, Array.getElem?_range, if_pos (by omega)]
    simp [h1]
theorem free_made (w : World) (cs : Array Value) (t : TypeId) : Free (w.alloc (.cells cs t)) w.heap.size := fun o => by
  unfold World.frozen?; rw [heap_alloc_new]; simp

theorem run_make_rowN {P : Program} (t e : TypeId) (i : TypeInfo) (z : Value) (ht : P.underlying t = some (.slice e)) (hi : P.info? e = some i) (hz : i.zero = some z)
    (kl kc : IntKind) (n c : Nat) (hnc : n ≤ c) (hbytes : i.bytes * c ≤ 281474976710656) (h63 : c ≤ 9223372036854775807) (w : World) :
    (Instr.makeSlice t (.int kl (n : Int)) (.int kc (c : Int))).run P w = .ok (.slice (some ⟨w.heap.size, 0, none⟩) n c) (w.alloc (.cells (madeCells z.cells (c * i.size)) e)) := by
  have hb : (i.bytes : Int) * (c : Int) ≤ 281474976710656 := by
    have h : ((i.bytes * c : Nat) : Int) ≤ 281474976710656 := by omega
    rwa [Int.natCast_mul] at h
  have hr := run_make (P := P) w t e i z ht hi hz kl kc n c (by omega) (by omega) hb (by omega)
  simp only [Int.toNat_natCast] at hr
  exact hr

end Go.Proofs.YtbfhfjpfjkdcfaaDoor
