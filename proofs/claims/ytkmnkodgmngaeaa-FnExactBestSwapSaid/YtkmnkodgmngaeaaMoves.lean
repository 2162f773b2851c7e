/-
  Slices of moves: words, the laws' helpers on them.
-/
import Derived.Test.YtkmnkodgmngaeaaRows
import Derived.Test.YtkmnkodgmngaeaaBase
import Derived.Test.YtkmnkodgmngaeaaSlice
import Derived.Test.YtkmnkodgmngaeaaLawS
import Derived.Test.YtkmnkodgmngaeaaMark
import Derived.Test.YtkmnkodgmngaeaaMove
import Derived.Test.YtkmnkodgmngaeaaOpen
import Derived.Deep.RegionHeld3
namespace Go.Proofs.Ytkmnkodgmngaeaa
open Go.RowKit Go.ChangeShapes Go.WideShapes Go.Sort

/-- A move, as a value. -/
abbrev mvV (a : Nat → Int) : Value := .agg #[.int .i64 (a 0), .int .i64 (a 1), .int .i64 (a 2), .int .i64 (a 3), .int .i64 (a 4)]
/-- The five cells from ⟨b, o⟩ on hold a move. -/
structure Cells5 (w : World) (b o : Nat) (a : Nat → Int) : Prop where
  c0 : w.cell? ⟨b, o, none⟩ = some (.int .i64 (a 0))
  c1 : w.cell? ⟨b, o + 1, none⟩ = some (.int .i64 (a 1))
  c2 : w.cell? ⟨b, o + 2, none⟩ = some (.int .i64 (a 2))
  c3 : w.cell? ⟨b, o + 3, none⟩ = some (.int .i64 (a 3))
  c4 : w.cell? ⟨b, o + 4, none⟩ = some (.int .i64 (a 4))
theorem Cells5.up {w w' : World} {b o : Nat} {a : Nat → Int} (h : Cells5 w b o a) (hb : Below w.heap.size w w') : Cells5 w' b o a :=
  ⟨up_keep hb h.c0, up_keep hb h.c1, up_keep hb h.c2, up_keep hb h.c3, up_keep hb h.c4⟩
theorem Cells5.same {w w' : World} {b o : Nat} {a : Nat → Int} (h : Cells5 w b o a) (e : ∀ j, w'.cell? ⟨b, j, none⟩ = w.cell? ⟨b, j, none⟩) : Cells5 w' b o a :=
  ⟨(e _).trans h.c0, (e _).trans h.c1, (e _).trans h.c2, (e _).trans h.c3, (e _).trans h.c4⟩
/-- The n moves from ⟨b, o⟩ on. -/
def Row5 (w : World) (b o n : Nat) (M : Nat → Nat → Int) : Prop := ∀ i, i < n → Cells5 w b (o + i * 5) (M i)
section
variable {w w' : World} {b o n : Nat} {M M' : Nat → Nat → Int}
theorem Row5.lt (h : Row5 w b o n M) (hn : 0 < n) : b < w.heap.size := lt_of_cell (h 0 hn).c0
theorem Row5.at0 (h : Row5 w b 0 n M) {k : Nat} (hk : k < n) : Cells5 w b (k * 5) (M k) := by
  have := h k hk; rwa [Nat.zero_add] at this
theorem Row5.up (h : Row5 w b o n M) (hb : Below w.heap.size w w') : Row5 w' b o n M := fun i hi => (h i hi).up hb
theorem Row5.cong (h : Row5 w b o n M) (hx : ∀ i, i < n → M i = M' i) : Row5 w b o n M' := fun i hi => by rw [← hx i hi]; exact h i hi
theorem Row5.only (h : Row5 w b o n M) {row : Option Nat} (hg : w.grownBy w' row) (hr : row ≠ some b) : Row5 w' b o n M := fun i hi =>
  (h i hi).same fun j => World.cell?_of_block (hg.block b (lt_of_cell (h i hi).c0) (Ne.symm hr))
/-- The five stores of a move. -/
def put5 (w : World) (b o : Nat) (a : Nat → Int) : World :=
  ((((w.setCell ⟨b, o, none⟩ (.int .i64 (a 0))).setCell ⟨b, o + 1, none⟩ (.int .i64 (a 1))).setCell ⟨b, o + 2, none⟩ (.int .i64 (a 2))).setCell ⟨b, o + 3, none⟩ (.int .i64 (a 3))).setCell ⟨b, o + 4, none⟩ (.int .i64 (a 4))
theorem put5_ne (w : World) (b o : Nat) (a : Nat → Int) (j : Nat) (h : j < o ∨ o + 5 ≤ j) : (put5 w b o a).cell? ⟨b, j, none⟩ = w.cell? ⟨b, j, none⟩ := by
  unfold put5
  rw [cell_set_ne _ _ _ _ _ _ (by omega), cell_set_ne _ _ _ _ _ _ (by omega), cell_set_ne _ _ _ _ _ _ (by omega), cell_set_ne _ _ _ _ _ _ (by omega), cell_set_ne _ _ _ _ _ _ (by omega)]
theorem put5_at {w : World} {b o : Nat} {a0 : Nat → Int} (h : Cells5 w b o a0) (a : Nat → Int) : Cells5 (put5 w b o a) b o a := by
  have s0 := cell_set_same w b o _ (.int .i64 (a 0)) h.c0
  have h1 := (cell_set_ne w b o (.int .i64 (a 0)) b (o + 1) (by omega)).trans h.c1
  have h2 := (cell_set_ne w b o (.int .i64 (a 0)) b (o + 2) (by omega)).trans h.c2
  have h3 := (cell_set_ne w b o (.int .i64 (a 0)) b (o + 3) (by omega)).trans h.c3
  have h4 := (cell_set_ne w b o (.int .i64 (a 0)) b (o + 4) (by omega)).trans h.c4
  unfold put5
  generalize w.setCell ⟨b, o, none⟩ (.int .i64 (a 0)) = w1 at *
  have s1 := cell_set_same w1 b (o + 1) _ (.int .i64 (a 1)) h1
  have s0 := (cell_set_ne w1 b (o + 1) (.int .i64 (a 1)) b o (by omega)).trans s0
  have h2 := (cell_set_ne w1 b (o + 1) (.int .i64 (a 1)) b (o + 2) (by omega)).trans h2
  have h3 := (cell_set_ne w1 b (o + 1) (.int .i64 (a 1)) b (o + 3) (by omega)).trans h3
  have h4 := (cell_set_ne w1 b (o + 1) (.int .i64 (a 1)) b (o + 4) (by omega)).trans h4
  generalize w1.setCell ⟨b, o + 1, none⟩ (.int .i64 (a 1)) = w2 at *
  have s2 := cell_set_same w2 b (o + 2) _ (.int .i64 (a 2)) h2
  have s0 := (cell_set_ne w2 b (o + 2) (.int .i64 (a 2)) b o (by omega)).trans s0
  have s1 := (cell_set_ne w2 b (o + 2) (.int .i64 (a 2)) b (o + 1) (by omega)).trans s1
  have h3 := (cell_set_ne w2 b (o + 2) (.int .i64 (a 2)) b (o + 3) (by omega)).trans h3
  have h4 := (cell_set_ne w2 b (o + 2) (.int .i64 (a 2)) b (o + 4) (by omega)).trans h4
  generalize w2.setCell ⟨b, o + 2, none⟩ (.int .i64 (a 2)) = w3 at *
  have s3 := cell_set_same w3 b (o + 3) _ (.int .i64 (a 3)) h3
  have s0 := (cell_set_ne w3 b (o + 3) (.int .i64 (a 3)) b o (by omega)).trans s0
  have s1 := (cell_set_ne w3 b (o + 3) (.int .i64 (a 3)) b (o + 1) (by omega)).trans s1
  have s2 := (cell_set_ne w3 b (o + 3) (.int .i64 (a 3)) b (o + 2) (by omega)).trans s2
  have h4 := (cell_set_ne w3 b (o + 3) (.int .i64 (a 3)) b (o + 4) (by omega)).trans h4
  generalize w3.setCell ⟨b, o + 3, none⟩ (.int .i64 (a 3)) = w4 at *
  have s4 := cell_set_same w4 b (o + 4) _ (.int .i64 (a 4)) h4
  have s0 := (cell_set_ne w4 b (o + 4) (.int .i64 (a 4)) b o (by omega)).trans s0
  have s1 := (cell_set_ne w4 b (o + 4) (.int .i64 (a 4)) b (o + 1) (by omega)).trans s1
  have s2 := (cell_set_ne w4 b (o + 4) (.int .i64 (a 4)) b (o + 2) (by omega)).trans s2
  have s3 := (cell_set_ne w4 b (o + 4) (.int .i64 (a 4)) b (o + 3) (by omega)).trans s3
  exact ⟨s0, s1, s2, s3, s4⟩
theorem Row5.put (h : Row5 w b o n M) {k : Nat} (hk : k < n) (a : Nat → Int) : Row5 (put5 w b (o + k * 5) a) b o n (fun i => if i = k then a else M i) := fun i hi => by
  by_cases e : i = k
  · subst e
    simp only [if_true]
    exact put5_at (h i hi) a
  · simp only [if_neg e]
    have hh := h i hi
    exact ⟨(put5_ne _ _ _ _ _ (by omega)).trans hh.c0, (put5_ne _ _ _ _ _ (by omega)).trans hh.c1, (put5_ne _ _ _ _ _ (by omega)).trans hh.c2, (put5_ne _ _ _ _ _ (by omega)).trans hh.c3, (put5_ne _ _ _ _ _ (by omega)).trans hh.c4⟩
theorem Row5.put0 (h : Row5 w b 0 n M) {k : Nat} (hk : k < n) (a : Nat → Int) : Row5 (put5 w b (k * 5) a) b 0 n (fun i => if i = k then a else M i) := by
  have := h.put hk a; rwa [Nat.zero_add] at this
theorem size_put5 (w : World) (b o : Nat) (a : Nat → Int) : (put5 w b o a).heap.size = w.heap.size := by unfold put5; simp [size_set]
theorem free_put5 {w : World} {b : Nat} (h : Free w b) (b' o : Nat) (a : Nat → Int) : Free (put5 w b' o a) b := by unfold put5; exact ((((h.set _ _).set _ _).set _ _).set _ _).set _ _
theorem up_put5 {a w : World} (h : Below a.heap.size a w) {b : Nat} (hb : a.heap.size ≤ b) (o : Nat) (m : Nat → Int) : Below a.heap.size a (put5 w b o m) := by
  unfold put5
  exact up_set (up_set (up_set (up_set (up_set h hb _) hb _) hb _) hb _) hb _
theorem grown_put5 {a w : World} {g : Nat} (h : a.grownBy w (some g)) (o : Nat) (m : Nat → Int) : a.grownBy (put5 w g o m) (some g) := by
  unfold put5
  exact grown_set (grown_set (grown_set (grown_set (grown_set h rfl _) rfl _) rfl _) rfl _) rfl _
end
/-- The slice value v reads as n moves. -/
def Moves (w : World) (v : Value) (n : Nat) (M : Nat → Nat → Int) : Prop := ∃ A c, v = .slice A n c ∧ n ≤ c ∧ (0 < n → ∃ b o, A = some ⟨b, o, none⟩ ∧ Row5 w b o n M)
theorem Moves.up {w w' : World} {v : Value} {n : Nat} {M : Nat → Nat → Int} (h : Moves w v n M) (hb : Below w.heap.size w w') : Moves w' v n M := by
  obtain ⟨A, c, hv, hc, hr⟩ := h
  exact ⟨A, c, hv, hc, fun hn => by obtain ⟨b, o, ha, h⟩ := hr hn; exact ⟨b, o, ha, h.up hb⟩⟩
/-- .. in memory of its own. -/
def OwnM (base : Nat) (w : World) (v : Value) (n : Nat) (M : Nat → Nat → Int) : Prop := ∃ A c, v = .slice A n c ∧ n ≤ c ∧ (0 < n → ∃ b o, A = some ⟨b, o, none⟩ ∧ base ≤ b ∧ Free w b ∧ Row5 w b o n M)
section
variable {base : Nat} {w w' : World} {v : Value} {n : Nat} {M M' : Nat → Nat → Int}
theorem OwnM.moves (h : OwnM base w v n M) : Moves w v n M := by
  obtain ⟨A, c, hv, hc, hr⟩ := h
  exact ⟨A, c, hv, hc, fun hn => by obtain ⟨b, o, ha, _, _, h⟩ := hr hn; exact ⟨b, o, ha, h⟩⟩
theorem OwnM.up (h : OwnM base w v n M) (hb : Below w.heap.size w w') : OwnM base w' v n M := by
  obtain ⟨A, c, hv, hc, hr⟩ := h
  exact ⟨A, c, hv, hc, fun hn => by obtain ⟨b, o, ha, h1, h2, h⟩ := hr hn; exact ⟨b, o, ha, h1, h2.up (h.lt hn) hb, h.up hb⟩⟩
theorem OwnM.cong (h : OwnM base w v n M) (hx : ∀ i, i < n → M i = M' i) : OwnM base w v n M' := by
  obtain ⟨A, c, hv, hc, hr⟩ := h
  exact ⟨A, c, hv, hc, fun hn => by obtain ⟨b, o, ha, h1, h2, h⟩ := hr hn; exact ⟨b, o, ha, h1, h2, h.cong hx⟩⟩
theorem OwnM.more (h : OwnM base w v n M) {base' : Nat} (hb : base' ≤ base) : OwnM base' w v n M := by
  obtain ⟨A, c, hv, hc, hr⟩ := h
  exact ⟨A, c, hv, hc, fun hn => by obtain ⟨b, o, ha, h1, h2, h⟩ := hr hn; exact ⟨b, o, ha, by omega, h2, h⟩⟩
theorem OwnM.nil : OwnM base w (.slice none 0 0) 0 M := ⟨_, _, rfl, Nat.le_refl _, fun h => absurd h (by omega)⟩
end
/-- Returned: n moves in new memory; nothing that was there has turned. -/
def AnsM (w : World) (n : Nat) (M : Nat → Nat → Int) (e : Ending) (w' : World) : Prop := ∃ v, e = .returned v ∧ OwnM w.heap.size w' v n M ∧ Below w.heap.size w w'
def AnsMB (w : World) (n : Nat) (M : Nat → Nat → Int) (q : Bool) (e : Ending) (w' : World) : Prop := ∃ v, e = .returned (.tuple #[v, .bool q]) ∧ OwnM w.heap.size w' v n M ∧ Below w.heap.size w w'
theorem AnsMB.nil {w w' : World} {M : Nat → Nat → Int} (hb : Below w.heap.size w w') : AnsMB w 0 M false (.returned (.tuple #[.slice none 0 0, .bool false])) w' := ⟨_, rfl, OwnM.nil, hb⟩

theorem row5_made (w : World) (t : TypeId) (n : Nat) : Row5 (w.alloc (.cells (madeCells #[.int .i64 0, .int .i64 0, .int .i64 0, .int .i64 0, .int .i64 0] (n * 5)) t)) w.heap.size 0 n (fun _ _ => 0) := fun i hi => by
  have hh : ∀ o, o < n * 5 → (w.alloc (.cells (madeCells #[.int .i64 0, .int .i64 0, .int .i64 0, .int .i64 0, .int .i64 0] (n * 5)) t)).cell? ⟨w.heap.size, o, none⟩ = some (.int .i64 0) := fun o ho => by
    have : (w.alloc (.cells (madeCells #[.int .i64 0, .int .i64 0, .int .i64 0, .int .i64 0, .int .i64 0] (n * 5)) t)).cell? ⟨w.heap.size, o, none⟩ = (madeCells #[.int .i64 0, .int .i64 0, .int .i64 0, .int .i64 0, .int .i64 0] (n * 5))[o]? := by
      unfold World.cell?; rw [heap_alloc_new]; rfl
    rw [this, madeCells, Array.getElem?_map, Array.getElem?_range, if_pos ho]
    have : o % 5 = 0 ∨ o % 5 = 1 ∨ o % 5 = 2 ∨ o % 5 = 3 ∨ o % 5 = 4 := by omega
    rcases this with e | e | e | e | e <;> simp [e]
  exact ⟨hh _ (by omega), hh _ (by omega), hh _ (by omega), hh _ (by omega), hh _ (by omega)⟩

set_option maxHeartbeats 1000000 in
theorem eqMove_same (a : Nat → Int) (w : World) : Calls Try.prog 121 #[mvV a, mvV a] w (Ans w (.bool true)) := by
  go_enter Try.func121, Try.ntmps121
  have HE := Lib.hid (eqSpot_any (a 0) (a 1) (a 0) (a 1))
  have HE2 := Lib.hid (eqSpot_any (a 2) (a 3) (a 2) (a 3))
  simp only [BEq.rfl, Bool.and_self] at HE HE2
  go_wp2_with fail
  generalize hW : World.alloc _ _ = W at *
  have hbW : Below w.heap.size w W := by subst hW; (repeat (first | with_reducible exact Below.refl _ _ | with_reducible assumption | with_reducible refine up_alloc ?_ _ | with_reducible refine up_drew ?_ | with_reducible refine up_drewN ?_ _ | (with_reducible refine up_set ?_ ?hset _; case hset => first | (simp; done) | (simp; omega) | omega) | with_reducible refine up_trans ?_ (by with_reducible assumption)))
  have k2 : W.cell? ⟨w.heap.size, 2, none⟩ = some (.int .i64 (a 2)) := by subst hW; simp [go_sem]
  have k3 : W.cell? ⟨w.heap.size, 3, none⟩ = some (.int .i64 (a 3)) := by subst hW; simp [go_sem]
  have k4 : W.cell? ⟨w.heap.size, 4, none⟩ = some (.int .i64 (a 4)) := by subst hW; simp [go_sem]
  have k7 : W.cell? ⟨w.heap.size + 1, 2, none⟩ = some (.int .i64 (a 2)) := by subst hW; simp [go_sem]
  have k8 : W.cell? ⟨w.heap.size + 1, 3, none⟩ = some (.int .i64 (a 3)) := by subst hW; simp [go_sem]
  have k9 : W.cell? ⟨w.heap.size + 1, 4, none⟩ = some (.int .i64 (a 4)) := by subst hW; simp [go_sem]
  clear hW
  refine (HE.out _).mono ?_
  rintro e w1 ⟨rfl, hb1⟩
  have q2 := up_keep hb1 k2; have q3 := up_keep hb1 k3; have q4 := up_keep hb1 k4
  have q7 := up_keep hb1 k7; have q8 := up_keep hb1 k8; have q9 := up_keep hb1 k9
  go_wp2_with fail
  refine (HE2.out _).mono ?_
  rintro e w2 ⟨rfl, hb2⟩
  have r4 := up_keep hb2 q4; have r9 := up_keep hb2 q9
  have hne : (a 4 != a 4) = false := by simp
  go_wp2_with fail
  go_ret
  exact Ans.bool rfl (by (repeat (first | with_reducible exact Below.refl _ _ | with_reducible assumption | with_reducible refine up_alloc ?_ _ | with_reducible refine up_drew ?_ | with_reducible refine up_drewN ?_ _ | (with_reducible refine up_set ?_ ?hset _; case hset => first | (simp; done) | (simp; omega) | omega) | with_reducible refine up_trans ?_ (by with_reducible assumption))))
set_option maxRecDepth 100000 in
set_option maxHeartbeats 2000000 in
theorem eqMoveS_g (v v' : Value) (n : Nat) (M : Nat → Nat → Int) (w : World) (h : Moves w v n M) (h' : Moves w v' n M) (hn : n ≤ 1048576) :
    Calls Try.prog 19 #[v, v'] w (Ans w (.bool true)) := by
  obtain ⟨A, c, rfl, hnc, hrow⟩ := h
  obtain ⟨A', c', rfl, hnc', hrow'⟩ := h'
  go_enter Try.func19, Try.ntmps19
  go_wp2_with fail
  go_loopw [5] (fun i wr => ∃ k : Nat, k ≤ n ∧ i = .int .i64 k ∧ Below w.heap.size w wr) (fun i _ => n - (intOf i).toNat)
  case atStart => exact ⟨0, by omega, rfl, Below.refl _ _⟩
  case round =>
    obtain ⟨k, hk, rfl, hb⟩ := hrel
    by_cases hlt : k < n
    · obtain ⟨b, o, rfl, hr⟩ := hrow (by omega)
      obtain ⟨b', o', rfl, hr'⟩ := hrow' (by omega)
      have HC := Lib.hid (eqMove_same (M k))
      have g1 := (hr k hlt).up hb
      have g2 := (hr' k hlt).up hb
      have c0 := cell_regrown g1.c0
      have c1 := cell_regrown g1.c1
      have c2 := cell_regrown g1.c2
      have c3 := cell_regrown g1.c3
      have c4 := cell_regrown g1.c4
      have d0 := cell_regrown g2.c0
      have d1 := cell_regrown g2.c1
      have d2 := cell_regrown g2.c2
      have d3 := cell_regrown g2.c3
      have d4 := cell_regrown g2.c4
      clear hr hr' hrow hrow' g1 g2
      go_wp2_with fail
      refine wp_region_up (by kernel_rfl) (by kernel_rfl) ?_
      repeat (go_big_quiet_step (exact up_of (fun W _ => HC.out W) _ _))
      refine wpQuiet_nil ?_
      intro w1 hb0
      obtain ⟨hc0, hf0⟩ := bcell hb0
      go_wp2_with fail
      go_roundw
      case rel => exact ⟨k + 1, by omega, by go_num, up_trans hb hb0⟩
      case measure => simp [intOf]; omega
    · have e : k = n := by omega
      subst e
      go_wp2_with fail
      go_ret
      exact Ans.bool rfl hb
end Go.Proofs.Ytkmnkodgmngaeaa
