/- Words and contracts, part 7. -/
import Derived.Test.YtljdhicmcmppgaaRows
import Derived.Deep.RegionHeld3
import Derived.Deep.QuietTactic
import Derived.Test.YtljdhicmcmppgaaZ6
namespace Go.Proofs.Ytljdhicmcmppgaa
open Go.RowKit Go.ChangeShapes Go.WideShapes Go.Sort

/-- A move, as a value. -/
abbrev mvV (a : Nat → Int) : Value := .agg #[.int .i64 (a 0), .int .i64 (a 1), .int .i64 (a 2), .int .i64 (a 3), .int .i64 (a 4)]
/-- The five cells from ⟨b, o⟩ on hold a move. -/
structure Cells5 (w : World) (b o : Nat) (a : Nat → Int) : Prop where
  c0 : w.cell? ⟨b, o, none⟩ = some (.int .i64 (a 0))
  c1 : w.cell? ⟨b, o + 1, none⟩ = some (.int .i64 (a 1))
  c2 : w.cell? ⟨b, o + 2, none⟩ = some (.int .i64 (a 2))
  c3 : w.cell? ⟨b, o + 3, none⟩ = some (.int .i64 (a 3))
  c4 : w.cell? ⟨b, o + 4, none⟩ = some (.int .i64 (a 4))
theorem Cells5.up {w w' : World} {b o : Nat} {a : Nat → Int} (h : Cells5 w b o a) (hb : Below w.heap.size w w') : Cells5 w' b o a :=
  ⟨up_keep hb h.c0, up_keep hb h.c1, up_keep hb h.c2, up_keep hb h.c3, up_keep hb h.c4⟩
theorem Cells5.same {w w' : World} {b o : Nat} {a : Nat → Int} (h : Cells5 w b o a) (e : ∀ j, w'.cell? ⟨b, j, none⟩ = w.cell? ⟨b, j, none⟩) : Cells5 w' b o a :=
  ⟨(e _).trans h.c0, (e _).trans h.c1, (e _).trans h.c2, (e _).trans h.c3, (e _).trans h.c4⟩
/-- The n moves from ⟨b, o⟩ on. -/
def Row5 (w : World) (b o n : Nat) (M : Nat → Nat → Int) : Prop := ∀ i, i < n → Cells5 w b (o + i * 5) (M i)
section
variable {w w' : World} {b o n : Nat} {M M' : Nat → Nat → Int}
theorem Row5.lt (h : Row5 w b o n M) (hn : 0 < n) : b < w.heap.size := lt_of_cell (h 0 hn).c0
theorem Row5.at0 (h : Row5 w b 0 n M) {k : Nat} (hk : k < n) : Cells5 w b (k * 5) (M k) := by
  have := h k hk; rwa [Nat.zero_add] at this
theorem Row5.up (h : Row5 w b o n M) (hb : Below w.heap.size w w') : Row5 w' b o n M := fun i hi => (h i hi).up hb
theorem Row5.cong (h : Row5 w b o n M) (hx : ∀ i, i < n → M i = M' i) : Row5 w b o n M' := fun i hi => by rw [← hx i hi]; exact h i hi
theorem Row5.only (h : Row5 w b o n M) {row : Option Nat} (hg : w.grownBy w' row) (hr : row ≠ some b) : Row5 w' b o n M := fun i hi =>
  (h i hi).same fun j => World.cell?_of_block (hg.block b (lt_of_cell (h i hi).c0) (Ne.symm hr))
/-- The five stores of a move. -/
def put5 (w : World) (b o : Nat) (a : Nat → Int) : World :=
  ((((w.setCell ⟨b, o, none⟩ (.int .i64 (a 0))).setCell ⟨b, o + 1, none⟩ (.int .i64 (a 1))).setCell ⟨b, o + 2, none⟩ (.int .i64 (a 2))).setCell ⟨b, o + 3, none⟩ (.int .i64 (a 3))).setCell ⟨b, o + 4, none⟩ (.int .i64 (a 4))
theorem put5_ne (w : World) (b o : Nat) (a : Nat → Int) (j : Nat) (h : j < o ∨ o + 5 ≤ j) : (put5 w b o a).cell? ⟨b, j, none⟩ = w.cell? ⟨b, j, none⟩ := by
  unfold put5
  rw [cell_set_ne _ _ _ _ _ _ (by omega), cell_set_ne _ _ _ _ _ _ (by omega), cell_set_ne _ _ _ _ _ _ (by omega), cell_set_ne _ _ _ _ _ _ (by omega), cell_set_ne _ _ _ _ _ _ (by omega)]
theorem put5_at {w : World} {b o : Nat} {a0 : Nat → Int} (h : Cells5 w b o a0) (a : Nat → Int) : Cells5 (put5 w b o a) b o a := by
  have s0 := cell_set_same w b o _ (.int .i64 (a 0)) h.c0
  have h1 := (cell_set_ne w b o (.int .i64 (a 0)) b (o + 1) (by omega)).trans h.c1
  have h2 := (cell_set_ne w b o (.int .i64 (a 0)) b (o + 2) (by omega)).trans h.c2
  have h3 := (cell_set_ne w b o (.int .i64 (a 0)) b (o + 3) (by omega)).trans h.c3
  have h4 := (cell_set_ne w b o (.int .i64 (a 0)) b (o + 4) (by omega)).trans h.c4
  unfold put5
  generalize w.setCell ⟨b, o, none⟩ (.int .i64 (a 0)) = w1 at *
  have s1 := cell_set_same w1 b (o + 1) _ (.int .i64 (a 1)) h1
  have s0 := (cell_set_ne w1 b (o + 1) (.int .i64 (a 1)) b o (by omega)).trans s0
  have h2 := (cell_set_ne w1 b (o + 1) (.int .i64 (a 1)) b (o + 2) (by omega)).trans h2
  have h3 := (cell_set_ne w1 b (o + 1) (.int .i64 (a 1)) b (o + 3) (by omega)).trans h3
  have h4 := (cell_set_ne w1 b (o + 1) (.int .i64 (a 1)) b (o + 4) (by omega)).trans h4
  generalize w1.setCell ⟨b, o + 1, none⟩ (.int .i64 (a 1)) = w2 at *
  have s2 := cell_set_same w2 b (o + 2) _ (.int .i64 (a 2)) h2
  have s0 := (cell_set_ne w2 b (o + 2) (.int .i64 (a 2)) b o (by omega)).trans s0
  have s1 := (cell_set_ne w2 b (o + 2) (.int .i64 (a 2)) b (o + 1) (by omega)).trans s1
  have h3 := (cell_set_ne w2 b (o + 2) (.int .i64 (a 2)) b (o + 3) (by omega)).trans h3
  have h4 := (cell_set_ne w2 b (o + 2) (.int .i64 (a 2)) b (o + 4) (by omega)).trans h4
  generalize w2.setCell ⟨b, o + 2, none⟩ (.int .i64 (a 2)) = w3 at *
  have s3 := cell_set_same w3 b (o + 3) _ (.int .i64 (a 3)) h3
  have s0 := (cell_set_ne w3 b (o + 3) (.int .i64 (a 3)) b o (by omega)).trans s0
  have s1 := (cell_set_ne w3 b (o + 3) (.int .i64 (a 3)) b (o + 1) (by omega)).trans s1
  have s2 := (cell_set_ne w3 b (o + 3) (.int .i64 (a 3)) b (o + 2) (by omega)).trans s2
  have h4 := (cell_set_ne w3 b (o + 3) (.int .i64 (a 3)) b (o + 4) (by omega)).trans h4
  generalize w3.setCell ⟨b, o + 3, none⟩ (.int .i64 (a 3)) = w4 at *
  have s4 := cell_set_same w4 b (o + 4) _ (.int .i64 (a 4)) h4
  have s0 := (cell_set_ne w4 b (o + 4) (.int .i64 (a 4)) b o (by omega)).trans s0
  have s1 := (cell_set_ne w4 b (o + 4) (.int .i64 (a 4)) b (o + 1) (by omega)).trans s1
  have s2 := (cell_set_ne w4 b (o + 4) (.int .i64 (a 4)) b (o + 2) (by omega)).trans s2
  have s3 := (cell_set_ne w4 b (o + 4) (.int .i64 (a 4)) b (o + 3) (by omega)).trans s3
  exact ⟨s0, s1, s2, s3, s4⟩
theorem Row5.put (h : Row5 w b o n M) {k : Nat} (hk : k < n) (a : Nat → Int) : Row5 (put5 w b (o + k * 5) a) b o n (fun i => if i = k then a else M i) := fun i hi => by
  by_cases e : i = k
  · subst e
    simp only [if_true]
    exact put5_at (h i hi) a
  · simp only [if_neg e]
    have hh := h i hi
    exact ⟨(put5_ne _ _ _ _ _ (by omega)).trans hh.c0, (put5_ne _ _ _ _ _ (by omega)).trans hh.c1, (put5_ne _ _ _ _ _ (by omega)).trans hh.c2, (put5_ne _ _ _ _ _ (by omega)).trans hh.c3, (put5_ne _ _ _ _ _ (by omega)).trans hh.c4⟩
theorem Row5.put0 (h : Row5 w b 0 n M) {k : Nat} (hk : k < n) (a : Nat → Int) : Row5 (put5 w b (k * 5) a) b 0 n (fun i => if i = k then a else M i) := by
  have := h.put hk a; rwa [Nat.zero_add] at this
theorem size_put5 (w : World) (b o : Nat) (a : Nat → Int) : (put5 w b o a).heap.size = w.heap.size := by unfold put5; simp [size_set]
theorem free_put5 {w : World} {b : Nat} (h : Free w b) (b' o : Nat) (a : Nat → Int) : Free (put5 w b' o a) b := by unfold put5; exact ((((h.set _ _).set _ _).set _ _).set _ _).set _ _
theorem up_put5 {a w : World} (h : Below a.heap.size a w) {b : Nat} (hb : a.heap.size ≤ b) (o : Nat) (m : Nat → Int) : Below a.heap.size a (put5 w b o m) := by
  unfold put5
  exact up_set (up_set (up_set (up_set (up_set h hb _) hb _) hb _) hb _) hb _
theorem grown_put5 {a w : World} {g : Nat} (h : a.grownBy w (some g)) (o : Nat) (m : Nat → Int) : a.grownBy (put5 w g o m) (some g) := by
  unfold put5
  exact grown_set (grown_set (grown_set (grown_set (grown_set h rfl _) rfl _) rfl _) rfl _) rfl _
end
/-- The slice value v reads as n moves. -/
def Moves (w : World) (v : Value) (n : Nat) (M : Nat → Nat → Int) : Prop := ∃ A c, v = .slice A n c ∧ n ≤ c ∧ (0 < n → ∃ b o, A = some ⟨b, o, none⟩ ∧ Row5 w b o n M)
theorem Moves.up {w w' : World} {v : Value} {n : Nat} {M : Nat → Nat → Int} (h : Moves w v n M) (hb : Below w.heap.size w w') : Moves w' v n M := by
  obtain ⟨A, c, hv, hc, hr⟩ := h
  exact ⟨A, c, hv, hc, fun hn => by obtain ⟨b, o, ha, h⟩ := hr hn; exact ⟨b, o, ha, h.up hb⟩⟩
/-- .. in memory of its own. -/
def OwnM (base : Nat) (w : World) (v : Value) (n : Nat) (M : Nat → Nat → Int) : Prop := ∃ A c, v = .slice A n c ∧ n ≤ c ∧ (0 < n → ∃ b o, A = some ⟨b, o, none⟩ ∧ base ≤ b ∧ Free w b ∧ Row5 w b o n M)
section
variable {base : Nat} {w w' : World} {v : Value} {n : Nat} {M M' : Nat → Nat → Int}
theorem OwnM.moves (h : OwnM base w v n M) : Moves w v n M := by
  obtain ⟨A, c, hv, hc, hr⟩ := h
  exact ⟨A, c, hv, hc, fun hn => by obtain ⟨b, o, ha, _, _, h⟩ := hr hn; exact ⟨b, o, ha, h⟩⟩
theorem OwnM.up (h : OwnM base w v n M) (hb : Below w.heap.size w w') : OwnM base w' v n M := by
  obtain ⟨A, c, hv, hc, hr⟩ := h
  exact ⟨A, c, hv, hc, fun hn => by obtain ⟨b, o, ha, h1, h2, h⟩ := hr hn; exact ⟨b, o, ha, h1, h2.up (h.lt hn) hb, h.up hb⟩⟩
theorem OwnM.cong (h : OwnM base w v n M) (hx : ∀ i, i < n → M i = M' i) : OwnM base w v n M' := by
  obtain ⟨A, c, hv, hc, hr⟩ := h
  exact ⟨A, c, hv, hc, fun hn => by obtain ⟨b, o, ha, h1, h2, h⟩ := hr hn; exact ⟨b, o, ha, h1, h2, h.cong hx⟩⟩
theorem OwnM.more (h : OwnM base w v n M) {base' : Nat} (hb : base' ≤ base) : OwnM base' w v n M := by
  obtain ⟨A, c, hv, hc, hr⟩ := h
  exact ⟨A, c, hv, hc, fun hn => by obtain ⟨b, o, ha, h1, h2, h⟩ := hr hn; exact ⟨b, o, ha, by omega, h2, h⟩⟩
theorem OwnM.nil : OwnM base w (.slice none 0 0) 0 M := ⟨_, _, rfl, Nat.le_refl _, fun h => absurd h (by omega)⟩
end
/-- Returned: n moves in new memory; nothing that was there has turned. -/
def AnsM (w : World) (n : Nat) (M : Nat → Nat → Int) (e : Ending) (w' : World) : Prop := ∃ v, e = .returned v ∧ OwnM w.heap.size w' v n M ∧ Below w.heap.size w w'
def AnsMB (w : World) (n : Nat) (M : Nat → Nat → Int) (q : Bool) (e : Ending) (w' : World) : Prop := ∃ v, e = .returned (.tuple #[v, .bool q]) ∧ OwnM w.heap.size w' v n M ∧ Below w.heap.size w w'
theorem AnsMB.nil {w w' : World} {M : Nat → Nat → Int} (hb : Below w.heap.size w w') : AnsMB w 0 M false (.returned (.tuple #[.slice none 0 0, .bool false])) w' := ⟨_, rfl, OwnM.nil, hb⟩

theorem row5_made (w : World) (t : TypeId) (n : Nat) : Row5 (w.alloc (.cells (madeCells #[.int .i64 0, .int .i64 0, .int .i64 0, .int .i64 0, .int .i64 0] (n * 5)) t)) w.heap.size 0 n (fun _ _ => 0) := fun i hi => by
  have hh : ∀ o, o < n * 5 → (w.alloc (.cells (madeCells #[.int .i64 0, .int .i64 0, .int .i64 0, .int .i64 0, .int .i64 0] (n * 5)) t)).cell? ⟨w.heap.size, o, none⟩ = some (.int .i64 0) := fun o ho => by
    have : (w.alloc (.cells (madeCells #[.int .i64 0, .int .i64 0, .int .i64 0, .int .i64 0, .int .i64 0] (n * 5)) t)).cell? ⟨w.heap.size, o, none⟩ = (madeCells #[.int .i64 0, .int .i64 0, .int .i64 0, .int .i64 0, .int .i64 0] (n * 5))[o]? := by
      unfold World.cell?; rw [heap_alloc_new]; rfl
    rw [this, madeCells, Array.getElem?_map, Array.getElem?_range, if_pos ho]
    have : o % 5 = 0 ∨ o % 5 = 1 ∨ o % 5 = 2 ∨ o % 5 = 3 ∨ o % 5 = 4 := by omega
    rcases this with e | e | e | e | e <;> simp [e]
  exact ⟨hh _ (by omega), hh _ (by omega), hh _ (by omega), hh _ (by omega), hh _ (by omega)⟩

end Go.Proofs.Ytljdhicmcmppgaa
namespace Go.Proofs.Ytljdhicmcmppgaa
open Go.RowKit Go.ChangeShapes Go.WideShapes Go.Sort

def apMM (a b : Nat → Int) : Int × Int := apM (a 0) (a 1) (a 2) (a 3) (b 0) (b 1) (b 2) (b 3)
def tgMM (a b : Nat → Int) : Bool := togB (a 0) (a 1) (a 2) (a 3) (a 4) (b 0) (b 1) (b 2) (b 3) (b 4)
def mvB (a : Nat → Int) : Bool := moveB (a 0) (a 1) (a 2) (a 3) (a 4)
/-- 2 to 12 moves that go together. -/
def tgL (n : Nat) (M : Nat → Nat → Int) : Bool := inB n 2 12 && allB (fun i => tgMM (M 0) (M i)) n
theorem tgL_iff {n : Nat} {M : Nat → Nat → Int} (h : tgL n M = true) : (2 ≤ n ∧ n ≤ 12) ∧ (∀ i, i < n → tgMM (M 0) (M i) = true) ∧ ∀ i, i < n → mvB (M i) = true := by
  simp only [tgL, Bool.and_eq_true] at h
  have h1 := inB_iff.1 h.1
  have h2 := allB_iff.1 h.2
  exact ⟨by omega, h2, fun i hi => (togB_iff.1 (h2 i hi)).1.2⟩
theorem apMM_bd {a b : Nat → Int} (ha : mvB a = true) (hb : mvB b = true) : (0 ≤ (apMM a b).1 ∧ (apMM a b).1 ≤ 11838003609600) ∧ 1 ≤ (apMM a b).2 ∧ (apMM a b).2 ≤ 8359936 := apM_bd ha hb
theorem goTogether_mm (a b : Nat → Int) (w : World) : Calls Try.prog 34 #[mvV a, mvV b] w (Ans w (.bool (tgMM a b))) := goTogether_any _ _ _ _ _ _ _ _ _ _ w
theorem apGood_mm (a b : Nat → Int) (w : World) : Calls Try.prog 36 #[mvV a, mvV b] w (Ans w (.bool (tgMM a b))) := apGood_any _ _ _ _ _ _ _ _ _ _ w
theorem leastApart_mm (a b : Nat → Int) (ha : mvB a = true) (hb : mvB b = true) (w : World) : Calls Try.prog 35 #[mvV a, mvV b] w (Ans w (.tuple #[.int .i64 (apMM a b).1, .int .i64 (apMM a b).2])) := leastApart_m _ _ _ _ _ _ _ _ _ _ ha hb w
theorem apLeast_mm (a b : Nat → Int) (ha : mvB a = true) (hb : mvB b = true) (w : World) : Calls Try.prog 37 #[mvV a, mvV b] w (Ans w (.tuple #[.int .i64 (apMM a b).1, .int .i64 (apMM a b).2])) := apLeast_m _ _ _ _ _ _ _ _ _ _ ha hb w
set_option maxRecDepth 100000 in
set_option maxHeartbeats 2000000 in
theorem areTogether_g (v : Value) (n : Nat) (M : Nat → Nat → Int) (w : World) (h : Moves w v n M) (hn : n ≤ 1048576) :
    Calls Try.prog 55 #[v] w (Ans w (.bool (tgL n M))) := by
  obtain ⟨A, c, rfl, hnc, hrow⟩ := h
  cases hi : inB n 2 12 with
  | false =>
    have HE := Lib.hid (show tgL n M = false by simp [tgL, hi])
    go_enter Try.func55, Try.ntmps55
    go_wp2_with (go_at_call 44; refine (within_any _ _ _ _).mono ?_; rintro e w1 ⟨rfl, rfl⟩)
    go_ret
    exact Ans.bool (by rw [HE.out]) (Below.refl _ _)
  | true =>
    have HE := Lib.hid (show tgL n M = (true && allB (fun i => tgMM (M 0) (M i)) n) by simp [tgL, hi])
    go_enter Try.func55, Try.ntmps55
    go_wp2_with (go_at_call 44; refine (within_any _ _ _ _).mono ?_; rintro e w1 ⟨rfl, rfl⟩)
    go_loopw [11] (fun i wr => ∃ k : Nat, k ≤ n ∧ i = .int .i64 k ∧ Below w.heap.size w wr ∧ allB (fun i => tgMM (M 0) (M i)) k = true) (fun i _ => n - (intOf i).toNat)
    case atStart => exact ⟨0, by omega, rfl, Below.refl _ _, rfl⟩
    case round =>
      obtain ⟨k, hk, rfl, hb, ha⟩ := hrel
      have HA := Lib.hid ha
      clear ha
      by_cases hlt : k < n
      · obtain ⟨b, o, rfl, hr⟩ := hrow (by omega)
        have g1 := (hr k hlt).up hb
        have g0 := (hr 0 (by omega)).up hb
        rw [Nat.zero_mul, Nat.add_zero] at g0
        obtain ⟨c0, c1, c2, c3, c4⟩ := g1
        have hn0 : (0 : Int) < (n : Int) := by omega
        clear hr hrow
        have HC := Lib.hid (goTogether_mm (M 0) (M k))
        go_wp2_with fail
        generalize hW3 : World.alloc wr _ = W3 at *
        have hb3 : Below wr.heap.size wr W3 := by subst hW3; (repeat (first | with_reducible exact Below.refl _ _ | with_reducible assumption | with_reducible refine up_alloc ?_ _ | with_reducible refine up_drew ?_ | with_reducible refine up_drewN ?_ _ | (with_reducible refine up_set ?_ ?hset _; case hset => first | (simp; done) | (simp; omega) | omega) | with_reducible refine up_trans ?_ (by with_reducible assumption)))
        have hbw3 := up_trans hb hb3
        have e0 : W3.cell? ⟨wr.heap.size, 0, none⟩ = some (.int .i64 (M k 0)) := by subst hW3; simp [go_sem]
        have e1 : W3.cell? ⟨wr.heap.size, 1, none⟩ = some (.int .i64 (M k 1)) := by subst hW3; simp [go_sem]
        have e2 : W3.cell? ⟨wr.heap.size, 2, none⟩ = some (.int .i64 (M k 2)) := by subst hW3; simp [go_sem]
        have e3 : W3.cell? ⟨wr.heap.size, 3, none⟩ = some (.int .i64 (M k 3)) := by subst hW3; simp [go_sem]
        have e4 : W3.cell? ⟨wr.heap.size, 4, none⟩ = some (.int .i64 (M k 4)) := by subst hW3; simp [go_sem]
        have g3 := g0.up hb3
        have d0 := cell_regrown g3.c0
        have d1 := cell_regrown g3.c1
        have d2 := cell_regrown g3.c2
        have d3 := cell_regrown g3.c3
        have d4 := cell_regrown g3.c4
        replace e0 := cell_regrown e0
        replace e1 := cell_regrown e1
        replace e2 := cell_regrown e2
        replace e3 := cell_regrown e3
        replace e4 := cell_regrown e4
        clear hW3 g0 g3 c0 c1 c2 c3 c4
        cases hq : tgMM (M 0) (M k) with
        | true =>
          rw [hq] at HC
          have HQ := Lib.hid hq
          clear hq
          refine wp_region_up (by kernel_rfl) (by kernel_rfl) ?_
          repeat (go_big_quiet_step (exact up_of (fun W _ => HC.out W) _ _))
          refine wpQuiet_nil ?_
          intro w1 hb0
          obtain ⟨hc0, hf0⟩ := bcell hb0
          go_wp2_with fail
          go_roundw
          case rel => exact ⟨k + 1, by omega, by go_num, up_trans hbw3 hb0, allB_succ HA.out HQ.out⟩
          case measure => simp [intOf]; omega
        | false =>
          rw [hq] at HC
          have HQ := Lib.hid hq
          clear hq
          refine wp_region_up (by kernel_rfl) (by kernel_rfl) ?_
          repeat (go_big_quiet_step (exact up_of (fun W _ => HC.out W) _ _))
          refine wpQuiet_nil ?_
          intro w1 hb0
          obtain ⟨hc0, hf0⟩ := bcell hb0
          go_wp2_with fail
          go_ret
          exact Ans.bool (by rw [HE.out, allB_no hlt HQ.out]; simp) (up_trans hbw3 hb0)
      · have e : k = n := by omega
        subst e
        go_wp2_with fail
        go_ret
        exact Ans.bool (by rw [HE.out, HA.out]; simp) hb
set_option maxRecDepth 100000 in
set_option maxHeartbeats 2000000 in
theorem apList_g (v : Value) (n : Nat) (M : Nat → Nat → Int) (w : World) (h : Moves w v n M) (hn : n ≤ 1048576) :
    Calls Try.prog 57 #[v] w (Ans w (.bool (tgL n M))) := by
  obtain ⟨A, c, rfl, hnc, hrow⟩ := h
  have HE := Lib.hid (show tgL n M = (inB n 2 12 && allB (fun i => tgMM (M 0) (M i)) n) from rfl)
  go_enter Try.func57, Try.ntmps57
  go_wp2_with fail
  go_loopw [7] (fun i wr => ∃ k : Nat, k ≤ n ∧ i = .int .i64 k ∧ Below w.heap.size w wr ∧ allB (fun i => tgMM (M 0) (M i)) k = true) (fun i _ => n - (intOf i).toNat)
  case atStart => exact ⟨0, by omega, rfl, Below.refl _ _, rfl⟩
  case round =>
    obtain ⟨k, hk, rfl, hb, ha⟩ := hrel
    have HA := Lib.hid ha
    clear ha
    by_cases hlt : k < n
    · obtain ⟨b, o, rfl, hr⟩ := hrow (by omega)
      have g1 := (hr k hlt).up hb
      have g0 := (hr 0 (by omega)).up hb
      rw [Nat.zero_mul, Nat.add_zero] at g0
      obtain ⟨c0, c1, c2, c3, c4⟩ := g1
      have hn0 : (0 : Int) < (n : Int) := by omega
      clear hr hrow
      have HC := Lib.hid (apGood_mm (M 0) (M k))
      go_wp2_with fail
      generalize hW3 : World.alloc wr _ = W3 at *
      have hb3 : Below wr.heap.size wr W3 := by subst hW3; (repeat (first | with_reducible exact Below.refl _ _ | with_reducible assumption | with_reducible refine up_alloc ?_ _ | with_reducible refine up_drew ?_ | with_reducible refine up_drewN ?_ _ | (with_reducible refine up_set ?_ ?hset _; case hset => first | (simp; done) | (simp; omega) | omega) | with_reducible refine up_trans ?_ (by with_reducible assumption)))
      have hbw3 := up_trans hb hb3
      have e0 : W3.cell? ⟨wr.heap.size, 0, none⟩ = some (.int .i64 (M k 0)) := by subst hW3; simp [go_sem]
      have e1 : W3.cell? ⟨wr.heap.size, 1, none⟩ = some (.int .i64 (M k 1)) := by subst hW3; simp [go_sem]
      have e2 : W3.cell? ⟨wr.heap.size, 2, none⟩ = some (.int .i64 (M k 2)) := by subst hW3; simp [go_sem]
      have e3 : W3.cell? ⟨wr.heap.size, 3, none⟩ = some (.int .i64 (M k 3)) := by subst hW3; simp [go_sem]
      have e4 : W3.cell? ⟨wr.heap.size, 4, none⟩ = some (.int .i64 (M k 4)) := by subst hW3; simp [go_sem]
      have g3 := g0.up hb3
      have d0 := cell_regrown g3.c0
      have d1 := cell_regrown g3.c1
      have d2 := cell_regrown g3.c2
      have d3 := cell_regrown g3.c3
      have d4 := cell_regrown g3.c4
      replace e0 := cell_regrown e0
      replace e1 := cell_regrown e1
      replace e2 := cell_regrown e2
      replace e3 := cell_regrown e3
      replace e4 := cell_regrown e4
      clear hW3 g0 g3 c0 c1 c2 c3 c4
      cases hq : tgMM (M 0) (M k) with
      | true =>
        rw [hq] at HC
        have HQ := Lib.hid hq
        clear hq
        refine wp_region_up (by kernel_rfl) (by kernel_rfl) ?_
        repeat (go_big_quiet_step (exact up_of (fun W _ => HC.out W) _ _))
        refine wpQuiet_nil ?_
        intro w1 hb0
        obtain ⟨hc0, hf0⟩ := bcell hb0
        go_wp2_with fail
        go_roundw
        case rel => exact ⟨k + 1, by omega, by go_num, up_trans hbw3 hb0, allB_succ HA.out HQ.out⟩
        case measure => simp [intOf]; omega
      | false =>
        rw [hq] at HC
        have HQ := Lib.hid hq
        clear hq
        refine wp_region_up (by kernel_rfl) (by kernel_rfl) ?_
        repeat (go_big_quiet_step (exact up_of (fun W _ => HC.out W) _ _))
        refine wpQuiet_nil ?_
        intro w1 hb0
        obtain ⟨hc0, hf0⟩ := bcell hb0
        go_wp2_with fail
        go_ret
        exact Ans.bool (by rw [HE.out, allB_no hlt HQ.out]; simp) (up_trans hbw3 hb0)
    · have e : k = n := by omega
      subst e
      go_wp2_with (go_at_call 52; refine (l1In_any _ _ _ _).mono ?_; rintro e w1 ⟨rfl, rfl⟩)
      go_ret
      exact Ans.bool (by rw [HE.out, HA.out]; simp) hb
/-- The closest two so far, and their least square. -/
abbrev CSt : Type := (Nat × Nat) × (Int × Int)
def clStep (D : Nat → Nat → Int × Int) (s : CSt) (a b : Nat) : CSt := if lessB (D a b).1 (D a b).2 s.2.1 s.2.2 then ((a, b), D a b) else s
def clIn (D : Nat → Nat → Int × Int) (a : Nat) (s : CSt) : Nat → CSt
  | 0 => s
  | j + 1 => clStep D (clIn D a s j) a (a + 1 + j)
def clOut (D : Nat → Nat → Int × Int) (n : Nat) : Nat → CSt
  | 0 => ((0, 1), D 0 1)
  | a + 1 => clIn D a (clOut D n a) (n - (a + 1))
def clGood (D : Nat → Nat → Int × Int) (n : Nat) (s : CSt) : Prop := s.2 = D s.1.1 s.1.2 ∧ s.1.1 < n ∧ s.1.2 < n
theorem clStep_good {D : Nat → Nat → Int × Int} {n : Nat} {s : CSt} (h : clGood D n s) {a b : Nat} (ha : a < n) (hb : b < n) : clGood D n (clStep D s a b) := by
  unfold clStep
  split
  · exact ⟨rfl, ha, hb⟩
  · exact h
theorem clIn_good {D : Nat → Nat → Int × Int} {n : Nat} {s : CSt} (h : clGood D n s) {a : Nat} (ha : a < n) : ∀ j, a + 1 + j ≤ n → clGood D n (clIn D a s j)
  | 0, _ => h
  | j + 1, hj => clStep_good (clIn_good h ha j (by omega)) ha (by omega)
theorem clOut_good {D : Nat → Nat → Int × Int} {n : Nat} (hn : 2 ≤ n) : ∀ a, a ≤ n → clGood D n (clOut D n a)
  | 0, _ => ⟨rfl, by show 0 < n; omega, by show 1 < n; omega⟩
  | a + 1, ha => clIn_good (clOut_good hn a (by omega)) (by omega) _ (by omega)
def mmD (M : Nat → Nat → Int) (i j : Nat) : Int × Int := apMM (M i) (M j)
def DBd (p : Int × Int) : Prop := (0 ≤ p.1 ∧ p.1 ≤ 11838003609600) ∧ 1 ≤ p.2 ∧ p.2 ≤ 8359936
theorem mmD_bd {n : Nat} {M : Nat → Nat → Int} (h : ∀ i, i < n → mvB (M i) = true) {i j : Nat} (hi : i < n) (hj : j < n) : DBd (mmD M i j) := apMM_bd (h i hi) (h j hj)
set_option maxRecDepth 100000 in
set_option maxHeartbeats 4000000 in
theorem closestMoves_g (v : Value) (n : Nat) (M : Nat → Nat → Int) (w : World) (h : Moves w v n M) (ht : tgL n M = true) :
    Calls Try.prog 56 #[v] w (Ans w (.tuple #[.int .i64 ((clOut (mmD M) n n).1.1 : Nat), .int .i64 ((clOut (mmD M) n n).1.2 : Nat)])) := by
  obtain ⟨A, c, rfl, hnc, hrow⟩ := h
  obtain ⟨⟨n2, n12⟩, _, hmv⟩ := tgL_iff ht
  obtain ⟨b, o, rfl, hr⟩ := hrow (by omega)
  have HR := Lib.hid hr
  have HM := Lib.hid hmv
  have HG := Lib.hid (fun a ha => clOut_good (D := mmD M) (n := n) n2 a ha)
  have HB := Lib.hid (fun i j hi hj => mmD_bd (n := n) (M := M) hmv (i := i) (j := j) hi hj)
  have HCA := Lib.hid (fun i j (hi : i < n) (hj : j < n) => leastApart_mm (M i) (M j) (hmv i hi) (hmv j hj))
  have HD := Lib.hid (show ∀ i j, apMM (M i) (M j) = mmD M i j from fun _ _ => rfl)
  have H0 := Lib.hid (show clOut (mmD M) n 0 = ((0, 1), mmD M 0 1) from rfl)
  have HS := Lib.hid (show ∀ a, clOut (mmD M) n (a + 1) = clIn (mmD M) a (clOut (mmD M) n a) (n - (a + 1)) from fun _ => rfl)
  clear hr hrow hmv ht
  have g0 := HR.out 0 (by omega)
  have g1 := HR.out 1 (by omega)
  rw [Nat.zero_mul, Nat.add_zero] at g0
  rw [Nat.one_mul] at g1
  have hC := HCA.out 0 1 (by omega) (by omega)
  rw [HD.out] at hC
  have HC0 := Lib.hid hC
  clear hC
  obtain ⟨s0, hs0⟩ : ∃ s0, s0 = clOut (mmD M) n 0 := ⟨_, rfl⟩
  have e01 : (mmD M 0 1) = s0.2 := by rw [hs0, H0.out]
  rw [e01] at HC0
  have c0 := cell_regrown g0.c0
  have c1 := cell_regrown g0.c1
  have c2 := cell_regrown g0.c2
  have c3 := cell_regrown g0.c3
  have c4 := cell_regrown g0.c4
  have d0 := cell_regrown g1.c0
  have d1 := cell_regrown g1.c1
  have d2 := cell_regrown g1.c2
  have d3 := cell_regrown g1.c3
  have d4 := cell_regrown g1.c4
  have hn0 : (0 : Int) < (n : Int) := by omega
  have hn1 : (1 : Int) < (n : Int) := by omega
  have HE := Lib.hid hs0
  clear g0 g1 e01 hs0
  go_enter Try.func56, Try.ntmps56
  go_wp2_with fail
  refine wp_region_up (by kernel_rfl) (by kernel_rfl) ?_
  repeat (go_big_quiet_step (exact up_of (fun W _ => HC0.out W) _ _))
  refine wpQuiet_nil ?_
  intro w1 hb0
  obtain ⟨hc0, hf0⟩ := bcell hb0
  clear c0 c1 c2 c3 c4 d0 d1 d2 d3 d4 hc0 hf0
  go_wp2_with fail
  go_loopw [4, 5, 6, 7, 24] (fun p q t u i wr => ∃ a : Nat, a ≤ n ∧ i = .int .i64 a ∧ p = .int .i64 ((clOut (mmD M) n a).1.1 : Nat) ∧ q = .int .i64 ((clOut (mmD M) n a).1.2 : Nat) ∧ t = .int .i64 (clOut (mmD M) n a).2.1 ∧ u = .int .i64 (clOut (mmD M) n a).2.2 ∧ Below w.heap.size w wr) (fun _ _ _ _ i _ => n - (intOf i).toNat)
  case atStart => exact ⟨0, by omega, rfl, by rw [H0.out]; rfl, by rw [H0.out]; rfl, by rw [HE.out], by rw [HE.out], hb0⟩
  case round =>
    clear hb0
    obtain ⟨a, ha, rfl, rfl, rfl, rfl, rfl, hb⟩ := hrel
    by_cases hlt : a < n
    · have ga := HG.out a (by omega)
      obtain ⟨s, hs⟩ : ∃ s, s = clOut (mmD M) n a := ⟨_, rfl⟩
      rw [← hs] at ga ⊢
      have HSa := Lib.hid (show clOut (mmD M) n (a + 1) = clIn (mmD M) a s (n - (a + 1)) by rw [HS.out, hs])
      have HGI := Lib.hid (fun j hj => clIn_good ga hlt j hj)
      clear hs
      obtain ⟨W3, rfl⟩ : ∃ W3 : World, W3 = wr := ⟨_, rfl⟩
      have hbw := hb
      go_wp2_with fail
      go_loopw [4, 5, 6, 7, 9] (fun p q t u i wi => ∃ j : Nat, a + 1 + j ≤ n ∧ i = .int .i64 ((a + 1 + j : Nat) : Int) ∧ p = .int .i64 ((clIn (mmD M) a s j).1.1 : Nat) ∧ q = .int .i64 ((clIn (mmD M) a s j).1.2 : Nat) ∧ t = .int .i64 (clIn (mmD M) a s j).2.1 ∧ u = .int .i64 (clIn (mmD M) a s j).2.2 ∧ Below W3.heap.size W3 wi) (fun _ _ _ _ i _ => n - (intOf i).toNat)
      case atStart => exact ⟨0, by omega, congrArg (Value.int .i64) (by omega), rfl, rfl, rfl, rfl, Below.refl _ _⟩
      case round =>
        obtain ⟨j, hj, rfl, rfl, rfl, rfl, rfl, hb2⟩ := hrel
        by_cases hltj : a + 1 + j < n
        · have gj := HGI.out j hj
          have HSj := Lib.hid (show clIn (mmD M) a s (j + 1) = clStep (mmD M) (clIn (mmD M) a s j) a (a + 1 + j) from rfl)
          generalize clIn (mmD M) a s j = z at *
          have hC := HCA.out a (a + 1 + j) hlt hltj
          have bd := HB.out a (a + 1 + j) hlt hltj
          have bz : DBd z.2 := by rw [gj.1]; exact HB.out _ _ gj.2.1 gj.2.2
          rw [HD.out] at hC
          have HSq := Lib.hid (show clStep (mmD M) z a (a + 1 + j) = if lessB (mmD M a (a + 1 + j)).1 (mmD M a (a + 1 + j)).2 z.2.1 z.2.2 then ((a, a + 1 + j), mmD M a (a + 1 + j)) else z from rfl)
          generalize mmD M a (a + 1 + j) = r at *
          have HC := Lib.hid hC
          clear hC gj
          obtain ⟨⟨z1, z2⟩, z3, z4⟩ := z
          obtain ⟨r1, r2⟩ := r
          obtain ⟨⟨q1, q2⟩, q3, q4⟩ := bd
          obtain ⟨⟨q5, q6⟩, q7, q8⟩ := bz
          simp only at q1 q2 q3 q4 q5 q6 q7 q8 HSq HC
          have HLs := Lib.hid (lessFraction_any r1 r2 z3 z4 q1 q2 q3 q4 q5 q6 q7 q8)
          have gb := ((HR.out (a + 1 + j) hltj).up hbw).up hb2
          have d0 := cell_regrown gb.c0
          have d1 := cell_regrown gb.c1
          have d2 := cell_regrown gb.c2
          have d3 := cell_regrown gb.c3
          have d4 := cell_regrown gb.c4
          have ga2 := ((HR.out a hlt).up hbw).up hb2
          have c0 := cell_regrown ga2.c0
          have c1 := cell_regrown ga2.c1
          have c2 := cell_regrown ga2.c2
          have c3 := cell_regrown ga2.c3
          have c4 := cell_regrown ga2.c4
          clear gb ga2
          have i1 : (a : Int) < (n : Int) := by omega
          have i2 : ((a + 1 + j : Nat) : Int) < (n : Int) := by omega
          cases hq : lessB r1 r2 z3 z4 with
          | true =>
            rw [hq] at HLs
            have HZ := Lib.hid (show clIn (mmD M) a s (j + 1) = ((a, a + 1 + j), (r1, r2)) by rw [HSj.out, HSq.out, if_pos hq])
            clear hq
            go_wp2_with fail
            refine wp_region_up (by kernel_rfl) (by kernel_rfl) ?_
            repeat (go_big_quiet_step (exact up_of (fun W _ => HC.out W) _ _))
            refine wpQuiet_nil ?_
            intro w1 hb0
            obtain ⟨hc0, hf0⟩ := bcell hb0
            clear c0 c1 c2 c3 c4 d0 d1 d2 d3 d4 hc0 hf0
            go_wp2_with (go_at_call 73; refine (HLs.out _).mono ?_; rintro e wq ⟨rfl, hbq⟩)
            go_roundw
            case rel => exact ⟨j + 1, by omega, congrArg (Value.int .i64) (by omega), by rw [HZ.out], by rw [HZ.out]; exact congrArg (Value.int .i64) (show ((a : Int) + 1 + (j : Int)) = ((a + 1 + j : Nat) : Int) by omega), by rw [HZ.out], by rw [HZ.out], by (repeat (first | with_reducible exact Below.refl _ _ | with_reducible assumption | with_reducible refine up_alloc ?_ _ | with_reducible refine up_drew ?_ | with_reducible refine up_drewN ?_ _ | (with_reducible refine up_set ?_ ?hset _; case hset => first | (simp; done) | (simp; omega) | omega) | with_reducible refine up_trans ?_ (by with_reducible assumption)))⟩
            case measure => simp [intOf]; omega
          | false =>
            rw [hq] at HLs
            have HZ := Lib.hid (show clIn (mmD M) a s (j + 1) = ((z1, z2), (z3, z4)) by rw [HSj.out, HSq.out, if_neg (by rw [hq]; simp)])
            clear hq
            go_wp2_with fail
            refine wp_region_up (by kernel_rfl) (by kernel_rfl) ?_
            repeat (go_big_quiet_step (exact up_of (fun W _ => HC.out W) _ _))
            refine wpQuiet_nil ?_
            intro w1 hb0
            obtain ⟨hc0, hf0⟩ := bcell hb0
            clear c0 c1 c2 c3 c4 d0 d1 d2 d3 d4 hc0 hf0
            go_wp2_with (go_at_call 73; refine (HLs.out _).mono ?_; rintro e wq ⟨rfl, hbq⟩)
            go_roundw
            case rel => exact ⟨j + 1, by omega, congrArg (Value.int .i64) (by omega), by rw [HZ.out], by rw [HZ.out], by rw [HZ.out], by rw [HZ.out], by (repeat (first | with_reducible exact Below.refl _ _ | with_reducible assumption | with_reducible refine up_alloc ?_ _ | with_reducible refine up_drew ?_ | with_reducible refine up_drewN ?_ _ | (with_reducible refine up_set ?_ ?hset _; case hset => first | (simp; done) | (simp; omega) | omega) | with_reducible refine up_trans ?_ (by with_reducible assumption)))⟩
            case measure => simp [intOf]; omega
        · have ej : j = n - (a + 1) := by omega
          subst ej
          go_wp2_with fail
          go_roundw
          case rel => exact ⟨a + 1, by omega, by go_num, by rw [HSa.out], by rw [HSa.out], by rw [HSa.out], by rw [HSa.out], hbw.trans (hb2.mono hbw.size)⟩
          case measure => simp [intOf]; omega
    · have e : a = n := by omega
      subst e
      go_wp2_with fail
      go_ret2
      exact ⟨rfl, hb⟩
set_option maxRecDepth 100000 in
set_option maxHeartbeats 4000000 in
theorem apClosest_g (v : Value) (n : Nat) (M : Nat → Nat → Int) (w : World) (h : Moves w v n M) (ht : tgL n M = true) :
    Calls Try.prog 58 #[v] w (Ans w (.tuple #[.int .i64 ((clOut (mmD M) n n).1.1 : Nat), .int .i64 ((clOut (mmD M) n n).1.2 : Nat)])) := by
  obtain ⟨A, c, rfl, hnc, hrow⟩ := h
  obtain ⟨⟨n2, n12⟩, _, hmv⟩ := tgL_iff ht
  obtain ⟨b, o, rfl, hr⟩ := hrow (by omega)
  have HR := Lib.hid hr
  have HM := Lib.hid hmv
  have HG := Lib.hid (fun a ha => clOut_good (D := mmD M) (n := n) n2 a ha)
  have HB := Lib.hid (fun i j hi hj => mmD_bd (n := n) (M := M) hmv (i := i) (j := j) hi hj)
  have HCA := Lib.hid (fun i j (hi : i < n) (hj : j < n) => apLeast_mm (M i) (M j) (hmv i hi) (hmv j hj))
  have HD := Lib.hid (show ∀ i j, apMM (M i) (M j) = mmD M i j from fun _ _ => rfl)
  have H0 := Lib.hid (show clOut (mmD M) n 0 = ((0, 1), mmD M 0 1) from rfl)
  have HS := Lib.hid (show ∀ a, clOut (mmD M) n (a + 1) = clIn (mmD M) a (clOut (mmD M) n a) (n - (a + 1)) from fun _ => rfl)
  clear hr hrow hmv ht
  have g0 := HR.out 0 (by omega)
  have g1 := HR.out 1 (by omega)
  rw [Nat.zero_mul, Nat.add_zero] at g0
  rw [Nat.one_mul] at g1
  have hC := HCA.out 0 1 (by omega) (by omega)
  rw [HD.out] at hC
  have HC0 := Lib.hid hC
  clear hC
  obtain ⟨s0, hs0⟩ : ∃ s0, s0 = clOut (mmD M) n 0 := ⟨_, rfl⟩
  have e01 : (mmD M 0 1) = s0.2 := by rw [hs0, H0.out]
  rw [e01] at HC0
  have c0 := cell_regrown g0.c0
  have c1 := cell_regrown g0.c1
  have c2 := cell_regrown g0.c2
  have c3 := cell_regrown g0.c3
  have c4 := cell_regrown g0.c4
  have d0 := cell_regrown g1.c0
  have d1 := cell_regrown g1.c1
  have d2 := cell_regrown g1.c2
  have d3 := cell_regrown g1.c3
  have d4 := cell_regrown g1.c4
  have hn0 : (0 : Int) < (n : Int) := by omega
  have hn1 : (1 : Int) < (n : Int) := by omega
  have HE := Lib.hid hs0
  clear g0 g1 e01 hs0
  go_enter Try.func58, Try.ntmps58
  go_wp2_with fail
  refine wp_region_up (by kernel_rfl) (by kernel_rfl) ?_
  repeat (go_big_quiet_step (exact up_of (fun W _ => HC0.out W) _ _))
  refine wpQuiet_nil ?_
  intro w1 hb0
  obtain ⟨hc0, hf0⟩ := bcell hb0
  clear c0 c1 c2 c3 c4 d0 d1 d2 d3 d4 hc0 hf0
  go_wp2_with fail
  go_loopw [4, 5, 6, 7, 25] (fun p q t u i wr => ∃ a : Nat, a ≤ n ∧ i = .int .i64 a ∧ p = .int .i64 ((clOut (mmD M) n a).1.1 : Nat) ∧ q = .int .i64 ((clOut (mmD M) n a).1.2 : Nat) ∧ t = .int .i64 (clOut (mmD M) n a).2.1 ∧ u = .int .i64 (clOut (mmD M) n a).2.2 ∧ Below w.heap.size w wr) (fun _ _ _ _ i _ => n - (intOf i).toNat)
  case atStart => exact ⟨0, by omega, rfl, by rw [H0.out]; rfl, by rw [H0.out]; rfl, by rw [HE.out], by rw [HE.out], hb0⟩
  case round =>
    clear hb0
    obtain ⟨a, ha, rfl, rfl, rfl, rfl, rfl, hb⟩ := hrel
    by_cases hlt : a < n
    · have ga := HG.out a (by omega)
      obtain ⟨s, hs⟩ : ∃ s, s = clOut (mmD M) n a := ⟨_, rfl⟩
      rw [← hs] at ga ⊢
      have HSa := Lib.hid (show clOut (mmD M) n (a + 1) = clIn (mmD M) a s (n - (a + 1)) by rw [HS.out, hs])
      have HGI := Lib.hid (fun j hj => clIn_good ga hlt j hj)
      clear hs
      have gr := (HR.out a hlt).up hb
      obtain ⟨x0, x1, x2, x3, x4⟩ := gr
      go_wp2_with fail
      generalize hW3 : World.alloc wr _ = W3 at *
      have hb3 : Below wr.heap.size wr W3 := by subst hW3; (repeat (first | with_reducible exact Below.refl _ _ | with_reducible assumption | with_reducible refine up_alloc ?_ _ | with_reducible refine up_drew ?_ | with_reducible refine up_drewN ?_ _ | (with_reducible refine up_set ?_ ?hset _; case hset => first | (simp; done) | (simp; omega) | omega) | with_reducible refine up_trans ?_ (by with_reducible assumption)))
      have hbw := up_trans hb hb3
      have y0 : W3.cell? ⟨wr.heap.size, 0, none⟩ = some (.int .i64 (M a 0)) := by subst hW3; simp [go_sem]
      have y1 : W3.cell? ⟨wr.heap.size, 1, none⟩ = some (.int .i64 (M a 1)) := by subst hW3; simp [go_sem]
      have y2 : W3.cell? ⟨wr.heap.size, 2, none⟩ = some (.int .i64 (M a 2)) := by subst hW3; simp [go_sem]
      have y3 : W3.cell? ⟨wr.heap.size, 3, none⟩ = some (.int .i64 (M a 3)) := by subst hW3; simp [go_sem]
      have y4 : W3.cell? ⟨wr.heap.size, 4, none⟩ = some (.int .i64 (M a 4)) := by subst hW3; simp [go_sem]
      clear hW3 x0 x1 x2 x3 x4
      go_loopw [4, 5, 6, 7, 10] (fun p q t u i wi => ∃ j : Nat, a + 1 + j ≤ n ∧ i = .int .i64 ((a + 1 + j : Nat) : Int) ∧ p = .int .i64 ((clIn (mmD M) a s j).1.1 : Nat) ∧ q = .int .i64 ((clIn (mmD M) a s j).1.2 : Nat) ∧ t = .int .i64 (clIn (mmD M) a s j).2.1 ∧ u = .int .i64 (clIn (mmD M) a s j).2.2 ∧ Below W3.heap.size W3 wi) (fun _ _ _ _ i _ => n - (intOf i).toNat)
      case atStart => exact ⟨0, by omega, congrArg (Value.int .i64) (by omega), rfl, rfl, rfl, rfl, Below.refl _ _⟩
      case round =>
        obtain ⟨j, hj, rfl, rfl, rfl, rfl, rfl, hb2⟩ := hrel
        by_cases hltj : a + 1 + j < n
        · have gj := HGI.out j hj
          have HSj := Lib.hid (show clIn (mmD M) a s (j + 1) = clStep (mmD M) (clIn (mmD M) a s j) a (a + 1 + j) from rfl)
          generalize clIn (mmD M) a s j = z at *
          have hC := HCA.out a (a + 1 + j) hlt hltj
          have bd := HB.out a (a + 1 + j) hlt hltj
          have bz : DBd z.2 := by rw [gj.1]; exact HB.out _ _ gj.2.1 gj.2.2
          rw [HD.out] at hC
          have HSq := Lib.hid (show clStep (mmD M) z a (a + 1 + j) = if lessB (mmD M a (a + 1 + j)).1 (mmD M a (a + 1 + j)).2 z.2.1 z.2.2 then ((a, a + 1 + j), mmD M a (a + 1 + j)) else z from rfl)
          generalize mmD M a (a + 1 + j) = r at *
          have HC := Lib.hid hC
          clear hC gj
          obtain ⟨⟨z1, z2⟩, z3, z4⟩ := z
          obtain ⟨r1, r2⟩ := r
          obtain ⟨⟨q1, q2⟩, q3, q4⟩ := bd
          obtain ⟨⟨q5, q6⟩, q7, q8⟩ := bz
          simp only at q1 q2 q3 q4 q5 q6 q7 q8 HSq HC
          have HLs := Lib.hid (apLess_any r1 r2 z3 z4 q1 q2 q3 q4 q5 q6 q7 q8)
          have gb := ((HR.out (a + 1 + j) hltj).up hbw).up hb2
          have d0 := cell_regrown gb.c0
          have d1 := cell_regrown gb.c1
          have d2 := cell_regrown gb.c2
          have d3 := cell_regrown gb.c3
          have d4 := cell_regrown gb.c4
          have c0 := cell_regrown (up_keep hb2 y0)
          have c1 := cell_regrown (up_keep hb2 y1)
          have c2 := cell_regrown (up_keep hb2 y2)
          have c3 := cell_regrown (up_keep hb2 y3)
          have c4 := cell_regrown (up_keep hb2 y4)
          clear gb
          have i1 : (a : Int) < (n : Int) := by omega
          have i2 : ((a + 1 + j : Nat) : Int) < (n : Int) := by omega
          cases hq : lessB r1 r2 z3 z4 with
          | true =>
            rw [hq] at HLs
            have HZ := Lib.hid (show clIn (mmD M) a s (j + 1) = ((a, a + 1 + j), (r1, r2)) by rw [HSj.out, HSq.out, if_pos hq])
            clear hq
            go_wp2_with fail
            refine wp_region_up (by kernel_rfl) (by kernel_rfl) ?_
            repeat (go_big_quiet_step (exact up_of (fun W _ => HC.out W) _ _))
            refine wpQuiet_nil ?_
            intro w1 hb0
            obtain ⟨hc0, hf0⟩ := bcell hb0
            clear c0 c1 c2 c3 c4 d0 d1 d2 d3 d4 hc0 hf0
            go_wp2_with (go_at_call 74; refine (HLs.out _).mono ?_; rintro e wq ⟨rfl, hbq⟩)
            go_roundw
            case rel => exact ⟨j + 1, by omega, congrArg (Value.int .i64) (by omega), by rw [HZ.out], by rw [HZ.out]; exact congrArg (Value.int .i64) (show ((a : Int) + 1 + (j : Int)) = ((a + 1 + j : Nat) : Int) by omega), by rw [HZ.out], by rw [HZ.out], by (repeat (first | with_reducible exact Below.refl _ _ | with_reducible assumption | with_reducible refine up_alloc ?_ _ | with_reducible refine up_drew ?_ | with_reducible refine up_drewN ?_ _ | (with_reducible refine up_set ?_ ?hset _; case hset => first | (simp; done) | (simp; omega) | omega) | with_reducible refine up_trans ?_ (by with_reducible assumption)))⟩
            case measure => simp [intOf]; omega
          | false =>
            rw [hq] at HLs
            have HZ := Lib.hid (show clIn (mmD M) a s (j + 1) = ((z1, z2), (z3, z4)) by rw [HSj.out, HSq.out, if_neg (by rw [hq]; simp)])
            clear hq
            go_wp2_with fail
            refine wp_region_up (by kernel_rfl) (by kernel_rfl) ?_
            repeat (go_big_quiet_step (exact up_of (fun W _ => HC.out W) _ _))
            refine wpQuiet_nil ?_
            intro w1 hb0
            obtain ⟨hc0, hf0⟩ := bcell hb0
            clear c0 c1 c2 c3 c4 d0 d1 d2 d3 d4 hc0 hf0
            go_wp2_with (go_at_call 74; refine (HLs.out _).mono ?_; rintro e wq ⟨rfl, hbq⟩)
            go_roundw
            case rel => exact ⟨j + 1, by omega, congrArg (Value.int .i64) (by omega), by rw [HZ.out], by rw [HZ.out], by rw [HZ.out], by rw [HZ.out], by (repeat (first | with_reducible exact Below.refl _ _ | with_reducible assumption | with_reducible refine up_alloc ?_ _ | with_reducible refine up_drew ?_ | with_reducible refine up_drewN ?_ _ | (with_reducible refine up_set ?_ ?hset _; case hset => first | (simp; done) | (simp; omega) | omega) | with_reducible refine up_trans ?_ (by with_reducible assumption)))⟩
            case measure => simp [intOf]; omega
        · have ej : j = n - (a + 1) := by omega
          subst ej
          go_wp2_with fail
          go_roundw
          case rel => exact ⟨a + 1, by omega, by go_num, by rw [HSa.out], by rw [HSa.out], by rw [HSa.out], by rw [HSa.out], hbw.trans (hb2.mono hbw.size)⟩
          case measure => simp [intOf]; omega
    · have e : a = n := by omega
      subst e
      go_wp2_with fail
      go_ret2
      exact ⟨rfl, hb⟩
/-- What both sides' ClosestMoves and LeastOfAll hand back. -/
def cmV (n : Nat) (M : Nat → Nat → Int) : Value := if tgL n M then .tuple #[.int .i64 ((clOut (mmD M) n n).1.1 : Nat), .int .i64 ((clOut (mmD M) n n).1.2 : Nat), .bool true] else .tuple #[.int .i64 0, .int .i64 0, .bool false]
def loaV (n : Nat) (M : Nat → Nat → Int) : Value := if tgL n M then .tuple #[.int .i64 (clOut (mmD M) n n).2.1, .int .i64 (clOut (mmD M) n n).2.2, .bool true] else .tuple #[.int .i64 0, .int .i64 0, .bool false]
set_option maxRecDepth 100000 in
set_option maxHeartbeats 2000000 in
theorem iClosestMoves_any (v : Value) (n : Nat) (M : Nat → Nat → Int) (w : World) (h : Moves w v n M) (hn : n ≤ 1048576) :
    Calls Try.prog 22 #[v] w (Ans w (cmV n M)) := by
  have HT := Lib.hid (areTogether_g v n M w h hn)
  cases ht : tgL n M with
  | false =>
    rw [ht] at HT
    have HV := Lib.hid (show cmV n M = .tuple #[.int .i64 0, .int .i64 0, .bool false] by simp [cmV, ht])
    clear h ht
    go_enter Try.func22, Try.ntmps22
    go_wp2_with (go_at_call 55; refine HT.out.mono ?_; rintro e w1 ⟨rfl, hb⟩)
    go_ret3
    rw [HV.out]
    exact ⟨rfl, hb⟩
  | true =>
    rw [ht] at HT
    have HC := Lib.hid (fun W (hW : Below w.heap.size w W) => closestMoves_g v n M W (h.up hW) ht)
    have HV := Lib.hid (show cmV n M = .tuple #[.int .i64 ((clOut (mmD M) n n).1.1 : Nat), .int .i64 ((clOut (mmD M) n n).1.2 : Nat), .bool true] by simp [cmV, ht])
    clear h ht
    go_enter Try.func22, Try.ntmps22
    go_wp2_with (first | (go_at_call 55; refine HT.out.mono ?_; rintro e w1 ⟨rfl, hb⟩) | (go_at_call 56; refine (HC.out _ hb).mono ?_; rintro e w2 ⟨rfl, hb2⟩))
    go_ret3
    rw [HV.out]
    exact ⟨rfl, up_trans hb hb2⟩
set_option maxRecDepth 100000 in
set_option maxHeartbeats 2000000 in
theorem sClosestMoves_any (v : Value) (n : Nat) (M : Nat → Nat → Int) (w : World) (h : Moves w v n M) (hn : n ≤ 1048576) :
    Calls Try.prog 23 #[v] w (Ans w (cmV n M)) := by
  have HT := Lib.hid (apList_g v n M w h hn)
  cases ht : tgL n M with
  | false =>
    rw [ht] at HT
    have HV := Lib.hid (show cmV n M = .tuple #[.int .i64 0, .int .i64 0, .bool false] by simp [cmV, ht])
    clear h ht
    go_enter Try.func23, Try.ntmps23
    go_wp2_with (go_at_call 57; refine HT.out.mono ?_; rintro e w1 ⟨rfl, hb⟩)
    go_ret3
    rw [HV.out]
    exact ⟨rfl, hb⟩
  | true =>
    rw [ht] at HT
    have HC := Lib.hid (fun W (hW : Below w.heap.size w W) => apClosest_g v n M W (h.up hW) ht)
    have HV := Lib.hid (show cmV n M = .tuple #[.int .i64 ((clOut (mmD M) n n).1.1 : Nat), .int .i64 ((clOut (mmD M) n n).1.2 : Nat), .bool true] by simp [cmV, ht])
    clear h ht
    go_enter Try.func23, Try.ntmps23
    go_wp2_with (first | (go_at_call 57; refine HT.out.mono ?_; rintro e w1 ⟨rfl, hb⟩) | (go_at_call 58; refine (HC.out _ hb).mono ?_; rintro e w2 ⟨rfl, hb2⟩))
    go_ret3
    rw [HV.out]
    exact ⟨rfl, up_trans hb hb2⟩
set_option maxRecDepth 100000 in
set_option maxHeartbeats 2000000 in
theorem iLeastOfAll_any (v : Value) (n : Nat) (M : Nat → Nat → Int) (w : World) (h : Moves w v n M) (hn : n ≤ 1048576) :
    Calls Try.prog 24 #[v] w (Ans w (loaV n M)) := by
  have HT := Lib.hid (areTogether_g v n M w h hn)
  cases ht : tgL n M with
  | false =>
    rw [ht] at HT
    have HV := Lib.hid (show loaV n M = .tuple #[.int .i64 0, .int .i64 0, .bool false] by simp [loaV, ht])
    clear h ht
    go_enter Try.func24, Try.ntmps24
    go_wp2_with (go_at_call 55; refine HT.out.mono ?_; rintro e w1 ⟨rfl, hb⟩)
    go_ret3
    rw [HV.out]
    exact ⟨rfl, hb⟩
  | true =>
    rw [ht] at HT
    have HC := Lib.hid (fun W (hW : Below w.heap.size w W) => closestMoves_g v n M W (h.up hW) ht)
    have HV := Lib.hid (show loaV n M = .tuple #[.int .i64 (clOut (mmD M) n n).2.1, .int .i64 (clOut (mmD M) n n).2.2, .bool true] by simp [loaV, ht])
    obtain ⟨⟨n2, n12⟩, _, hmv⟩ := tgL_iff ht
    have hg := clOut_good (D := mmD M) n2 n (Nat.le_refl _)
    obtain ⟨A, c, rfl, hnc, hrow⟩ := h
    obtain ⟨b, o, rfl, hr⟩ := hrow (by omega)
    have HR := Lib.hid hr
    generalize clOut (mmD M) n n = z at *
    obtain ⟨⟨i, k⟩, r⟩ := z
    obtain ⟨g1, g2, g3⟩ := hg
    simp only at g1 g2 g3 HC HV
    have HL := Lib.hid (show ∀ W, Calls Try.prog 35 #[mvV (M i), mvV (M k)] W (Ans W (.tuple #[.int .i64 r.1, .int .i64 r.2])) by rw [g1]; exact leastApart_mm (M i) (M k) (hmv i g2) (hmv k g3))
    have hi : (i : Int) < (n : Int) := by omega
    have hk : (k : Int) < (n : Int) := by omega
    clear hr hrow hmv ht g1
    go_enter Try.func24, Try.ntmps24
    go_wp2_with (first | (go_at_call 55; refine HT.out.mono ?_; rintro e w1 ⟨rfl, hb⟩) | (go_at_call 56; refine (HC.out _ hb).mono ?_; rintro e w2 ⟨rfl, hb2⟩))
    have hbw := up_trans hb hb2
    have ga := (HR.out i g2).up hbw
    have gk := (HR.out k g3).up hbw
    have c0 := cell_regrown ga.c0
    have c1 := cell_regrown ga.c1
    have c2 := cell_regrown ga.c2
    have c3 := cell_regrown ga.c3
    have c4 := cell_regrown ga.c4
    have d0 := cell_regrown gk.c0
    have d1 := cell_regrown gk.c1
    have d2 := cell_regrown gk.c2
    have d3 := cell_regrown gk.c3
    have d4 := cell_regrown gk.c4
    clear ga gk
    refine wp_region_up (by kernel_rfl) (by kernel_rfl) ?_
    repeat (go_big_quiet_step (exact up_of (fun W _ => HL.out W) _ _))
    refine wpQuiet_nil ?_
    intro w1 hb0
    obtain ⟨hc0, hf0⟩ := bcell hb0
    clear c0 c1 c2 c3 c4 d0 d1 d2 d3 d4 hc0 hf0
    go_wp2_with fail
    go_ret3
    rw [HV.out]
    exact ⟨rfl, up_trans hbw hb0⟩
set_option maxRecDepth 100000 in
set_option maxHeartbeats 2000000 in
theorem sLeastOfAll_any (v : Value) (n : Nat) (M : Nat → Nat → Int) (w : World) (h : Moves w v n M) (hn : n ≤ 1048576) :
    Calls Try.prog 25 #[v] w (Ans w (loaV n M)) := by
  have HT := Lib.hid (apList_g v n M w h hn)
  cases ht : tgL n M with
  | false =>
    rw [ht] at HT
    have HV := Lib.hid (show loaV n M = .tuple #[.int .i64 0, .int .i64 0, .bool false] by simp [loaV, ht])
    clear h ht
    go_enter Try.func25, Try.ntmps25
    go_wp2_with (go_at_call 57; refine HT.out.mono ?_; rintro e w1 ⟨rfl, hb⟩)
    go_ret3
    rw [HV.out]
    exact ⟨rfl, hb⟩
  | true =>
    rw [ht] at HT
    have HC := Lib.hid (fun W (hW : Below w.heap.size w W) => apClosest_g v n M W (h.up hW) ht)
    have HV := Lib.hid (show loaV n M = .tuple #[.int .i64 (clOut (mmD M) n n).2.1, .int .i64 (clOut (mmD M) n n).2.2, .bool true] by simp [loaV, ht])
    obtain ⟨⟨n2, n12⟩, _, hmv⟩ := tgL_iff ht
    have hg := clOut_good (D := mmD M) n2 n (Nat.le_refl _)
    obtain ⟨A, c, rfl, hnc, hrow⟩ := h
    obtain ⟨b, o, rfl, hr⟩ := hrow (by omega)
    have HR := Lib.hid hr
    generalize clOut (mmD M) n n = z at *
    obtain ⟨⟨i, k⟩, r⟩ := z
    obtain ⟨g1, g2, g3⟩ := hg
    simp only at g1 g2 g3 HC HV
    have HL := Lib.hid (show ∀ W, Calls Try.prog 37 #[mvV (M i), mvV (M k)] W (Ans W (.tuple #[.int .i64 r.1, .int .i64 r.2])) by rw [g1]; exact apLeast_mm (M i) (M k) (hmv i g2) (hmv k g3))
    have hi : (i : Int) < (n : Int) := by omega
    have hk : (k : Int) < (n : Int) := by omega
    clear hr hrow hmv ht g1
    go_enter Try.func25, Try.ntmps25
    go_wp2_with (first | (go_at_call 57; refine HT.out.mono ?_; rintro e w1 ⟨rfl, hb⟩) | (go_at_call 58; refine (HC.out _ hb).mono ?_; rintro e w2 ⟨rfl, hb2⟩))
    have hbw := up_trans hb hb2
    have ga := (HR.out i g2).up hbw
    have gk := (HR.out k g3).up hbw
    have c0 := cell_regrown ga.c0
    have c1 := cell_regrown ga.c1
    have c2 := cell_regrown ga.c2
    have c3 := cell_regrown ga.c3
    have c4 := cell_regrown ga.c4
    have d0 := cell_regrown gk.c0
    have d1 := cell_regrown gk.c1
    have d2 := cell_regrown gk.c2
    have d3 := cell_regrown gk.c3
    have d4 := cell_regrown gk.c4
    clear ga gk
    refine wp_region_up (by kernel_rfl) (by kernel_rfl) ?_
    repeat (go_big_quiet_step (exact up_of (fun W _ => HL.out W) _ _))
    refine wpQuiet_nil ?_
    intro w1 hb0
    obtain ⟨hc0, hf0⟩ := bcell hb0
    clear c0 c1 c2 c3 c4 d0 d1 d2 d3 d4 hc0 hf0
    go_wp2_with fail
    go_ret3
    rw [HV.out]
    exact ⟨rfl, up_trans hbw hb0⟩
end Go.Proofs.Ytljdhicmcmppgaa
namespace Go.Proofs.Ytljdhicmcmppgaa
open Go.RowKit Go.ChangeShapes Go.WideShapes Go.Sort

section
variable {lo hi base : Nat} {w w' : World} {v : Value} {n : Nat} {M M' : Nat → Nat → Int}
theorem Cells5.turn {b o : Nat} {a : Nat → Int} (h : Cells5 w b o a) (ht : Turned lo hi w w') (hb : b < lo ∨ hi ≤ b) : Cells5 w' b o a :=
  ⟨ht.cell h.c0 hb, ht.cell h.c1 hb, ht.cell h.c2 hb, ht.cell h.c3 hb, ht.cell h.c4 hb⟩
theorem Row5.turn {b o : Nat} (h : Row5 w b o n M) (ht : Turned lo hi w w') (hb : b < lo ∨ hi ≤ b) : Row5 w' b o n M := fun i hi => (h i hi).turn ht hb
theorem OwnM.turn (h : OwnM base w v n M) (ht : Turned lo hi w w') (hb : hi ≤ base) : OwnM base w' v n M := by
  obtain ⟨A, c, hv, hc, hr⟩ := h
  exact ⟨A, c, hv, hc, fun hn => by obtain ⟨b, o, ha, h1, h2, h⟩ := hr hn; exact ⟨b, o, ha, h1, ht.free h2 (h.lt hn) (by omega), h.turn ht (by omega)⟩⟩
theorem Moves.turn {wb : World} {M0 : Nat → Nat → Int} (h0 : Moves wb v n M0) (h : Moves w v n M) (ht : Turned lo hi w w') (hl : lo ≤ w.heap.size) (hb : wb.heap.size ≤ lo) : Moves w' v n M := by
  obtain ⟨A, c, rfl, hc, hr⟩ := h
  refine ⟨A, c, rfl, hc, fun hm => ?_⟩
  obtain ⟨b, o, rfl, h1⟩ := hr hm
  obtain ⟨A', c', he, _, hr0⟩ := h0
  obtain ⟨b', o', hA', h2⟩ := hr0 hm
  injection he with e1 e2 e3
  have e4 := e1.trans hA'
  injection e4 with e5
  injection e5 with e6
  have := h2.lt hm
  exact ⟨b, o, rfl, h1.turn ht (by omega)⟩
theorem markM_turned {wx : World} (hv : OwnM base w v n M) (hx : Moves wx v n M') (hg : w.grownBy w' (if n = 0 then none else v.ownBlock)) : Turned base wx.heap.size w w' := by
  refine Turned.of_grown hg (fun k hk => ?_)
  split at hk
  · cases hk
  · rename_i hn0
    have hpos : 0 < n := Nat.pos_of_ne_zero hn0
    obtain ⟨A, c, rfl, hc, hr⟩ := hv
    obtain ⟨b, o, rfl, h1, _⟩ := hr hpos
    obtain ⟨A', c', e, hc', hr'⟩ := hx
    obtain ⟨b', o', e', h2⟩ := hr' hpos
    have := h2.lt hpos
    cases e
    cases e'
    simp [Value.ownBlock] at hk
    omega
end
/-- The marks from k0 on. -/
def markV (k0 : Int) (i j : Nat) : Int := k0 + 5 * i + j
def MarkAnsM (base : Nat) (v : Value) (n : Nat) (k0 : Int) (w : World) (e : Ending) (w' : World) : Prop :=
  e = .returned (.int .i64 (k0 + 5 * n)) ∧ w.grownBy w' (if n = 0 then none else v.ownBlock) ∧ OwnM base w' v n (markV k0)
end Go.Proofs.Ytljdhicmcmppgaa
namespace Go.Proofs.Ytljdhicmcmppgaa
open Go.RowKit

/-- The n cells from ⟨b, o⟩ on hold these values. -/
def RowV (w : World) (b o n : Nat) (V : Nat → Value) : Prop := ∀ i, i < n → w.cell? ⟨b, o + i, none⟩ = some (V i)
section
variable {w w' : World} {b o n : Nat} {V V' : Nat → Value}
theorem RowV.lt (h : RowV w b o n V) (hn : 0 < n) : b < w.heap.size := lt_of_cell (h 0 hn)
theorem RowV.up (h : RowV w b o n V) (hb : Below w.heap.size w w') : RowV w' b o n V := fun i hi => up_keep hb (h i hi)
theorem RowV.turn {lo hi : Nat} (h : RowV w b o n V) (ht : Turned lo hi w w') (hb : b < lo ∨ hi ≤ b) : RowV w' b o n V := fun i hi => ht.cell (h i hi) hb
theorem RowV.only (h : RowV w b o n V) {row : Option Nat} (hg : w.grownBy w' row) (hr : row ≠ some b) : RowV w' b o n V := fun i hi =>
  (World.cell?_of_block (a := ⟨b, o + i, none⟩) (hg.block b (lt_of_cell (h i hi)) (Ne.symm hr))).trans (h i hi)
end
/-- The slice value v reads as n rows of ints: the i-th has R i numbers, F i. -/
def IRows (w : World) (v : Value) (n : Nat) (R : Nat → Nat) (F : Nat → Nat → Int) : Prop := ∃ A c V, v = .slice A n c ∧ n ≤ c ∧ (0 < n → ∃ b o, A = some ⟨b, o, none⟩ ∧ RowV w b o n V) ∧ ∀ i, i < n → Ints w (V i) (R i) (F i)
theorem IRows.up {w w' : World} {v : Value} {n : Nat} {R : Nat → Nat} {F : Nat → Nat → Int} (h : IRows w v n R F) (hb : Below w.heap.size w w') : IRows w' v n R F := by
  obtain ⟨A, c, V, hv, hc, hr, hf⟩ := h
  exact ⟨A, c, V, hv, hc, fun hn => by obtain ⟨b, o, ha, h⟩ := hr hn; exact ⟨b, o, ha, h.up hb⟩, fun i hi => (hf i hi).up hb⟩
theorem IRows.shape {w : World} {v : Value} {n : Nat} {R : Nat → Nat} {F : Nat → Nat → Int} (h : IRows w v n R F) : ∃ A c, v = .slice A n c ∧ n ≤ c := by
  obtain ⟨A, c, V, hv, hc, _⟩ := h
  exact ⟨A, c, hv, hc⟩
/-- .. in memory of its own, each row in a block of its own. -/
def OwnRw (base : Nat) (w : World) (v : Value) (n : Nat) (R : Nat → Nat) (F : Nat → Nat → Int) : Prop := ∃ A c V, v = .slice A n c ∧ n ≤ c ∧
  (0 < n → ∃ b o, A = some ⟨b, o, none⟩ ∧ base ≤ b ∧ RowV w b o n V ∧ ∀ i, i < n → 0 < R i → (V i).ownBlock ≠ some b) ∧ (∀ i, i < n → OwnI base w (V i) (R i) (F i)) ∧
  ∀ i j, i < n → j < n → i ≠ j → 0 < R i → 0 < R j → (V i).ownBlock ≠ (V j).ownBlock
section
variable {base lo hi : Nat} {w w' : World} {v : Value} {n : Nat} {R : Nat → Nat} {F F' : Nat → Nat → Int}
theorem OwnRw.rows (h : OwnRw base w v n R F) : IRows w v n R F := by
  obtain ⟨A, c, V, hv, hc, hr, hf, _⟩ := h
  exact ⟨A, c, V, hv, hc, fun hn => by obtain ⟨b, o, ha, _, h, _⟩ := hr hn; exact ⟨b, o, ha, h⟩, fun i hi => (hf i hi).ints⟩
theorem OwnRw.up (h : OwnRw base w v n R F) (hb : Below w.heap.size w w') : OwnRw base w' v n R F := by
  obtain ⟨A, c, V, hv, hc, hr, hf, hd⟩ := h
  exact ⟨A, c, V, hv, hc, fun hn => by obtain ⟨b, o, ha, h1, h, h2⟩ := hr hn; exact ⟨b, o, ha, h1, h.up hb, h2⟩, fun i hi => (hf i hi).up hb, hd⟩
theorem OwnRw.more (h : OwnRw base w v n R F) {base' : Nat} (hb : base' ≤ base) : OwnRw base' w v n R F := by
  obtain ⟨A, c, V, hv, hc, hr, hf, hd⟩ := h
  exact ⟨A, c, V, hv, hc, fun hn => by obtain ⟨b, o, ha, h1, h, h2⟩ := hr hn; exact ⟨b, o, ha, by omega, h, h2⟩, fun i hi => (hf i hi).more hb, hd⟩
theorem OwnRw.turn (h : OwnRw base w v n R F) (ht : Turned lo hi w w') (hb : hi ≤ base) : OwnRw base w' v n R F := by
  obtain ⟨A, c, V, hv, hc, hr, hf, hd⟩ := h
  exact ⟨A, c, V, hv, hc, fun hn => by obtain ⟨b, o, ha, h1, h, h2⟩ := hr hn; exact ⟨b, o, ha, h1, h.turn ht (by omega), h2⟩, fun i hi => (hf i hi).turn ht hb, hd⟩
theorem OwnRw.cong (h : OwnRw base w v n R F) (hx : ∀ i, i < n → ∀ j, j < R i → F i j = F' i j) : OwnRw base w v n R F' := by
  obtain ⟨A, c, V, hv, hc, hr, hf, hd⟩ := h
  exact ⟨A, c, V, hv, hc, hr, fun i hi => (hf i hi).cong (hx i hi), hd⟩
theorem OwnRw.nil : OwnRw base w (.slice none 0 0) 0 R F := ⟨_, _, fun _ => .slice none 0 0, rfl, Nat.le_refl _, fun h => absurd h (by omega), fun i hi => absurd hi (by omega), fun i j hi => absurd hi (by omega)⟩
end
theorem IRows.old {wb w w' : World} {u : Value} {m : Nat} {R : Nat → Nat} {F F' : Nat → Nat → Int} (h0 : IRows wb u m R F) (h : IRows w u m R F') (hbw : Below wb.heap.size wb w) (hB : Below wb.heap.size w w') : IRows w' u m R F' := by
  obtain ⟨A, c, V, rfl, hc, hr, hf⟩ := h
  obtain ⟨A', c', V', he, _, hr', hf'⟩ := h0
  injection he with e1 e2 e3
  subst e1
  have key : ∀ i, i < m → V i = V' i := fun i hi => by
    obtain ⟨b, o, hA, h1⟩ := hr (by omega)
    obtain ⟨b', o', hA', h2⟩ := hr' (by omega)
    rw [hA] at hA'
    injection hA' with e4
    injection e4 with e5 e6
    subst e5 e6
    have k1 := h1 i hi
    have k2 := h2 i hi
    rw [hbw.cell (p := ⟨b, o + i, none⟩) (lt_of_cell k2), k2] at k1
    injection k1 with k1
    exact k1.symm
  refine ⟨A, c, V, rfl, hc, fun hm => ?_, fun i hi => ?_⟩
  · obtain ⟨b, o, rfl, h1⟩ := hr hm
    obtain ⟨b', o', hA', h2⟩ := hr' hm
    injection hA' with e4
    injection e4 with e5 e6
    subst e5 e6
    refine ⟨b, o, rfl, fun i hi => ?_⟩
    rw [hB.cell (p := ⟨b, o + i, none⟩) (h2.lt hm)]
    exact h1 i hi
  · have := hf' i hi
    rw [← key i hi] at this
    exact Ints.old this (hf i hi) hB
/-- Returned: n rows in new memory (and a Bool); nothing that was there has turned. -/
def AnsRw (w : World) (n : Nat) (R : Nat → Nat) (F : Nat → Nat → Int) (e : Ending) (w' : World) : Prop := ∃ v, e = .returned v ∧ OwnRw w.heap.size w' v n R F ∧ Below w.heap.size w w'
def AnsRwB (w : World) (n : Nat) (R : Nat → Nat) (F : Nat → Nat → Int) (q : Bool) (e : Ending) (w' : World) : Prop := ∃ v, e = .returned (.tuple #[v, .bool q]) ∧ OwnRw w.heap.size w' v n R F ∧ Below w.heap.size w w'
theorem AnsRwB.nil {w w' : World} {R : Nat → Nat} {F : Nat → Nat → Int} (hb : Below w.heap.size w w') : AnsRwB w 0 R F false (.returned (.tuple #[.slice none 0 0, .bool false])) w' := ⟨_, rfl, OwnRw.nil, hb⟩
/-- How many numbers the first k rows have. -/
def sumR (R : Nat → Nat) : Nat → Nat
  | 0 => 0
  | k + 1 => sumR R k + R k
def markF (R : Nat → Nat) (k0 : Int) (i j : Nat) : Int := k0 + sumR R i + j
theorem sumR_le (R : Nat → Nat) {i k : Nat} (h : i ≤ k) : sumR R i ≤ sumR R k := by
  induction k with
  | zero => rw [show i = 0 by omega]; exact Nat.le_refl _
  | succ k ih =>
    rcases Nat.lt_or_ge i (k + 1) with h' | h'
    · have := ih (by omega); simp only [sumR]; omega
    · rw [show i = k + 1 by omega]; exact Nat.le_refl _
def MarkAnsRw (base : Nat) (v : Value) (n : Nat) (R : Nat → Nat) (k0 : Int) (w : World) (e : Ending) (w' : World) : Prop :=
  e = .returned (.int .i64 (k0 + sumR R n)) ∧ OwnRw base w' v n R (markF R k0) ∧ ∀ wx F', IRows wx v n R F' → Below wx.heap.size wx w → Turned base wx.heap.size w w'
end Go.Proofs.Ytljdhicmcmppgaa
