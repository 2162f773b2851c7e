/-
  Slices of ints: words, the laws' helpers on them, appending.
-/
import Derived.Test.YtbfhfjpfjkdcfaaRows
import Derived.Test.YtbfhfjpfjkdcfaaBase
import Derived.Test.YtbfhfjpfjkdcfaaSlice
import Derived.Test.YtbfhfjpfjkdcfaaLawS
import Derived.Test.YtbfhfjpfjkdcfaaMark
import Derived.Maps.AppendAt
namespace Go.Proofs.Ytbfhfjpfjkdcfaa
open Go.RowKit

/-- The n numbers from ⟨b, o⟩ on. -/
def Row1 (w : World) (b o n : Nat) (X : Nat → Int) : Prop := ∀ i, i < n → w.cell? ⟨b, o + i, none⟩ = some (.int .i64 (X i))
section
variable {w w' : World} {b o n : Nat} {X X' : Nat → Int}
theorem Row1.lt (h : Row1 w b o n X) (hn : 0 < n) : b < w.heap.size := lt_of_cell (h 0 hn)
theorem Row1.at0 (h : Row1 w b 0 n X) {k : Nat} (hk : k < n) : w.cell? ⟨b, k, none⟩ = some (.int .i64 (X k)) := by
  have := h k hk; rwa [Nat.zero_add] at this
theorem Row1.up (h : Row1 w b o n X) (hb : Below w.heap.size w w') : Row1 w' b o n X := fun i hi => up_keep hb (h i hi)
theorem Row1.cong (h : Row1 w b o n X) (hx : ∀ i, i < n → X i = X' i) : Row1 w b o n X' := fun i hi => by rw [← hx i hi]; exact h i hi
theorem Row1.only (h : Row1 w b o n X) {row : Option Nat} (hg : w.grownBy w' row) (hr : row ≠ some b) : Row1 w' b o n X := fun i hi => by
  have e : ∀ o', w'.cell? ⟨b, o', none⟩ = w.cell? ⟨b, o', none⟩ := fun o' => World.cell?_of_block (hg.block b (lt_of_cell (h i hi)) (Ne.symm hr))
  rw [e]; exact h i hi
theorem Row1.put (h : Row1 w b o n X) {k : Nat} (hk : k < n) (x : Int) : Row1 (w.setCell ⟨b, o + k, none⟩ (.int .i64 x)) b o n (fun i => if i = k then x else X i) := fun i hi => by
  dsimp only
  by_cases e : i = k
  · subst e
    rw [if_pos rfl]; exact cell_set_same _ _ _ _ _ (h i hi)
  · rw [if_neg e, cell_set_ne _ _ _ _ _ _ (by omega)]; exact h i hi
theorem Row1.put0 (h : Row1 w b 0 n X) {k : Nat} (hk : k < n) (x : Int) : Row1 (w.setCell ⟨b, k, none⟩ (.int .i64 x)) b 0 n (fun i => if i = k then x else X i) := by
  have := h.put hk x; rwa [Nat.zero_add] at this
end
/-- The slice value v reads as n numbers. -/
def Ints (w : World) (v : Value) (n : Nat) (X : Nat → Int) : Prop := ∃ A c, v = .slice A n c ∧ n ≤ c ∧ (0 < n → ∃ b o, A = some ⟨b, o, none⟩ ∧ Row1 w b o n X)
theorem Ints.up {w w' : World} {v : Value} {n : Nat} {X : Nat → Int} (h : Ints w v n X) (hb : Below w.heap.size w w') : Ints w' v n X := by
  obtain ⟨A, c, hv, hc, hr⟩ := h
  exact ⟨A, c, hv, hc, fun hn => by obtain ⟨b, o, ha, h⟩ := hr hn; exact ⟨b, o, ha, h.up hb⟩⟩
/-- .. in memory of its own. -/
def OwnI (base : Nat) (w : World) (v : Value) (n : Nat) (X : Nat → Int) : Prop := ∃ A c, v = .slice A n c ∧ n ≤ c ∧ (0 < n → ∃ b o, A = some ⟨b, o, none⟩ ∧ base ≤ b ∧ Free w b ∧ Row1 w b o n X)
section
variable {base : Nat} {w w' : World} {v : Value} {n : Nat} {X X' : Nat → Int}
theorem OwnI.ints (h : OwnI base w v n X) : Ints w v n X := by
  obtain ⟨A, c, hv, hc, hr⟩ := h
  exact ⟨A, c, hv, hc, fun hn => by obtain ⟨b, o, ha, _, _, h⟩ := hr hn; exact ⟨b, o, ha, h⟩⟩
theorem OwnI.up (h : OwnI base w v n X) (hb : Below w.heap.size w w') : OwnI base w' v n X := by
  obtain ⟨A, c, hv, hc, hr⟩ := h
  exact ⟨A, c, hv, hc, fun hn => by obtain ⟨b, o, ha, h1, h2, h⟩ := hr hn; exact ⟨b, o, ha, h1, h2.up (h.lt hn) hb, h.up hb⟩⟩
theorem OwnI.cong (h : OwnI base w v n X) (hx : ∀ i, i < n → X i = X' i) : OwnI base w v n X' := by
  obtain ⟨A, c, hv, hc, hr⟩ := h
  exact ⟨A, c, hv, hc, fun hn => by obtain ⟨b, o, ha, h1, h2, h⟩ := hr hn; exact ⟨b, o, ha, h1, h2, h.cong hx⟩⟩
theorem OwnI.more (h : OwnI base w v n X) {base' : Nat} (hb : base' ≤ base) : OwnI base' w v n X := by
  obtain ⟨A, c, hv, hc, hr⟩ := h
  exact ⟨A, c, hv, hc, fun hn => by obtain ⟨b, o, ha, h1, h2, h⟩ := hr hn; exact ⟨b, o, ha, by omega, h2, h⟩⟩
theorem OwnI.nil : OwnI base w (.slice none 0 0) 0 X := ⟨_, _, rfl, Nat.le_refl _, fun h => absurd h (by omega)⟩
end
/-- Returned: n numbers in new memory (and a Bool); nothing that was there has turned. -/
def AnsI (w : World) (n : Nat) (X : Nat → Int) (e : Ending) (w' : World) : Prop := ∃ v, e = .returned v ∧ OwnI w.heap.size w' v n X ∧ Below w.heap.size w w'
def AnsIB (w : World) (n : Nat) (X : Nat → Int) (q : Bool) (e : Ending) (w' : World) : Prop := ∃ v, e = .returned (.tuple #[v, .bool q]) ∧ OwnI w.heap.size w' v n X ∧ Below w.heap.size w w'
theorem AnsIB.nil {w w' : World} {X : Nat → Int} (hb : Below w.heap.size w w') : AnsIB w 0 X false (.returned (.tuple #[.slice none 0 0, .bool false])) w' := ⟨_, rfl, OwnI.nil, hb⟩

theorem info_int : (Try.prog.info? 3).map (fun i => (i.zero, i.size, i.bytes)) = some (some (.int .i64 0), 1, 8) := by kernel_rfl
theorem row1_made (w : World) (t : TypeId) (n : Nat) : Row1 (w.alloc (.cells (madeCells #[.int .i64 0] n) t)) w.heap.size 0 n (fun _ => 0) := fun i hi => by
  have hh : ∀ o, (w.alloc (.cells (madeCells #[.int .i64 0] n) t)).cell? ⟨w.heap.size, o, none⟩ = (madeCells #[.int .i64 0] n)[o]? := fun o => by
    unfold World.cell?; rw [heap_alloc_new]; rfl
  rw [hh, madeCells, Array.getElem?_map, Array.getElem?_range, if_pos (by omega)]
  simp [Nat.mod_one]

def eqI (n m : Nat) (X X' : Nat → Int) : Bool := (n == m) && allB (fun i => X i == X' i) n
theorem eqI_refl (n : Nat) (X : Nat → Int) : eqI n n X X = true := by simp [eqI, allB_iff]
set_option maxHeartbeats 1000000 in
theorem eqIntS_any (v v' : Value) (n m : Nat) (X X' : Nat → Int) (hn : n ≤ 1048576) (hm : m ≤ 9223372036854775807) (w : World) (h : Ints w v n X) (h' : Ints w v' m X') :
    Calls Try.prog 8 #[v, v'] w (Ans w (.bool (eqI n m X X'))) := by
  obtain ⟨A, c, rfl, hnc, hrow⟩ := h
  obtain ⟨A', c', rfl, hnc', hrow'⟩ := h'
  by_cases hnm : n = m
  · subst hnm
    have HE := Lib.hid (show eqI n n X X' = allB (fun i => X i == X' i) n by simp [eqI])
    go_enter Try.func8, Try.ntmps8
    go_wp2_with fail
    go_loopw [5] (fun i wr => ∃ k : Nat, k ≤ n ∧ i = .int .i64 k ∧ Below w.heap.size w wr ∧ allB (fun i => X i == X' i) k = true) (fun i _ => n - (intOf i).toNat)
    case atStart => exact ⟨0, by omega, rfl, Below.refl _ _, rfl⟩
    case round =>
      obtain ⟨k, hk, rfl, hb, ha⟩ := hrel
      have HA := Lib.hid ha
      clear ha
      by_cases hlt : k < n
      · obtain ⟨b, o, rfl, hr⟩ := hrow (by omega)
        obtain ⟨b', o', rfl, hr'⟩ := hrow' (by omega)
        have c1 := cell_regrown (up_keep hb (hr k hlt))
        have c3 := cell_regrown (up_keep hb (hr' k hlt))
        clear hr hr' hrow hrow'
        cases hq : (X k == X' k) with
        | true =>
          have HQ := Lib.hid hq
          have hq' : (X k != X' k) = false := by simp [bne, hq]
          clear hq
          go_wp2_with fail
          refine wp_region_up (by kernel_rfl) (by kernel_rfl) ?_
          repeat (go_big_quiet_step (fail))
          refine wpQuiet_nil ?_
          intro w1 hb0
          obtain ⟨hc0, hf0⟩ := bcell hb0
          go_wp2_with fail
          go_roundw
          case rel => exact ⟨k + 1, by omega, by go_num, up_trans hb hb0, allB_succ HA.out HQ.out⟩
          case measure => simp [intOf]; omega
        | false =>
          have HQ := Lib.hid hq
          have hq' : (X k != X' k) = true := by simp [bne, hq]
          clear hq
          go_wp2_with fail
          refine wp_region_up (by kernel_rfl) (by kernel_rfl) ?_
          repeat (go_big_quiet_step (fail))
          refine wpQuiet_nil ?_
          intro w1 hb0
          obtain ⟨hc0, hf0⟩ := bcell hb0
          go_wp2_with fail
          go_ret
          exact Ans.bool (by rw [HE.out, allB_no hlt HQ.out]) (up_trans hb hb0)
      · have e : k = n := by omega
        subst e
        go_wp2_with fail
        go_ret
        exact Ans.bool (by rw [HE.out, HA.out]) hb
  · have HE := Lib.hid (show eqI n m X X' = false by simp [eqI, hnm])
    have h1 : ((n : Int) != m) = true := by simp; omega
    go_enter Try.func8, Try.ntmps8
    go_wp2_with fail
    go_ret
    exact Ans.bool (by rw [HE.out]) (Below.refl _ _)
theorem eqIntS_g (v v' : Value) (n : Nat) (X : Nat → Int) (w : World) (h : Ints w v n X) (h' : Ints w v' n X) (hn : n ≤ 1048576) :
    Calls Try.prog 8 #[v, v'] w (Ans w (.bool true)) := by
  have := eqIntS_any v v' n n X X hn (by omega) w h h'
  rwa [eqI_refl] at this
end Go.Proofs.Ytbfhfjpfjkdcfaa
