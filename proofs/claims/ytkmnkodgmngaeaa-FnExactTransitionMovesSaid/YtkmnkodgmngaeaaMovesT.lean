/-
  Slices of moves: what stays while others are written; marks.
-/
import Derived.Test.YtkmnkodgmngaeaaRows
import Derived.Test.YtkmnkodgmngaeaaBase
import Derived.Test.YtkmnkodgmngaeaaSlice
import Derived.Test.YtkmnkodgmngaeaaLawS
import Derived.Test.YtkmnkodgmngaeaaMark
import Derived.Test.YtkmnkodgmngaeaaInts
import Derived.Test.YtkmnkodgmngaeaaIntsL
import Derived.Test.YtkmnkodgmngaeaaTurned
import Derived.Test.YtkmnkodgmngaeaaMoves
namespace Go.Proofs.Ytkmnkodgmngaeaa
open Go.RowKit Go.ChangeShapes Go.WideShapes Go.Sort

section
variable {lo hi base : Nat} {w w' : World} {v : Value} {n : Nat} {M M' : Nat → Nat → Int}
theorem Cells5.turn {b o : Nat} {a : Nat → Int} (h : Cells5 w b o a) (ht : Turned lo hi w w') (hb : b < lo ∨ hi ≤ b) : Cells5 w' b o a :=
  ⟨ht.cell h.c0 hb, ht.cell h.c1 hb, ht.cell h.c2 hb, ht.cell h.c3 hb, ht.cell h.c4 hb⟩
theorem Row5.turn {b o : Nat} (h : Row5 w b o n M) (ht : Turned lo hi w w') (hb : b < lo ∨ hi ≤ b) : Row5 w' b o n M := fun i hi => (h i hi).turn ht hb
theorem OwnM.turn (h : OwnM base w v n M) (ht : Turned lo hi w w') (hb : hi ≤ base) : OwnM base w' v n M := by
  obtain ⟨A, c, hv, hc, hr⟩ := h
  exact ⟨A, c, hv, hc, fun hn => by obtain ⟨b, o, ha, h1, h2, h⟩ := hr hn; exact ⟨b, o, ha, h1, ht.free h2 (h.lt hn) (by omega), h.turn ht (by omega)⟩⟩
theorem Moves.turn {wb : World} {M0 : Nat → Nat → Int} (h0 : Moves wb v n M0) (h : Moves w v n M) (ht : Turned lo hi w w') (hl : lo ≤ w.heap.size) (hb : wb.heap.size ≤ lo) : Moves w' v n M := by
  obtain ⟨A, c, rfl, hc, hr⟩ := h
  refine ⟨A, c, rfl, hc, fun hm => ?_⟩
  obtain ⟨b, o, rfl, h1⟩ := hr hm
  obtain ⟨A', c', he, _, hr0⟩ := h0
  obtain ⟨b', o', hA', h2⟩ := hr0 hm
  injection he with e1 e2 e3
  have e4 := e1.trans hA'
  injection e4 with e5
  injection e5 with e6
  have := h2.lt hm
  exact ⟨b, o, rfl, h1.turn ht (by omega)⟩
theorem markM_turned {wx : World} (hv : OwnM base w v n M) (hx : Moves wx v n M') (hg : w.grownBy w' (if n = 0 then none else v.ownBlock)) : Turned base wx.heap.size w w' := by
  refine Turned.of_grown hg (fun k hk => ?_)
  split at hk
  · cases hk
  · rename_i hn0
    have hpos : 0 < n := Nat.pos_of_ne_zero hn0
    obtain ⟨A, c, rfl, hc, hr⟩ := hv
    obtain ⟨b, o, rfl, h1, _⟩ := hr hpos
    obtain ⟨A', c', e, hc', hr'⟩ := hx
    obtain ⟨b', o', e', h2⟩ := hr' hpos
    have := h2.lt hpos
    cases e
    cases e'
    simp [Value.ownBlock] at hk
    omega
end
/-- The marks from k0 on. -/
def markV (k0 : Int) (i j : Nat) : Int := k0 + 5 * i + j
def MarkAnsM (base : Nat) (v : Value) (n : Nat) (k0 : Int) (w : World) (e : Ending) (w' : World) : Prop :=
  e = .returned (.int .i64 (k0 + 5 * n)) ∧ w.grownBy w' (if n = 0 then none else v.ownBlock) ∧ OwnM base w' v n (markV k0)
set_option maxRecDepth 100000 in
set_option maxHeartbeats 2000000 in
theorem markMoveS_g (base : Nat) (v : Value) (n : Nat) (M : Nat → Nat → Int) (k0 : Int) (w : World) (h : OwnM base w v n M) (hn : n ≤ 1048576) (hk0 : 0 ≤ k0) (hk1 : k0 ≤ 16777216) :
    Calls Try.prog 22 #[v, .int .i64 k0] w (MarkAnsM base v n k0 w) := by
  obtain ⟨A, c, rfl, hnc, hrow⟩ := h
  by_cases hn0 : n = 0
  · subst hn0
    clear hrow
    go_enter Try.func22, Try.ntmps22
    go_wp2_with fail
    go_loopw [1, 5] (fun j i wr => i = .int .i64 0 ∧ j = .int .i64 k0 ∧ wr = w) (fun _ _ _ => 0)
    case atStart => exact ⟨rfl, rfl, rfl⟩
    case round =>
      obtain ⟨rfl, rfl, rfl⟩ := hrel
      go_wp2_with fail
      go_ret
      exact ⟨ret_int (by omega), World.grownBy.refl _ _, _, _, rfl, hnc, fun h => absurd h (by omega)⟩
  · obtain ⟨b, o, rfl, hbb, hf, hr⟩ := hrow (by omega)
    have HR := Lib.hid hr
    have HF := Lib.hid hf
    have hlt0 := hr.lt (by omega)
    clear hr hf hrow
    go_enter Try.func22, Try.ntmps22
    go_wp2_with fail
    go_loopw [1, 5] (fun j i wr => ∃ k : Nat, k ≤ n ∧ i = .int .i64 k ∧ j = .int .i64 (k0 + 5 * k) ∧ w.grownBy wr (some b) ∧ b < wr.heap.size ∧ Free wr b ∧ ∃ M', Row5 wr b o n M' ∧ ∀ i : Nat, i < k → M' i = markV k0 i) (fun _ i _ => n - (intOf i).toNat)
    case atStart => exact ⟨0, by omega, rfl, congrArg (Value.int .i64) (by omega), World.grownBy.refl _ _, hlt0, HF.out, _, HR.out, fun i hi => by omega⟩
    case round =>
      obtain ⟨k, hk, rfl, rfl, hg, hs, hf, M', hr, hx⟩ := hrel
      by_cases hlt : k < n
      · obtain ⟨d0, d1, d2, d3, d4⟩ := hr k hlt
        have f0 := hf (o + k * 5)
        have f1 := hf (o + k * 5 + 1)
        have f2 := hf (o + k * 5 + 2)
        have f3 := hf (o + k * 5 + 3)
        have f4 := hf (o + k * 5 + 4)
        have HR := Lib.hid hr
        have HX := Lib.hid hx
        have HF := Lib.hid hf
        have HG := Lib.hid hg
        clear hr hx hf hg
        go_wp2_with fail
        generalize hW : World.setCell (World.setCell (World.setCell (World.setCell (World.setCell wr _ _) _ _) _ _) _ _) _ _ = W4 at *
        have hW4 : W4 = put5 wr b (o + k * 5) (markV k0 k) := by
          rw [← hW]; unfold put5
          rw [show markV k0 k 0 = k0 + 5 * (k : Int) by unfold markV; omega, show markV k0 k 1 = k0 + 5 * (k : Int) + 1 by unfold markV; omega, show markV k0 k 2 = k0 + 5 * (k : Int) + 1 + 1 by unfold markV; omega,
            show markV k0 k 3 = k0 + 5 * (k : Int) + 1 + 1 + 1 by unfold markV; omega, show markV k0 k 4 = k0 + 5 * (k : Int) + 1 + 1 + 1 + 1 by unfold markV; omega]
        clear hW
        subst hW4
        go_roundw
        case rel =>
          refine ⟨k + 1, by omega, by go_num, congrArg (Value.int .i64) (by omega), grown_put5 HG.out _ _, by rw [size_put5]; exact hs, free_put5 HF.out _ _ _, fun i => if i = k then markV k0 k else M' i, HR.out.put hlt _, fun i hi => ?_⟩
          by_cases e : i = k
          · subst e; simp
          · simp only [if_neg e]; exact HX.out i (by omega)
        case measure => simp [intOf]; omega
      · have e : k = n := by omega
        subst e
        have HQ := Lib.hid (show wr.grownBy wr none from World.grownBy.refl _ _)
        go_wp2_with fail
        go_ret
        exact ⟨rfl, by rw [if_neg hn0]; exact hg, _, _, rfl, hnc, fun _ => ⟨_, _, rfl, hbb, hf, hr.cong hx⟩⟩
set_option maxRecDepth 100000 in
set_option maxHeartbeats 2000000 in
theorem heldMoveS_g (v : Value) (n : Nat) (k0 : Int) (w : World) (h : Moves w v n (markV k0)) (hn : n ≤ 1048576) (hk0 : 0 ≤ k0) (hk1 : k0 ≤ 16777216) :
    Calls Try.prog 23 #[v, .int .i64 k0] w (Ans w (.int .i64 (k0 + 5 * n))) := by
  obtain ⟨A, c, rfl, hnc, hrow⟩ := h
  go_enter Try.func23, Try.ntmps23
  go_wp2_with fail
  go_loopw [1, 5] (fun j i wr => ∃ k : Nat, k ≤ n ∧ i = .int .i64 k ∧ j = .int .i64 (k0 + 5 * k) ∧ Below w.heap.size w wr) (fun _ i _ => n - (intOf i).toNat)
  case atStart => exact ⟨0, by omega, rfl, congrArg (Value.int .i64) (by omega), Below.refl _ _⟩
  case round =>
    obtain ⟨k, hk, rfl, rfl, hb⟩ := hrel
    by_cases hlt : k < n
    · obtain ⟨b, o, rfl, hr⟩ := hrow (by omega)
      obtain ⟨c0, c1, c2, c3, c4⟩ := (hr k hlt).up hb
      unfold markV at c0 c1 c2 c3 c4
      clear hr hrow
      go_wp2_with fail
      go_roundw
      case rel => exact ⟨k + 1, by omega, by go_num, congrArg (Value.int .i64) (by omega), by (repeat (first | with_reducible exact Below.refl _ _ | with_reducible assumption | with_reducible refine up_alloc ?_ _ | with_reducible refine up_drew ?_ | with_reducible refine up_drewN ?_ _ | (with_reducible refine up_set ?_ ?hset _; case hset => first | (simp; done) | (simp; omega) | omega) | with_reducible refine up_trans ?_ (by with_reducible assumption)))⟩
      case measure => simp [intOf]; omega
    · have e : k = n := by omega
      subst e
      go_wp2_with fail
      go_ret
      exact Ans.int rfl (by (repeat (first | with_reducible exact Below.refl _ _ | with_reducible assumption | with_reducible refine up_alloc ?_ _ | with_reducible refine up_drew ?_ | with_reducible refine up_drewN ?_ _ | (with_reducible refine up_set ?_ ?hset _; case hset => first | (simp; done) | (simp; omega) | omega) | with_reducible refine up_trans ?_ (by with_reducible assumption))))
end Go.Proofs.Ytkmnkodgmngaeaa
