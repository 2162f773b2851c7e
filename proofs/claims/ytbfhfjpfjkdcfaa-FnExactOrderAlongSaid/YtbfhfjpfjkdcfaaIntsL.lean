/-
  The laws' marks on slices of ints, what stands beside them, and appending of ints.
-/
import Derived.Test.YtbfhfjpfjkdcfaaRows
import Derived.Test.YtbfhfjpfjkdcfaaBase
import Derived.Test.YtbfhfjpfjkdcfaaSlice
import Derived.Test.YtbfhfjpfjkdcfaaLawS
import Derived.Test.YtbfhfjpfjkdcfaaMark
import Derived.Test.YtbfhfjpfjkdcfaaAppend
import Derived.Test.YtbfhfjpfjkdcfaaInts
namespace Go.Proofs.Ytbfhfjpfjkdcfaa
open Go.RowKit

set_option maxRecDepth 100000 in
theorem below_oldI {base : Nat} {w w' : World} {v : Value} {n : Nat} {X : Nat → Int} (hv : OwnI base w v n X) (hg : w.grownBy w' (if n = 0 then none else v.ownBlock)) (hb : base ≤ w.heap.size) : Below base w w' := by
  refine (Below.refl base w).grown hg hb (fun k hk => ?_)
  obtain ⟨A, c, rfl, hc, hr⟩ := hv
  split at hk
  · cases hk
  · obtain ⟨b, o, rfl, h1, _⟩ := hr (by omega)
    simp [Value.ownBlock] at hk
    omega
set_option maxRecDepth 100000 in
theorem OwnI.young {base : Nat} {wx w w' : World} {u v : Value} {n m : Nat} {X Y X' : Nat → Int} (hu : OwnI base w u m X') (hx : Spots wx v n X Y) (hb : wx.heap.size ≤ base) (hg : w.grownBy w' (if n = 0 then none else v.ownBlock)) : OwnI base w' u m X' := by
  obtain ⟨A, c, rfl, hc, hr⟩ := hu
  refine ⟨A, c, rfl, hc, fun hm => ?_⟩
  obtain ⟨b, o, rfl, h1, h2, h3⟩ := hr hm
  have hne : (if n = 0 then none else v.ownBlock) ≠ some b := by
    obtain ⟨A', c', rfl, hc', hr'⟩ := hx
    split
    · simp
    · obtain ⟨b', o', rfl, h'⟩ := hr' (by omega)
      have := h'.lt (by omega)
      simp [Value.ownBlock]
      omega
  exact ⟨b, o, rfl, h1, h2.only (h3.lt hm) hg hne, h3.only hg hne⟩
set_option maxRecDepth 100000 in
theorem OwnI.youngI {base : Nat} {wx w w' : World} {u v : Value} {n m : Nat} {X X' : Nat → Int} (hu : OwnI base w u m X') (hx : Ints wx v n X) (hb : wx.heap.size ≤ base) (hg : w.grownBy w' (if n = 0 then none else v.ownBlock)) : OwnI base w' u m X' := by
  obtain ⟨A, c, rfl, hc, hr⟩ := hu
  refine ⟨A, c, rfl, hc, fun hm => ?_⟩
  obtain ⟨b, o, rfl, h1, h2, h3⟩ := hr hm
  have hne : (if n = 0 then none else v.ownBlock) ≠ some b := by
    obtain ⟨A', c', rfl, hc', hr'⟩ := hx
    split
    · simp
    · obtain ⟨b', o', rfl, h'⟩ := hr' (by omega)
      have := h'.lt (by omega)
      simp [Value.ownBlock]
      omega
  exact ⟨b, o, rfl, h1, h2.only (h3.lt hm) hg hne, h3.only hg hne⟩
set_option maxRecDepth 100000 in
theorem Ints.old {wb w w' : World} {u : Value} {m : Nat} {X X' : Nat → Int} (h0 : Ints wb u m X) (h : Ints w u m X') (hB : Below wb.heap.size w w') : Ints w' u m X' := by
  obtain ⟨A, c, rfl, hc, hr⟩ := h
  refine ⟨A, c, rfl, hc, fun hm => ?_⟩
  obtain ⟨b, o, rfl, h1⟩ := hr hm
  obtain ⟨A', c', he, _, hr0⟩ := h0
  obtain ⟨b', o', hA', h2⟩ := hr0 hm
  injection he with e1 e2 e3
  have hb : b < wb.heap.size := by
    have e4 := e1.trans hA'
    injection e4 with e5
    injection e5 with e6
    rw [e6]; exact h2.lt hm
  refine ⟨b, o, rfl, fun i hi => ?_⟩
  rw [hB.cell (p := ⟨b, _, none⟩) hb]
  exact h1 i hi
/-- Marked: v reads as the numbers from k0 on; nothing but v's own memory has turned. -/
def MarkAnsI (base : Nat) (v : Value) (n : Nat) (k0 : Int) (w : World) (e : Ending) (w' : World) : Prop :=
  e = .returned (.int .i64 (k0 + n)) ∧ w.grownBy w' (if n = 0 then none else v.ownBlock) ∧ OwnI base w' v n (fun i => k0 + i)
set_option maxHeartbeats 1000000 in
set_option maxRecDepth 100000 in
theorem markIntS_g (base : Nat) (v : Value) (n : Nat) (X : Nat → Int) (k0 : Int) (w : World) (h : OwnI base w v n X) (hn : n ≤ 1048576) (hk0 : 0 ≤ k0) (hk1 : k0 ≤ 16777216) :
    Calls Try.prog 11 #[v, .int .i64 k0] w (MarkAnsI base v n k0 w) := by
  have HV := Lib.hid h
  obtain ⟨A, c, rfl, hnc, hrow⟩ := h
  by_cases hn0 : n = 0
  · subst hn0
    clear hrow
    go_enter Try.func11, Try.ntmps11
    go_wp2_with fail
    go_loopw [1, 5] (fun j i wr => i = .int .i64 0 ∧ j = .int .i64 k0 ∧ wr = w) (fun _ _ _ => 0)
    case atStart => exact ⟨rfl, rfl, rfl⟩
    case round =>
      obtain ⟨rfl, rfl, rfl⟩ := hrel
      go_wp2_with fail
      go_ret
      exact ⟨ret_int (by omega), World.grownBy.refl _ _, _, _, rfl, hnc, fun h => absurd h (by omega)⟩
  · obtain ⟨b, o, rfl, hbb, hf, hr⟩ := hrow (by omega)
    have HR := Lib.hid hr
    have HF := Lib.hid hf
    have hlt0 := hr.lt (by omega)
    clear hr hf hrow
    go_enter Try.func11, Try.ntmps11
    go_wp2_with fail
    go_loopw [1, 5] (fun j i wr => ∃ k : Nat, k ≤ n ∧ i = .int .i64 k ∧ j = .int .i64 (k0 + k) ∧ w.grownBy wr (some b) ∧ b < wr.heap.size ∧ Free wr b ∧ ∃ X', Row1 wr b o n X' ∧ (∀ i : Nat, i < k → X' i = k0 + i)) (fun _ i _ => n - (intOf i).toNat)
    case atStart => exact ⟨0, by omega, rfl, congrArg (Value.int .i64) (by omega), World.grownBy.refl _ _, hlt0, HF.out, _, HR.out, fun i hi => by omega⟩
    case round =>
      obtain ⟨k, hk, rfl, rfl, hg, hs, hf, X', hr, hx⟩ := hrel
      by_cases hlt : k < n
      · have d1 := hr k hlt
        have f1 := hf (o + k)
        have HR := Lib.hid hr
        have HX := Lib.hid hx
        have HF := Lib.hid hf
        have HG := Lib.hid hg
        clear hr hx hf hg
        go_wp2_with fail
        go_roundw
        case rel =>
          refine ⟨k + 1, by omega, by go_num, congrArg (Value.int .i64) (by omega), grown_set HG.out rfl _, by rw [size_set]; exact hs, HF.out.set _ _, _, HR.out.put hlt _, fun i hi => ?_⟩
          split
          · rename_i e; rw [e]
          · exact HX.out i (by omega)
        case measure => simp [intOf]; omega
      · have e : k = n := by omega
        subst e
        go_wp2_with fail
        go_ret
        exact ⟨rfl, by rw [if_neg hn0]; exact hg, _, _, rfl, hnc, fun _ => ⟨_, _, rfl, hbb, hf, hr.cong hx⟩⟩
set_option maxHeartbeats 1000000 in
set_option maxRecDepth 100000 in
theorem heldIntS_g (v : Value) (n : Nat) (k0 : Int) (w : World) (h : Ints w v n (fun i => k0 + i)) (hn : n ≤ 1048576) (hk0 : 0 ≤ k0) (hk1 : k0 ≤ 16777216) :
    Calls Try.prog 12 #[v, .int .i64 k0] w (Ans w (.int .i64 (k0 + n))) := by
  obtain ⟨A, c, rfl, hnc, hrow⟩ := h
  go_enter Try.func12, Try.ntmps12
  go_wp2_with fail
  go_loopw [1, 5] (fun j i wr => ∃ k : Nat, k ≤ n ∧ i = .int .i64 k ∧ j = .int .i64 (k0 + k) ∧ Below w.heap.size w wr) (fun _ i _ => n - (intOf i).toNat)
  case atStart => exact ⟨0, by omega, rfl, congrArg (Value.int .i64) (by omega), Below.refl _ _⟩
  case round =>
    obtain ⟨k, hk, rfl, rfl, hb⟩ := hrel
    by_cases hlt : k < n
    · obtain ⟨b, o, rfl, hr⟩ := hrow (by omega)
      have c1 := up_keep hb (hr k hlt)
      clear hr hrow
      go_wp2_with fail
      go_roundw
      case rel => exact ⟨k + 1, by omega, by go_num, congrArg (Value.int .i64) (by omega), by (repeat (first | with_reducible exact Below.refl _ _ | with_reducible assumption | with_reducible refine up_alloc ?_ _ | with_reducible refine up_drew ?_ | with_reducible refine up_drewN ?_ _ | (with_reducible refine up_set ?_ ?hset _; case hset => first | (simp; done) | (simp; omega) | omega) | with_reducible refine up_trans ?_ (by with_reducible assumption)))⟩
      case measure => simp [intOf]; omega
    · have e : k = n := by omega
      subst e
      go_wp2_with fail
      go_ret
      exact Ans.int rfl (by (repeat (first | with_reducible exact Below.refl _ _ | with_reducible assumption | with_reducible refine up_alloc ?_ _ | with_reducible refine up_drew ?_ | with_reducible refine up_drewN ?_ _ | (with_reducible refine up_set ?_ ?hset _; case hset => first | (simp; done) | (simp; omega) | omega) | with_reducible refine up_trans ?_ (by with_reducible assumption))))
/-- The slice value v is one of the call's own, with the numbers of l, from block base on. -/
def OwnL (base : Nat) (w : World) (v : Value) (l : List Int) : Prop := w.ownsRow base 3 1 v l.length (l.map (.int .i64))
set_option maxRecDepth 100000 in
theorem OwnL.ownI {base : Nat} {w : World} {v : Value} {l : List Int} (h : OwnL base w v l) : OwnI base w v l.length (fun i => l.getD i 0) := by
  have h0 := h
  rcases h.2 with ⟨rfl, hl⟩ | ⟨g, cap, cur, rfl, hb, hg, hnc, _⟩
  · exact ⟨none, 0, by rw [hl], by omega, fun hn => absurd hn (by omega)⟩
  · refine ⟨_, _, rfl, hnc, fun hn => ⟨g, 0, rfl, hb, fun o => World.ownsRow.frozenAt h0 o, fun i hi => ?_⟩⟩
    rw [Nat.zero_add, World.ownsRow.cellAt h0 _ (by omega)]
    simp [List.getD_eq_getElem?_getD, hi]
set_option maxRecDepth 100000 in
theorem OwnL.up {base : Nat} {w w' : World} {v : Value} {l : List Int} (h : OwnL base w v l) (hb : Below w.heap.size w w') : OwnL base w' v l :=
  World.ownsRow.kept (row := none) h ⟨hb.os, hb.tape, hb.output, hb.size, fun k hk _ => hb.block k hk⟩ (by cases v.ownBlock <;> simp)
set_option maxRecDepth 100000 in
theorem OwnL.nil (base : Nat) (w : World) : OwnL base w (.slice none 0 0) [] := World.ownsRow_nil _ _ _ _
set_option maxRecDepth 100000 in
theorem OwnL.empty {base : Nat} {w : World} (hb : base ≤ w.heap.size) : OwnL base (w.alloc (.cells #[] 3)) (.slice (some ⟨w.heap.size, 0, none⟩) 0 0) [] :=
  World.ownsRow_made w #[] 0 hb (by unfold maxLen; omega) rfl
set_option maxRecDepth 100000 in
theorem info_intA : (Try.prog.info? 3).map (fun i => (i.zero, i.size, i.bytes)) = some (some (.int .i64 0), 1, 8) := by kernel_rfl
set_option maxRecDepth 100000 in
/-- 'out = append(out, x)'. -/
theorem wpList_app_int {ops : Array Oper} {rest : List Oper} {o : Oper} {a : Act} {Q : Exit → Act → World → Prop} {w : World} (hgd : o.guard = none) (s x : Operand)
    (ho : o.op = .call { callee := .builtin .append, args := #[s, x], argTypes := #[24, 24] })
    (base : Nat) (v : Value) (l : List Int) {g : Nat} (hs : a.eval s = v) (hx : a.eval x = .slice (some ⟨g, 0, none⟩) 1 1) (hg : g = w.heap.size) (hown : OwnL base w v l) (hbase : base ≤ w.heap.size) (hn : l.length ≤ 1048576) {p : Int}
    (h : ∀ v' w', OwnL base w' v' (l ++ [p]) → Below base w w' → wpList Try.prog ops Q rest (a.put o.dst v') w') :
    wpList Try.prog ops Q (o :: rest) a (w.alloc (.cells #[.int .i64 p] 3)) := by
  subst hg
  obtain ⟨i0, hi0, hz0, hz1, hz2⟩ := info_parts info_intA
  refine wpList_append_own _ hgd s x _ ho base 3 i0 _ 1 8 Try.underlying24 hi0 hz0 hz1 hz2 rfl (by omega) v l.length _ hs (World.ownsRow.alloc hown _) ⟨w.heap.size, 0, none⟩ 1 1 [.int .i64 p] hx rfl ?_ ?_ (by unfold maxLen; omega) (by omega) (by simp; omega) ?_
  · intro j u hu
    match j, hu with
    | 0, hu => simp only [List.getElem?_cons_zero, Option.some.injEq] at hu; subst hu; rw [add_none]; simp [go_sem]
  · intro u hu
    simp only [List.mem_cons, List.not_mem_nil, or_false] at hu
    rcases hu with rfl; rfl
  · intro v' w' hown' hg _
    refine h v' w' ?_ ?_
    · unfold OwnL; rw [List.length_append, List.map_append]; exact hown'
    · exact ((below_alloc w _).mono hbase).trans (below_grown hg (by simp; omega) (fun k hk => (World.ownsRow.lt hown k hk).1))
end Go.Proofs.Ytbfhfjpfjkdcfaa
