/-
  Copies of slices of ints.
-/
import Derived.Test.YtbfhfjpfjkdcfaaRows
import Derived.Test.YtbfhfjpfjkdcfaaBase
import Derived.Test.YtbfhfjpfjkdcfaaSlice
import Derived.Test.YtbfhfjpfjkdcfaaMark
import Derived.Test.YtbfhfjpfjkdcfaaAppend
import Derived.Test.YtbfhfjpfjkdcfaaInts
import Derived.Test.YtbfhfjpfjkdcfaaIntsL
import Derived.Maps.AppendAt
namespace Go.Proofs.Ytbfhfjpfjkdcfaa
open Go.RowKit

/-- The cells of n ints. -/
def cells1 (X : Nat → Int) (n : Nat) : List Value := (List.range n).map fun i => .int .i64 (X i)
theorem cells1_len (X : Nat → Int) (n : Nat) : (cells1 X n).length = n := by simp [cells1]
theorem cells1_get (X : Nat → Int) (n i : Nat) (h : i < n) : (cells1 X n)[i]? = some (.int .i64 (X i)) := by simp [cells1, h]
theorem cells1_succ (X : Nat → Int) (n : Nat) : cells1 X (n + 1) = cells1 X n ++ [.int .i64 (X n)] := by simp [cells1, List.range_succ]
/-- The slice value v is one of the call's own, with n ints, from block base on. -/
def OwnN (base : Nat) (w : World) (v : Value) (n : Nat) (X : Nat → Int) : Prop := w.ownsRow base 3 1 v n (cells1 X n)
theorem OwnN.ownI {base : Nat} {w : World} {v : Value} {n : Nat} {X : Nat → Int} (h : OwnN base w v n X) : OwnI base w v n X := by
  have h0 := h
  rcases h.2 with ⟨rfl, rfl⟩ | ⟨g, cap, cur, rfl, hb, hg, hnc, _⟩
  · exact ⟨_, _, rfl, Nat.le_refl _, fun hn => absurd hn (by omega)⟩
  · refine ⟨_, _, rfl, hnc, fun hn => ⟨g, 0, rfl, hb, fun o => World.ownsRow.frozenAt h0 o, fun i hi => ?_⟩⟩
    rw [Nat.zero_add, World.ownsRow.cellAt h0 _ (by omega)]
    exact cells1_get X n i hi
theorem OwnN.up {base : Nat} {w w' : World} {v : Value} {n : Nat} {X : Nat → Int} (h : OwnN base w v n X) (hb : Below w.heap.size w w') : OwnN base w' v n X :=
  World.ownsRow.kept (row := none) h ⟨hb.os, hb.tape, hb.output, hb.size, fun k hk _ => hb.block k hk⟩ (by cases v.ownBlock <;> simp)
theorem OwnN.nil (base : Nat) (w : World) (X : Nat → Int) : OwnN base w (.slice none 0 0) 0 X := World.ownsRow_nil _ _ _ _
theorem OwnN.empty {base : Nat} {w : World} (hb : base ≤ w.heap.size) (X : Nat → Int) : OwnN base (w.alloc (.cells #[] 3)) (.slice (some ⟨w.heap.size, 0, none⟩) 0 0) 0 X :=
  World.ownsRow_made w #[] 0 hb (by unfold maxLen; omega) rfl
theorem OwnN.shape {base : Nat} {w : World} {v : Value} {n : Nat} {X : Nat → Int} (h : OwnN base w v n X) : ∃ A c, v = .slice A n c ∧ n ≤ c ∧ c ≤ maxLen := by
  rcases h.2 with ⟨rfl, rfl⟩ | ⟨g, cap, cur, rfl, hb, hg, hnc, hm, _⟩
  · exact ⟨none, 0, rfl, Nat.le_refl _, by unfold maxLen; omega⟩
  · exact ⟨_, _, rfl, hnc, hm⟩
set_option maxRecDepth 100000 in
theorem info_intN : (Try.prog.info? 3).map (fun i => (i.zero, i.size, i.bytes)) = some (some (.int .i64 0), 1, 8) := by kernel_rfl
set_option maxRecDepth 100000 in
/-- 'append(out, x)' wherever the one-element slice lies. -/
theorem run_app_int1 {w : World} (ty : TypeId) (base : Nat) (v : Value) (n : Nat) (X : Nat → Int) {g : Nat} {p : Int} (hp : X n = p)
    (hc0 : w.cell? ⟨g, 0, none⟩ = some (.int .i64 p)) (hown : OwnN base w v n X) (hbase : base ≤ w.heap.size) (hn : n ≤ 1048576) :
    ∃ v' w', (Builtin.append_ #[24, 24] ty #[v, .slice (some ⟨g, 0, none⟩) 1 1]).run Try.prog w = .ok v' w' ∧ OwnN base w' v' (n + 1) X ∧ Below base w w' ∧ w.grownBy w' v.ownBlock ∧ (v'.ownBlock = v.ownBlock ∨ v'.ownBlock = some w.heap.size) := by
  subst hp
  obtain ⟨i0, hi0, hz0, hz1, hz2⟩ := info_parts info_intN
  obtain ⟨v', w', hr, h1, h2, _, h5⟩ := run_append_own_at (P := Try.prog) w base 24 ty 3 i0 _ 1 8 Try.underlying24 hi0 hz0 hz1 hz2 rfl (by omega) v n _ hown ⟨g, 0, none⟩ 1 1
    [.int .i64 (X n)] rfl (by
      intro j u hu
      rw [add_none, Nat.zero_add]
      match j, hu with
      | 0, hu => simp only [List.getElem?_cons_zero, Option.some.injEq] at hu; subst hu; exact hc0) (by
      intro u hu
      simp only [List.mem_cons, List.not_mem_nil, or_false] at hu
      rcases hu with rfl; rfl) (by unfold maxLen; omega) (by omega) hbase
  exact ⟨v', w', hr, by unfold OwnN; rw [cells1_succ]; exact h1, below_grown h2 hbase (fun k hk => (World.ownsRow.lt hown k hk).1), h2, h5⟩
section
variable {ops : Array Oper} {rest : List Oper} {o : Oper} {a : Act} {w : World} {K : Act → World → Prop} {Q : Exit → Act → World → Prop} {E : Prop} (hgd : o.guard = none) (s x : Operand)
    (ho : o.op = .call { callee := .builtin .append, args := #[s, x], argTypes := #[24, 24] })
    (base : Nat) (v : Value) (n : Nat) (X : Nat → Int) {g : Nat} (hs : a.eval s = v) (hx : a.eval x = .slice (some ⟨g, 0, none⟩) 1 1)
    {p : Int} (hp : X n = p) (hc0 : w.cell? ⟨g, 0, none⟩ = some (.int .i64 p))
    (hown : OwnN base w v n X) (hbase : base ≤ w.heap.size) (hn : n ≤ 1048576)
include hgd ho hs hx hp hc0 hown hbase hn
theorem step_app_int
    (h : ∀ v' w', OwnN base w' v' (n + 1) X → Below base w w' → w.grownBy w' v.ownBlock → (v'.ownBlock = v.ownBlock ∨ v'.ownBlock = some w.heap.size) → K (a.put o.dst v') w') :
    if Region.wanted o (yielded ops a.tmps) = true then Oper.wp Try.prog o a w K Q else E := by
  have hw : Region.wanted o (yielded ops a.tmps) = true := by unfold Region.wanted; rw [hgd]
  rw [if_pos hw]
  obtain ⟨v', w', hr, h1, h2, h3, h4⟩ := run_app_int1 o.type base v n X hp hc0 hown hbase hn
  unfold Oper.wp execOp
  simp only [ho, resolve, invoke, builtin, Sem.run_bind, Sem.run_pure, Result.andThen_ok, List.map_toArray, List.map_cons, List.map_nil, hs, hx, hr]
  exact h _ _ h1 h2 h3 h4
theorem wpList_app_int2
    (h : ∀ v' w', OwnN base w' v' (n + 1) X → Below base w w' → w.grownBy w' v.ownBlock → (v'.ownBlock = v.ownBlock ∨ v'.ownBlock = some w.heap.size) → wpList Try.prog ops Q rest (a.put o.dst v') w') :
    wpList Try.prog ops Q (o :: rest) a w := by
  obtain ⟨v', w', hr, h1, h2, h3, h4⟩ := run_app_int1 o.type base v n X hp hc0 hown hbase hn
  refine wpList_plain hgd fun _ hK => ?_
  unfold Oper.wp execOp
  simp only [ho, resolve, invoke, builtin, Sem.run_bind, Sem.run_pure, Result.andThen_ok, List.map_toArray, List.map_cons, List.map_nil, hs, hx, hr]
  exact hK _ _ (h _ _ h1 h2 h3 h4)
end
set_option maxRecDepth 100000 in
theorem run_copy_ints {w : World} (ty : TypeId) (base : Nat) (v x : Value) (m : Nat) (X : Nat → Int) (hown : OwnN base w v 0 X) (hx : Ints w x m X) (hbase : base ≤ w.heap.size) (hn : m ≤ 1048576) :
    ∃ v' w', (Builtin.append_ #[24, 24] ty #[v, x]).run Try.prog w = .ok v' w' ∧ OwnN base w' v' m X ∧ Below base w w' := by
  obtain ⟨i0, hi0, hz0, hz1, hz2⟩ := info_parts info_intN
  obtain ⟨A, c, rfl, hmc, hrow⟩ := hx
  have hex : ∀ ad, A = some ad → (∀ j u, (cells1 X m)[j]? = some u → w.cell? (ad.add j) = some u) →
      ∃ v' w', (Builtin.append_ #[24, 24] ty #[v, .slice A m c]).run Try.prog w = .ok v' w' ∧ OwnN base w' v' m X ∧ Below base w w' := by
    intro ad hA hc
    subst hA
    obtain ⟨v', w', hr, h1, h2, _⟩ := run_append_own_at (P := Try.prog) w base 24 ty 3 i0 _ 1 8 Try.underlying24 hi0 hz0 hz1 hz2 rfl (by omega) v 0 _ hown ad m c (cells1 X m) (by rw [cells1_len, Nat.mul_one]) hc (by
      intro u hu
      obtain ⟨i, _, hi⟩ := List.mem_map.1 hu
      subst hi; rfl) (by unfold maxLen; omega) (by omega) hbase
    rw [Nat.zero_add] at h1
    exact ⟨v', w', hr, h1, below_grown h2 hbase (fun k hk => (World.ownsRow.lt hown k hk).1)⟩
  rcases Nat.eq_zero_or_pos m with h0 | h0
  · subst h0
    cases A with
    | some ad => exact hex ad rfl (fun j u hu => by simp [cells1] at hu)
    | none =>
      refine ⟨v, w, ?_, hown, Below.refl _ _⟩
      rcases hown.2 with ⟨rfl, _⟩ | ⟨g, cap, cur, rfl, _, _, hnc, _⟩
      · simp [Builtin.append_, run_underlying Try.underlying24, sizeOf, typeInfo, hi0, Builtin.lenOf, Builtin.firstCells]
      · simp [Builtin.append_, run_underlying Try.underlying24, sizeOf, typeInfo, hi0, Builtin.lenOf, Builtin.firstCells, storeCells]
  · obtain ⟨b, o, rfl, hr⟩ := hrow h0
    refine hex _ rfl (fun j u hu => ?_)
    have hj : j < m := by
      rcases Nat.lt_or_ge j m with h | h
      · exact h
      · rw [List.getElem?_eq_none (by rw [cells1_len]; exact h)] at hu; cases hu
    rw [add_none, hr j hj, ← cells1_get X m j hj]
    exact hu
/-- 'append([]int{}, l...)'. -/
theorem wpList_copy_ints {ops : Array Oper} {rest : List Oper} {o : Oper} {a : Act} {Q : Exit → Act → World → Prop} {w : World} (hgd : o.guard = none) (s x : Operand)
    (ho : o.op = .call { callee := .builtin .append, args := #[s, x], argTypes := #[24, 24] })
    (base : Nat) (v u : Value) (m : Nat) (X : Nat → Int) (hs : a.eval s = v) (hx : a.eval x = u) (hown : OwnN base w v 0 X) (hsp : Ints w u m X) (hbase : base ≤ w.heap.size) (hn : m ≤ 1048576)
    (h : ∀ v' w', OwnN base w' v' m X → Below base w w' → wpList Try.prog ops Q rest (a.put o.dst v') w') : wpList Try.prog ops Q (o :: rest) a w := by
  obtain ⟨v', w', hr, h1, h2⟩ := run_copy_ints (w := w) o.type base v u m X hown hsp hbase hn
  refine wpList_plain hgd fun _ hK => ?_
  unfold Oper.wp execOp
  simp only [ho, resolve, invoke, builtin, Sem.run_bind, Sem.run_pure, Result.andThen_ok, List.map_toArray, List.map_cons, List.map_nil, hs, hx, hr]
  exact hK _ _ (h v' w' h1 h2)
set_option maxRecDepth 100000 in
set_option maxHeartbeats 400000 in
theorem l1Own_g (v : Value) (n : Nat) (X : Nat → Int) (w : World) (h : Ints w v n X) (hn : n ≤ 1048576) : Calls Try.prog 14 #[v] w (AnsI w n X) := by
  go_enter Try.func14, Try.ntmps14
  go_wp2_with (at_builtin; refine wpList_copy_ints rfl (.tmp 3) (.tmp 4) rfl w.heap.size _ v n X rfl rfl (OwnN.empty (Nat.le_refl _) _) (h.up (by (repeat (first | with_reducible exact Below.refl _ _ | with_reducible assumption | with_reducible refine up_alloc ?_ _ | with_reducible refine up_drew ?_ | with_reducible refine up_drewN ?_ _ | (with_reducible refine up_set ?_ ?hset _; case hset => first | (simp; done) | (simp; omega) | omega) | with_reducible refine up_trans ?_ (by with_reducible assumption))))) (by simp) hn ?_; intro v2 w2 ho2 hb2)
  go_ret
  exact ⟨_, rfl, ho2.ownI, (below_alloc _ _).trans hb2⟩
end Go.Proofs.Ytbfhfjpfjkdcfaa
