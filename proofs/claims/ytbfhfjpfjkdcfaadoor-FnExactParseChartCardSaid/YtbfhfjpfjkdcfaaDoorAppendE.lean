/-
  Appending, the new spots given by equations; two spots at once.
-/
import Derived.Test.YtbfhfjpfjkdcfaaDoorRows
import Derived.Test.YtbfhfjpfjkdcfaaDoorBase
import Derived.Test.YtbfhfjpfjkdcfaaDoorSlice
import Derived.Test.YtbfhfjpfjkdcfaaDoorGrow
import Derived.Test.YtbfhfjpfjkdcfaaDoorAppend
import Derived.Deep.AppendLies
namespace Go.Proofs.YtbfhfjpfjkdcfaaDoor
open Go.RowKit

set_option maxRecDepth 100000 in
theorem wpList_app_spot_e {ops : Array Oper} {rest : List Oper} {o : Oper} {a : Act} {Q : Exit → Act → World → Prop} {w : World} (hgd : o.guard = none) (s x : Operand)
    (ho : o.op = .call { callee := .builtin .append, args := #[s, x], argTypes := #[22, 22] })
    (base : Nat) (v : Value) (n : Nat) (X Y : Nat → Int) {g : Nat} (hs : a.eval s = v) (hx : a.eval x = .slice (some ⟨g, 0, none⟩) 1 1) (hg : g = w.heap.size) (hown : OwnR base w v n X Y) (hbase : base ≤ w.heap.size) (hn : n ≤ 1048576)
    {p q : Int} (hp : X n = p) (hq : Y n = q)
    (h : ∀ v' w', OwnR base w' v' (n + 1) X Y → Below base w w' → wpList Tryd.prog ops Q rest (a.put o.dst v') w') :
    wpList Tryd.prog ops Q (o :: rest) a (w.alloc (.cells #[.int .i64 p, .int .i64 q] 38)) := by
  subst hp hq
  exact wpList_app_spot hgd s x ho base v n X Y hs hx hg hown hbase hn h

set_option maxRecDepth 100000 in
/-- 'out = append(out, Spot{p, q}, Spot{p', q'})'. -/
theorem wpList_app_two {ops : Array Oper} {rest : List Oper} {o : Oper} {a : Act} {Q : Exit → Act → World → Prop} {w : World} (hgd : o.guard = none) (s x : Operand)
    (ho : o.op = .call { callee := .builtin .append, args := #[s, x], argTypes := #[22, 22] })
    (base : Nat) (v : Value) (n : Nat) (X Y : Nat → Int) {g : Nat} (hs : a.eval s = v) (hx : a.eval x = .slice (some ⟨g, 0, none⟩) 2 2) (hg : g = w.heap.size) (hown : OwnR base w v n X Y) (hbase : base ≤ w.heap.size) (hn : n ≤ 1048576)
    {p q p' q' : Int} (hp : X n = p) (hq : Y n = q) (hp' : X (n + 1) = p') (hq' : Y (n + 1) = q')
    (h : ∀ v' w', OwnR base w' v' (n + 2) X Y → Below base w w' → wpList Tryd.prog ops Q rest (a.put o.dst v') w') :
    wpList Tryd.prog ops Q (o :: rest) a (w.alloc (.cells #[.int .i64 p, .int .i64 q, .int .i64 p', .int .i64 q'] 38)) := by
  subst hp hq hp' hq' hg
  obtain ⟨i0, hi0, hz0, hz1, hz2⟩ := info_parts info_spotA
  refine wpList_append_own _ hgd s x _ ho base 38 i0 _ 2 16 Tryd.underlying22 hi0 hz0 hz1 hz2 rfl (by omega) v n _ hs (World.ownsRow.alloc hown _) ⟨w.heap.size, 0, none⟩ 2 2 [.int .i64 (X n), .int .i64 (Y n), .int .i64 (X (n + 1)), .int .i64 (Y (n + 1))] hx rfl ?_ ?_ (by unfold maxLen; omega) (by omega) (by simp; omega) ?_
  · intro j u hu
    have := cell_new4 w _ _ _ _ 38 j u hu
    rw [add_none, Nat.zero_add]
    exact this
  · intro u hu
    simp only [List.mem_cons, List.not_mem_nil, or_false] at hu
    rcases hu with rfl | rfl | rfl | rfl <;> rfl
  · intro v' w' hown' hg _
    refine h v' w' ?_ ?_
    · unfold OwnR
      rw [show n + 2 = n + 1 + 1 from rfl, cells2_succ, cells2_succ, List.append_assoc]
      exact hown'
    · exact ((below_alloc w _).mono hbase).trans (below_grown hg (by simp; omega) (fun k hk => (World.ownsRow.lt hown k hk).1))

set_option maxRecDepth 100000 in
/-- One spot in new memory, as a list. -/
theorem OwnR.one {base : Nat} {w : World} (hb : base ≤ w.heap.size) {X Y : Nat → Int} {p q : Int} (hp : X 0 = p) (hq : Y 0 = q) : OwnR base (w.alloc (.cells #[.int .i64 p, .int .i64 q] 38)) (.slice (some ⟨w.heap.size, 0, none⟩) 1 1) 1 X Y := by
  subst hp hq
  exact ⟨cells2_len _ _ _, .inr ⟨w.heap.size, 1, #[.int .i64 (X 0), .int .i64 (Y 0)], rfl, hb, heap_alloc_new w _, Nat.le_refl _, by unfold maxLen; omega, rfl, by simp [cells2]⟩⟩
set_option maxRecDepth 100000 in
/-- The first m of them. -/
theorem OwnS.take {base : Nat} {w : World} {A : Option Addr} {n c m : Nat} {X Y : Nat → Int} (h : OwnS base w (.slice A n c) n X Y) (hm : m ≤ n) : OwnS base w (.slice A m c) m X Y := by
  obtain ⟨A', c', e, hnc, hr⟩ := h
  cases e
  refine ⟨_, _, rfl, by omega, fun hm0 => ?_⟩
  obtain ⟨b, o, h1, h2, h3, h4⟩ := hr (by omega)
  exact ⟨b, o, h1, h2, h3, fun i hi => h4 i (by omega)⟩

set_option maxRecDepth 100000 in
/-- 'append(out, x)' wherever the one-element slice lies. -/
theorem run_app_one {w : World} (ty : TypeId) (base : Nat) (v : Value) (n : Nat) (X Y : Nat → Int) {g : Nat} {p q : Int} (hp : X n = p) (hq : Y n = q)
    (hc0 : w.cell? ⟨g, 0, none⟩ = some (.int .i64 p)) (hc1 : w.cell? ⟨g, 1, none⟩ = some (.int .i64 q)) (hown : OwnR base w v n X Y) (hbase : base ≤ w.heap.size) (hn : n ≤ 1048576) :
    ∃ v' w', (Builtin.append_ #[22, 22] ty #[v, .slice (some ⟨g, 0, none⟩) 1 1]).run Tryd.prog w = .ok v' w' ∧ OwnR base w' v' (n + 1) X Y ∧ Below base w w' ∧ w.grownBy w' v.ownBlock ∧ (v'.ownBlock = v.ownBlock ∨ v'.ownBlock = some w.heap.size) := by
  subst hp hq
  obtain ⟨i0, hi0, hz0, hz1, hz2⟩ := info_parts info_spotA
  obtain ⟨v', w', hr, h1, h2, _, h5⟩ := run_append_own_at (P := Tryd.prog) w base 22 ty 38 i0 _ 2 16 Tryd.underlying22 hi0 hz0 hz1 hz2 rfl (by omega) v n _ hown ⟨g, 0, none⟩ 1 1
    [.int .i64 (X n), .int .i64 (Y n)] rfl (by
      intro j u hu
      rw [add_none, Nat.zero_add]
      match j, hu with
      | 0, hu => simp only [List.getElem?_cons_zero, Option.some.injEq] at hu; subst hu; exact hc0
      | 1, hu => simp only [List.getElem?_cons_succ, List.getElem?_cons_zero, Option.some.injEq] at hu; subst hu; exact hc1) (by
      intro u hu
      simp only [List.mem_cons, List.not_mem_nil, or_false] at hu
      rcases hu with rfl | rfl <;> rfl) (by unfold maxLen; omega) (by omega) hbase
  exact ⟨v', w', hr, by unfold OwnR; rw [cells2_succ]; exact h1, below_grown h2 hbase (fun k hk => (World.ownsRow.lt hown k hk).1), h2, h5⟩
section
variable {ops : Array Oper} {rest : List Oper} {o : Oper} {a : Act} {w : World} {K : Act → World → Prop} {Q : Exit → Act → World → Prop} {E : Prop} (hgd : o.guard = none) (s x : Operand)
    (ho : o.op = .call { callee := .builtin .append, args := #[s, x], argTypes := #[22, 22] })
    (base : Nat) (v : Value) (n : Nat) (X Y : Nat → Int) {g : Nat} (hs : a.eval s = v) (hx : a.eval x = .slice (some ⟨g, 0, none⟩) 1 1)
    {p q : Int} (hp : X n = p) (hq : Y n = q) (hc0 : w.cell? ⟨g, 0, none⟩ = some (.int .i64 p)) (hc1 : w.cell? ⟨g, 1, none⟩ = some (.int .i64 q))
    (hown : OwnR base w v n X Y) (hbase : base ≤ w.heap.size) (hn : n ≤ 1048576)
include hgd ho hs hx hp hq hc0 hc1 hown hbase hn
/-- At a step of a region that draws its order; what was written is told. -/
theorem step_app_spot2
    (h : ∀ v' w', OwnR base w' v' (n + 1) X Y → Below base w w' → w.grownBy w' v.ownBlock → (v'.ownBlock = v.ownBlock ∨ v'.ownBlock = some w.heap.size) → K (a.put o.dst v') w') :
    if Region.wanted o (yielded ops a.tmps) = true then Oper.wp Tryd.prog o a w K Q else E := by
  have hw : Region.wanted o (yielded ops a.tmps) = true := by unfold Region.wanted; rw [hgd]
  rw [if_pos hw]
  obtain ⟨v', w', hr, h1, h2, h3, h4⟩ := run_app_one o.type base v n X Y hp hq hc0 hc1 hown hbase hn
  unfold Oper.wp execOp
  simp only [ho, resolve, invoke, builtin, Sem.run_bind, Sem.run_pure, Result.andThen_ok, List.map_toArray, List.map_cons, List.map_nil, hs, hx, hr]
  exact h _ _ h1 h2 h3 h4
theorem step_app_spot
    (h : ∀ v' w', OwnR base w' v' (n + 1) X Y → Below base w w' → K (a.put o.dst v') w') :
    if Region.wanted o (yielded ops a.tmps) = true then Oper.wp Tryd.prog o a w K Q else E :=
  step_app_spot2 hgd s x ho base v n X Y hs hx hp hq hc0 hc1 hown hbase hn (fun v' w' h1 h2 _ _ => h v' w' h1 h2)
/-- In a plain region. -/
theorem wpList_app_spot2
    (h : ∀ v' w', OwnR base w' v' (n + 1) X Y → Below base w w' → w.grownBy w' v.ownBlock → (v'.ownBlock = v.ownBlock ∨ v'.ownBlock = some w.heap.size) → wpList Tryd.prog ops Q rest (a.put o.dst v') w') :
    wpList Tryd.prog ops Q (o :: rest) a w := by
  obtain ⟨v', w', hr, h1, h2, h3, h4⟩ := run_app_one o.type base v n X Y hp hq hc0 hc1 hown hbase hn
  refine wpList_plain hgd fun _ hK => ?_
  unfold Oper.wp execOp
  simp only [ho, resolve, invoke, builtin, Sem.run_bind, Sem.run_pure, Result.andThen_ok, List.map_toArray, List.map_cons, List.map_nil, hs, hx, hr]
  exact hK _ _ (h _ _ h1 h2 h3 h4)
end
theorem OwnR.own_ne {base : Nat} {w : World} {v : Value} {n : Nat} {X Y : Nat → Int} (h : OwnR base w v n X Y) {b : Nat} (hb : w.heap.size ≤ b) : v.ownBlock ≠ some b := fun e => by
  have := (World.ownsRow.lt h b e).2
  omega
theorem OwnR.own_old {base : Nat} {w : World} {v : Value} {n : Nat} {X Y : Nat → Int} (h : OwnR base w v n X Y) {b : Nat} (hb : b < base) : v.ownBlock ≠ some b := fun e => by
  have := (World.ownsRow.lt h b e).1
  omega
theorem OwnR.shape {base : Nat} {w : World} {v : Value} {n : Nat} {X Y : Nat → Int} (h : OwnR base w v n X Y) : ∃ A c, v = .slice A n c ∧ n ≤ c ∧ c ≤ maxLen := by
  rcases h.2 with ⟨rfl, rfl⟩ | ⟨g, cap, cur, rfl, hb, hg, hnc, hm, _⟩
  · exact ⟨none, 0, rfl, Nat.le_refl _, by unfold maxLen; omega⟩
  · exact ⟨_, _, rfl, hnc, hm⟩
end Go.Proofs.YtbfhfjpfjkdcfaaDoor
