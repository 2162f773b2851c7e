/-
  Slices of moves that are appended to.
-/
import Derived.Test.YtkmnkodgmngaeaaRows
import Derived.Test.YtkmnkodgmngaeaaBase
import Derived.Test.YtkmnkodgmngaeaaSlice
import Derived.Test.YtkmnkodgmngaeaaLawS
import Derived.Test.YtkmnkodgmngaeaaMark
import Derived.Test.YtkmnkodgmngaeaaAppend
import Derived.Test.YtkmnkodgmngaeaaAppendE
import Derived.Test.YtkmnkodgmngaeaaMoves
import Derived.Maps.AppendAt
namespace Go.Proofs.Ytkmnkodgmngaeaa
open Go.RowKit

/-- The cells of n moves. -/
def cells5 (M : Nat → Nat → Int) : Nat → List Value
  | 0 => []
  | n + 1 => cells5 M n ++ [.int .i64 (M n 0), .int .i64 (M n 1), .int .i64 (M n 2), .int .i64 (M n 3), .int .i64 (M n 4)]
theorem cells5_len (M : Nat → Nat → Int) : ∀ n, (cells5 M n).length = n * 5
  | 0 => rfl
  | n + 1 => by rw [cells5, List.length_append, cells5_len M n]; simp; omega
theorem cells5_old (M : Nat → Nat → Int) (n o : Nat) (h : o < n * 5) : (cells5 M (n + 1))[o]? = (cells5 M n)[o]? := by
  rw [cells5, List.getElem?_append_left (by rw [cells5_len]; exact h)]
theorem cells5_get (M : Nat → Nat → Int) (i : Nat) : ∀ n, i < n → ∀ k, k < 5 → (cells5 M n)[i * 5 + k]? = some (.int .i64 (M i k))
  | 0, h, _, _ => absurd h (by omega)
  | n + 1, h, k, hk => by
    by_cases e : i = n
    · subst e
      rw [cells5, List.getElem?_append_right (by rw [cells5_len]; omega), cells5_len, show i * 5 + k - i * 5 = k by omega]
      have : k = 0 ∨ k = 1 ∨ k = 2 ∨ k = 3 ∨ k = 4 := by omega
      rcases this with rfl | rfl | rfl | rfl | rfl <;> rfl
    · rw [cells5_old M n _ (by omega)]
      exact cells5_get M i n (by omega) k hk
/-- The slice value v is one of the call's own, with n moves, from block base on. -/
def OwnNM (base : Nat) (w : World) (v : Value) (n : Nat) (M : Nat → Nat → Int) : Prop := w.ownsRow base 55 5 v n (cells5 M n)
theorem OwnNM.ownM {base : Nat} {w : World} {v : Value} {n : Nat} {M : Nat → Nat → Int} (h : OwnNM base w v n M) : OwnM base w v n M := by
  have h0 := h
  rcases h.2 with ⟨rfl, rfl⟩ | ⟨g, cap, cur, rfl, hb, hg, hnc, _⟩
  · exact ⟨_, _, rfl, Nat.le_refl _, fun hn => absurd hn (by omega)⟩
  · refine ⟨_, _, rfl, hnc, fun hn => ⟨g, 0, rfl, hb, fun o => World.ownsRow.frozenAt h0 o, fun i hi => ?_⟩⟩
    have hh : ∀ k, k < 5 → w.cell? ⟨g, i * 5 + k, none⟩ = some (.int .i64 (M i k)) := fun k hk => by
      rw [World.ownsRow.cellAt h0 _ (by omega)]
      exact cells5_get M i n hi k hk
    rw [Nat.zero_add]
    exact ⟨hh 0 (by omega), hh 1 (by omega), hh 2 (by omega), hh 3 (by omega), hh 4 (by omega)⟩
theorem OwnNM.up {base : Nat} {w w' : World} {v : Value} {n : Nat} {M : Nat → Nat → Int} (h : OwnNM base w v n M) (hb : Below w.heap.size w w') : OwnNM base w' v n M :=
  World.ownsRow.kept (row := none) h ⟨hb.os, hb.tape, hb.output, hb.size, fun k hk _ => hb.block k hk⟩ (by cases v.ownBlock <;> simp)
theorem OwnNM.nil (base : Nat) (w : World) (M : Nat → Nat → Int) : OwnNM base w (.slice none 0 0) 0 M := World.ownsRow_nil _ _ _ _
theorem OwnNM.empty {base : Nat} {w : World} (hb : base ≤ w.heap.size) (M : Nat → Nat → Int) : OwnNM base (w.alloc (.cells #[] 55)) (.slice (some ⟨w.heap.size, 0, none⟩) 0 0) 0 M :=
  World.ownsRow_made w #[] 0 hb (by unfold maxLen; omega) rfl
theorem OwnNM.shape {base : Nat} {w : World} {v : Value} {n : Nat} {M : Nat → Nat → Int} (h : OwnNM base w v n M) : ∃ A c, v = .slice A n c ∧ n ≤ c ∧ c ≤ maxLen := by
  rcases h.2 with ⟨rfl, rfl⟩ | ⟨g, cap, cur, rfl, hb, hg, hnc, hm, _⟩
  · exact ⟨none, 0, rfl, Nat.le_refl _, by unfold maxLen; omega⟩
  · exact ⟨_, _, rfl, hnc, hm⟩
theorem OwnNM.own_ne {base : Nat} {w : World} {v : Value} {n : Nat} {M : Nat → Nat → Int} (h : OwnNM base w v n M) {b : Nat} (hb : w.heap.size ≤ b) : v.ownBlock ≠ some b := fun e => by
  have := (World.ownsRow.lt h b e).2
  omega
theorem info_moveN : (Try.prog.info? 55).map (fun i => (i.zero, i.size, i.bytes)) = some (some (.agg #[.int .i64 0, .int .i64 0, .int .i64 0, .int .i64 0, .int .i64 0]), 5, 40) := by kernel_rfl
set_option maxRecDepth 100000 in
/-- 'append(out, m)' wherever the one-element slice lies. -/
theorem run_app_move {w : World} (ty : TypeId) (base : Nat) (v : Value) (n : Nat) (M : Nat → Nat → Int) {g : Nat} (hc : Cells5 w g 0 (M n)) (hown : OwnNM base w v n M) (hbase : base ≤ w.heap.size) (hn : n ≤ 1048576) :
    ∃ v' w', (Builtin.append_ #[27, 27] ty #[v, .slice (some ⟨g, 0, none⟩) 1 1]).run Try.prog w = .ok v' w' ∧ OwnNM base w' v' (n + 1) M ∧ Below base w w' ∧ w.grownBy w' v.ownBlock ∧ (v'.ownBlock = v.ownBlock ∨ v'.ownBlock = some w.heap.size) := by
  obtain ⟨i0, hi0, hz0, hz1, hz2⟩ := info_parts info_moveN
  obtain ⟨v', w', hr, h1, h2, _, h5⟩ := run_append_own_at (P := Try.prog) w base 27 ty 55 i0 _ 5 40 Try.underlying27 hi0 hz0 hz1 hz2 rfl (by omega) v n _ hown ⟨g, 0, none⟩ 1 1
    [.int .i64 (M n 0), .int .i64 (M n 1), .int .i64 (M n 2), .int .i64 (M n 3), .int .i64 (M n 4)] rfl (by
      intro j u hu
      rw [add_none, Nat.zero_add]
      match j, hu with
      | 0, hu => simp only [List.getElem?_cons_zero, Option.some.injEq] at hu; subst hu; exact hc.c0
      | 1, hu => simp only [List.getElem?_cons_succ, List.getElem?_cons_zero, Option.some.injEq] at hu; subst hu; exact hc.c1
      | 2, hu => simp only [List.getElem?_cons_succ, List.getElem?_cons_zero, Option.some.injEq] at hu; subst hu; exact hc.c2
      | 3, hu => simp only [List.getElem?_cons_succ, List.getElem?_cons_zero, Option.some.injEq] at hu; subst hu; exact hc.c3
      | 4, hu => simp only [List.getElem?_cons_succ, List.getElem?_cons_zero, Option.some.injEq] at hu; subst hu; exact hc.c4
      | (k + 5), hu => simp at hu) (by
      intro u hu
      simp only [List.mem_cons, List.not_mem_nil, or_false] at hu
      rcases hu with rfl | rfl | rfl | rfl | rfl <;> rfl) (by unfold maxLen; omega) (by omega) hbase
  exact ⟨v', w', hr, by unfold OwnNM; rw [cells5]; exact h1, below_grown h2 hbase (fun k hk => (World.ownsRow.lt hown k hk).1), h2, h5⟩
section
variable {ops : Array Oper} {rest : List Oper} {o : Oper} {a : Act} {w : World} {K : Act → World → Prop} {Q : Exit → Act → World → Prop} {E : Prop} (hgd : o.guard = none) (s x : Operand)
    (ho : o.op = .call { callee := .builtin .append, args := #[s, x], argTypes := #[27, 27] })
    (base : Nat) (v : Value) (n : Nat) (M : Nat → Nat → Int) {g : Nat} (hs : a.eval s = v) (hx : a.eval x = .slice (some ⟨g, 0, none⟩) 1 1)
    (hc : Cells5 w g 0 (M n)) (hown : OwnNM base w v n M) (hbase : base ≤ w.heap.size) (hn : n ≤ 1048576)
include hgd ho hs hx hc hown hbase hn
theorem step_app_move
    (h : ∀ v' w', OwnNM base w' v' (n + 1) M → Below base w w' → w.grownBy w' v.ownBlock → (v'.ownBlock = v.ownBlock ∨ v'.ownBlock = some w.heap.size) → K (a.put o.dst v') w') :
    if Region.wanted o (yielded ops a.tmps) = true then Oper.wp Try.prog o a w K Q else E := by
  have hw : Region.wanted o (yielded ops a.tmps) = true := by unfold Region.wanted; rw [hgd]
  rw [if_pos hw]
  obtain ⟨v', w', hr, h1, h2, h3, h4⟩ := run_app_move o.type base v n M hc hown hbase hn
  unfold Oper.wp execOp
  simp only [ho, resolve, invoke, builtin, Sem.run_bind, Sem.run_pure, Result.andThen_ok, List.map_toArray, List.map_cons, List.map_nil, hs, hx, hr]
  exact h _ _ h1 h2 h3 h4
theorem wpList_app_move
    (h : ∀ v' w', OwnNM base w' v' (n + 1) M → Below base w w' → w.grownBy w' v.ownBlock → (v'.ownBlock = v.ownBlock ∨ v'.ownBlock = some w.heap.size) → wpList Try.prog ops Q rest (a.put o.dst v') w') :
    wpList Try.prog ops Q (o :: rest) a w := by
  obtain ⟨v', w', hr, h1, h2, h3, h4⟩ := run_app_move o.type base v n M hc hown hbase hn
  refine wpList_plain hgd fun _ hK => ?_
  unfold Oper.wp execOp
  simp only [ho, resolve, invoke, builtin, Sem.run_bind, Sem.run_pure, Result.andThen_ok, List.map_toArray, List.map_cons, List.map_nil, hs, hx, hr]
  exact hK _ _ (h _ _ h1 h2 h3 h4)
end
end Go.Proofs.Ytkmnkodgmngaeaa
