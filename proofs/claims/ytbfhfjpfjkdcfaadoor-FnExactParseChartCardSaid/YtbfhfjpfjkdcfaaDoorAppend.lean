/-
  Appending spots to a slice of the call's own.
-/
import Derived.Test.YtbfhfjpfjkdcfaaDoorRows
import Derived.Test.YtbfhfjpfjkdcfaaDoorBase
import Derived.Test.YtbfhfjpfjkdcfaaDoorSlice
import Derived.Test.YtbfhfjpfjkdcfaaDoorGrow
import Derived.Maps.AppendAt
namespace Go.Proofs.YtbfhfjpfjkdcfaaDoor
open Go.RowKit

/-- The cells of n spots. -/
def cells2 (X Y : Nat → Int) (n : Nat) : List Value := (List.range n).flatMap fun i => [.int .i64 (X i), .int .i64 (Y i)]
set_option maxRecDepth 100000 in
theorem cells2_succ (X Y : Nat → Int) (n : Nat) : cells2 X Y (n + 1) = cells2 X Y n ++ [.int .i64 (X n), .int .i64 (Y n)] := by simp [cells2, List.range_succ]
set_option maxRecDepth 100000 in
theorem cells2_len (X Y : Nat → Int) (n : Nat) : (cells2 X Y n).length = n * 2 := by
  induction n with
  | zero => rfl
  | succ n ih => rw [cells2_succ, List.length_append, ih]; simp; omega
set_option maxRecDepth 100000 in
theorem cells2_get (X Y : Nat → Int) (n i : Nat) (h : i < n) : (cells2 X Y n)[i * 2]? = some (.int .i64 (X i)) ∧ (cells2 X Y n)[i * 2 + 1]? = some (.int .i64 (Y i)) := by
  induction n with
  | zero => omega
  | succ n ih =>
    rw [cells2_succ]
    by_cases e : i = n
    · subst e
      rw [List.getElem?_append_right (by rw [cells2_len]; omega), List.getElem?_append_right (by rw [cells2_len]; omega), cells2_len]
      rw [show i * 2 - i * 2 = 0 by omega, show i * 2 + 1 - i * 2 = 1 by omega]
      exact ⟨rfl, rfl⟩
    · rw [List.getElem?_append_left (by rw [cells2_len]; omega), List.getElem?_append_left (by rw [cells2_len]; omega)]
      exact ih (by omega)
set_option maxRecDepth 100000 in
theorem cells2_cong {X Y X' Y' : Nat → Int} {n : Nat} (hx : ∀ i, i < n → X i = X' i) (hy : ∀ i, i < n → Y i = Y' i) : cells2 X Y n = cells2 X' Y' n := by
  induction n with
  | zero => rfl
  | succ n ih => rw [cells2_succ, cells2_succ, ih (fun i hi => hx i (by omega)) (fun i hi => hy i (by omega)), hx n (by omega), hy n (by omega)]
set_option maxRecDepth 100000 in
theorem cells2_one (X Y : Nat → Int) (n : Nat) : ∀ u ∈ cells2 X Y n, u.oneCell' = true := by
  intro u hu
  obtain ⟨i, _, hi⟩ := List.mem_flatMap.1 hu
  simp only [List.mem_cons, List.not_mem_nil, or_false] at hi
  rcases hi with rfl | rfl <;> rfl

/-- The slice value v is one of the call's own, with n spots, from block base on. -/
def OwnR (base : Nat) (w : World) (v : Value) (n : Nat) (X Y : Nat → Int) : Prop := w.ownsRow base 38 2 v n (cells2 X Y n)

set_option maxRecDepth 100000 in
theorem OwnR.ownS {base : Nat} {w : World} {v : Value} {n : Nat} {X Y : Nat → Int} (h : OwnR base w v n X Y) : OwnS base w v n X Y := by
  have h0 := h
  rcases h.2 with ⟨rfl, rfl⟩ | ⟨g, cap, cur, rfl, hb, hg, hnc, _⟩
  · exact ⟨_, _, rfl, Nat.le_refl _, fun hn => absurd hn (by omega)⟩
  · refine ⟨_, _, rfl, hnc, fun hn => ⟨g, 0, rfl, hb, fun o => World.ownsRow.frozenAt h0 o, fun i hi => ?_⟩⟩
    rw [Nat.zero_add, World.ownsRow.cellAt h0 _ (by omega), World.ownsRow.cellAt h0 _ (by omega)]
    exact cells2_get X Y n i hi

set_option maxRecDepth 100000 in
theorem OwnR.up {base : Nat} {w w' : World} {v : Value} {n : Nat} {X Y : Nat → Int} (h : OwnR base w v n X Y) (hb : Below w.heap.size w w') : OwnR base w' v n X Y :=
  World.ownsRow.kept (row := none) h ⟨hb.os, hb.tape, hb.output, hb.size, fun k hk _ => hb.block k hk⟩ (by cases v.ownBlock <;> simp)
set_option maxRecDepth 100000 in
theorem OwnR.nil (base : Nat) (w : World) (X Y : Nat → Int) : OwnR base w (.slice none 0 0) 0 X Y := World.ownsRow_nil _ _ _ _
set_option maxRecDepth 100000 in
theorem OwnR.empty {base : Nat} {w : World} (hb : base ≤ w.heap.size) (X Y : Nat → Int) : OwnR base (w.alloc (.cells #[] 38)) (.slice (some ⟨w.heap.size, 0, none⟩) 0 0) 0 X Y :=
  World.ownsRow_made w #[] 0 hb (by unfold maxLen; omega) rfl

set_option maxRecDepth 100000 in
theorem info_spotA : (Tryd.prog.info? 38).map (fun i => (i.zero, i.size, i.bytes)) = some (some (.agg #[.int .i64 0, .int .i64 0]), 2, 16) := by kernel_rfl

set_option maxRecDepth 100000 in
/-- 'out = append(out, Spot{x, y})': the one-element slice has just been laid. -/
theorem wpList_app_spot {ops : Array Oper} {rest : List Oper} {o : Oper} {a : Act} {Q : Exit → Act → World → Prop} {w : World} (hgd : o.guard = none) (s x : Operand)
    (ho : o.op = .call { callee := .builtin .append, args := #[s, x], argTypes := #[22, 22] })
    (base : Nat) (v : Value) (n : Nat) (X Y : Nat → Int) {g : Nat} (hs : a.eval s = v) (hx : a.eval x = .slice (some ⟨g, 0, none⟩) 1 1) (hg : g = w.heap.size) (hown : OwnR base w v n X Y) (hbase : base ≤ w.heap.size) (hn : n ≤ 1048576)
    (h : ∀ v' w', OwnR base w' v' (n + 1) X Y → Below base w w' → wpList Tryd.prog ops Q rest (a.put o.dst v') w') :
    wpList Tryd.prog ops Q (o :: rest) a (w.alloc (.cells #[.int .i64 (X n), .int .i64 (Y n)] 38)) := by
  subst hg
  obtain ⟨i0, hi0, hz0, hz1, hz2⟩ := info_parts info_spotA
  refine wpList_append_own _ hgd s x _ ho base 38 i0 _ 2 16 Tryd.underlying22 hi0 hz0 hz1 hz2 rfl (by omega) v n _ hs (World.ownsRow.alloc hown _) ⟨w.heap.size, 0, none⟩ 1 1 [.int .i64 (X n), .int .i64 (Y n)] hx rfl ?_ ?_ (by unfold maxLen; omega) (by omega) (by simp; omega) ?_
  · intro j u hu
    match j, hu with
    | 0, hu => simp only [List.getElem?_cons_zero, Option.some.injEq] at hu; subst hu; exact (cell_new2 w _ _ _).1
    | 1, hu => simp only [List.getElem?_cons_succ, List.getElem?_cons_zero, Option.some.injEq] at hu; subst hu; exact (cell_new2 w _ _ _).2
  · intro u hu
    simp only [List.mem_cons, List.not_mem_nil, or_false] at hu
    rcases hu with rfl | rfl <;> rfl
  · intro v' w' hown' hg _
    refine h v' w' ?_ ?_
    · unfold OwnR; rw [cells2_succ]; exact hown'
    · exact ((below_alloc w _).mono hbase).trans (below_grown hg (by simp; omega) (fun k hk => (World.ownsRow.lt hown k hk).1))

set_option maxRecDepth 100000 in
theorem cells2_cat (n m : Nat) (X Y X' Y' : Nat → Int) : cells2 (cat n X X') (cat n Y Y') (n + m) = cells2 X Y n ++ cells2 X' Y' m := by
  induction m with
  | zero =>
    rw [Nat.add_zero, show cells2 X' Y' 0 = [] from rfl, List.append_nil]
    exact cells2_cong (fun i hi => if_pos hi) (fun i hi => if_pos hi)
  | succ m ih =>
    rw [← Nat.add_assoc, cells2_succ, ih, cells2_succ, List.append_assoc]
    congr 2
    unfold cat
    rw [if_neg (by omega), if_neg (by omega), show n + m - n = m by omega]

set_option maxRecDepth 100000 in

set_option maxRecDepth 100000 in
theorem run_app_all {w : World} (ty : TypeId) (base : Nat) (v x : Value) (n m : Nat) (X Y X' Y' : Nat → Int) (hown : OwnR base w v n X Y) (hx : Spots w x m X' Y') (hbase : base ≤ w.heap.size) (hn : n + m ≤ 1048576) :
    ∃ v' w', (Builtin.append_ #[22, 22] ty #[v, x]).run Tryd.prog w = .ok v' w' ∧ OwnR base w' v' (n + m) (cat n X X') (cat n Y Y') ∧ Below base w w' := by
  obtain ⟨i0, hi0, hz0, hz1, hz2⟩ := info_parts info_spotA
  obtain ⟨A, c, rfl, hmc, hrow⟩ := hx
  have hex : ∀ ad, A = some ad → (∀ j u, (cells2 X' Y' m)[j]? = some u → w.cell? (ad.add j) = some u) →
      ∃ v' w', (Builtin.append_ #[22, 22] ty #[v, .slice A m c]).run Tryd.prog w = .ok v' w' ∧ OwnR base w' v' (n + m) (cat n X X') (cat n Y Y') ∧ Below base w w' := by
    intro ad hA hc
    subst hA
    obtain ⟨v', w', hr, h1, h2, _⟩ := run_append_own_at (P := Tryd.prog) w base 22 ty 38 i0 _ 2 16 Tryd.underlying22 hi0 hz0 hz1 hz2 rfl (by omega) v n _ hown ad m c (cells2 X' Y' m) (cells2_len _ _ _) hc (cells2_one _ _ _) (by unfold maxLen; omega) (by omega) hbase
    exact ⟨v', w', hr, by unfold OwnR; rw [cells2_cat]; exact h1, below_grown h2 hbase (fun k hk => (World.ownsRow.lt hown k hk).1)⟩
  rcases Nat.eq_zero_or_pos m with h0 | h0
  · subst h0
    cases A with
    | some ad => exact hex ad rfl (fun j u hu => by simp [cells2] at hu)
    | none =>
      refine ⟨v, w, ?_, ?_, Below.refl _ _⟩
      · rcases hown.2 with ⟨rfl, rfl⟩ | ⟨g, cap, cur, rfl, _, _, hnc, _⟩
        · simp [Builtin.append_, run_underlying Tryd.underlying22, sizeOf, typeInfo, hi0, Builtin.lenOf, Builtin.firstCells]
        · simp [Builtin.append_, run_underlying Tryd.underlying22, sizeOf, typeInfo, hi0, Builtin.lenOf, Builtin.firstCells, hnc, storeCells]
      · have := cells2_cat n 0 X Y X' Y'
        unfold OwnR
        rw [this, show cells2 X' Y' 0 = [] from rfl, List.append_nil]
        exact hown
  · obtain ⟨b, o, rfl, hr⟩ := hrow h0
    refine hex _ rfl (fun j u hu => ?_)
    have hj : j < m * 2 := by
      rcases Nat.lt_or_ge j (m * 2) with h | h
      · exact h
      · rw [List.getElem?_eq_none (by rw [cells2_len]; exact h)] at hu; cases hu
    rw [add_none]
    have hd := cells2_get X' Y' m (j / 2) (by omega)
    rcases (by omega : j = j / 2 * 2 ∨ j = j / 2 * 2 + 1) with e | e
    · rw [e] at hu ⊢
      rw [hd.1] at hu
      injection hu with hu
      rw [← hu]
      exact (hr _ (by omega)).1
    · rw [e] at hu ⊢
      rw [hd.2] at hu
      injection hu with hu
      rw [← hu, ← Nat.add_assoc]
      exact (hr _ (by omega)).2

set_option maxRecDepth 100000 in
/-- 'append(out, l...)'. -/
theorem wpList_app_all {ops : Array Oper} {rest : List Oper} {o : Oper} {a : Act} {Q : Exit → Act → World → Prop} {w : World} (hgd : o.guard = none) (s x : Operand)
    (ho : o.op = .call { callee := .builtin .append, args := #[s, x], argTypes := #[22, 22] })
    (base : Nat) (v u : Value) (n m : Nat) (X Y X' Y' : Nat → Int) (hs : a.eval s = v) (hx : a.eval x = u) (hown : OwnR base w v n X Y) (hsp : Spots w u m X' Y') (hbase : base ≤ w.heap.size) (hn : n + m ≤ 1048576)
    (h : ∀ v' w', OwnR base w' v' (n + m) (cat n X X') (cat n Y Y') → Below base w w' → wpList Tryd.prog ops Q rest (a.put o.dst v') w') : wpList Tryd.prog ops Q (o :: rest) a w := by
  obtain ⟨v', w', hr, h1, h2⟩ := run_app_all (w := w) o.type base v u n m X Y X' Y' hown hsp hbase hn
  refine wpList_plain hgd fun _ hK => ?_
  unfold Oper.wp execOp
  simp only [ho, resolve, invoke, builtin, Sem.run_bind, Sem.run_pure, Result.andThen_ok, List.map_toArray, List.map_cons, List.map_nil, hs, hx, hr]
  exact hK _ _ (h v' w' h1 h2)
set_option maxRecDepth 100000 in
/-- 'append([]Spot{}, l...)'. -/
theorem wpList_app_copy {ops : Array Oper} {rest : List Oper} {o : Oper} {a : Act} {Q : Exit → Act → World → Prop} {w : World} (hgd : o.guard = none) (s x : Operand)
    (ho : o.op = .call { callee := .builtin .append, args := #[s, x], argTypes := #[22, 22] })
    (base : Nat) (v u : Value) (m : Nat) (X' Y' : Nat → Int) (hs : a.eval s = v) (hx : a.eval x = u) (hown : OwnR base w v 0 X' Y') (hsp : Spots w u m X' Y') (hbase : base ≤ w.heap.size) (hn : m ≤ 1048576)
    (h : ∀ v' w', OwnR base w' v' m X' Y' → Below base w w' → wpList Tryd.prog ops Q rest (a.put o.dst v') w') : wpList Tryd.prog ops Q (o :: rest) a w := by
  refine wpList_app_all hgd s x ho base v u 0 m X' Y' X' Y' hs hx hown hsp hbase (by omega) (fun v' w' h1 h2 => h v' w' ?_ h2)
  rw [Nat.zero_add] at h1
  unfold OwnR at h1 ⊢
  rwa [cells2_cong (X' := X') (Y' := Y') (fun i hi => by unfold cat; rw [if_neg (by omega)]; rfl) (fun i hi => by unfold cat; rw [if_neg (by omega)]; rfl)] at h1

end Go.Proofs.YtbfhfjpfjkdcfaaDoor
