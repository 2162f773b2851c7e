/-
  Slices of pairs of ints in memory of their own, appended to.
-/
import Derived.Test.YtccipfpbaeoggaaRows
import Derived.Test.YtccipfpbaeoggaaBase
import Derived.Test.YtccipfpbaeoggaaSlice
import Derived.Test.YtccipfpbaeoggaaLawS
import Derived.Test.YtccipfpbaeoggaaMark
import Derived.Test.YtccipfpbaeoggaaAppend
import Derived.Test.YtccipfpbaeoggaaInts
import Derived.Test.YtccipfpbaeoggaaIntsL
import Derived.Test.YtccipfpbaeoggaaTurned
import Derived.Test.YtccipfpbaeoggaaTrans
import Derived.Test.YtccipfpbaeoggaaRowsI
import Derived.Maps.AppendAt
namespace Go.Proofs.Ytccipfpbaeoggaa
open Go.RowKit

/-- The pairs L, each in a block of its own, in a slice of the call's own. -/
def OwnP (base : Nat) (w : World) (v : Value) (L : List (Nat × Nat)) : Prop := ∃ G : List Nat, G.length = L.length ∧ w.ownsRow base 64 1 v L.length (G.map fun g => .slice (some ⟨g, 0, none⟩) 2 2) ∧
  (∀ (i g : Nat), G[i]? = some g → base ≤ g ∧ g < w.heap.size ∧ v.ownBlock ≠ some g ∧ Free w g ∧ w.cell? ⟨g, 0, none⟩ = some (.int .i64 (L.getD i (0, 0)).1) ∧ w.cell? ⟨g, 1, none⟩ = some (.int .i64 (L.getD i (0, 0)).2)) ∧
  ∀ (i j g : Nat), G[i]? = some g → G[j]? = some g → i = j
def prF (L : List (Nat × Nat)) (i j : Nat) : Int := if j = 0 then ((L.getD i (0, 0)).1 : Int) else ((L.getD i (0, 0)).2 : Int)
theorem OwnP.up {base : Nat} {w w' : World} {v : Value} {L : List (Nat × Nat)} (h : OwnP base w v L) (hb : Below w.heap.size w w') : OwnP base w' v L := by
  obtain ⟨G, h1, h2, h3, h4⟩ := h
  refine ⟨G, h1, World.ownsRow.kept (row := none) h2 ⟨hb.os, hb.tape, hb.output, hb.size, fun k hk _ => hb.block k hk⟩ (by cases v.ownBlock <;> simp), fun i g hg => ?_, h4⟩
  obtain ⟨g1, g2, g3, g4, g5, g6⟩ := h3 i g hg
  exact ⟨g1, Nat.lt_of_lt_of_le g2 hb.size, g3, g4.up g2 hb, up_keep hb g5, up_keep hb g6⟩
theorem OwnP.nil (base : Nat) (w : World) : OwnP base w (.slice none 0 0) [] := ⟨[], rfl, World.ownsRow_nil _ _ _ _, fun i g h => by simp at h, fun i j g h => by simp at h⟩
theorem OwnP.empty {base : Nat} {w : World} (hb : base ≤ w.heap.size) : OwnP base (w.alloc (.cells #[] 64)) (.slice (some ⟨w.heap.size, 0, none⟩) 0 0) [] :=
  ⟨[], rfl, World.ownsRow_made w #[] 0 hb (by unfold maxLen; omega) rfl, fun i g h => by simp at h, fun i j g h => by simp at h⟩
theorem OwnP.own_ne {base : Nat} {w : World} {v : Value} {L : List (Nat × Nat)} (h : OwnP base w v L) {b : Nat} (hb : w.heap.size ≤ b) : v.ownBlock ≠ some b := fun e => by
  obtain ⟨G, h1, h2, h3, h4⟩ := h
  have := (World.ownsRow.lt h2 b e).2
  omega
theorem OwnP.rw {base : Nat} {w : World} {v : Value} {L : List (Nat × Nat)} (h : OwnP base w v L) : OwnRw base w v L.length (fun _ => 2) (prF L) := by
  obtain ⟨G, h1, h2, h3, h4⟩ := h
  have key : ∀ i, i < L.length → ∃ g, G[i]? = some g := fun i hi => ⟨G[i]'(by omega), List.getElem?_eq_getElem (by omega)⟩
  have hV : ∀ i, i < L.length → ∀ g, G[i]? = some g → (G.map fun g => Value.slice (some ⟨g, 0, none⟩) 2 2)[i]? = some (.slice (some ⟨g, 0, none⟩) 2 2) := fun i _ g hg => by rw [List.getElem?_map, hg]; rfl
  have h20 := h2
  have hgd : ∀ i gi, G[i]? = some gi → G.getD i 0 = gi := fun i gi h => by rw [List.getD_eq_getElem?_getD, h]; rfl
  have hA : ∃ A c, v = .slice A L.length c ∧ L.length ≤ c := by
    rcases h2.2 with ⟨rfl, h0⟩ | ⟨g, cap, cur, rfl, hb, hg, hnc, _⟩
    · exact ⟨none, 0, by rw [h0], by omega⟩
    · exact ⟨_, _, rfl, hnc⟩
  obtain ⟨A, c, hv, hc⟩ := hA
  refine ⟨A, c, fun i => .slice (some ⟨G.getD i 0, 0, none⟩) 2 2, hv, hc, fun hn => ?_, fun i hi => ?_, fun i j hi hj hij _ _ => ?_⟩
  · rcases h2.2 with ⟨_, h0⟩ | ⟨g, cap, cur, hv', hb, hg, hnc, _⟩
    · omega
    · rw [hv] at hv'
      injection hv' with e1
      subst e1
      refine ⟨g, 0, rfl, hb, fun i hi => ?_, fun i hi _ => ?_⟩
      · obtain ⟨gi, hgi⟩ := key i hi
        rw [Nat.zero_add]
        have := World.ownsRow.cellAt (hv ▸ h20) i (by omega)
        rw [this, hV i hi gi hgi]
        show _ = some (Value.slice (some ⟨G.getD i 0, 0, none⟩) 2 2)
        rw [hgd i gi hgi]
      · obtain ⟨gi, hgi⟩ := key i hi
        have := (h3 i gi hgi).2.2.1
        show (Value.slice (some ⟨G.getD i 0, 0, none⟩) 2 2).ownBlock ≠ some g
        rw [hgd i gi hgi]
        rw [hv] at this
        simpa [Value.ownBlock, eq_comm] using this
  · obtain ⟨gi, hgi⟩ := key i hi
    obtain ⟨g1, g2, g3, g4, g5, g6⟩ := h3 i gi hgi
    refine ⟨_, _, rfl, Nat.le_refl _, fun _ => ⟨gi, 0, by rw [hgd i gi hgi], g1, g4, fun j hj => ?_⟩⟩
    have hj' : j < 2 := hj
    rcases (by omega : j = 0 ∨ j = 1) with rfl | rfl
    · exact g5
    · exact g6
  · obtain ⟨gi, hgi⟩ := key i hi
    obtain ⟨gj, hgj⟩ := key j hj
    show (Value.slice (some ⟨G.getD i 0, 0, none⟩) 2 2).ownBlock ≠ (Value.slice (some ⟨G.getD j 0, 0, none⟩) 2 2).ownBlock
    rw [hgd i gi hgi, hgd j gj hgj]
    simp only [Value.ownBlock, ne_eq, Option.some.injEq]
    intro e
    subst e
    exact hij (h4 i j gi hgi hgj)
set_option maxRecDepth 100000 in
theorem info_ints : (Try.prog.info? 64).map (fun i => (i.zero, i.size, i.bytes)) = some (some (.slice none 0 0), 1, 24) := by kernel_rfl
set_option maxRecDepth 100000 in
/-- 'append(out, []int{p, q})'. -/
theorem run_app_pair {w : World} (ty : TypeId) (base : Nat) (v : Value) (L : List (Nat × Nat)) (p q : Nat) {g g2 : Nat} (hg0 : w.cell? ⟨g, 0, none⟩ = some (.int .i64 p)) (hg1 : w.cell? ⟨g, 1, none⟩ = some (.int .i64 q))
    (hfr : Free w g) (hbg : base ≤ g) (hc : w.cell? ⟨g2, 0, none⟩ = some (.slice (some ⟨g, 0, none⟩) 2 2)) {W : World} (hown : OwnP base W v L) (hWw : Below W.heap.size W w) (hWg : W.heap.size ≤ g) (hbase : base ≤ w.heap.size) (hn : L.length ≤ 1048576) :
    ∃ v' w', (Builtin.append_ #[57, 57] ty #[v, .slice (some ⟨g2, 0, none⟩) 1 1]).run Try.prog w = .ok v' w' ∧ OwnP base w' v' (L ++ [(p, q)]) ∧ Below base w w' ∧ w.grownBy w' v.ownBlock ∧ (v'.ownBlock = v.ownBlock ∨ v'.ownBlock = some w.heap.size) := by
  obtain ⟨i0, hi0, hz0, hz1, hz2⟩ := info_parts info_ints
  have hown' := hown.up hWw
  obtain ⟨G, h1, h2, h3, h4⟩ := hown'
  obtain ⟨G', k1, k2, k3, k4⟩ := hown
  have hglt : g < w.heap.size := lt_of_cell hg0
  have hvg : v.ownBlock ≠ some g := fun e => by
    have := (World.ownsRow.lt k2 g e).2
    omega
  obtain ⟨v', w', hr, m1, m2, _, m5⟩ := run_append_own_at (P := Try.prog) w base 57 ty 64 i0 _ 1 24 Try.underlying57 hi0 hz0 hz1 hz2 rfl (by omega) v L.length _ h2 ⟨g2, 0, none⟩ 1 1
    [.slice (some ⟨g, 0, none⟩) 2 2] rfl (by
      intro j u hu
      rw [add_none, Nat.zero_add]
      match j, hu with
      | 0, hu => simp only [List.getElem?_cons_zero, Option.some.injEq] at hu; subst hu; exact hc) (by
      intro u hu
      simp only [List.mem_cons, List.not_mem_nil, or_false] at hu
      subst hu; rfl) (by unfold maxLen; omega) (by omega) hbase
  have hnv : ∀ b, b < w.heap.size → v.ownBlock ≠ some b → v'.ownBlock ≠ some b := fun b hb hne e => by
    rcases m5 with m5 | m5
    · rw [m5] at e; exact hne e
    · rw [m5] at e; injection e with e; omega
  have hkeep : ∀ b oo x, w.cell? ⟨b, oo, none⟩ = some x → v.ownBlock ≠ some b → w'.cell? ⟨b, oo, none⟩ = some x := fun b oo x hx hne => (World.cell?_of_block (a := ⟨b, oo, none⟩) (m2.block b (lt_of_cell hx) (Ne.symm hne))).trans hx
  have hfree : ∀ b, b < w.heap.size → v.ownBlock ≠ some b → Free w b → Free w' b := fun b hb hne hf => hf.only hb m2 hne
  refine ⟨v', w', hr, ⟨G ++ [g], by simp [h1], by simpa using m1, fun i gi hgi => ?_, fun i j gi hi hj => ?_⟩, below_grown m2 hbase (fun k hk => (World.ownsRow.lt h2 k hk).1), m2, m5⟩
  · rcases Nat.lt_or_ge i G.length with hi | hi
    · rw [List.getElem?_append_left hi] at hgi
      obtain ⟨g1', g2', g3', g4', g5', g6'⟩ := h3 i gi hgi
      have e : (L ++ [(p, q)]).getD i (0, 0) = L.getD i (0, 0) := by rw [List.getD_eq_getElem?_getD, List.getD_eq_getElem?_getD, List.getElem?_append_left (by omega)]
      rw [e]
      exact ⟨g1', Nat.lt_of_lt_of_le g2' m2.size, hnv _ g2' g3', hfree _ g2' g3' g4', hkeep _ _ _ g5' g3', hkeep _ _ _ g6' g3'⟩
    · rw [List.getElem?_append_right hi] at hgi
      have hi0 : i - G.length = 0 := by
        rcases Nat.eq_zero_or_pos (i - G.length) with h | h
        · exact h
        · rw [List.getElem?_eq_none (by simp; omega)] at hgi; cases hgi
      rw [hi0] at hgi
      simp only [List.getElem?_cons_zero, Option.some.injEq] at hgi
      subst hgi
      have e : (L ++ [(p, q)]).getD i (0, 0) = (p, q) := by
        rw [List.getD_eq_getElem?_getD, List.getElem?_append_right (by omega), show i - L.length = 0 by omega]; rfl
      rw [e]
      exact ⟨hbg, Nat.lt_of_lt_of_le hglt m2.size, hnv _ hglt hvg, hfree _ hglt hvg hfr, hkeep _ _ _ hg0 hvg, hkeep _ _ _ hg1 hvg⟩
  · have old : ∀ i gi, i < G.length → (G ++ [g])[i]? = some gi → gi < W.heap.size := fun i gi hi hgi => by
      rw [List.getElem?_append_left hi] at hgi
      have : G'[i]? = some gi := by
        rcases h2.2 with ⟨e0, h0⟩ | ⟨gg, cap, cur, e0, _, hgg, _⟩
        · omega
        · subst e0
          have hcel := World.ownsRow.cellAt h2 i (show i < L.length * 1 by omega)
          have hW1 := World.ownsRow.cellAt k2 i (show i < L.length * 1 by omega)
          have a1 : w.cell? ⟨gg, i, none⟩ = some (.slice (some ⟨gi, 0, none⟩) 2 2) := by
            rw [hcel, List.getElem?_map, hgi]; rfl
          have hi' : i < G'.length := by omega
          have a2 : W.cell? ⟨gg, i, none⟩ = some (.slice (some ⟨G'[i], 0, none⟩) 2 2) := by
            rw [hW1, List.getElem?_map, List.getElem?_eq_getElem hi']; rfl
          rw [up_keep hWw a2] at a1
          injection a1 with a1
          injection a1 with a1
          injection a1 with a1
          injection a1 with a1
          rw [List.getElem?_eq_getElem hi', a1]
      exact (k3 i gi this).2.1
    rcases Nat.lt_or_ge i G.length with h | h <;> rcases Nat.lt_or_ge j G.length with h' | h'
    · rw [List.getElem?_append_left h] at hi
      rw [List.getElem?_append_left h'] at hj
      exact h4 i j gi hi hj
    · have o1 := old i gi h hi
      rw [List.getElem?_append_right h'] at hj
      have hj0 : j - G.length = 0 := by
        rcases Nat.eq_zero_or_pos (j - G.length) with q | q
        · exact q
        · rw [List.getElem?_eq_none (by simp; omega)] at hj; cases hj
      rw [hj0] at hj
      simp only [List.getElem?_cons_zero, Option.some.injEq] at hj
      omega
    · have o1 := old j gi h' hj
      rw [List.getElem?_append_right h] at hi
      have hi0 : i - G.length = 0 := by
        rcases Nat.eq_zero_or_pos (i - G.length) with q | q
        · exact q
        · rw [List.getElem?_eq_none (by simp; omega)] at hi; cases hi
      rw [hi0] at hi
      simp only [List.getElem?_cons_zero, Option.some.injEq] at hi
      omega
    · have a : i < (G ++ [g]).length := by
        rcases Nat.lt_or_ge i (G ++ [g]).length with q | q
        · exact q
        · rw [List.getElem?_eq_none q] at hi; cases hi
      have b : j < (G ++ [g]).length := by
        rcases Nat.lt_or_ge j (G ++ [g]).length with q | q
        · exact q
        · rw [List.getElem?_eq_none q] at hj; cases hj
      simp at a b
      omega
theorem wpList_app_pair {ops : Array Oper} {rest : List Oper} {o : Oper} {a : Act} {Q : Exit → Act → World → Prop} {w : World} (hgd : o.guard = none) (s x : Operand)
    (ho : o.op = .call { callee := .builtin .append, args := #[s, x], argTypes := #[57, 57] })
    (base : Nat) (v : Value) (L : List (Nat × Nat)) (p q : Nat) {g g2 : Nat} (hs : a.eval s = v) (hx : a.eval x = .slice (some ⟨g2, 0, none⟩) 1 1)
    (hg0 : w.cell? ⟨g, 0, none⟩ = some (.int .i64 p)) (hg1 : w.cell? ⟨g, 1, none⟩ = some (.int .i64 q)) (hfr : Free w g) (hbg : base ≤ g) (hc : w.cell? ⟨g2, 0, none⟩ = some (.slice (some ⟨g, 0, none⟩) 2 2))
    {W : World} (hown : OwnP base W v L) (hWw : Below W.heap.size W w) (hWg : W.heap.size ≤ g) (hbase : base ≤ w.heap.size) (hn : L.length ≤ 1048576)
    (h : ∀ v' w', OwnP base w' v' (L ++ [(p, q)]) → Below base w w' → w.grownBy w' v.ownBlock → (v'.ownBlock = v.ownBlock ∨ v'.ownBlock = some w.heap.size) → wpList Try.prog ops Q rest (a.put o.dst v') w') : wpList Try.prog ops Q (o :: rest) a w := by
  obtain ⟨v', w', hr, h1, h2, h3, h4⟩ := run_app_pair o.type base v L p q hg0 hg1 hfr hbg hc hown hWw hWg hbase hn
  refine wpList_plain hgd fun _ hK => ?_
  unfold Oper.wp execOp
  simp only [ho, resolve, invoke, builtin, Sem.run_bind, Sem.run_pure, Result.andThen_ok, List.map_toArray, List.map_cons, List.map_nil, hs, hx, hr]
  exact hK _ _ (h v' w' h1 h2 h3 h4)
end Go.Proofs.Ytccipfpbaeoggaa
