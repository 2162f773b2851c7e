/- Words and contracts, part 9. -/
import Derived.Test.YtljdhicmcmppgaaRows
import Derived.Maps.AppendAt
import Derived.BigQuiet
import Derived.Deep.LoopGhost
import Derived.Deep.Onto
import Derived.Deep.CutRange
import Derived.Deep.DeepCutAuto
import Derived.Deep.RegionHeld3
import Derived.Deep.RegionWith
import Derived.Deep.CutBlock
import Derived.Test.YtljdhicmcmppgaaZ8
namespace Go.Proofs.Ytljdhicmcmppgaa
open Go.RowKit

/-- The cells of n moves. -/
def cells5 (M : Nat → Nat → Int) : Nat → List Value
  | 0 => []
  | n + 1 => cells5 M n ++ [.int .i64 (M n 0), .int .i64 (M n 1), .int .i64 (M n 2), .int .i64 (M n 3), .int .i64 (M n 4)]
theorem cells5_len (M : Nat → Nat → Int) : ∀ n, (cells5 M n).length = n * 5
  | 0 => rfl
  | n + 1 => by rw [cells5, List.length_append, cells5_len M n]; simp; omega
theorem cells5_old (M : Nat → Nat → Int) (n o : Nat) (h : o < n * 5) : (cells5 M (n + 1))[o]? = (cells5 M n)[o]? := by
  rw [cells5, List.getElem?_append_left (by rw [cells5_len]; exact h)]
theorem cells5_get (M : Nat → Nat → Int) (i : Nat) : ∀ n, i < n → ∀ k, k < 5 → (cells5 M n)[i * 5 + k]? = some (.int .i64 (M i k))
  | 0, h, _, _ => absurd h (by omega)
  | n + 1, h, k, hk => by
    by_cases e : i = n
    · subst e
      rw [cells5, List.getElem?_append_right (by rw [cells5_len]; omega), cells5_len, show i * 5 + k - i * 5 = k by omega]
      have : k = 0 ∨ k = 1 ∨ k = 2 ∨ k = 3 ∨ k = 4 := by omega
      rcases this with rfl | rfl | rfl | rfl | rfl <;> rfl
    · rw [cells5_old M n _ (by omega)]
      exact cells5_get M i n (by omega) k hk
/-- The slice value v is one of the call's own, with n moves, from block base on. -/
def OwnNM (base : Nat) (w : World) (v : Value) (n : Nat) (M : Nat → Nat → Int) : Prop := w.ownsRow base 26 5 v n (cells5 M n)
theorem OwnNM.ownM {base : Nat} {w : World} {v : Value} {n : Nat} {M : Nat → Nat → Int} (h : OwnNM base w v n M) : OwnM base w v n M := by
  have h0 := h
  rcases h.2 with ⟨rfl, rfl⟩ | ⟨g, cap, cur, rfl, hb, hg, hnc, _⟩
  · exact ⟨_, _, rfl, Nat.le_refl _, fun hn => absurd hn (by omega)⟩
  · refine ⟨_, _, rfl, hnc, fun hn => ⟨g, 0, rfl, hb, fun o => World.ownsRow.frozenAt h0 o, fun i hi => ?_⟩⟩
    have hh : ∀ k, k < 5 → w.cell? ⟨g, i * 5 + k, none⟩ = some (.int .i64 (M i k)) := fun k hk => by
      rw [World.ownsRow.cellAt h0 _ (by omega)]
      exact cells5_get M i n hi k hk
    rw [Nat.zero_add]
    exact ⟨hh 0 (by omega), hh 1 (by omega), hh 2 (by omega), hh 3 (by omega), hh 4 (by omega)⟩
theorem OwnNM.up {base : Nat} {w w' : World} {v : Value} {n : Nat} {M : Nat → Nat → Int} (h : OwnNM base w v n M) (hb : Below w.heap.size w w') : OwnNM base w' v n M :=
  World.ownsRow.kept (row := none) h ⟨hb.os, hb.tape, hb.output, hb.size, fun k hk _ => hb.block k hk⟩ (by cases v.ownBlock <;> simp)
theorem OwnNM.nil (base : Nat) (w : World) (M : Nat → Nat → Int) : OwnNM base w (.slice none 0 0) 0 M := World.ownsRow_nil _ _ _ _
theorem OwnNM.empty {base : Nat} {w : World} (hb : base ≤ w.heap.size) (M : Nat → Nat → Int) : OwnNM base (w.alloc (.cells #[] 26)) (.slice (some ⟨w.heap.size, 0, none⟩) 0 0) 0 M :=
  World.ownsRow_made w #[] 0 hb (by unfold maxLen; omega) rfl
theorem OwnNM.shape {base : Nat} {w : World} {v : Value} {n : Nat} {M : Nat → Nat → Int} (h : OwnNM base w v n M) : ∃ A c, v = .slice A n c ∧ n ≤ c ∧ c ≤ maxLen := by
  rcases h.2 with ⟨rfl, rfl⟩ | ⟨g, cap, cur, rfl, hb, hg, hnc, hm, _⟩
  · exact ⟨none, 0, rfl, Nat.le_refl _, by unfold maxLen; omega⟩
  · exact ⟨_, _, rfl, hnc, hm⟩
theorem OwnNM.own_ne {base : Nat} {w : World} {v : Value} {n : Nat} {M : Nat → Nat → Int} (h : OwnNM base w v n M) {b : Nat} (hb : w.heap.size ≤ b) : v.ownBlock ≠ some b := fun e => by
  have := (World.ownsRow.lt h b e).2
  omega
theorem info_moveN : (Try.prog.info? 26).map (fun i => (i.zero, i.size, i.bytes)) = some (some (.agg #[.int .i64 0, .int .i64 0, .int .i64 0, .int .i64 0, .int .i64 0]), 5, 40) := by kernel_rfl
set_option maxRecDepth 100000 in
/-- 'append(out, m)' wherever the one-element slice lies. -/
theorem run_app_move {w : World} (ty : TypeId) (base : Nat) (v : Value) (n : Nat) (M : Nat → Nat → Int) {g : Nat} (hc : Cells5 w g 0 (M n)) (hown : OwnNM base w v n M) (hbase : base ≤ w.heap.size) (hn : n ≤ 1048576) :
    ∃ v' w', (Builtin.append_ #[43, 43] ty #[v, .slice (some ⟨g, 0, none⟩) 1 1]).run Try.prog w = .ok v' w' ∧ OwnNM base w' v' (n + 1) M ∧ Below base w w' ∧ w.grownBy w' v.ownBlock ∧ (v'.ownBlock = v.ownBlock ∨ v'.ownBlock = some w.heap.size) := by
  obtain ⟨i0, hi0, hz0, hz1, hz2⟩ := info_parts info_moveN
  obtain ⟨v', w', hr, h1, h2, _, h5⟩ := run_append_own_at (P := Try.prog) w base 43 ty 26 i0 _ 5 40 Try.underlying43 hi0 hz0 hz1 hz2 rfl (by omega) v n _ hown ⟨g, 0, none⟩ 1 1
    [.int .i64 (M n 0), .int .i64 (M n 1), .int .i64 (M n 2), .int .i64 (M n 3), .int .i64 (M n 4)] rfl (by
      intro j u hu
      rw [add_none, Nat.zero_add]
      match j, hu with
      | 0, hu => simp only [List.getElem?_cons_zero, Option.some.injEq] at hu; subst hu; exact hc.c0
      | 1, hu => simp only [List.getElem?_cons_succ, List.getElem?_cons_zero, Option.some.injEq] at hu; subst hu; exact hc.c1
      | 2, hu => simp only [List.getElem?_cons_succ, List.getElem?_cons_zero, Option.some.injEq] at hu; subst hu; exact hc.c2
      | 3, hu => simp only [List.getElem?_cons_succ, List.getElem?_cons_zero, Option.some.injEq] at hu; subst hu; exact hc.c3
      | 4, hu => simp only [List.getElem?_cons_succ, List.getElem?_cons_zero, Option.some.injEq] at hu; subst hu; exact hc.c4
      | (k + 5), hu => simp at hu) (by
      intro u hu
      simp only [List.mem_cons, List.not_mem_nil, or_false] at hu
      rcases hu with rfl | rfl | rfl | rfl | rfl <;> rfl) (by unfold maxLen; omega) (by omega) hbase
  exact ⟨v', w', hr, by unfold OwnNM; rw [cells5]; exact h1, below_grown h2 hbase (fun k hk => (World.ownsRow.lt hown k hk).1), h2, h5⟩
section
variable {ops : Array Oper} {rest : List Oper} {o : Oper} {a : Act} {w : World} {K : Act → World → Prop} {Q : Exit → Act → World → Prop} {E : Prop} (hgd : o.guard = none) (s x : Operand)
    (ho : o.op = .call { callee := .builtin .append, args := #[s, x], argTypes := #[43, 43] })
    (base : Nat) (v : Value) (n : Nat) (M : Nat → Nat → Int) {g : Nat} (hs : a.eval s = v) (hx : a.eval x = .slice (some ⟨g, 0, none⟩) 1 1)
    (hc : Cells5 w g 0 (M n)) (hown : OwnNM base w v n M) (hbase : base ≤ w.heap.size) (hn : n ≤ 1048576)
include hgd ho hs hx hc hown hbase hn
theorem step_app_move
    (h : ∀ v' w', OwnNM base w' v' (n + 1) M → Below base w w' → w.grownBy w' v.ownBlock → (v'.ownBlock = v.ownBlock ∨ v'.ownBlock = some w.heap.size) → K (a.put o.dst v') w') :
    if Region.wanted o (yielded ops a.tmps) = true then Oper.wp Try.prog o a w K Q else E := by
  have hw : Region.wanted o (yielded ops a.tmps) = true := by unfold Region.wanted; rw [hgd]
  rw [if_pos hw]
  obtain ⟨v', w', hr, h1, h2, h3, h4⟩ := run_app_move o.type base v n M hc hown hbase hn
  unfold Oper.wp execOp
  simp only [ho, resolve, invoke, builtin, Sem.run_bind, Sem.run_pure, Result.andThen_ok, List.map_toArray, List.map_cons, List.map_nil, hs, hx, hr]
  exact h _ _ h1 h2 h3 h4
theorem wpList_app_move
    (h : ∀ v' w', OwnNM base w' v' (n + 1) M → Below base w w' → w.grownBy w' v.ownBlock → (v'.ownBlock = v.ownBlock ∨ v'.ownBlock = some w.heap.size) → wpList Try.prog ops Q rest (a.put o.dst v') w') :
    wpList Try.prog ops Q (o :: rest) a w := by
  obtain ⟨v', w', hr, h1, h2, h3, h4⟩ := run_app_move o.type base v n M hc hown hbase hn
  refine wpList_plain hgd fun _ hK => ?_
  unfold Oper.wp execOp
  simp only [ho, resolve, invoke, builtin, Sem.run_bind, Sem.run_pure, Result.andThen_ok, List.map_toArray, List.map_cons, List.map_nil, hs, hx, hr]
  exact hK _ _ (h _ _ h1 h2 h3 h4)
end
end Go.Proofs.Ytljdhicmcmppgaa
namespace Go.Proofs.Ytljdhicmcmppgaa
open Go.RowKit Go.ChangeShapes Go.WideShapes Go.Sort

/-- What stands while two moves are drawn: the results' boxes, the moves' boxes, the cursor. -/
structure Tg (p : Nat) (w : World) (K r b : Nat) (wx : World) : Prop where
  r0 : MB wx r
  r1 : MB wx (r + 1)
  b0 : MB wx b
  b1 : MB wx (b + 1)
  cur : CurAt wx p K
  t : Turned p (p + 1) w wx
theorem Tg.more {p : Nat} {w : World} {K K' r b : Nat} {wx : World} (h : Tg p w K r b wx) (hk : K ≤ K') : Tg p w K' r b wx := ⟨h.r0, h.r1, h.b0, h.b1, h.cur.more hk, h.t⟩
theorem Tg.next {p : Nat} {w : World} {K K' r b : Nat} {wx w1 w' : World} (h : Tg p w K r b wx) (hb : Below wx.heap.size wx w1) (hc : CurAt w' p K') (ht : Turned p (p + 1) w1 w') (hr : p ≠ r ∧ p ≠ r + 1) (hb' : p < b) : Tg p w K' r b w' :=
  ⟨(h.r0.up hb).turn ht (by omega), (h.r1.up hb).turn ht (by omega), (h.b0.up hb).turn ht (by omega), (h.b1.up hb).turn ht (by omega), hc, (h.t.trans (Turned.of_below hb)).trans ht⟩
theorem Tg.tt {p : Nat} {w : World} {K r b : Nat} {wx w1 w' : World} (_ : Tg p w K r b wx) (hb : Below wx.heap.size wx w1) (ht : Turned p (p + 1) w1 w') : Turned p (p + 1) wx w' := (Turned.of_below hb).trans ht
theorem Tg.up {p : Nat} {w : World} {K r b : Nat} {wx w1 : World} (h : Tg p w K r b wx) (hb : Below wx.heap.size wx w1) : Tg p w K r b w1 :=
  ⟨h.r0.up hb, h.r1.up hb, h.b0.up hb, h.b1.up hb, h.cur.up hb, h.t.trans (Turned.of_below hb)⟩
theorem Tg.set0 {p : Nat} {w : World} {K r b : Nat} {wx : World} (h : Tg p w K r b wx) (hpb : p < b) (hrb : r + 1 < b) (hw : w.heap.size ≤ r) (z : Int) : Tg p w K r b (wx.setCell ⟨b + 1, 0, none⟩ (.int .i64 z)) :=
  ⟨h.r0.far (by omega) _, h.r1.far (by omega) _, h.b0.far (by omega) _, h.b1.set0 z, h.cur.below (set_below _ _ _ (Nat.le_refl (b + 1))) (by omega), h.t.far (set_below _ _ _ (by omega))⟩
theorem Tg.set1 {p : Nat} {w : World} {K r b : Nat} {wx : World} (h : Tg p w K r b wx) (hpb : p < b) (hrb : r + 1 < b) (hw : w.heap.size ≤ r) (z : Int) : Tg p w K r b (wx.setCell ⟨b + 1, 1, none⟩ (.int .i64 z)) :=
  ⟨h.r0.far (by omega) _, h.r1.far (by omega) _, h.b0.far (by omega) _, h.b1.set1 z, h.cur.below (set_below _ _ _ (Nat.le_refl (b + 1))) (by omega), h.t.far (set_below _ _ _ (by omega))⟩
theorem Tg.set2 {p : Nat} {w : World} {K r b : Nat} {wx : World} (h : Tg p w K r b wx) (hpb : p < b) (hrb : r + 1 < b) (hw : w.heap.size ≤ r) (z : Int) : Tg p w K r b (wx.setCell ⟨b + 1, 2, none⟩ (.int .i64 z)) :=
  ⟨h.r0.far (by omega) _, h.r1.far (by omega) _, h.b0.far (by omega) _, h.b1.set2 z, h.cur.below (set_below _ _ _ (Nat.le_refl (b + 1))) (by omega), h.t.far (set_below _ _ _ (by omega))⟩
theorem Tg.set3 {p : Nat} {w : World} {K r b : Nat} {wx : World} (h : Tg p w K r b wx) (hpb : p < b) (hrb : r + 1 < b) (hw : w.heap.size ≤ r) (z : Int) : Tg p w K r b (wx.setCell ⟨b + 1, 3, none⟩ (.int .i64 z)) :=
  ⟨h.r0.far (by omega) _, h.r1.far (by omega) _, h.b0.far (by omega) _, h.b1.set3 z, h.cur.below (set_below _ _ _ (Nat.le_refl (b + 1))) (by omega), h.t.far (set_below _ _ _ (by omega))⟩
theorem Tg.set4 {p : Nat} {w : World} {K r b : Nat} {wx : World} (h : Tg p w K r b wx) (hpb : p < b) (hrb : r + 1 < b) (hw : w.heap.size ≤ r) (z : Int) (hz : 0 ≤ z ∧ z ≤ 65) : Tg p w K r b (wx.setCell ⟨b + 1, 4, none⟩ (.int .i64 z)) :=
  ⟨h.r0.far (by omega) _, h.r1.far (by omega) _, h.b0.far (by omega) _, h.b1.set4 z hz, h.cur.below (set_below _ _ _ (Nat.le_refl (b + 1))) (by omega), h.t.far (set_below _ _ _ (by omega))⟩
theorem Tg.put {p : Nat} {w : World} {K r b : Nat} {wx : World} (h : Tg p w K r b wx) (hpb : p < b) (hrb : r + 1 < b) (hw : w.heap.size ≤ r) (x y u v c : Int) (hc : 0 ≤ c ∧ c ≤ 65) :
    Tg p w K r b (((((wx.setCell ⟨b + 1, 0, none⟩ (.int .i64 x)).setCell ⟨b + 1, 1, none⟩ (.int .i64 y)).setCell ⟨b + 1, 2, none⟩ (.int .i64 u)).setCell ⟨b + 1, 3, none⟩ (.int .i64 v)).setCell ⟨b + 1, 4, none⟩ (.int .i64 c)) :=
  ((((h.set0 hpb hrb hw x).set1 hpb hrb hw y).set2 hpb hrb hw u).set3 hpb hrb hw v).set4 hpb hrb hw c hc
set_option maxRecDepth 100000 in
set_option maxHeartbeats 16000000 in
theorem cur_together (p K : Nat) (w : World) (h : CurAt w p K) (hK : K ≤ 800000) :
    Calls Try.prog 33 #[.pointer (some ⟨p, 0, none⟩)] w (AnsTog w p (K + 160)) := by
  have hpw := h.lt
  go_enter Try.func33, Try.ntmps33
  go_wp2_with fail
  have hr0 := (MB.new w 0 0 0 0 0 26 (by omega)).up (below_alloc _ (.cells #[.int .i64 0, .int .i64 0, .int .i64 0, .int .i64 0, .int .i64 0] 26))
  have hr1 := MB.new (w.alloc (.cells #[.int .i64 0, .int .i64 0, .int .i64 0, .int .i64 0, .int .i64 0] 26)) 0 0 0 0 0 26 (by omega)
  rw [World.size_alloc] at hr1
  generalize hWx : World.alloc (World.alloc w _) _ = W0 at *
  have hb0 : Below w.heap.size w W0 := by subst hWx; exact (below_alloc _ _).trans ((below_alloc _ _).mono (by simp))
  clear hWx
  refine (cur_move p K _ (h.up hb0) (by omega)).mono ?_
  rintro e w1 ⟨x, y, u, v, c, rfl, hc, hc1, ht1⟩
  go_wp2_with fail
  refine (cur_move p _ _ hc1 (by omega)).mono ?_
  rintro e w2 ⟨x', y', u', v', c', rfl, hc', hc2, ht2⟩
  go_upto_region 2 with fail
  have hb0' := (MB.new w2 x y u v c 26 hc).up (below_alloc _ (.cells #[.int .i64 x', .int .i64 y', .int .i64 u', .int .i64 v', .int .i64 c'] 26))
  have hb1' := MB.new (w2.alloc (.cells #[.int .i64 x, .int .i64 y, .int .i64 u, .int .i64 v, .int .i64 c] 26)) x' y' u' v' c' 26 hc'
  rw [World.size_alloc] at hb1'
  generalize hWx : World.alloc (World.alloc w2 _) _ = W2 at *
  have hb2 : Below w2.heap.size w2 W2 := by subst hWx; exact (below_alloc _ _).trans ((below_alloc _ _).mono (by simp))
  clear hWx
  have hz0 := hb0.size
  have ht12 := ht1.trans ht2
  have hz1 := ht12.size
  have hl0 := hr1.lt
  have hs : Tg p w (K + 120) w.heap.size w2.heap.size W2 := ⟨(hr0.turn ht12 (by omega)).up hb2, (hr1.turn ht12 (by omega)).up hb2, hb0', hb1', (hc2.up hb2).more (by omega), ((Turned.of_below hb0).trans ht12).trans (Turned.of_below hb2)⟩
  have hpr : p ≠ w.heap.size ∧ p ≠ w.heap.size + 1 := by omega
  have hpb : p < w2.heap.size := by omega
  have hrb : w.heap.size + 1 < w2.heap.size := by omega
  clear hr0 hr1 hb0' hb1' hc1 hc2 ht1 ht2 ht12 h hb0 hb2
  go_wp2_with fail
  refine (cur_pick p _ 4 _ hs.cur (by omega) (by omega)).mono ?_
  rintro e w3 ⟨k, rfl, hk, hc6, ht6⟩
  replace hs := hs.next (Below.refl _ _) hc6 ht6 hpr hpb
  clear hc6 ht6
  go_upto_block 0 with fail
  go_cut [] (fun wx => Tg p w (K + 140) w.heap.size w2.heap.size wx)
  case first =>
    by_cases k0 : k = 0
    · subst k0
      obtain ⟨xa, ya, ua, va, ka, ga, hka⟩ := hs.b0.ex
      have ca0 := ga.c0
      have ca1 := ga.c1
      have ca2 := ga.c2
      have ca3 := ga.c3
      have ca4 := ga.c4
      obtain ⟨xb, yb, ub, vb, kb, gb, hkb⟩ := hs.b1.ex
      have cb0 := gb.c0
      have cb1 := gb.c1
      have cb2 := gb.c2
      have cb3 := gb.c3
      have cb4 := gb.c4
      have fb0 := hs.b1.free 0
      have fb1 := hs.b1.free 1
      have fb2 := hs.b1.free 2
      have fb3 := hs.b1.free 3
      have fb4 := hs.b1.free 4
      have hs9 := hs.put hpb hrb (Nat.le_refl _) ua va xa ya 0 (by omega)
      clear ga gb hs
      go_wp2_with fail
      generalize World.setCell (World.setCell (World.setCell (World.setCell (World.setCell w3 _ _) _ _) _ _) _ _) _ _ = w4 at *
      have hs := hs9
      clear hs9 fb0 fb1 fb2 fb3 fb4
      obtain ⟨x9, y9, u9, v9, k9, g9, _⟩ := hs.b1.ex
      have d0 := g9.c0
      have f0 := hs.b1.free 0
      have hl6 := hs.cur.lt
      clear g9
      go_region_with (go_at_call 50; (with_reducible refine (cur_pickI p _ 17 17 _ (hs.cur.up (by (repeat (first | with_reducible exact Below.refl _ _ | with_reducible assumption | with_reducible refine up_alloc ?_ _ | with_reducible refine up_drew ?_ | with_reducible refine up_drewN ?_ _ | (with_reducible refine up_set ?_ ?hset _; case hset => first | (simp; done) | (simp; omega) | omega) | with_reducible refine up_trans ?_ (by with_reducible assumption))))) rfl (by omega) (by omega)).mono ?_); rintro e w6 ⟨xa, rfl, hxa, hc6, ht6⟩; have htt := hs.tt (by (repeat (first | with_reducible exact Below.refl _ _ | with_reducible assumption | with_reducible refine up_alloc ?_ _ | with_reducible refine up_drew ?_ | with_reducible refine up_drewN ?_ _ | (with_reducible refine up_set ?_ ?hset _; case hset => first | (simp; done) | (simp; omega) | omega) | with_reducible refine up_trans ?_ (by with_reducible assumption)))) ht6; replace hs := hs.next (by (repeat (first | with_reducible exact Below.refl _ _ | with_reducible assumption | with_reducible refine up_alloc ?_ _ | with_reducible refine up_drew ?_ | with_reducible refine up_drewN ?_ _ | (with_reducible refine up_set ?_ ?hset _; case hset => first | (simp; done) | (simp; omega) | omega) | with_reducible refine up_trans ?_ (by with_reducible assumption)))) hc6 ht6 hpr hpb; have d0 := htt.cell d0 (by omega); have f0 := hs.b1.free 0)
      all_goals
        go_wp2_with fail
        go_meet
        exact (hs.set0 hpb hrb (Nat.le_refl _) _).more (by omega)

    · have jk0 : ¬ (k : Int) = 0 := by omega
      by_cases k1 : k = 1
      · subst k1
        obtain ⟨xa, ya, ua, va, ka, ga, hka⟩ := hs.b0.ex
        have ca0 := ga.c0
        have ca1 := ga.c1
        have ca2 := ga.c2
        have ca3 := ga.c3
        have ca4 := ga.c4
        obtain ⟨xb, yb, ub, vb, kb, gb, hkb⟩ := hs.b1.ex
        have cb0 := gb.c0
        have cb1 := gb.c1
        have cb2 := gb.c2
        have cb3 := gb.c3
        have cb4 := gb.c4
        have fb0 := hs.b1.free 0
        have fb1 := hs.b1.free 1
        have fb2 := hs.b1.free 2
        have fb3 := hs.b1.free 3
        have fb4 := hs.b1.free 4
        have hs9 := hs.put hpb hrb (Nat.le_refl _) xa ya ua va ka hka
        clear ga gb hs
        go_wp2_with fail
        generalize World.setCell (World.setCell (World.setCell (World.setCell (World.setCell w3 _ _) _ _) _ _) _ _) _ _ = w4 at *
        have hs := hs9
        clear hs9 fb0 fb1 fb2 fb3 fb4
        obtain ⟨x9, y9, u9, v9, k9, g9, _⟩ := hs.b1.ex
        have d1 := g9.c1
        have f1 := hs.b1.free 1
        have hl6 := hs.cur.lt
        clear g9
        go_region_with (go_at_call 50; (with_reducible refine (cur_pickI p _ 17 17 _ (hs.cur.up (by (repeat (first | with_reducible exact Below.refl _ _ | with_reducible assumption | with_reducible refine up_alloc ?_ _ | with_reducible refine up_drew ?_ | with_reducible refine up_drewN ?_ _ | (with_reducible refine up_set ?_ ?hset _; case hset => first | (simp; done) | (simp; omega) | omega) | with_reducible refine up_trans ?_ (by with_reducible assumption))))) rfl (by omega) (by omega)).mono ?_); rintro e w6 ⟨xa, rfl, hxa, hc6, ht6⟩; have htt := hs.tt (by (repeat (first | with_reducible exact Below.refl _ _ | with_reducible assumption | with_reducible refine up_alloc ?_ _ | with_reducible refine up_drew ?_ | with_reducible refine up_drewN ?_ _ | (with_reducible refine up_set ?_ ?hset _; case hset => first | (simp; done) | (simp; omega) | omega) | with_reducible refine up_trans ?_ (by with_reducible assumption)))) ht6; replace hs := hs.next (by (repeat (first | with_reducible exact Below.refl _ _ | with_reducible assumption | with_reducible refine up_alloc ?_ _ | with_reducible refine up_drew ?_ | with_reducible refine up_drewN ?_ _ | (with_reducible refine up_set ?_ ?hset _; case hset => first | (simp; done) | (simp; omega) | omega) | with_reducible refine up_trans ?_ (by with_reducible assumption)))) hc6 ht6 hpr hpb; have d1 := htt.cell d1 (by omega); have f1 := hs.b1.free 1)
        all_goals
          go_wp2_with fail
          generalize hWx : World.setCell w6 _ _ = w7
          replace hs : Tg p w (K + 130) w.heap.size w2.heap.size w7 := by subst hWx; exact (hs.set1 hpb hrb (Nat.le_refl _) _).more (by omega)
          clear hWx d1 f1 htt hc6 ht6
          obtain ⟨x9, y9, u9, v9, k9, g9, _⟩ := hs.b1.ex
          have d3 := g9.c3
          have f3 := hs.b1.free 3
          have hl6 := hs.cur.lt
          clear g9
          go_region_with (go_at_call 50; (with_reducible refine (cur_pickI p _ 17 17 _ (hs.cur.up (by (repeat (first | with_reducible exact Below.refl _ _ | with_reducible assumption | with_reducible refine up_alloc ?_ _ | with_reducible refine up_drew ?_ | with_reducible refine up_drewN ?_ _ | (with_reducible refine up_set ?_ ?hset _; case hset => first | (simp; done) | (simp; omega) | omega) | with_reducible refine up_trans ?_ (by with_reducible assumption))))) rfl (by omega) (by omega)).mono ?_); rintro e w6 ⟨xa, rfl, hxa, hc6, ht6⟩; have htt := hs.tt (by (repeat (first | with_reducible exact Below.refl _ _ | with_reducible assumption | with_reducible refine up_alloc ?_ _ | with_reducible refine up_drew ?_ | with_reducible refine up_drewN ?_ _ | (with_reducible refine up_set ?_ ?hset _; case hset => first | (simp; done) | (simp; omega) | omega) | with_reducible refine up_trans ?_ (by with_reducible assumption)))) ht6; replace hs := hs.next (by (repeat (first | with_reducible exact Below.refl _ _ | with_reducible assumption | with_reducible refine up_alloc ?_ _ | with_reducible refine up_drew ?_ | with_reducible refine up_drewN ?_ _ | (with_reducible refine up_set ?_ ?hset _; case hset => first | (simp; done) | (simp; omega) | omega) | with_reducible refine up_trans ?_ (by with_reducible assumption)))) hc6 ht6 hpr hpb; have d3 := htt.cell d3 (by omega); have f3 := hs.b1.free 3)
          all_goals
            go_wp2_with fail
            go_meet
            exact (hs.set3 hpb hrb (Nat.le_refl _) _).more (by omega)

      · have jk1 : ¬ (k : Int) = 1 := by omega
        go_wp2_with fail
        go_meet
        exact hs.more (by omega)
  case rest =>
  have hs := hcut
  obtain ⟨w4, rfl⟩ : ∃ W : World, W = wc := ⟨_, rfl⟩
  clear hcut
  go_wp2_with fail
  refine (cur_one p _ 12 _ hs.cur (by omega) (by omega)).mono ?_
  rintro e w5 ⟨bq, rfl, hc6, ht6⟩
  replace hs := hs.next (Below.refl _ _) hc6 ht6 hpr hpb
  clear hc6 ht6
  go_upto_if 49 with fail
  go_cut [] (fun wx => Tg p w (K + 142) w.heap.size w2.heap.size wx)
  case first =>
    cases bq with
    | true =>
      go_wp2_with fail
      go_meet
      exact hs.more (by omega)
    | false =>
      obtain ⟨xa, ya, ua, va, ka, ga, hka⟩ := hs.b0.ex
      have ca0 := ga.c0
      have ca1 := ga.c1
      have ca2 := ga.c2
      have ca3 := ga.c3
      have ca4 := ga.c4
      obtain ⟨xb, yb, ub, vb, kb, gb, hkb⟩ := hs.b1.ex
      have cb0 := gb.c0
      have cb1 := gb.c1
      have cb2 := gb.c2
      have cb3 := gb.c3
      have cb4 := gb.c4
      have fb4 := hs.b1.free 4
      clear ga gb
      go_wp2_with fail
      go_meet
      exact (hs.set4 hpb hrb (Nat.le_refl _) _ hka).more (by omega)

  case rest =>
  have hs := hcut
  obtain ⟨w6, rfl⟩ : ∃ W : World, W = wc := ⟨_, rfl⟩
  clear hcut
  obtain ⟨xa, ya, ua, va, ka, ga, hka⟩ := hs.b0.ex
  have ca0 := ga.c0
  have ca1 := ga.c1
  have ca2 := ga.c2
  have ca3 := ga.c3
  have ca4 := ga.c4
  obtain ⟨xb, yb, ub, vb, kb, gb, hkb⟩ := hs.b1.ex
  have cb0 := gb.c0
  have cb1 := gb.c1
  have cb2 := gb.c2
  have cb3 := gb.c3
  have cb4 := gb.c4
  obtain ⟨xc, yc, uc, vc, kc, gc, hkc⟩ := hs.r0.ex
  have cc0 := gc.c0
  have cc1 := gc.c1
  have cc2 := gc.c2
  have cc3 := gc.c3
  have cc4 := gc.c4
  obtain ⟨xd, yd, ud, vd, kd, gd, hkd⟩ := hs.r1.ex
  have cd0 := gd.c0
  have cd1 := gd.c1
  have cd2 := gd.c2
  have cd3 := gd.c3
  have cd4 := gd.c4
  have f00 := hs.r0.free 0
  have f01 := hs.r0.free 1
  have f02 := hs.r0.free 2
  have f03 := hs.r0.free 3
  have f04 := hs.r0.free 4
  have f10 := hs.r1.free 0
  have f11 := hs.r1.free 1
  have f12 := hs.r1.free 2
  have f13 := hs.r1.free 3
  have f14 := hs.r1.free 4
  have HS := Lib.hid hs
  have jb0 : w2.heap.size ≠ w.heap.size := by omega
  clear hs ga gb gc gd
  go_wp2_with fail
  go_region
  have hA := (HS.out.r0.put xa ya ua va ka).far5 (g := w.heap.size + 1) (by omega) (.int .i64 xb) (.int .i64 yb) (.int .i64 ub) (.int .i64 vb) (.int .i64 kb)
  have hB := (HS.out.r1.far5 (g := w.heap.size) (by omega) (.int .i64 xa) (.int .i64 ya) (.int .i64 ua) (.int .i64 va) (.int .i64 ka)).put xb yb ub vb kb
  have hb9 := (put5_below (B := w.heap.size) w6 (.int .i64 xa) (.int .i64 ya) (.int .i64 ua) (.int .i64 va) (.int .i64 ka) (Nat.le_refl w.heap.size)).trans (put5_below (r := w.heap.size + 1) _ (.int .i64 xb) (.int .i64 yb) (.int .i64 ub) (.int .i64 vb) (.int .i64 kb) (show w.heap.size ≤ w.heap.size + 1 by omega))
  generalize World.setCell (World.setCell (World.setCell (World.setCell (World.setCell (World.setCell (World.setCell (World.setCell (World.setCell (World.setCell w6 _ _) _ _) _ _) _ _) _ _) _ _) _ _) _ _) _ _) _ _ = w9 at *
  have hc9 := (HS.out.cur.below hb9 hpw).up (show Below w9.heap.size w9 w9.drew from (by (repeat (first | with_reducible exact Below.refl _ _ | with_reducible assumption | with_reducible refine up_alloc ?_ _ | with_reducible refine up_drew ?_ | with_reducible refine up_drewN ?_ _ | (with_reducible refine up_set ?_ ?hset _; case hset => first | (simp; done) | (simp; omega) | omega) | with_reducible refine up_trans ?_ (by with_reducible assumption)))))
  have ht9 := (HS.out.t.far hb9).trans (Turned.of_below (show Below w9.heap.size w9 w9.drew from (by (repeat (first | with_reducible exact Below.refl _ _ | with_reducible assumption | with_reducible refine up_alloc ?_ _ | with_reducible refine up_drew ?_ | with_reducible refine up_drewN ?_ _ | (with_reducible refine up_set ?_ ?hset _; case hset => first | (simp; done) | (simp; omega) | omega) | with_reducible refine up_trans ?_ (by with_reducible assumption))))))
  obtain ⟨q0, q1, q2, q3, q4⟩ := hA
  obtain ⟨q5, q6, q7, q8, q9⟩ := hB
  go_wp2_with fail
  refine bodyPost_ret (v := .tuple #[.agg #[.int .i64 xa, .int .i64 ya, .int .i64 ua, .int .i64 va, .int .i64 ka], .agg #[.int .i64 xb, .int .i64 yb, .int .i64 ub, .int .i64 vb, .int .i64 kb]]) (by simp [results, Try.results33, go_sem, q0, q1, q2, q3, q4, q5, q6, q7, q8, q9]) rfl ?_
  exact ⟨xa, ya, ua, va, ka, xb, yb, ub, vb, kb, rfl, hka, hkb, hc9.more (by omega), ht9⟩

/-- Two moves' cells, as one conjunction. -/
theorem S10 {w : World} {b : Nat} {x y u v c x' y' u' v' c' : Int} (h : MC w b x y u v c) (h' : MC w (b + 1) x' y' u' v' c') :
    w.cell? ⟨b, 0, none⟩ = some (.int .i64 x) ∧ w.cell? ⟨b, 1, none⟩ = some (.int .i64 y) ∧ w.cell? ⟨b, 2, none⟩ = some (.int .i64 u) ∧ w.cell? ⟨b, 3, none⟩ = some (.int .i64 v) ∧ w.cell? ⟨b, 4, none⟩ = some (.int .i64 c) ∧
    w.cell? ⟨b + 1, 0, none⟩ = some (.int .i64 x') ∧ w.cell? ⟨b + 1, 1, none⟩ = some (.int .i64 y') ∧ w.cell? ⟨b + 1, 2, none⟩ = some (.int .i64 u') ∧ w.cell? ⟨b + 1, 3, none⟩ = some (.int .i64 v') ∧ w.cell? ⟨b + 1, 4, none⟩ = some (.int .i64 c') :=
  ⟨h.c0, h.c1, h.c2, h.c3, h.c4, h'.c0, h'.c1, h'.c2, h'.c3, h'.c4⟩
/-- Returned: two moves (and a number); nothing that was there has turned. -/
def AnsMM (w : World) (e : Ending) (w' : World) : Prop := ∃ x y u v c x' y' u' v' c' : Int, e = .returned (.tuple #[.agg #[.int .i64 x, .int .i64 y, .int .i64 u, .int .i64 v, .int .i64 c], .agg #[.int .i64 x', .int .i64 y', .int .i64 u', .int .i64 v', .int .i64 c']]) ∧ Below w.heap.size w w'
def AnsMMI (w : World) (e : Ending) (w' : World) : Prop := ∃ x y u v c x' y' u' v' c' z : Int, e = .returned (.tuple #[.agg #[.int .i64 x, .int .i64 y, .int .i64 u, .int .i64 v, .int .i64 c], .agg #[.int .i64 x', .int .i64 y', .int .i64 u', .int .i64 v', .int .i64 c'], .int .i64 z]) ∧ Below w.heap.size w w'
set_option maxRecDepth 100000 in
set_option maxHeartbeats 4000000 in
theorem cur_leastDistance (p K : Nat) (w : World) (h : CurAt w p K) (hK : K ≤ 1000000) :
    Calls Try.prog 43 #[.pointer (some ⟨p, 0, none⟩)] w (AnsRng w p (K + 6) (-1) 81) := by
  go_enter Try.func43, Try.ntmps43
  go_wp2_with fail
  refine (cur_pick p _ 81 _ h (by omega) (by omega)).mono ?_
  rintro e w1 ⟨xa, rfl, hxa, hc1, ht1⟩
  have hl1 := hc1.lt
  go_wp2_with fail
  refine (cur_among p _ _ 3 (-1) 81 _ (hc1.up (below_alloc _ _)) (by omega) (by omega) (by omega) (by first | omega | (simp; omega)) (by intro i hi; match i, hi with | 0, _ => exact ⟨80, (by first | (simp [go_sem]; done) | exact litc0 _ _ _ 0 _ rfl | exact litc1 _ _ _ _ 0 _ rfl | exact litc2 _ _ _ _ 0 _ rfl), by omega, by omega⟩ | 1, _ => exact ⟨81, (by first | (simp [go_sem]; done) | exact litc0 _ _ _ 1 _ rfl | exact litc1 _ _ _ _ 1 _ rfl | exact litc2 _ _ _ _ 1 _ rfl), by omega, by omega⟩ | 2, _ => exact ⟨(-1), (by first | (simp [go_sem]; done) | exact litc0 _ _ _ 2 _ rfl | exact litc1 _ _ _ _ 2 _ rfl | exact litc2 _ _ _ _ 2 _ rfl), by omega, by omega⟩ | (q + 3), hi => omega)).mono ?_
  rintro e w2 ⟨xb, rfl, hxb, hc2, ht2⟩
  have hl2 := hc2.lt
  go_wp2_with fail
  refine (cur_among p _ _ 7 (-1) 81 _ (hc2.up (below_alloc _ _)) (by omega) (by omega) (by omega) (by first | omega | (simp; omega)) (by intro i hi; match i, hi with | 0, _ => exact ⟨0, (by first | (simp [go_sem]; done) | exact litc0 _ _ _ 0 _ rfl | exact litc1 _ _ _ _ 0 _ rfl | exact litc2 _ _ _ _ 0 _ rfl), by omega, by omega⟩ | 1, _ => exact ⟨1, (by first | (simp [go_sem]; done) | exact litc0 _ _ _ 1 _ rfl | exact litc1 _ _ _ _ 1 _ rfl | exact litc2 _ _ _ _ 1 _ rfl), by omega, by omega⟩ | 2, _ => exact ⟨8, (by first | (simp [go_sem]; done) | exact litc0 _ _ _ 2 _ rfl | exact litc1 _ _ _ _ 2 _ rfl | exact litc2 _ _ _ _ 2 _ rfl), by omega, by omega⟩ | 3, _ => exact ⟨16, (by first | (simp [go_sem]; done) | exact litc0 _ _ _ 3 _ rfl | exact litc1 _ _ _ _ 3 _ rfl | exact litc2 _ _ _ _ 3 _ rfl), by omega, by omega⟩ | 4, _ => exact ⟨24, (by first | (simp [go_sem]; done) | exact litc0 _ _ _ 4 _ rfl | exact litc1 _ _ _ _ 4 _ rfl | exact litc2 _ _ _ _ 4 _ rfl), by omega, by omega⟩ | 5, _ => exact ⟨_, (by first | (simp [go_sem]; done) | exact litc0 _ _ _ 5 _ rfl | exact litc1 _ _ _ _ 5 _ rfl | exact litc2 _ _ _ _ 5 _ rfl), by omega, by omega⟩ | 6, _ => exact ⟨_, (by first | (simp [go_sem]; done) | exact litc0 _ _ _ 6 _ rfl | exact litc1 _ _ _ _ 6 _ rfl | exact litc2 _ _ _ _ 6 _ rfl), by omega, by omega⟩ | (q + 7), hi => omega)).mono ?_
  rintro e w3 ⟨xc, rfl, hxc, hc3, ht3⟩
  go_wp2_with fail
  go_ret
  exact ⟨xc, rfl, hxc, hc3.more (by omega), (((ht1.trans (Turned.of_below (below_alloc _ _))).trans ht2).trans (Turned.of_below (below_alloc _ _))).trans ht3⟩
set_option maxRecDepth 100000 in
set_option maxHeartbeats 8000000 in
theorem drawLeastApart_g (v : Value) (n : Nat) (w : World) (h : Bytes w v n) (hn : n ≤ 9223372036854775807) : Calls Try.prog 5 #[v] w (AnsMM w) := by
  have HV := Lib.hid h
  obtain ⟨A, c, rfl, hc, hr⟩ := h
  clear hr
  go_enter Try.func5, Try.ntmps5
  go_wp2_with fail
  have hr0 := ((MB.new w 0 0 0 0 0 26 (by omega)).up (below_alloc _ (.cells #[.int .i64 0, .int .i64 0, .int .i64 0, .int .i64 0, .int .i64 0] 26)))
  have hr1 := (MB.new (w.alloc (.cells #[.int .i64 0, .int .i64 0, .int .i64 0, .int .i64 0, .int .i64 0] 26)) 0 0 0 0 0 26 (by omega))
  rw [World.size_alloc] at hr1
  generalize hWx : World.alloc (World.alloc w _) _ = W0 at *
  have hb0 : Below w.heap.size w W0 := by subst hWx; exact (below_alloc _ _).trans ((below_alloc _ _).mono (by simp))
  have hz0 : W0.heap.size = w.heap.size + 2 := by subst hWx; simp
  clear hWx
  refine (cur_together (w.heap.size + 1 + 1) 0 _ (cur_start hb0 HV.out hn (by omega) _) (by omega)).mono ?_
  rintro e w1 ⟨x, y, u, v, k, x', y', u', v', k', rfl, hk, hk', hc1, ht1⟩
  have hz1 := ht1.size
  simp only [World.size_alloc] at hz1
  replace hr0 := (hr0.up (below_alloc _ _)).turn ht1 (by omega)
  replace hr1 := (hr1.up (below_alloc _ _)).turn ht1 (by omega)
  have hWz : Below w.heap.size w w1 := turned_old (hb0.trans ((below_alloc _ _).mono (by omega))) ht1 (by omega)
  have f00 := hr0.free 0
  have f01 := hr0.free 1
  have f02 := hr0.free 2
  have f03 := hr0.free 3
  have f04 := hr0.free 4
  have f10 := hr1.free 0
  have f11 := hr1.free 1
  have f12 := hr1.free 2
  have f13 := hr1.free 3
  have f14 := hr1.free 4
  obtain ⟨x0, y0, u0, v0, k0, g0, _⟩ := hr0.ex
  obtain ⟨r00, r01, r02, r03, r04⟩ := g0
  obtain ⟨x1, y1, u1, v1, k1, g1, _⟩ := hr1.ex
  obtain ⟨r10, r11, r12, r13, r14⟩ := g1
  clear ht1 hc1
  have HR0 := Lib.hid hr0
  have HR1 := Lib.hid hr1
  clear hr0 hr1
  go_wp2_with fail
  have hr0 := HR0.out
  have hr1 := HR1.out
  have hA := (hr0.put x y u v k).far5 (g := w.heap.size + 1) (by omega) (.int .i64 x') (.int .i64 y') (.int .i64 u') (.int .i64 v') (.int .i64 k')
  have hB := (hr1.far5 (g := w.heap.size) (by omega) (.int .i64 x) (.int .i64 y) (.int .i64 u) (.int .i64 v) (.int .i64 k)).put x' y' u' v' k'
  have hb9 := (put5_below (B := w.heap.size) w1 (.int .i64 x) (.int .i64 y) (.int .i64 u) (.int .i64 v) (.int .i64 k) (Nat.le_refl w.heap.size)).trans (put5_below (r := w.heap.size + 1) _ (.int .i64 x') (.int .i64 y') (.int .i64 u') (.int .i64 v') (.int .i64 k') (show w.heap.size ≤ w.heap.size + 1 by omega))
  replace hb9 := hWz.trans hb9
  generalize World.setCell (World.setCell (World.setCell (World.setCell (World.setCell (World.setCell (World.setCell (World.setCell (World.setCell (World.setCell w1 _ _) _ _) _ _) _ _) _ _) _ _) _ _) _ _) _ _) _ _ = w9 at *
  obtain ⟨q0, q1, q2, q3, q4⟩ := hA
  obtain ⟨q5, q6, q7, q8, q9⟩ := hB
  go_wp2_with fail
  refine bodyPost_ret (v := .tuple #[.agg #[.int .i64 x, .int .i64 y, .int .i64 u, .int .i64 v, .int .i64 k], .agg #[.int .i64 x', .int .i64 y', .int .i64 u', .int .i64 v', .int .i64 k']]) (by simp [results, Try.results5, go_sem, q0, q1, q2, q3, q4, q5, q6, q7, q8, q9]) rfl ?_
  exact ⟨x, y, u, v, k, x', y', u', v', k', rfl, hb9⟩
set_option maxRecDepth 100000 in
set_option maxHeartbeats 8000000 in
theorem drawWaysCross_g (v : Value) (n : Nat) (w : World) (h : Bytes w v n) (hn : n ≤ 9223372036854775807) : Calls Try.prog 29 #[v] w (AnsMM w) := by
  have HC := Lib.hid (fun W (hW : Below w.heap.size w W) => drawLeastApart_g v n W (h.up hW) hn)
  go_enter Try.func29, Try.ntmps29
  go_wp2_with fail
  have hr0 := ((MB.new w 0 0 0 0 0 26 (by omega)).up (below_alloc _ (.cells #[.int .i64 0, .int .i64 0, .int .i64 0, .int .i64 0, .int .i64 0] 26)))
  have hr1 := (MB.new (w.alloc (.cells #[.int .i64 0, .int .i64 0, .int .i64 0, .int .i64 0, .int .i64 0] 26)) 0 0 0 0 0 26 (by omega))
  rw [World.size_alloc] at hr1
  generalize hWx : World.alloc (World.alloc w _) _ = W0 at *
  have hb0 : Below w.heap.size w W0 := by subst hWx; exact (below_alloc _ _).trans ((below_alloc _ _).mono (by simp))
  clear hWx
  refine (HC.out W0 hb0).mono ?_
  rintro e w1 ⟨x, y, u, v, k, x', y', u', v', k', rfl, hb1⟩
  replace hr0 := hr0.up hb1
  replace hr1 := hr1.up hb1
  have hWz : Below w.heap.size w w1 := up_trans hb0 hb1
  have f00 := hr0.free 0
  have f01 := hr0.free 1
  have f02 := hr0.free 2
  have f03 := hr0.free 3
  have f04 := hr0.free 4
  have f10 := hr1.free 0
  have f11 := hr1.free 1
  have f12 := hr1.free 2
  have f13 := hr1.free 3
  have f14 := hr1.free 4
  obtain ⟨x0, y0, u0, v0, k0, g0, _⟩ := hr0.ex
  obtain ⟨r00, r01, r02, r03, r04⟩ := g0
  obtain ⟨x1, y1, u1, v1, k1, g1, _⟩ := hr1.ex
  obtain ⟨r10, r11, r12, r13, r14⟩ := g1
  have HR0 := Lib.hid hr0
  have HR1 := Lib.hid hr1
  clear hr0 hr1
  go_wp2_with fail
  have hr0 := HR0.out
  have hr1 := HR1.out
  have hA := (hr0.put x y u v k).far5 (g := w.heap.size + 1) (by omega) (.int .i64 x') (.int .i64 y') (.int .i64 u') (.int .i64 v') (.int .i64 k')
  have hB := (hr1.far5 (g := w.heap.size) (by omega) (.int .i64 x) (.int .i64 y) (.int .i64 u) (.int .i64 v) (.int .i64 k)).put x' y' u' v' k'
  have hb9 := (put5_below (B := w.heap.size) w1 (.int .i64 x) (.int .i64 y) (.int .i64 u) (.int .i64 v) (.int .i64 k) (Nat.le_refl w.heap.size)).trans (put5_below (r := w.heap.size + 1) _ (.int .i64 x') (.int .i64 y') (.int .i64 u') (.int .i64 v') (.int .i64 k') (show w.heap.size ≤ w.heap.size + 1 by omega))
  replace hb9 := hWz.trans hb9
  generalize World.setCell (World.setCell (World.setCell (World.setCell (World.setCell (World.setCell (World.setCell (World.setCell (World.setCell (World.setCell w1 _ _) _ _) _ _) _ _) _ _) _ _) _ _) _ _) _ _) _ _ = w9 at *
  obtain ⟨q0, q1, q2, q3, q4⟩ := hA
  obtain ⟨q5, q6, q7, q8, q9⟩ := hB
  go_wp2_with fail
  refine bodyPost_ret (v := .tuple #[.agg #[.int .i64 x, .int .i64 y, .int .i64 u, .int .i64 v, .int .i64 k], .agg #[.int .i64 x', .int .i64 y', .int .i64 u', .int .i64 v', .int .i64 k']]) (by simp [results, Try.results29, go_sem, q0, q1, q2, q3, q4, q5, q6, q7, q8, q9]) rfl ?_
  exact ⟨x, y, u, v, k, x', y', u', v', k', rfl, hb9⟩
set_option maxRecDepth 100000 in
set_option maxHeartbeats 8000000 in
theorem drawStayApart_g (v : Value) (n : Nat) (w : World) (h : Bytes w v n) (hn : n ≤ 9223372036854775807) : Calls Try.prog 10 #[v] w (AnsMMI w) := by
  have HV := Lib.hid h
  obtain ⟨A, c, rfl, hc, hr⟩ := h
  clear hr
  go_enter Try.func10, Try.ntmps10
  go_wp2_with fail
  have hr0 := ((MB.new w 0 0 0 0 0 26 (by omega)).up (below_alloc _ (.cells #[.int .i64 0, .int .i64 0, .int .i64 0, .int .i64 0, .int .i64 0] 26)))
  have hr1 := (MB.new (w.alloc (.cells #[.int .i64 0, .int .i64 0, .int .i64 0, .int .i64 0, .int .i64 0] 26)) 0 0 0 0 0 26 (by omega))
  rw [World.size_alloc] at hr1
  generalize hWx : World.alloc (World.alloc w _) _ = W0 at *
  have hb0 : Below w.heap.size w W0 := by subst hWx; exact (below_alloc _ _).trans ((below_alloc _ _).mono (by simp))
  have hz0 : W0.heap.size = w.heap.size + 2 := by subst hWx; simp
  clear hWx
  refine (cur_together (w.heap.size + 1 + 1) 0 _ (cur_start hb0 HV.out hn (by omega) _) (by omega)).mono ?_
  rintro e w1 ⟨x, y, u, v, k, x', y', u', v', k', rfl, hk, hk', hc1, ht1⟩
  have hz1 := ht1.size
  simp only [World.size_alloc] at hz1
  replace hr0 := (hr0.up (below_alloc _ _)).turn ht1 (by omega)
  replace hr1 := (hr1.up (below_alloc _ _)).turn ht1 (by omega)
  have hWz : Below w.heap.size w w1 := turned_old (hb0.trans ((below_alloc _ _).mono (by omega))) ht1 (by omega)
  have hl1 := hc1.lt
  go_upto_region 3 with fail
  have hb0' := (MB.new w1 x y u v k 26 hk).up (below_alloc _ (.cells #[.int .i64 x', .int .i64 y', .int .i64 u', .int .i64 v', .int .i64 k'] 26))
  have hb1' := MB.new (w1.alloc (.cells #[.int .i64 x, .int .i64 y, .int .i64 u, .int .i64 v, .int .i64 k] 26)) x' y' u' v' k' 26 hk'
  have m0 : MC ((w1.alloc (.cells #[.int .i64 x, .int .i64 y, .int .i64 u, .int .i64 v, .int .i64 k] 26)).alloc (.cells #[.int .i64 x', .int .i64 y', .int .i64 u', .int .i64 v', .int .i64 k'] 26)) w1.heap.size x y u v k := ⟨by simp [go_sem], by simp [go_sem], by simp [go_sem], by simp [go_sem], by simp [go_sem]⟩
  have m1 : MC ((w1.alloc (.cells #[.int .i64 x, .int .i64 y, .int .i64 u, .int .i64 v, .int .i64 k] 26)).alloc (.cells #[.int .i64 x', .int .i64 y', .int .i64 u', .int .i64 v', .int .i64 k'] 26)) (w1.heap.size + 1) x' y' u' v' k' := ⟨by simp [go_sem], by simp [go_sem], by simp [go_sem], by simp [go_sem], by simp [go_sem]⟩
  rw [World.size_alloc] at hb1'
  generalize hWx : World.alloc (World.alloc w1 _) _ = W1 at *
  have hb2 : Below w1.heap.size w1 W1 := by subst hWx; exact (below_alloc _ _).trans ((below_alloc _ _).mono (by simp))
  clear hWx
  have hs : Tg (w.heap.size + 1 + 1) w1 200 w.heap.size w1.heap.size W1 := ⟨hr0.up hb2, hr1.up hb2, hb0', hb1', (hc1.up hb2).more (by omega), Turned.of_below hb2⟩
  have hpr : w.heap.size + 1 + 1 ≠ w.heap.size ∧ w.heap.size + 1 + 1 ≠ w.heap.size + 1 := by omega
  have hpb : w.heap.size + 1 + 1 < w1.heap.size := by omega
  have hl6 := hs.cur.lt
  clear hr0 hr1 hb0' hb1' hc1 ht1 hb2
  go_region_held3 (fun w' => w'.cell? ⟨w1.heap.size, 0, none⟩ = some (.int .i64 x) ∧ w'.cell? ⟨w1.heap.size, 1, none⟩ = some (.int .i64 y) ∧ w'.cell? ⟨w1.heap.size, 2, none⟩ = some (.int .i64 u) ∧ w'.cell? ⟨w1.heap.size, 3, none⟩ = some (.int .i64 v) ∧ w'.cell? ⟨w1.heap.size, 4, none⟩ = some (.int .i64 k) ∧ w'.cell? ⟨w1.heap.size + 1, 0, none⟩ = some (.int .i64 x') ∧ w'.cell? ⟨w1.heap.size + 1, 1, none⟩ = some (.int .i64 y') ∧ w'.cell? ⟨w1.heap.size + 1, 2, none⟩ = some (.int .i64 u') ∧ w'.cell? ⟨w1.heap.size + 1, 3, none⟩ = some (.int .i64 v') ∧ w'.cell? ⟨w1.heap.size + 1, 4, none⟩ = some (.int .i64 k'))
    (first | (refine S10 (MC.up m0 ?_) (MC.up m1 ?_) <;> first | omega | ((repeat (first | with_reducible exact Below.refl _ _ | with_reducible assumption | with_reducible refine up_alloc ?_ _ | with_reducible refine up_drew ?_ | with_reducible refine up_drewN ?_ _ | (with_reducible refine up_set ?_ ?hset _; case hset => first | (simp; done) | (simp; omega) | omega) | with_reducible refine up_trans ?_ (by with_reducible assumption))); done)) | (refine S10 ((MC.up m0 ?_).far5 ?_ _ _ _ _ _) ((MC.up m1 ?_).far5 ?_ _ _ _ _ _) <;> first | omega | ((repeat (first | with_reducible exact Below.refl _ _ | with_reducible assumption | with_reducible refine up_alloc ?_ _ | with_reducible refine up_drew ?_ | with_reducible refine up_drewN ?_ _ | (with_reducible refine up_set ?_ ?hset _; case hset => first | (simp; done) | (simp; omega) | omega) | with_reducible refine up_trans ?_ (by with_reducible assumption))); done)) | (refine S10 (((MC.up m0 ?_).far5 ?_ _ _ _ _ _).far5 ?_ _ _ _ _ _) (((MC.up m1 ?_).far5 ?_ _ _ _ _ _).far5 ?_ _ _ _ _ _) <;> first | omega | ((repeat (first | with_reducible exact Below.refl _ _ | with_reducible assumption | with_reducible refine up_alloc ?_ _ | with_reducible refine up_drew ?_ | with_reducible refine up_drewN ?_ _ | (with_reducible refine up_set ?_ ?hset _; case hset => first | (simp; done) | (simp; omega) | omega) | with_reducible refine up_trans ?_ (by with_reducible assumption))); done)) | go_keep) (first
    | (go_at_call 43; (with_reducible refine (cur_leastDistance _ _ _ (hs.cur.up (by (repeat (first | with_reducible exact Below.refl _ _ | with_reducible assumption | with_reducible refine up_alloc ?_ _ | with_reducible refine up_drew ?_ | with_reducible refine up_drewN ?_ _ | (with_reducible refine up_set ?_ ?hset _; case hset => first | (simp; done) | (simp; omega) | omega) | with_reducible refine up_trans ?_ (by with_reducible assumption))))) (by omega)).mono ?_); rintro e w6 ⟨z, rfl, hz, hc6, ht6⟩; have htt := hs.tt (by (repeat (first | with_reducible exact Below.refl _ _ | with_reducible assumption | with_reducible refine up_alloc ?_ _ | with_reducible refine up_drew ?_ | with_reducible refine up_drewN ?_ _ | (with_reducible refine up_set ?_ ?hset _; case hset => first | (simp; done) | (simp; omega) | omega) | with_reducible refine up_trans ?_ (by with_reducible assumption)))) ht6; replace hs := hs.next (by (repeat (first | with_reducible exact Below.refl _ _ | with_reducible assumption | with_reducible refine up_alloc ?_ _ | with_reducible refine up_drew ?_ | with_reducible refine up_drewN ?_ _ | (with_reducible refine up_set ?_ ?hset _; case hset => first | (simp; done) | (simp; omega) | omega) | with_reducible refine up_trans ?_ (by with_reducible assumption)))) hc6 ht6 hpr hpb; have m0 := m0.turn htt (by omega); have m1 := m1.turn htt (by omega); have hl6 := hs.cur.lt; have f00 := hs.r0.free 0; have f10 := hs.r1.free 0; have f01 := hs.r0.free 1; have f11 := hs.r1.free 1; have f02 := hs.r0.free 2; have f12 := hs.r1.free 2; have f03 := hs.r0.free 3; have f13 := hs.r1.free 3; have f04 := hs.r0.free 4; have f14 := hs.r1.free 4; obtain ⟨_, _, _, _, _, ⟨r00, r01, r02, r03, r04⟩, _⟩ := hs.r0.ex; obtain ⟨_, _, _, _, _, ⟨r10, r11, r12, r13, r14⟩, _⟩ := hs.r1.ex)
    | fail)
  all_goals
    have hr0 := hs.r0
    have hr1 := hs.r1
    replace hWz := turned_old hWz hs.t (by omega)
    have hA := (hr0.put x y u v k).far5 (g := w.heap.size + 1) (by omega) (.int .i64 x') (.int .i64 y') (.int .i64 u') (.int .i64 v') (.int .i64 k')
    have hB := (hr1.far5 (g := w.heap.size) (by omega) (.int .i64 x) (.int .i64 y) (.int .i64 u) (.int .i64 v) (.int .i64 k)).put x' y' u' v' k'
    have hb9 := (put5_below (B := w.heap.size) w6 (.int .i64 x) (.int .i64 y) (.int .i64 u) (.int .i64 v) (.int .i64 k) (Nat.le_refl w.heap.size)).trans (put5_below (r := w.heap.size + 1) _ (.int .i64 x') (.int .i64 y') (.int .i64 u') (.int .i64 v') (.int .i64 k') (show w.heap.size ≤ w.heap.size + 1 by omega))
    replace hb9 := hWz.trans hb9
    generalize World.setCell (World.setCell (World.setCell (World.setCell (World.setCell (World.setCell (World.setCell (World.setCell (World.setCell (World.setCell w6 _ _) _ _) _ _) _ _) _ _) _ _) _ _) _ _) _ _) _ _ = w9 at *
    obtain ⟨q0, q1, q2, q3, q4⟩ := hA
    obtain ⟨q5, q6, q7, q8, q9⟩ := hB
    go_wp2_with fail
    refine bodyPost_ret (v := .tuple #[.agg #[.int .i64 x, .int .i64 y, .int .i64 u, .int .i64 v, .int .i64 k], .agg #[.int .i64 x', .int .i64 y', .int .i64 u', .int .i64 v', .int .i64 k'], .int .i64 z]) (by simp [results, Try.results10, go_sem, q0, q1, q2, q3, q4, q5, q6, q7, q8, q9]) rfl ?_
    exact ⟨x, y, u, v, k, x', y', u', v', k', z, rfl, hb9⟩

set_option maxRecDepth 100000 in
set_option maxHeartbeats 8000000 in
theorem drawApartAt_g (v : Value) (n : Nat) (w : World) (h : Bytes w v n) (hn : n ≤ 9223372036854775807) : Calls Try.prog 15 #[v] w (AnsMMI w) := by
  have HV := Lib.hid h
  obtain ⟨A, c, rfl, hc, hr⟩ := h
  clear hr
  go_enter Try.func15, Try.ntmps15
  go_wp2_with fail
  have hr0 := ((MB.new w 0 0 0 0 0 26 (by omega)).up (below_alloc _ (.cells #[.int .i64 0, .int .i64 0, .int .i64 0, .int .i64 0, .int .i64 0] 26)))
  have hr1 := (MB.new (w.alloc (.cells #[.int .i64 0, .int .i64 0, .int .i64 0, .int .i64 0, .int .i64 0] 26)) 0 0 0 0 0 26 (by omega))
  rw [World.size_alloc] at hr1
  generalize hWx : World.alloc (World.alloc w _) _ = W0 at *
  have hb0 : Below w.heap.size w W0 := by subst hWx; exact (below_alloc _ _).trans ((below_alloc _ _).mono (by simp))
  have hz0 : W0.heap.size = w.heap.size + 2 := by subst hWx; simp
  clear hWx
  refine (cur_together (w.heap.size + 1 + 1) 0 _ (cur_start hb0 HV.out hn (by omega) _) (by omega)).mono ?_
  rintro e w1 ⟨x, y, u, v, k, x', y', u', v', k', rfl, hk, hk', hc1, ht1⟩
  have hz1 := ht1.size
  simp only [World.size_alloc] at hz1
  replace hr0 := (hr0.up (below_alloc _ _)).turn ht1 (by omega)
  replace hr1 := (hr1.up (below_alloc _ _)).turn ht1 (by omega)
  have hWz : Below w.heap.size w w1 := turned_old (hb0.trans ((below_alloc _ _).mono (by omega))) ht1 (by omega)
  have hl1 := hc1.lt
  go_upto_region 3 with fail
  have hb0' := (MB.new w1 x y u v k 26 hk).up (below_alloc _ (.cells #[.int .i64 x', .int .i64 y', .int .i64 u', .int .i64 v', .int .i64 k'] 26))
  have hb1' := MB.new (w1.alloc (.cells #[.int .i64 x, .int .i64 y, .int .i64 u, .int .i64 v, .int .i64 k] 26)) x' y' u' v' k' 26 hk'
  have m0 : MC ((w1.alloc (.cells #[.int .i64 x, .int .i64 y, .int .i64 u, .int .i64 v, .int .i64 k] 26)).alloc (.cells #[.int .i64 x', .int .i64 y', .int .i64 u', .int .i64 v', .int .i64 k'] 26)) w1.heap.size x y u v k := ⟨by simp [go_sem], by simp [go_sem], by simp [go_sem], by simp [go_sem], by simp [go_sem]⟩
  have m1 : MC ((w1.alloc (.cells #[.int .i64 x, .int .i64 y, .int .i64 u, .int .i64 v, .int .i64 k] 26)).alloc (.cells #[.int .i64 x', .int .i64 y', .int .i64 u', .int .i64 v', .int .i64 k'] 26)) (w1.heap.size + 1) x' y' u' v' k' := ⟨by simp [go_sem], by simp [go_sem], by simp [go_sem], by simp [go_sem], by simp [go_sem]⟩
  rw [World.size_alloc] at hb1'
  generalize hWx : World.alloc (World.alloc w1 _) _ = W1 at *
  have hb2 : Below w1.heap.size w1 W1 := by subst hWx; exact (below_alloc _ _).trans ((below_alloc _ _).mono (by simp))
  clear hWx
  have hs : Tg (w.heap.size + 1 + 1) w1 200 w.heap.size w1.heap.size W1 := ⟨hr0.up hb2, hr1.up hb2, hb0', hb1', (hc1.up hb2).more (by omega), Turned.of_below hb2⟩
  have hpr : w.heap.size + 1 + 1 ≠ w.heap.size ∧ w.heap.size + 1 + 1 ≠ w.heap.size + 1 := by omega
  have hpb : w.heap.size + 1 + 1 < w1.heap.size := by omega
  have hl6 := hs.cur.lt
  clear hr0 hr1 hb0' hb1' hc1 ht1 hb2
  have jw : IntKind.i64.wrap (k + 1) = k + 1 := IntWalk.i64_in _ (by omega)
  obtain ⟨km, hkm⟩ : ∃ km : Nat, max 1 k = (km : Int) := ⟨(max 1 k).toNat, by omega⟩
  have hkm2 : km ≤ 65 := by omega
  go_region_held3 (fun w' => w'.cell? ⟨w1.heap.size, 0, none⟩ = some (.int .i64 x) ∧ w'.cell? ⟨w1.heap.size, 1, none⟩ = some (.int .i64 y) ∧ w'.cell? ⟨w1.heap.size, 2, none⟩ = some (.int .i64 u) ∧ w'.cell? ⟨w1.heap.size, 3, none⟩ = some (.int .i64 v) ∧ w'.cell? ⟨w1.heap.size, 4, none⟩ = some (.int .i64 k) ∧ w'.cell? ⟨w1.heap.size + 1, 0, none⟩ = some (.int .i64 x') ∧ w'.cell? ⟨w1.heap.size + 1, 1, none⟩ = some (.int .i64 y') ∧ w'.cell? ⟨w1.heap.size + 1, 2, none⟩ = some (.int .i64 u') ∧ w'.cell? ⟨w1.heap.size + 1, 3, none⟩ = some (.int .i64 v') ∧ w'.cell? ⟨w1.heap.size + 1, 4, none⟩ = some (.int .i64 k'))
    (first | (refine S10 (MC.up m0 ?_) (MC.up m1 ?_) <;> first | omega | ((repeat (first | with_reducible exact Below.refl _ _ | with_reducible assumption | with_reducible refine up_alloc ?_ _ | with_reducible refine up_drew ?_ | with_reducible refine up_drewN ?_ _ | (with_reducible refine up_set ?_ ?hset _; case hset => first | (simp; done) | (simp; omega) | omega) | with_reducible refine up_trans ?_ (by with_reducible assumption))); done)) | (refine S10 ((MC.up m0 ?_).far5 ?_ _ _ _ _ _) ((MC.up m1 ?_).far5 ?_ _ _ _ _ _) <;> first | omega | ((repeat (first | with_reducible exact Below.refl _ _ | with_reducible assumption | with_reducible refine up_alloc ?_ _ | with_reducible refine up_drew ?_ | with_reducible refine up_drewN ?_ _ | (with_reducible refine up_set ?_ ?hset _; case hset => first | (simp; done) | (simp; omega) | omega) | with_reducible refine up_trans ?_ (by with_reducible assumption))); done)) | (refine S10 (((MC.up m0 ?_).far5 ?_ _ _ _ _ _).far5 ?_ _ _ _ _ _) (((MC.up m1 ?_).far5 ?_ _ _ _ _ _).far5 ?_ _ _ _ _ _) <;> first | omega | ((repeat (first | with_reducible exact Below.refl _ _ | with_reducible assumption | with_reducible refine up_alloc ?_ _ | with_reducible refine up_drew ?_ | with_reducible refine up_drewN ?_ _ | (with_reducible refine up_set ?_ ?hset _; case hset => first | (simp; done) | (simp; omega) | omega) | with_reducible refine up_trans ?_ (by with_reducible assumption))); done)) | go_keep) (first
    | (go_at_call 51; refine (l1Most_any _ _ _).mono ?_; rw [hkm]; rintro e wy ⟨rfl, rfl⟩)
    | (go_at_call 50; (with_reducible refine (cur_pickI _ _ km _ _ (hs.cur.up (by (repeat (first | with_reducible exact Below.refl _ _ | with_reducible assumption | with_reducible refine up_alloc ?_ _ | with_reducible refine up_drew ?_ | with_reducible refine up_drewN ?_ _ | (with_reducible refine up_set ?_ ?hset _; case hset => first | (simp; done) | (simp; omega) | omega) | with_reducible refine up_trans ?_ (by with_reducible assumption))))) rfl (by omega) (by omega)).mono ?_); rintro e w6 ⟨xa, rfl, hxa, hc6, ht6⟩; have htt := hs.tt (by (repeat (first | with_reducible exact Below.refl _ _ | with_reducible assumption | with_reducible refine up_alloc ?_ _ | with_reducible refine up_drew ?_ | with_reducible refine up_drewN ?_ _ | (with_reducible refine up_set ?_ ?hset _; case hset => first | (simp; done) | (simp; omega) | omega) | with_reducible refine up_trans ?_ (by with_reducible assumption)))) ht6; replace hs := hs.next (by (repeat (first | with_reducible exact Below.refl _ _ | with_reducible assumption | with_reducible refine up_alloc ?_ _ | with_reducible refine up_drew ?_ | with_reducible refine up_drewN ?_ _ | (with_reducible refine up_set ?_ ?hset _; case hset => first | (simp; done) | (simp; omega) | omega) | with_reducible refine up_trans ?_ (by with_reducible assumption)))) hc6 ht6 hpr hpb; have m0 := m0.turn htt (by omega); have m1 := m1.turn htt (by omega); have hl6 := hs.cur.lt; have f00 := hs.r0.free 0; have f10 := hs.r1.free 0; have f01 := hs.r0.free 1; have f11 := hs.r1.free 1; have f02 := hs.r0.free 2; have f12 := hs.r1.free 2; have f03 := hs.r0.free 3; have f13 := hs.r1.free 3; have f04 := hs.r0.free 4; have f14 := hs.r1.free 4; obtain ⟨_, _, _, _, _, ⟨r00, r01, r02, r03, r04⟩, _⟩ := hs.r0.ex; obtain ⟨_, _, _, _, _, ⟨r10, r11, r12, r13, r14⟩, _⟩ := hs.r1.ex)
    | (go_at_call 49; (with_reducible show Calls Try.prog _ #[_, .slice _ 2 2] _ _); (refine (cur_among (w.heap.size + 1 + 1) _ _ 2 (-1) 66 _ (hs.cur.up (by (repeat (first | with_reducible exact Below.refl _ _ | with_reducible assumption | with_reducible refine up_alloc ?_ _ | with_reducible refine up_drew ?_ | with_reducible refine up_drewN ?_ _ | (with_reducible refine up_set ?_ ?hset _; case hset => first | (simp; done) | (simp; omega) | omega) | with_reducible refine up_trans ?_ (by with_reducible assumption))))) (by omega) (by omega) (by omega) (by first | omega | (simp; omega)) (by intro i hi; match i, hi with | 0, _ => exact ⟨_, (by first | (simp [go_sem]; done) | exact litc0 _ _ _ 0 _ rfl | exact litc1 _ _ _ _ 0 _ rfl | exact litc2 _ _ _ _ 0 _ rfl | exact ht6.cell (by first | (simp [go_sem]; done) | exact litc0 _ _ _ 0 _ rfl | exact litc1 _ _ _ _ 0 _ rfl | exact litc2 _ _ _ _ 0 _ rfl) (by first | omega | (simp; omega)) | fail), by omega, by omega⟩ | 1, _ => exact ⟨(-1), (by first | (simp [go_sem]; done) | exact litc0 _ _ _ 1 _ rfl | exact litc1 _ _ _ _ 1 _ rfl | exact litc2 _ _ _ _ 1 _ rfl | exact ht6.cell (by first | (simp [go_sem]; done) | exact litc0 _ _ _ 1 _ rfl | exact litc1 _ _ _ _ 1 _ rfl | exact litc2 _ _ _ _ 1 _ rfl) (by first | omega | (simp; omega)) | fail), by omega, by omega⟩ | (q + 2), hi => omega)).mono ?_); rintro e w6 ⟨xb, rfl, hxb, hc6, ht6⟩; have htt := hs.tt (by (repeat (first | with_reducible exact Below.refl _ _ | with_reducible assumption | with_reducible refine up_alloc ?_ _ | with_reducible refine up_drew ?_ | with_reducible refine up_drewN ?_ _ | (with_reducible refine up_set ?_ ?hset _; case hset => first | (simp; done) | (simp; omega) | omega) | with_reducible refine up_trans ?_ (by with_reducible assumption)))) ht6; replace hs := hs.next (by (repeat (first | with_reducible exact Below.refl _ _ | with_reducible assumption | with_reducible refine up_alloc ?_ _ | with_reducible refine up_drew ?_ | with_reducible refine up_drewN ?_ _ | (with_reducible refine up_set ?_ ?hset _; case hset => first | (simp; done) | (simp; omega) | omega) | with_reducible refine up_trans ?_ (by with_reducible assumption)))) hc6 ht6 hpr hpb; have m0 := m0.turn htt (by omega); have m1 := m1.turn htt (by omega); have hl6 := hs.cur.lt; have f00 := hs.r0.free 0; have f10 := hs.r1.free 0; have f01 := hs.r0.free 1; have f11 := hs.r1.free 1; have f02 := hs.r0.free 2; have f12 := hs.r1.free 2; have f03 := hs.r0.free 3; have f13 := hs.r1.free 3; have f04 := hs.r0.free 4; have f14 := hs.r1.free 4; obtain ⟨_, _, _, _, _, ⟨r00, r01, r02, r03, r04⟩, _⟩ := hs.r0.ex; obtain ⟨_, _, _, _, _, ⟨r10, r11, r12, r13, r14⟩, _⟩ := hs.r1.ex)
    | (go_at_call 49; (with_reducible show Calls Try.prog _ #[_, .slice _ 4 4] _ _); (refine (cur_among (w.heap.size + 1 + 1) _ _ 4 (-1) 66 _ (hs.cur.up (by (repeat (first | with_reducible exact Below.refl _ _ | with_reducible assumption | with_reducible refine up_alloc ?_ _ | with_reducible refine up_drew ?_ | with_reducible refine up_drewN ?_ _ | (with_reducible refine up_set ?_ ?hset _; case hset => first | (simp; done) | (simp; omega) | omega) | with_reducible refine up_trans ?_ (by with_reducible assumption))))) (by omega) (by omega) (by omega) (by first | omega | (simp; omega)) (by intro i hi; match i, hi with | 0, _ => exact ⟨0, (by first | (simp [go_sem]; done) | exact litc0 _ _ _ 0 _ rfl | exact litc1 _ _ _ _ 0 _ rfl | exact litc2 _ _ _ _ 0 _ rfl), by omega, by omega⟩ | 1, _ => exact ⟨_, (by first | (simp [go_sem]; done) | exact litc0 _ _ _ 1 _ rfl | exact litc1 _ _ _ _ 1 _ rfl | exact litc2 _ _ _ _ 1 _ rfl), by omega, by omega⟩ | 2, _ => exact ⟨_, (by first | (simp [go_sem]; done) | exact litc0 _ _ _ 2 _ rfl | exact litc1 _ _ _ _ 2 _ rfl | exact litc2 _ _ _ _ 2 _ rfl), by omega, by omega⟩ | 3, _ => exact ⟨_, (by first | (simp [go_sem]; done) | exact litc0 _ _ _ 3 _ rfl | exact litc1 _ _ _ _ 3 _ rfl | exact litc2 _ _ _ _ 3 _ rfl), by omega, by omega⟩ | (q + 4), hi => omega)).mono ?_); rintro e w6 ⟨z, rfl, hz, hc6, ht6⟩; have htt := hs.tt (by (repeat (first | with_reducible exact Below.refl _ _ | with_reducible assumption | with_reducible refine up_alloc ?_ _ | with_reducible refine up_drew ?_ | with_reducible refine up_drewN ?_ _ | (with_reducible refine up_set ?_ ?hset _; case hset => first | (simp; done) | (simp; omega) | omega) | with_reducible refine up_trans ?_ (by with_reducible assumption)))) ht6; replace hs := hs.next (by (repeat (first | with_reducible exact Below.refl _ _ | with_reducible assumption | with_reducible refine up_alloc ?_ _ | with_reducible refine up_drew ?_ | with_reducible refine up_drewN ?_ _ | (with_reducible refine up_set ?_ ?hset _; case hset => first | (simp; done) | (simp; omega) | omega) | with_reducible refine up_trans ?_ (by with_reducible assumption)))) hc6 ht6 hpr hpb; have m0 := m0.turn htt (by omega); have m1 := m1.turn htt (by omega); have hl6 := hs.cur.lt; have f00 := hs.r0.free 0; have f10 := hs.r1.free 0; have f01 := hs.r0.free 1; have f11 := hs.r1.free 1; have f02 := hs.r0.free 2; have f12 := hs.r1.free 2; have f03 := hs.r0.free 3; have f13 := hs.r1.free 3; have f04 := hs.r0.free 4; have f14 := hs.r1.free 4; obtain ⟨_, _, _, _, _, ⟨r00, r01, r02, r03, r04⟩, _⟩ := hs.r0.ex; obtain ⟨_, _, _, _, _, ⟨r10, r11, r12, r13, r14⟩, _⟩ := hs.r1.ex)
    | fail)
  all_goals
    have hr0 := hs.r0
    have hr1 := hs.r1
    replace hWz := turned_old hWz hs.t (by omega)
    have hA := (hr0.put x y u v k).far5 (g := w.heap.size + 1) (by omega) (.int .i64 x') (.int .i64 y') (.int .i64 u') (.int .i64 v') (.int .i64 k')
    have hB := (hr1.far5 (g := w.heap.size) (by omega) (.int .i64 x) (.int .i64 y) (.int .i64 u) (.int .i64 v) (.int .i64 k)).put x' y' u' v' k'
    have hb9 := (put5_below (B := w.heap.size) w6 (.int .i64 x) (.int .i64 y) (.int .i64 u) (.int .i64 v) (.int .i64 k) (Nat.le_refl w.heap.size)).trans (put5_below (r := w.heap.size + 1) _ (.int .i64 x') (.int .i64 y') (.int .i64 u') (.int .i64 v') (.int .i64 k') (show w.heap.size ≤ w.heap.size + 1 by omega))
    replace hb9 := hWz.trans hb9
    generalize World.setCell (World.setCell (World.setCell (World.setCell (World.setCell (World.setCell (World.setCell (World.setCell (World.setCell (World.setCell w6 _ _) _ _) _ _) _ _) _ _) _ _) _ _) _ _) _ _) _ _ = w9 at *
    obtain ⟨q0, q1, q2, q3, q4⟩ := hA
    obtain ⟨q5, q6, q7, q8, q9⟩ := hB
    go_wp2_with fail
    refine bodyPost_ret (v := .tuple #[.agg #[.int .i64 x, .int .i64 y, .int .i64 u, .int .i64 v, .int .i64 k], .agg #[.int .i64 x', .int .i64 y', .int .i64 u', .int .i64 v', .int .i64 k'], .int .i64 z]) (by simp [results, Try.results15, go_sem, q0, q1, q2, q3, q4, q5, q6, q7, q8, q9]) rfl ?_
    exact ⟨x, y, u, v, k, x', y', u', v', k', z, rfl, hb9⟩

end Go.Proofs.Ytljdhicmcmppgaa
