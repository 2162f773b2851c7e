/- Words and contracts, part 6. -/
import Derived.Test.YtbfhfjpfjkdcfaaGreatDoorRows
import Derived.BigQuiet
import Derived.Maps.AppendAt
import Derived.Lib.SmallJoins
import Derived.Deep.Slices
import Derived.Deep.CutRange
import Derived.Deep.DeepCutAuto
import Derived.Deep.AppendLies
import Derived.Deep.RegionHeld3
import Derived.Deep.RegionWith
import Derived.Test.YtbfhfjpfjkdcfaaGreatDoorZ5
namespace Go.Proofs.YtbfhfjpfjkdcfaaGreatDoor
open Go.RowKit Go.ChangeShapes Go.WideShapes Go.Sort

/-- Returned: a number from lo to hi; only the cursor has turned. -/
def AnsRng (w : World) (p K : Nat) (lo hi : Int) (e : Ending) (w' : World) : Prop := ∃ x : Int, e = .returned (.int .i64 x) ∧ (lo ≤ x ∧ x ≤ hi) ∧ CurAt w' p K ∧ Turned p (p + 1) w w'
/-- Returned: a Bool; only the cursor has turned. -/
def AnsOne (w : World) (p K : Nat) (e : Ending) (w' : World) : Prop := ∃ x : Bool, e = .returned (.bool x) ∧ CurAt w' p K ∧ Turned p (p + 1) w w'
theorem Turned.far {lo hi : Nat} {w w1 w2 : World} (h : Turned lo hi w w1) (hb : Below w.heap.size w1 w2) : Turned lo hi w w2 :=
  ⟨hb.os.trans h.os, hb.tape.trans h.tape, hb.output.trans h.output, Nat.le_trans h.size hb.size, fun k hk hr => (hb.block k hk).trans (h.block k hk hr)⟩
theorem CurAt.below {w w' : World} {p K m : Nat} (h : CurAt w p K) (hb : Below m w w') (hm : p < m) : CurAt w' p K := by
  obtain ⟨⟨A, n, c, a, s, h0, h1, h2, h3, h4, h5, h6⟩, hf, hl⟩ := h
  refine ⟨⟨A, n, c, a, s, ?_, ?_, ?_, h3, h4, h5, fun hn => ?_⟩, fun o => ?_, by have := hb.size; omega⟩
  · rw [hb.cell (p := ⟨p, 0, none⟩) hm]; exact h0
  · rw [hb.cell (p := ⟨p, 1, none⟩) hm]; exact h1
  · rw [hb.cell (p := ⟨p, 2, none⟩) hm]; exact h2
  · obtain ⟨b, o, Z, e, hbp, hz⟩ := h6 hn
    exact ⟨b, o, Z, e, hbp, fun i hi => ⟨by rw [hb.cell (p := ⟨b, o + i, none⟩) (show b < m by omega)]; exact (hz i hi).1, (hz i hi).2⟩⟩
  · rw [hb.frozen (p := ⟨p, o, none⟩) hm]; exact hf o
theorem tmod_nat (x n : Nat) : Int.tmod (x : Int) (n : Int) = ((x % n : Nat) : Int) := rfl
set_option maxRecDepth 100000 in
set_option maxHeartbeats 2000000 in
theorem cur_pick (p K n : Nat) (w : World) (h : CurAt w p K) (hK : K ≤ 1000000000) (hn : n ≤ 1000000000) :
    Calls Tryz.prog 59 #[.pointer (some ⟨p, 0, none⟩), .int .i64 n] w (AnsCur w p (K + 2) (max n 1)) := by
  by_cases h1 : n ≤ 1
  · have j1 : (n : Int) ≤ 1 := by omega
    go_enter Tryz.func59, Tryz.ntmps59
    go_wp2_with fail
    go_ret
    exact ⟨0, rfl, by omega, h.more (by omega), Turned.refl _ _ _⟩
  · have j1 : ¬ (n : Int) ≤ 1 := by omega
    have j0 : ¬ (n : Int) = 0 := by omega
    by_cases h2 : n ≤ 200
    · have j2 : ¬ (n : Int) > 200 := by omega
      go_enter Tryz.func59, Tryz.ntmps59
      go_wp2_with fail
      refine (cur_next p K _ h (by omega)).mono ?_
      rintro e w1 ⟨x, rfl, hx, hc1, ht1⟩
      go_wp2_with fail
      go_ret
      exact ⟨x % n, rfl, by have := Nat.mod_lt x (show n > 0 by omega); omega, hc1.more (by omega), ht1⟩
    · have j2 : (n : Int) > 200 := by omega
      go_enter Tryz.func59, Tryz.ntmps59
      go_wp2_with fail
      refine (cur_next p K _ h (by omega)).mono ?_
      rintro e w1 ⟨x, rfl, hx, hc1, ht1⟩
      go_wp2_with fail
      refine (cur_next p (K + 1) _ hc1 (by omega)).mono ?_
      rintro e w2 ⟨y, rfl, hy, hc2, ht2⟩
      go_wp2_with fail
      go_ret
      exact ⟨(x * 256 + y) % n, rfl, by have := Nat.mod_lt (x * 256 + y) (show n > 0 by omega); omega, hc2, ht1.trans ht2⟩
set_option maxRecDepth 100000 in
theorem cur_one (p K n : Nat) (w : World) (h : CurAt w p K) (hK : K ≤ 1000000000) (hn : n ≤ 1000000000) :
    Calls Tryz.prog 41 #[.pointer (some ⟨p, 0, none⟩), .int .i64 n] w (AnsOne w p (K + 2)) := by
  go_enter Tryz.func41, Tryz.ntmps41
  go_wp2_with fail
  refine (cur_pick p K n _ h hK hn).mono ?_
  rintro e w1 ⟨x, rfl, hx, hc1, ht1⟩
  go_wp2_with fail
  go_ret
  exact ⟨_, rfl, hc1, ht1⟩
set_option maxRecDepth 100000 in
theorem cur_among (p K b m : Nat) (lo hi : Int) (w : World) (h : CurAt w p K) (hK : K ≤ 1000000000) (h1 : 1 ≤ m) (hm : m ≤ 1000000) (hpb : p < b)
    (hr : ∀ i, i < m → ∃ x : Int, w.cell? ⟨b, i, none⟩ = some (.int .i64 x) ∧ lo ≤ x ∧ x ≤ hi) :
    Calls Tryz.prog 81 #[.pointer (some ⟨p, 0, none⟩), .slice (some ⟨b, 0, none⟩) m m] w (AnsRng w p (K + 2) lo hi) := by
  have HR := Lib.hid hr
  clear hr
  go_enter Tryz.func81, Tryz.ntmps81
  go_wp2_with fail
  refine (cur_pick p K m _ h hK (by omega)).mono ?_
  rintro e w1 ⟨x, rfl, hx, hc1, ht1⟩
  have hxm : x < m := by omega
  obtain ⟨y, hy, hy1, hy2⟩ := HR.out x hxm
  have c1 := ht1.cell hy (by omega)
  have j1 : (x : Int) < (m : Int) := by omega
  clear hy
  go_wp2_with fail
  go_ret
  exact ⟨y, rfl, ⟨hy1, hy2⟩, hc1, ht1⟩
end Go.Proofs.YtbfhfjpfjkdcfaaGreatDoor
namespace Go.Proofs.YtbfhfjpfjkdcfaaGreatDoor
open Go.RowKit Go.ChangeShapes Go.WideShapes Go.Sort

/-- The slice value v reads as n bytes. -/
def Bytes (w : World) (v : Value) (n : Nat) : Prop := ∃ A c, v = .slice A n c ∧ n ≤ c ∧
  (0 < n → ∃ (b o : Nat) (Z : Nat → Int), A = some ⟨b, o, none⟩ ∧ b < w.heap.size ∧ ∀ i, i < n → w.cell? ⟨b, o + i, none⟩ = some (.int .u8 (Z i)) ∧ 0 ≤ Z i ∧ Z i < 256)
theorem Bytes.up {w w' : World} {v : Value} {n : Nat} (h : Bytes w v n) (hb : Below w.heap.size w w') : Bytes w' v n := by
  obtain ⟨A, c, e, hc, hr⟩ := h
  refine ⟨A, c, e, hc, fun hn => ?_⟩
  obtain ⟨b, o, Z, e, hlt, hz⟩ := hr hn
  exact ⟨b, o, Z, e, by have := hb.size; omega, fun i hi => ⟨up_keep hb (hz i hi).1, (hz i hi).2⟩⟩
/-- A cursor's new box. -/
theorem curAt_new {w : World} {A : Option Addr} {n c : Nat} (h : Bytes w (.slice A n c) n) (hn : n ≤ 9223372036854775807) (t : TypeId) : CurAt (w.alloc (.cells #[.slice A n c, .int .i64 0, .int .u64 0] t)) w.heap.size 0 := by
  obtain ⟨A', c', e, hc, hr⟩ := h
  injection e with e1 _ e2
  subst e1
  subst e2
  refine ⟨⟨A, n, c, 0, 0, by simp [go_sem], by simp [go_sem], by simp [go_sem], by omega, hn, hc, fun h0 => ?_⟩, fun o => by simp [go_sem], by simp⟩
  obtain ⟨b, o, Z, e, hlt, hz⟩ := hr h0
  exact ⟨b, o, Z, e, hlt, fun i hi => ⟨up_keep (below_alloc _ _) (hz i hi).1, (hz i hi).2⟩⟩
theorem cur_below {w w' : World} {o : Obj} (h : Turned w.heap.size (w.heap.size + 1) (w.alloc o) w') : Below w.heap.size w w' := (below_alloc w o).trans (h.below (by simp))
end Go.Proofs.YtbfhfjpfjkdcfaaGreatDoor
namespace Go.Proofs.YtbfhfjpfjkdcfaaGreatDoor
open Go.RowKit

/-- The cells of n ints. -/
def cells1 (X : Nat → Int) (n : Nat) : List Value := (List.range n).map fun i => .int .i64 (X i)
theorem cells1_len (X : Nat → Int) (n : Nat) : (cells1 X n).length = n := by simp [cells1]
theorem cells1_get (X : Nat → Int) (n i : Nat) (h : i < n) : (cells1 X n)[i]? = some (.int .i64 (X i)) := by simp [cells1, h]
theorem cells1_succ (X : Nat → Int) (n : Nat) : cells1 X (n + 1) = cells1 X n ++ [.int .i64 (X n)] := by simp [cells1, List.range_succ]
/-- The slice value v is one of the call's own, with n ints, from block base on. -/
def OwnN (base : Nat) (w : World) (v : Value) (n : Nat) (X : Nat → Int) : Prop := w.ownsRow base 3 1 v n (cells1 X n)
theorem OwnN.ownI {base : Nat} {w : World} {v : Value} {n : Nat} {X : Nat → Int} (h : OwnN base w v n X) : OwnI base w v n X := by
  have h0 := h
  rcases h.2 with ⟨rfl, rfl⟩ | ⟨g, cap, cur, rfl, hb, hg, hnc, _⟩
  · exact ⟨_, _, rfl, Nat.le_refl _, fun hn => absurd hn (by omega)⟩
  · refine ⟨_, _, rfl, hnc, fun hn => ⟨g, 0, rfl, hb, fun o => World.ownsRow.frozenAt h0 o, fun i hi => ?_⟩⟩
    rw [Nat.zero_add, World.ownsRow.cellAt h0 _ (by omega)]
    exact cells1_get X n i hi
theorem OwnN.up {base : Nat} {w w' : World} {v : Value} {n : Nat} {X : Nat → Int} (h : OwnN base w v n X) (hb : Below w.heap.size w w') : OwnN base w' v n X :=
  World.ownsRow.kept (row := none) h ⟨hb.os, hb.tape, hb.output, hb.size, fun k hk _ => hb.block k hk⟩ (by cases v.ownBlock <;> simp)
theorem OwnN.nil (base : Nat) (w : World) (X : Nat → Int) : OwnN base w (.slice none 0 0) 0 X := World.ownsRow_nil _ _ _ _
theorem OwnN.empty {base : Nat} {w : World} (hb : base ≤ w.heap.size) (X : Nat → Int) : OwnN base (w.alloc (.cells #[] 3)) (.slice (some ⟨w.heap.size, 0, none⟩) 0 0) 0 X :=
  World.ownsRow_made w #[] 0 hb (by unfold maxLen; omega) rfl
theorem OwnN.shape {base : Nat} {w : World} {v : Value} {n : Nat} {X : Nat → Int} (h : OwnN base w v n X) : ∃ A c, v = .slice A n c ∧ n ≤ c ∧ c ≤ maxLen := by
  rcases h.2 with ⟨rfl, rfl⟩ | ⟨g, cap, cur, rfl, hb, hg, hnc, hm, _⟩
  · exact ⟨none, 0, rfl, Nat.le_refl _, by unfold maxLen; omega⟩
  · exact ⟨_, _, rfl, hnc, hm⟩
set_option maxRecDepth 100000 in
theorem info_intN : (Tryz.prog.info? 3).map (fun i => (i.zero, i.size, i.bytes)) = some (some (.int .i64 0), 1, 8) := by kernel_rfl
set_option maxRecDepth 100000 in
/-- 'append(out, x)' wherever the one-element slice lies. -/
theorem run_app_int1 {w : World} (ty : TypeId) (base : Nat) (v : Value) (n : Nat) (X : Nat → Int) {g : Nat} {p : Int} (hp : X n = p)
    (hc0 : w.cell? ⟨g, 0, none⟩ = some (.int .i64 p)) (hown : OwnN base w v n X) (hbase : base ≤ w.heap.size) (hn : n ≤ 1048576) :
    ∃ v' w', (Builtin.append_ #[30, 30] ty #[v, .slice (some ⟨g, 0, none⟩) 1 1]).run Tryz.prog w = .ok v' w' ∧ OwnN base w' v' (n + 1) X ∧ Below base w w' ∧ w.grownBy w' v.ownBlock ∧ (v'.ownBlock = v.ownBlock ∨ v'.ownBlock = some w.heap.size) := by
  subst hp
  obtain ⟨i0, hi0, hz0, hz1, hz2⟩ := info_parts info_intN
  obtain ⟨v', w', hr, h1, h2, _, h5⟩ := run_append_own_at (P := Tryz.prog) w base 30 ty 3 i0 _ 1 8 Tryz.underlying30 hi0 hz0 hz1 hz2 rfl (by omega) v n _ hown ⟨g, 0, none⟩ 1 1
    [.int .i64 (X n)] rfl (by
      intro j u hu
      rw [add_none, Nat.zero_add]
      match j, hu with
      | 0, hu => simp only [List.getElem?_cons_zero, Option.some.injEq] at hu; subst hu; exact hc0) (by
      intro u hu
      simp only [List.mem_cons, List.not_mem_nil, or_false] at hu
      rcases hu with rfl; rfl) (by unfold maxLen; omega) (by omega) hbase
  exact ⟨v', w', hr, by unfold OwnN; rw [cells1_succ]; exact h1, below_grown h2 hbase (fun k hk => (World.ownsRow.lt hown k hk).1), h2, h5⟩
section
variable {ops : Array Oper} {rest : List Oper} {o : Oper} {a : Act} {w : World} {K : Act → World → Prop} {Q : Exit → Act → World → Prop} {E : Prop} (hgd : o.guard = none) (s x : Operand)
    (ho : o.op = .call { callee := .builtin .append, args := #[s, x], argTypes := #[30, 30] })
    (base : Nat) (v : Value) (n : Nat) (X : Nat → Int) {g : Nat} (hs : a.eval s = v) (hx : a.eval x = .slice (some ⟨g, 0, none⟩) 1 1)
    {p : Int} (hp : X n = p) (hc0 : w.cell? ⟨g, 0, none⟩ = some (.int .i64 p))
    (hown : OwnN base w v n X) (hbase : base ≤ w.heap.size) (hn : n ≤ 1048576)
include hgd ho hs hx hp hc0 hown hbase hn
theorem step_app_int
    (h : ∀ v' w', OwnN base w' v' (n + 1) X → Below base w w' → w.grownBy w' v.ownBlock → (v'.ownBlock = v.ownBlock ∨ v'.ownBlock = some w.heap.size) → K (a.put o.dst v') w') :
    if Region.wanted o (yielded ops a.tmps) = true then Oper.wp Tryz.prog o a w K Q else E := by
  have hw : Region.wanted o (yielded ops a.tmps) = true := by unfold Region.wanted; rw [hgd]
  rw [if_pos hw]
  obtain ⟨v', w', hr, h1, h2, h3, h4⟩ := run_app_int1 o.type base v n X hp hc0 hown hbase hn
  unfold Oper.wp execOp
  simp only [ho, resolve, invoke, builtin, Sem.run_bind, Sem.run_pure, Result.andThen_ok, List.map_toArray, List.map_cons, List.map_nil, hs, hx, hr]
  exact h _ _ h1 h2 h3 h4
theorem wpList_app_int2
    (h : ∀ v' w', OwnN base w' v' (n + 1) X → Below base w w' → w.grownBy w' v.ownBlock → (v'.ownBlock = v.ownBlock ∨ v'.ownBlock = some w.heap.size) → wpList Tryz.prog ops Q rest (a.put o.dst v') w') :
    wpList Tryz.prog ops Q (o :: rest) a w := by
  obtain ⟨v', w', hr, h1, h2, h3, h4⟩ := run_app_int1 o.type base v n X hp hc0 hown hbase hn
  refine wpList_plain hgd fun _ hK => ?_
  unfold Oper.wp execOp
  simp only [ho, resolve, invoke, builtin, Sem.run_bind, Sem.run_pure, Result.andThen_ok, List.map_toArray, List.map_cons, List.map_nil, hs, hx, hr]
  exact hK _ _ (h _ _ h1 h2 h3 h4)
end
set_option maxRecDepth 100000 in
theorem run_copy_ints {w : World} (ty : TypeId) (base : Nat) (v x : Value) (m : Nat) (X : Nat → Int) (hown : OwnN base w v 0 X) (hx : Ints w x m X) (hbase : base ≤ w.heap.size) (hn : m ≤ 1048576) :
    ∃ v' w', (Builtin.append_ #[30, 30] ty #[v, x]).run Tryz.prog w = .ok v' w' ∧ OwnN base w' v' m X ∧ Below base w w' := by
  obtain ⟨i0, hi0, hz0, hz1, hz2⟩ := info_parts info_intN
  obtain ⟨A, c, rfl, hmc, hrow⟩ := hx
  have hex : ∀ ad, A = some ad → (∀ j u, (cells1 X m)[j]? = some u → w.cell? (ad.add j) = some u) →
      ∃ v' w', (Builtin.append_ #[30, 30] ty #[v, .slice A m c]).run Tryz.prog w = .ok v' w' ∧ OwnN base w' v' m X ∧ Below base w w' := by
    intro ad hA hc
    subst hA
    obtain ⟨v', w', hr, h1, h2, _⟩ := run_append_own_at (P := Tryz.prog) w base 30 ty 3 i0 _ 1 8 Tryz.underlying30 hi0 hz0 hz1 hz2 rfl (by omega) v 0 _ hown ad m c (cells1 X m) (by rw [cells1_len, Nat.mul_one]) hc (by
      intro u hu
      obtain ⟨i, _, hi⟩ := List.mem_map.1 hu
      subst hi; rfl) (by unfold maxLen; omega) (by omega) hbase
    rw [Nat.zero_add] at h1
    exact ⟨v', w', hr, h1, below_grown h2 hbase (fun k hk => (World.ownsRow.lt hown k hk).1)⟩
  rcases Nat.eq_zero_or_pos m with h0 | h0
  · subst h0
    cases A with
    | some ad => exact hex ad rfl (fun j u hu => by simp [cells1] at hu)
    | none =>
      refine ⟨v, w, ?_, hown, Below.refl _ _⟩
      rcases hown.2 with ⟨rfl, _⟩ | ⟨g, cap, cur, rfl, _, _, hnc, _⟩
      · simp [Builtin.append_, run_underlying Tryz.underlying30, sizeOf, typeInfo, hi0, Builtin.lenOf, Builtin.firstCells]
      · simp [Builtin.append_, run_underlying Tryz.underlying30, sizeOf, typeInfo, hi0, Builtin.lenOf, Builtin.firstCells, storeCells]
  · obtain ⟨b, o, rfl, hr⟩ := hrow h0
    refine hex _ rfl (fun j u hu => ?_)
    have hj : j < m := by
      rcases Nat.lt_or_ge j m with h | h
      · exact h
      · rw [List.getElem?_eq_none (by rw [cells1_len]; exact h)] at hu; cases hu
    rw [add_none, hr j hj, ← cells1_get X m j hj]
    exact hu
/-- 'append([]int{}, l...)'. -/
theorem wpList_copy_ints {ops : Array Oper} {rest : List Oper} {o : Oper} {a : Act} {Q : Exit → Act → World → Prop} {w : World} (hgd : o.guard = none) (s x : Operand)
    (ho : o.op = .call { callee := .builtin .append, args := #[s, x], argTypes := #[30, 30] })
    (base : Nat) (v u : Value) (m : Nat) (X : Nat → Int) (hs : a.eval s = v) (hx : a.eval x = u) (hown : OwnN base w v 0 X) (hsp : Ints w u m X) (hbase : base ≤ w.heap.size) (hn : m ≤ 1048576)
    (h : ∀ v' w', OwnN base w' v' m X → Below base w w' → wpList Tryz.prog ops Q rest (a.put o.dst v') w') : wpList Tryz.prog ops Q (o :: rest) a w := by
  obtain ⟨v', w', hr, h1, h2⟩ := run_copy_ints (w := w) o.type base v u m X hown hsp hbase hn
  refine wpList_plain hgd fun _ hK => ?_
  unfold Oper.wp execOp
  simp only [ho, resolve, invoke, builtin, Sem.run_bind, Sem.run_pure, Result.andThen_ok, List.map_toArray, List.map_cons, List.map_nil, hs, hx, hr]
  exact hK _ _ (h v' w' h1 h2)
set_option maxRecDepth 100000 in
set_option maxHeartbeats 400000 in
theorem l1Own_g (v : Value) (n : Nat) (X : Nat → Int) (w : World) (h : Ints w v n X) (hn : n ≤ 1048576) : Calls Tryz.prog 30 #[v] w (AnsI w n X) := by
  go_enter Tryz.func30, Tryz.ntmps30
  go_wp2_with (at_builtin; refine wpList_copy_ints rfl (.tmp 3) (.tmp 4) rfl w.heap.size _ v n X rfl rfl (OwnN.empty (Nat.le_refl _) _) (h.up (by (repeat (first | with_reducible exact Below.refl _ _ | with_reducible assumption | with_reducible refine up_alloc ?_ _ | with_reducible refine up_drew ?_ | with_reducible refine up_drewN ?_ _ | (with_reducible refine up_set ?_ ?hset _; case hset => first | (simp; done) | (simp; omega) | omega) | with_reducible refine up_trans ?_ (by with_reducible assumption))))) (by simp) hn ?_; intro v2 w2 ho2 hb2)
  go_ret
  exact ⟨_, rfl, ho2.ownI, (below_alloc _ _).trans hb2⟩
end Go.Proofs.YtbfhfjpfjkdcfaaGreatDoor
namespace Go.Proofs.YtbfhfjpfjkdcfaaGreatDoor
open Go.RowKit Go.ChangeShapes Go.WideShapes

section
variable {H : Type} {enc : TypeId × Value → H} {P : Program} {w : World} {base : Nat} {spare : Nat → Bool} {held : Bool}
theorem args3 {t0 t1 t2 : TypeId} {args : Array Value} {ds : List (DataW H)} {ps : List MemPlace} (h : DataW.TrodAll enc P w base spare held [t0, t1, t2] args.toList ds ps) :
    ∃ v0 v1 v2 d0 d1 d2 p0 p1 p2, args = #[v0, v1, v2] ∧ DataW.Trod enc P w base spare held t0 v0 d0 p0 ∧ DataW.Trod enc P w base spare held t1 v1 d1 p1 ∧ DataW.Trod enc P w base spare held t2 v2 d2 p2 := by
  obtain ⟨v0, vs0, d0, ds0, p0, q0, hargs, rfl, rfl, h0, h⟩ := trodAll_cons h
  obtain ⟨v1, vs1, d1, ds1, p1, q1, rfl, rfl, rfl, h1, h⟩ := trodAll_cons h
  obtain ⟨v2, vs2, d2, ds2, p2, q2, rfl, rfl, rfl, h2, h⟩ := trodAll_cons h
  obtain ⟨rfl, rfl, rfl⟩ := trodAll_nil h
  exact ⟨v0, v1, v2, d0, d1, d2, p0, p1, p2, by cases args; simp_all, h0, h1, h2⟩
theorem args4 {t0 t1 t2 t3 : TypeId} {args : Array Value} {ds : List (DataW H)} {ps : List MemPlace} (h : DataW.TrodAll enc P w base spare held [t0, t1, t2, t3] args.toList ds ps) :
    ∃ v0 v1 v2 v3 d0 d1 d2 d3 p0 p1 p2 p3, args = #[v0, v1, v2, v3] ∧ DataW.Trod enc P w base spare held t0 v0 d0 p0 ∧ DataW.Trod enc P w base spare held t1 v1 d1 p1 ∧ DataW.Trod enc P w base spare held t2 v2 d2 p2 ∧ DataW.Trod enc P w base spare held t3 v3 d3 p3 := by
  obtain ⟨v0, vs0, d0, ds0, p0, q0, hargs, rfl, rfl, h0, h⟩ := trodAll_cons h
  obtain ⟨v1, vs1, d1, ds1, p1, q1, rfl, rfl, rfl, h1, h⟩ := trodAll_cons h
  obtain ⟨v2, vs2, d2, ds2, p2, q2, rfl, rfl, rfl, h2, h⟩ := trodAll_cons h
  obtain ⟨v3, vs3, d3, ds3, p3, q3, rfl, rfl, rfl, h3, h⟩ := trodAll_cons h
  obtain ⟨rfl, rfl, rfl⟩ := trodAll_nil h
  exact ⟨v0, v1, v2, v3, d0, d1, d2, d3, p0, p1, p2, p3, by cases args; simp_all, h0, h1, h2, h3⟩
theorem args5 {t0 t1 t2 t3 t4 : TypeId} {args : Array Value} {ds : List (DataW H)} {ps : List MemPlace} (h : DataW.TrodAll enc P w base spare held [t0, t1, t2, t3, t4] args.toList ds ps) :
    ∃ v0 v1 v2 v3 v4 d0 d1 d2 d3 d4 p0 p1 p2 p3 p4, args = #[v0, v1, v2, v3, v4] ∧ DataW.Trod enc P w base spare held t0 v0 d0 p0 ∧ DataW.Trod enc P w base spare held t1 v1 d1 p1 ∧ DataW.Trod enc P w base spare held t2 v2 d2 p2 ∧ DataW.Trod enc P w base spare held t3 v3 d3 p3 ∧ DataW.Trod enc P w base spare held t4 v4 d4 p4 := by
  obtain ⟨v0, vs0, d0, ds0, p0, q0, hargs, rfl, rfl, h0, h⟩ := trodAll_cons h
  obtain ⟨v1, vs1, d1, ds1, p1, q1, rfl, rfl, rfl, h1, h⟩ := trodAll_cons h
  obtain ⟨v2, vs2, d2, ds2, p2, q2, rfl, rfl, rfl, h2, h⟩ := trodAll_cons h
  obtain ⟨v3, vs3, d3, ds3, p3, q3, rfl, rfl, rfl, h3, h⟩ := trodAll_cons h
  obtain ⟨v4, vs4, d4, ds4, p4, q4, rfl, rfl, rfl, h4, h⟩ := trodAll_cons h
  obtain ⟨rfl, rfl, rfl⟩ := trodAll_nil h
  exact ⟨v0, v1, v2, v3, v4, d0, d1, d2, d3, d4, p0, p1, p2, p3, p4, by cases args; simp_all, h0, h1, h2, h3, h4⟩
end
end Go.Proofs.YtbfhfjpfjkdcfaaGreatDoor

namespace Go.Proofs.YtbfhfjpfjkdcfaaGreatDoor
open Go.RowKit Go.ChangeShapes Go.WideShapes Go.Sort

section
variable {H : Type} {enc : TypeId × Value → H} {w : World} {base b0 : Nat} {sp : Nat → Bool} {held : Bool} {r : Reach} {v : Value} {d : DataW H} {p : List MemPlace}
set_option maxRecDepth 100000 in
theorem trod_ints {f : Nat} {c0 : Value} {y : DataW H × List MemPlace} (hf : DataW.trod enc Tryz.prog w base sp held f 30 [c0] = some y) : ∃ n X, Ints w c0 n X ∧ n ≤ 9223372036854775807 := by
  rcases Go.Deep.open_slice1 Tryz.underlying30 (by kernel_rfl) hf with ⟨hcs, _⟩ | ⟨a, len, cap, m, n, V, D, Pl, hcs, _, hl, hm, hmm, _, hi⟩
  · simp only [List.cons.injEq, and_true] at hcs
    subst hcs
    exact ⟨0, fun _ => 0, ⟨_, _, rfl, Nat.le_refl _, fun h => absurd h (by omega)⟩, by omega⟩
  · simp only [List.cons.injEq, and_true] at hcs
    subst hcs
    have hlm : len ≤ m := by rw [hmm]; split <;> omega
    have key : ∀ i, ∃ q : Int, i < len → w.cell? (a.add i) = some (.int .i64 q) := fun i => by
      by_cases hil : i < len
      · obtain ⟨hc, ht⟩ := hi i (by omega)
        obtain ⟨x, e, _⟩ := DataW.trod_int Tryz.underlying3 ht
        simp only [List.cons.injEq, and_true] at e
        exact ⟨x, fun _ => by rw [hc, e]⟩
      · exact ⟨0, fun h => absurd h hil⟩
    obtain ⟨F, hF⟩ := Classical.axiomOfChoice key
    refine ⟨len, F, ⟨_, _, rfl, hl, fun hn => ⟨a.block, a.off, ?_, fun i hil => (cell_at (hF i hil)).1⟩⟩, by unfold maxLen at hm; omega⟩
    rw [← (cell_at (hF 0 hn)).2 rfl]
set_option maxRecDepth 100000 in
theorem open_intS (hv : Value.okWide Tryz.prog w r b0 30 v) (h : DataW.Trod enc Tryz.prog w base sp held 30 v d p) : ∃ n X, Ints w v n X ∧ n ≤ 9223372036854775807 := by
  obtain ⟨A, len, cap, rfl⟩ := okWide_slice Tryz.underlying30 hv
  obtain ⟨f, hf⟩ := h
  exact trod_ints (show DataW.trod enc Tryz.prog w base sp held f 30 [.slice A len cap] = some (d, p) from hf)
end
end Go.Proofs.YtbfhfjpfjkdcfaaGreatDoor
namespace Go.Proofs.YtbfhfjpfjkdcfaaGreatDoor
open Go.RowKit Go.ChangeShapes Go.WideShapes Go.Sort

section
variable {H : Type} {enc : TypeId × Value → H} {w : World} {base : Nat} {sp : Nat → Bool} {held : Bool} {r : _} {b0 : _} {v : Value} {d : DataW H} {p : List MemPlace}
set_option maxRecDepth 100000 in
theorem trod_bytes {f : Nat} {c0 : Value} {y : DataW H × List MemPlace} (hf : DataW.trod enc Tryz.prog w base sp held f 22 [c0] = some y) : ∃ n, Bytes w c0 n ∧ n ≤ 9223372036854775807 := by
  rcases Go.Deep.open_slice1 Tryz.underlying22 (by kernel_rfl) hf with ⟨hcs, _⟩ | ⟨a, len, cap, m, n, V, D, Pl, hcs, _, hl, hm, hmm, _, hi⟩
  · simp only [List.cons.injEq, and_true] at hcs
    subst hcs
    exact ⟨0, ⟨_, _, rfl, Nat.le_refl _, fun h => absurd h (by omega)⟩, by omega⟩
  · simp only [List.cons.injEq, and_true] at hcs
    subst hcs
    have hlm : len ≤ m := by rw [hmm]; split <;> omega
    have key : ∀ i, ∃ q : Int, i < len → w.cell? (a.add i) = some (.int .u8 q) ∧ 0 ≤ q ∧ q < 256 := fun i => by
      by_cases hil : i < len
      · obtain ⟨hc, ht⟩ := hi i (by omega)
        obtain ⟨x, e, _, hw⟩ := DataW.trod_int Tryz.underlying5 ht
        simp only [List.cons.injEq, and_true] at e
        exact ⟨x, fun _ => ⟨by rw [hc, e], by simp only [Lit.wf, Bool.and_eq_true, decide_eq_true_eq, show IntKind.u8.min = 0 from rfl, show IntKind.u8.max = 255 from rfl] at hw; omega⟩⟩
      · exact ⟨0, fun h => absurd h hil⟩
    obtain ⟨F, hF⟩ := Classical.axiomOfChoice key
    refine ⟨len, ⟨_, _, rfl, hl, fun hn => ⟨a.block, a.off, F, ?_, ?_, fun i hil => ⟨(cell_at (hF i hil).1).1, (hF i hil).2⟩⟩⟩, by unfold maxLen at hm; omega⟩
    · rw [← (cell_at (hF 0 hn).1).2 rfl]
    · exact lt_of_cell (cell_at (hF 0 hn).1).1
set_option maxRecDepth 100000 in
theorem open_bytes (hv : Value.okWide Tryz.prog w r b0 22 v) (h : DataW.Trod enc Tryz.prog w base sp held 22 v d p) : ∃ n, Bytes w v n ∧ n ≤ 9223372036854775807 := by
  obtain ⟨A, len, cap, rfl⟩ := okWide_slice Tryz.underlying22 hv
  obtain ⟨f, hf⟩ := h
  exact trod_bytes (show DataW.trod enc Tryz.prog w base sp held f 22 [.slice A len cap] = some (d, p) from hf)
end
end Go.Proofs.YtbfhfjpfjkdcfaaGreatDoor
namespace Go.Proofs.YtbfhfjpfjkdcfaaGreatDoor
open Go.RowKit Go.Sort

/-- Returned: n spots in new memory, and a Bool. -/
def AnsSB (w : World) (n : Nat) (X Y : Nat → Int) (q : Bool) (e : Ending) (w' : World) : Prop := ∃ v, e = .returned (.tuple #[v, .bool q]) ∧ OwnS w.heap.size w' v n X Y ∧ Below w.heap.size w w'
theorem AnsSB.nil {w w' : World} {X Y : Nat → Int} (hb : Below w.heap.size w w') : AnsSB w 0 X Y false (.returned (.tuple #[.slice none 0 0, .bool false])) w' := ⟨_, rfl, ⟨_, _, rfl, Nat.le_refl _, fun h => absurd h (by omega)⟩, hb⟩
def sel (q : Bool) (n : Nat) : Nat := if q then n else 0
theorem sel_le (q : Bool) (n : Nat) : sel q n ≤ n := by unfold sel; split <;> omega
/-- The list if q, else nil. -/
def selV (q : Bool) (v : Value) : Value := if q then v else .slice none 0 0
theorem selV_own {base : Nat} {w : World} {v : Value} {n : Nat} {X Y : Nat → Int} (q : Bool) (h : OwnS base w v n X Y) : OwnS base w (selV q v) (sel q n) X Y := by
  cases q with
  | true => exact h
  | false => exact ⟨_, _, rfl, Nat.le_refl _, fun h => absurd h (by simp [sel])⟩
theorem AnsSB.sel {w w' : World} {v : Value} {n : Nat} {X Y : Nat → Int} {q : Bool} (h : OwnS w.heap.size w' v n X Y) (hb : Below w.heap.size w w') : AnsSB w (sel q n) X Y q (.returned (.tuple #[selV q v, .bool q])) w' := ⟨_, rfl, selV_own q h, hb⟩
set_option maxHeartbeats 400000 in
theorem asForm_g (v : Value) (n : Nat) (X Y : Nat → Int) (w : World) (h : Spots w v n X Y) (hn : n ≤ 9223372036854775807) :
    Calls Tryz.prog 39 #[v] w (Ans w (.tuple #[selV (chartB n X Y) v, .bool (chartB n X Y)])) := by
  have HC := Lib.hid (isChart_g v n X Y w h hn)
  clear h
  generalize chartB n X Y = q at *
  cases q <;> (
    go_enter Tryz.func39, Tryz.ntmps39
    go_wp2_with ((go_at_call 18; refine (HC.out).mono ?_; rintro e w1 ⟨rfl, hb⟩))
    go_ret2
    exact ⟨rfl, by (repeat (first | with_reducible exact Below.refl _ _ | with_reducible assumption | with_reducible refine up_alloc ?_ _ | with_reducible refine up_drew ?_ | with_reducible refine up_drewN ?_ _ | (with_reducible refine up_set ?_ ?hset _; case hset => first | (simp; done) | (simp; omega) | omega) | with_reducible refine up_trans ?_ (by with_reducible assumption)))⟩)
end Go.Proofs.YtbfhfjpfjkdcfaaGreatDoor
namespace Go.Proofs.YtbfhfjpfjkdcfaaGreatDoor
open Go.RowKit

set_option maxRecDepth 100000 in
theorem wpList_app_spot_e {ops : Array Oper} {rest : List Oper} {o : Oper} {a : Act} {Q : Exit → Act → World → Prop} {w : World} (hgd : o.guard = none) (s x : Operand)
    (ho : o.op = .call { callee := .builtin .append, args := #[s, x], argTypes := #[24, 24] })
    (base : Nat) (v : Value) (n : Nat) (X Y : Nat → Int) {g : Nat} (hs : a.eval s = v) (hx : a.eval x = .slice (some ⟨g, 0, none⟩) 1 1) (hg : g = w.heap.size) (hown : OwnR base w v n X Y) (hbase : base ≤ w.heap.size) (hn : n ≤ 1048576)
    {p q : Int} (hp : X n = p) (hq : Y n = q)
    (h : ∀ v' w', OwnR base w' v' (n + 1) X Y → Below base w w' → wpList Tryz.prog ops Q rest (a.put o.dst v') w') :
    wpList Tryz.prog ops Q (o :: rest) a (w.alloc (.cells #[.int .i64 p, .int .i64 q] 42)) := by
  subst hp hq
  exact wpList_app_spot hgd s x ho base v n X Y hs hx hg hown hbase hn h

set_option maxRecDepth 100000 in
/-- 'out = append(out, Spot{p, q}, Spot{p', q'})'. -/
theorem wpList_app_two {ops : Array Oper} {rest : List Oper} {o : Oper} {a : Act} {Q : Exit → Act → World → Prop} {w : World} (hgd : o.guard = none) (s x : Operand)
    (ho : o.op = .call { callee := .builtin .append, args := #[s, x], argTypes := #[24, 24] })
    (base : Nat) (v : Value) (n : Nat) (X Y : Nat → Int) {g : Nat} (hs : a.eval s = v) (hx : a.eval x = .slice (some ⟨g, 0, none⟩) 2 2) (hg : g = w.heap.size) (hown : OwnR base w v n X Y) (hbase : base ≤ w.heap.size) (hn : n ≤ 1048576)
    {p q p' q' : Int} (hp : X n = p) (hq : Y n = q) (hp' : X (n + 1) = p') (hq' : Y (n + 1) = q')
    (h : ∀ v' w', OwnR base w' v' (n + 2) X Y → Below base w w' → wpList Tryz.prog ops Q rest (a.put o.dst v') w') :
    wpList Tryz.prog ops Q (o :: rest) a (w.alloc (.cells #[.int .i64 p, .int .i64 q, .int .i64 p', .int .i64 q'] 42)) := by
  subst hp hq hp' hq' hg
  obtain ⟨i0, hi0, hz0, hz1, hz2⟩ := info_parts info_spotA
  refine wpList_append_own _ hgd s x _ ho base 42 i0 _ 2 16 Tryz.underlying24 hi0 hz0 hz1 hz2 rfl (by omega) v n _ hs (World.ownsRow.alloc hown _) ⟨w.heap.size, 0, none⟩ 2 2 [.int .i64 (X n), .int .i64 (Y n), .int .i64 (X (n + 1)), .int .i64 (Y (n + 1))] hx rfl ?_ ?_ (by unfold maxLen; omega) (by omega) (by simp; omega) ?_
  · intro j u hu
    have := cell_new4 w _ _ _ _ 42 j u hu
    rw [add_none, Nat.zero_add]
    exact this
  · intro u hu
    simp only [List.mem_cons, List.not_mem_nil, or_false] at hu
    rcases hu with rfl | rfl | rfl | rfl <;> rfl
  · intro v' w' hown' hg _
    refine h v' w' ?_ ?_
    · unfold OwnR
      rw [show n + 2 = n + 1 + 1 from rfl, cells2_succ, cells2_succ, List.append_assoc]
      exact hown'
    · exact ((below_alloc w _).mono hbase).trans (below_grown hg (by simp; omega) (fun k hk => (World.ownsRow.lt hown k hk).1))

set_option maxRecDepth 100000 in
/-- One spot in new memory, as a list. -/
theorem OwnR.one {base : Nat} {w : World} (hb : base ≤ w.heap.size) {X Y : Nat → Int} {p q : Int} (hp : X 0 = p) (hq : Y 0 = q) : OwnR base (w.alloc (.cells #[.int .i64 p, .int .i64 q] 42)) (.slice (some ⟨w.heap.size, 0, none⟩) 1 1) 1 X Y := by
  subst hp hq
  exact ⟨cells2_len _ _ _, .inr ⟨w.heap.size, 1, #[.int .i64 (X 0), .int .i64 (Y 0)], rfl, hb, heap_alloc_new w _, Nat.le_refl _, by unfold maxLen; omega, rfl, by simp [cells2]⟩⟩
set_option maxRecDepth 100000 in
/-- The first m of them. -/
theorem OwnS.take {base : Nat} {w : World} {A : Option Addr} {n c m : Nat} {X Y : Nat → Int} (h : OwnS base w (.slice A n c) n X Y) (hm : m ≤ n) : OwnS base w (.slice A m c) m X Y := by
  obtain ⟨A', c', e, hnc, hr⟩ := h
  cases e
  refine ⟨_, _, rfl, by omega, fun hm0 => ?_⟩
  obtain ⟨b, o, h1, h2, h3, h4⟩ := hr (by omega)
  exact ⟨b, o, h1, h2, h3, fun i hi => h4 i (by omega)⟩

set_option maxRecDepth 100000 in
/-- 'append(out, x)' wherever the one-element slice lies. -/
theorem run_app_one {w : World} (ty : TypeId) (base : Nat) (v : Value) (n : Nat) (X Y : Nat → Int) {g : Nat} {p q : Int} (hp : X n = p) (hq : Y n = q)
    (hc0 : w.cell? ⟨g, 0, none⟩ = some (.int .i64 p)) (hc1 : w.cell? ⟨g, 1, none⟩ = some (.int .i64 q)) (hown : OwnR base w v n X Y) (hbase : base ≤ w.heap.size) (hn : n ≤ 1048576) :
    ∃ v' w', (Builtin.append_ #[24, 24] ty #[v, .slice (some ⟨g, 0, none⟩) 1 1]).run Tryz.prog w = .ok v' w' ∧ OwnR base w' v' (n + 1) X Y ∧ Below base w w' ∧ w.grownBy w' v.ownBlock ∧ (v'.ownBlock = v.ownBlock ∨ v'.ownBlock = some w.heap.size) := by
  subst hp hq
  obtain ⟨i0, hi0, hz0, hz1, hz2⟩ := info_parts info_spotA
  obtain ⟨v', w', hr, h1, h2, _, h5⟩ := run_append_own_at (P := Tryz.prog) w base 24 ty 42 i0 _ 2 16 Tryz.underlying24 hi0 hz0 hz1 hz2 rfl (by omega) v n _ hown ⟨g, 0, none⟩ 1 1
    [.int .i64 (X n), .int .i64 (Y n)] rfl (by
      intro j u hu
      rw [add_none, Nat.zero_add]
      match j, hu with
      | 0, hu => simp only [List.getElem?_cons_zero, Option.some.injEq] at hu; subst hu; exact hc0
      | 1, hu => simp only [List.getElem?_cons_succ, List.getElem?_cons_zero, Option.some.injEq] at hu; subst hu; exact hc1) (by
      intro u hu
      simp only [List.mem_cons, List.not_mem_nil, or_false] at hu
      rcases hu with rfl | rfl <;> rfl) (by unfold maxLen; omega) (by omega) hbase
  exact ⟨v', w', hr, by unfold OwnR; rw [cells2_succ]; exact h1, below_grown h2 hbase (fun k hk => (World.ownsRow.lt hown k hk).1), h2, h5⟩
section
variable {ops : Array Oper} {rest : List Oper} {o : Oper} {a : Act} {w : World} {K : Act → World → Prop} {Q : Exit → Act → World → Prop} {E : Prop} (hgd : o.guard = none) (s x : Operand)
    (ho : o.op = .call { callee := .builtin .append, args := #[s, x], argTypes := #[24, 24] })
    (base : Nat) (v : Value) (n : Nat) (X Y : Nat → Int) {g : Nat} (hs : a.eval s = v) (hx : a.eval x = .slice (some ⟨g, 0, none⟩) 1 1)
    {p q : Int} (hp : X n = p) (hq : Y n = q) (hc0 : w.cell? ⟨g, 0, none⟩ = some (.int .i64 p)) (hc1 : w.cell? ⟨g, 1, none⟩ = some (.int .i64 q))
    (hown : OwnR base w v n X Y) (hbase : base ≤ w.heap.size) (hn : n ≤ 1048576)
include hgd ho hs hx hp hq hc0 hc1 hown hbase hn
/-- At a step of a region that draws its order; what was written is told. -/
theorem step_app_spot2
    (h : ∀ v' w', OwnR base w' v' (n + 1) X Y → Below base w w' → w.grownBy w' v.ownBlock → (v'.ownBlock = v.ownBlock ∨ v'.ownBlock = some w.heap.size) → K (a.put o.dst v') w') :
    if Region.wanted o (yielded ops a.tmps) = true then Oper.wp Tryz.prog o a w K Q else E := by
  have hw : Region.wanted o (yielded ops a.tmps) = true := by unfold Region.wanted; rw [hgd]
  rw [if_pos hw]
  obtain ⟨v', w', hr, h1, h2, h3, h4⟩ := run_app_one o.type base v n X Y hp hq hc0 hc1 hown hbase hn
  unfold Oper.wp execOp
  simp only [ho, resolve, invoke, builtin, Sem.run_bind, Sem.run_pure, Result.andThen_ok, List.map_toArray, List.map_cons, List.map_nil, hs, hx, hr]
  exact h _ _ h1 h2 h3 h4
theorem step_app_spot
    (h : ∀ v' w', OwnR base w' v' (n + 1) X Y → Below base w w' → K (a.put o.dst v') w') :
    if Region.wanted o (yielded ops a.tmps) = true then Oper.wp Tryz.prog o a w K Q else E :=
  step_app_spot2 hgd s x ho base v n X Y hs hx hp hq hc0 hc1 hown hbase hn (fun v' w' h1 h2 _ _ => h v' w' h1 h2)
/-- In a plain region. -/
theorem wpList_app_spot2
    (h : ∀ v' w', OwnR base w' v' (n + 1) X Y → Below base w w' → w.grownBy w' v.ownBlock → (v'.ownBlock = v.ownBlock ∨ v'.ownBlock = some w.heap.size) → wpList Tryz.prog ops Q rest (a.put o.dst v') w') :
    wpList Tryz.prog ops Q (o :: rest) a w := by
  obtain ⟨v', w', hr, h1, h2, h3, h4⟩ := run_app_one o.type base v n X Y hp hq hc0 hc1 hown hbase hn
  refine wpList_plain hgd fun _ hK => ?_
  unfold Oper.wp execOp
  simp only [ho, resolve, invoke, builtin, Sem.run_bind, Sem.run_pure, Result.andThen_ok, List.map_toArray, List.map_cons, List.map_nil, hs, hx, hr]
  exact hK _ _ (h _ _ h1 h2 h3 h4)
end
theorem OwnR.own_ne {base : Nat} {w : World} {v : Value} {n : Nat} {X Y : Nat → Int} (h : OwnR base w v n X Y) {b : Nat} (hb : w.heap.size ≤ b) : v.ownBlock ≠ some b := fun e => by
  have := (World.ownsRow.lt h b e).2
  omega
theorem OwnR.own_old {base : Nat} {w : World} {v : Value} {n : Nat} {X Y : Nat → Int} (h : OwnR base w v n X Y) {b : Nat} (hb : b < base) : v.ownBlock ≠ some b := fun e => by
  have := (World.ownsRow.lt h b e).1
  omega
theorem OwnR.shape {base : Nat} {w : World} {v : Value} {n : Nat} {X Y : Nat → Int} (h : OwnR base w v n X Y) : ∃ A c, v = .slice A n c ∧ n ≤ c ∧ c ≤ maxLen := by
  rcases h.2 with ⟨rfl, rfl⟩ | ⟨g, cap, cur, rfl, hb, hg, hnc, hm, _⟩
  · exact ⟨none, 0, rfl, Nat.le_refl _, by unfold maxLen; omega⟩
  · exact ⟨_, _, rfl, hnc, hm⟩
end Go.Proofs.YtbfhfjpfjkdcfaaGreatDoor
namespace Go.Proofs.YtbfhfjpfjkdcfaaGreatDoor
open Go.RowKit Go.ChangeShapes Go.WideShapes Go.Sort

/-- A digit. -/
def dB (k : Nat) : UInt8 := UInt8.ofNat (48 + k)
theorem l1_byte (W : World) (g c : Nat) (hc : 48 + c < 256) (h : W.cell? ⟨g, 0, none⟩ = some (.int .u8 ((48 + c : Nat) : Int))) : (convert 22 9 (.slice (some ⟨g, 0, none⟩) 1 1)).run Tryz.prog W = .ok (.string (bS [dB c])) W :=
  byte_str Tryz.underlying22 (by kernel_rfl) Tryz.underlying9 W g (48 + c) hc h
set_option maxRecDepth 100000 in
set_option maxHeartbeats 2000000 in
theorem l1Num_one (n : Nat) (hn : n < 10) (w : World) : Calls Tryz.prog 88 #[.int .i64 (n : Int)] w (Ans w (.string (bS (Lib.decDigits n)))) := by
  have HD := Lib.hid (show Lib.decDigits n = [dB n] from Lib.decDigits_one hn)
  have hw : IntKind.u8.wrap (48 + (n : Int)) = ((48 + n : Nat) : Int) := by rw [show (48 + (n : Int)) = ((48 + n : Nat) : Int) by omega]; exact IntWalk.u8_in _ (by omega)
  have hcv := l1_byte (w.alloc (.cells #[.int .u8 ((48 + n : Nat) : Int)] 5)) w.heap.size n (by omega) (cell_one_new w (.int .u8 ((48 + n : Nat) : Int)) _ 0 _ rfl)
  rw [show ((48 + n : Nat) : Int) = 48 + (n : Int) by omega] at hcv
  have jn : (n : Int) < 10 := by omega
  go_enter Tryz.func88, Tryz.ntmps88
  go_wp2
  go_ret
  rw [HD.out]
  exact ⟨rfl, below_alloc _ _⟩
set_option maxRecDepth 100000 in
set_option maxHeartbeats 4000000 in
theorem l1Num_s (n : Nat) : n ≤ 999 → ∀ w : World, Calls Tryz.prog 88 #[.int .i64 (n : Int)] w (Ans w (.string (bS (Lib.decDigits n)))) := by
  induction n using Nat.strongRecOn with
  | ind n ih =>
    intro hn w
    by_cases h1 : n < 10
    · exact l1Num_one n h1 w
    · have hst := dec_step h1
      have IH := ih (n / 10) (by omega) (by omega)
      have hl := dec_len (n := n / 10) (by omega)
      have hq : (n : Int).tdiv 10 = ((n / 10 : Nat) : Int) := by rw [Int.tdiv_eq_ediv_of_nonneg (by omega)]; rfl
      have hm : (n : Int).tmod 10 = ((n % 10 : Nat) : Int) := by rw [Int.tmod_eq_emod_of_nonneg (by omega)]; rfl
      have hq1 : n / 10 ≤ 99 := by omega
      have hm1 : n % 10 < 10 := by omega
      have jn : ¬ (n : Int) < 10 := by omega
      change Lib.decDigits n = Lib.decDigits (n / 10) ++ [dB (n % 10)] at hst
      generalize n / 10 = q at hst IH hl hq hq1
      generalize n % 10 = r at hst hm hm1
      replace IH := Lib.hid IH
      have HD := Lib.hid (show bS (Lib.decDigits n) = bS (Lib.decDigits q ++ [dB r]) from congrArg bS hst)
      have hcc : ∀ V : World, (convert 22 9 (.slice (some ⟨V.heap.size, 0, none⟩) 1 1)).run Tryz.prog (V.alloc (.cells #[.int .u8 (48 + (r : Int))] 5)) = .ok (.string (bS [dB r])) (V.alloc (.cells #[.int .u8 (48 + (r : Int))] 5)) := fun V => l1_byte _ V.heap.size r (by omega) (by rw [show ((48 + r : Nat) : Int) = 48 + (r : Int) by omega]; exact cell_one_new V _ _ 0 _ rfl)
      have had := add_bS (P := Tryz.prog) (Lib.decDigits q) [dB r] (by simp; omega)
      have hu : IntKind.u8.wrap (48 + (r : Int)) = 48 + (r : Int) := IntWalk.u8_in _ (by omega)
      have hs : IntKind.i64.wrap (48 + (r : Int)) = 48 + (r : Int) := IntWalk.i64_in _ (by omega)
      have hqw : IntKind.i64.wrap (q : Int) = (q : Int) := IntWalk.i64_in _ (by omega)
      have hrw : IntKind.i64.wrap (r : Int) = (r : Int) := IntWalk.i64_in _ (by omega)
      have HY := Lib.hid (show ∀ W : World, W.cell? ⟨w.heap.size, 0, none⟩ = some (.int .u8 (48 + (r : Int))) → (convert 22 9 (.slice (some ⟨w.heap.size, 0, none⟩) 1 1)).run Tryz.prog W = .ok (.string (bS [dB r])) W from fun W hW => l1_byte W w.heap.size r (by omega) (by rw [show ((48 + r : Nat) : Int) = 48 + (r : Int) by omega]; exact hW))
      have hcd : ∀ V : World, (convert 22 9 (.slice (some ⟨V.heap.size, 0, none⟩) 1 1)).run Tryz.prog (V.alloc (.cells #[.int .u8 (48 + (r : Int))] 5)).drew = .ok (.string (bS [dB r])) (V.alloc (.cells #[.int .u8 (48 + (r : Int))] 5)).drew := fun V => l1_byte _ V.heap.size r (by omega) (by rw [show ((48 + r : Nat) : Int) = 48 + (r : Int) by omega]; exact cell_one_new V _ _ 0 _ rfl)
      clear hn hl ih hst hq1 hm1
      go_enter Tryz.func88, Tryz.ntmps88
      go_wp2_with fail
      go_region_with (first
        | (go_at_call 88; (refine (IH.out _).mono ?_); rintro e w6 ⟨rfl, hb6⟩; have y1 : (convert 22 9 (.slice (some ⟨w.heap.size, 0, none⟩) 1 1)).run Tryz.prog w6 = .ok (.string (bS [dB r])) w6 := HY.out w6 (up_keep hb6 (cell_one_new w (.int .u8 (48 + (r : Int))) 5 0 _ rfl)))
        | (go_at_call 88; (refine (IH.out _).mono ?_); rintro e w6 ⟨rfl, hb6⟩)
        )
      all_goals
        go_wp2_with fail
        go_ret
        rw [HD.out]
        exact ⟨rfl, by (repeat (first | with_reducible exact Below.refl _ _ | with_reducible assumption | with_reducible refine up_alloc ?_ _ | with_reducible refine up_drew ?_ | with_reducible refine up_drewN ?_ _ | (with_reducible refine up_set ?_ ?hset _; case hset => first | (simp; done) | (simp; omega) | omega) | with_reducible refine up_trans ?_ (by with_reducible assumption)))⟩
end Go.Proofs.YtbfhfjpfjkdcfaaGreatDoor
namespace Go.Proofs.YtbfhfjpfjkdcfaaGreatDoor
open Go.RowKit Go.ChangeShapes Go.WideShapes Go.Sort

set_option maxRecDepth 100000 in
set_option maxHeartbeats 4000000 in
theorem stPart_s (n : Nat) (hn : n ≤ 1280) (w : World) : Calls Tryz.prog 65 #[.int .i64 (n : Int)] w (Ans w (.string (bS (stpL n)))) := by
  have hq : (n : Int).tdiv 8 = ((n / 8 : Nat) : Int) := by rw [Int.tdiv_eq_ediv_of_nonneg (by omega)]; rfl
  have hm : (n : Int).tmod 8 = ((n % 8 : Nat) : Int) := by rw [Int.tmod_eq_emod_of_nonneg (by omega)]; rfl
  have hq2 : (n : Int) / 8 = ((n / 8 : Nat) : Int) := rfl
  have hm2 : (n : Int) % 8 = ((n % 8 : Nat) : Int) := rfl
  have hst : stpL n = if n % 8 = 0 then Lib.decDigits (n / 8) else Lib.decDigits (n / 8) ++ 43 :: Lib.decDigits (n % 8) := rfl
  have hq1 : n / 8 ≤ 160 := by omega
  have hm1 : n % 8 < 8 := by omega
  generalize n / 8 = q at hst hq hq2 hq1
  generalize n % 8 = r at hst hm hm2 hm1
  have A := Lib.hid (l1Num_s q (by omega))
  have B := Lib.hid (l1Num_s r (by omega))
  have lq := dec_len (n := q) (by omega)
  have lr := dec_len (n := r) (by omega)
  have hqw : IntKind.i64.wrap (q : Int) = (q : Int) := IntWalk.i64_in _ (by omega)
  have hrw : IntKind.i64.wrap (r : Int) = (r : Int) := IntWalk.i64_in _ (by omega)
  by_cases h0 : r = 0
  · subst h0
    have HD := Lib.hid (show bS (stpL n) = bS (Lib.decDigits q) from congrArg bS (by rw [hst, if_pos rfl]))
    clear hst hq1 hm1 lq lr hrw hn
    go_enter Tryz.func65, Tryz.ntmps65
    go_wp2_with ((go_at_call 88; refine (from0 (A.out _) (by first | exact hb0 | exact up_alloc hb0 _ | exact up_drew hb0 | exact up_drewN hb0 _ | exact Below.refl _ _)).mono ?_; rintro e w1 ⟨rfl, hb0⟩; obtain ⟨hc0, hf0⟩ := bcell hb0))
    go_ret
    rw [HD.out]
    exact ⟨rfl, by (repeat (first | with_reducible exact Below.refl _ _ | with_reducible assumption | with_reducible refine up_alloc ?_ _ | with_reducible refine up_drew ?_ | with_reducible refine up_drewN ?_ _ | (with_reducible refine up_set ?_ ?hset _; case hset => first | (simp; done) | (simp; omega) | omega) | with_reducible refine up_trans ?_ (by with_reducible assumption)))⟩
  · have jr : ¬ (r : Int) = 0 := by omega
    have HD := Lib.hid (show bS (stpL n) = bS (Lib.decDigits q ++ 43 :: Lib.decDigits r) from congrArg bS (by rw [hst, if_neg h0]))
    have h1 : ∀ w : World, (Op.stringOp .add (bS (Lib.decDigits q)) ⟨#[43]⟩).run Tryz.prog w = .ok (.string (bS (Lib.decDigits q ++ [43]))) w := add_bS (Lib.decDigits q) [43] (by simp; omega)
    have h2 : ∀ w : World, (Op.stringOp .add (bS (Lib.decDigits q ++ [43])) (bS (Lib.decDigits r))).run Tryz.prog w = .ok (.string (bS (Lib.decDigits q ++ [43] ++ Lib.decDigits r))) w := add_bS (Lib.decDigits q ++ [43]) (Lib.decDigits r) (by simp; omega)
    clear hst hq1 hm1 lq lr h0 hn
    go_enter Tryz.func65, Tryz.ntmps65
    go_wp2_with (go_at_call 88; first | ((with_reducible show Calls Tryz.prog _ #[.int .i64 (q : Int)] _ _); refine (A.out _).mono ?_; rintro e w1 ⟨rfl, hb1⟩) | ((with_reducible show Calls Tryz.prog _ #[.int .i64 (r : Int)] _ _); refine (B.out _).mono ?_; rintro e w2 ⟨rfl, hb2⟩))
    go_ret
    rw [HD.out]
    exact ⟨rfl, by (repeat (first | with_reducible exact Below.refl _ _ | with_reducible assumption | with_reducible refine up_alloc ?_ _ | with_reducible refine up_drew ?_ | with_reducible refine up_drewN ?_ _ | (with_reducible refine up_set ?_ ?hset _; case hset => first | (simp; done) | (simp; omega) | omega) | with_reducible refine up_trans ?_ (by with_reducible assumption)))⟩
set_option maxRecDepth 100000 in
set_option maxHeartbeats 4000000 in
theorem stText_s (x y : Nat) (hx : x ≤ 1280) (hy : y ≤ 1280) (w : World) : Calls Tryz.prog 50 #[.agg #[.int .i64 (x : Int), .int .i64 (y : Int)]] w (Ans w (.string (bS (spL x y)))) := by
  have A := Lib.hid (stPart_s x hx)
  have B := Lib.hid (stPart_s y hy)
  have lx := stp_len hx
  have ly := stp_len hy
  have HD := Lib.hid (show bS (spL x y) = bS (stpL x ++ 44 :: stpL y) from rfl)
  have h1 : ∀ w : World, (Op.stringOp .add (bS (stpL x)) ⟨#[44]⟩).run Tryz.prog w = .ok (.string (bS (stpL x ++ [44]))) w := add_bS (stpL x) [44] (by simp; omega)
  have h2 : ∀ w : World, (Op.stringOp .add (bS (stpL x ++ [44])) (bS (stpL y))).run Tryz.prog w = .ok (.string (bS (stpL x ++ [44] ++ stpL y))) w := add_bS (stpL x ++ [44]) (stpL y) (by simp; omega)
  clear lx ly hx hy
  go_enter Tryz.func50, Tryz.ntmps50
  go_wp2_with fail
  have hnew := cell_new2 w (.int .i64 (x : Int)) (.int .i64 (y : Int)) 42
  generalize hW : World.alloc _ _ = W at *
  have hb0 : Below w.heap.size w W := by subst hW; (repeat (first | with_reducible exact Below.refl _ _ | with_reducible assumption | with_reducible refine up_alloc ?_ _ | with_reducible refine up_drew ?_ | with_reducible refine up_drewN ?_ _ | (with_reducible refine up_set ?_ ?hset _; case hset => first | (simp; done) | (simp; omega) | omega) | with_reducible refine up_trans ?_ (by with_reducible assumption)))
  clear hW
  obtain ⟨g0, g1⟩ := hnew
  go_region_held3 (fun w' => w'.cell? ⟨w.heap.size, 0, none⟩ = some (.int .i64 (x : Int)) ∧ w'.cell? ⟨w.heap.size, 1, none⟩ = some (.int .i64 (y : Int)))
    (first | exact ⟨by assumption, by assumption⟩ | go_keep) (first
    | (go_at_call 65; (with_reducible refine (A.out _).mono ?_); rintro e wa ⟨rfl, hba⟩; have y0 := up_keep (show Below W.heap.size W wa from (by (repeat (first | with_reducible exact Below.refl _ _ | with_reducible assumption | with_reducible refine up_alloc ?_ _ | with_reducible refine up_drew ?_ | with_reducible refine up_drewN ?_ _ | (with_reducible refine up_set ?_ ?hset _; case hset => first | (simp; done) | (simp; omega) | omega) | with_reducible refine up_trans ?_ (by with_reducible assumption))))) g0; have y1 := up_keep (show Below W.heap.size W wa from (by (repeat (first | with_reducible exact Below.refl _ _ | with_reducible assumption | with_reducible refine up_alloc ?_ _ | with_reducible refine up_drew ?_ | with_reducible refine up_drewN ?_ _ | (with_reducible refine up_set ?_ ?hset _; case hset => first | (simp; done) | (simp; omega) | omega) | with_reducible refine up_trans ?_ (by with_reducible assumption))))) g1)
    | (go_at_call 65; (with_reducible refine (B.out _).mono ?_); rintro e wb ⟨rfl, hbb⟩; have y0 := up_keep (show Below W.heap.size W wb from (by (repeat (first | with_reducible exact Below.refl _ _ | with_reducible assumption | with_reducible refine up_alloc ?_ _ | with_reducible refine up_drew ?_ | with_reducible refine up_drewN ?_ _ | (with_reducible refine up_set ?_ ?hset _; case hset => first | (simp; done) | (simp; omega) | omega) | with_reducible refine up_trans ?_ (by with_reducible assumption))))) g0; have y1 := up_keep (show Below W.heap.size W wb from (by (repeat (first | with_reducible exact Below.refl _ _ | with_reducible assumption | with_reducible refine up_alloc ?_ _ | with_reducible refine up_drew ?_ | with_reducible refine up_drewN ?_ _ | (with_reducible refine up_set ?_ ?hset _; case hset => first | (simp; done) | (simp; omega) | omega) | with_reducible refine up_trans ?_ (by with_reducible assumption))))) g1)
    | fail)
  all_goals
    go_wp2_with fail
    go_ret
    rw [HD.out]
    exact ⟨rfl, by (repeat (first | with_reducible exact Below.refl _ _ | with_reducible assumption | with_reducible refine up_alloc ?_ _ | with_reducible refine up_drew ?_ | with_reducible refine up_drewN ?_ _ | (with_reducible refine up_set ?_ ?hset _; case hset => first | (simp; done) | (simp; omega) | omega) | with_reducible refine up_trans ?_ (by with_reducible assumption)))⟩
set_option maxRecDepth 100000 in
set_option maxHeartbeats 4000000 in
theorem chText_s (v : Value) (n : Nat) (X Y : Nat → Int) (w : World) (h : Spots w v n X Y) (hn : n ≤ 12) (hs : ∀ i, i < n → (0 ≤ X i ∧ X i ≤ 1280) ∧ 0 ≤ Y i ∧ Y i ≤ 672) :
    Calls Tryz.prog 26 #[v] w (Ans w (.string (bS (txL X Y n)))) := by
  obtain ⟨A, c, rfl, hnc, hrow⟩ := h
  go_enter Tryz.func26, Tryz.ntmps26
  go_wp2_with fail
  go_loopw [3, 8] (fun s i wr => ∃ k : Nat, k ≤ n ∧ s = .string (bS (txL X Y k)) ∧ i = .int .i64 k ∧ Below w.heap.size w wr) (fun _ i _ => n - (intOf i).toNat)
  case atStart => exact ⟨0, by omega, rfl, rfl, Below.refl _ _⟩
  case round =>
    obtain ⟨k, hk, rfl, rfl, hb⟩ := hrel
    by_cases hlt : k < n
    · obtain ⟨b, o, rfl, hr⟩ := hrow (by omega)
      have hsk := hs k hlt
      obtain ⟨x, hx⟩ : ∃ x : Nat, X k = (x : Int) := ⟨(X k).toNat, by omega⟩
      obtain ⟨y, hy⟩ : ∃ y : Nat, Y k = (y : Int) := ⟨(Y k).toNat, by omega⟩
      have c1 := up_keep hb (hr k hlt).1
      have c2 := up_keep hb (hr k hlt).2
      rw [hx] at c1
      rw [hy] at c2
      have hx1 : x ≤ 1280 := by omega
      have hy1 : y ≤ 1280 := by omega
      have hl1 := sp_len hx1 hy1
      have hl2 := tx_len (X := X) (Y := Y) (n := k) (fun i hi => hs i (by omega))
      have HT := Lib.hid (stText_s x y hx1 hy1)
      have HD := Lib.hid (show txL X Y (k + 1) = txL X Y k ++ (spL x y ++ [10]) by simp only [txL, hx, hy]; rfl)
      have hkc : k ≤ c := by omega
      have h1 : ∀ w : World, (Op.stringOp .add (bS (spL x y)) ⟨#[10]⟩).run Tryz.prog w = .ok (.string (bS (spL x y ++ [10]))) w := add_bS (spL x y) [10] (by simp; omega)
      have h2 : ∀ w : World, (Op.stringOp .add (bS (txL X Y k)) (bS (spL x y ++ [10]))).run Tryz.prog w = .ok (.string (bS (txL X Y k ++ (spL x y ++ [10])))) w := add_bS (txL X Y k) (spL x y ++ [10]) (by simp; omega)
      clear hr hrow hs hsk hx hy hx1 hy1 hl1 hl2
      go_wp2_with ((go_at_call 50; refine (from0 (HT.out _) (by first | exact hb0 | exact up_alloc hb0 _ | exact up_drew hb0 | exact up_drewN hb0 _ | exact Below.refl _ _)).mono ?_; rintro e w1 ⟨rfl, hb0⟩; obtain ⟨hc0, hf0⟩ := bcell hb0))
      go_roundw
      case rel => exact ⟨k + 1, by omega, by rw [HD.out], by go_num, by (repeat (first | with_reducible exact Below.refl _ _ | with_reducible assumption | with_reducible refine up_alloc ?_ _ | with_reducible refine up_drew ?_ | with_reducible refine up_drewN ?_ _ | (with_reducible refine up_set ?_ ?hset _; case hset => first | (simp; done) | (simp; omega) | omega) | with_reducible refine up_trans ?_ (by with_reducible assumption)))⟩
      case measure => simp [intOf]; omega
    · have e : k = n := by omega
      subst e
      go_wp2_with fail
      go_ret
      exact ⟨rfl, hb⟩
set_option maxRecDepth 100000 in
set_option maxHeartbeats 2000000 in
theorem specChartText_s (v : Value) (n : Nat) (X Y : Nat → Int) (w : World) (h : Spots w v n X Y) (hn : n ≤ 9223372036854775807) :
    Calls Tryz.prog 7 #[v] w (Ans w (.tuple #[.string (bS (if chartB n X Y = true then txL X Y n else [])), .bool (chartB n X Y)])) := by
  have HG := Lib.hid (chGood_g v n X Y w h hn)
  cases hc : chartB n X Y with
  | false =>
    rw [hc] at HG
    have HD := Lib.hid (show bS (if false = true then txL X Y n else []) = ⟨#[]⟩ from rfl)
    rw [HD.out]
    clear hc HD h
    go_enter Tryz.func7, Tryz.ntmps7
    go_wp2_with ((go_at_call 25; refine (from0 (HG.out) (by first | exact hb0 | exact up_alloc hb0 _ | exact up_drew hb0 | exact up_drewN hb0 _ | exact Below.refl _ _)).mono ?_; rintro e w1 ⟨rfl, hb0⟩; obtain ⟨hc0, hf0⟩ := bcell hb0))
    go_ret2
    exact ⟨rfl, by (repeat (first | with_reducible exact Below.refl _ _ | with_reducible assumption | with_reducible refine up_alloc ?_ _ | with_reducible refine up_drew ?_ | with_reducible refine up_drewN ?_ _ | (with_reducible refine up_set ?_ ?hset _; case hset => first | (simp; done) | (simp; omega) | omega) | with_reducible refine up_trans ?_ (by with_reducible assumption)))⟩
  | true =>
    obtain ⟨⟨_, h12⟩, hsp, _⟩ := chartB_iff.1 hc
    rw [hc] at HG
    have HT := Lib.hid (fun (W : World) (hW : Below w.heap.size w W) => chText_s v n X Y W (h.up hW) h12 (fun i hi => by have := spotB_iff.1 (hsp i hi); exact this))
    have HD := Lib.hid (show bS (if true = true then txL X Y n else []) = bS (txL X Y n) from rfl)
    rw [HD.out]
    clear hc HD h hsp h12
    go_enter Tryz.func7, Tryz.ntmps7
    go_wp2_with (first | (go_at_call 25; (refine (HG.out).mono ?_); rintro e w1 ⟨rfl, hb1⟩) | (go_at_call 26; (refine (HT.out _ (by (repeat (first | with_reducible exact Below.refl _ _ | with_reducible assumption | with_reducible refine up_alloc ?_ _ | with_reducible refine up_drew ?_ | with_reducible refine up_drewN ?_ _ | (with_reducible refine up_set ?_ ?hset _; case hset => first | (simp; done) | (simp; omega) | omega) | with_reducible refine up_trans ?_ (by with_reducible assumption))))).mono ?_); rintro e w2 ⟨rfl, hb2⟩))
    go_ret2
    exact ⟨rfl, by (repeat (first | with_reducible exact Below.refl _ _ | with_reducible assumption | with_reducible refine up_alloc ?_ _ | with_reducible refine up_drew ?_ | with_reducible refine up_drewN ?_ _ | (with_reducible refine up_set ?_ ?hset _; case hset => first | (simp; done) | (simp; omega) | omega) | with_reducible refine up_trans ?_ (by with_reducible assumption)))⟩
end Go.Proofs.YtbfhfjpfjkdcfaaGreatDoor
