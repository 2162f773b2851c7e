/-
  The reference's draws of charts.
-/
import Derived.Test.YtljbcfgecbonnaaRows
import Derived.Test.YtljbcfgecbonnaaBase
import Derived.Test.YtljbcfgecbonnaaSpot
import Derived.Test.YtljbcfgecbonnaaSlice
import Derived.Test.YtljbcfgecbonnaaLawS
import Derived.Test.YtljbcfgecbonnaaMark
import Derived.Test.YtljbcfgecbonnaaInts
import Derived.Test.YtljbcfgecbonnaaIntsL
import Derived.Test.YtljbcfgecbonnaaTurned
import Derived.Test.YtljbcfgecbonnaaTrans
import Derived.BigQuiet
import Derived.Test.YtljbcfgecbonnaaCur
import Derived.Test.YtljbcfgecbonnaaDrawP
import Derived.Test.YtljbcfgecbonnaaOpen
import Derived.Test.YtljbcfgecbonnaaDrawV
import Derived.Test.YtljbcfgecbonnaaAppend
import Derived.Test.YtljbcfgecbonnaaAppendE
import Derived.Test.YtljbcfgecbonnaaSameForm
import Derived.Deep.LoopGhost
import Derived.Deep.Onto
import Derived.Deep.CutRange
import Derived.Deep.DeepCutAuto
import Derived.Deep.RegionHeld3
namespace Go.Proofs.Ytljbcfgecbonnaa
open Go.RowKit Go.ChangeShapes Go.WideShapes Go.Sort

/-- How many of the first m have a Y of t or more. -/
def cntG (Y : Nat → Int) (t : Int) : Nat → Nat
  | 0 => 0
  | m + 1 => cntG Y t m + if t ≤ Y m then 1 else 0
theorem cntG_le (Y : Nat → Int) (t : Int) : ∀ m, cntG Y t m ≤ m
  | 0 => Nat.le_refl _
  | m + 1 => by have := cntG_le Y t m; simp only [cntG]; split <;> omega
theorem cntG_succ (Y : Nat → Int) (t : Int) : ∀ m, cntG Y (t + 1) m ≤ cntG Y t m
  | 0 => Nat.le_refl _
  | m + 1 => by have := cntG_succ Y t m; simp only [cntG]; split <;> split <;> omega
theorem cntG_drop {Y : Nat → Int} {t : Int} : ∀ {m j : Nat}, j < m → Y j = t → cntG Y (t + 1) m < cntG Y t m
  | 0, _, h, _ => absurd h (by omega)
  | m + 1, j, h, e => by
    simp only [cntG]
    by_cases ej : j = m
    · subst ej
      have := cntG_succ Y t j
      rw [if_neg (by omega), if_pos (by omega)]
      omega
    · have := cntG_drop (m := m) (by omega) e
      split <;> split <;> omega
theorem cntG_cong {Y Y' : Nat → Int} {t : Int} : ∀ m, (∀ j, j < m → Y j = Y' j) → cntG Y t m = cntG Y' t m
  | 0, _ => rfl
  | m + 1, h => by simp only [cntG]; rw [cntG_cong m (fun j hj => h j (by omega)), h m (by omega)]
/-- The rounds to come: n spots wanted, m there, t tries. -/
def muC (n m t : Nat) (Y : Nat → Int) : Nat := (61 - t) * 30 + (n - m) + cntG Y (7 + (t : Int)) m
theorem OwnR.turn {base : Nat} {w w' : World} {v : Value} {n : Nat} {X Y : Nat → Int} (h : OwnR base w v n X Y) {p : Nat} (ht : Turned p (p + 1) w w') (hp : p < base) : OwnR base w' v n X Y :=
  World.ownsRow.kept (row := some p) h ⟨ht.os, ht.tape, ht.output, ht.size, fun k hk hne => ht.block k hk (by have : k ≠ p := fun e => hne (by rw [e]); omega)⟩ (by
    cases hv : v.ownBlock with
    | none => exact .inl rfl
    | some k => exact .inr (fun e => by have := (World.ownsRow.lt h k hv).1; injection e with e; omega))
theorem litc0 (W : World) (arr : Array Value) (t : TypeId) (i : Nat) (v : Value) (h : arr[i]? = some v) : (W.alloc (.cells arr t)).cell? ⟨W.heap.size, i, none⟩ = some v := by
  unfold World.cell?; rw [heap_alloc_new]; exact h
theorem litc1 (W : World) (o : Obj) (arr : Array Value) (t : TypeId) (i : Nat) (v : Value) (h : arr[i]? = some v) : ((W.alloc o).alloc (.cells arr t)).cell? ⟨W.heap.size + 1, i, none⟩ = some v := by
  have := litc0 (W.alloc o) arr t i v h
  rwa [World.size_alloc] at this
theorem litc2 (W : World) (o : Obj) (arr : Array Value) (t : TypeId) (i : Nat) (v : Value) (h : arr[i]? = some v) : ((W.alloc (.cells arr t)).alloc o).cell? ⟨W.heap.size, i, none⟩ = some v :=
  up_keep (below_alloc _ _) (litc0 W arr t i v h)
/-- What stands after stores into blocks from m on. -/
theorem OwnR.old {base m : Nat} {w w' : World} {v : Value} {n : Nat} {X Y : Nat → Int} (h : OwnR base w v n X Y) (hb : Below m w w') (hm : ∀ k, v.ownBlock = some k → k < m) : OwnR base w' v n X Y := by
  refine ⟨h.1, h.2.imp id ?_⟩
  rintro ⟨g, cap, cur, e, h1, h2, h3⟩
  exact ⟨g, cap, cur, e, h1, by rw [hb.block g (hm g (by rw [e]; rfl))]; exact h2, h3⟩
theorem OwnR.cong {base : Nat} {w : World} {v : Value} {n : Nat} {X Y X' Y' : Nat → Int} (h : OwnR base w v n X Y) (hx : ∀ i, i < n → X i = X' i) (hy : ∀ i, i < n → Y i = Y' i) : OwnR base w v n X' Y' := by
  unfold OwnR at *
  rw [← cells2_cong hx hy]; exact h
/-- Returned: n spots in new memory; beside it only the cursor has turned. -/
def AnsChart (w : World) (p K n : Nat) (e : Ending) (w' : World) : Prop := ∃ v X Y, e = .returned v ∧ OwnR w.heap.size w' v n X Y ∧ CurAt w' p K ∧ Turned p (p + 1) w w'
/-- Spots beside a cursor in a round: the box b has a spot. -/
structure BoxS (W w : World) (p K b : Nat) (q : Value) (m : Nat) (X Y : Nat → Int) : Prop where
  box : ∃ x y : Int, w.cell? ⟨b, 0, none⟩ = some (.int .i64 x) ∧ w.cell? ⟨b, 1, none⟩ = some (.int .i64 y)
  free : Free w b
  own : OwnR W.heap.size w q m X Y
  cur : CurAt w p K
  turn : Turned p (p + 1) W w
theorem BoxS.step {W w w' : World} {p K K' b : Nat} {q : Value} {m : Nat} {X Y : Nat → Int} (h : BoxS W w p K b q m X Y) (ht : Turned p (p + 1) w w') (hc : CurAt w' p K') (hpb : p < b) (hpw : p < W.heap.size) : BoxS W w' p K' b q m X Y := by
  obtain ⟨x, y, h0, h1⟩ := h.box
  exact ⟨⟨x, y, ht.cell h0 (by omega), ht.cell h1 (by omega)⟩, ht.free h.free (lt_of_cell h0) (by omega), h.own.turn ht hpw, hc, h.turn.trans ht⟩
theorem BoxS.more {W w : World} {p K K' b : Nat} {q : Value} {m : Nat} {X Y : Nat → Int} (h : BoxS W w p K b q m X Y) (hk : K ≤ K') : BoxS W w p K' b q m X Y := ⟨h.box, h.free, h.own, h.cur.more hk, h.turn⟩
/-- The box laid anew. -/
theorem BoxS.put {W w : World} {p K b : Nat} {q : Value} {m : Nat} {X Y : Nat → Int} (h : BoxS W w p K b q m X Y) (hq : ∀ k, q.ownBlock = some k → k < b) (hpb : p < b) (hWb : W.heap.size ≤ b) (x y : Int) :
    BoxS W ((w.setCell ⟨b, 0, none⟩ (.int .i64 x)).setCell ⟨b, 1, none⟩ (.int .i64 y)) p K b q m X Y ∧
    ((w.setCell ⟨b, 0, none⟩ (.int .i64 x)).setCell ⟨b, 1, none⟩ (.int .i64 y)).cell? ⟨b, 0, none⟩ = some (.int .i64 x) ∧ ((w.setCell ⟨b, 0, none⟩ (.int .i64 x)).setCell ⟨b, 1, none⟩ (.int .i64 y)).cell? ⟨b, 1, none⟩ = some (.int .i64 y) := by
  obtain ⟨x0, y0, h0, h1⟩ := h.box
  have q0 := (cell_set_ne (w.setCell ⟨b, 0, none⟩ (.int .i64 x)) b 1 (.int .i64 y) b 0 (by omega)).trans (cell_set_same w b 0 _ (.int .i64 x) h0)
  have q1 := cell_set_same (w.setCell ⟨b, 0, none⟩ (.int .i64 x)) b 1 _ (.int .i64 y) ((cell_set_ne w b 0 (.int .i64 x) b 1 (by omega)).trans h1)
  have hb : Below b w ((w.setCell ⟨b, 0, none⟩ (.int .i64 x)).setCell ⟨b, 1, none⟩ (.int .i64 y)) := ((Below.refl b w).setCell (p := ⟨b, 0, none⟩) (Nat.le_refl _) _).setCell (p := ⟨b, 1, none⟩) (Nat.le_refl _) _
  exact ⟨⟨⟨x, y, q0, q1⟩, (h.free.set _ _).set _ _, h.own.old hb hq, h.cur.below hb hpb, h.turn.far (hb.mono hWb)⟩, q0, q1⟩
set_option maxRecDepth 100000 in
set_option maxHeartbeats 8000000 in
theorem cur_chartOf (p K n : Nat) (w : World) (h : CurAt w p K) (hK : K ≤ 900000) (hn : n ≤ 13) :
    Calls Try.prog 149 #[.pointer (some ⟨p, 0, none⟩), .int .i64 n] w (AnsChart w p (K + 50000) n) := by
  have hpw := h.lt
  go_enter Try.func149, Try.ntmps149
  go_wp2_with fail
  go_loopg [5, 6] 1900 (fun gk q i wr => ∃ m t X Y, m ≤ n ∧ i = .int .i64 (t : Nat) ∧ OwnR w.heap.size wr q m X Y ∧ muC n m t Y ≤ gk ∧ t + gk ≤ 1900 ∧ CurAt wr p (K + 24 * t) ∧ Turned p (p + 1) w wr)
  case atStart => exact ⟨0, 0, fun _ => 0, fun _ => 0, by omega, rfl, OwnR.nil _ _ _ _, by simp only [muC, cntG]; omega, by omega, h.more (by omega), Turned.refl _ _ _⟩
  case round =>
    clear h
    obtain ⟨m, t, X, Y, hm, rfl, how, hmu, htg, hc, ht⟩ := hrel
    obtain ⟨A, c, e1, hmc⟩ := how.shape
    subst e1
    have HO := Lib.hid how
    have HMU := Lib.hid hmu
    have hlo := fun k hk => (World.ownsRow.lt how k hk)
    have hsw := ht.size
    have HLO := Lib.hid hlo
    clear how hmu hlo
    by_cases hlt : m < n
    · have j1 : (m : Int) < (n : Int) := by omega
      go_wp2_with fail
      refine (cur_spot p _ _ hc (by omega)).mono ?_
      rintro e w1 ⟨x, y, rfl, hc1, ht1⟩
      have hs1 := ht1.size
      have hqb : ∀ k, (Value.slice A m c).ownBlock = some k → k < w1.heap.size := fun k hk => by have := (HLO.out k hk).2; omega
      have hpb : p < w1.heap.size := by omega
      have hWb : w.heap.size ≤ w1.heap.size := by omega
      go_upto_region 6 with fail
      generalize hW : World.alloc w1 _ = W1 at *
      have hbV : Below w1.heap.size w1 W1 := by subst hW; exact below_alloc _ _
      have hB : BoxS w W1 p (K + 24 * t + 12) w1.heap.size (.slice A m c) m X Y := ⟨⟨x, y, by subst hW; simp [go_sem], by subst hW; simp [go_sem]⟩, by subst hW; intro o; simp [go_sem], (HO.out.turn ht1 hpw).up hbV, hc1.up hbV, (ht.trans ht1).trans (Turned.of_below hbV)⟩
      clear hW hbV
      go_cut [23] (fun s wx => ∃ bq : Bool, s = .bool bq ∧ (bq = true → 0 < m) ∧ BoxS w wx p (K + 24 * t + 14) w1.heap.size (.slice A m c) m X Y)
      case first =>
        by_cases hm0 : m = 0
        · subst hm0
          go_wp2_with fail
          go_meet
          exact ⟨false, rfl, (fun h => absurd h (by simp)), hB.more (by omega)⟩
        · have j2 : (m : Int) > 0 := by omega
          go_wp2_with fail
          refine (cur_one p _ 2 _ hB.cur (by omega) (by omega)).mono ?_
          rintro e w2 ⟨bq, rfl, hc2, ht2⟩
          go_wp2_with fail
          go_meet
          exact ⟨bq, rfl, fun _ => by omega, hB.step ht2 hc2 hpb hpw⟩
      case rest =>
      obtain ⟨bq, rfl, hbq, hB2⟩ := hcut
      obtain ⟨w2, rfl⟩ : ∃ W : World, W = wc := ⟨_, rfl⟩
      clear hB
      go_upto_if 23 with fail
      go_cut [8] (fun _ wx => BoxS w wx p (K + 24 * t + 20) w1.heap.size (.slice A m c) m X Y)
      case first =>
        cases bq with
        | false =>
          go_wp2_with fail
          go_meet
          exact hB2.more (by omega)
        | true =>
          have hm0 := hbq rfl
          have hB2h := Lib.hid hB2
          have hc2 := hB2.cur
          obtain ⟨A', c', e1, _, hrow⟩ := hB2.own.ownS.spots
          injection e1 with e1 _ e2
          subst e1
          subst e2
          obtain ⟨g, o, rfl, hr2⟩ := hrow (by omega)
          have HRow := Lib.hid hr2
          have hgp := (HLO.out g rfl)
          clear hrow hr2 hB2
          go_wp2_with fail
          refine (cur_pick p _ m _ hc2 (by omega) (by omega)).mono ?_
          rintro e w3 ⟨J, rfl, hJ, hc3, ht3⟩
          have hJm : J < m := by omega
          have jJ : (J : Int) < (m : Int) := by omega
          have c0 := ht3.cell (HRow.out J hJm).1 (by omega)
          have c1 := ht3.cell (HRow.out J hJm).2 (by omega)
          have hB3 := hB2h.out.step ht3 hc3 hpb hpw
          have HB3 := Lib.hid hB3
          obtain ⟨xb, yb, g0, g1⟩ := hB3.box
          have gf0 := hB3.free 0
          have gf1 := hB3.free 1
          have hsb : w1.heap.size < w3.heap.size := lt_of_cell g0
          have hl3 : p < w3.heap.size := hc3.lt
          clear hB3
          go_wp2_with fail
          generalize hW3 : World.alloc w3 _ = W3 at *
          have hb3 : Below w3.heap.size w3 W3 := by subst hW3; exact below_alloc _ _
          have d0 : W3.cell? ⟨w3.heap.size, 0, none⟩ = some (.int .i64 (X J)) := by subst hW3; simp [go_sem]
          have d1 : W3.cell? ⟨w3.heap.size, 1, none⟩ = some (.int .i64 (Y J)) := by subst hW3; simp [go_sem]
          have hlW : w3.heap.size < W3.heap.size := lt_of_cell d0
          replace g0 := up_keep hb3 g0
          replace g1 := up_keep hb3 g1
          have gfr : Free W3 w1.heap.size := HB3.out.free.up hsb hb3
          have hcW := hc3.up hb3
          have HBW := Lib.hid (HB3.out)
          clear hW3 c0 c1 gf0 gf1
          generalize X J = xj at *
          generalize Y J = yj at *
          have hc3 := hcW
          have hlW3 : p < W3.heap.size := hcW.lt
          go_region_held3 (fun w' => w'.cell? ⟨w3.heap.size, 0, none⟩ = some (.int .i64 xj) ∧ w'.cell? ⟨w3.heap.size, 1, none⟩ = some (.int .i64 yj))
            (first | exact ⟨by assumption, by assumption⟩ | (refine ⟨?_, ?_⟩ <;> (rw [cell_set_ne, cell_set_ne] <;> first | assumption | omega)) | go_keep) (first
            | (go_at_call 93; refine (l1Least_any _ _ _).mono ?_; rintro e wz ⟨rfl, rfl⟩)
            | (go_at_call 100; (with_reducible show Calls Try.prog _ #[_, .slice _ 4 4] _ _); (refine (cur_among p _ _ 4 0 24 _ (CurAt.up hc5 (show Below w5.heap.size w5 _ from (by (repeat (first | with_reducible exact Below.refl _ _ | with_reducible assumption | with_reducible refine up_alloc ?_ _ | with_reducible refine up_drew ?_ | with_reducible refine up_drewN ?_ _ | (with_reducible refine up_set ?_ ?hset _; case hset => first | (simp; done) | (simp; omega) | omega) | with_reducible refine up_trans ?_ (by with_reducible assumption)))))) (by omega) (by omega) (by omega) (by first | omega | (simp; omega) | exact Nat.lt_of_lt_of_le hlW5 (show Below w5.heap.size w5 _ from (by (repeat (first | with_reducible exact Below.refl _ _ | with_reducible assumption | with_reducible refine up_alloc ?_ _ | with_reducible refine up_drew ?_ | with_reducible refine up_drewN ?_ _ | (with_reducible refine up_set ?_ ?hset _; case hset => first | (simp; done) | (simp; omega) | omega) | with_reducible refine up_trans ?_ (by with_reducible assumption))))).size) (by intro i hi; match i, hi with | 0, _ => exact ⟨0, by first | (simp [go_sem]; done) | exact litc0 _ _ _ 0 _ rfl | exact litc1 _ _ _ _ 0 _ rfl | exact litc2 _ _ _ _ 0 _ rfl | exact ht5.cell (by first | (simp [go_sem]; done) | exact litc0 _ _ _ 0 _ rfl | exact litc1 _ _ _ _ 0 _ rfl | exact litc2 _ _ _ _ 0 _ rfl) (by first | omega | (simp; omega)), by omega, by omega⟩ | 1, _ => exact ⟨8, by first | (simp [go_sem]; done) | exact litc0 _ _ _ 1 _ rfl | exact litc1 _ _ _ _ 1 _ rfl | exact litc2 _ _ _ _ 1 _ rfl | exact ht5.cell (by first | (simp [go_sem]; done) | exact litc0 _ _ _ 1 _ rfl | exact litc1 _ _ _ _ 1 _ rfl | exact litc2 _ _ _ _ 1 _ rfl) (by first | omega | (simp; omega)), by omega, by omega⟩ | 2, _ => exact ⟨16, by first | (simp [go_sem]; done) | exact litc0 _ _ _ 2 _ rfl | exact litc1 _ _ _ _ 2 _ rfl | exact litc2 _ _ _ _ 2 _ rfl | exact ht5.cell (by first | (simp [go_sem]; done) | exact litc0 _ _ _ 2 _ rfl | exact litc1 _ _ _ _ 2 _ rfl | exact litc2 _ _ _ _ 2 _ rfl) (by first | omega | (simp; omega)), by omega, by omega⟩ | 3, _ => exact ⟨3, by first | (simp [go_sem]; done) | exact litc0 _ _ _ 3 _ rfl | exact litc1 _ _ _ _ 3 _ rfl | exact litc2 _ _ _ _ 3 _ rfl | exact ht5.cell (by first | (simp [go_sem]; done) | exact litc0 _ _ _ 3 _ rfl | exact litc1 _ _ _ _ 3 _ rfl | exact litc2 _ _ _ _ 3 _ rfl) (by first | omega | (simp; omega)), by omega, by omega⟩ | (q + 4), hi => omega)).mono ?_); rintro e w6 ⟨db, rfl, hdb, hc6, ht6⟩; have htB := htA.trans ((Turned.of_below (lo := p) (hi := p + 1) (show Below w5.heap.size w5 _ from (by (repeat (first | with_reducible exact Below.refl _ _ | with_reducible assumption | with_reducible refine up_alloc ?_ _ | with_reducible refine up_drew ?_ | with_reducible refine up_drewN ?_ _ | (with_reducible refine up_set ?_ ?hset _; case hset => first | (simp; done) | (simp; omega) | omega) | with_reducible refine up_trans ?_ (by with_reducible assumption)))))).trans ht6); have b0 := htB.cell d0 (by omega); have b1 := htB.cell d1 (by omega); have b2 := htB.cell g0 (by omega); have b3 := htB.cell g1 (by omega); have b4 := htB.free gfr (by omega) (by omega); have b5 := b4 0; have b6 := b4 1)
            | (go_at_call 100; (fail_if_success (have hh := hc5)); (with_reducible show Calls Try.prog _ #[_, .slice _ 5 5] _ _); (refine (cur_among p _ _ 5 0 24 _ (CurAt.up hcW (show Below W3.heap.size W3 _ from (by (repeat (first | with_reducible exact Below.refl _ _ | with_reducible assumption | with_reducible refine up_alloc ?_ _ | with_reducible refine up_drew ?_ | with_reducible refine up_drewN ?_ _ | (with_reducible refine up_set ?_ ?hset _; case hset => first | (simp; done) | (simp; omega) | omega) | with_reducible refine up_trans ?_ (by with_reducible assumption)))))) (by omega) (by omega) (by omega) (by first | omega | (simp; omega)) (by intro i hi; match i, hi with | 0, _ => exact ⟨0, by first | (simp [go_sem]; done) | exact litc0 _ _ _ 0 _ rfl | exact litc1 _ _ _ _ 0 _ rfl | exact litc2 _ _ _ _ 0 _ rfl, by omega, by omega⟩ | 1, _ => exact ⟨8, by first | (simp [go_sem]; done) | exact litc0 _ _ _ 1 _ rfl | exact litc1 _ _ _ _ 1 _ rfl | exact litc2 _ _ _ _ 1 _ rfl, by omega, by omega⟩ | 2, _ => exact ⟨16, by first | (simp [go_sem]; done) | exact litc0 _ _ _ 2 _ rfl | exact litc1 _ _ _ _ 2 _ rfl | exact litc2 _ _ _ _ 2 _ rfl, by omega, by omega⟩ | 3, _ => exact ⟨24, by first | (simp [go_sem]; done) | exact litc0 _ _ _ 3 _ rfl | exact litc1 _ _ _ _ 3 _ rfl | exact litc2 _ _ _ _ 3 _ rfl, by omega, by omega⟩ | 4, _ => exact ⟨5, by first | (simp [go_sem]; done) | exact litc0 _ _ _ 4 _ rfl | exact litc1 _ _ _ _ 4 _ rfl | exact litc2 _ _ _ _ 4 _ rfl, by omega, by omega⟩ | (q + 5), hi => omega)).mono ?_); rintro e w5 ⟨da, rfl, hda, hc5, ht5⟩; have htA := (Turned.of_below (lo := p) (hi := p + 1) (show Below W3.heap.size W3 _ from (by (repeat (first | with_reducible exact Below.refl _ _ | with_reducible assumption | with_reducible refine up_alloc ?_ _ | with_reducible refine up_drew ?_ | with_reducible refine up_drewN ?_ _ | (with_reducible refine up_set ?_ ?hset _; case hset => first | (simp; done) | (simp; omega) | omega) | with_reducible refine up_trans ?_ (by with_reducible assumption)))))).trans ht5; have a0 := htA.cell d0 (by omega); have a1 := htA.cell d1 (by omega); have a2 := htA.cell g0 (by omega); have a3 := htA.cell g1 (by omega); have a4 := htA.free gfr (by omega) (by omega); have a5 := a4 0; have a6 := a4 1; have hlW5 : p < w5.heap.size := hc5.lt)
            | fail)
          all_goals
            go_wp2_with fail
            go_meet
            have hB6 : BoxS w w6 p (K + 24 * t + 20) w1.heap.size _ m X Y := ((show BoxS w W3 p (K + 24 * t + 16) w1.heap.size _ m X Y from ⟨⟨xb, yb, g0, g1⟩, gfr, HB3.out.own.up hb3, hcW, HB3.out.turn.trans (Turned.of_below hb3)⟩).step htB hc6 hpb hpw).more (by omega)
            exact (hB6.put hqb hpb hWb _ _).1
      case rest =>
      have hB4 := hcut
      obtain ⟨w4, rfl⟩ : ∃ W : World, W = wc := ⟨_, rfl⟩
      clear hcut hB2
      go_upto_if 47 with fail
      go_cut [] (fun wx => ∃ x y : Int, wx.cell? ⟨w1.heap.size, 0, none⟩ = some (.int .i64 x) ∧ wx.cell? ⟨w1.heap.size, 1, none⟩ = some (.int .i64 y) ∧ (60 < t → y = 7 + (t : Int)) ∧ BoxS w wx p (K + 24 * t + 20) w1.heap.size (.slice A m c) m X Y)
      case first =>
        obtain ⟨x4, y4, g0, g1⟩ := hB4.box
        have gf0 := hB4.free 0
        have gf1 := hB4.free 1
        have HB4 := Lib.hid hB4
        clear hB4
        by_cases h60 : 60 < t
        · have j6 : (t : Int) > 60 := by omega
          go_wp2_with fail
          go_meet
          obtain ⟨hp1, hp2, hp3⟩ := HB4.out.put hqb hpb hWb (3 * (m : Int)) (7 + (t : Int))
          exact ⟨_, _, hp2, hp3, fun _ => rfl, hp1⟩
        · have j6 : ¬ (t : Int) > 60 := by omega
          go_wp2_with fail
          go_meet
          exact ⟨x4, y4, g0, g1, fun h => absurd h h60, HB4.out⟩
      case rest =>
      obtain ⟨x5, y5, g0, g1, h5, hB5⟩ := hcut
      obtain ⟨w5, rfl⟩ : ∃ W : World, W = wc := ⟨_, rfl⟩
      have HB5 := Lib.hid hB5
      have H5 := Lib.hid h5
      have HF := Lib.hid (chFind_any (.slice A m c) m X Y x5 y5 (by omega) w5 hB5.own.ownS.spots)
      have HFv := Lib.hid (hasB_find (fun i => same x5 y5 (X i) (Y i)) m)
      clear hB4 hB5 h5
      obtain ⟨fv, hfv⟩ : ∃ fv, findV (fun i => same x5 y5 (X i) (Y i)) m = fv := ⟨_, rfl⟩
      rw [hfv] at HF HFv
      clear hfv
      go_wp2_with fail
      refine HF.out.mono ?_
      rintro e w7 ⟨rfl, hb7⟩
      have g0 := up_keep hb7 g0
      have g1 := up_keep hb7 g1
      have hs5 := HB5.out.turn.size
      have HO7 := Lib.hid ((HB5.out.own.cong (X' := fun i => if i = m then x5 else X i) (Y' := fun i => if i = m then y5 else Y i) (fun i hi => by rw [if_neg (by omega)]) (fun i hi => by rw [if_neg (by omega)])).up hb7)
      have hs7 := hb7.size
      by_cases hf : fv < 0
      · have hmu : muC n (m + 1) (t + 1) (fun i => if i = m then y5 else Y i) < muC n m t Y := by
          have a1 := cntG_le (fun i => if i = m then y5 else Y i) (7 + ((t + 1 : Nat) : Int)) (m + 1)
          unfold muC
          by_cases h60 : 60 < t
          · have e5 := H5.out h60
            have a2 : cntG (fun i => if i = m then y5 else Y i) (7 + ((t + 1 : Nat) : Int)) (m + 1) = cntG Y (7 + (t : Int) + 1) m := by
              simp only [cntG, if_true]
              rw [if_neg (by omega), cntG_cong m (fun j hj => by rw [if_neg (by omega)])]
              rw [show 7 + ((t + 1 : Nat) : Int) = 7 + (t : Int) + 1 by omega]; rfl
            have a3 := cntG_succ Y (7 + (t : Int)) m
            omega
          · omega
        have HMu := Lib.hid hmu
        clear hmu
        go_wp2_with (at_builtin; refine wpList_app_spot2 rfl (.tmp 58) (.tmp 60) rfl w.heap.size _ m (fun i => if i = m then x5 else X i) (fun i => if i = m then y5 else Y i) rfl rfl (if_pos rfl) (if_pos rfl) (by simp [go_sem]) (by simp [go_sem]) (OwnR.up HO7.out (show Below w7.heap.size w7 _ from (by (repeat (first | with_reducible exact Below.refl _ _ | with_reducible assumption | with_reducible refine up_alloc ?_ _ | with_reducible refine up_drew ?_ | with_reducible refine up_drewN ?_ _ | (with_reducible refine up_set ?_ ?hset _; case hset => first | (simp; done) | (simp; omega) | omega) | with_reducible refine up_trans ?_ (by with_reducible assumption)))))) (Nat.le_trans (show w.heap.size ≤ w7.heap.size from by omega) (show Below w7.heap.size w7 _ from (by (repeat (first | with_reducible exact Below.refl _ _ | with_reducible assumption | with_reducible refine up_alloc ?_ _ | with_reducible refine up_drew ?_ | with_reducible refine up_drewN ?_ _ | (with_reducible refine up_set ?_ ?hset _; case hset => first | (simp; done) | (simp; omega) | omega) | with_reducible refine up_trans ?_ (by with_reducible assumption))))).size) (by omega) ?_; intro v8 w8 ho8 hb8 _ _; replace hb8 := (show Below w.heap.size w7 _ from ((show Below w7.heap.size w7 _ from (by (repeat (first | with_reducible exact Below.refl _ _ | with_reducible assumption | with_reducible refine up_alloc ?_ _ | with_reducible refine up_drew ?_ | with_reducible refine up_drewN ?_ _ | (with_reducible refine up_set ?_ ?hset _; case hset => first | (simp; done) | (simp; omega) | omega) | with_reducible refine up_trans ?_ (by with_reducible assumption))))).mono (by omega))).trans hb8)
        obtain ⟨A8, c8, e8, _⟩ := ho8.shape
        subst e8
        have hb58 := (hb7.mono hs5).trans hb8
        go_roundg (muC n (m + 1) (t + 1) (fun i => if i = m then y5 else Y i))
        case measure => have := HMU.out; have := HMu.out; omega
        case rel => exact ⟨m + 1, t + 1, _, _, by omega, by go_num, ho8, Nat.le_refl _, by have := HMU.out; have := HMu.out; omega, (HB5.out.cur.below hb58 hpw).more (by omega), HB5.out.turn.far hb58⟩
      · have hmu : muC n m (t + 1) Y < muC n m t Y := by
          have a1 := cntG_le Y (7 + ((t + 1 : Nat) : Int)) m
          unfold muC
          by_cases h60 : 60 < t
          · have e5 := H5.out h60
            have hh := HFv.out
            rw [decide_eq_true (show 0 ≤ fv by omega)] at hh
            have hh2 : ∃ j, j < m ∧ Y j = y5 := by
              by_cases q : ∃ j, j < m ∧ Y j = y5
              · exact q
              · exfalso
                unfold hasB at hh
                rw [show allB (fun i => !same x5 y5 (X i) (Y i)) m = true from allB_iff.2 fun i hi => by
                  have : ¬ Y i = y5 := fun e => q ⟨i, hi, e⟩
                  simp [same]; omega] at hh
                simp at hh
            obtain ⟨j, hj, ej⟩ := hh2
            have a2 := cntG_drop (Y := Y) (t := 7 + (t : Int)) hj (by omega)
            rw [show 7 + ((t + 1 : Nat) : Int) = 7 + (t : Int) + 1 by omega] at *
            omega
          · omega
        have HMu := Lib.hid hmu
        clear hmu
        have HO8 := Lib.hid (HB5.out.own.up hb7)
        go_wp2_with fail
        go_roundg (muC n m (t + 1) Y)
        case measure => have := HMU.out; have := HMu.out; omega
        case rel => exact ⟨m, t + 1, X, Y, by omega, by go_num, HO8.out, Nat.le_refl _, by have := HMU.out; have := HMu.out; omega, (HB5.out.cur.up hb7).more (by omega), HB5.out.turn.far (hb7.mono hs5)⟩
    · have e : m = n := by omega
      subst e
      go_wp2_with fail
      go_ret
      exact ⟨_, X, Y, rfl, HO.out, hc.more (by omega), ht⟩
def AnsCharts (w : World) (p K : Nat) (e : Ending) (w' : World) : Prop := ∃ v n X Y, n ≤ 13 ∧ e = .returned v ∧ OwnR w.heap.size w' v n X Y ∧ CurAt w' p K ∧ Turned p (p + 1) w w'
set_option maxRecDepth 100000 in
theorem cur_chart (p K : Nat) (w : World) (h : CurAt w p K) (hK : K ≤ 800000) :
    Calls Try.prog 148 #[.pointer (some ⟨p, 0, none⟩)] w (fun e w' => ∃ v n X Y, 0 < n ∧ n ≤ 12 ∧ e = .returned v ∧ OwnR w.heap.size w' v n X Y ∧ CurAt w' p (K + 50010) ∧ Turned p (p + 1) w w') := by
  have hpw := h.lt
  go_enter Try.func148, Try.ntmps148
  go_wp2_with fail
  refine (cur_one p K 20 _ h (by omega) (by omega)).mono ?_
  rintro e w1 ⟨q, rfl, hc1, ht1⟩
  have hs1 := ht1.size
  cases q with
  | true =>
    go_wp2_with fail
    refine (cur_chartOf p _ 12 _ hc1 (by omega) (by omega)).mono ?_
    rintro e w2 ⟨v, X, Y, rfl, ho, hc2, ht2⟩
    go_wp2_with fail
    go_ret
    exact ⟨_, 12, X, Y, by omega, by omega, rfl, World.ownsRow.mono ho hs1, hc2.more (by omega), ht1.trans ht2⟩
  | false =>
    go_wp2_with fail
    refine (cur_pick p _ 6 _ hc1 (by omega) (by omega)).mono ?_
    rintro e w2 ⟨a, rfl, ha, hc2, ht2⟩
    have hs2 := ht2.size
    go_wp2_with fail
    rw [show ((1 : Int) + (a : Int)) = ((1 + a : Nat) : Int) by omega]
    refine (cur_chartOf p _ (1 + a) _ hc2 (by omega) (by omega)).mono ?_
    rintro e w3 ⟨v, X, Y, rfl, ho, hc3, ht3⟩
    go_wp2_with fail
    go_ret
    exact ⟨_, 1 + a, X, Y, by omega, by omega, rfl, World.ownsRow.mono ho (by omega), hc3.more (by omega), (ht1.trans ht2).trans ht3⟩
end Go.Proofs.Ytljbcfgecbonnaa
