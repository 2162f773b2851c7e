/- Words and contracts, part 13. -/
import Derived.Test.YtbfhfjpfjkdcfaaGreatDoorRows
import Derived.BigQuiet
import Derived.Deep.LoopGhost
import Derived.Deep.Onto
import Derived.Deep.CutRange
import Derived.Deep.DeepCutAuto
import Derived.Deep.RegionHeld3
import Derived.Test.YtbfhfjpfjkdcfaaGreatDoorZ12
namespace Go.Proofs.YtbfhfjpfjkdcfaaGreatDoor
open Go.RowKit Go.ChangeShapes Go.WideShapes Go.Sort
/- 58 -/

/-- How many of the first m have a Y of t or more. -/
def cntG (Y : Nat → Int) (t : Int) : Nat → Nat
  | 0 => 0
  | m + 1 => cntG Y t m + if t ≤ Y m then 1 else 0
theorem cntG_le (Y : Nat → Int) (t : Int) : ∀ m, cntG Y t m ≤ m
  | 0 => Nat.le_refl _
  | m + 1 => by have := cntG_le Y t m; simp only [cntG]; split <;> omega
theorem cntG_succ (Y : Nat → Int) (t : Int) : ∀ m, cntG Y (t + 1) m ≤ cntG Y t m
  | 0 => Nat.le_refl _
  | m + 1 => by have := cntG_succ Y t m; simp only [cntG]; split <;> split <;> omega
theorem cntG_drop {Y : Nat → Int} {t : Int} : ∀ {m j : Nat}, j < m → Y j = t → cntG Y (t + 1) m < cntG Y t m
  | 0, _, h, _ => absurd h (by omega)
  | m + 1, j, h, e => by
    simp only [cntG]
    by_cases ej : j = m
    · subst ej
      have := cntG_succ Y t j
      rw [if_neg (by omega), if_pos (by omega)]
      omega
    · have := cntG_drop (m := m) (by omega) e
      split <;> split <;> omega
theorem cntG_cong {Y Y' : Nat → Int} {t : Int} : ∀ m, (∀ j, j < m → Y j = Y' j) → cntG Y t m = cntG Y' t m
  | 0, _ => rfl
  | m + 1, h => by simp only [cntG]; rw [cntG_cong m (fun j hj => h j (by omega)), h m (by omega)]
/-- The rounds to come: n spots wanted, m there, t tries. -/
def muC (n m t : Nat) (Y : Nat → Int) : Nat := (61 - t) * 30 + (n - m) + cntG Y (7 + (t : Int)) m
theorem OwnR.turn {base : Nat} {w w' : World} {v : Value} {n : Nat} {X Y : Nat → Int} (h : OwnR base w v n X Y) {p : Nat} (ht : Turned p (p + 1) w w') (hp : p < base) : OwnR base w' v n X Y :=
  World.ownsRow.kept (row := some p) h ⟨ht.os, ht.tape, ht.output, ht.size, fun k hk hne => ht.block k hk (by have : k ≠ p := fun e => hne (by rw [e]); omega)⟩ (by
    cases hv : v.ownBlock with
    | none => exact .inl rfl
    | some k => exact .inr (fun e => by have := (World.ownsRow.lt h k hv).1; injection e with e; omega))
theorem litc0 (W : World) (arr : Array Value) (t : TypeId) (i : Nat) (v : Value) (h : arr[i]? = some v) : (W.alloc (.cells arr t)).cell? ⟨W.heap.size, i, none⟩ = some v := by
  unfold World.cell?; rw [heap_alloc_new]; exact h
theorem litc1 (W : World) (o : Obj) (arr : Array Value) (t : TypeId) (i : Nat) (v : Value) (h : arr[i]? = some v) : ((W.alloc o).alloc (.cells arr t)).cell? ⟨W.heap.size + 1, i, none⟩ = some v := by
  have := litc0 (W.alloc o) arr t i v h
  rwa [World.size_alloc] at this
theorem litc2 (W : World) (o : Obj) (arr : Array Value) (t : TypeId) (i : Nat) (v : Value) (h : arr[i]? = some v) : ((W.alloc (.cells arr t)).alloc o).cell? ⟨W.heap.size, i, none⟩ = some v :=
  up_keep (below_alloc _ _) (litc0 W arr t i v h)
/- 58 -/
/-- What stands after stores into blocks from m on. -/
theorem OwnR.old {base m : Nat} {w w' : World} {v : Value} {n : Nat} {X Y : Nat → Int} (h : OwnR base w v n X Y) (hb : Below m w w') (hm : ∀ k, v.ownBlock = some k → k < m) : OwnR base w' v n X Y := by
  refine ⟨h.1, h.2.imp id ?_⟩
  rintro ⟨g, cap, cur, e, h1, h2, h3⟩
  exact ⟨g, cap, cur, e, h1, by rw [hb.block g (hm g (by rw [e]; rfl))]; exact h2, h3⟩
theorem OwnR.cong {base : Nat} {w : World} {v : Value} {n : Nat} {X Y X' Y' : Nat → Int} (h : OwnR base w v n X Y) (hx : ∀ i, i < n → X i = X' i) (hy : ∀ i, i < n → Y i = Y' i) : OwnR base w v n X' Y' := by
  unfold OwnR at *
  rw [← cells2_cong hx hy]; exact h
/-- Returned: n spots in new memory; beside it only the cursor has turned. -/
def AnsChart (w : World) (p K n : Nat) (e : Ending) (w' : World) : Prop := ∃ v X Y, e = .returned v ∧ OwnR w.heap.size w' v n X Y ∧ CurAt w' p K ∧ Turned p (p + 1) w w'
/-- Spots beside a cursor in a round: the box b has a spot. -/
structure BoxS (W w : World) (p K b : Nat) (q : Value) (m : Nat) (X Y : Nat → Int) : Prop where
  box : ∃ x y : Int, w.cell? ⟨b, 0, none⟩ = some (.int .i64 x) ∧ w.cell? ⟨b, 1, none⟩ = some (.int .i64 y)
  free : Free w b
  own : OwnR W.heap.size w q m X Y
  cur : CurAt w p K
  turn : Turned p (p + 1) W w
theorem BoxS.step {W w w' : World} {p K K' b : Nat} {q : Value} {m : Nat} {X Y : Nat → Int} (h : BoxS W w p K b q m X Y) (ht : Turned p (p + 1) w w') (hc : CurAt w' p K') (hpb : p < b) (hpw : p < W.heap.size) : BoxS W w' p K' b q m X Y := by
  obtain ⟨x, y, h0, h1⟩ := h.box
  exact ⟨⟨x, y, ht.cell h0 (by omega), ht.cell h1 (by omega)⟩, ht.free h.free (lt_of_cell h0) (by omega), h.own.turn ht hpw, hc, h.turn.trans ht⟩
theorem BoxS.more {W w : World} {p K K' b : Nat} {q : Value} {m : Nat} {X Y : Nat → Int} (h : BoxS W w p K b q m X Y) (hk : K ≤ K') : BoxS W w p K' b q m X Y := ⟨h.box, h.free, h.own, h.cur.more hk, h.turn⟩
/-- The box laid anew. -/
theorem BoxS.put {W w : World} {p K b : Nat} {q : Value} {m : Nat} {X Y : Nat → Int} (h : BoxS W w p K b q m X Y) (hq : ∀ k, q.ownBlock = some k → k < b) (hpb : p < b) (hWb : W.heap.size ≤ b) (x y : Int) :
    BoxS W ((w.setCell ⟨b, 0, none⟩ (.int .i64 x)).setCell ⟨b, 1, none⟩ (.int .i64 y)) p K b q m X Y ∧
    ((w.setCell ⟨b, 0, none⟩ (.int .i64 x)).setCell ⟨b, 1, none⟩ (.int .i64 y)).cell? ⟨b, 0, none⟩ = some (.int .i64 x) ∧ ((w.setCell ⟨b, 0, none⟩ (.int .i64 x)).setCell ⟨b, 1, none⟩ (.int .i64 y)).cell? ⟨b, 1, none⟩ = some (.int .i64 y) := by
  obtain ⟨x0, y0, h0, h1⟩ := h.box
  have q0 := (cell_set_ne (w.setCell ⟨b, 0, none⟩ (.int .i64 x)) b 1 (.int .i64 y) b 0 (by omega)).trans (cell_set_same w b 0 _ (.int .i64 x) h0)
  have q1 := cell_set_same (w.setCell ⟨b, 0, none⟩ (.int .i64 x)) b 1 _ (.int .i64 y) ((cell_set_ne w b 0 (.int .i64 x) b 1 (by omega)).trans h1)
  have hb : Below b w ((w.setCell ⟨b, 0, none⟩ (.int .i64 x)).setCell ⟨b, 1, none⟩ (.int .i64 y)) := ((Below.refl b w).setCell (p := ⟨b, 0, none⟩) (Nat.le_refl _) _).setCell (p := ⟨b, 1, none⟩) (Nat.le_refl _) _
  exact ⟨⟨⟨x, y, q0, q1⟩, (h.free.set _ _).set _ _, h.own.old hb hq, h.cur.below hb hpb, h.turn.far (hb.mono hWb)⟩, q0, q1⟩
set_option maxRecDepth 100000 in
set_option maxHeartbeats 8000000 in
theorem cur_chartOf (p K n : Nat) (w : World) (h : CurAt w p K) (hK : K ≤ 900000) (hn : n ≤ 13) :
    Calls Tryz.prog 58 #[.pointer (some ⟨p, 0, none⟩), .int .i64 n] w (AnsChart w p (K + 50000) n) := by
  have hpw := h.lt
  go_enter Tryz.func58, Tryz.ntmps58
  go_wp2_with fail
  go_loopg [5, 6] 1900 (fun gk q i wr => ∃ m t X Y, m ≤ n ∧ i = .int .i64 (t : Nat) ∧ OwnR w.heap.size wr q m X Y ∧ muC n m t Y ≤ gk ∧ t + gk ≤ 1900 ∧ CurAt wr p (K + 24 * t) ∧ Turned p (p + 1) w wr)
  case atStart => exact ⟨0, 0, fun _ => 0, fun _ => 0, by omega, rfl, OwnR.nil _ _ _ _, by simp only [muC, cntG]; omega, by omega, h.more (by omega), Turned.refl _ _ _⟩
  case round =>
    clear h
    obtain ⟨m, t, X, Y, hm, rfl, how, hmu, htg, hc, ht⟩ := hrel
    obtain ⟨A, c, e1, hmc⟩ := how.shape
    subst e1
    have HO := Lib.hid how
    have HMU := Lib.hid hmu
    have hlo := fun k hk => (World.ownsRow.lt how k hk)
    have hsw := ht.size
    have HLO := Lib.hid hlo
    clear how hmu hlo
    by_cases hlt : m < n
    · have j1 : (m : Int) < (n : Int) := by omega
      go_wp2_with fail
      refine (cur_spot p _ _ hc (by omega)).mono ?_
      rintro e w1 ⟨x, y, rfl, hc1, ht1⟩
      have hs1 := ht1.size
      have hqb : ∀ k, (Value.slice A m c).ownBlock = some k → k < w1.heap.size := fun k hk => by have := (HLO.out k hk).2; omega
      have hpb : p < w1.heap.size := by omega
      have hWb : w.heap.size ≤ w1.heap.size := by omega
      go_upto_region 6 with fail
      generalize hW : World.alloc w1 _ = W1 at *
      have hbV : Below w1.heap.size w1 W1 := by subst hW; exact below_alloc _ _
      have hB : BoxS w W1 p (K + 24 * t + 12) w1.heap.size (.slice A m c) m X Y := ⟨⟨x, y, by subst hW; simp [go_sem], by subst hW; simp [go_sem]⟩, by subst hW; intro o; simp [go_sem], (HO.out.turn ht1 hpw).up hbV, hc1.up hbV, (ht.trans ht1).trans (Turned.of_below hbV)⟩
      clear hW hbV
      go_cut [23] (fun s wx => ∃ bq : Bool, s = .bool bq ∧ (bq = true → 0 < m) ∧ BoxS w wx p (K + 24 * t + 14) w1.heap.size (.slice A m c) m X Y)
      case first =>
        by_cases hm0 : m = 0
        · subst hm0
          go_wp2_with fail
          go_meet
          exact ⟨false, rfl, (fun h => absurd h (by simp)), hB.more (by omega)⟩
        · have j2 : (m : Int) > 0 := by omega
          go_wp2_with fail
          refine (cur_one p _ 2 _ hB.cur (by omega) (by omega)).mono ?_
          rintro e w2 ⟨bq, rfl, hc2, ht2⟩
          go_wp2_with fail
          go_meet
          exact ⟨bq, rfl, fun _ => by omega, hB.step ht2 hc2 hpb hpw⟩
      case rest =>
      obtain ⟨bq, rfl, hbq, hB2⟩ := hcut
      obtain ⟨w2, rfl⟩ : ∃ W : World, W = wc := ⟨_, rfl⟩
      clear hB
      go_upto_if 23 with fail
      go_cut [8] (fun _ wx => BoxS w wx p (K + 24 * t + 20) w1.heap.size (.slice A m c) m X Y)
      case first =>
        cases bq with
        | false =>
          go_wp2_with fail
          go_meet
          exact hB2.more (by omega)
        | true =>
          have hm0 := hbq rfl
          have hB2h := Lib.hid hB2
          have hc2 := hB2.cur
          obtain ⟨A', c', e1, _, hrow⟩ := hB2.own.ownS.spots
          injection e1 with e1 _ e2
          subst e1
          subst e2
          obtain ⟨g, o, rfl, hr2⟩ := hrow (by omega)
          have HRow := Lib.hid hr2
          have hgp := (HLO.out g rfl)
          clear hrow hr2 hB2
          go_wp2_with fail
          refine (cur_pick p _ m _ hc2 (by omega) (by omega)).mono ?_
          rintro e w3 ⟨J, rfl, hJ, hc3, ht3⟩
          have hJm : J < m := by omega
          have jJ : (J : Int) < (m : Int) := by omega
          have c0 := ht3.cell (HRow.out J hJm).1 (by omega)
          have c1 := ht3.cell (HRow.out J hJm).2 (by omega)
          have hB3 := hB2h.out.step ht3 hc3 hpb hpw
          have HB3 := Lib.hid hB3
          obtain ⟨xb, yb, g0, g1⟩ := hB3.box
          have gf0 := hB3.free 0
          have gf1 := hB3.free 1
          have hsb : w1.heap.size < w3.heap.size := lt_of_cell g0
          have hl3 : p < w3.heap.size := hc3.lt
          clear hB3
          go_wp2_with fail
          generalize hW3 : World.alloc w3 _ = W3 at *
          have hb3 : Below w3.heap.size w3 W3 := by subst hW3; exact below_alloc _ _
          have d0 : W3.cell? ⟨w3.heap.size, 0, none⟩ = some (.int .i64 (X J)) := by subst hW3; simp [go_sem]
          have d1 : W3.cell? ⟨w3.heap.size, 1, none⟩ = some (.int .i64 (Y J)) := by subst hW3; simp [go_sem]
          have hlW : w3.heap.size < W3.heap.size := lt_of_cell d0
          replace g0 := up_keep hb3 g0
          replace g1 := up_keep hb3 g1
          have gfr : Free W3 w1.heap.size := HB3.out.free.up hsb hb3
          have hcW := hc3.up hb3
          have HBW := Lib.hid (HB3.out)
          clear hW3 c0 c1 gf0 gf1
          generalize X J = xj at *
          generalize Y J = yj at *
          have hc3 := hcW
          have hlW3 : p < W3.heap.size := hcW.lt
          go_region_held3 (fun w' => w'.cell? ⟨w3.heap.size, 0, none⟩ = some (.int .i64 xj) ∧ w'.cell? ⟨w3.heap.size, 1, none⟩ = some (.int .i64 yj))
            (first | exact ⟨by assumption, by assumption⟩ | (refine ⟨?_, ?_⟩ <;> (rw [cell_set_ne, cell_set_ne] <;> first | assumption | omega)) | go_keep) (first
            | (go_at_call 80; refine (l1Least_any _ _ _).mono ?_; rintro e wz ⟨rfl, rfl⟩)
            | (go_at_call 81; (with_reducible show Calls Tryz.prog _ #[_, .slice _ 4 4] _ _); (refine (cur_among p _ _ 4 0 24 _ (CurAt.up hc5 (show Below w5.heap.size w5 _ from (by (repeat (first | with_reducible exact Below.refl _ _ | with_reducible assumption | with_reducible refine up_alloc ?_ _ | with_reducible refine up_drew ?_ | with_reducible refine up_drewN ?_ _ | (with_reducible refine up_set ?_ ?hset _; case hset => first | (simp; done) | (simp; omega) | omega) | with_reducible refine up_trans ?_ (by with_reducible assumption)))))) (by omega) (by omega) (by omega) (by first | omega | (simp; omega) | exact Nat.lt_of_lt_of_le hlW5 (show Below w5.heap.size w5 _ from (by (repeat (first | with_reducible exact Below.refl _ _ | with_reducible assumption | with_reducible refine up_alloc ?_ _ | with_reducible refine up_drew ?_ | with_reducible refine up_drewN ?_ _ | (with_reducible refine up_set ?_ ?hset _; case hset => first | (simp; done) | (simp; omega) | omega) | with_reducible refine up_trans ?_ (by with_reducible assumption))))).size) (by intro i hi; match i, hi with | 0, _ => exact ⟨0, by first | (simp [go_sem]; done) | exact litc0 _ _ _ 0 _ rfl | exact litc1 _ _ _ _ 0 _ rfl | exact litc2 _ _ _ _ 0 _ rfl | exact ht5.cell (by first | (simp [go_sem]; done) | exact litc0 _ _ _ 0 _ rfl | exact litc1 _ _ _ _ 0 _ rfl | exact litc2 _ _ _ _ 0 _ rfl) (by first | omega | (simp; omega)), by omega, by omega⟩ | 1, _ => exact ⟨8, by first | (simp [go_sem]; done) | exact litc0 _ _ _ 1 _ rfl | exact litc1 _ _ _ _ 1 _ rfl | exact litc2 _ _ _ _ 1 _ rfl | exact ht5.cell (by first | (simp [go_sem]; done) | exact litc0 _ _ _ 1 _ rfl | exact litc1 _ _ _ _ 1 _ rfl | exact litc2 _ _ _ _ 1 _ rfl) (by first | omega | (simp; omega)), by omega, by omega⟩ | 2, _ => exact ⟨16, by first | (simp [go_sem]; done) | exact litc0 _ _ _ 2 _ rfl | exact litc1 _ _ _ _ 2 _ rfl | exact litc2 _ _ _ _ 2 _ rfl | exact ht5.cell (by first | (simp [go_sem]; done) | exact litc0 _ _ _ 2 _ rfl | exact litc1 _ _ _ _ 2 _ rfl | exact litc2 _ _ _ _ 2 _ rfl) (by first | omega | (simp; omega)), by omega, by omega⟩ | 3, _ => exact ⟨3, by first | (simp [go_sem]; done) | exact litc0 _ _ _ 3 _ rfl | exact litc1 _ _ _ _ 3 _ rfl | exact litc2 _ _ _ _ 3 _ rfl | exact ht5.cell (by first | (simp [go_sem]; done) | exact litc0 _ _ _ 3 _ rfl | exact litc1 _ _ _ _ 3 _ rfl | exact litc2 _ _ _ _ 3 _ rfl) (by first | omega | (simp; omega)), by omega, by omega⟩ | (q + 4), hi => omega)).mono ?_); rintro e w6 ⟨db, rfl, hdb, hc6, ht6⟩; have htB := htA.trans ((Turned.of_below (lo := p) (hi := p + 1) (show Below w5.heap.size w5 _ from (by (repeat (first | with_reducible exact Below.refl _ _ | with_reducible assumption | with_reducible refine up_alloc ?_ _ | with_reducible refine up_drew ?_ | with_reducible refine up_drewN ?_ _ | (with_reducible refine up_set ?_ ?hset _; case hset => first | (simp; done) | (simp; omega) | omega) | with_reducible refine up_trans ?_ (by with_reducible assumption)))))).trans ht6); have b0 := htB.cell d0 (by omega); have b1 := htB.cell d1 (by omega); have b2 := htB.cell g0 (by omega); have b3 := htB.cell g1 (by omega); have b4 := htB.free gfr (by omega) (by omega); have b5 := b4 0; have b6 := b4 1)
            | (go_at_call 81; (fail_if_success (have hh := hc5)); (with_reducible show Calls Tryz.prog _ #[_, .slice _ 5 5] _ _); (refine (cur_among p _ _ 5 0 24 _ (CurAt.up hcW (show Below W3.heap.size W3 _ from (by (repeat (first | with_reducible exact Below.refl _ _ | with_reducible assumption | with_reducible refine up_alloc ?_ _ | with_reducible refine up_drew ?_ | with_reducible refine up_drewN ?_ _ | (with_reducible refine up_set ?_ ?hset _; case hset => first | (simp; done) | (simp; omega) | omega) | with_reducible refine up_trans ?_ (by with_reducible assumption)))))) (by omega) (by omega) (by omega) (by first | omega | (simp; omega)) (by intro i hi; match i, hi with | 0, _ => exact ⟨0, by first | (simp [go_sem]; done) | exact litc0 _ _ _ 0 _ rfl | exact litc1 _ _ _ _ 0 _ rfl | exact litc2 _ _ _ _ 0 _ rfl, by omega, by omega⟩ | 1, _ => exact ⟨8, by first | (simp [go_sem]; done) | exact litc0 _ _ _ 1 _ rfl | exact litc1 _ _ _ _ 1 _ rfl | exact litc2 _ _ _ _ 1 _ rfl, by omega, by omega⟩ | 2, _ => exact ⟨16, by first | (simp [go_sem]; done) | exact litc0 _ _ _ 2 _ rfl | exact litc1 _ _ _ _ 2 _ rfl | exact litc2 _ _ _ _ 2 _ rfl, by omega, by omega⟩ | 3, _ => exact ⟨24, by first | (simp [go_sem]; done) | exact litc0 _ _ _ 3 _ rfl | exact litc1 _ _ _ _ 3 _ rfl | exact litc2 _ _ _ _ 3 _ rfl, by omega, by omega⟩ | 4, _ => exact ⟨5, by first | (simp [go_sem]; done) | exact litc0 _ _ _ 4 _ rfl | exact litc1 _ _ _ _ 4 _ rfl | exact litc2 _ _ _ _ 4 _ rfl, by omega, by omega⟩ | (q + 5), hi => omega)).mono ?_); rintro e w5 ⟨da, rfl, hda, hc5, ht5⟩; have htA := (Turned.of_below (lo := p) (hi := p + 1) (show Below W3.heap.size W3 _ from (by (repeat (first | with_reducible exact Below.refl _ _ | with_reducible assumption | with_reducible refine up_alloc ?_ _ | with_reducible refine up_drew ?_ | with_reducible refine up_drewN ?_ _ | (with_reducible refine up_set ?_ ?hset _; case hset => first | (simp; done) | (simp; omega) | omega) | with_reducible refine up_trans ?_ (by with_reducible assumption)))))).trans ht5; have a0 := htA.cell d0 (by omega); have a1 := htA.cell d1 (by omega); have a2 := htA.cell g0 (by omega); have a3 := htA.cell g1 (by omega); have a4 := htA.free gfr (by omega) (by omega); have a5 := a4 0; have a6 := a4 1; have hlW5 : p < w5.heap.size := hc5.lt)
            | fail)
          all_goals
            go_wp2_with fail
            go_meet
            have hB6 : BoxS w w6 p (K + 24 * t + 20) w1.heap.size _ m X Y := ((show BoxS w W3 p (K + 24 * t + 16) w1.heap.size _ m X Y from ⟨⟨xb, yb, g0, g1⟩, gfr, HB3.out.own.up hb3, hcW, HB3.out.turn.trans (Turned.of_below hb3)⟩).step htB hc6 hpb hpw).more (by omega)
            exact (hB6.put hqb hpb hWb _ _).1
      case rest =>
      have hB4 := hcut
      obtain ⟨w4, rfl⟩ : ∃ W : World, W = wc := ⟨_, rfl⟩
      clear hcut hB2
      go_upto_if 47 with fail
      go_cut [] (fun wx => ∃ x y : Int, wx.cell? ⟨w1.heap.size, 0, none⟩ = some (.int .i64 x) ∧ wx.cell? ⟨w1.heap.size, 1, none⟩ = some (.int .i64 y) ∧ (60 < t → y = 7 + (t : Int)) ∧ BoxS w wx p (K + 24 * t + 20) w1.heap.size (.slice A m c) m X Y)
      case first =>
        obtain ⟨x4, y4, g0, g1⟩ := hB4.box
        have gf0 := hB4.free 0
        have gf1 := hB4.free 1
        have HB4 := Lib.hid hB4
        clear hB4
        by_cases h60 : 60 < t
        · have j6 : (t : Int) > 60 := by omega
          go_wp2_with fail
          go_meet
          obtain ⟨hp1, hp2, hp3⟩ := HB4.out.put hqb hpb hWb (3 * (m : Int)) (7 + (t : Int))
          exact ⟨_, _, hp2, hp3, fun _ => rfl, hp1⟩
        · have j6 : ¬ (t : Int) > 60 := by omega
          go_wp2_with fail
          go_meet
          exact ⟨x4, y4, g0, g1, fun h => absurd h h60, HB4.out⟩
      case rest =>
      obtain ⟨x5, y5, g0, g1, h5, hB5⟩ := hcut
      obtain ⟨w5, rfl⟩ : ∃ W : World, W = wc := ⟨_, rfl⟩
      have HB5 := Lib.hid hB5
      have H5 := Lib.hid h5
      have HF := Lib.hid (chFind_any (.slice A m c) m X Y x5 y5 (by omega) w5 hB5.own.ownS.spots)
      have HFv := Lib.hid (hasB_find (fun i => same x5 y5 (X i) (Y i)) m)
      clear hB4 hB5 h5
      obtain ⟨fv, hfv⟩ : ∃ fv, findV (fun i => same x5 y5 (X i) (Y i)) m = fv := ⟨_, rfl⟩
      rw [hfv] at HF HFv
      clear hfv
      go_wp2_with fail
      refine HF.out.mono ?_
      rintro e w7 ⟨rfl, hb7⟩
      have g0 := up_keep hb7 g0
      have g1 := up_keep hb7 g1
      have hs5 := HB5.out.turn.size
      have HO7 := Lib.hid ((HB5.out.own.cong (X' := fun i => if i = m then x5 else X i) (Y' := fun i => if i = m then y5 else Y i) (fun i hi => by rw [if_neg (by omega)]) (fun i hi => by rw [if_neg (by omega)])).up hb7)
      have hs7 := hb7.size
      by_cases hf : fv < 0
      · have hmu : muC n (m + 1) (t + 1) (fun i => if i = m then y5 else Y i) < muC n m t Y := by
          have a1 := cntG_le (fun i => if i = m then y5 else Y i) (7 + ((t + 1 : Nat) : Int)) (m + 1)
          unfold muC
          by_cases h60 : 60 < t
          · have e5 := H5.out h60
            have a2 : cntG (fun i => if i = m then y5 else Y i) (7 + ((t + 1 : Nat) : Int)) (m + 1) = cntG Y (7 + (t : Int) + 1) m := by
              simp only [cntG, if_true]
              rw [if_neg (by omega), cntG_cong m (fun j hj => by rw [if_neg (by omega)])]
              rw [show 7 + ((t + 1 : Nat) : Int) = 7 + (t : Int) + 1 by omega]; rfl
            have a3 := cntG_succ Y (7 + (t : Int)) m
            omega
          · omega
        have HMu := Lib.hid hmu
        clear hmu
        go_wp2_with (at_builtin; refine wpList_app_spot2 rfl (.tmp 58) (.tmp 60) rfl w.heap.size _ m (fun i => if i = m then x5 else X i) (fun i => if i = m then y5 else Y i) rfl rfl (if_pos rfl) (if_pos rfl) (by simp [go_sem]) (by simp [go_sem]) (OwnR.up HO7.out (show Below w7.heap.size w7 _ from (by (repeat (first | with_reducible exact Below.refl _ _ | with_reducible assumption | with_reducible refine up_alloc ?_ _ | with_reducible refine up_drew ?_ | with_reducible refine up_drewN ?_ _ | (with_reducible refine up_set ?_ ?hset _; case hset => first | (simp; done) | (simp; omega) | omega) | with_reducible refine up_trans ?_ (by with_reducible assumption)))))) (Nat.le_trans (show w.heap.size ≤ w7.heap.size from by omega) (show Below w7.heap.size w7 _ from (by (repeat (first | with_reducible exact Below.refl _ _ | with_reducible assumption | with_reducible refine up_alloc ?_ _ | with_reducible refine up_drew ?_ | with_reducible refine up_drewN ?_ _ | (with_reducible refine up_set ?_ ?hset _; case hset => first | (simp; done) | (simp; omega) | omega) | with_reducible refine up_trans ?_ (by with_reducible assumption))))).size) (by omega) ?_; intro v8 w8 ho8 hb8 _ _; replace hb8 := (show Below w.heap.size w7 _ from ((show Below w7.heap.size w7 _ from (by (repeat (first | with_reducible exact Below.refl _ _ | with_reducible assumption | with_reducible refine up_alloc ?_ _ | with_reducible refine up_drew ?_ | with_reducible refine up_drewN ?_ _ | (with_reducible refine up_set ?_ ?hset _; case hset => first | (simp; done) | (simp; omega) | omega) | with_reducible refine up_trans ?_ (by with_reducible assumption))))).mono (by omega))).trans hb8)
        obtain ⟨A8, c8, e8, _⟩ := ho8.shape
        subst e8
        have hb58 := (hb7.mono hs5).trans hb8
        go_roundg (muC n (m + 1) (t + 1) (fun i => if i = m then y5 else Y i))
        case measure => have := HMU.out; have := HMu.out; omega
        case rel => exact ⟨m + 1, t + 1, _, _, by omega, by go_num, ho8, Nat.le_refl _, by have := HMU.out; have := HMu.out; omega, (HB5.out.cur.below hb58 hpw).more (by omega), HB5.out.turn.far hb58⟩
      · have hmu : muC n m (t + 1) Y < muC n m t Y := by
          have a1 := cntG_le Y (7 + ((t + 1 : Nat) : Int)) m
          unfold muC
          by_cases h60 : 60 < t
          · have e5 := H5.out h60
            have hh := HFv.out
            rw [decide_eq_true (show 0 ≤ fv by omega)] at hh
            have hh2 : ∃ j, j < m ∧ Y j = y5 := by
              by_cases q : ∃ j, j < m ∧ Y j = y5
              · exact q
              · exfalso
                unfold hasB at hh
                rw [show allB (fun i => !same x5 y5 (X i) (Y i)) m = true from allB_iff.2 fun i hi => by
                  have : ¬ Y i = y5 := fun e => q ⟨i, hi, e⟩
                  simp [same]; omega] at hh
                simp at hh
            obtain ⟨j, hj, ej⟩ := hh2
            have a2 := cntG_drop (Y := Y) (t := 7 + (t : Int)) hj (by omega)
            rw [show 7 + ((t + 1 : Nat) : Int) = 7 + (t : Int) + 1 by omega] at *
            omega
          · omega
        have HMu := Lib.hid hmu
        clear hmu
        have HO8 := Lib.hid (HB5.out.own.up hb7)
        go_wp2_with fail
        go_roundg (muC n m (t + 1) Y)
        case measure => have := HMU.out; have := HMu.out; omega
        case rel => exact ⟨m, t + 1, X, Y, by omega, by go_num, HO8.out, Nat.le_refl _, by have := HMU.out; have := HMu.out; omega, (HB5.out.cur.up hb7).more (by omega), HB5.out.turn.far (hb7.mono hs5)⟩
    · have e : m = n := by omega
      subst e
      go_wp2_with fail
      go_ret
      exact ⟨_, X, Y, rfl, HO.out, hc.more (by omega), ht⟩
def AnsCharts (w : World) (p K : Nat) (e : Ending) (w' : World) : Prop := ∃ v n X Y, n ≤ 13 ∧ e = .returned v ∧ OwnR w.heap.size w' v n X Y ∧ CurAt w' p K ∧ Turned p (p + 1) w w'
set_option maxRecDepth 100000 in
theorem cur_chart (p K : Nat) (w : World) (h : CurAt w p K) (hK : K ≤ 800000) :
    Calls Tryz.prog 40 #[.pointer (some ⟨p, 0, none⟩)] w (fun e w' => ∃ v n X Y, 0 < n ∧ n ≤ 12 ∧ e = .returned v ∧ OwnR w.heap.size w' v n X Y ∧ CurAt w' p (K + 50010) ∧ Turned p (p + 1) w w') := by
  have hpw := h.lt
  go_enter Tryz.func40, Tryz.ntmps40
  go_wp2_with fail
  refine (cur_one p K 20 _ h (by omega) (by omega)).mono ?_
  rintro e w1 ⟨q, rfl, hc1, ht1⟩
  have hs1 := ht1.size
  cases q with
  | true =>
    go_wp2_with fail
    refine (cur_chartOf p _ 12 _ hc1 (by omega) (by omega)).mono ?_
    rintro e w2 ⟨v, X, Y, rfl, ho, hc2, ht2⟩
    go_wp2_with fail
    go_ret
    exact ⟨_, 12, X, Y, by omega, by omega, rfl, World.ownsRow.mono ho hs1, hc2.more (by omega), ht1.trans ht2⟩
  | false =>
    go_wp2_with fail
    refine (cur_pick p _ 6 _ hc1 (by omega) (by omega)).mono ?_
    rintro e w2 ⟨a, rfl, ha, hc2, ht2⟩
    have hs2 := ht2.size
    go_wp2_with fail
    rw [show ((1 : Int) + (a : Int)) = ((1 + a : Nat) : Int) by omega]
    refine (cur_chartOf p _ (1 + a) _ hc2 (by omega) (by omega)).mono ?_
    rintro e w3 ⟨v, X, Y, rfl, ho, hc3, ht3⟩
    go_wp2_with fail
    go_ret
    exact ⟨_, 1 + a, X, Y, by omega, by omega, rfl, World.ownsRow.mono ho (by omega), hc3.more (by omega), (ht1.trans ht2).trans ht3⟩
end Go.Proofs.YtbfhfjpfjkdcfaaGreatDoor
namespace Go.Proofs.YtbfhfjpfjkdcfaaGreatDoor
open Go.RowKit Go.ChangeShapes Go.WideShapes Go.Sort
/- 58 -/

/-- Some n spots in memory of its own. -/
def OwnSE (base : Nat) (w : World) (v : Value) (n : Nat) : Prop := ∃ X Y, OwnS base w v n X Y
theorem OwnSE.store {base : Nat} {w : World} {v : Value} {n : Nat} (h : OwnSE base w v n) (b o : Nat) (z : Int) : OwnSE base (w.setCell ⟨b, o, none⟩ (.int .i64 z)) v n := by
  obtain ⟨X, Y, A, c, e, hc, hr⟩ := h
  subst e
  by_cases hn : 0 < n
  · obtain ⟨b', o', rfl, hb, hf, hrow⟩ := hr hn
    refine ⟨fun i => if b = b' ∧ o = o' + i * 2 then z else X i, fun i => if b = b' ∧ o = o' + i * 2 + 1 then z else Y i, _, _, rfl, hc, fun _ => ⟨b', o', rfl, hb, hf.set _ _, fun i hi => ⟨?_, ?_⟩⟩⟩
    · dsimp only
      by_cases e : b = b' ∧ o = o' + i * 2
      · obtain ⟨rfl, rfl⟩ := e
        rw [if_pos ⟨rfl, rfl⟩]
        exact cell_set_same _ _ _ _ _ (hrow i hi).1
      · rw [if_neg e, cell_set_ne _ _ _ _ _ _ (by omega)]
        exact (hrow i hi).1
    · dsimp only
      by_cases e : b = b' ∧ o = o' + i * 2 + 1
      · obtain ⟨rfl, rfl⟩ := e
        rw [if_pos ⟨rfl, rfl⟩]
        exact cell_set_same _ _ _ _ _ (hrow i hi).2
      · rw [if_neg e, cell_set_ne _ _ _ _ _ _ (by omega)]
        exact (hrow i hi).2
  · exact ⟨X, Y, _, _, rfl, hc, fun h => absurd h hn⟩
/-- Returned: at most 13 spots in new memory; beside it only the cursor has turned. -/
def AnsCh (w : World) (p K : Nat) (e : Ending) (w' : World) : Prop := ∃ v n, n ≤ 13 ∧ e = .returned v ∧ OwnSE w.heap.size w' v n ∧ CurAt w' p K ∧ Turned p (p + 1) w w'
set_option maxRecDepth 100000 in
set_option maxHeartbeats 4000000 in
theorem cur_anyChart (p K : Nat) (w : World) (h : CurAt w p K) (hK : K ≤ 600000) :
    Calls Tryz.prog 44 #[.pointer (some ⟨p, 0, none⟩)] w (AnsCh w p (K + 110000)) := by
  have hpw := h.lt
  go_enter Tryz.func44, Tryz.ntmps44
  go_wp2_with fail
  refine (cur_chart p K _ h (by omega)).mono ?_
  rintro e w1 ⟨v, n, X, Y, hn0, hn, rfl, ho, hc1, ht1⟩
  obtain ⟨A, c, e1, hnc, hr⟩ := ho.ownS
  obtain ⟨g, o, e2, hbg, hf, hrow⟩ := hr hn0
  subst e1
  subst e2
  have HO := Lib.hid (show OwnSE w.heap.size w1 (.slice (some ⟨g, o, none⟩) n c) n from ⟨X, Y, ho.ownS⟩)
  have HOR := Lib.hid ho
  have HRow := Lib.hid hrow
  have HF := Lib.hid hf
  have hlg := lt_of_cell (hrow 0 hn0).1
  have hs1 := ht1.size
  clear ho hr hrow hf
  go_wp2_with fail
  refine (cur_pick p _ n _ hc1 (by omega) (by omega)).mono ?_
  rintro e w2 ⟨I, rfl, hI, hc2, ht2⟩
  have hIn : I < n := by omega
  have jI : (I : Int) < (n : Int) := by omega
  have j0 : (0 : Int) < (n : Int) := by omega
  go_wp2_with fail
  refine (cur_pick p _ 30 _ hc2 (by omega) (by omega)).mono ?_
  rintro e w3 ⟨y, rfl, hy, hc3, ht3⟩
  have ht13 := ht2.trans ht3
  have htw := ht1.trans ht13
  have HO3 := Lib.hid (show OwnSE w.heap.size w3 (.slice (some ⟨g, o, none⟩) n c) n from ⟨X, Y, (HOR.out.turn ht13 hpw).ownS⟩)
  by_cases y0 : y = 0
  · subst y0
    go_wp2_with fail
    refine (cur_anySpot p _ _ hc3 (by omega)).mono ?_
    rintro e w4 ⟨x, z, rfl, hc4, ht4⟩
    have ht14 := ht13.trans ht4
    have c0 := ht14.cell (HRow.out I hIn).1 (by omega)
    have c1 := ht14.cell (HRow.out I hIn).2 (by omega)
    have f0 := ht14.free HF.out hlg (by omega) (o + I * 2)
    have f1 := ht14.free HF.out hlg (by omega) (o + I * 2 + 1)
    have HO4 := Lib.hid (show OwnSE w.heap.size w4 (.slice (some ⟨g, o, none⟩) n c) n from ⟨X, Y, (HOR.out.turn ht14 hpw).ownS⟩)
    go_wp2_with fail
    go_ret
    have hb9 : ∀ x z : Int, Below w.heap.size w4 ((w4.setCell ⟨g, o + I * 2, none⟩ (.int .i64 x)).setCell ⟨g, o + I * 2 + 1, none⟩ (.int .i64 z)) := fun x z => ((Below.refl w.heap.size w4).setCell (p := ⟨g, o + I * 2, none⟩) hbg _).setCell (p := ⟨g, o + I * 2 + 1, none⟩) hbg _
    exact ⟨_, n, by omega, rfl, (HO4.out.store g (o + I * 2) x).store g (o + I * 2 + 1) z, (hc4.below (hb9 x z) hpw).more (by omega), (ht1.trans ht14).far (hb9 x z)⟩
  · have jy0 : ¬ (y : Int) = 0 := by omega
    by_cases y1 : y = 1
    · subst y1
      have c0 := ht13.cell (HRow.out I hIn).1 (by omega)
      have c1 := ht13.cell (HRow.out I hIn).2 (by omega)
      have d0 := ht13.cell (HRow.out 0 hn0).1 (by omega)
      have d1 := ht13.cell (HRow.out 0 hn0).2 (by omega)
      rw [Nat.zero_mul, Nat.add_zero] at d0 d1
      have f0 := ht13.free HF.out hlg (by omega) (o + I * 2)
      have f1 := ht13.free HF.out hlg (by omega) (o + I * 2 + 1)
      go_wp2_with fail
      go_ret
      have hb9 : ∀ x z : Int, Below w.heap.size w3 ((w3.setCell ⟨g, o + I * 2, none⟩ (.int .i64 x)).setCell ⟨g, o + I * 2 + 1, none⟩ (.int .i64 z)) := fun x z => ((Below.refl w.heap.size w3).setCell (p := ⟨g, o + I * 2, none⟩) hbg _).setCell (p := ⟨g, o + I * 2 + 1, none⟩) hbg _
      exact ⟨_, n, by omega, rfl, (HO3.out.store g (o + I * 2) (X 0)).store g (o + I * 2 + 1) (Y 0), (hc3.below (hb9 (X 0) (Y 0)) hpw).more (by omega), htw.far (hb9 (X 0) (Y 0))⟩
    · have jy1 : ¬ (y : Int) = 1 := by omega
      by_cases y2 : y = 2
      · subst y2
        go_wp2_with fail
        go_ret
        exact ⟨_, 0, by omega, rfl, ⟨X, Y, _, _, rfl, Nat.le_refl _, fun h => absurd h (by omega)⟩, hc3.more (by omega), htw⟩
      · have jy2 : ¬ (y : Int) = 2 := by omega
        by_cases y3 : y = 3
        · subst y3
          have hs3 := htw.size
          go_wp2_with fail
          refine (cur_chartOf p _ 13 _ hc3 (by omega) (by omega)).mono ?_
          rintro e w4 ⟨v4, X4, Y4, rfl, ho4, hc4, ht4⟩
          go_wp2_with fail
          go_ret
          exact ⟨_, 13, by omega, rfl, ⟨X4, Y4, ho4.ownS.more hs3⟩, hc4.more (by omega), htw.trans ht4⟩
        · have jy3 : ¬ (y : Int) = 3 := by omega
          go_wp2_with fail
          go_ret
          exact ⟨_, n, by omega, rfl, HO3.out, hc3.more (by omega), htw⟩
end Go.Proofs.YtbfhfjpfjkdcfaaGreatDoor
namespace Go.Proofs.YtbfhfjpfjkdcfaaGreatDoor
open Go.RowKit Go.ChangeShapes Go.WideShapes Go.Sort

/-- Returned: a valid spot; beside it only the cursor has turned. -/
def AnsSpotV (w : World) (p K : Nat) (e : Ending) (w' : World) : Prop := ∃ x y : Int, e = .returned (.agg #[.int .i64 x, .int .i64 y]) ∧ spotB x y = true ∧ CurAt w' p K ∧ Turned p (p + 1) w w'
set_option maxRecDepth 100000 in
set_option maxHeartbeats 4000000 in
theorem cur_spotV (p K : Nat) (w : World) (h : CurAt w p K) (hK : K ≤ 1000000) :
    Calls Tryz.prog 79 #[.pointer (some ⟨p, 0, none⟩)] w (AnsSpotV w p (K + 12)) := by
  have hpw := h.lt
  go_enter Tryz.func79, Tryz.ntmps79
  go_wp2_with fail
  generalize hW : World.alloc w _ = W0 at *
  have hbW : Below w.heap.size w W0 := by subst hW; exact below_alloc _ _
  have k0 : W0.cell? ⟨w.heap.size, 0, none⟩ = some (.int .i64 0) := by subst hW; simp [go_sem]
  have k1 : W0.cell? ⟨w.heap.size, 1, none⟩ = some (.int .i64 0) := by subst hW; simp [go_sem]
  have kf : Free W0 w.heap.size := by subst hW; intro o; simp [go_sem]
  have hlt0 : w.heap.size < W0.heap.size := lt_of_cell k0
  clear hW
  refine (cur_pick p K 161 _ (h.up hbW) (by omega) (by omega)).mono ?_
  rintro e w1 ⟨a, rfl, ha, hc1, ht1⟩
  go_wp2_with fail
  refine (cur_pick p _ 1281 _ hc1 (by omega) (by omega)).mono ?_
  rintro e w2 ⟨b, rfl, hb, hc2, ht2⟩
  have hl2 : p < w2.heap.size := hc2.lt
  go_wp2_with fail
  refine (cur_among p _ _ 7 0 1280 _ (hc2.up (below_alloc _ _)) (by omega) (by omega) (by omega) hl2 (by intro i hi; match i, hi with | 0, _ => exact ⟨0, by simp [go_sem], by omega, by omega⟩ | 1, _ => exact ⟨80, by simp [go_sem], by omega, by omega⟩ | 2, _ => exact ⟨160, by simp [go_sem], by omega, by omega⟩ | 3, _ => exact ⟨640, by simp [go_sem], by omega, by omega⟩ | 4, _ => exact ⟨(8 * (a : Int)), by simp [go_sem], by omega, by omega⟩ | 5, _ => exact ⟨(b : Int), by simp [go_sem], by omega, by omega⟩ | 6, _ => exact ⟨1280, by simp [go_sem], by omega, by omega⟩ | (q + 7), hi => omega)).mono ?_
  rintro e w3 ⟨x, rfl, hx, hc3, ht3⟩
  have ht13 := ((ht1.trans ht2).trans (Turned.of_below (below_alloc _ _))).trans ht3
  go_wp2_with fail
  refine (cur_pick p _ 85 _ hc3 (by omega) (by omega)).mono ?_
  rintro e w4 ⟨c, rfl, hc, hc4, ht4⟩
  go_wp2_with fail
  refine (cur_pick p _ 673 _ hc4 (by omega) (by omega)).mono ?_
  rintro e w5 ⟨d, rfl, hd, hc5, ht5⟩
  have hl5 : p < w5.heap.size := hc5.lt
  go_wp2_with fail
  refine (cur_among p _ _ 6 0 672 _ (hc5.up (below_alloc _ _)) (by omega) (by omega) (by omega) hl5 (by intro i hi; match i, hi with | 0, _ => exact ⟨0, by simp [go_sem], by omega, by omega⟩ | 1, _ => exact ⟨80, by simp [go_sem], by omega, by omega⟩ | 2, _ => exact ⟨336, by simp [go_sem], by omega, by omega⟩ | 3, _ => exact ⟨(8 * (c : Int)), by simp [go_sem], by omega, by omega⟩ | 4, _ => exact ⟨(d : Int), by simp [go_sem], by omega, by omega⟩ | 5, _ => exact ⟨672, by simp [go_sem], by omega, by omega⟩ | (q + 6), hi => omega)).mono ?_
  rintro e w6 ⟨y, rfl, hy, hc6, ht6⟩
  have ht16 := (((ht13.trans ht4).trans ht5).trans (Turned.of_below (below_alloc _ _))).trans ht6
  have c0 := ht16.cell k0 (by omega)
  have c1 := ht16.cell k1 (by omega)
  have f0 := ht16.free kf hlt0 (by omega) 0
  have f1 := ht16.free kf hlt0 (by omega) 1
  go_wp2_with fail
  have q0 := (cell_set_ne (w6.setCell ⟨w.heap.size, 0, none⟩ (.int .i64 x)) (w.heap.size) 1 (.int .i64 y) (w.heap.size) 0 (by omega)).trans (cell_set_same w6 (w.heap.size) 0 _ (.int .i64 x) c0)
  have q1 := cell_set_same (w6.setCell ⟨w.heap.size, 0, none⟩ (.int .i64 x)) (w.heap.size) 1 _ (.int .i64 y) ((cell_set_ne w6 (w.heap.size) 0 (.int .i64 x) (w.heap.size) 1 (by omega)).trans c1)
  have hb9 : Below w.heap.size w6 ((w6.setCell ⟨w.heap.size, 0, none⟩ (.int .i64 x)).setCell ⟨w.heap.size, 1, none⟩ (.int .i64 y)) := ((Below.refl w.heap.size w6).setCell (p := ⟨w.heap.size, 0, none⟩) (Nat.le_refl _) _).setCell (p := ⟨w.heap.size, 1, none⟩) (Nat.le_refl _) _
  generalize World.setCell (World.setCell w6 _ _) _ _ = w9 at *
  refine bodyPost_ret (v := .agg #[.int .i64 x, .int .i64 y]) (by simp [results, Tryz.results79, go_sem, q0, q1]) rfl ?_
  exact ⟨x, y, rfl, spotB_iff.2 ⟨hx, hy⟩, (hc6.below hb9 hpw).more (by omega), ((Turned.of_below hbW).trans ht16).far hb9⟩
end Go.Proofs.YtbfhfjpfjkdcfaaGreatDoor
