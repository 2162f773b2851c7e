/- Words and contracts, part 14. -/
import Derived.Test.YtbfhfjpfjkdcfaaGreatDoorRows
import Derived.BigQuiet
import Derived.Deep.LoopGhost
import Derived.Deep.Onto
import Derived.Deep.CutRange
import Derived.Deep.DeepCutAuto
import Derived.Deep.RegionHeld3
import Derived.Deep.QuietTactic
import Derived.Test.YtbfhfjpfjkdcfaaGreatDoorZ13
namespace Go.Proofs.YtbfhfjpfjkdcfaaGreatDoor
open Go.RowKit Go.ChangeShapes Go.WideShapes Go.Sort
/- 58 -/

/-- Returned: n valid spots in new memory; beside it only the cursor has turned. -/
def AnsChartV (w : World) (p K n : Nat) (e : Ending) (w' : World) : Prop := ∃ v X Y, e = .returned v ∧ OwnR w.heap.size w' v n X Y ∧ (∀ i, i < n → spotB (X i) (Y i) = true) ∧ CurAt w' p K ∧ Turned p (p + 1) w w'
theorem muC_late {n m t : Nat} {Y : Nat → Int} (hn : n ≤ 13) (hm : m ≤ n) (ht : 61 ≤ t) : muC n m t Y ≤ 26 := by
  have := cntG_le Y (7 + (t : Int)) m
  unfold muC
  omega
theorem pot_step {n m m' t : Nat} {Y Y' : Nat → Int} (h : 61 ≤ t → t + muC n m t Y ≤ 87) (hmu : muC n m' (t + 1) Y' < muC n m t Y) (hn : n ≤ 13) (hm : m' ≤ n) : 61 ≤ t + 1 → t + 1 + muC n m' (t + 1) Y' ≤ 87 := fun h1 => by
  by_cases h2 : 61 ≤ t
  · have := h h2; omega
  · have := muC_late (Y := Y') hn hm h1; omega
theorem val_snoc {m : Nat} {X Y : Nat → Int} {x y : Int} (h : ∀ i, i < m → spotB (X i) (Y i) = true) (hv : spotB x y = true) : ∀ i, i < m + 1 → spotB ((fun i => if i = m then x else X i) i) ((fun i => if i = m then y else Y i) i) = true := fun i hi => by
  by_cases e : i = m
  · subst e; simpa using hv
  · simp only [if_neg e]; exact h i (by omega)
/-- Spots beside a cursor in a round: the box b has a spot. -/
structure BoxSV (W w : World) (p K b : Nat) (q : Value) (m : Nat) (X Y : Nat → Int) : Prop where
  box : ∃ x y : Int, w.cell? ⟨b, 0, none⟩ = some (.int .i64 x) ∧ w.cell? ⟨b, 1, none⟩ = some (.int .i64 y) ∧ spotB x y = true
  free : Free w b
  own : OwnR W.heap.size w q m X Y
  cur : CurAt w p K
  turn : Turned p (p + 1) W w
theorem BoxSV.step {W w w' : World} {p K K' b : Nat} {q : Value} {m : Nat} {X Y : Nat → Int} (h : BoxSV W w p K b q m X Y) (ht : Turned p (p + 1) w w') (hc : CurAt w' p K') (hpb : p < b) (hpw : p < W.heap.size) : BoxSV W w' p K' b q m X Y := by
  obtain ⟨x, y, h0, h1, h2⟩ := h.box
  exact ⟨⟨x, y, ht.cell h0 (by omega), ht.cell h1 (by omega), h2⟩, ht.free h.free (lt_of_cell h0) (by omega), h.own.turn ht hpw, hc, h.turn.trans ht⟩
theorem BoxSV.more {W w : World} {p K K' b : Nat} {q : Value} {m : Nat} {X Y : Nat → Int} (h : BoxSV W w p K b q m X Y) (hk : K ≤ K') : BoxSV W w p K' b q m X Y := ⟨h.box, h.free, h.own, h.cur.more hk, h.turn⟩
/-- The box laid anew. -/
theorem BoxSV.put {W w : World} {p K b : Nat} {q : Value} {m : Nat} {X Y : Nat → Int} (h : BoxSV W w p K b q m X Y) (hq : ∀ k, q.ownBlock = some k → k < b) (hpb : p < b) (hWb : W.heap.size ≤ b) (x y : Int) (hv : spotB x y = true) :
    BoxSV W ((w.setCell ⟨b, 0, none⟩ (.int .i64 x)).setCell ⟨b, 1, none⟩ (.int .i64 y)) p K b q m X Y ∧
    ((w.setCell ⟨b, 0, none⟩ (.int .i64 x)).setCell ⟨b, 1, none⟩ (.int .i64 y)).cell? ⟨b, 0, none⟩ = some (.int .i64 x) ∧ ((w.setCell ⟨b, 0, none⟩ (.int .i64 x)).setCell ⟨b, 1, none⟩ (.int .i64 y)).cell? ⟨b, 1, none⟩ = some (.int .i64 y) := by
  obtain ⟨x0, y0, h0, h1, _⟩ := h.box
  have q0 := (cell_set_ne (w.setCell ⟨b, 0, none⟩ (.int .i64 x)) b 1 (.int .i64 y) b 0 (by omega)).trans (cell_set_same w b 0 _ (.int .i64 x) h0)
  have q1 := cell_set_same (w.setCell ⟨b, 0, none⟩ (.int .i64 x)) b 1 _ (.int .i64 y) ((cell_set_ne w b 0 (.int .i64 x) b 1 (by omega)).trans h1)
  have hb : Below b w ((w.setCell ⟨b, 0, none⟩ (.int .i64 x)).setCell ⟨b, 1, none⟩ (.int .i64 y)) := ((Below.refl b w).setCell (p := ⟨b, 0, none⟩) (Nat.le_refl _) _).setCell (p := ⟨b, 1, none⟩) (Nat.le_refl _) _
  exact ⟨⟨⟨x, y, q0, q1, hv⟩, (h.free.set _ _).set _ _, h.own.old hb hq, h.cur.below hb hpb, h.turn.far (hb.mono hWb)⟩, q0, q1⟩
set_option maxRecDepth 100000 in
set_option maxHeartbeats 8000000 in
theorem cur_chartOfV (p K n : Nat) (w : World) (h : CurAt w p K) (hK : K ≤ 900000) (hn : n ≤ 13) :
    Calls Tryz.prog 58 #[.pointer (some ⟨p, 0, none⟩), .int .i64 n] w (AnsChartV w p (K + 50000) n) := by
  have hpw := h.lt
  go_enter Tryz.func58, Tryz.ntmps58
  go_wp2_with fail
  go_loopg [5, 6] 1900 (fun gk q i wr => ∃ m t X Y, m ≤ n ∧ i = .int .i64 (t : Nat) ∧ OwnR w.heap.size wr q m X Y ∧ (∀ i, i < m → spotB (X i) (Y i) = true) ∧ (61 ≤ t → t + muC n m t Y ≤ 87) ∧ muC n m t Y ≤ gk ∧ t + gk ≤ 1900 ∧ CurAt wr p (K + 24 * t) ∧ Turned p (p + 1) w wr)
  case atStart => exact ⟨0, 0, fun _ => 0, fun _ => 0, by omega, rfl, OwnR.nil _ _ _ _, fun i hi => absurd hi (by omega), fun h => absurd h (by omega), by simp only [muC, cntG]; omega, by omega, h.more (by omega), Turned.refl _ _ _⟩
  case round =>
    clear h
    obtain ⟨m, t, X, Y, hm, rfl, how, hval, hpot, hmu, htg, hc, ht⟩ := hrel
    obtain ⟨A, c, e1, hmc⟩ := how.shape
    subst e1
    have HO := Lib.hid how
    have HMU := Lib.hid hmu
    have HVAL := Lib.hid hval
    have HPOT := Lib.hid hpot
    have hlo := fun k hk => (World.ownsRow.lt how k hk)
    have hsw := ht.size
    have HLO := Lib.hid hlo
    clear how hmu hlo hval hpot
    by_cases hlt : m < n
    · have j1 : (m : Int) < (n : Int) := by omega
      go_wp2_with fail
      refine (cur_spotV p _ _ hc (by omega)).mono ?_
      rintro e w1 ⟨x, y, rfl, hxy, hc1, ht1⟩
      have HXY := Lib.hid hxy
      clear hxy
      have hs1 := ht1.size
      have hqb : ∀ k, (Value.slice A m c).ownBlock = some k → k < w1.heap.size := fun k hk => by have := (HLO.out k hk).2; omega
      have hpb : p < w1.heap.size := by omega
      have hWb : w.heap.size ≤ w1.heap.size := by omega
      go_upto_region 6 with fail
      generalize hW : World.alloc w1 _ = W1 at *
      have hbV : Below w1.heap.size w1 W1 := by subst hW; exact below_alloc _ _
      have hB : BoxSV w W1 p (K + 24 * t + 12) w1.heap.size (.slice A m c) m X Y := ⟨⟨x, y, by subst hW; simp [go_sem], by subst hW; simp [go_sem], HXY.out⟩, by subst hW; intro o; simp [go_sem], (HO.out.turn ht1 hpw).up hbV, hc1.up hbV, (ht.trans ht1).trans (Turned.of_below hbV)⟩
      clear hW hbV
      go_cut [23] (fun s wx => ∃ bq : Bool, s = .bool bq ∧ (bq = true → 0 < m) ∧ BoxSV w wx p (K + 24 * t + 14) w1.heap.size (.slice A m c) m X Y)
      case first =>
        by_cases hm0 : m = 0
        · subst hm0
          go_wp2_with fail
          go_meet
          exact ⟨false, rfl, (fun h => absurd h (by simp)), hB.more (by omega)⟩
        · have j2 : (m : Int) > 0 := by omega
          go_wp2_with fail
          refine (cur_one p _ 2 _ hB.cur (by omega) (by omega)).mono ?_
          rintro e w2 ⟨bq, rfl, hc2, ht2⟩
          go_wp2_with fail
          go_meet
          exact ⟨bq, rfl, fun _ => by omega, hB.step ht2 hc2 hpb hpw⟩
      case rest =>
      obtain ⟨bq, rfl, hbq, hB2⟩ := hcut
      obtain ⟨w2, rfl⟩ : ∃ W : World, W = wc := ⟨_, rfl⟩
      clear hB
      go_upto_if 23 with fail
      go_cut [8] (fun _ wx => BoxSV w wx p (K + 24 * t + 20) w1.heap.size (.slice A m c) m X Y)
      case first =>
        cases bq with
        | false =>
          go_wp2_with fail
          go_meet
          exact hB2.more (by omega)
        | true =>
          have hm0 := hbq rfl
          have hB2h := Lib.hid hB2
          have hc2 := hB2.cur
          obtain ⟨A', c', e1, _, hrow⟩ := hB2.own.ownS.spots
          injection e1 with e1 _ e2
          subst e1
          subst e2
          obtain ⟨g, o, rfl, hr2⟩ := hrow (by omega)
          have HRow := Lib.hid hr2
          have hgp := (HLO.out g rfl)
          clear hrow hr2 hB2
          go_wp2_with fail
          refine (cur_pick p _ m _ hc2 (by omega) (by omega)).mono ?_
          rintro e w3 ⟨J, rfl, hJ, hc3, ht3⟩
          have hJm : J < m := by omega
          have jJ : (J : Int) < (m : Int) := by omega
          have c0 := ht3.cell (HRow.out J hJm).1 (by omega)
          have c1 := ht3.cell (HRow.out J hJm).2 (by omega)
          have hB3 := hB2h.out.step ht3 hc3 hpb hpw
          have HB3 := Lib.hid hB3
          obtain ⟨xb, yb, g0, g1, gv⟩ := hB3.box
          have HGV := Lib.hid gv
          clear gv
          have HXJ := Lib.hid (spotB_iff.1 (HVAL.out J hJm))
          have gf0 := hB3.free 0
          have gf1 := hB3.free 1
          have hsb : w1.heap.size < w3.heap.size := lt_of_cell g0
          have hl3 : p < w3.heap.size := hc3.lt
          clear hB3
          go_wp2_with fail
          generalize hW3 : World.alloc w3 _ = W3 at *
          have hb3 : Below w3.heap.size w3 W3 := by subst hW3; exact below_alloc _ _
          have d0 : W3.cell? ⟨w3.heap.size, 0, none⟩ = some (.int .i64 (X J)) := by subst hW3; simp [go_sem]
          have d1 : W3.cell? ⟨w3.heap.size, 1, none⟩ = some (.int .i64 (Y J)) := by subst hW3; simp [go_sem]
          have hlW : w3.heap.size < W3.heap.size := lt_of_cell d0
          replace g0 := up_keep hb3 g0
          replace g1 := up_keep hb3 g1
          have gfr : Free W3 w1.heap.size := HB3.out.free.up hsb hb3
          have hcW := hc3.up hb3
          have HBW := Lib.hid (HB3.out)
          clear hW3 c0 c1 gf0 gf1
          generalize X J = xj at *
          generalize Y J = yj at *
          have hc3 := hcW
          have hlW3 : p < W3.heap.size := hcW.lt
          go_region_held3 (fun w' => w'.cell? ⟨w3.heap.size, 0, none⟩ = some (.int .i64 xj) ∧ w'.cell? ⟨w3.heap.size, 1, none⟩ = some (.int .i64 yj))
            (first | exact ⟨by assumption, by assumption⟩ | (refine ⟨?_, ?_⟩ <;> (rw [cell_set_ne, cell_set_ne] <;> first | assumption | omega)) | go_keep) (first
            | (go_at_call 80; refine (l1Least_any _ _ _).mono ?_; rintro e wz ⟨rfl, rfl⟩)
            | (go_at_call 81; (with_reducible show Calls Tryz.prog _ #[_, .slice _ 4 4] _ _); (refine (cur_among p _ _ 4 0 24 _ (CurAt.up hc5 (show Below w5.heap.size w5 _ from (by (repeat (first | with_reducible exact Below.refl _ _ | with_reducible assumption | with_reducible refine up_alloc ?_ _ | with_reducible refine up_drew ?_ | with_reducible refine up_drewN ?_ _ | (with_reducible refine up_set ?_ ?hset _; case hset => first | (simp; done) | (simp; omega) | omega) | with_reducible refine up_trans ?_ (by with_reducible assumption)))))) (by omega) (by omega) (by omega) (by first | omega | (simp; omega) | exact Nat.lt_of_lt_of_le hlW5 (show Below w5.heap.size w5 _ from (by (repeat (first | with_reducible exact Below.refl _ _ | with_reducible assumption | with_reducible refine up_alloc ?_ _ | with_reducible refine up_drew ?_ | with_reducible refine up_drewN ?_ _ | (with_reducible refine up_set ?_ ?hset _; case hset => first | (simp; done) | (simp; omega) | omega) | with_reducible refine up_trans ?_ (by with_reducible assumption))))).size) (by intro i hi; match i, hi with | 0, _ => exact ⟨0, by first | (simp [go_sem]; done) | exact litc0 _ _ _ 0 _ rfl | exact litc1 _ _ _ _ 0 _ rfl | exact litc2 _ _ _ _ 0 _ rfl | exact ht5.cell (by first | (simp [go_sem]; done) | exact litc0 _ _ _ 0 _ rfl | exact litc1 _ _ _ _ 0 _ rfl | exact litc2 _ _ _ _ 0 _ rfl) (by first | omega | (simp; omega)), by omega, by omega⟩ | 1, _ => exact ⟨8, by first | (simp [go_sem]; done) | exact litc0 _ _ _ 1 _ rfl | exact litc1 _ _ _ _ 1 _ rfl | exact litc2 _ _ _ _ 1 _ rfl | exact ht5.cell (by first | (simp [go_sem]; done) | exact litc0 _ _ _ 1 _ rfl | exact litc1 _ _ _ _ 1 _ rfl | exact litc2 _ _ _ _ 1 _ rfl) (by first | omega | (simp; omega)), by omega, by omega⟩ | 2, _ => exact ⟨16, by first | (simp [go_sem]; done) | exact litc0 _ _ _ 2 _ rfl | exact litc1 _ _ _ _ 2 _ rfl | exact litc2 _ _ _ _ 2 _ rfl | exact ht5.cell (by first | (simp [go_sem]; done) | exact litc0 _ _ _ 2 _ rfl | exact litc1 _ _ _ _ 2 _ rfl | exact litc2 _ _ _ _ 2 _ rfl) (by first | omega | (simp; omega)), by omega, by omega⟩ | 3, _ => exact ⟨3, by first | (simp [go_sem]; done) | exact litc0 _ _ _ 3 _ rfl | exact litc1 _ _ _ _ 3 _ rfl | exact litc2 _ _ _ _ 3 _ rfl | exact ht5.cell (by first | (simp [go_sem]; done) | exact litc0 _ _ _ 3 _ rfl | exact litc1 _ _ _ _ 3 _ rfl | exact litc2 _ _ _ _ 3 _ rfl) (by first | omega | (simp; omega)), by omega, by omega⟩ | (q + 4), hi => omega)).mono ?_); rintro e w6 ⟨db, rfl, hdb, hc6, ht6⟩; have htB := htA.trans ((Turned.of_below (lo := p) (hi := p + 1) (show Below w5.heap.size w5 _ from (by (repeat (first | with_reducible exact Below.refl _ _ | with_reducible assumption | with_reducible refine up_alloc ?_ _ | with_reducible refine up_drew ?_ | with_reducible refine up_drewN ?_ _ | (with_reducible refine up_set ?_ ?hset _; case hset => first | (simp; done) | (simp; omega) | omega) | with_reducible refine up_trans ?_ (by with_reducible assumption)))))).trans ht6); have b0 := htB.cell d0 (by omega); have b1 := htB.cell d1 (by omega); have b2 := htB.cell g0 (by omega); have b3 := htB.cell g1 (by omega); have b4 := htB.free gfr (by omega) (by omega); have b5 := b4 0; have b6 := b4 1)
            | (go_at_call 81; (fail_if_success (have hh := hc5)); (with_reducible show Calls Tryz.prog _ #[_, .slice _ 5 5] _ _); (refine (cur_among p _ _ 5 0 24 _ (CurAt.up hcW (show Below W3.heap.size W3 _ from (by (repeat (first | with_reducible exact Below.refl _ _ | with_reducible assumption | with_reducible refine up_alloc ?_ _ | with_reducible refine up_drew ?_ | with_reducible refine up_drewN ?_ _ | (with_reducible refine up_set ?_ ?hset _; case hset => first | (simp; done) | (simp; omega) | omega) | with_reducible refine up_trans ?_ (by with_reducible assumption)))))) (by omega) (by omega) (by omega) (by first | omega | (simp; omega)) (by intro i hi; match i, hi with | 0, _ => exact ⟨0, by first | (simp [go_sem]; done) | exact litc0 _ _ _ 0 _ rfl | exact litc1 _ _ _ _ 0 _ rfl | exact litc2 _ _ _ _ 0 _ rfl, by omega, by omega⟩ | 1, _ => exact ⟨8, by first | (simp [go_sem]; done) | exact litc0 _ _ _ 1 _ rfl | exact litc1 _ _ _ _ 1 _ rfl | exact litc2 _ _ _ _ 1 _ rfl, by omega, by omega⟩ | 2, _ => exact ⟨16, by first | (simp [go_sem]; done) | exact litc0 _ _ _ 2 _ rfl | exact litc1 _ _ _ _ 2 _ rfl | exact litc2 _ _ _ _ 2 _ rfl, by omega, by omega⟩ | 3, _ => exact ⟨24, by first | (simp [go_sem]; done) | exact litc0 _ _ _ 3 _ rfl | exact litc1 _ _ _ _ 3 _ rfl | exact litc2 _ _ _ _ 3 _ rfl, by omega, by omega⟩ | 4, _ => exact ⟨5, by first | (simp [go_sem]; done) | exact litc0 _ _ _ 4 _ rfl | exact litc1 _ _ _ _ 4 _ rfl | exact litc2 _ _ _ _ 4 _ rfl, by omega, by omega⟩ | (q + 5), hi => omega)).mono ?_); rintro e w5 ⟨da, rfl, hda, hc5, ht5⟩; have htA := (Turned.of_below (lo := p) (hi := p + 1) (show Below W3.heap.size W3 _ from (by (repeat (first | with_reducible exact Below.refl _ _ | with_reducible assumption | with_reducible refine up_alloc ?_ _ | with_reducible refine up_drew ?_ | with_reducible refine up_drewN ?_ _ | (with_reducible refine up_set ?_ ?hset _; case hset => first | (simp; done) | (simp; omega) | omega) | with_reducible refine up_trans ?_ (by with_reducible assumption)))))).trans ht5; have a0 := htA.cell d0 (by omega); have a1 := htA.cell d1 (by omega); have a2 := htA.cell g0 (by omega); have a3 := htA.cell g1 (by omega); have a4 := htA.free gfr (by omega) (by omega); have a5 := a4 0; have a6 := a4 1; have hlW5 : p < w5.heap.size := hc5.lt)
            | fail)
          all_goals
            go_wp2_with fail
            go_meet
            have hB6 : BoxSV w w6 p (K + 24 * t + 20) w1.heap.size _ m X Y := ((show BoxSV w W3 p (K + 24 * t + 16) w1.heap.size _ m X Y from ⟨⟨xb, yb, g0, g1, HGV.out⟩, gfr, HB3.out.own.up hb3, hcW, HB3.out.turn.trans (Turned.of_below hb3)⟩).step htB hc6 hpb hpw).more (by omega)
            refine (hB6.put hqb hpb hWb _ _ ?_).1
            have hq := HXJ.out
            rw [IntWalk.i64_in (xj + da) (by omega), IntWalk.i64_in (yj + db) (by omega)]
            exact spotB_iff.2 ⟨by omega, by omega⟩
      case rest =>
      have hB4 := hcut
      obtain ⟨w4, rfl⟩ : ∃ W : World, W = wc := ⟨_, rfl⟩
      clear hcut hB2
      go_upto_if 47 with fail
      go_cut [] (fun wx => ∃ x y : Int, wx.cell? ⟨w1.heap.size, 0, none⟩ = some (.int .i64 x) ∧ wx.cell? ⟨w1.heap.size, 1, none⟩ = some (.int .i64 y) ∧ (60 < t → y = 7 + (t : Int)) ∧ spotB x y = true ∧ BoxSV w wx p (K + 24 * t + 20) w1.heap.size (.slice A m c) m X Y)
      case first =>
        obtain ⟨x4, y4, g0, g1, gv⟩ := hB4.box
        have HGV := Lib.hid gv
        clear gv
        have gf0 := hB4.free 0
        have gf1 := hB4.free 1
        have HB4 := Lib.hid hB4
        clear hB4
        by_cases h60 : 60 < t
        · have j6 : (t : Int) > 60 := by omega
          go_wp2_with fail
          go_meet
          have hv7 : spotB (3 * (m : Int)) (7 + (t : Int)) = true := spotB_iff.2 (by have := HPOT.out (by omega); omega)
          obtain ⟨hp1, hp2, hp3⟩ := HB4.out.put hqb hpb hWb (3 * (m : Int)) (7 + (t : Int)) hv7
          exact ⟨_, _, hp2, hp3, fun _ => rfl, hv7, hp1⟩
        · have j6 : ¬ (t : Int) > 60 := by omega
          go_wp2_with fail
          go_meet
          exact ⟨x4, y4, g0, g1, fun h => absurd h h60, HGV.out, HB4.out⟩
      case rest =>
      obtain ⟨x5, y5, g0, g1, h5, hv5, hB5⟩ := hcut
      have HV5 := Lib.hid hv5
      clear hv5
      obtain ⟨w5, rfl⟩ : ∃ W : World, W = wc := ⟨_, rfl⟩
      have HB5 := Lib.hid hB5
      have H5 := Lib.hid h5
      have HF := Lib.hid (chFind_any (.slice A m c) m X Y x5 y5 (by omega) w5 hB5.own.ownS.spots)
      have HFv := Lib.hid (hasB_find (fun i => same x5 y5 (X i) (Y i)) m)
      clear hB4 hB5 h5
      obtain ⟨fv, hfv⟩ : ∃ fv, findV (fun i => same x5 y5 (X i) (Y i)) m = fv := ⟨_, rfl⟩
      rw [hfv] at HF HFv
      clear hfv
      go_wp2_with fail
      refine HF.out.mono ?_
      rintro e w7 ⟨rfl, hb7⟩
      have g0 := up_keep hb7 g0
      have g1 := up_keep hb7 g1
      have hs5 := HB5.out.turn.size
      have HO7 := Lib.hid ((HB5.out.own.cong (X' := fun i => if i = m then x5 else X i) (Y' := fun i => if i = m then y5 else Y i) (fun i hi => by rw [if_neg (by omega)]) (fun i hi => by rw [if_neg (by omega)])).up hb7)
      have hs7 := hb7.size
      by_cases hf : fv < 0
      · have hmu : muC n (m + 1) (t + 1) (fun i => if i = m then y5 else Y i) < muC n m t Y := by
          have a1 := cntG_le (fun i => if i = m then y5 else Y i) (7 + ((t + 1 : Nat) : Int)) (m + 1)
          unfold muC
          by_cases h60 : 60 < t
          · have e5 := H5.out h60
            have a2 : cntG (fun i => if i = m then y5 else Y i) (7 + ((t + 1 : Nat) : Int)) (m + 1) = cntG Y (7 + (t : Int) + 1) m := by
              simp only [cntG, if_true]
              rw [if_neg (by omega), cntG_cong m (fun j hj => by rw [if_neg (by omega)])]
              rw [show 7 + ((t + 1 : Nat) : Int) = 7 + (t : Int) + 1 by omega]; rfl
            have a3 := cntG_succ Y (7 + (t : Int)) m
            omega
          · omega
        have HMu := Lib.hid hmu
        clear hmu
        go_wp2_with (at_builtin; refine wpList_app_spot2 rfl (.tmp 58) (.tmp 60) rfl w.heap.size _ m (fun i => if i = m then x5 else X i) (fun i => if i = m then y5 else Y i) rfl rfl (if_pos rfl) (if_pos rfl) (by simp [go_sem]) (by simp [go_sem]) (OwnR.up HO7.out (show Below w7.heap.size w7 _ from (by (repeat (first | with_reducible exact Below.refl _ _ | with_reducible assumption | with_reducible refine up_alloc ?_ _ | with_reducible refine up_drew ?_ | with_reducible refine up_drewN ?_ _ | (with_reducible refine up_set ?_ ?hset _; case hset => first | (simp; done) | (simp; omega) | omega) | with_reducible refine up_trans ?_ (by with_reducible assumption)))))) (Nat.le_trans (show w.heap.size ≤ w7.heap.size from by omega) (show Below w7.heap.size w7 _ from (by (repeat (first | with_reducible exact Below.refl _ _ | with_reducible assumption | with_reducible refine up_alloc ?_ _ | with_reducible refine up_drew ?_ | with_reducible refine up_drewN ?_ _ | (with_reducible refine up_set ?_ ?hset _; case hset => first | (simp; done) | (simp; omega) | omega) | with_reducible refine up_trans ?_ (by with_reducible assumption))))).size) (by omega) ?_; intro v8 w8 ho8 hb8 _ _; replace hb8 := (show Below w.heap.size w7 _ from ((show Below w7.heap.size w7 _ from (by (repeat (first | with_reducible exact Below.refl _ _ | with_reducible assumption | with_reducible refine up_alloc ?_ _ | with_reducible refine up_drew ?_ | with_reducible refine up_drewN ?_ _ | (with_reducible refine up_set ?_ ?hset _; case hset => first | (simp; done) | (simp; omega) | omega) | with_reducible refine up_trans ?_ (by with_reducible assumption))))).mono (by omega))).trans hb8)
        obtain ⟨A8, c8, e8, _⟩ := ho8.shape
        subst e8
        have hb58 := (hb7.mono hs5).trans hb8
        go_roundg (muC n (m + 1) (t + 1) (fun i => if i = m then y5 else Y i))
        case measure => have := HMU.out; have := HMu.out; omega
        case rel => exact ⟨m + 1, t + 1, _, _, by omega, by go_num, ho8, val_snoc HVAL.out HV5.out, pot_step HPOT.out HMu.out hn (by omega), Nat.le_refl _, by have := HMU.out; have := HMu.out; omega, (HB5.out.cur.below hb58 hpw).more (by omega), HB5.out.turn.far hb58⟩
      · have hmu : muC n m (t + 1) Y < muC n m t Y := by
          have a1 := cntG_le Y (7 + ((t + 1 : Nat) : Int)) m
          unfold muC
          by_cases h60 : 60 < t
          · have e5 := H5.out h60
            have hh := HFv.out
            rw [decide_eq_true (show 0 ≤ fv by omega)] at hh
            have hh2 : ∃ j, j < m ∧ Y j = y5 := by
              by_cases q : ∃ j, j < m ∧ Y j = y5
              · exact q
              · exfalso
                unfold hasB at hh
                rw [show allB (fun i => !same x5 y5 (X i) (Y i)) m = true from allB_iff.2 fun i hi => by
                  have : ¬ Y i = y5 := fun e => q ⟨i, hi, e⟩
                  simp [same]; omega] at hh
                simp at hh
            obtain ⟨j, hj, ej⟩ := hh2
            have a2 := cntG_drop (Y := Y) (t := 7 + (t : Int)) hj (by omega)
            rw [show 7 + ((t + 1 : Nat) : Int) = 7 + (t : Int) + 1 by omega] at *
            omega
          · omega
        have HMu := Lib.hid hmu
        clear hmu
        have HO8 := Lib.hid (HB5.out.own.up hb7)
        go_wp2_with fail
        go_roundg (muC n m (t + 1) Y)
        case measure => have := HMU.out; have := HMu.out; omega
        case rel => exact ⟨m, t + 1, X, Y, by omega, by go_num, HO8.out, HVAL.out, pot_step HPOT.out HMu.out hn (by omega), Nat.le_refl _, by have := HMU.out; have := HMu.out; omega, (HB5.out.cur.up hb7).more (by omega), HB5.out.turn.far (hb7.mono hs5)⟩
    · have e : m = n := by omega
      subst e
      go_wp2_with fail
      go_ret
      exact ⟨_, X, Y, rfl, HO.out, HVAL.out, hc.more (by omega), ht⟩
set_option maxRecDepth 100000 in
theorem cur_chartV (p K : Nat) (w : World) (h : CurAt w p K) (hK : K ≤ 800000) :
    Calls Tryz.prog 40 #[.pointer (some ⟨p, 0, none⟩)] w (fun e w' => ∃ v n X Y, 0 < n ∧ n ≤ 12 ∧ e = .returned v ∧ OwnR w.heap.size w' v n X Y ∧ (∀ i, i < n → spotB (X i) (Y i) = true) ∧ CurAt w' p (K + 50010) ∧ Turned p (p + 1) w w') := by
  have hpw := h.lt
  go_enter Tryz.func40, Tryz.ntmps40
  go_wp2_with fail
  refine (cur_one p K 20 _ h (by omega) (by omega)).mono ?_
  rintro e w1 ⟨q, rfl, hc1, ht1⟩
  have hs1 := ht1.size
  cases q with
  | true =>
    go_wp2_with fail
    refine (cur_chartOfV p _ 12 _ hc1 (by omega) (by omega)).mono ?_
    rintro e w2 ⟨v, X, Y, rfl, ho, hv, hc2, ht2⟩
    go_wp2_with fail
    go_ret
    exact ⟨_, 12, X, Y, by omega, by omega, rfl, World.ownsRow.mono ho hs1, hv, hc2.more (by omega), ht1.trans ht2⟩
  | false =>
    go_wp2_with fail
    refine (cur_pick p _ 6 _ hc1 (by omega) (by omega)).mono ?_
    rintro e w2 ⟨a, rfl, ha, hc2, ht2⟩
    have hs2 := ht2.size
    go_wp2_with fail
    rw [show ((1 : Int) + (a : Int)) = ((1 + a : Nat) : Int) by omega]
    refine (cur_chartOfV p _ (1 + a) _ hc2 (by omega) (by omega)).mono ?_
    rintro e w3 ⟨v, X, Y, rfl, ho, hv, hc3, ht3⟩
    go_wp2_with fail
    go_ret
    exact ⟨_, 1 + a, X, Y, by omega, by omega, rfl, World.ownsRow.mono ho (by omega), hv, hc3.more (by omega), (ht1.trans ht2).trans ht3⟩
end Go.Proofs.YtbfhfjpfjkdcfaaGreatDoor
namespace Go.Proofs.YtbfhfjpfjkdcfaaGreatDoor
open Go.RowKit Go.ChangeShapes Go.WideShapes Go.Sort Go.Proofs

/-- Returned: a text of at most m bytes; beside it only the cursor has turned. -/
def AnsTxt (w : World) (p K m : Nat) (e : Ending) (w' : World) : Prop := ∃ t : List UInt8, e = .returned (.string (bS t)) ∧ t.length ≤ m ∧ CurAt w' p K ∧ Turned p (p + 1) w w'
set_option maxRecDepth 100000 in
set_option maxHeartbeats 4000000 in
theorem cur_spoilt (p K : Nat) (l u : List UInt8) (w : World) (h : CurAt w p K) (hK : K ≤ 1000000) (hl : l.length ≤ 1000) (hu : 1 ≤ u.length) (hu2 : u.length ≤ 100) :
    Calls Tryz.prog 42 #[.pointer (some ⟨p, 0, none⟩), .string (bS l), .string (bS u)] w (AnsTxt w p (K + 20) (l.length + 2)) := by
  have hpw := h.lt
  have hsu := bS_size u
  obtain ⟨k, hk⟩ : ∃ k, k = u.length := ⟨_, rfl⟩
  rw [← hk] at hsu hu hu2
  have HKU := Lib.hid hk
  obtain ⟨L, hL⟩ : ∃ L, L = l.length := ⟨_, rfl⟩
  rw [← hL] at hl ⊢
  have HL := Lib.hid hL
  clear hk hL
  go_enter Tryz.func42, Tryz.ntmps42
  go_wp2_with fail
  refine (cur_pick p K 2 _ h (by omega) (by omega)).mono ?_
  rintro e w1 ⟨x, rfl, hx, hc1, ht1⟩
  go_wp2_with fail
  go_loopw [1, 7] (fun t i wr => ∃ (m : Nat) (s : List UInt8), m ≤ 2 ∧ t = .string (bS s) ∧ i = .int .i64 m ∧ s.length + m ≤ L + 2 ∧ CurAt wr p (K + 2 + 6 * (2 - m)) ∧ Turned p (p + 1) w wr) (fun _ i _ => (intOf i).toNat)
  case atStart => exact ⟨1 + x, l, by omega, rfl, by go_num, by have := HL.out; omega, hc1.more (by omega), ht1⟩
  case round =>
    obtain ⟨m, s, hm, rfl, rfl, hsl, hc, ht⟩ := hrel
    have hss := bS_size s
    obtain ⟨n, hn⟩ : ∃ n, n = s.length := ⟨_, rfl⟩
    rw [← hn] at hss hsl
    have HN := Lib.hid hn
    clear hn h
    by_cases hm0 : m = 0
    · have j1 : ¬ (m : Int) > 0 := by omega
      go_wp2_with fail
      go_ret
      exact ⟨s, rfl, by have := HN.out; omega, hc.more (by omega), ht⟩
    · have j1 : (m : Int) > 0 := by omega
      by_cases hn0 : n = 0
      · have j2 : ¬ (n : Int) > 0 := by omega
        go_wp2_with fail
        go_ret
        exact ⟨s, rfl, by have := HN.out; omega, hc.more (by omega), ht⟩
      · have j2 : (n : Int) > 0 := by omega
        go_wp2_with fail
        refine (cur_pick p _ n _ hc (by omega) (by omega)).mono ?_
        rintro e w2 ⟨I, rfl, hI, hc2, ht2⟩
        have hIn : I < n := by omega
        go_wp2_with fail
        refine (cur_pick p _ k _ hc2 (by omega) (by omega)).mono ?_
        rintro e w3 ⟨J, rfl, hJ, hc3, ht3⟩
        have hJk : J < k := by omega
        obtain ⟨c, hcu⟩ : ∃ c, u[J]? = some c := ⟨u[J]'(by rw [← HKU.out]; exact hJk), List.getElem?_eq_getElem _⟩
        have hgk : ∀ h, (bS u)[J]'h = c := fun h => bS_get u J c hcu h
        have hcv := byte_str (P := Tryz.prog) Tryz.underlying22 (by kernel_rfl) Tryz.underlying9 (w3.alloc (.cells #[.int .u8 ((c.toNat : Nat) : Int)] 5)) w3.heap.size c.toNat (UInt8.toNat_lt c) (cell_one_new w3 (.int .u8 ((c.toNat : Nat) : Int)) _ 0 _ rfl)
        rw [ofNat_toNat] at hcv
        clear hcu
        go_wp2_with fail
        have hb3 : Below w3.heap.size w3 (w3.alloc (.cells #[.int .u8 ((c.toNat : Nat) : Int)] 5)) := below_alloc _ _
        refine (cur_pick p _ 3 _ (hc3.up (below_alloc _ _)) (by omega) (by omega)).mono ?_
        rintro e w4 ⟨y, rfl, hy, hc4, ht4⟩
        have ht14 := (((ht.trans ht2).trans ht3).trans (Turned.of_below (below_alloc _ _))).trans ht4
        have he1 : (bS s).extract 0 I = bS (s.take I) := by rw [bS_cut]; rfl
        have hl1 : (s.take I).length = I := by rw [List.length_take, ← HN.out]; omega
        have h1 : ∀ w : World, (Op.stringOp .add (bS (s.take I)) (bS [c])).run Tryz.prog w = .ok (.string (bS (s.take I ++ [c]))) w := add_bS (s.take I) [c] (by rw [hl1]; simp; omega)
        have he2 : (bS s).extract I n = bS (s.drop I) := by rw [bS_cut, List.take_of_length_le (by rw [List.length_drop, ← HN.out]; omega)]
        have he3 : (bS s).extract (I + 1) n = bS (s.drop (I + 1)) := by rw [bS_cut, List.take_of_length_le (by rw [List.length_drop, ← HN.out]; omega)]
        have hl2 : (s.drop I).length = n - I := by rw [List.length_drop, ← HN.out]
        have hl3 : (s.drop (I + 1)).length = n - (I + 1) := by rw [List.length_drop, ← HN.out]
        have h2 : ∀ w : World, (Op.stringOp .add (bS (s.take I ++ [c])) (bS (s.drop I))).run Tryz.prog w = .ok (.string (bS (s.take I ++ [c] ++ s.drop I))) w := add_bS (s.take I ++ [c]) (s.drop I) (by rw [List.length_append, hl1, hl2]; simp; omega)
        have h3 : ∀ w : World, (Op.stringOp .add (bS (s.take I ++ [c])) (bS (s.drop (I + 1)))).run Tryz.prog w = .ok (.string (bS (s.take I ++ [c] ++ s.drop (I + 1)))) w := add_bS (s.take I ++ [c]) (s.drop (I + 1)) (by rw [List.length_append, hl1, hl3]; simp; omega)
        have h4 : ∀ w : World, (Op.stringOp .add (bS (s.take I)) (bS (s.drop (I + 1)))).run Tryz.prog w = .ok (.string (bS (s.take I ++ s.drop (I + 1)))) w := add_bS (s.take I) (s.drop (I + 1)) (by rw [hl1, hl3]; omega)
        have hz1 := Lib.hid (show (s.take I ++ [c] ++ s.drop I).length ≤ n + 1 by rw [List.length_append, List.length_append, hl1, hl2]; simp; omega)
        have hz2 := Lib.hid (show (s.take I ++ [c] ++ s.drop (I + 1)).length ≤ n + 1 by rw [List.length_append, List.length_append, hl1, hl3]; simp; omega)
        have hz3 := Lib.hid (show (s.take I ++ s.drop (I + 1)).length ≤ n + 1 by rw [List.length_append, hl1, hl3]; omega)
        clear hl1 hl2 hl3
        generalize s.take I ++ [c] ++ s.drop I = t1 at *
        generalize s.take I ++ [c] ++ s.drop (I + 1) = t2 at *
        generalize s.take I ++ s.drop (I + 1) = t3 at *
        generalize s.take I ++ [c] = t4 at *
        generalize s.take I = t5 at *
        generalize s.drop I = t6 at *
        generalize s.drop (I + 1) = t7 at *
        have hms := hsl
        clear HN HL HKU
        by_cases y0 : y = 0
        · subst y0
          go_wp2_with fail
          go_quiet (fail)
          have hb5 : Below w4.heap.size w4 (w4.drewN nq) := up_drewN (Below.refl _ _) nq
          go_wp2_with fail
          go_roundw
          case rel => exact ⟨m - 1, t1, by omega, rfl, by go_num, by have := hz1.out; omega, (hc4.up hb5).more (by omega), ht14.trans (Turned.of_below hb5)⟩
          case measure => simp [intOf]; omega
        · have jy0 : ¬ (y : Int) = 0 := by omega
          by_cases y1 : y = 1
          · subst y1
            go_wp2_with fail
            go_quiet (fail)
            have hb5 : Below w4.heap.size w4 (w4.drewN nq) := up_drewN (Below.refl _ _) nq
            go_wp2_with fail
            go_roundw
            case rel => exact ⟨m - 1, t2, by omega, rfl, by go_num, by have := hz2.out; omega, (hc4.up hb5).more (by omega), ht14.trans (Turned.of_below hb5)⟩
            case measure => simp [intOf]; omega
          · have jy1 : ¬ (y : Int) = 1 := by omega
            go_wp2_with fail
            go_quiet (fail)
            have hb5 : Below w4.heap.size w4 (w4.drewN nq) := up_drewN (Below.refl _ _) nq
            go_wp2_with fail
            go_roundw
            case rel => exact ⟨m - 1, t3, by omega, rfl, by go_num, by have := hz3.out; omega, (hc4.up hb5).more (by omega), ht14.trans (Turned.of_below hb5)⟩
            case measure => simp [intOf]; omega
end Go.Proofs.YtbfhfjpfjkdcfaaGreatDoor
namespace Go.Proofs.YtbfhfjpfjkdcfaaGreatDoor
open Go.RowKit Go.ChangeShapes Go.WideShapes Go.Sort Go.Proofs

set_option maxRecDepth 100000 in
theorem drawIsChart_g (v : Value) (n : Nat) (w : World) (h : Bytes w v n) (hn : n ≤ 9223372036854775807) :
    Calls Tryz.prog 23 #[v] w (fun e w' => ∃ t m X Y, e = .returned t ∧ Spots w' t m X Y ∧ m ≤ 13 ∧ Below w.heap.size w w') := by
  obtain ⟨A, c, rfl, hc, hr⟩ := h
  have HC := Lib.hid (fun t => curAt_new ⟨A, c, rfl, hc, hr⟩ hn t)
  clear hr
  go_enter Tryz.func23, Tryz.ntmps23
  go_wp2_with fail
  refine (cur_anyChart w.heap.size 0 _ (HC.out _) (by omega)).mono ?_
  rintro e w1 ⟨v1, n1, hn1, rfl, ⟨X, Y, ho⟩, hc1, ht1⟩
  go_wp2_with fail
  go_ret
  exact ⟨_, n1, X, Y, rfl, ho.spots, hn1, cur_below ht1⟩
set_option maxRecDepth 100000 in
theorem drawChartText_g (v : Value) (n : Nat) (w : World) (h : Bytes w v n) (hn : n ≤ 9223372036854775807) :
    Calls Tryz.prog 5 #[v] w (fun e w' => ∃ t m X Y, e = .returned t ∧ Spots w' t m X Y ∧ m ≤ 13 ∧ Below w.heap.size w w') := by
  have HD := Lib.hid (drawIsChart_g v n w h hn)
  go_enter Tryz.func5, Tryz.ntmps5
  go_wp2_with fail
  refine (HD.out).mono ?_
  rintro e w1 ⟨t, m, X, Y, rfl, hs, hm, hb⟩
  go_wp2_with fail
  go_ret
  exact ⟨t, m, X, Y, rfl, hs, hm, hb⟩
set_option maxRecDepth 100000 in
set_option maxHeartbeats 1000000 in
theorem drawParseChart_g (v : Value) (n : Nat) (w : World) (h : Bytes w v n) (hn : n ≤ 9223372036854775807) :
    Calls Tryz.prog 21 #[v] w (fun e w' => ∃ t : List UInt8, e = .returned (.string (bS t)) ∧ t.length ≤ 200 ∧ Below w.heap.size w w') := by
  obtain ⟨A, c, rfl, hc, hr⟩ := h
  have HC := Lib.hid (fun t => curAt_new ⟨A, c, rfl, hc, hr⟩ hn t)
  clear hr
  go_enter Tryz.func21, Tryz.ntmps21
  go_wp2_with fail
  refine (cur_chartV w.heap.size 0 _ (HC.out _) (by omega)).mono ?_
  rintro e w1 ⟨v1, n1, X, Y, hn0, hn1, rfl, ho, hv, hc1, ht1⟩
  have hs : ∀ i, i < n1 → (0 ≤ X i ∧ X i ≤ 1280) ∧ 0 ≤ Y i ∧ Y i ≤ 672 := fun i hi => spotB_iff.1 (hv i hi)
  have hl := tx_len hs
  have HT := Lib.hid (chText_s v1 n1 X Y w1 ho.ownS.spots hn1 hs)
  clear hs hv
  generalize txL X Y n1 = l at *
  go_wp2_with fail
  refine (HT.out).mono ?_
  rintro e w2 ⟨rfl, hb2⟩
  go_wp2_with fail
  refine (cur_one w.heap.size _ 3 _ (hc1.up hb2) (by omega) (by omega)).mono ?_
  rintro e w3 ⟨q, rfl, hc3, ht3⟩
  have ht13 := (ht1.trans (Turned.of_below hb2)).trans ht3
  cases q with
  | true =>
    go_wp2_with fail
    refine (cur_spoilt w.heap.size _ l [48, 49, 56, 43, 44, 10] _ hc3 (by omega) (by omega) (by simp) (by simp)).mono ?_
    rintro e w4 ⟨t, rfl, htl, hc4, ht4⟩
    go_wp2_with fail
    go_ret
    exact ⟨t, rfl, by omega, cur_below (ht13.trans ht4)⟩
  | false =>
    go_wp2_with fail
    go_ret
    exact ⟨l, rfl, by omega, cur_below ht13⟩
set_option maxRecDepth 100000 in
set_option maxHeartbeats 1000000 in
theorem iSquareOf_ok (x y u v : Int) (h : spotB x y = true) (h' : spotB u v = true) (w : World) :
    Calls Tryz.prog 20 #[.agg #[.int .i64 x, .int .i64 y], .agg #[.int .i64 u, .int .i64 v]] w (Ans w (.tuple #[.int .i64 (sq x y u v), .bool true])) := by
  go_enter Tryz.func20, Tryz.ntmps20
  go_wp2_with (first | (go_at_call 35; refine (from0 (isSpot_any _ _ _) (by first | exact hb0 | exact up_alloc hb0 _ | exact up_drew hb0 | exact up_drewN hb0 _ | exact Below.refl _ _)).mono ?_; rintro e w1 ⟨rfl, hb0⟩; obtain ⟨hc0, hf0⟩ := bcell hb0) | (go_at_call 33; refine (from0 (squareOf_any _ _ _ _ h h' _) (by first | exact hb0 | exact up_alloc hb0 _ | exact up_drew hb0 | exact up_drewN hb0 _ | exact Below.refl _ _)).mono ?_; rintro e w1 ⟨rfl, hb0⟩; obtain ⟨hc0, hf0⟩ := bcell hb0))
  go_ret2
  exact ⟨rfl, by (repeat (first | with_reducible exact Below.refl _ _ | with_reducible assumption | with_reducible refine up_alloc ?_ _ | with_reducible refine up_drew ?_ | with_reducible refine up_drewN ?_ _ | (with_reducible refine up_set ?_ ?hset _; case hset => first | (simp; done) | (simp; omega) | omega) | with_reducible refine up_trans ?_ (by with_reducible assumption)))⟩
set_option maxHeartbeats 1000000 in
theorem sameInts_g (v v' : Value) (n : Nat) (X : Nat → Int) (w : World) (h : Ints w v n X) (h' : Ints w v' n X) (hn : n ≤ 1048576) :
    Calls Tryz.prog 17 #[v, v'] w (Ans w (.bool true)) := by
  obtain ⟨A, c, rfl, hnc, hrow⟩ := h
  obtain ⟨A', c', rfl, hnc', hrow'⟩ := h'
  go_enter Tryz.func17, Tryz.ntmps17
  go_wp2_with fail
  go_loopw [13] (fun i wr => ∃ k : Nat, k ≤ n ∧ i = .int .i64 k ∧ Below w.heap.size w wr) (fun i _ => n - (intOf i).toNat)
  case atStart => exact ⟨0, by omega, rfl, Below.refl _ _⟩
  case round =>
    obtain ⟨k, hk, rfl, hb⟩ := hrel
    by_cases hlt : k < n
    · obtain ⟨b, o, rfl, hr⟩ := hrow (by omega)
      obtain ⟨b', o', rfl, hr'⟩ := hrow' (by omega)
      have c1 := cell_regrown (up_keep hb (hr k hlt))
      have c3 := cell_regrown (up_keep hb (hr' k hlt))
      clear hr hr' hrow hrow'
      have hq' : (X k != X k) = false := by simp
      go_wp2_with fail
      refine wp_region_up (by kernel_rfl) (by kernel_rfl) ?_
      repeat (go_big_quiet_step (fail))
      refine wpQuiet_nil ?_
      intro w1 hb0
      obtain ⟨hc0, hf0⟩ := bcell hb0
      go_wp2_with fail
      go_roundw
      case rel => exact ⟨k + 1, by omega, by go_num, up_trans hb hb0⟩
      case measure => simp [intOf]; omega
    · have e : k = n := by omega
      subst e
      go_wp2_with fail
      go_ret
      exact Ans.bool rfl hb
end Go.Proofs.YtbfhfjpfjkdcfaaGreatDoor
