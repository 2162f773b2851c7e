/- Words and contracts, part 5. -/
import Derived.Test.YtljdhicmcmppgaaRows
import Derived.BigQuiet
import Derived.Deep.LoopGhost
import Derived.Deep.Onto
import Derived.Deep.CutRange
import Derived.Deep.DeepCutAuto
import Derived.Deep.RegionHeld3
import Derived.Test.YtljdhicmcmppgaaZ4
namespace Go.Proofs.Ytljdhicmcmppgaa
open Go.RowKit Go.ChangeShapes Go.WideShapes Go.Sort

/-- Returned: a spot; beside it only the cursor has turned. -/
def AnsSpot (w : World) (p K : Nat) (e : Ending) (w' : World) : Prop := ∃ x y : Int, e = .returned (.agg #[.int .i64 x, .int .i64 y]) ∧ CurAt w' p K ∧ Turned p (p + 1) w w'
set_option maxRecDepth 100000 in
set_option maxHeartbeats 4000000 in
theorem cur_spot (p K : Nat) (w : World) (h : CurAt w p K) (hK : K ≤ 1000000) :
    Calls Try.prog 76 #[.pointer (some ⟨p, 0, none⟩)] w (AnsSpot w p (K + 12)) := by
  have hpw := h.lt
  go_enter Try.func76, Try.ntmps76
  go_wp2_with fail
  generalize hW : World.alloc w _ = W0 at *
  have hbW : Below w.heap.size w W0 := by subst hW; exact below_alloc _ _
  have k0 : W0.cell? ⟨w.heap.size, 0, none⟩ = some (.int .i64 0) := by subst hW; simp [go_sem]
  have k1 : W0.cell? ⟨w.heap.size, 1, none⟩ = some (.int .i64 0) := by subst hW; simp [go_sem]
  have kf : Free W0 w.heap.size := by subst hW; intro o; simp [go_sem]
  have hlt0 : w.heap.size < W0.heap.size := lt_of_cell k0
  clear hW
  refine (cur_pick p K 161 _ (h.up hbW) (by omega) (by omega)).mono ?_
  rintro e w1 ⟨a, rfl, ha, hc1, ht1⟩
  go_wp2_with fail
  refine (cur_pick p _ 1281 _ hc1 (by omega) (by omega)).mono ?_
  rintro e w2 ⟨b, rfl, hb, hc2, ht2⟩
  have hl2 : p < w2.heap.size := hc2.lt
  go_wp2_with fail
  refine (cur_among p _ _ 7 0 1288 _ (hc2.up (below_alloc _ _)) (by omega) (by omega) (by omega) hl2 (by intro i hi; match i, hi with | 0, _ => exact ⟨0, by simp [go_sem], by omega, by omega⟩ | 1, _ => exact ⟨80, by simp [go_sem], by omega, by omega⟩ | 2, _ => exact ⟨160, by simp [go_sem], by omega, by omega⟩ | 3, _ => exact ⟨640, by simp [go_sem], by omega, by omega⟩ | 4, _ => exact ⟨(8 * (a : Int)), by simp [go_sem], by omega, by omega⟩ | 5, _ => exact ⟨(b : Int), by simp [go_sem], by omega, by omega⟩ | 6, _ => exact ⟨1280, by simp [go_sem], by omega, by omega⟩ | (q + 7), hi => omega)).mono ?_
  rintro e w3 ⟨x, rfl, hx, hc3, ht3⟩
  have ht13 := ((ht1.trans ht2).trans (Turned.of_below (below_alloc _ _))).trans ht3
  go_wp2_with fail
  refine (cur_pick p _ 85 _ hc3 (by omega) (by omega)).mono ?_
  rintro e w4 ⟨c, rfl, hc, hc4, ht4⟩
  go_wp2_with fail
  refine (cur_pick p _ 673 _ hc4 (by omega) (by omega)).mono ?_
  rintro e w5 ⟨d, rfl, hd, hc5, ht5⟩
  have hl5 : p < w5.heap.size := hc5.lt
  go_wp2_with fail
  refine (cur_among p _ _ 6 0 1288 _ (hc5.up (below_alloc _ _)) (by omega) (by omega) (by omega) hl5 (by intro i hi; match i, hi with | 0, _ => exact ⟨0, by simp [go_sem], by omega, by omega⟩ | 1, _ => exact ⟨80, by simp [go_sem], by omega, by omega⟩ | 2, _ => exact ⟨336, by simp [go_sem], by omega, by omega⟩ | 3, _ => exact ⟨(8 * (c : Int)), by simp [go_sem], by omega, by omega⟩ | 4, _ => exact ⟨(d : Int), by simp [go_sem], by omega, by omega⟩ | 5, _ => exact ⟨672, by simp [go_sem], by omega, by omega⟩ | (q + 6), hi => omega)).mono ?_
  rintro e w6 ⟨y, rfl, hy, hc6, ht6⟩
  have ht16 := (((ht13.trans ht4).trans ht5).trans (Turned.of_below (below_alloc _ _))).trans ht6
  have c0 := ht16.cell k0 (by omega)
  have c1 := ht16.cell k1 (by omega)
  have f0 := ht16.free kf hlt0 (by omega) 0
  have f1 := ht16.free kf hlt0 (by omega) 1
  go_wp2_with fail
  have q0 := (cell_set_ne (w6.setCell ⟨w.heap.size, 0, none⟩ (.int .i64 x)) (w.heap.size) 1 (.int .i64 y) (w.heap.size) 0 (by omega)).trans (cell_set_same w6 (w.heap.size) 0 _ (.int .i64 x) c0)
  have q1 := cell_set_same (w6.setCell ⟨w.heap.size, 0, none⟩ (.int .i64 x)) (w.heap.size) 1 _ (.int .i64 y) ((cell_set_ne w6 (w.heap.size) 0 (.int .i64 x) (w.heap.size) 1 (by omega)).trans c1)
  have hb9 : Below w.heap.size w6 ((w6.setCell ⟨w.heap.size, 0, none⟩ (.int .i64 x)).setCell ⟨w.heap.size, 1, none⟩ (.int .i64 y)) := ((Below.refl w.heap.size w6).setCell (p := ⟨w.heap.size, 0, none⟩) (Nat.le_refl _) _).setCell (p := ⟨w.heap.size, 1, none⟩) (Nat.le_refl _) _
  generalize World.setCell (World.setCell w6 _ _) _ _ = w9 at *
  refine bodyPost_ret (v := .agg #[.int .i64 x, .int .i64 y]) (by simp [results, Try.results76, go_sem, q0, q1]) rfl ?_
  exact ⟨x, y, rfl, (hc6.below hb9 hpw).more (by omega), ((Turned.of_below hbW).trans ht16).far hb9⟩
set_option maxRecDepth 100000 in
set_option maxHeartbeats 4000000 in
theorem cur_anySpot (p K : Nat) (w : World) (h : CurAt w p K) (hK : K ≤ 1000000) :
    Calls Try.prog 77 #[.pointer (some ⟨p, 0, none⟩)] w (AnsSpot w p (K + 20)) := by
  have hpw := h.lt
  go_enter Try.func77, Try.ntmps77
  go_wp2_with fail
  generalize hW : World.alloc w _ = W0 at *
  have hbW : Below w.heap.size w W0 := by subst hW; exact below_alloc _ _
  have k0 : W0.cell? ⟨w.heap.size, 0, none⟩ = some (.int .i64 0) := by subst hW; simp [go_sem]
  have k1 : W0.cell? ⟨w.heap.size, 1, none⟩ = some (.int .i64 0) := by subst hW; simp [go_sem]
  have kf : Free W0 w.heap.size := by subst hW; intro o; simp [go_sem]
  have hlt0 : w.heap.size < W0.heap.size := lt_of_cell k0
  clear hW
  refine (cur_spot p K _ (h.up hbW) (by omega)).mono ?_
  rintro e w1 ⟨x, y, rfl, hc1, ht1⟩
  go_wp2_with fail
  generalize hW : World.alloc w1 _ = W1 at *
  have hbV : Below w1.heap.size w1 W1 := by subst hW; exact below_alloc _ _
  have g0 : W1.cell? ⟨w1.heap.size, 0, none⟩ = some (.int .i64 x) := by subst hW; simp [go_sem]
  have g1 : W1.cell? ⟨w1.heap.size, 1, none⟩ = some (.int .i64 y) := by subst hW; simp [go_sem]
  have gf : Free W1 w1.heap.size := by subst hW; intro o; simp [go_sem]
  have hlt1 : w1.heap.size < W1.heap.size := lt_of_cell g0
  have hs1 := ht1.size
  clear hW
  refine (cur_pick p _ 30 _ (hc1.up hbV) (by omega) (by omega)).mono ?_
  rintro e w2 ⟨n, rfl, hn, hc2, ht2⟩
  have htW := (ht1.trans (Turned.of_below hbV)).trans ht2
  have hsW := hbW.size
  have hlw : w.heap.size < w1.heap.size := by omega
  have hlp : p < w1.heap.size := by omega
  by_cases n0 : n = 0
  · subst n0
    have hl2 : p < w2.heap.size := hc2.lt
    go_wp2_with fail
    refine (cur_among p _ _ 2 (-1) 1281 _ (hc2.up (below_alloc _ _)) (by omega) (by omega) (by omega) hl2 (by intro i hi; match i, hi with | 0, _ => exact ⟨(-1), by simp [go_sem], by omega, by omega⟩ | 1, _ => exact ⟨1281, by simp [go_sem], by omega, by omega⟩ | (q + 2), hi => omega)).mono ?_
    rintro e w3 ⟨z, rfl, hz, hc3, ht3⟩
    have hta := (Turned.of_below (lo := p) (hi := p + 1) (below_alloc w2 _)).trans ht3
    have a0 := (ht2.trans hta).cell g0 (by omega)
    have a1 := (ht2.trans hta).cell g1 (by omega)
    have af := (ht2.trans hta).free gf hlt1 (by omega)
    have af0 := af 0
    have af1 := af 1
    have b0 := (htW.trans hta).cell k0 (by omega)
    have b1 := (htW.trans hta).cell k1 (by omega)
    have bf := (htW.trans hta).free kf hlt0 (by omega)
    have bf0 := bf 0
    have bf1 := bf 1
    go_wp2_with fail
    have c0 := (cell_set_ne w3 w1.heap.size 0 (.int .i64 z) w.heap.size 0 (by omega)).trans b0
    have c1 := (cell_set_ne w3 w1.heap.size 0 (.int .i64 z) w.heap.size 1 (by omega)).trans b1
    have hb8 : Below w.heap.size w3 (w3.setCell ⟨w1.heap.size, 0, none⟩ (.int .i64 z)) := (Below.refl w.heap.size w3).setCell (p := ⟨w1.heap.size, 0, none⟩) (by show w.heap.size ≤ w1.heap.size; omega) _
    have q0 := (cell_set_ne ((w3.setCell ⟨w1.heap.size, 0, none⟩ (.int .i64 z)).setCell ⟨w.heap.size, 0, none⟩ (.int .i64 z)) (w.heap.size) 1 (.int .i64 y) (w.heap.size) 0 (by omega)).trans (cell_set_same (w3.setCell ⟨w1.heap.size, 0, none⟩ (.int .i64 z)) (w.heap.size) 0 _ (.int .i64 z) c0)
    have q1 := cell_set_same ((w3.setCell ⟨w1.heap.size, 0, none⟩ (.int .i64 z)).setCell ⟨w.heap.size, 0, none⟩ (.int .i64 z)) (w.heap.size) 1 _ (.int .i64 y) ((cell_set_ne (w3.setCell ⟨w1.heap.size, 0, none⟩ (.int .i64 z)) (w.heap.size) 0 (.int .i64 z) (w.heap.size) 1 (by omega)).trans c1)
    have hb9 : Below w.heap.size (w3.setCell ⟨w1.heap.size, 0, none⟩ (.int .i64 z)) (((w3.setCell ⟨w1.heap.size, 0, none⟩ (.int .i64 z)).setCell ⟨w.heap.size, 0, none⟩ (.int .i64 z)).setCell ⟨w.heap.size, 1, none⟩ (.int .i64 y)) := ((Below.refl w.heap.size (w3.setCell ⟨w1.heap.size, 0, none⟩ (.int .i64 z))).setCell (p := ⟨w.heap.size, 0, none⟩) (Nat.le_refl _) _).setCell (p := ⟨w.heap.size, 1, none⟩) (Nat.le_refl _) _
    generalize World.setCell (World.setCell (w3.setCell ⟨w1.heap.size, 0, none⟩ (.int .i64 z)) _ _) _ _ = w9 at *
    refine bodyPost_ret (v := .agg #[.int .i64 z, .int .i64 y]) (by simp [results, Try.results77, go_sem, q0, q1]) rfl ?_
    exact ⟨z, y, rfl, ((hc3.below hb8 hpw).below hb9 hpw).more (by omega), ((((Turned.of_below hbW).trans htW).trans hta).far hb8).far hb9⟩
  · by_cases n1 : n = 1
    · subst n1
      have hl2 : p < w2.heap.size := hc2.lt
      go_wp2_with fail
      refine (cur_among p _ _ 2 (-1) 1281 _ (hc2.up (below_alloc _ _)) (by omega) (by omega) (by omega) hl2 (by intro i hi; match i, hi with | 0, _ => exact ⟨(-1), by simp [go_sem], by omega, by omega⟩ | 1, _ => exact ⟨673, by simp [go_sem], by omega, by omega⟩ | (q + 2), hi => omega)).mono ?_
      rintro e w3 ⟨z, rfl, hz, hc3, ht3⟩
      have hta := (Turned.of_below (lo := p) (hi := p + 1) (below_alloc w2 _)).trans ht3
      have a0 := (ht2.trans hta).cell g0 (by omega)
      have a1 := (ht2.trans hta).cell g1 (by omega)
      have af := (ht2.trans hta).free gf hlt1 (by omega)
      have af0 := af 0
      have af1 := af 1
      have b0 := (htW.trans hta).cell k0 (by omega)
      have b1 := (htW.trans hta).cell k1 (by omega)
      have bf := (htW.trans hta).free kf hlt0 (by omega)
      have bf0 := bf 0
      have bf1 := bf 1
      go_wp2_with fail
      have c0 := (cell_set_ne w3 w1.heap.size 1 (.int .i64 z) w.heap.size 0 (by omega)).trans b0
      have c1 := (cell_set_ne w3 w1.heap.size 1 (.int .i64 z) w.heap.size 1 (by omega)).trans b1
      have hb8 : Below w.heap.size w3 (w3.setCell ⟨w1.heap.size, 1, none⟩ (.int .i64 z)) := (Below.refl w.heap.size w3).setCell (p := ⟨w1.heap.size, 1, none⟩) (by show w.heap.size ≤ w1.heap.size; omega) _
      have q0 := (cell_set_ne ((w3.setCell ⟨w1.heap.size, 1, none⟩ (.int .i64 z)).setCell ⟨w.heap.size, 0, none⟩ (.int .i64 x)) (w.heap.size) 1 (.int .i64 z) (w.heap.size) 0 (by omega)).trans (cell_set_same (w3.setCell ⟨w1.heap.size, 1, none⟩ (.int .i64 z)) (w.heap.size) 0 _ (.int .i64 x) c0)
      have q1 := cell_set_same ((w3.setCell ⟨w1.heap.size, 1, none⟩ (.int .i64 z)).setCell ⟨w.heap.size, 0, none⟩ (.int .i64 x)) (w.heap.size) 1 _ (.int .i64 z) ((cell_set_ne (w3.setCell ⟨w1.heap.size, 1, none⟩ (.int .i64 z)) (w.heap.size) 0 (.int .i64 x) (w.heap.size) 1 (by omega)).trans c1)
      have hb9 : Below w.heap.size (w3.setCell ⟨w1.heap.size, 1, none⟩ (.int .i64 z)) (((w3.setCell ⟨w1.heap.size, 1, none⟩ (.int .i64 z)).setCell ⟨w.heap.size, 0, none⟩ (.int .i64 x)).setCell ⟨w.heap.size, 1, none⟩ (.int .i64 z)) := ((Below.refl w.heap.size (w3.setCell ⟨w1.heap.size, 1, none⟩ (.int .i64 z))).setCell (p := ⟨w.heap.size, 0, none⟩) (Nat.le_refl _) _).setCell (p := ⟨w.heap.size, 1, none⟩) (Nat.le_refl _) _
      generalize World.setCell (World.setCell (w3.setCell ⟨w1.heap.size, 1, none⟩ (.int .i64 z)) _ _) _ _ = w9 at *
      refine bodyPost_ret (v := .agg #[.int .i64 x, .int .i64 z]) (by simp [results, Try.results77, go_sem, q0, q1]) rfl ?_
      exact ⟨x, z, rfl, ((hc3.below hb8 hpw).below hb9 hpw).more (by omega), ((((Turned.of_below hbW).trans htW).trans hta).far hb8).far hb9⟩
    · have jn0 : ¬ (n : Int) = 0 := by omega
      have jn1 : ¬ (n : Int) = 1 := by omega
      have a0 := ht2.cell g0 (by omega)
      have a1 := ht2.cell g1 (by omega)
      have c0 := htW.cell k0 (by omega)
      have c1 := htW.cell k1 (by omega)
      have bf := htW.free kf hlt0 (by omega)
      have bf0 := bf 0
      have bf1 := bf 1
      go_wp2_with fail
      have q0 := (cell_set_ne (w2.setCell ⟨w.heap.size, 0, none⟩ (.int .i64 x)) (w.heap.size) 1 (.int .i64 y) (w.heap.size) 0 (by omega)).trans (cell_set_same w2 (w.heap.size) 0 _ (.int .i64 x) c0)
      have q1 := cell_set_same (w2.setCell ⟨w.heap.size, 0, none⟩ (.int .i64 x)) (w.heap.size) 1 _ (.int .i64 y) ((cell_set_ne w2 (w.heap.size) 0 (.int .i64 x) (w.heap.size) 1 (by omega)).trans c1)
      have hb9 : Below w.heap.size w2 ((w2.setCell ⟨w.heap.size, 0, none⟩ (.int .i64 x)).setCell ⟨w.heap.size, 1, none⟩ (.int .i64 y)) := ((Below.refl w.heap.size w2).setCell (p := ⟨w.heap.size, 0, none⟩) (Nat.le_refl _) _).setCell (p := ⟨w.heap.size, 1, none⟩) (Nat.le_refl _) _
      generalize World.setCell (World.setCell w2 _ _) _ _ = w9 at *
      refine bodyPost_ret (v := .agg #[.int .i64 x, .int .i64 y]) (by simp [results, Try.results77, go_sem, q0, q1]) rfl ?_
      exact ⟨x, y, rfl, (hc2.below hb9 hpw).more (by omega), ((Turned.of_below hbW).trans htW).far hb9⟩
end Go.Proofs.Ytljdhicmcmppgaa
namespace Go.Proofs.Ytljdhicmcmppgaa
open Go.RowKit Go.ChangeShapes Go.WideShapes Go.Sort

end Go.Proofs.Ytljdhicmcmppgaa
namespace Go.Proofs.Ytljdhicmcmppgaa
open Go.RowKit Go.ChangeShapes Go.WideShapes Go.Sort

theorem same_comm (x y u v : Int) : same x y u v = same u v x y := by unfold same; rw [Bool.eq_iff_iff]; simp; omega
/-- Every spot of the first list is one of the second. -/
def subB (n : Nat) (X Y : Nat → Int) (m : Nat) (X' Y' : Nat → Int) : Bool := allB (fun i => hasB (fun j => same (X i) (Y i) (X' j) (Y' j)) m) n
/-- What both sides' SameForm hands back. -/
def sfR (n : Nat) (X Y : Nat → Int) (m : Nat) (X' Y' : Nat → Int) : Bool := chartB n X Y && chartB m X' Y' && ((n == m) && subB n X Y m X' Y')
def sfG (n : Nat) (X Y : Nat → Int) (m : Nat) (X' Y' : Nat → Int) : Bool := chartB n X Y && chartB m X' Y'
theorem Ans.bool2 {w : World} {a b a' b' : Bool} {w' : World} (h : a = a') (h' : b = b') (hb : Below w.heap.size w w') : Ans w (.tuple #[.bool a', .bool b']) (.returned (.tuple #[.bool a, .bool b])) w' := ⟨by rw [h, h'], hb⟩
end Go.Proofs.Ytljdhicmcmppgaa
namespace Go.Proofs.Ytljdhicmcmppgaa
open Go.RowKit Go.ChangeShapes Go.WideShapes Go.Sort
theorem litc0 (W : World) (arr : Array Value) (t : TypeId) (i : Nat) (v : Value) (h : arr[i]? = some v) : (W.alloc (.cells arr t)).cell? ⟨W.heap.size, i, none⟩ = some v := by
  unfold World.cell?; rw [heap_alloc_new]; exact h
theorem litc1 (W : World) (o : Obj) (arr : Array Value) (t : TypeId) (i : Nat) (v : Value) (h : arr[i]? = some v) : ((W.alloc o).alloc (.cells arr t)).cell? ⟨W.heap.size + 1, i, none⟩ = some v := by
  have := litc0 (W.alloc o) arr t i v h
  rwa [World.size_alloc] at this
theorem litc2 (W : World) (o : Obj) (arr : Array Value) (t : TypeId) (i : Nat) (v : Value) (h : arr[i]? = some v) : ((W.alloc (.cells arr t)).alloc o).cell? ⟨W.heap.size, i, none⟩ = some v :=
  up_keep (below_alloc _ _) (litc0 W arr t i v h)
end Go.Proofs.Ytljdhicmcmppgaa
namespace Go.Proofs.Ytljdhicmcmppgaa
open Go.RowKit Go.ChangeShapes Go.WideShapes Go.Sort
end Go.Proofs.Ytljdhicmcmppgaa
namespace Go.Proofs.Ytljdhicmcmppgaa
open Go.RowKit Go.ChangeShapes Go.WideShapes Go.Sort
end Go.Proofs.Ytljdhicmcmppgaa
namespace Go.Proofs.Ytljdhicmcmppgaa
open Go.RowKit Go.ChangeShapes Go.WideShapes Go.Sort
/-- A cursor's new box behind other new boxes. -/
theorem cur_start {w W : World} {A : Option Addr} {n c p : Nat} (hb : Below w.heap.size w W) (h : Bytes w (.slice A n c) n) (hn : n ≤ 9223372036854775807) (hp : W.heap.size = p) (t : TypeId) : CurAt (W.alloc (.cells #[.slice A n c, .int .i64 0, .int .u64 0] t)) p 0 := by
  subst hp; exact curAt_new (h.up hb) hn t
/-- A box with two numbers that may be written. -/
structure RBox (w : World) (b : Nat) : Prop where
  ex : ∃ x y : Int, w.cell? ⟨b, 0, none⟩ = some (.int .i64 x) ∧ w.cell? ⟨b, 1, none⟩ = some (.int .i64 y)
  free : Free w b
  lt : b < w.heap.size
theorem RBox.turn {lo hi : Nat} {w w' : World} {b : Nat} (h : RBox w b) (ht : Turned lo hi w w') (hb : b < lo ∨ hi ≤ b) : RBox w' b := by
  obtain ⟨⟨x, y, h0, h1⟩, hf, hl⟩ := h
  exact ⟨⟨x, y, ht.cell h0 hb, ht.cell h1 hb⟩, ht.free hf hl hb, by have := ht.size; omega⟩
/-- What it reads behind two stores. -/
theorem RBox.put {w : World} {b : Nat} (h : RBox w b) (u v : Value) :
    ((w.setCell ⟨b, 0, none⟩ u).setCell ⟨b, 1, none⟩ v).cell? ⟨b, 0, none⟩ = some u ∧ ((w.setCell ⟨b, 0, none⟩ u).setCell ⟨b, 1, none⟩ v).cell? ⟨b, 1, none⟩ = some v := by
  obtain ⟨⟨x, y, h0, h1⟩, _, _⟩ := h
  exact ⟨(cell_set_ne _ b 1 v b 0 (by omega)).trans (cell_set_same w b 0 _ u h0), cell_set_same _ b 1 _ v ((cell_set_ne w b 0 u b 1 (by omega)).trans h1)⟩
theorem put_far {w : World} {b g o : Nat} (hne : b ≠ g) (u v : Value) : ((w.setCell ⟨b, 0, none⟩ u).setCell ⟨b, 1, none⟩ v).cell? ⟨g, o, none⟩ = w.cell? ⟨g, o, none⟩ :=
  (cell_set_ne _ b 1 v g o (by omega)).trans (cell_set_ne w b 0 u g o (by omega))
theorem RBox.far {w : World} {b g : Nat} (h : RBox w g) (hne : b ≠ g) (u v : Value) : RBox ((w.setCell ⟨b, 0, none⟩ u).setCell ⟨b, 1, none⟩ v) g := by
  obtain ⟨⟨x, y, h0, h1⟩, hf, hl⟩ := h
  exact ⟨⟨x, y, (put_far hne u v).trans h0, (put_far hne u v).trans h1⟩, (hf.set _ _).set _ _, by rw [size_set, size_set]; exact hl⟩
theorem put_below {B : Nat} {w : World} {b : Nat} (hb : B ≤ b) (u v : Value) : Below B w ((w.setCell ⟨b, 0, none⟩ u).setCell ⟨b, 1, none⟩ v) :=
  ((Below.refl B w).setCell (p := ⟨b, 0, none⟩) hb _).setCell (p := ⟨b, 1, none⟩) hb _
theorem turned_old {p : Nat} {w W w' : World} (hb : Below w.heap.size w W) (ht : Turned p (p + 1) W w') (hp : w.heap.size ≤ p) : Below w.heap.size w w' :=
  hb.trans ⟨ht.os, ht.tape, ht.output, ht.size, fun k hk => ht.block k (by have := hb.size; omega) (.inl (by omega))⟩
/-- What stands while a performer is placed: the spot's box behind w2, the cursor. -/
structure PlS (p : Nat) (w2 wx : World) (K : Nat) : Prop where
  s : RBox wx w2.heap.size
  cur : CurAt wx p K
  t : Turned p (p + 1) w2 wx
theorem PlS.more {p : Nat} {w2 wx : World} {K K' : Nat} (h : PlS p w2 wx K) (hk : K ≤ K') : PlS p w2 wx K' := ⟨h.s, h.cur.more hk, h.t⟩
theorem PlS.step {p : Nat} {w2 wx w' : World} {K K' K2 : Nat} (h : PlS p w2 wx K) (ht : Turned p (p + 1) wx w') (hc : CurAt w' p K') (hb : p < w2.heap.size) (hk : K' ≤ K2) : PlS p w2 w' K2 :=
  ⟨h.s.turn ht (by omega), hc.more hk, h.t.trans ht⟩
theorem PlS.put {p : Nat} {w2 wx : World} {K : Nat} (h : PlS p w2 wx K) (hb : p < w2.heap.size) (x y : Int) : PlS p w2 ((wx.setCell ⟨w2.heap.size, 0, none⟩ (.int .i64 x)).setCell ⟨w2.heap.size, 1, none⟩ (.int .i64 y)) K :=
  ⟨⟨⟨x, y, h.s.put _ _⟩, (h.s.free.set _ _).set _ _, by rw [size_set, size_set]; exact h.s.lt⟩, h.cur.below (put_below (Nat.le_refl _) _ _) hb, h.t.far (put_below (Nat.le_refl _) _ _)⟩
end Go.Proofs.Ytljdhicmcmppgaa
namespace Go.Proofs.Ytljdhicmcmppgaa
open Go.RowKit Go.ChangeShapes Go.WideShapes Go.Sort

/-- A box with a move's five numbers. -/
structure MC (w : World) (b : Nat) (x y u v c : Int) : Prop where
  c0 : w.cell? ⟨b, 0, none⟩ = some (.int .i64 x)
  c1 : w.cell? ⟨b, 1, none⟩ = some (.int .i64 y)
  c2 : w.cell? ⟨b, 2, none⟩ = some (.int .i64 u)
  c3 : w.cell? ⟨b, 3, none⟩ = some (.int .i64 v)
  c4 : w.cell? ⟨b, 4, none⟩ = some (.int .i64 c)
theorem MC.turn {lo hi : Nat} {w w' : World} {b : Nat} {x y u v c : Int} (h : MC w b x y u v c) (ht : Turned lo hi w w') (hb : b < lo ∨ hi ≤ b) : MC w' b x y u v c := ⟨ht.cell h.c0 hb, ht.cell h.c1 hb, ht.cell h.c2 hb, ht.cell h.c3 hb, ht.cell h.c4 hb⟩
theorem MC.up {w w' : World} {b : Nat} {x y u v c : Int} (h : MC w b x y u v c) (hb : Below w.heap.size w w') : MC w' b x y u v c := ⟨up_keep hb h.c0, up_keep hb h.c1, up_keep hb h.c2, up_keep hb h.c3, up_keep hb h.c4⟩
theorem MC.far {w : World} {b g k : Nat} {x y u v c : Int} (h : MC w b x y u v c) (hne : g ≠ b) (z : Value) : MC (w.setCell ⟨g, k, none⟩ z) b x y u v c :=
  ⟨(cell_set_ne _ _ _ _ _ _ (by omega)).trans h.c0, (cell_set_ne _ _ _ _ _ _ (by omega)).trans h.c1, (cell_set_ne _ _ _ _ _ _ (by omega)).trans h.c2, (cell_set_ne _ _ _ _ _ _ (by omega)).trans h.c3, (cell_set_ne _ _ _ _ _ _ (by omega)).trans h.c4⟩
theorem MC.set0 {w : World} {b : Nat} {x y u v c : Int} (h : MC w b x y u v c) (z : Int) : MC (w.setCell ⟨b, 0, none⟩ (.int .i64 z)) b z y u v c := ⟨cell_set_same _ _ _ _ _ h.c0, (cell_set_ne _ _ _ _ _ _ (by omega)).trans h.c1, (cell_set_ne _ _ _ _ _ _ (by omega)).trans h.c2, (cell_set_ne _ _ _ _ _ _ (by omega)).trans h.c3, (cell_set_ne _ _ _ _ _ _ (by omega)).trans h.c4⟩
theorem MC.set1 {w : World} {b : Nat} {x y u v c : Int} (h : MC w b x y u v c) (z : Int) : MC (w.setCell ⟨b, 1, none⟩ (.int .i64 z)) b x z u v c := ⟨(cell_set_ne _ _ _ _ _ _ (by omega)).trans h.c0, cell_set_same _ _ _ _ _ h.c1, (cell_set_ne _ _ _ _ _ _ (by omega)).trans h.c2, (cell_set_ne _ _ _ _ _ _ (by omega)).trans h.c3, (cell_set_ne _ _ _ _ _ _ (by omega)).trans h.c4⟩
theorem MC.set2 {w : World} {b : Nat} {x y u v c : Int} (h : MC w b x y u v c) (z : Int) : MC (w.setCell ⟨b, 2, none⟩ (.int .i64 z)) b x y z v c := ⟨(cell_set_ne _ _ _ _ _ _ (by omega)).trans h.c0, (cell_set_ne _ _ _ _ _ _ (by omega)).trans h.c1, cell_set_same _ _ _ _ _ h.c2, (cell_set_ne _ _ _ _ _ _ (by omega)).trans h.c3, (cell_set_ne _ _ _ _ _ _ (by omega)).trans h.c4⟩
theorem MC.set3 {w : World} {b : Nat} {x y u v c : Int} (h : MC w b x y u v c) (z : Int) : MC (w.setCell ⟨b, 3, none⟩ (.int .i64 z)) b x y u z c := ⟨(cell_set_ne _ _ _ _ _ _ (by omega)).trans h.c0, (cell_set_ne _ _ _ _ _ _ (by omega)).trans h.c1, (cell_set_ne _ _ _ _ _ _ (by omega)).trans h.c2, cell_set_same _ _ _ _ _ h.c3, (cell_set_ne _ _ _ _ _ _ (by omega)).trans h.c4⟩
theorem MC.set4 {w : World} {b : Nat} {x y u v c : Int} (h : MC w b x y u v c) (z : Int) : MC (w.setCell ⟨b, 4, none⟩ (.int .i64 z)) b x y u v z := ⟨(cell_set_ne _ _ _ _ _ _ (by omega)).trans h.c0, (cell_set_ne _ _ _ _ _ _ (by omega)).trans h.c1, (cell_set_ne _ _ _ _ _ _ (by omega)).trans h.c2, (cell_set_ne _ _ _ _ _ _ (by omega)).trans h.c3, cell_set_same _ _ _ _ _ h.c4⟩
/-- .. that may be written; the counts are from 0 to 65. -/
structure MB (w : World) (b : Nat) : Prop where
  ex : ∃ x y u v c : Int, MC w b x y u v c ∧ 0 ≤ c ∧ c ≤ 65
  free : Free w b
  lt : b < w.heap.size
theorem MB.turn {lo hi : Nat} {w w' : World} {b : Nat} (h : MB w b) (ht : Turned lo hi w w') (hb : b < lo ∨ hi ≤ b) : MB w' b := by
  obtain ⟨⟨x, y, u, v, c, h0, h1⟩, hf, hl⟩ := h
  exact ⟨⟨x, y, u, v, c, h0.turn ht hb, h1⟩, ht.free hf hl hb, by have := ht.size; omega⟩
theorem MB.up {w w' : World} {b : Nat} (h : MB w b) (hb : Below w.heap.size w w') : MB w' b := h.turn (Turned.of_below (lo := 0) (hi := 0) hb) (by omega)
theorem MB.far {w : World} {b g k : Nat} (h : MB w b) (hne : g ≠ b) (z : Value) : MB (w.setCell ⟨g, k, none⟩ z) b := by
  obtain ⟨⟨x, y, u, v, c, h0, h1⟩, hf, hl⟩ := h
  exact ⟨⟨x, y, u, v, c, h0.far hne z, h1⟩, hf.set _ _, by rw [size_set]; exact hl⟩
theorem MB.set0 {w : World} {b : Nat} (h : MB w b) (z : Int) : MB (w.setCell ⟨b, 0, none⟩ (.int .i64 z)) b := by
  obtain ⟨⟨x, y, u, v, c, h0, h1⟩, hf, hl⟩ := h
  exact ⟨⟨z, y, u, v, c, h0.set0 z, h1⟩, hf.set _ _, by rw [size_set]; exact hl⟩
theorem MB.set1 {w : World} {b : Nat} (h : MB w b) (z : Int) : MB (w.setCell ⟨b, 1, none⟩ (.int .i64 z)) b := by
  obtain ⟨⟨x, y, u, v, c, h0, h1⟩, hf, hl⟩ := h
  exact ⟨⟨x, z, u, v, c, h0.set1 z, h1⟩, hf.set _ _, by rw [size_set]; exact hl⟩
theorem MB.set2 {w : World} {b : Nat} (h : MB w b) (z : Int) : MB (w.setCell ⟨b, 2, none⟩ (.int .i64 z)) b := by
  obtain ⟨⟨x, y, u, v, c, h0, h1⟩, hf, hl⟩ := h
  exact ⟨⟨x, y, z, v, c, h0.set2 z, h1⟩, hf.set _ _, by rw [size_set]; exact hl⟩
theorem MB.set3 {w : World} {b : Nat} (h : MB w b) (z : Int) : MB (w.setCell ⟨b, 3, none⟩ (.int .i64 z)) b := by
  obtain ⟨⟨x, y, u, v, c, h0, h1⟩, hf, hl⟩ := h
  exact ⟨⟨x, y, u, z, c, h0.set3 z, h1⟩, hf.set _ _, by rw [size_set]; exact hl⟩
theorem MB.set4 {w : World} {b : Nat} (h : MB w b) (z : Int) (hz : 0 ≤ z ∧ z ≤ 65) : MB (w.setCell ⟨b, 4, none⟩ (.int .i64 z)) b := by
  obtain ⟨⟨x, y, u, v, c, h0, h1⟩, hf, hl⟩ := h
  exact ⟨⟨x, y, u, v, z, h0.set4 z, hz⟩, hf.set _ _, by rw [size_set]; exact hl⟩
theorem MB.new (w : World) (x y u v c : Int) (t : TypeId) (hc : 0 ≤ c ∧ c ≤ 65) : MB (w.alloc (.cells #[.int .i64 x, .int .i64 y, .int .i64 u, .int .i64 v, .int .i64 c] t)) w.heap.size :=
  ⟨⟨x, y, u, v, c, ⟨by simp [go_sem], by simp [go_sem], by simp [go_sem], by simp [go_sem], by simp [go_sem]⟩, hc⟩, (fun o => by simp [go_sem]), by simp⟩
/-- What stands while a move is drawn: the result's box r, the move's box b, the cursor p. -/
structure Mv (p : Nat) (w : World) (K r b : Nat) (wx : World) : Prop where
  res : MB wx r
  box : MB wx b
  cur : CurAt wx p K
  t : Turned p (p + 1) w wx
theorem Mv.at {p : Nat} {w : World} {K r b : Nat} {wx w1 : World} (h : Mv p w K r b wx) (hb : Below wx.heap.size wx w1) : CurAt w1 p K := h.cur.up hb
theorem Mv.lt {p : Nat} {w : World} {K r b : Nat} {wx : World} (h : Mv p w K r b wx) : p < wx.heap.size := h.cur.lt
theorem Mv.more {p : Nat} {w : World} {K K' r b : Nat} {wx : World} (h : Mv p w K r b wx) (hk : K ≤ K') : Mv p w K' r b wx := ⟨h.res, h.box, h.cur.more hk, h.t⟩
theorem Mv.next {p : Nat} {w : World} {K K' r b : Nat} {wx w1 w' : World} (h : Mv p w K r b wx) (hb : Below wx.heap.size wx w1) (hc : CurAt w' p K') (ht : Turned p (p + 1) w1 w') (hr : p < r) (hb' : p < b) : Mv p w K' r b w' :=
  ⟨(h.res.up hb).turn ht (by omega), (h.box.up hb).turn ht (by omega), hc, (h.t.trans (Turned.of_below hb)).trans ht⟩
theorem Mv.tt {p : Nat} {w : World} {K r b : Nat} {wx w1 w' : World} (_ : Mv p w K r b wx) (hb : Below wx.heap.size wx w1) (ht : Turned p (p + 1) w1 w') : Turned p (p + 1) wx w' := (Turned.of_below hb).trans ht
theorem set_below {B g : Nat} (w : World) (k : Nat) (z : Value) (h : B ≤ g) : Below B w (w.setCell ⟨g, k, none⟩ z) := (Below.refl B w).setCell (p := ⟨g, k, none⟩) h z
theorem Mv.set0 {p : Nat} {w : World} {K r b : Nat} {wx : World} (h : Mv p w K r b wx) (hb : p < b) (hrb : b ≠ r) (hw : w.heap.size ≤ b) (z : Int) : Mv p w K r b (wx.setCell ⟨b, 0, none⟩ (.int .i64 z)) :=
  ⟨h.res.far hrb _, h.box.set0 z, h.cur.below (set_below _ _ _ (Nat.le_refl b)) hb, h.t.far (set_below _ _ _ hw)⟩
theorem Mv.set1 {p : Nat} {w : World} {K r b : Nat} {wx : World} (h : Mv p w K r b wx) (hb : p < b) (hrb : b ≠ r) (hw : w.heap.size ≤ b) (z : Int) : Mv p w K r b (wx.setCell ⟨b, 1, none⟩ (.int .i64 z)) :=
  ⟨h.res.far hrb _, h.box.set1 z, h.cur.below (set_below _ _ _ (Nat.le_refl b)) hb, h.t.far (set_below _ _ _ hw)⟩
theorem Mv.set2 {p : Nat} {w : World} {K r b : Nat} {wx : World} (h : Mv p w K r b wx) (hb : p < b) (hrb : b ≠ r) (hw : w.heap.size ≤ b) (z : Int) : Mv p w K r b (wx.setCell ⟨b, 2, none⟩ (.int .i64 z)) :=
  ⟨h.res.far hrb _, h.box.set2 z, h.cur.below (set_below _ _ _ (Nat.le_refl b)) hb, h.t.far (set_below _ _ _ hw)⟩
theorem Mv.set3 {p : Nat} {w : World} {K r b : Nat} {wx : World} (h : Mv p w K r b wx) (hb : p < b) (hrb : b ≠ r) (hw : w.heap.size ≤ b) (z : Int) : Mv p w K r b (wx.setCell ⟨b, 3, none⟩ (.int .i64 z)) :=
  ⟨h.res.far hrb _, h.box.set3 z, h.cur.below (set_below _ _ _ (Nat.le_refl b)) hb, h.t.far (set_below _ _ _ hw)⟩
theorem Mv.set4 {p : Nat} {w : World} {K r b : Nat} {wx : World} (h : Mv p w K r b wx) (hb : p < b) (hrb : b ≠ r) (hw : w.heap.size ≤ b) (z : Int) (hz : 0 ≤ z ∧ z ≤ 65) : Mv p w K r b (wx.setCell ⟨b, 4, none⟩ (.int .i64 z)) :=
  ⟨h.res.far hrb _, h.box.set4 z hz, h.cur.below (set_below _ _ _ (Nat.le_refl b)) hb, h.t.far (set_below _ _ _ hw)⟩
theorem cur_pickI (p K n : Nat) (m : Int) (w : World) (h : CurAt w p K) (hm : m = (n : Int)) (hK : K ≤ 1000000000) (hn : n ≤ 1000000000) :
    Calls Try.prog 50 #[.pointer (some ⟨p, 0, none⟩), .int .i64 m] w (AnsCur w p (K + 2) (max n 1)) := by
  subst hm; exact cur_pick p K n w h hK hn
/-- The result laid. -/
theorem MB.put {w : World} {r : Nat} (h : MB w r) (x y u v c : Int) : MC (((((w.setCell ⟨r, 0, none⟩ (.int .i64 x)).setCell ⟨r, 1, none⟩ (.int .i64 y)).setCell ⟨r, 2, none⟩ (.int .i64 u)).setCell ⟨r, 3, none⟩ (.int .i64 v)).setCell ⟨r, 4, none⟩ (.int .i64 c)) r x y u v c := by
  obtain ⟨⟨x0, y0, u0, v0, c0, h0, _⟩, _, _⟩ := h
  exact ((((h0.set0 x).set1 y).set2 u).set3 v).set4 c
theorem put5_below {B r : Nat} (w : World) (x y u v c : Value) (h : B ≤ r) : Below B w (((((w.setCell ⟨r, 0, none⟩ x).setCell ⟨r, 1, none⟩ y).setCell ⟨r, 2, none⟩ u).setCell ⟨r, 3, none⟩ v).setCell ⟨r, 4, none⟩ c) :=
  ((((set_below w 0 x h).trans (set_below _ 1 y h)).trans (set_below _ 2 u h)).trans (set_below _ 3 v h)).trans (set_below _ 4 c h)
theorem MC.far5 {w : World} {b g : Nat} {x y u v c : Int} (h : MC w b x y u v c) (hne : g ≠ b) (a0 a1 a2 a3 a4 : Value) : MC (((((w.setCell ⟨g, 0, none⟩ a0).setCell ⟨g, 1, none⟩ a1).setCell ⟨g, 2, none⟩ a2).setCell ⟨g, 3, none⟩ a3).setCell ⟨g, 4, none⟩ a4) b x y u v c :=
  ((((h.far hne a0).far hne a1).far hne a2).far hne a3).far hne a4
theorem MB.far5 {w : World} {b g : Nat} (h : MB w b) (hne : g ≠ b) (a0 a1 a2 a3 a4 : Value) : MB (((((w.setCell ⟨g, 0, none⟩ a0).setCell ⟨g, 1, none⟩ a1).setCell ⟨g, 2, none⟩ a2).setCell ⟨g, 3, none⟩ a3).setCell ⟨g, 4, none⟩ a4) b :=
  ((((h.far hne a0).far hne a1).far hne a2).far hne a3).far hne a4
/-- Returned: a move with counts from 0 to 65; beside it only the cursor has turned. -/
def AnsMv (w : World) (p K : Nat) (e : Ending) (w' : World) : Prop := ∃ x y u v c : Int, e = .returned (.agg #[.int .i64 x, .int .i64 y, .int .i64 u, .int .i64 v, .int .i64 c]) ∧ (0 ≤ c ∧ c ≤ 65) ∧ CurAt w' p K ∧ Turned p (p + 1) w w'
/-- .. two moves. -/
def AnsTog (w : World) (p K : Nat) (e : Ending) (w' : World) : Prop := ∃ x y u v c x' y' u' v' c' : Int, e = .returned (.tuple #[.agg #[.int .i64 x, .int .i64 y, .int .i64 u, .int .i64 v, .int .i64 c], .agg #[.int .i64 x', .int .i64 y', .int .i64 u', .int .i64 v', .int .i64 c']]) ∧ (0 ≤ c ∧ c ≤ 65) ∧ (0 ≤ c' ∧ c' ≤ 65) ∧ CurAt w' p K ∧ Turned p (p + 1) w w'
set_option maxRecDepth 100000 in
set_option maxHeartbeats 4000000 in
theorem mv_r2 (p K : Nat) (w w3 W3 : World) (x y c : Int)
    (s1 s2 s4 s5 s6 s7 s8 s9 s10 s11 s12 s13 s14 s15 s16 s17 s18 s19 s20 s21 s22 s23 s24 s25 s26 s27 s28 s29 s30 s31 s32 s33 s34 s35 s36 s37 s38 s39 s40 s41 s42 s43 s44 s45 s46 s47 s48 s49 s50 s51 s52 s53 : Value) (Q0 : Exit → Act → World → Prop)
    (hK : K ≤ 1000000) (hs : Mv p w (K + 18) w.heap.size w3.heap.size W3) (hpr : p < w.heap.size) (hpb : p < w3.heap.size) (hrb : w3.heap.size ≠ w.heap.size) (hwb : w.heap.size ≤ w3.heap.size) (hd : MC W3 w3.heap.size x y 0 0 c)
    (hQ : ∀ (w' : World) (u13 u14 u15 u16 u17 u18 u19 u20 u21 u22 u23 u24 u25 u26 u27 u28 u29 u30 u31 u32 u33 u34 : Value), Mv p w (K + 30) w.heap.size w3.heap.size w' → Q0 .normal ⟨#[(.pointer (some ⟨p, 0, none⟩)), s1, s2, (.pointer (some ⟨w3.heap.size, 0, none⟩)), s4, s5, s6, s7, s8, s9, s10, s11, s12, u13, u14, u15, u16, u17, u18, u19, u20, u21, u22, u23, u24, u25, u26, u27, u28, u29, u30, u31, u32, u33, u34, s35, s36, s37, s38, s39, s40, s41, s42, s43, s44, s45, s46, s47, s48, s49, s50, s51, s52, s53], []⟩ w') :
    Code.wp Try.prog ((Try.f64.body.bind (findRegion 2)).getD .skip) Q0 ⟨#[(.pointer (some ⟨p, 0, none⟩)), s1, s2, (.pointer (some ⟨w3.heap.size, 0, none⟩)), s4, s5, s6, s7, s8, s9, s10, s11, s12, s13, s14, s15, s16, s17, s18, s19, s20, s21, s22, s23, s24, s25, s26, s27, s28, s29, s30, s31, s32, s33, s34, s35, s36, s37, s38, s39, s40, s41, s42, s43, s44, s45, s46, s47, s48, s49, s50, s51, s52, s53], []⟩ W3 := by
  conv => arg 2; whnf
  obtain ⟨d0, d1, d2, d3, _⟩ := hd
  have f2 := hs.box.free 2
  have f3 := hs.box.free 3
  have hl6 := hs.lt
  go_region_held3 (fun w' => w'.cell? ⟨w3.heap.size, 0, none⟩ = some (.int .i64 x) ∧ w'.cell? ⟨w3.heap.size, 1, none⟩ = some (.int .i64 y))
    (first | exact ⟨by assumption, by assumption⟩ | (refine ⟨?_, ?_⟩ <;> (rw [cell_set_ne, cell_set_ne] <;> first | assumption | omega)) | go_keep) (first
      | (go_at_call 69; refine (l1Least_any _ _ _).mono ?_; rintro e wy ⟨rfl, rfl⟩)
      | (go_at_call 51; refine (l1Most_any _ _ _).mono ?_; rintro e wy ⟨rfl, rfl⟩)
      | (go_at_call 50; (refine (cur_pickI p _ 200 200 _ (hs.at (by (repeat (first | with_reducible exact Below.refl _ _ | with_reducible assumption | with_reducible refine up_alloc ?_ _ | with_reducible refine up_drew ?_ | with_reducible refine up_drewN ?_ _ | (with_reducible refine up_set ?_ ?hset _; case hset => first | (simp; done) | (simp; omega) | omega) | with_reducible refine up_trans ?_ (by with_reducible assumption))))) rfl (by omega) (by omega)).mono ?_); rintro e w6 ⟨xa, rfl, hxa, hc6, ht6⟩; have htt := hs.tt (by (repeat (first | with_reducible exact Below.refl _ _ | with_reducible assumption | with_reducible refine up_alloc ?_ _ | with_reducible refine up_drew ?_ | with_reducible refine up_drewN ?_ _ | (with_reducible refine up_set ?_ ?hset _; case hset => first | (simp; done) | (simp; omega) | omega) | with_reducible refine up_trans ?_ (by with_reducible assumption)))) ht6; replace hs := hs.next (by (repeat (first | with_reducible exact Below.refl _ _ | with_reducible assumption | with_reducible refine up_alloc ?_ _ | with_reducible refine up_drew ?_ | with_reducible refine up_drewN ?_ _ | (with_reducible refine up_set ?_ ?hset _; case hset => first | (simp; done) | (simp; omega) | omega) | with_reducible refine up_trans ?_ (by with_reducible assumption)))) hc6 ht6 hpr hpb; have hl6 := hs.lt; have d0 := htt.cell d0 (by omega); have d1 := htt.cell d1 (by omega); have d2 := htt.cell d2 (by omega); have d3 := htt.cell d3 (by omega); have f2 := hs.box.free 2; have f3 := hs.box.free 3)
      | (go_at_call 49; (with_reducible show Calls Try.prog _ #[_, .slice _ 6 6] _ _); (refine (cur_among p _ _ 6 (0) 200 _ (hs.at (by (repeat (first | with_reducible exact Below.refl _ _ | with_reducible assumption | with_reducible refine up_alloc ?_ _ | with_reducible refine up_drew ?_ | with_reducible refine up_drewN ?_ _ | (with_reducible refine up_set ?_ ?hset _; case hset => first | (simp; done) | (simp; omega) | omega) | with_reducible refine up_trans ?_ (by with_reducible assumption))))) (by omega) (by omega) (by omega) (by first | omega | (simp; omega)) (by intro i hi; match i, hi with | 0, _ => exact ⟨0, (by first | (simp [go_sem]; done) | exact litc0 _ _ _ 0 _ rfl | exact litc1 _ _ _ _ 0 _ rfl | exact litc2 _ _ _ _ 0 _ rfl), by omega, by omega⟩ | 1, _ => exact ⟨8, (by first | (simp [go_sem]; done) | exact litc0 _ _ _ 1 _ rfl | exact litc1 _ _ _ _ 1 _ rfl | exact litc2 _ _ _ _ 1 _ rfl), by omega, by omega⟩ | 2, _ => exact ⟨12, (by first | (simp [go_sem]; done) | exact litc0 _ _ _ 2 _ rfl | exact litc1 _ _ _ _ 2 _ rfl | exact litc2 _ _ _ _ 2 _ rfl), by omega, by omega⟩ | 3, _ => exact ⟨16, (by first | (simp [go_sem]; done) | exact litc0 _ _ _ 3 _ rfl | exact litc1 _ _ _ _ 3 _ rfl | exact litc2 _ _ _ _ 3 _ rfl), by omega, by omega⟩ | 4, _ => exact ⟨64, (by first | (simp [go_sem]; done) | exact litc0 _ _ _ 4 _ rfl | exact litc1 _ _ _ _ 4 _ rfl | exact litc2 _ _ _ _ 4 _ rfl), by omega, by omega⟩ | 5, _ => exact ⟨_, (by first | (simp [go_sem]; done) | exact litc0 _ _ _ 5 _ rfl | exact litc1 _ _ _ _ 5 _ rfl | exact litc2 _ _ _ _ 5 _ rfl), by omega, by omega⟩ | (q + 6), hi => omega)).mono ?_); rintro e w6 ⟨xb, rfl, hxb, hc6, ht6⟩; have htt := hs.tt (by (repeat (first | with_reducible exact Below.refl _ _ | with_reducible assumption | with_reducible refine up_alloc ?_ _ | with_reducible refine up_drew ?_ | with_reducible refine up_drewN ?_ _ | (with_reducible refine up_set ?_ ?hset _; case hset => first | (simp; done) | (simp; omega) | omega) | with_reducible refine up_trans ?_ (by with_reducible assumption)))) ht6; replace hs := hs.next (by (repeat (first | with_reducible exact Below.refl _ _ | with_reducible assumption | with_reducible refine up_alloc ?_ _ | with_reducible refine up_drew ?_ | with_reducible refine up_drewN ?_ _ | (with_reducible refine up_set ?_ ?hset _; case hset => first | (simp; done) | (simp; omega) | omega) | with_reducible refine up_trans ?_ (by with_reducible assumption)))) hc6 ht6 hpr hpb; have hl6 := hs.lt; have d0 := htt.cell d0 (by omega); have d1 := htt.cell d1 (by omega); have d2 := htt.cell d2 (by omega); have d3 := htt.cell d3 (by omega); have f2 := hs.box.free 2; have f3 := hs.box.free 3)
      | (go_at_call 49; (with_reducible show Calls Try.prog _ #[_, .slice _ 5 5] _ _); (refine (cur_among p _ _ 5 (0) 200 _ (hs.at (by (repeat (first | with_reducible exact Below.refl _ _ | with_reducible assumption | with_reducible refine up_alloc ?_ _ | with_reducible refine up_drew ?_ | with_reducible refine up_drewN ?_ _ | (with_reducible refine up_set ?_ ?hset _; case hset => first | (simp; done) | (simp; omega) | omega) | with_reducible refine up_trans ?_ (by with_reducible assumption))))) (by omega) (by omega) (by omega) (by first | omega | (simp; omega)) (by intro i hi; match i, hi with | 0, _ => exact ⟨0, (by first | (simp [go_sem]; done) | exact litc0 _ _ _ 0 _ rfl | exact litc1 _ _ _ _ 0 _ rfl | exact litc2 _ _ _ _ 0 _ rfl), by omega, by omega⟩ | 1, _ => exact ⟨8, (by first | (simp [go_sem]; done) | exact litc0 _ _ _ 1 _ rfl | exact litc1 _ _ _ _ 1 _ rfl | exact litc2 _ _ _ _ 1 _ rfl), by omega, by omega⟩ | 2, _ => exact ⟨16, (by first | (simp [go_sem]; done) | exact litc0 _ _ _ 2 _ rfl | exact litc1 _ _ _ _ 2 _ rfl | exact litc2 _ _ _ _ 2 _ rfl), by omega, by omega⟩ | 3, _ => exact ⟨64, (by first | (simp [go_sem]; done) | exact litc0 _ _ _ 3 _ rfl | exact litc1 _ _ _ _ 3 _ rfl | exact litc2 _ _ _ _ 3 _ rfl), by omega, by omega⟩ | 4, _ => exact ⟨_, (by first | (simp [go_sem]; done) | exact litc0 _ _ _ 4 _ rfl | exact litc1 _ _ _ _ 4 _ rfl | exact litc2 _ _ _ _ 4 _ rfl), by omega, by omega⟩ | (q + 5), hi => omega)).mono ?_); rintro e w6 ⟨xc, rfl, hxc, hc6, ht6⟩; have htt := hs.tt (by (repeat (first | with_reducible exact Below.refl _ _ | with_reducible assumption | with_reducible refine up_alloc ?_ _ | with_reducible refine up_drew ?_ | with_reducible refine up_drewN ?_ _ | (with_reducible refine up_set ?_ ?hset _; case hset => first | (simp; done) | (simp; omega) | omega) | with_reducible refine up_trans ?_ (by with_reducible assumption)))) ht6; replace hs := hs.next (by (repeat (first | with_reducible exact Below.refl _ _ | with_reducible assumption | with_reducible refine up_alloc ?_ _ | with_reducible refine up_drew ?_ | with_reducible refine up_drewN ?_ _ | (with_reducible refine up_set ?_ ?hset _; case hset => first | (simp; done) | (simp; omega) | omega) | with_reducible refine up_trans ?_ (by with_reducible assumption)))) hc6 ht6 hpr hpb; have hl6 := hs.lt; have d0 := htt.cell d0 (by omega); have d1 := htt.cell d1 (by omega); have d2 := htt.cell d2 (by omega); have d3 := htt.cell d3 (by omega); have f2 := hs.box.free 2; have f3 := hs.box.free 3)
      | fail)
  all_goals exact hQ _ _ _ _ _ _ _ _ _ _ _ _ _ _ _ _ _ _ _ _ _ _ _ (((hs.set2 hpb hrb hwb _).set3 hpb hrb hwb _).more (by omega))
set_option maxRecDepth 100000 in
set_option maxHeartbeats 16000000 in
theorem cur_move (p K : Nat) (w : World) (h : CurAt w p K) (hK : K ≤ 900000) :
    Calls Try.prog 64 #[.pointer (some ⟨p, 0, none⟩)] w (AnsMv w p (K + 60)) := by
  have hpw := h.lt
  go_enter Try.func64, Try.ntmps64
  go_wp2_with fail
  have hr0 := MB.new w 0 0 0 0 0 26 (by omega)
  generalize hWx : World.alloc w _ = W0 at *
  have hb0 : Below w.heap.size w W0 := by subst hWx; exact below_alloc _ _
  clear hWx
  refine (cur_spot p K _ (h.up hb0) (by omega)).mono ?_
  rintro e w1 ⟨x, y, rfl, hc1, ht1⟩
  go_wp2_with fail
  refine (cur_pick p _ 64 _ hc1 (by omega) (by omega)).mono ?_
  rintro e w2 ⟨a, rfl, ha, hc2, ht2⟩
  have hl2 := hc2.lt
  go_wp2_with fail
  refine (cur_among p _ _ 8 (1) 64 _ (hc2.up (below_alloc _ _)) (by omega) (by omega) (by omega) (by first | omega | (simp; omega)) (by intro i hi; match i, hi with | 0, _ => exact ⟨1, (by first | (simp [go_sem]; done) | exact litc0 _ _ _ 0 _ rfl | exact litc1 _ _ _ _ 0 _ rfl | exact litc2 _ _ _ _ 0 _ rfl), by omega, by omega⟩ | 1, _ => exact ⟨2, (by first | (simp [go_sem]; done) | exact litc0 _ _ _ 1 _ rfl | exact litc1 _ _ _ _ 1 _ rfl | exact litc2 _ _ _ _ 1 _ rfl), by omega, by omega⟩ | 2, _ => exact ⟨4, (by first | (simp [go_sem]; done) | exact litc0 _ _ _ 2 _ rfl | exact litc1 _ _ _ _ 2 _ rfl | exact litc2 _ _ _ _ 2 _ rfl), by omega, by omega⟩ | 3, _ => exact ⟨8, (by first | (simp [go_sem]; done) | exact litc0 _ _ _ 3 _ rfl | exact litc1 _ _ _ _ 3 _ rfl | exact litc2 _ _ _ _ 3 _ rfl), by omega, by omega⟩ | 4, _ => exact ⟨8, (by first | (simp [go_sem]; done) | exact litc0 _ _ _ 4 _ rfl | exact litc1 _ _ _ _ 4 _ rfl | exact litc2 _ _ _ _ 4 _ rfl), by omega, by omega⟩ | 5, _ => exact ⟨12, (by first | (simp [go_sem]; done) | exact litc0 _ _ _ 5 _ rfl | exact litc1 _ _ _ _ 5 _ rfl | exact litc2 _ _ _ _ 5 _ rfl), by omega, by omega⟩ | 6, _ => exact ⟨16, (by first | (simp [go_sem]; done) | exact litc0 _ _ _ 6 _ rfl | exact litc1 _ _ _ _ 6 _ rfl | exact litc2 _ _ _ _ 6 _ rfl), by omega, by omega⟩ | 7, _ => exact ⟨_, (by first | (simp [go_sem]; done) | exact litc0 _ _ _ 7 _ rfl | exact litc1 _ _ _ _ 7 _ rfl | exact litc2 _ _ _ _ 7 _ rfl), by omega, by omega⟩ | (q + 8), hi => omega)).mono ?_
  rintro e w3 ⟨c, rfl, hc, hc3, ht3⟩
  have ht13 := ((ht1.trans ht2).trans (Turned.of_below (below_alloc _ _))).trans ht3
  have hl3 := hc3.lt
  go_upto_region 2 with fail
  have hbx := MB.new w3 x y 0 0 c 26 (by omega)
  have hd : MC (w3.alloc (.cells #[.int .i64 x, .int .i64 y, .int .i64 0, .int .i64 0, .int .i64 c] 26)) w3.heap.size x y 0 0 c := ⟨by simp [go_sem], by simp [go_sem], by simp [go_sem], by simp [go_sem], by simp [go_sem]⟩
  generalize hWx : World.alloc w3 _ = W3 at *
  have hb3 : Below w3.heap.size w3 W3 := by subst hWx; exact below_alloc _ _
  clear hWx
  have hz0 := hb0.size
  have hz1 := ht13.size
  have hrl := hr0.lt
  have hs : Mv p w (K + 18) w.heap.size w3.heap.size W3 := ⟨(hr0.turn ht13 (by omega)).up hb3, hbx, (hc3.up hb3).more (by omega), ((Turned.of_below hb0).trans ht13).trans (Turned.of_below hb3)⟩
  have hpr : p < w.heap.size := hpw
  have hpb : p < w3.heap.size := by omega
  have hrb : w3.heap.size ≠ w.heap.size := by omega
  have hwb : w.heap.size ≤ w3.heap.size := by omega
  clear hr0 hbx hc1 hc2 hc3 ht1 ht2 ht3 ht13 h hb0 hb3
  refine mv_r2 p K w w3 W3 x y c _ _ _ _ _ _ _ _ _ _ _ _ _ _ _ _ _ _ _ _ _ _ _ _ _ _ _ _ _ _ _ _ _ _ _ _ _ _ _ _ _ _ _ _ _ _ _ _ _ _ _ _ _ (by omega) hs hpr hpb hrb hwb hd ?_
  rintro w4 u13 u14 u15 u16 u17 u18 u19 u20 u21 u22 u23 u24 u25 u26 u27 u28 u29 u30 u31 u32 u33 u34 hs
  clear hd
  go_wp2_with fail
  refine (cur_pick p _ 24 _ hs.cur (by omega) (by omega)).mono ?_
  rintro e w5 ⟨k, rfl, hk, hc6, ht6⟩
  replace hs := hs.next (Below.refl _ _) hc6 ht6 hpr hpb
  have hl5 := hs.lt
  clear hc6 ht6
  by_cases k0 : k = 0
  · subst k0
    go_wp2_with fail
    refine (cur_among p _ _ 3 (0) 65 _ (hs.cur.up (below_alloc _ _)) (by omega) (by omega) (by omega) (by first | omega | (simp; omega)) (by intro i hi; match i, hi with | 0, _ => exact ⟨0, (by first | (simp [go_sem]; done) | exact litc0 _ _ _ 0 _ rfl | exact litc1 _ _ _ _ 0 _ rfl | exact litc2 _ _ _ _ 0 _ rfl), by omega, by omega⟩ | 1, _ => exact ⟨64, (by first | (simp [go_sem]; done) | exact litc0 _ _ _ 1 _ rfl | exact litc1 _ _ _ _ 1 _ rfl | exact litc2 _ _ _ _ 1 _ rfl), by omega, by omega⟩ | 2, _ => exact ⟨65, (by first | (simp [go_sem]; done) | exact litc0 _ _ _ 2 _ rfl | exact litc1 _ _ _ _ 2 _ rfl | exact litc2 _ _ _ _ 2 _ rfl), by omega, by omega⟩ | (q + 3), hi => omega)).mono ?_
    rintro e w6 ⟨z, rfl, hz, hc6, ht6⟩
    replace hs := hs.next (below_alloc _ _) hc6 ht6 hpr hpb
    clear hc6 ht6
    obtain ⟨x9, y9, u9, v9, k9, g9, hk9⟩ := hs.box.ex
    obtain ⟨x8, y8, u8, v8, k8, g8, _⟩ := hs.res.ex
    have e0 := g9.c0
    have e1 := g9.c1
    have e2 := g9.c2
    have e3 := g9.c3
    have e4 := g9.c4
    have r0 := g8.c0
    have r1 := g8.c1
    have r2 := g8.c2
    have r3 := g8.c3
    have r4 := g8.c4
    have f0 := hs.res.free 0
    have f1 := hs.res.free 1
    have f2 := hs.res.free 2
    have f3 := hs.res.free 3
    have f4 := hs.res.free 4
    have i4 := hs.box.free 4
    have hs9 := (hs.set4 hpb hrb hwb z (by omega))
    have hp := hs9.res.put x9 y9 u9 v9 z
    have q0 := hp.c0
    have q1 := hp.c1
    have q2 := hp.c2
    have q3 := hp.c3
    have q4 := hp.c4
    have hb9 := put5_below (B := w.heap.size) (w6.setCell ⟨w3.heap.size, 4, none⟩ (.int .i64 z)) (.int .i64 x9) (.int .i64 y9) (.int .i64 u9) (.int .i64 v9) (.int .i64 z) (Nat.le_refl w.heap.size)
    have hc9 := hs9.cur.below hb9 hpw
    have ht9 := hs9.t.far hb9
    have HQ0 := Lib.hid (And.intro q0 (And.intro q1 (And.intro q2 (And.intro q3 q4))))
    have HC9 := Lib.hid (And.intro hc9 ht9)
    clear hp hs g9 g8 hs9 hb9 hc9 ht9 q0 q1 q2 q3 q4
    go_wp2_with fail
    obtain ⟨q0, q1, q2, q3, q4⟩ := HQ0.out
    obtain ⟨hc9, ht9⟩ := HC9.out
    generalize World.setCell (World.setCell (World.setCell (World.setCell (World.setCell (World.setCell w6 _ _) _ _) _ _) _ _) _ _) _ _ = wz at *
    refine bodyPost_ret (v := .agg #[.int .i64 x9, .int .i64 y9, .int .i64 u9, .int .i64 v9, .int .i64 z]) (by simp [results, Try.results64, go_sem, q0, q1, q2, q3, q4]) rfl ?_
    exact ⟨x9, y9, u9, v9, z, rfl, by omega, hc9.more (by omega), ht9⟩
  · have jk0 : ¬ (k : Int) = 0 := by omega
    by_cases k1 : k = 1
    · subst k1
      go_wp2_with fail
      refine (cur_anySpot p _ _ hs.cur (by omega)).mono ?_
      rintro e w6 ⟨z1, z2, rfl, hc6, ht6⟩
      replace hs := hs.next (Below.refl _ _) hc6 ht6 hpr hpb
      clear hc6 ht6
      obtain ⟨x9, y9, u9, v9, k9, g9, hk9⟩ := hs.box.ex
      obtain ⟨x8, y8, u8, v8, k8, g8, _⟩ := hs.res.ex
      have e0 := g9.c0
      have e1 := g9.c1
      have e2 := g9.c2
      have e3 := g9.c3
      have e4 := g9.c4
      have r0 := g8.c0
      have r1 := g8.c1
      have r2 := g8.c2
      have r3 := g8.c3
      have r4 := g8.c4
      have f0 := hs.res.free 0
      have f1 := hs.res.free 1
      have f2 := hs.res.free 2
      have f3 := hs.res.free 3
      have f4 := hs.res.free 4
      have i0 := hs.box.free 0
      have i1 := hs.box.free 1
      have hs9 := ((hs.set0 hpb hrb hwb z1).set1 hpb hrb hwb z2)
      have hp := hs9.res.put z1 z2 u9 v9 k9
      have q0 := hp.c0
      have q1 := hp.c1
      have q2 := hp.c2
      have q3 := hp.c3
      have q4 := hp.c4
      have hb9 := put5_below (B := w.heap.size) ((w6.setCell ⟨w3.heap.size, 0, none⟩ (.int .i64 z1)).setCell ⟨w3.heap.size, 1, none⟩ (.int .i64 z2)) (.int .i64 z1) (.int .i64 z2) (.int .i64 u9) (.int .i64 v9) (.int .i64 k9) (Nat.le_refl w.heap.size)
      have hc9 := hs9.cur.below hb9 hpw
      have ht9 := hs9.t.far hb9
      have HQ0 := Lib.hid (And.intro q0 (And.intro q1 (And.intro q2 (And.intro q3 q4))))
      have HC9 := Lib.hid (And.intro hc9 ht9)
      clear hp hs g9 g8 hs9 hb9 hc9 ht9 q0 q1 q2 q3 q4
      go_wp2_with fail
      obtain ⟨q0, q1, q2, q3, q4⟩ := HQ0.out
      obtain ⟨hc9, ht9⟩ := HC9.out
      generalize World.setCell (World.setCell (World.setCell (World.setCell (World.setCell (World.setCell (World.setCell w6 _ _) _ _) _ _) _ _) _ _) _ _) _ _ = wz at *
      refine bodyPost_ret (v := .agg #[.int .i64 z1, .int .i64 z2, .int .i64 u9, .int .i64 v9, .int .i64 k9]) (by simp [results, Try.results64, go_sem, q0, q1, q2, q3, q4]) rfl ?_
      exact ⟨z1, z2, u9, v9, k9, rfl, hk9, hc9.more (by omega), ht9⟩
    · have jk1 : ¬ (k : Int) = 1 := by omega
      by_cases k2 : k = 2
      · subst k2
        go_wp2_with fail
        refine (cur_anySpot p _ _ hs.cur (by omega)).mono ?_
        rintro e w6 ⟨z1, z2, rfl, hc6, ht6⟩
        replace hs := hs.next (Below.refl _ _) hc6 ht6 hpr hpb
        clear hc6 ht6
        obtain ⟨x9, y9, u9, v9, k9, g9, hk9⟩ := hs.box.ex
        obtain ⟨x8, y8, u8, v8, k8, g8, _⟩ := hs.res.ex
        have e0 := g9.c0
        have e1 := g9.c1
        have e2 := g9.c2
        have e3 := g9.c3
        have e4 := g9.c4
        have r0 := g8.c0
        have r1 := g8.c1
        have r2 := g8.c2
        have r3 := g8.c3
        have r4 := g8.c4
        have f0 := hs.res.free 0
        have f1 := hs.res.free 1
        have f2 := hs.res.free 2
        have f3 := hs.res.free 3
        have f4 := hs.res.free 4
        have i2 := hs.box.free 2
        have i3 := hs.box.free 3
        have hs9 := ((hs.set2 hpb hrb hwb z1).set3 hpb hrb hwb z2)
        have hp := hs9.res.put x9 y9 z1 z2 k9
        have q0 := hp.c0
        have q1 := hp.c1
        have q2 := hp.c2
        have q3 := hp.c3
        have q4 := hp.c4
        have hb9 := put5_below (B := w.heap.size) ((w6.setCell ⟨w3.heap.size, 2, none⟩ (.int .i64 z1)).setCell ⟨w3.heap.size, 3, none⟩ (.int .i64 z2)) (.int .i64 x9) (.int .i64 y9) (.int .i64 z1) (.int .i64 z2) (.int .i64 k9) (Nat.le_refl w.heap.size)
        have hc9 := hs9.cur.below hb9 hpw
        have ht9 := hs9.t.far hb9
        have HQ0 := Lib.hid (And.intro q0 (And.intro q1 (And.intro q2 (And.intro q3 q4))))
        have HC9 := Lib.hid (And.intro hc9 ht9)
        clear hp hs g9 g8 hs9 hb9 hc9 ht9 q0 q1 q2 q3 q4
        go_wp2_with fail
        obtain ⟨q0, q1, q2, q3, q4⟩ := HQ0.out
        obtain ⟨hc9, ht9⟩ := HC9.out
        generalize World.setCell (World.setCell (World.setCell (World.setCell (World.setCell (World.setCell (World.setCell w6 _ _) _ _) _ _) _ _) _ _) _ _) _ _ = wz at *
        refine bodyPost_ret (v := .agg #[.int .i64 x9, .int .i64 y9, .int .i64 z1, .int .i64 z2, .int .i64 k9]) (by simp [results, Try.results64, go_sem, q0, q1, q2, q3, q4]) rfl ?_
        exact ⟨x9, y9, z1, z2, k9, rfl, hk9, hc9.more (by omega), ht9⟩
      · have jk2 : ¬ (k : Int) = 2 := by omega
        obtain ⟨x9, y9, u9, v9, k9, g9, hk9⟩ := hs.box.ex
        obtain ⟨x8, y8, u8, v8, k8, g8, _⟩ := hs.res.ex
        have e0 := g9.c0
        have e1 := g9.c1
        have e2 := g9.c2
        have e3 := g9.c3
        have e4 := g9.c4
        have r0 := g8.c0
        have r1 := g8.c1
        have r2 := g8.c2
        have r3 := g8.c3
        have r4 := g8.c4
        have f0 := hs.res.free 0
        have f1 := hs.res.free 1
        have f2 := hs.res.free 2
        have f3 := hs.res.free 3
        have f4 := hs.res.free 4
        have hs9 := hs
        have hp := hs9.res.put x9 y9 u9 v9 k9
        have q0 := hp.c0
        have q1 := hp.c1
        have q2 := hp.c2
        have q3 := hp.c3
        have q4 := hp.c4
        have hb9 := put5_below (B := w.heap.size) w5 (.int .i64 x9) (.int .i64 y9) (.int .i64 u9) (.int .i64 v9) (.int .i64 k9) (Nat.le_refl w.heap.size)
        have hc9 := hs9.cur.below hb9 hpw
        have ht9 := hs9.t.far hb9
        have HQ0 := Lib.hid (And.intro q0 (And.intro q1 (And.intro q2 (And.intro q3 q4))))
        have HC9 := Lib.hid (And.intro hc9 ht9)
        clear hp hs g9 g8 hs9 hb9 hc9 ht9 q0 q1 q2 q3 q4
        go_wp2_with fail
        obtain ⟨q0, q1, q2, q3, q4⟩ := HQ0.out
        obtain ⟨hc9, ht9⟩ := HC9.out
        generalize World.setCell (World.setCell (World.setCell (World.setCell (World.setCell w5 _ _) _ _) _ _) _ _) _ _ = wz at *
        refine bodyPost_ret (v := .agg #[.int .i64 x9, .int .i64 y9, .int .i64 u9, .int .i64 v9, .int .i64 k9]) (by simp [results, Try.results64, go_sem, q0, q1, q2, q3, q4]) rfl ?_
        exact ⟨x9, y9, u9, v9, k9, rfl, hk9, hc9.more (by omega), ht9⟩
end Go.Proofs.Ytljdhicmcmppgaa
