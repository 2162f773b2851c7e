/-
  The reference's draws of spots.
-/
import Derived.Test.YtljdhicmcmppgaaRows
import Derived.Test.YtljdhicmcmppgaaBase
import Derived.Test.YtljdhicmcmppgaaSpot
import Derived.Test.YtljdhicmcmppgaaSlice
import Derived.Test.YtljdhicmcmppgaaLawS
import Derived.Test.YtljdhicmcmppgaaMark
import Derived.Test.YtljdhicmcmppgaaInts
import Derived.Test.YtljdhicmcmppgaaIntsL
import Derived.Test.YtljdhicmcmppgaaTurned
import Derived.Test.YtljdhicmcmppgaaTrans
import Derived.BigQuiet
import Derived.Test.YtljdhicmcmppgaaCur
import Derived.Test.YtljdhicmcmppgaaDrawP
import Derived.Test.YtljdhicmcmppgaaOpen
namespace Go.Proofs.Ytljdhicmcmppgaa
open Go.RowKit Go.ChangeShapes Go.WideShapes Go.Sort

/-- Returned: a spot; beside it only the cursor has turned. -/
def AnsSpot (w : World) (p K : Nat) (e : Ending) (w' : World) : Prop := ∃ x y : Int, e = .returned (.agg #[.int .i64 x, .int .i64 y]) ∧ CurAt w' p K ∧ Turned p (p + 1) w w'
set_option maxRecDepth 100000 in
set_option maxHeartbeats 4000000 in
theorem cur_spot (p K : Nat) (w : World) (h : CurAt w p K) (hK : K ≤ 1000000) :
    Calls Try.prog 76 #[.pointer (some ⟨p, 0, none⟩)] w (AnsSpot w p (K + 12)) := by
  have hpw := h.lt
  go_enter Try.func76, Try.ntmps76
  go_wp2_with fail
  generalize hW : World.alloc w _ = W0 at *
  have hbW : Below w.heap.size w W0 := by subst hW; exact below_alloc _ _
  have k0 : W0.cell? ⟨w.heap.size, 0, none⟩ = some (.int .i64 0) := by subst hW; simp [go_sem]
  have k1 : W0.cell? ⟨w.heap.size, 1, none⟩ = some (.int .i64 0) := by subst hW; simp [go_sem]
  have kf : Free W0 w.heap.size := by subst hW; intro o; simp [go_sem]
  have hlt0 : w.heap.size < W0.heap.size := lt_of_cell k0
  clear hW
  refine (cur_pick p K 161 _ (h.up hbW) (by omega) (by omega)).mono ?_
  rintro e w1 ⟨a, rfl, ha, hc1, ht1⟩
  go_wp2_with fail
  refine (cur_pick p _ 1281 _ hc1 (by omega) (by omega)).mono ?_
  rintro e w2 ⟨b, rfl, hb, hc2, ht2⟩
  have hl2 : p < w2.heap.size := hc2.lt
  go_wp2_with fail
  refine (cur_among p _ _ 7 0 1288 _ (hc2.up (below_alloc _ _)) (by omega) (by omega) (by omega) hl2 (by intro i hi; match i, hi with | 0, _ => exact ⟨0, by simp [go_sem], by omega, by omega⟩ | 1, _ => exact ⟨80, by simp [go_sem], by omega, by omega⟩ | 2, _ => exact ⟨160, by simp [go_sem], by omega, by omega⟩ | 3, _ => exact ⟨640, by simp [go_sem], by omega, by omega⟩ | 4, _ => exact ⟨(8 * (a : Int)), by simp [go_sem], by omega, by omega⟩ | 5, _ => exact ⟨(b : Int), by simp [go_sem], by omega, by omega⟩ | 6, _ => exact ⟨1280, by simp [go_sem], by omega, by omega⟩ | (q + 7), hi => omega)).mono ?_
  rintro e w3 ⟨x, rfl, hx, hc3, ht3⟩
  have ht13 := ((ht1.trans ht2).trans (Turned.of_below (below_alloc _ _))).trans ht3
  go_wp2_with fail
  refine (cur_pick p _ 85 _ hc3 (by omega) (by omega)).mono ?_
  rintro e w4 ⟨c, rfl, hc, hc4, ht4⟩
  go_wp2_with fail
  refine (cur_pick p _ 673 _ hc4 (by omega) (by omega)).mono ?_
  rintro e w5 ⟨d, rfl, hd, hc5, ht5⟩
  have hl5 : p < w5.heap.size := hc5.lt
  go_wp2_with fail
  refine (cur_among p _ _ 6 0 1288 _ (hc5.up (below_alloc _ _)) (by omega) (by omega) (by omega) hl5 (by intro i hi; match i, hi with | 0, _ => exact ⟨0, by simp [go_sem], by omega, by omega⟩ | 1, _ => exact ⟨80, by simp [go_sem], by omega, by omega⟩ | 2, _ => exact ⟨336, by simp [go_sem], by omega, by omega⟩ | 3, _ => exact ⟨(8 * (c : Int)), by simp [go_sem], by omega, by omega⟩ | 4, _ => exact ⟨(d : Int), by simp [go_sem], by omega, by omega⟩ | 5, _ => exact ⟨672, by simp [go_sem], by omega, by omega⟩ | (q + 6), hi => omega)).mono ?_
  rintro e w6 ⟨y, rfl, hy, hc6, ht6⟩
  have ht16 := (((ht13.trans ht4).trans ht5).trans (Turned.of_below (below_alloc _ _))).trans ht6
  have c0 := ht16.cell k0 (by omega)
  have c1 := ht16.cell k1 (by omega)
  have f0 := ht16.free kf hlt0 (by omega) 0
  have f1 := ht16.free kf hlt0 (by omega) 1
  go_wp2_with fail
  have q0 := (cell_set_ne (w6.setCell ⟨w.heap.size, 0, none⟩ (.int .i64 x)) (w.heap.size) 1 (.int .i64 y) (w.heap.size) 0 (by omega)).trans (cell_set_same w6 (w.heap.size) 0 _ (.int .i64 x) c0)
  have q1 := cell_set_same (w6.setCell ⟨w.heap.size, 0, none⟩ (.int .i64 x)) (w.heap.size) 1 _ (.int .i64 y) ((cell_set_ne w6 (w.heap.size) 0 (.int .i64 x) (w.heap.size) 1 (by omega)).trans c1)
  have hb9 : Below w.heap.size w6 ((w6.setCell ⟨w.heap.size, 0, none⟩ (.int .i64 x)).setCell ⟨w.heap.size, 1, none⟩ (.int .i64 y)) := ((Below.refl w.heap.size w6).setCell (p := ⟨w.heap.size, 0, none⟩) (Nat.le_refl _) _).setCell (p := ⟨w.heap.size, 1, none⟩) (Nat.le_refl _) _
  generalize World.setCell (World.setCell w6 _ _) _ _ = w9 at *
  refine bodyPost_ret (v := .agg #[.int .i64 x, .int .i64 y]) (by simp [results, Try.results76, go_sem, q0, q1]) rfl ?_
  exact ⟨x, y, rfl, (hc6.below hb9 hpw).more (by omega), ((Turned.of_below hbW).trans ht16).far hb9⟩
set_option maxRecDepth 100000 in
set_option maxHeartbeats 4000000 in
theorem cur_anySpot (p K : Nat) (w : World) (h : CurAt w p K) (hK : K ≤ 1000000) :
    Calls Try.prog 77 #[.pointer (some ⟨p, 0, none⟩)] w (AnsSpot w p (K + 20)) := by
  have hpw := h.lt
  go_enter Try.func77, Try.ntmps77
  go_wp2_with fail
  generalize hW : World.alloc w _ = W0 at *
  have hbW : Below w.heap.size w W0 := by subst hW; exact below_alloc _ _
  have k0 : W0.cell? ⟨w.heap.size, 0, none⟩ = some (.int .i64 0) := by subst hW; simp [go_sem]
  have k1 : W0.cell? ⟨w.heap.size, 1, none⟩ = some (.int .i64 0) := by subst hW; simp [go_sem]
  have kf : Free W0 w.heap.size := by subst hW; intro o; simp [go_sem]
  have hlt0 : w.heap.size < W0.heap.size := lt_of_cell k0
  clear hW
  refine (cur_spot p K _ (h.up hbW) (by omega)).mono ?_
  rintro e w1 ⟨x, y, rfl, hc1, ht1⟩
  go_wp2_with fail
  generalize hW : World.alloc w1 _ = W1 at *
  have hbV : Below w1.heap.size w1 W1 := by subst hW; exact below_alloc _ _
  have g0 : W1.cell? ⟨w1.heap.size, 0, none⟩ = some (.int .i64 x) := by subst hW; simp [go_sem]
  have g1 : W1.cell? ⟨w1.heap.size, 1, none⟩ = some (.int .i64 y) := by subst hW; simp [go_sem]
  have gf : Free W1 w1.heap.size := by subst hW; intro o; simp [go_sem]
  have hlt1 : w1.heap.size < W1.heap.size := lt_of_cell g0
  have hs1 := ht1.size
  clear hW
  refine (cur_pick p _ 30 _ (hc1.up hbV) (by omega) (by omega)).mono ?_
  rintro e w2 ⟨n, rfl, hn, hc2, ht2⟩
  have htW := (ht1.trans (Turned.of_below hbV)).trans ht2
  have hsW := hbW.size
  have hlw : w.heap.size < w1.heap.size := by omega
  have hlp : p < w1.heap.size := by omega
  by_cases n0 : n = 0
  · subst n0
    have hl2 : p < w2.heap.size := hc2.lt
    go_wp2_with fail
    refine (cur_among p _ _ 2 (-1) 1281 _ (hc2.up (below_alloc _ _)) (by omega) (by omega) (by omega) hl2 (by intro i hi; match i, hi with | 0, _ => exact ⟨(-1), by simp [go_sem], by omega, by omega⟩ | 1, _ => exact ⟨1281, by simp [go_sem], by omega, by omega⟩ | (q + 2), hi => omega)).mono ?_
    rintro e w3 ⟨z, rfl, hz, hc3, ht3⟩
    have hta := (Turned.of_below (lo := p) (hi := p + 1) (below_alloc w2 _)).trans ht3
    have a0 := (ht2.trans hta).cell g0 (by omega)
    have a1 := (ht2.trans hta).cell g1 (by omega)
    have af := (ht2.trans hta).free gf hlt1 (by omega)
    have af0 := af 0
    have af1 := af 1
    have b0 := (htW.trans hta).cell k0 (by omega)
    have b1 := (htW.trans hta).cell k1 (by omega)
    have bf := (htW.trans hta).free kf hlt0 (by omega)
    have bf0 := bf 0
    have bf1 := bf 1
    go_wp2_with fail
    have c0 := (cell_set_ne w3 w1.heap.size 0 (.int .i64 z) w.heap.size 0 (by omega)).trans b0
    have c1 := (cell_set_ne w3 w1.heap.size 0 (.int .i64 z) w.heap.size 1 (by omega)).trans b1
    have hb8 : Below w.heap.size w3 (w3.setCell ⟨w1.heap.size, 0, none⟩ (.int .i64 z)) := (Below.refl w.heap.size w3).setCell (p := ⟨w1.heap.size, 0, none⟩) (by show w.heap.size ≤ w1.heap.size; omega) _
    have q0 := (cell_set_ne ((w3.setCell ⟨w1.heap.size, 0, none⟩ (.int .i64 z)).setCell ⟨w.heap.size, 0, none⟩ (.int .i64 z)) (w.heap.size) 1 (.int .i64 y) (w.heap.size) 0 (by omega)).trans (cell_set_same (w3.setCell ⟨w1.heap.size, 0, none⟩ (.int .i64 z)) (w.heap.size) 0 _ (.int .i64 z) c0)
    have q1 := cell_set_same ((w3.setCell ⟨w1.heap.size, 0, none⟩ (.int .i64 z)).setCell ⟨w.heap.size, 0, none⟩ (.int .i64 z)) (w.heap.size) 1 _ (.int .i64 y) ((cell_set_ne (w3.setCell ⟨w1.heap.size, 0, none⟩ (.int .i64 z)) (w.heap.size) 0 (.int .i64 z) (w.heap.size) 1 (by omega)).trans c1)
    have hb9 : Below w.heap.size (w3.setCell ⟨w1.heap.size, 0, none⟩ (.int .i64 z)) (((w3.setCell ⟨w1.heap.size, 0, none⟩ (.int .i64 z)).setCell ⟨w.heap.size, 0, none⟩ (.int .i64 z)).setCell ⟨w.heap.size, 1, none⟩ (.int .i64 y)) := ((Below.refl w.heap.size (w3.setCell ⟨w1.heap.size, 0, none⟩ (.int .i64 z))).setCell (p := ⟨w.heap.size, 0, none⟩) (Nat.le_refl _) _).setCell (p := ⟨w.heap.size, 1, none⟩) (Nat.le_refl _) _
    generalize World.setCell (World.setCell (w3.setCell ⟨w1.heap.size, 0, none⟩ (.int .i64 z)) _ _) _ _ = w9 at *
    refine bodyPost_ret (v := .agg #[.int .i64 z, .int .i64 y]) (by simp [results, Try.results77, go_sem, q0, q1]) rfl ?_
    exact ⟨z, y, rfl, ((hc3.below hb8 hpw).below hb9 hpw).more (by omega), ((((Turned.of_below hbW).trans htW).trans hta).far hb8).far hb9⟩
  · by_cases n1 : n = 1
    · subst n1
      have hl2 : p < w2.heap.size := hc2.lt
      go_wp2_with fail
      refine (cur_among p _ _ 2 (-1) 1281 _ (hc2.up (below_alloc _ _)) (by omega) (by omega) (by omega) hl2 (by intro i hi; match i, hi with | 0, _ => exact ⟨(-1), by simp [go_sem], by omega, by omega⟩ | 1, _ => exact ⟨673, by simp [go_sem], by omega, by omega⟩ | (q + 2), hi => omega)).mono ?_
      rintro e w3 ⟨z, rfl, hz, hc3, ht3⟩
      have hta := (Turned.of_below (lo := p) (hi := p + 1) (below_alloc w2 _)).trans ht3
      have a0 := (ht2.trans hta).cell g0 (by omega)
      have a1 := (ht2.trans hta).cell g1 (by omega)
      have af := (ht2.trans hta).free gf hlt1 (by omega)
      have af0 := af 0
      have af1 := af 1
      have b0 := (htW.trans hta).cell k0 (by omega)
      have b1 := (htW.trans hta).cell k1 (by omega)
      have bf := (htW.trans hta).free kf hlt0 (by omega)
      have bf0 := bf 0
      have bf1 := bf 1
      go_wp2_with fail
      have c0 := (cell_set_ne w3 w1.heap.size 1 (.int .i64 z) w.heap.size 0 (by omega)).trans b0
      have c1 := (cell_set_ne w3 w1.heap.size 1 (.int .i64 z) w.heap.size 1 (by omega)).trans b1
      have hb8 : Below w.heap.size w3 (w3.setCell ⟨w1.heap.size, 1, none⟩ (.int .i64 z)) := (Below.refl w.heap.size w3).setCell (p := ⟨w1.heap.size, 1, none⟩) (by show w.heap.size ≤ w1.heap.size; omega) _
      have q0 := (cell_set_ne ((w3.setCell ⟨w1.heap.size, 1, none⟩ (.int .i64 z)).setCell ⟨w.heap.size, 0, none⟩ (.int .i64 x)) (w.heap.size) 1 (.int .i64 z) (w.heap.size) 0 (by omega)).trans (cell_set_same (w3.setCell ⟨w1.heap.size, 1, none⟩ (.int .i64 z)) (w.heap.size) 0 _ (.int .i64 x) c0)
      have q1 := cell_set_same ((w3.setCell ⟨w1.heap.size, 1, none⟩ (.int .i64 z)).setCell ⟨w.heap.size, 0, none⟩ (.int .i64 x)) (w.heap.size) 1 _ (.int .i64 z) ((cell_set_ne (w3.setCell ⟨w1.heap.size, 1, none⟩ (.int .i64 z)) (w.heap.size) 0 (.int .i64 x) (w.heap.size) 1 (by omega)).trans c1)
      have hb9 : Below w.heap.size (w3.setCell ⟨w1.heap.size, 1, none⟩ (.int .i64 z)) (((w3.setCell ⟨w1.heap.size, 1, none⟩ (.int .i64 z)).setCell ⟨w.heap.size, 0, none⟩ (.int .i64 x)).setCell ⟨w.heap.size, 1, none⟩ (.int .i64 z)) := ((Below.refl w.heap.size (w3.setCell ⟨w1.heap.size, 1, none⟩ (.int .i64 z))).setCell (p := ⟨w.heap.size, 0, none⟩) (Nat.le_refl _) _).setCell (p := ⟨w.heap.size, 1, none⟩) (Nat.le_refl _) _
      generalize World.setCell (World.setCell (w3.setCell ⟨w1.heap.size, 1, none⟩ (.int .i64 z)) _ _) _ _ = w9 at *
      refine bodyPost_ret (v := .agg #[.int .i64 x, .int .i64 z]) (by simp [results, Try.results77, go_sem, q0, q1]) rfl ?_
      exact ⟨x, z, rfl, ((hc3.below hb8 hpw).below hb9 hpw).more (by omega), ((((Turned.of_below hbW).trans htW).trans hta).far hb8).far hb9⟩
    · have jn0 : ¬ (n : Int) = 0 := by omega
      have jn1 : ¬ (n : Int) = 1 := by omega
      have a0 := ht2.cell g0 (by omega)
      have a1 := ht2.cell g1 (by omega)
      have c0 := htW.cell k0 (by omega)
      have c1 := htW.cell k1 (by omega)
      have bf := htW.free kf hlt0 (by omega)
      have bf0 := bf 0
      have bf1 := bf 1
      go_wp2_with fail
      have q0 := (cell_set_ne (w2.setCell ⟨w.heap.size, 0, none⟩ (.int .i64 x)) (w.heap.size) 1 (.int .i64 y) (w.heap.size) 0 (by omega)).trans (cell_set_same w2 (w.heap.size) 0 _ (.int .i64 x) c0)
      have q1 := cell_set_same (w2.setCell ⟨w.heap.size, 0, none⟩ (.int .i64 x)) (w.heap.size) 1 _ (.int .i64 y) ((cell_set_ne w2 (w.heap.size) 0 (.int .i64 x) (w.heap.size) 1 (by omega)).trans c1)
      have hb9 : Below w.heap.size w2 ((w2.setCell ⟨w.heap.size, 0, none⟩ (.int .i64 x)).setCell ⟨w.heap.size, 1, none⟩ (.int .i64 y)) := ((Below.refl w.heap.size w2).setCell (p := ⟨w.heap.size, 0, none⟩) (Nat.le_refl _) _).setCell (p := ⟨w.heap.size, 1, none⟩) (Nat.le_refl _) _
      generalize World.setCell (World.setCell w2 _ _) _ _ = w9 at *
      refine bodyPost_ret (v := .agg #[.int .i64 x, .int .i64 y]) (by simp [results, Try.results77, go_sem, q0, q1]) rfl ?_
      exact ⟨x, y, rfl, (hc2.below hb9 hpw).more (by omega), ((Turned.of_below hbW).trans htW).far hb9⟩
end Go.Proofs.Ytljdhicmcmppgaa
