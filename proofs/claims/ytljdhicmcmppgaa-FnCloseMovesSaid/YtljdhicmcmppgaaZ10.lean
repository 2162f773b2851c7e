/- Words and contracts, part 10. -/
import Derived.Test.YtljdhicmcmppgaaRows
import Derived.BigQuiet
import Derived.Deep.LoopGhost
import Derived.Deep.Onto
import Derived.Deep.CutRange
import Derived.Deep.DeepCutAuto
import Derived.Deep.RegionHeld3
import Derived.Deep.QuietTactic
import Derived.Test.YtljdhicmcmppgaaZ9
namespace Go.Proofs.Ytljdhicmcmppgaa
open Go.RowKit Go.ChangeShapes Go.WideShapes Go.Sort

theorem cells5_cong {M M' : Nat → Nat → Int} : ∀ n, (∀ i, i < n → ∀ j, j < 5 → M i j = M' i j) → cells5 M n = cells5 M' n
  | 0, _ => rfl
  | n + 1, h => by
    simp only [cells5]
    rw [cells5_cong n (fun i hi => h i (by omega)), h n (by omega) 0 (by omega), h n (by omega) 1 (by omega), h n (by omega) 2 (by omega), h n (by omega) 3 (by omega), h n (by omega) 4 (by omega)]
theorem OwnNM.cong {base : Nat} {w : World} {v : Value} {n : Nat} {M M' : Nat → Nat → Int} (h : OwnNM base w v n M) (hx : ∀ i, i < n → ∀ j, j < 5 → M i j = M' i j) : OwnNM base w v n M' := by
  unfold OwnNM at *
  rw [← cells5_cong n hx]; exact h
theorem OwnNM.turn {base : Nat} {w w' : World} {v : Value} {n : Nat} {M : Nat → Nat → Int} (h : OwnNM base w v n M) {p : Nat} (ht : Turned p (p + 1) w w') (hp : p < base) : OwnNM base w' v n M :=
  World.ownsRow.kept (row := some p) h ⟨ht.os, ht.tape, ht.output, ht.size, fun k hk hne => ht.block k hk (by have : k ≠ p := fun e => hne (by rw [e]); omega)⟩ (by
    cases hv : v.ownBlock with
    | none => exact .inl rfl
    | some k => exact .inr (fun e => by have := (World.ownsRow.lt h k hv).1; injection e with e; omega))
theorem Cells5.of5 {w : World} {b : Nat} {a : Nat → Int} {x y u v c : Int} (e0 : a 0 = x) (e1 : a 1 = y) (e2 : a 2 = u) (e3 : a 3 = v) (e4 : a 4 = c)
    (h0 : w.cell? ⟨b, 0, none⟩ = some (.int .i64 x)) (h1 : w.cell? ⟨b, 1, none⟩ = some (.int .i64 y)) (h2 : w.cell? ⟨b, 2, none⟩ = some (.int .i64 u)) (h3 : w.cell? ⟨b, 3, none⟩ = some (.int .i64 v)) (h4 : w.cell? ⟨b, 4, none⟩ = some (.int .i64 c)) : Cells5 w b 0 a :=
  ⟨by rw [e0]; exact h0, by rw [e1]; exact h1, by rw [e2]; exact h2, by rw [e3]; exact h3, by rw [e4]; exact h4⟩
/-- The counts of one move laid anew. -/
theorem Row5.put4 {w : World} {b o n k : Nat} {M : Nat → Nat → Int} (h : Row5 w b o n M) (hk : k < n) (z : Int) : Row5 (w.setCell ⟨b, o + k * 5 + 4, none⟩ (.int .i64 z)) b o n (fun i j => if i = k ∧ j = 4 then z else M i j) := fun i hi => by
  have hh := h i hi
  have far : ∀ q, o + k * 5 + 4 ≠ q → ∀ u, w.cell? ⟨b, q, none⟩ = some u → (w.setCell ⟨b, o + k * 5 + 4, none⟩ (.int .i64 z)).cell? ⟨b, q, none⟩ = some u := fun q hq u hu => (cell_set_ne _ _ _ _ _ _ (.inr hq)).trans hu
  refine ⟨?_, ?_, ?_, ?_, ?_⟩
  · simp only [show ¬ (i = k ∧ 0 = 4) by omega, if_false]; exact far _ (by omega) _ hh.c0
  · simp only [show ¬ (i = k ∧ 1 = 4) by omega, if_false]; exact far _ (by omega) _ hh.c1
  · simp only [show ¬ (i = k ∧ 2 = 4) by omega, if_false]; exact far _ (by omega) _ hh.c2
  · simp only [show ¬ (i = k ∧ 3 = 4) by omega, if_false]; exact far _ (by omega) _ hh.c3
  · by_cases e : i = k
    · subst e
      show _ = some (Value.int .i64 (if i = i ∧ 4 = 4 then z else M i 4))
      rw [if_pos ⟨rfl, rfl⟩]
      exact cell_set_same _ _ _ _ _ hh.c4
    · show _ = some (Value.int .i64 (if i = k ∧ 4 = 4 then z else M i 4))
      rw [if_neg (fun h => e h.1)]
      exact far _ (by omega) _ hh.c4
/-- n moves in own memory at an address, beside a cursor. -/
structure MvRow (W : World) (p K b o n : Nat) (w : World) : Prop where
  ex : ∃ M, Row5 w b o n M
  own : W.heap.size ≤ b
  free : Free w b
  cur : CurAt w p K
  t : Turned p (p + 1) W w
theorem MvRow.step {W w w' : World} {p K K' b o n : Nat} (h : MvRow W p K b o n w) (ht : Turned p (p + 1) w w') (hc : CurAt w' p K') (hpb : p < b) (hn : 0 < n) : MvRow W p K' b o n w' := by
  obtain ⟨M, hM⟩ := h.ex
  exact ⟨⟨M, hM.turn ht (by omega)⟩, h.own, ht.free h.free (hM.lt hn) (by omega), hc, h.t.trans ht⟩
theorem MvRow.put {W w : World} {p K b o n k : Nat} (h : MvRow W p K b o n w) (hk : k < n) (hpb : p < b) (z : Int) : MvRow W p K b o n (w.setCell ⟨b, o + k * 5 + 4, none⟩ (.int .i64 z)) := by
  obtain ⟨M, hM⟩ := h.ex
  exact ⟨⟨_, hM.put4 hk z⟩, h.own, h.free.set _ _, h.cur.below ((Below.refl b w).setCell (p := ⟨b, o + k * 5 + 4, none⟩) (Nat.le_refl _) _) hpb, h.t.far (((Below.refl w.heap.size w)).mono (Nat.le_refl _) |> fun _ => (Below.refl W.heap.size w).setCell (p := ⟨b, o + k * 5 + 4, none⟩) h.own _)⟩
/-- Returned: up to 13 moves in new memory; beside it only the cursor has turned. -/
def AnsMvs (w : World) (p K : Nat) (e : Ending) (w' : World) : Prop := ∃ v n M, e = .returned v ∧ OwnM w.heap.size w' v n M ∧ n ≤ 13 ∧ CurAt w' p K ∧ Turned p (p + 1) w w'
set_option maxRecDepth 100000 in
set_option maxHeartbeats 8000000 in
theorem cur_movesTogether (p K : Nat) (w : World) (h : CurAt w p K) (hK : K ≤ 100000) :
    Calls Try.prog 54 #[.pointer (some ⟨p, 0, none⟩)] w (AnsMvs w p (K + 2600)) := by
  have hpw := h.lt
  go_enter Try.func54, Try.ntmps54
  go_wp2_with fail
  refine (cur_pick p K 4 _ h (by omega) (by omega)).mono ?_
  rintro e w1 ⟨x, rfl, hx, hc1, ht1⟩
  have hs1 := ht1.size
  go_wp2_with fail
  refine (cur_one p _ 16 _ hc1 (by omega) (by omega)).mono ?_
  rintro e w2 ⟨q, rfl, hc2, ht2⟩
  have ht12 := ht1.trans ht2
  have hs2 := ht12.size
  clear h hc1
  go_upto_if 12 with fail
  go_cut [4] (fun s wx => ∃ n : Nat, s = .int .i64 (n : Int) ∧ 1 ≤ n ∧ n ≤ 13 ∧ CurAt wx p (K + 6) ∧ Turned p (p + 1) w wx)
  case first =>
    cases q with
    | false =>
      go_wp2_with fail
      go_meet
      exact ⟨2 + x, by rw [show ((2 : Int) + (x : Int)) = ((2 + x : Nat) : Int) by omega], by omega, by omega, hc2.more (by omega), ht12⟩
    | true =>
      go_wp2_with fail
      refine (cur_among p _ _ 3 1 13 _ (hc2.up (below_alloc _ _)) (by omega) (by omega) (by omega) (by first | omega | (simp; omega)) (by intro i hi; match i, hi with | 0, _ => exact ⟨1, (by first | (simp [go_sem]; done) | exact litc0 _ _ _ 0 _ rfl), by omega, by omega⟩ | 1, _ => exact ⟨12, (by first | (simp [go_sem]; done) | exact litc0 _ _ _ 1 _ rfl), by omega, by omega⟩ | 2, _ => exact ⟨13, (by first | (simp [go_sem]; done) | exact litc0 _ _ _ 2 _ rfl), by omega, by omega⟩ | (q + 3), hi => omega)).mono ?_
      rintro e w3 ⟨z, rfl, ⟨hz, hz'⟩, hc3, ht3⟩
      go_wp2_with fail
      go_meet
      exact ⟨z.toNat, by rw [show ((z.toNat : Nat) : Int) = z by omega], by omega, by omega, hc3.more (by omega), (ht12.trans (Turned.of_below (below_alloc _ _))).trans ht3⟩
  case rest =>
  obtain ⟨n, rfl, hn1, hn13, hc3, ht3⟩ := hcut
  obtain ⟨w3, rfl⟩ : ∃ W : World, W = wc := ⟨_, rfl⟩
  clear hc2 ht12 ht1 ht2 hs1 hs2
  go_wp2_with fail
  go_loopg [3] 13 (fun gk q wr => ∃ m M, m ≤ n ∧ n - m ≤ gk ∧ OwnNM w.heap.size wr q m M ∧ CurAt wr p (K + 6 + 160 * m) ∧ Turned p (p + 1) w wr)
  case atStart => exact ⟨0, fun _ _ => 0, by omega, by omega, OwnNM.nil _ _ _, hc3.more (by omega), ht3⟩
  case round =>
    clear hc3 ht3
    obtain ⟨m, M, hm, hmg, how, hc, ht⟩ := hrel
    obtain ⟨A, c, e1, hmc, _⟩ := how.shape
    subst e1
    have HO := Lib.hid how
    have hsw := ht.size
    have hlo : ∀ k, (Value.slice A m c).ownBlock = some k → w.heap.size ≤ k ∧ k < wr.heap.size := fun k hk => World.ownsRow.lt how k hk
    have HLO := Lib.hid hlo
    clear how hlo
    by_cases hlt : m < n
    · have j1 : (m : Int) < (n : Int) := by omega
      go_wp2_with fail
      refine (cur_together p _ _ hc (by omega)).mono ?_
      rintro e w4 ⟨x1, y1, u1, v1, k1, x2, y2, u2, v2, k2, rfl, hk1, hk2, hc4, ht4⟩
      have hs4 := ht4.size
      have HO4 := Lib.hid ((HO.out.turn ht4 hpw).cong (M' := fun i j => if i = m then (if j = 0 then x1 else if j = 1 then y1 else if j = 2 then u1 else if j = 3 then v1 else k1) else if i = m + 1 then (if j = 0 then x2 else if j = 1 then y2 else if j = 2 then u2 else if j = 3 then v2 else k2) else M i j) (fun i hi j _ => by simp only [show ¬ i = m by omega, show ¬ i = m + 1 by omega, if_false]))
      obtain ⟨M2, hM2⟩ : ∃ M2 : Nat → Nat → Int, (fun i j => if i = m then (if j = 0 then x1 else if j = 1 then y1 else if j = 2 then u1 else if j = 3 then v1 else k1) else if i = m + 1 then (if j = 0 then x2 else if j = 1 then y2 else if j = 2 then u2 else if j = 3 then v2 else k2) else M i j) = M2 := ⟨_, rfl⟩
      rw [hM2] at HO4
      have HA := Lib.hid (show (M2 m 0 = x1 ∧ M2 m 1 = y1 ∧ M2 m 2 = u1 ∧ M2 m 3 = v1 ∧ M2 m 4 = k1) ∧ M2 (m + 1) 0 = x2 ∧ M2 (m + 1) 1 = y2 ∧ M2 (m + 1) 2 = u2 ∧ M2 (m + 1) 3 = v2 ∧ M2 (m + 1) 4 = k2 by subst hM2; simp)
      clear hM2
      go_upto_region 7 with fail
      generalize hW : World.alloc (World.alloc w4 _) _ = W4 at *
      have hb4 : Below w4.heap.size w4 W4 := by subst hW; exact up_trans (below_alloc _ _) (below_alloc _ _)
      have hz4 : w4.heap.size + 1 < W4.heap.size := by subst hW; simp
      have q0 : MC W4 w4.heap.size x1 y1 u1 v1 k1 := by subst hW; exact ⟨by simp [go_sem], by simp [go_sem], by simp [go_sem], by simp [go_sem], by simp [go_sem]⟩
      have q1 : MC W4 (w4.heap.size + 1) x2 y2 u2 v2 k2 := by subst hW; exact ⟨by simp [go_sem], by simp [go_sem], by simp [go_sem], by simp [go_sem], by simp [go_sem]⟩
      clear hW
      have HO5 := Lib.hid (HO4.out.up hb4)
      have hc5 := hc4.up hb4
      have ht5 : Turned p (p + 1) w W4 := (ht.trans ht4).trans (Turned.of_below hb4)
      have hw5 : w.heap.size ≤ W4.heap.size := by omega
      have hne : (Value.slice A m c).ownBlock ≠ some (w4.heap.size + 1) := fun hk => by have := (HLO.out _ hk).2; omega
      clear hc hc4 ht ht4 hb4 HO4
      obtain ⟨i0, i1, i2, i3, i4⟩ := id q0
      by_cases hlt2 : m + 1 < n
      · have j2 : ((m : Int) + 1) < (n : Int) := by omega
        have j2' : ((m + 1 : Nat) : Int) < (n : Int) := by omega
        go_upto_if 32 with (at_builtin; refine wpList_app_move rfl (.tmp 25) (.tmp 27) rfl w.heap.size _ m M2 rfl rfl (Cells5.of5 HA.out.1.1 HA.out.1.2.1 HA.out.1.2.2.1 HA.out.1.2.2.2.1 HA.out.1.2.2.2.2 (by simp [go_sem]) (by simp [go_sem]) (by simp [go_sem]) (by simp [go_sem]) (by simp [go_sem])) (OwnNM.up HO5.out (show Below W4.heap.size W4 _ from (by (repeat (first | with_reducible exact Below.refl _ _ | with_reducible assumption | with_reducible refine up_alloc ?_ _ | with_reducible refine up_drew ?_ | with_reducible refine up_drewN ?_ _ | (with_reducible refine up_set ?_ ?hset _; case hset => first | (simp; done) | (simp; omega) | omega) | with_reducible refine up_trans ?_ (by with_reducible assumption)))))) (Nat.le_trans hw5 (show Below W4.heap.size W4 _ from (by (repeat (first | with_reducible exact Below.refl _ _ | with_reducible assumption | with_reducible refine up_alloc ?_ _ | with_reducible refine up_drew ?_ | with_reducible refine up_drewN ?_ _ | (with_reducible refine up_set ?_ ?hset _; case hset => first | (simp; done) | (simp; omega) | omega) | with_reducible refine up_trans ?_ (by with_reducible assumption))))).size) (by omega) ?_; intro v6 w6 ho6 hb6 hg6 hd6; obtain ⟨A6, c6, e6, _, _⟩ := ho6.shape; subst e6)
        have hs6 := hb6.size
        simp only [World.size_alloc] at hs6
        have k0 := far_keep (show Below W4.heap.size W4 _ from below_alloc _ _) hg6 q1.c0 hne
        have k1 := far_keep (show Below W4.heap.size W4 _ from below_alloc _ _) hg6 q1.c1 hne
        have k2 := far_keep (show Below W4.heap.size W4 _ from below_alloc _ _) hg6 q1.c2 hne
        have k3 := far_keep (show Below W4.heap.size W4 _ from below_alloc _ _) hg6 q1.c3 hne
        have k4 := far_keep (show Below W4.heap.size W4 _ from below_alloc _ _) hg6 q1.c4 hne
        have hc6 : CurAt w6 p (K + 6 + 160 * m + 160) := (hc5.up (below_alloc _ _)).below hb6 hpw
        have ht6 : Turned p (p + 1) w w6 := (ht5.trans (Turned.of_below (below_alloc _ _))).far hb6
        have hw6 : w.heap.size ≤ w6.heap.size := by omega
        have HO6 := Lib.hid ho6
        clear hb6 hg6 hd6 ho6 i0 i1 i2 i3 i4 q0 q1 hc5 ht5
        go_wp2_with (at_builtin; refine wpList_app_move rfl (.tmp 33) (.tmp 35) rfl w.heap.size _ (m + 1) M2 rfl rfl (Cells5.of5 HA.out.2.1 HA.out.2.2.1 HA.out.2.2.2.1 HA.out.2.2.2.2.1 HA.out.2.2.2.2.2 (by simp [go_sem]) (by simp [go_sem]) (by simp [go_sem]) (by simp [go_sem]) (by simp [go_sem])) (OwnNM.up HO6.out (show Below w6.heap.size w6 _ from (by (repeat (first | with_reducible exact Below.refl _ _ | with_reducible assumption | with_reducible refine up_alloc ?_ _ | with_reducible refine up_drew ?_ | with_reducible refine up_drewN ?_ _ | (with_reducible refine up_set ?_ ?hset _; case hset => first | (simp; done) | (simp; omega) | omega) | with_reducible refine up_trans ?_ (by with_reducible assumption)))))) (Nat.le_trans hw6 (show Below w6.heap.size w6 _ from (by (repeat (first | with_reducible exact Below.refl _ _ | with_reducible assumption | with_reducible refine up_alloc ?_ _ | with_reducible refine up_drew ?_ | with_reducible refine up_drewN ?_ _ | (with_reducible refine up_set ?_ ?hset _; case hset => first | (simp; done) | (simp; omega) | omega) | with_reducible refine up_trans ?_ (by with_reducible assumption))))).size) (by omega) ?_; intro v7 w7 ho7 hb7 hg7 hd7)
        go_roundg (n - (m + 2))
        case measure => omega
        case rel => exact ⟨m + 2, M2, by omega, by omega, ho7, ((hc6.up (below_alloc _ _)).below hb7 hpw).more (by omega), (ht6.trans (Turned.of_below (below_alloc _ _))).far hb7⟩
      · have j2 : ¬ ((m : Int) + 1) < (n : Int) := by omega
        have j2' : ¬ ((m + 1 : Nat) : Int) < (n : Int) := by omega
        go_upto_if 32 with (at_builtin; refine wpList_app_move rfl (.tmp 25) (.tmp 27) rfl w.heap.size _ m M2 rfl rfl (Cells5.of5 HA.out.1.1 HA.out.1.2.1 HA.out.1.2.2.1 HA.out.1.2.2.2.1 HA.out.1.2.2.2.2 (by simp [go_sem]) (by simp [go_sem]) (by simp [go_sem]) (by simp [go_sem]) (by simp [go_sem])) (OwnNM.up HO5.out (show Below W4.heap.size W4 _ from (by (repeat (first | with_reducible exact Below.refl _ _ | with_reducible assumption | with_reducible refine up_alloc ?_ _ | with_reducible refine up_drew ?_ | with_reducible refine up_drewN ?_ _ | (with_reducible refine up_set ?_ ?hset _; case hset => first | (simp; done) | (simp; omega) | omega) | with_reducible refine up_trans ?_ (by with_reducible assumption)))))) (Nat.le_trans hw5 (show Below W4.heap.size W4 _ from (by (repeat (first | with_reducible exact Below.refl _ _ | with_reducible assumption | with_reducible refine up_alloc ?_ _ | with_reducible refine up_drew ?_ | with_reducible refine up_drewN ?_ _ | (with_reducible refine up_set ?_ ?hset _; case hset => first | (simp; done) | (simp; omega) | omega) | with_reducible refine up_trans ?_ (by with_reducible assumption))))).size) (by omega) ?_; intro v6 w6 ho6 hb6 hg6 hd6; obtain ⟨A6, c6, e6, _, _⟩ := ho6.shape; subst e6)
        have hs6 := hb6.size
        simp only [World.size_alloc] at hs6
        have hc6 : CurAt w6 p (K + 6 + 160 * m + 160) := (hc5.up (below_alloc _ _)).below hb6 hpw
        have ht6 : Turned p (p + 1) w w6 := (ht5.trans (Turned.of_below (below_alloc _ _))).far hb6
        clear i0 i1 i2 i3 i4 q0 q1
        go_wp2_with fail
        go_roundg (n - (m + 1))
        case measure => omega
        case rel => exact ⟨m + 1, M2, by omega, by omega, ho6, hc6.more (by omega), ht6⟩
    · have e : m = n := by omega
      subst e
      have ho := HO.out.ownM
      obtain ⟨A1, c1, e1, _, hrow⟩ := ho
      injection e1 with e1 _ e2
      subst e1
      subst e2
      obtain ⟨b, o, rfl, hwb, hfb, hrow⟩ := hrow (by omega)
      have hR : MvRow w p (K + 6 + 160 * m) b o m wr := ⟨⟨M, hrow⟩, hwb, hfb, hc, ht⟩
      have hpb : p < b := by omega
      clear hrow hfb hc ht HO HLO
      go_wp2_with fail
      obtain ⟨w5, rfl⟩ : ∃ W : World, W = wr := ⟨_, rfl⟩
      go_loopw [39] (fun i wr => ∃ k : Nat, k ≤ m ∧ i = .int .i64 k ∧ MvRow w p (K + 6 + 160 * m + 2 * k) b o m wr) (fun i _ => m - (intOf i).toNat)
      case atStart => exact ⟨0, by omega, rfl, hR⟩
      case round =>
        clear hR
        obtain ⟨k, hk, rfl, hR⟩ := hrel
        by_cases hkm : k < m
        · have jk : (k : Int) < (m : Int) := by omega
          have jk0 : (0 : Int) < (m : Int) := by omega
          go_wp2_with fail
          refine (cur_one p _ 60 _ hR.cur (by omega) (by omega)).mono ?_
          rintro e w8 ⟨q8, rfl, hc8, ht8⟩
          have hR8 := hR.step ht8 hc8 hpb (by omega)
          cases q8 with
          | true =>
            go_wp2_with fail
            go_roundw
            case rel => exact ⟨k + 1, by omega, by go_num, ⟨hR8.ex, hR8.own, hR8.free, hR8.cur.more (by omega), hR8.t⟩⟩
            case measure => simp [intOf]; omega
          | false =>
            have HR8 := Lib.hid hR8
            obtain ⟨M8, hM8⟩ := hR8.ex
            have d0 := (hM8 0 (by omega)).c4
            rw [Nat.zero_mul, Nat.add_zero] at d0
            have d1 := (hM8 k hkm).c4
            have f1 := hR8.free (o + k * 5 + 4)
            generalize M8 0 4 = z0 at *
            clear hM8 hR8 hR
            go_wp2_with fail
            go_roundw
            case rel => exact ⟨k + 1, by omega, by go_num, by
              have h9 := HR8.out.put hkm hpb z0
              exact ⟨h9.ex, h9.own, h9.free, h9.cur.more (by omega), h9.t⟩⟩
            case measure => simp [intOf]; omega
        · have ek : k = m := by omega
          subst ek
          obtain ⟨M9, hM9⟩ := hR.ex
          go_wp2_with fail
          go_ret
          exact ⟨_, k, M9, rfl, ⟨_, _, rfl, by omega, fun _ => ⟨b, o, rfl, hwb, hR.free, hM9⟩⟩, hn13, hR.cur.more (by omega), hR.t⟩
/-- Returned: moves (and a number); nothing that was there has turned. -/
def AnsDM (w : World) (e : Ending) (w' : World) : Prop := ∃ v n M, e = .returned v ∧ Moves w' v n M ∧ n ≤ 13 ∧ Below w.heap.size w w'
def AnsDMI (w : World) (e : Ending) (w' : World) : Prop := ∃ v n M, ∃ d : Int, e = .returned (.tuple #[v, .int .i64 d]) ∧ Moves w' v n M ∧ n ≤ 13 ∧ Below w.heap.size w w'
set_option maxRecDepth 100000 in
theorem drawClosestMoves_g (v : Value) (n : Nat) (w : World) (h : Bytes w v n) (hn : n ≤ 9223372036854775807) : Calls Try.prog 21 #[v] w (AnsDM w) := by
  obtain ⟨A, c, rfl, hc, hr⟩ := h
  have HC := Lib.hid (fun t => curAt_new ⟨A, c, rfl, hc, hr⟩ hn t)
  clear hr
  go_enter Try.func21, Try.ntmps21
  go_wp2_with fail
  refine (cur_movesTogether w.heap.size 0 _ (HC.out _) (by omega)).mono ?_
  rintro e w1 ⟨v1, n1, M, rfl, ho, hn1, hc1, ht1⟩
  go_wp2_with fail
  go_ret
  exact ⟨_, n1, M, rfl, ho.moves, hn1, cur_below ht1⟩
set_option maxRecDepth 100000 in
theorem drawCloseMoves_g (v : Value) (n : Nat) (w : World) (h : Bytes w v n) (hn : n ≤ 9223372036854775807) : Calls Try.prog 26 #[v] w (AnsDMI w) := by
  obtain ⟨A, c, rfl, hc, hr⟩ := h
  have HC := Lib.hid (fun t => curAt_new ⟨A, c, rfl, hc, hr⟩ hn t)
  clear hr
  go_enter Try.func26, Try.ntmps26
  go_wp2_with fail
  refine (cur_movesTogether w.heap.size 0 _ (HC.out _) (by omega)).mono ?_
  rintro e w1 ⟨v1, n1, M, rfl, ho, hn1, hc1, ht1⟩
  go_wp2_with fail
  refine (cur_leastDistance w.heap.size _ _ hc1 (by omega)).mono ?_
  rintro e w2 ⟨d, rfl, _, hc2, ht2⟩
  go_wp2_with fail
  go_ret2
  exact ⟨_, n1, M, d, rfl, (ho.turn ht2 (by simp)).moves, hn1, cur_below (ht1.trans ht2)⟩
set_option maxHeartbeats 1000000 in
theorem qLists_g (v v' : Value) (n : Nat) (R : Nat → Nat) (F : Nat → Nat → Int) (w : World) (h : IRows w v n R F) (h' : IRows w v' n R F) (hn : n ≤ 1048576) (hR : ∀ i, i < n → R i ≤ 1048576) :
    Calls Try.prog 32 #[v, v'] w (Ans w (.bool true)) := by
  obtain ⟨A, c, V, rfl, hnc, hrow, hf⟩ := h
  obtain ⟨A', c', V', rfl, hnc', hrow', hf'⟩ := h'
  have HF := Lib.hid hf
  have HF' := Lib.hid hf'
  have HRR := Lib.hid hR
  clear hf hf' hR
  go_enter Try.func32, Try.ntmps32
  go_wp2_with fail
  go_loopw [13] (fun i wr => ∃ k : Nat, k ≤ n ∧ i = .int .i64 k ∧ Below w.heap.size w wr) (fun i _ => n - (intOf i).toNat)
  case atStart => exact ⟨0, by omega, rfl, Below.refl _ _⟩
  case round =>
    obtain ⟨k, hk, rfl, hb⟩ := hrel
    by_cases hlt : k < n
    · obtain ⟨b, o, rfl, hr⟩ := hrow (by omega)
      obtain ⟨b', o', rfl, hr'⟩ := hrow' (by omega)
      have HC := Lib.hid (fun W (hW : Below wr.heap.size wr W) => qInts_g (V k) (V' k) (R k) (F k) W (((HF.out k hlt).up hb).up hW) (((HF'.out k hlt).up hb).up hW) (HRR.out k hlt))
      obtain ⟨a1, q1, e1, _⟩ := (HF.out k hlt)
      obtain ⟨a2, q2, e2, _⟩ := (HF'.out k hlt)
      have c0 := cell_regrown (up_keep hb (hr k hlt))
      have c1 := cell_regrown (up_keep hb (hr' k hlt))
      have jk : (k : Int) < (n : Int) := by omega
      rw [e1] at c0 HC
      rw [e2] at c1 HC
      clear hr hr' hrow hrow' e1 e2
      go_wp2_with fail
      refine wp_region_up (by kernel_rfl) (by kernel_rfl) ?_
      repeat (go_big_quiet_step (exact up_of (fun W hW => HC.out W hW) _ _))
      refine wpQuiet_nil ?_
      intro w1 hb0
      obtain ⟨hc0, hf0⟩ := bcell hb0
      go_wp2_with fail
      go_roundw
      case rel => exact ⟨k + 1, by omega, by go_num, up_trans hb hb0⟩
      case measure => simp [intOf]; omega
    · have e : k = n := by omega
      subst e
      go_wp2_with fail
      go_ret
      exact Ans.bool rfl hb
end Go.Proofs.Ytljdhicmcmppgaa
namespace Go.Proofs.Ytljdhicmcmppgaa
open Go.RowKit Go.ChangeShapes Go.WideShapes Go.Sort

theorem crs_bd {x y u v p q : Int} (h1 : spotB x y = true) (h2 : spotB u v = true) (h3 : spotB p q = true) :
    (-1280 ≤ u - x ∧ u - x ≤ 1280) ∧ (-672 ≤ q - y ∧ q - y ≤ 672) ∧ (-672 ≤ v - y ∧ v - y ≤ 672) ∧ (-1280 ≤ p - x ∧ p - x ≤ 1280) ∧ (-860160 ≤ (u - x) * (q - y) ∧ (u - x) * (q - y) ≤ 860160) ∧ (-860160 ≤ (v - y) * (p - x) ∧ (v - y) * (p - x) ≤ 860160) := by
  rw [spotB_iff] at h1 h2 h3
  obtain ⟨⟨a1, a2⟩, a3, a4⟩ := h1
  obtain ⟨⟨b1, b2⟩, b3, b4⟩ := h2
  obtain ⟨⟨c1, c2⟩, c3, c4⟩ := h3
  have m1 := mul_bd (a := u - x) (b := q - y) (A := 1280) (B := 672) (by omega) (by omega) (by omega) (by omega)
  have m2 := mul_bd (a := v - y) (b := p - x) (A := 672) (B := 1280) (by omega) (by omega) (by omega) (by omega)
  omega
set_option maxRecDepth 100000 in
set_option maxHeartbeats 1000000 in
theorem crossOf_any (x y u v p q : Int) (h1 : spotB x y = true) (h2 : spotB u v = true) (h3 : spotB p q = true) (w : World) :
    Calls Try.prog 61 #[.agg #[.int .i64 x, .int .i64 y], .agg #[.int .i64 u, .int .i64 v], .agg #[.int .i64 p, .int .i64 q]] w (Ans w (.int .i64 (crs x y u v p q))) := by
  obtain ⟨⟨a1, a2⟩, ⟨b1, b2⟩, ⟨c1, c2⟩, ⟨d1, d2⟩, ⟨e1, e2⟩, f1, f2⟩ := crs_bd h1 h2 h3
  have H := Lib.hid (show crs x y u v p q = (u - x) * (q - y) - (v - y) * (p - x) from rfl)
  clear h1 h2 h3
  go_enter Try.func61, Try.ntmps61
  go_wp2_with fail
  go_ret
  rw [H.out]
  exact ⟨rfl, by (repeat (first | with_reducible exact Below.refl _ _ | with_reducible assumption | with_reducible refine up_alloc ?_ _ | with_reducible refine up_drew ?_ | with_reducible refine up_drewN ?_ _ | (with_reducible refine up_set ?_ ?hset _; case hset => first | (simp; done) | (simp; omega) | omega) | with_reducible refine up_trans ?_ (by with_reducible assumption)))⟩
set_option maxHeartbeats 400000 in
theorem sideOf_any (n : Int) (w : World) : Calls Try.prog 60 #[.int .i64 n] w fun e w' => e = .returned (.int .i64 (sgn n)) ∧ w = w' := by
  have H := Lib.hid (show (0 < n → sgn n = 1) ∧ (n < 0 → sgn n = -1) ∧ (¬ 0 < n → ¬ n < 0 → sgn n = 0) from by unfold sgn; refine ⟨fun h => if_pos h, fun h => ?_, fun h h' => ?_⟩ <;> (repeat' split) <;> omega)
  go_enter Try.func60, Try.ntmps60
  go_wp2_with fail
  all_goals
    go_ret
    have h := H.out
    first
      | (rw [h.1 (by omega)]; exact ⟨rfl, rfl⟩)
      | (rw [h.2.1 (by omega)]; exact ⟨rfl, rfl⟩)
      | (rw [h.2.2 (by omega) (by omega)]; exact ⟨rfl, rfl⟩)
set_option maxHeartbeats 400000 in
theorem l1Sign_any (n : Int) (w : World) : Calls Try.prog 75 #[.int .i64 n] w fun e w' => e = .returned (.int .i64 (sgn n)) ∧ w = w' := by
  have H := Lib.hid (show (0 < n → sgn n = 1) ∧ (n < 0 → sgn n = -1) ∧ (¬ 0 < n → ¬ n < 0 → sgn n = 0) from by unfold sgn; refine ⟨fun h => if_pos h, fun h => ?_, fun h h' => ?_⟩ <;> (repeat' split) <;> omega)
  go_enter Try.func75, Try.ntmps75
  go_wp2_with fail
  all_goals
    go_ret
    have h := H.out
    first
      | (rw [h.1 (by omega)]; exact ⟨rfl, rfl⟩)
      | (rw [h.2.1 (by omega)]; exact ⟨rfl, rfl⟩)
      | (rw [h.2.2 (by omega) (by omega)]; exact ⟨rfl, rfl⟩)
set_option maxRecDepth 100000 in
set_option maxHeartbeats 1000000 in
theorem apSide_any (x y u v p q : Int) (h1 : spotB x y = true) (h2 : spotB u v = true) (h3 : spotB p q = true) (w : World) :
    Calls Try.prog 62 #[.agg #[.int .i64 x, .int .i64 y], .agg #[.int .i64 u, .int .i64 v], .agg #[.int .i64 p, .int .i64 q]] w (Ans w (.int .i64 (sgn (crs x y u v p q)))) := by
  obtain ⟨⟨a1, a2⟩, ⟨b1, b2⟩, ⟨c1, c2⟩, ⟨d1, d2⟩, ⟨e1, e2⟩, f1, f2⟩ := crs_bd h1 h2 h3
  have H := Lib.hid (show crs x y u v p q = (u - x) * (q - y) - (v - y) * (p - x) from rfl)
  clear h1 h2 h3
  go_enter Try.func62, Try.ntmps62
  go_wp2_with (go_at_call 75; refine (l1Sign_any _ _).mono ?_; rintro e w1 ⟨rfl, rfl⟩)
  go_ret
  rw [H.out]
  exact ⟨rfl, by (repeat (first | with_reducible exact Below.refl _ _ | with_reducible assumption | with_reducible refine up_alloc ?_ _ | with_reducible refine up_drew ?_ | with_reducible refine up_drewN ?_ _ | (with_reducible refine up_set ?_ ?hset _; case hset => first | (simp; done) | (simp; omega) | omega) | with_reducible refine up_trans ?_ (by with_reducible assumption)))⟩
set_option maxRecDepth 100000 in
set_option maxHeartbeats 4000000 in
theorem onWay_any (x y u v p q : Int) (h1 : spotB x y = true) (h2 : spotB u v = true) (h3 : spotB p q = true) (w : World) :
    Calls Try.prog 59 #[.agg #[.int .i64 x, .int .i64 y], .agg #[.int .i64 u, .int .i64 v], .agg #[.int .i64 p, .int .i64 q]] w (Ans w (.bool (onB x y u v p q))) := by
  have HX := Lib.hid (crossOf_any x y u v p q h1 h2 h3)
  have H := Lib.hid (show onB x y u v p q = (decide (crs x y u v p q = 0) && (inB p (min x u) (max x u) && inB q (min y v) (max y v))) from rfl)
  generalize crs x y u v p q = k at *
  clear h1 h2 h3
  rcases Int.lt_trichotomy x u with hx | hx | hx
  · rw [show min x u = x by omega, show max x u = u by omega] at H
    rcases Int.lt_trichotomy y v with hy | hy | hy
    · rw [show min y v = y by omega, show max y v = v by omega] at H
      go_enter Try.func59, Try.ntmps59
      go_wp2_with (first | (go_at_call 61; refine (from0 (HX.out _) (by first | exact hb0 | exact up_alloc hb0 _ | exact up_drew hb0 | exact up_drewN hb0 _ | exact Below.refl _ _)).mono ?_; rintro e w1 ⟨rfl, hb0⟩; obtain ⟨hc0, hf0⟩ := bcell hb0; have hz0 := hb0.size; simp at hz0; have hz1 : w.heap.size < w1.heap.size := (by omega); try have hz2 : w.heap.size + 1 < w1.heap.size := (by omega)) | (go_at_call 44; refine (within_any _ _ _ _).mono ?_; rintro e w1 ⟨rfl, rfl⟩))
      all_goals
        go_ret
        exact Ans.bool (by rw [H.out]; simp [*]) (by (repeat (first | with_reducible exact Below.refl _ _ | with_reducible assumption | with_reducible refine up_alloc ?_ _ | with_reducible refine up_drew ?_ | with_reducible refine up_drewN ?_ _ | (with_reducible refine up_set ?_ ?hset _; case hset => first | (simp; done) | (simp; omega) | omega) | with_reducible refine up_trans ?_ (by with_reducible assumption))))
    · subst hy; rw [show min y y = y by omega, show max y y = y by omega] at H
      go_enter Try.func59, Try.ntmps59
      go_wp2_with (first | (go_at_call 61; refine (from0 (HX.out _) (by first | exact hb0 | exact up_alloc hb0 _ | exact up_drew hb0 | exact up_drewN hb0 _ | exact Below.refl _ _)).mono ?_; rintro e w1 ⟨rfl, hb0⟩; obtain ⟨hc0, hf0⟩ := bcell hb0; have hz0 := hb0.size; simp at hz0; have hz1 : w.heap.size < w1.heap.size := (by omega); try have hz2 : w.heap.size + 1 < w1.heap.size := (by omega)) | (go_at_call 44; refine (within_any _ _ _ _).mono ?_; rintro e w1 ⟨rfl, rfl⟩))
      all_goals
        go_ret
        exact Ans.bool (by rw [H.out]; simp [*]) (by (repeat (first | with_reducible exact Below.refl _ _ | with_reducible assumption | with_reducible refine up_alloc ?_ _ | with_reducible refine up_drew ?_ | with_reducible refine up_drewN ?_ _ | (with_reducible refine up_set ?_ ?hset _; case hset => first | (simp; done) | (simp; omega) | omega) | with_reducible refine up_trans ?_ (by with_reducible assumption))))
    · rw [show min y v = v by omega, show max y v = y by omega] at H
      go_enter Try.func59, Try.ntmps59
      go_wp2_with (first | (go_at_call 61; refine (from0 (HX.out _) (by first | exact hb0 | exact up_alloc hb0 _ | exact up_drew hb0 | exact up_drewN hb0 _ | exact Below.refl _ _)).mono ?_; rintro e w1 ⟨rfl, hb0⟩; obtain ⟨hc0, hf0⟩ := bcell hb0; have hz0 := hb0.size; simp at hz0; have hz1 : w.heap.size < w1.heap.size := (by omega); try have hz2 : w.heap.size + 1 < w1.heap.size := (by omega)) | (go_at_call 44; refine (within_any _ _ _ _).mono ?_; rintro e w1 ⟨rfl, rfl⟩))
      all_goals
        go_ret
        exact Ans.bool (by rw [H.out]; simp [*]) (by (repeat (first | with_reducible exact Below.refl _ _ | with_reducible assumption | with_reducible refine up_alloc ?_ _ | with_reducible refine up_drew ?_ | with_reducible refine up_drewN ?_ _ | (with_reducible refine up_set ?_ ?hset _; case hset => first | (simp; done) | (simp; omega) | omega) | with_reducible refine up_trans ?_ (by with_reducible assumption))))
  · subst hx; rw [show min x x = x by omega, show max x x = x by omega] at H
    rcases Int.lt_trichotomy y v with hy | hy | hy
    · rw [show min y v = y by omega, show max y v = v by omega] at H
      go_enter Try.func59, Try.ntmps59
      go_wp2_with (first | (go_at_call 61; refine (from0 (HX.out _) (by first | exact hb0 | exact up_alloc hb0 _ | exact up_drew hb0 | exact up_drewN hb0 _ | exact Below.refl _ _)).mono ?_; rintro e w1 ⟨rfl, hb0⟩; obtain ⟨hc0, hf0⟩ := bcell hb0; have hz0 := hb0.size; simp at hz0; have hz1 : w.heap.size < w1.heap.size := (by omega); try have hz2 : w.heap.size + 1 < w1.heap.size := (by omega)) | (go_at_call 44; refine (within_any _ _ _ _).mono ?_; rintro e w1 ⟨rfl, rfl⟩))
      all_goals
        go_ret
        exact Ans.bool (by rw [H.out]; simp [*]) (by (repeat (first | with_reducible exact Below.refl _ _ | with_reducible assumption | with_reducible refine up_alloc ?_ _ | with_reducible refine up_drew ?_ | with_reducible refine up_drewN ?_ _ | (with_reducible refine up_set ?_ ?hset _; case hset => first | (simp; done) | (simp; omega) | omega) | with_reducible refine up_trans ?_ (by with_reducible assumption))))
    · subst hy; rw [show min y y = y by omega, show max y y = y by omega] at H
      go_enter Try.func59, Try.ntmps59
      go_wp2_with (first | (go_at_call 61; refine (from0 (HX.out _) (by first | exact hb0 | exact up_alloc hb0 _ | exact up_drew hb0 | exact up_drewN hb0 _ | exact Below.refl _ _)).mono ?_; rintro e w1 ⟨rfl, hb0⟩; obtain ⟨hc0, hf0⟩ := bcell hb0; have hz0 := hb0.size; simp at hz0; have hz1 : w.heap.size < w1.heap.size := (by omega); try have hz2 : w.heap.size + 1 < w1.heap.size := (by omega)) | (go_at_call 44; refine (within_any _ _ _ _).mono ?_; rintro e w1 ⟨rfl, rfl⟩))
      all_goals
        go_ret
        exact Ans.bool (by rw [H.out]; simp [*]) (by (repeat (first | with_reducible exact Below.refl _ _ | with_reducible assumption | with_reducible refine up_alloc ?_ _ | with_reducible refine up_drew ?_ | with_reducible refine up_drewN ?_ _ | (with_reducible refine up_set ?_ ?hset _; case hset => first | (simp; done) | (simp; omega) | omega) | with_reducible refine up_trans ?_ (by with_reducible assumption))))
    · rw [show min y v = v by omega, show max y v = y by omega] at H
      go_enter Try.func59, Try.ntmps59
      go_wp2_with (first | (go_at_call 61; refine (from0 (HX.out _) (by first | exact hb0 | exact up_alloc hb0 _ | exact up_drew hb0 | exact up_drewN hb0 _ | exact Below.refl _ _)).mono ?_; rintro e w1 ⟨rfl, hb0⟩; obtain ⟨hc0, hf0⟩ := bcell hb0; have hz0 := hb0.size; simp at hz0; have hz1 : w.heap.size < w1.heap.size := (by omega); try have hz2 : w.heap.size + 1 < w1.heap.size := (by omega)) | (go_at_call 44; refine (within_any _ _ _ _).mono ?_; rintro e w1 ⟨rfl, rfl⟩))
      all_goals
        go_ret
        exact Ans.bool (by rw [H.out]; simp [*]) (by (repeat (first | with_reducible exact Below.refl _ _ | with_reducible assumption | with_reducible refine up_alloc ?_ _ | with_reducible refine up_drew ?_ | with_reducible refine up_drewN ?_ _ | (with_reducible refine up_set ?_ ?hset _; case hset => first | (simp; done) | (simp; omega) | omega) | with_reducible refine up_trans ?_ (by with_reducible assumption))))
  · rw [show min x u = u by omega, show max x u = x by omega] at H
    rcases Int.lt_trichotomy y v with hy | hy | hy
    · rw [show min y v = y by omega, show max y v = v by omega] at H
      go_enter Try.func59, Try.ntmps59
      go_wp2_with (first | (go_at_call 61; refine (from0 (HX.out _) (by first | exact hb0 | exact up_alloc hb0 _ | exact up_drew hb0 | exact up_drewN hb0 _ | exact Below.refl _ _)).mono ?_; rintro e w1 ⟨rfl, hb0⟩; obtain ⟨hc0, hf0⟩ := bcell hb0; have hz0 := hb0.size; simp at hz0; have hz1 : w.heap.size < w1.heap.size := (by omega); try have hz2 : w.heap.size + 1 < w1.heap.size := (by omega)) | (go_at_call 44; refine (within_any _ _ _ _).mono ?_; rintro e w1 ⟨rfl, rfl⟩))
      all_goals
        go_ret
        exact Ans.bool (by rw [H.out]; simp [*]) (by (repeat (first | with_reducible exact Below.refl _ _ | with_reducible assumption | with_reducible refine up_alloc ?_ _ | with_reducible refine up_drew ?_ | with_reducible refine up_drewN ?_ _ | (with_reducible refine up_set ?_ ?hset _; case hset => first | (simp; done) | (simp; omega) | omega) | with_reducible refine up_trans ?_ (by with_reducible assumption))))
    · subst hy; rw [show min y y = y by omega, show max y y = y by omega] at H
      go_enter Try.func59, Try.ntmps59
      go_wp2_with (first | (go_at_call 61; refine (from0 (HX.out _) (by first | exact hb0 | exact up_alloc hb0 _ | exact up_drew hb0 | exact up_drewN hb0 _ | exact Below.refl _ _)).mono ?_; rintro e w1 ⟨rfl, hb0⟩; obtain ⟨hc0, hf0⟩ := bcell hb0; have hz0 := hb0.size; simp at hz0; have hz1 : w.heap.size < w1.heap.size := (by omega); try have hz2 : w.heap.size + 1 < w1.heap.size := (by omega)) | (go_at_call 44; refine (within_any _ _ _ _).mono ?_; rintro e w1 ⟨rfl, rfl⟩))
      all_goals
        go_ret
        exact Ans.bool (by rw [H.out]; simp [*]) (by (repeat (first | with_reducible exact Below.refl _ _ | with_reducible assumption | with_reducible refine up_alloc ?_ _ | with_reducible refine up_drew ?_ | with_reducible refine up_drewN ?_ _ | (with_reducible refine up_set ?_ ?hset _; case hset => first | (simp; done) | (simp; omega) | omega) | with_reducible refine up_trans ?_ (by with_reducible assumption))))
    · rw [show min y v = v by omega, show max y v = y by omega] at H
      go_enter Try.func59, Try.ntmps59
      go_wp2_with (first | (go_at_call 61; refine (from0 (HX.out _) (by first | exact hb0 | exact up_alloc hb0 _ | exact up_drew hb0 | exact up_drewN hb0 _ | exact Below.refl _ _)).mono ?_; rintro e w1 ⟨rfl, hb0⟩; obtain ⟨hc0, hf0⟩ := bcell hb0; have hz0 := hb0.size; simp at hz0; have hz1 : w.heap.size < w1.heap.size := (by omega); try have hz2 : w.heap.size + 1 < w1.heap.size := (by omega)) | (go_at_call 44; refine (within_any _ _ _ _).mono ?_; rintro e w1 ⟨rfl, rfl⟩))
      all_goals
        go_ret
        exact Ans.bool (by rw [H.out]; simp [*]) (by (repeat (first | with_reducible exact Below.refl _ _ | with_reducible assumption | with_reducible refine up_alloc ?_ _ | with_reducible refine up_drew ?_ | with_reducible refine up_drewN ?_ _ | (with_reducible refine up_set ?_ ?hset _; case hset => first | (simp; done) | (simp; omega) | omega) | with_reducible refine up_trans ?_ (by with_reducible assumption))))
set_option maxRecDepth 100000 in
set_option maxHeartbeats 4000000 in
theorem apOn_any (x y u v p q : Int) (w : World) :
    Calls Try.prog 63 #[.agg #[.int .i64 x, .int .i64 y], .agg #[.int .i64 u, .int .i64 v], .agg #[.int .i64 p, .int .i64 q]] w (Ans w (.bool (bxB x y u v p q))) := by
  have H := Lib.hid (show bxB x y u v p q = (inB p (min x u) (max x u) && inB q (min y v) (max y v)) from rfl)
  have HI := Lib.hid (fun W => l1In_any p (min x u) (max x u) W)
  have HJ := Lib.hid (fun W => l1In_any q (min y v) (max y v) W)
  cases hi : inB p (min x u) (max x u) with
  | true =>
    rw [hi] at HI H
    clear hi
    obtain ⟨r, hr⟩ : ∃ r, inB q (min y v) (max y v) = r := ⟨_, rfl⟩
    rw [hr] at HJ H
    clear hr
    go_enter Try.func63, Try.ntmps63
    go_upto_region 1 with fail
    generalize hWx : World.alloc (World.alloc (World.alloc w _) _) _ = W
    have hbW : Below w.heap.size w W := by subst hWx; exact up_trans (up_trans (below_alloc _ _) (below_alloc _ _)) (below_alloc _ _)
    have c0 := cell_regrown (show W.cell? ⟨w.heap.size, 0, none⟩ = some (.int .i64 x) by subst hWx; simp [go_sem])
    have c1 := cell_regrown (show W.cell? ⟨w.heap.size, 1, none⟩ = some (.int .i64 y) by subst hWx; simp [go_sem])
    have c2 := cell_regrown (show W.cell? ⟨w.heap.size + 1, 0, none⟩ = some (.int .i64 u) by subst hWx; simp [go_sem])
    have c3 := cell_regrown (show W.cell? ⟨w.heap.size + 1, 1, none⟩ = some (.int .i64 v) by subst hWx; simp [go_sem])
    have c4 := cell_regrown (show W.cell? ⟨w.heap.size + 1 + 1, 0, none⟩ = some (.int .i64 p) by subst hWx; simp [go_sem])
    have c5 := cell_regrown (show W.cell? ⟨w.heap.size + 1 + 1, 1, none⟩ = some (.int .i64 q) by subst hWx; simp [go_sem])
    clear hWx
    refine wp_region_up (by kernel_rfl) (by kernel_rfl) ?_
    repeat (go_big_quiet_step (first | (with_reducible exact up_same (fun W => l1Least_any _ _ W) _ _) | (with_reducible exact up_same (fun W => l1Most_any _ _ W) _ _) | (with_reducible exact up_same HI.out _ _) | (with_reducible exact up_same HJ.out _ _)))
    refine wpQuiet_nil ?_
    intro w1 hb0
    obtain ⟨hc0, hf0⟩ := bcell hb0
    go_wp2_with fail
    go_ret
    exact Ans.bool (by rw [H.out]; rfl) (up_trans hbW hb0)
  | false =>
    rw [hi] at HI H
    clear hi
    obtain ⟨r, hr⟩ : ∃ r, inB q (min y v) (max y v) = r := ⟨_, rfl⟩
    rw [hr] at HJ H
    clear hr
    go_enter Try.func63, Try.ntmps63
    go_upto_region 1 with fail
    generalize hWx : World.alloc (World.alloc (World.alloc w _) _) _ = W
    have hbW : Below w.heap.size w W := by subst hWx; exact up_trans (up_trans (below_alloc _ _) (below_alloc _ _)) (below_alloc _ _)
    have c0 := cell_regrown (show W.cell? ⟨w.heap.size, 0, none⟩ = some (.int .i64 x) by subst hWx; simp [go_sem])
    have c1 := cell_regrown (show W.cell? ⟨w.heap.size, 1, none⟩ = some (.int .i64 y) by subst hWx; simp [go_sem])
    have c2 := cell_regrown (show W.cell? ⟨w.heap.size + 1, 0, none⟩ = some (.int .i64 u) by subst hWx; simp [go_sem])
    have c3 := cell_regrown (show W.cell? ⟨w.heap.size + 1, 1, none⟩ = some (.int .i64 v) by subst hWx; simp [go_sem])
    have c4 := cell_regrown (show W.cell? ⟨w.heap.size + 1 + 1, 0, none⟩ = some (.int .i64 p) by subst hWx; simp [go_sem])
    have c5 := cell_regrown (show W.cell? ⟨w.heap.size + 1 + 1, 1, none⟩ = some (.int .i64 q) by subst hWx; simp [go_sem])
    clear hWx
    refine wp_region_up (by kernel_rfl) (by kernel_rfl) ?_
    repeat (go_big_quiet_step (first | (with_reducible exact up_same (fun W => l1Least_any _ _ W) _ _) | (with_reducible exact up_same (fun W => l1Most_any _ _ W) _ _) | (with_reducible exact up_same HI.out _ _) | (with_reducible exact up_same HJ.out _ _)))
    refine wpQuiet_nil ?_
    intro w1 hb0
    obtain ⟨hc0, hf0⟩ := bcell hb0
    go_wp2_with fail
    go_ret
    exact Ans.bool (by rw [H.out]; rfl) (up_trans hbW hb0)
def wcV (x y u v c x' y' u' v' c' : Int) : Value := .tuple #[.bool (togB x y u v c x' y' u' v' c' && wcB x y u v x' y' u' v'), .bool (togB x y u v c x' y' u' v' c')]
end Go.Proofs.Ytljdhicmcmppgaa
