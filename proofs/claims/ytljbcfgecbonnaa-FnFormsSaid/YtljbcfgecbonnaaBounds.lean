/-
  BoundsOf on both sides.
-/
import Derived.Test.YtljbcfgecbonnaaRows
import Derived.Test.YtljbcfgecbonnaaBase
import Derived.Test.YtljbcfgecbonnaaSpot
import Derived.Test.YtljbcfgecbonnaaSlice
import Derived.Test.YtljbcfgecbonnaaChart
import Derived.Deep.RegionHeld3
import Derived.Deep.DeepCutAuto
import Derived.Deep.CutRange
import Derived.StillTailTactics
namespace Go.Proofs.Ytljbcfgecbonnaa
open Go.RowKit Go.Sort

def bdLo (X : Nat → Int) : Nat → Int
  | 0 => X 0
  | k + 1 => min (bdLo X k) (X k)
def bdHi (X : Nat → Int) : Nat → Int
  | 0 => X 0
  | k + 1 => max (bdHi X k) (X k)
def bndV (n : Nat) (X Y : Nat → Int) : Value := if chartB n X Y then .tuple #[.agg #[.int .i64 (bdLo X n), .int .i64 (bdLo Y n)], .agg #[.int .i64 (bdHi X n), .int .i64 (bdHi Y n)], .bool true]
  else .tuple #[.agg #[.int .i64 0, .int .i64 0], .agg #[.int .i64 0, .int .i64 0], .bool false]
/-- Two spots in boxes of their own. -/
structure BF (w : World) (b5 b6 : Nat) (l1 l2 h1 h2 : Int) : Prop where
  c0 : w.cell? ⟨b5, 0, none⟩ = some (.int .i64 l1)
  c1 : w.cell? ⟨b5, 1, none⟩ = some (.int .i64 l2)
  d0 : w.cell? ⟨b6, 0, none⟩ = some (.int .i64 h1)
  d1 : w.cell? ⟨b6, 1, none⟩ = some (.int .i64 h2)
  f5 : Free w b5
  f6 : Free w b6
  ne : b5 ≠ b6
theorem BF.up {w w' : World} {b5 b6 : Nat} {l1 l2 h1 h2 : Int} (h : BF w b5 b6 l1 l2 h1 h2) (hb : Below w.heap.size w w') : BF w' b5 b6 l1 l2 h1 h2 :=
  ⟨up_keep hb h.c0, up_keep hb h.c1, up_keep hb h.d0, up_keep hb h.d1, h.f5.up (lt_of_cell h.c0) hb, h.f6.up (lt_of_cell h.d0) hb, h.ne⟩
theorem BF.set5 {w : World} {b5 b6 : Nat} {l1 l2 h1 h2 : Int} (h : BF w b5 b6 l1 l2 h1 h2) (m1 m2 : Int) : BF ((w.setCell ⟨b5, 0, none⟩ (.int .i64 m1)).setCell ⟨b5, 1, none⟩ (.int .i64 m2)) b5 b6 m1 m2 h1 h2 := by
  have hne := h.ne
  have s0 := cell_set_same w b5 0 _ (.int .i64 m1) h.c0
  have s1 := (cell_set_ne w b5 0 (.int .i64 m1) b5 1 (by omega)).trans h.c1
  have s2 := (cell_set_ne w b5 0 (.int .i64 m1) b6 0 (by omega)).trans h.d0
  have s3 := (cell_set_ne w b5 0 (.int .i64 m1) b6 1 (by omega)).trans h.d1
  have f5 := h.f5.set ⟨b5, 0, none⟩ (.int .i64 m1)
  have f6 := h.f6.set ⟨b5, 0, none⟩ (.int .i64 m1)
  generalize w.setCell ⟨b5, 0, none⟩ (.int .i64 m1) = w1 at *
  exact ⟨(cell_set_ne w1 b5 1 _ b5 0 (by omega)).trans s0, cell_set_same w1 b5 1 _ _ s1, (cell_set_ne w1 b5 1 _ b6 0 (by omega)).trans s2, (cell_set_ne w1 b5 1 _ b6 1 (by omega)).trans s3, f5.set _ _, f6.set _ _, hne⟩
theorem BF.swap {w : World} {b5 b6 : Nat} {l1 l2 h1 h2 : Int} (h : BF w b5 b6 l1 l2 h1 h2) : BF w b6 b5 h1 h2 l1 l2 := ⟨h.d0, h.d1, h.c0, h.c1, h.f6, h.f5, h.ne.symm⟩
theorem BF.set6 {w : World} {b5 b6 : Nat} {l1 l2 h1 h2 : Int} (h : BF w b5 b6 l1 l2 h1 h2) (m1 m2 : Int) : BF ((w.setCell ⟨b6, 0, none⟩ (.int .i64 m1)).setCell ⟨b6, 1, none⟩ (.int .i64 m2)) b5 b6 l1 l2 m1 m2 := (h.swap.set5 m1 m2).swap
theorem BF.eq {w : World} {b5 b6 : Nat} {l1 l2 h1 h2 l1' l2' h1' h2' : Int} (h : BF w b5 b6 l1 l2 h1 h2) (e1 : l1 = l1') (e2 : l2 = l2') (e3 : h1 = h1') (e4 : h2 = h2') : BF w b5 b6 l1' l2' h1' h2' := by
  subst e1 e2 e3 e4; exact h
theorem cell_drewB (w : World) (p : Addr) : w.drew.cell? p = w.cell? p := rfl
theorem keep_set {w : World} {b5 a o : Nat} {v : Value} (h : w.cell? ⟨a, o, none⟩ = some v) (hne : a ≠ b5) (m1 m2 : Value) : ((w.setCell ⟨b5, 0, none⟩ m1).setCell ⟨b5, 1, none⟩ m2).cell? ⟨a, o, none⟩ = some v := by
  rw [cell_set_ne _ _ _ _ _ _ (.inl (Ne.symm hne)), cell_set_ne _ _ _ _ _ _ (.inl (Ne.symm hne))]; exact h
set_option maxRecDepth 100000 in
set_option maxHeartbeats 1500000 in
theorem iBounds_any (v : Value) (n : Nat) (X Y : Nat → Int) (w : World) (h : Spots w v n X Y) (hn : n ≤ 1048576) :
    Calls Try.prog 15 #[v] w (Ans w (bndV n X Y)) := by
  have HC := Lib.hid (fun W (hW : Below w.heap.size w W) => isChart_g v n X Y W (h.up hW) (by omega))
  cases hc : chartB n X Y with
  | false =>
    rw [hc] at HC
    have HV := Lib.hid (show bndV n X Y = .tuple #[.agg #[.int .i64 0, .int .i64 0], .agg #[.int .i64 0, .int .i64 0], .bool false] by simp [bndV, hc])
    clear h hc
    go_enter Try.func15, Try.ntmps15
    go_wp2_with fail
    generalize hW : World.alloc _ _ = W at *
    have hbW : Below w.heap.size w W := by subst hW; (repeat (first | with_reducible exact Below.refl _ _ | with_reducible assumption | with_reducible refine up_alloc ?_ _ | with_reducible refine up_drew ?_ | with_reducible refine up_drewN ?_ _ | (with_reducible refine up_set ?_ ?hset _; case hset => first | (simp; done) | (simp; omega) | omega) | with_reducible refine up_trans ?_ (by with_reducible assumption)))
    have k0 : BF W w.heap.size (w.heap.size + 1) 0 0 0 0 := by
      subst hW
      exact ⟨by simp [go_sem], by simp [go_sem], by simp [go_sem], by simp [go_sem], fun o => by simp [go_sem], fun o => by simp [go_sem], by omega⟩
    clear hW
    refine (HC.out _ hbW).mono ?_
    rintro e w1 ⟨rfl, hb1⟩
    have hw1 := up_trans hbW hb1
    obtain ⟨r0, r1, r2, r3, r4, r5, _⟩ := k0.up hb1
    have z0 := r4 0; have z1 := r4 1; have z2 := r5 0; have z3 := r5 1
    go_wp2_with fail
    refine bodyPost_ret (v := .tuple #[.agg #[.int .i64 0, .int .i64 0], .agg #[.int .i64 0, .int .i64 0], .bool false]) (by simp [results, Try.results15, go_sem, r0, r1, r2, r3]) rfl ?_
    rw [HV.out]
    exact ⟨rfl, by (repeat (first | with_reducible exact Below.refl _ _ | with_reducible assumption | with_reducible refine up_alloc ?_ _ | with_reducible refine up_drew ?_ | with_reducible refine up_drewN ?_ _ | (with_reducible refine up_set ?_ ?hset _; case hset => first | (simp; done) | (simp; omega) | omega) | with_reducible refine up_trans ?_ (by with_reducible assumption)))⟩
  | true =>
    rw [hc] at HC
    have HV := Lib.hid (show bndV n X Y = .tuple #[.agg #[.int .i64 (bdLo X n), .int .i64 (bdLo Y n)], .agg #[.int .i64 (bdHi X n), .int .i64 (bdHi Y n)], .bool true] by simp [bndV, hc])
    obtain ⟨A, c, rfl, hnc, hrow⟩ := h
    obtain ⟨⟨n1, n2⟩, _⟩ := chartB_iff.1 hc
    obtain ⟨b, o, rfl, hr⟩ := hrow (by omega)
    have HR := Lib.hid hr
    clear hr hrow hc
    go_enter Try.func15, Try.ntmps15
    go_wp2_with fail
    generalize hW : World.alloc _ _ = W at *
    have hbW : Below w.heap.size w W := by subst hW; (repeat (first | with_reducible exact Below.refl _ _ | with_reducible assumption | with_reducible refine up_alloc ?_ _ | with_reducible refine up_drew ?_ | with_reducible refine up_drewN ?_ _ | (with_reducible refine up_set ?_ ?hset _; case hset => first | (simp; done) | (simp; omega) | omega) | with_reducible refine up_trans ?_ (by with_reducible assumption)))
    have k0 : BF W w.heap.size (w.heap.size + 1) 0 0 0 0 := by
      subst hW
      exact ⟨by simp [go_sem], by simp [go_sem], by simp [go_sem], by simp [go_sem], fun o => by simp [go_sem], fun o => by simp [go_sem], by omega⟩
    clear hW
    refine (HC.out _ hbW).mono ?_
    rintro e w1 ⟨rfl, hb1⟩
    have hw1 := up_trans hbW hb1
    have HK := Lib.hid (k0.up hb1)
    have g0 := HR.out 0 (by omega)
    rw [Nat.zero_mul, Nat.add_zero] at g0
    have c0 := up_keep hw1 g0.1
    have c1 := up_keep hw1 g0.2
    have hn0 : (0 : Int) < (n : Int) := by omega
    have hn0' : 0 < n := by omega
    clear g0 k0
    go_upto_region 3 with fail
    go_cut [5, 6] (fun p q wx => ∃ b5 b6 : Nat, p = .pointer (some ⟨b5, 0, none⟩) ∧ q = .pointer (some ⟨b6, 0, none⟩) ∧ (w1.heap.size ≤ b5 ∧ w1.heap.size ≤ b6) ∧ Below w1.heap.size w1 wx ∧ BF wx b5 b6 (X 0) (Y 0) (X 0) (Y 0))
    case first =>
      go_region_held3 (fun w' => w'.cell? ⟨b, o, none⟩ = some (.int .i64 (X 0)) ∧ w'.cell? ⟨b, o + 1, none⟩ = some (.int .i64 (Y 0))) (first | exact ⟨by assumption, by assumption⟩ | go_keep) (fail)
      all_goals
        go_wp2_with fail
        go_meet
        first
          | exact ⟨w1.heap.size, w1.heap.size + 1, rfl, rfl, ⟨by omega, by omega⟩, by (repeat (first | with_reducible exact Below.refl _ _ | with_reducible assumption | with_reducible refine up_alloc ?_ _ | with_reducible refine up_drew ?_ | with_reducible refine up_drewN ?_ _ | (with_reducible refine up_set ?_ ?hset _; case hset => first | (simp; done) | (simp; omega) | omega) | with_reducible refine up_trans ?_ (by with_reducible assumption))), ⟨by simp [go_sem], by simp [go_sem], by simp [go_sem], by simp [go_sem], fun o => by simp [go_sem], fun o => by simp [go_sem], by omega⟩⟩
          | exact ⟨w1.heap.size + 1, w1.heap.size, rfl, rfl, ⟨by omega, by omega⟩, by (repeat (first | with_reducible exact Below.refl _ _ | with_reducible assumption | with_reducible refine up_alloc ?_ _ | with_reducible refine up_drew ?_ | with_reducible refine up_drewN ?_ _ | (with_reducible refine up_set ?_ ?hset _; case hset => first | (simp; done) | (simp; omega) | omega) | with_reducible refine up_trans ?_ (by with_reducible assumption))), ⟨by simp [go_sem], by simp [go_sem], by simp [go_sem], by simp [go_sem], fun o => by simp [go_sem], fun o => by simp [go_sem], by omega⟩⟩
    case rest =>
      obtain ⟨b5, b6, rfl, rfl, ⟨hB5, hB6⟩, hbx, hF⟩ := hcut
      clear c0 c1
      go_wp2_with fail
      go_loopw [22] (fun i wr => ∃ k : Nat, k ≤ n ∧ i = .int .i64 k ∧ Below w1.heap.size w1 wr ∧ BF wr b5 b6 (bdLo X k) (bdLo Y k) (bdHi X k) (bdHi Y k)) (fun i _ => n - (intOf i).toNat)
      case atStart => exact ⟨0, by omega, rfl, hbx, hF⟩
      case round =>
        clear hbx hF
        obtain ⟨k, hk, rfl, hb, hF⟩ := hrel
        have hbw := hw1.trans (hb.mono hw1.size)
        by_cases hlt : k < n
        · have c0 := up_keep hbw (HR.out k hlt).1
          have c1 := up_keep hbw (HR.out k hlt).2
          have hl5 := lt_of_cell hF.c0
          have hl6 := lt_of_cell hF.d0
          go_upto_region 7 with fail
          generalize hW3 : World.alloc wr _ = W3 at *
          have hb3 : Below wr.heap.size wr W3 := by subst hW3; (repeat (first | with_reducible exact Below.refl _ _ | with_reducible assumption | with_reducible refine up_alloc ?_ _ | with_reducible refine up_drew ?_ | with_reducible refine up_drewN ?_ _ | (with_reducible refine up_set ?_ ?hset _; case hset => first | (simp; done) | (simp; omega) | omega) | with_reducible refine up_trans ?_ (by with_reducible assumption)))
          have e0 : W3.cell? ⟨wr.heap.size, 0, none⟩ = some (.int .i64 (X k)) := by subst hW3; simp [go_sem]
          have e1 : W3.cell? ⟨wr.heap.size, 1, none⟩ = some (.int .i64 (Y k)) := by subst hW3; simp [go_sem]
          have hb13 : Below w1.heap.size w1 W3 := up_trans hb hb3
          have hF3 := hF.up hb3
          have HL1 := Lib.hid (show bdLo X (k + 1) = min (bdLo X k) (X k) from rfl)
          have HL2 := Lib.hid (show bdLo Y (k + 1) = min (bdLo Y k) (Y k) from rfl)
          have HH1 := Lib.hid (show bdHi X (k + 1) = max (bdHi X k) (X k) from rfl)
          have HH2 := Lib.hid (show bdHi Y (k + 1) = max (bdHi Y k) (Y k) from rfl)
          clear hW3 c0 c1 hF
          generalize bdLo X k = l1 at *
          generalize bdLo Y k = l2 at *
          generalize bdHi X k = h1 at *
          generalize bdHi Y k = h2 at *
          generalize X k = xk at *
          generalize Y k = yk at *
          go_cut [22] from 22 to 48 (fun i wx => i = .int .i64 k ∧ Below w1.heap.size w1 wx ∧ BF wx b5 b6 (min l1 xk) (min l2 yk) h1 h2 ∧ wx.cell? ⟨wr.heap.size, 0, none⟩ = some (.int .i64 xk) ∧ wx.cell? ⟨wr.heap.size, 1, none⟩ = some (.int .i64 yk))
          case first =>
            have HF3 := Lib.hid hF3
            obtain ⟨c0, c1, d0, d1, f5, f6, ne⟩ := hF3
            have z0 := f5 0; have z1 := f5 1
            clear f5 f6
            go_wp2_with fail
            all_goals
              go_meet
              exact ⟨rfl, up_set (up_set hb13 hB5 _) hB5 _, (HF3.out.set5 _ _).eq (by omega) (by omega) rfl rfl, keep_set e0 (by omega) _ _, keep_set e1 (by omega) _ _⟩
          case rest =>
            obtain ⟨rfl, hb14, hF4, e0, e1⟩ := hcut
            go_upto_region 8 with fail
            have HF4 := Lib.hid hF4
            obtain ⟨c0, c1, d0, d1, f5, f6, ne⟩ := hF4
            have z0 := f6 0; have z1 := f6 1
            clear f5 f6
            go_wp2_with fail
            all_goals
              go_roundw
              case rel => exact ⟨k + 1, by omega, by go_num, up_set (up_set hb14 hB6 _) hB6 _, by rw [HL1.out, HL2.out, HH1.out, HH2.out]; exact (HF4.out.set6 _ _).eq rfl rfl (by omega) (by omega)⟩
              case measure => simp [intOf]; omega
        · have e : k = n := by omega
          subst e
          obtain ⟨r0, r1, r2, r3, r4, r5, rne⟩ := HK.out.up hb
          obtain ⟨c0, c1, d0, d1, f5, f6, ne⟩ := hF
          have z0 := r4 0; have z1 := r4 1; have z2 := r5 0; have z3 := r5 1
          have hl2 : w.heap.size + 1 < w1.heap.size := lt_of_cell HK.out.d0
          have n1 : b5 ≠ w.heap.size := by omega
          have n2 : b5 ≠ w.heap.size + 1 := by omega
          have n3 : b6 ≠ w.heap.size := by omega
          have n4 : b6 ≠ w.heap.size + 1 := by omega
          clear f5 f6 r4 r5
          go_upto_region 10 with fail
          generalize bdLo X k = l1 at *
          generalize bdLo Y k = l2 at *
          generalize bdHi X k = h1 at *
          generalize bdHi Y k = h2 at *
          go_region_held3 (fun w' => w'.cell? ⟨b5, 0, none⟩ = some (.int .i64 l1) ∧ w'.cell? ⟨b5, 1, none⟩ = some (.int .i64 l2) ∧ w'.cell? ⟨b6, 0, none⟩ = some (.int .i64 h1) ∧ w'.cell? ⟨b6, 1, none⟩ = some (.int .i64 h2))
            (first
              | (with_reducible exact ⟨by assumption, by assumption, by assumption, by assumption⟩)
              | (refine ⟨?_, ?_, ?_, ?_⟩ <;> (with_reducible refine Eq.trans (cell_drewB _ _) ?_) <;> (repeat (rw [cell_set_ne _ _ _ _ _ _ (by omega)])) <;> with_reducible assumption)) (fail)
          all_goals
            go_wp2_with fail
            refine bodyPost_ret (v := .tuple #[.agg #[.int .i64 l1, .int .i64 l2], .agg #[.int .i64 h1, .int .i64 h2], .bool true]) (by simp [results, Try.results15, go_sem, r0, r1, r2, r3]) rfl ?_
            rw [HV.out]
            exact ⟨rfl, by (repeat (first | with_reducible exact Below.refl _ _ | with_reducible assumption | with_reducible refine up_alloc ?_ _ | with_reducible refine up_drew ?_ | with_reducible refine up_drewN ?_ _ | (with_reducible refine up_set ?_ ?hset _; case hset => first | (simp; done) | (simp; omega) | omega) | with_reducible refine up_trans ?_ (by with_reducible assumption)))⟩
set_option maxRecDepth 100000 in
set_option maxHeartbeats 1500000 in
theorem sBounds_any (v : Value) (n : Nat) (X Y : Nat → Int) (w : World) (h : Spots w v n X Y) (hn : n ≤ 1048576) :
    Calls Try.prog 16 #[v] w (Ans w (bndV n X Y)) := by
  have HC := Lib.hid (fun W (hW : Below w.heap.size w W) => chGood_g v n X Y W (h.up hW) (by omega))
  cases hc : chartB n X Y with
  | false =>
    rw [hc] at HC
    have HV := Lib.hid (show bndV n X Y = .tuple #[.agg #[.int .i64 0, .int .i64 0], .agg #[.int .i64 0, .int .i64 0], .bool false] by simp [bndV, hc])
    clear h hc
    go_enter Try.func16, Try.ntmps16
    go_wp2_with fail
    generalize hW : World.alloc _ _ = W at *
    have hbW : Below w.heap.size w W := by subst hW; (repeat (first | with_reducible exact Below.refl _ _ | with_reducible assumption | with_reducible refine up_alloc ?_ _ | with_reducible refine up_drew ?_ | with_reducible refine up_drewN ?_ _ | (with_reducible refine up_set ?_ ?hset _; case hset => first | (simp; done) | (simp; omega) | omega) | with_reducible refine up_trans ?_ (by with_reducible assumption)))
    have k0 : BF W w.heap.size (w.heap.size + 1) 0 0 0 0 := by
      subst hW
      exact ⟨by simp [go_sem], by simp [go_sem], by simp [go_sem], by simp [go_sem], fun o => by simp [go_sem], fun o => by simp [go_sem], by omega⟩
    clear hW
    refine (HC.out _ hbW).mono ?_
    rintro e w1 ⟨rfl, hb1⟩
    have hw1 := up_trans hbW hb1
    obtain ⟨r0, r1, r2, r3, r4, r5, _⟩ := k0.up hb1
    have z0 := r4 0; have z1 := r4 1; have z2 := r5 0; have z3 := r5 1
    go_wp2_with fail
    refine bodyPost_ret (v := .tuple #[.agg #[.int .i64 0, .int .i64 0], .agg #[.int .i64 0, .int .i64 0], .bool false]) (by simp [results, Try.results16, go_sem, r0, r1, r2, r3]) rfl ?_
    rw [HV.out]
    exact ⟨rfl, by (repeat (first | with_reducible exact Below.refl _ _ | with_reducible assumption | with_reducible refine up_alloc ?_ _ | with_reducible refine up_drew ?_ | with_reducible refine up_drewN ?_ _ | (with_reducible refine up_set ?_ ?hset _; case hset => first | (simp; done) | (simp; omega) | omega) | with_reducible refine up_trans ?_ (by with_reducible assumption)))⟩
  | true =>
    rw [hc] at HC
    have HV := Lib.hid (show bndV n X Y = .tuple #[.agg #[.int .i64 (bdLo X n), .int .i64 (bdLo Y n)], .agg #[.int .i64 (bdHi X n), .int .i64 (bdHi Y n)], .bool true] by simp [bndV, hc])
    obtain ⟨A, c, rfl, hnc, hrow⟩ := h
    obtain ⟨⟨n1, n2⟩, _⟩ := chartB_iff.1 hc
    obtain ⟨b, o, rfl, hr⟩ := hrow (by omega)
    have HR := Lib.hid hr
    clear hr hrow hc
    go_enter Try.func16, Try.ntmps16
    go_wp2_with fail
    generalize hW : World.alloc _ _ = W at *
    have hbW : Below w.heap.size w W := by subst hW; (repeat (first | with_reducible exact Below.refl _ _ | with_reducible assumption | with_reducible refine up_alloc ?_ _ | with_reducible refine up_drew ?_ | with_reducible refine up_drewN ?_ _ | (with_reducible refine up_set ?_ ?hset _; case hset => first | (simp; done) | (simp; omega) | omega) | with_reducible refine up_trans ?_ (by with_reducible assumption)))
    have k0 : BF W w.heap.size (w.heap.size + 1) 0 0 0 0 := by
      subst hW
      exact ⟨by simp [go_sem], by simp [go_sem], by simp [go_sem], by simp [go_sem], fun o => by simp [go_sem], fun o => by simp [go_sem], by omega⟩
    clear hW
    refine (HC.out _ hbW).mono ?_
    rintro e w1 ⟨rfl, hb1⟩
    have hw1 := up_trans hbW hb1
    have HK := Lib.hid (k0.up hb1)
    have g0 := HR.out 0 (by omega)
    rw [Nat.zero_mul, Nat.add_zero] at g0
    have c0 := up_keep hw1 g0.1
    have c1 := up_keep hw1 g0.2
    have hn0 : (0 : Int) < (n : Int) := by omega
    have hn0' : 0 < n := by omega
    clear g0 k0
    go_upto_region 3 with fail
    go_cut [5, 6] (fun p q wx => ∃ b5 b6 : Nat, p = .pointer (some ⟨b5, 0, none⟩) ∧ q = .pointer (some ⟨b6, 0, none⟩) ∧ (w1.heap.size ≤ b5 ∧ w1.heap.size ≤ b6) ∧ Below w1.heap.size w1 wx ∧ BF wx b5 b6 (X 0) (Y 0) (X 0) (Y 0))
    case first =>
      go_region_held3 (fun w' => w'.cell? ⟨b, o, none⟩ = some (.int .i64 (X 0)) ∧ w'.cell? ⟨b, o + 1, none⟩ = some (.int .i64 (Y 0))) (first | exact ⟨by assumption, by assumption⟩ | go_keep) (fail)
      all_goals
        go_wp2_with fail
        go_meet
        first
          | exact ⟨w1.heap.size, w1.heap.size + 1, rfl, rfl, ⟨by omega, by omega⟩, by (repeat (first | with_reducible exact Below.refl _ _ | with_reducible assumption | with_reducible refine up_alloc ?_ _ | with_reducible refine up_drew ?_ | with_reducible refine up_drewN ?_ _ | (with_reducible refine up_set ?_ ?hset _; case hset => first | (simp; done) | (simp; omega) | omega) | with_reducible refine up_trans ?_ (by with_reducible assumption))), ⟨by simp [go_sem], by simp [go_sem], by simp [go_sem], by simp [go_sem], fun o => by simp [go_sem], fun o => by simp [go_sem], by omega⟩⟩
          | exact ⟨w1.heap.size + 1, w1.heap.size, rfl, rfl, ⟨by omega, by omega⟩, by (repeat (first | with_reducible exact Below.refl _ _ | with_reducible assumption | with_reducible refine up_alloc ?_ _ | with_reducible refine up_drew ?_ | with_reducible refine up_drewN ?_ _ | (with_reducible refine up_set ?_ ?hset _; case hset => first | (simp; done) | (simp; omega) | omega) | with_reducible refine up_trans ?_ (by with_reducible assumption))), ⟨by simp [go_sem], by simp [go_sem], by simp [go_sem], by simp [go_sem], fun o => by simp [go_sem], fun o => by simp [go_sem], by omega⟩⟩
    case rest =>
      obtain ⟨b5, b6, rfl, rfl, ⟨hB5, hB6⟩, hbx, hF⟩ := hcut
      clear c0 c1
      go_wp2_with fail
      go_loopw [22] (fun i wr => ∃ k : Nat, k ≤ n ∧ i = .int .i64 k ∧ Below w1.heap.size w1 wr ∧ BF wr b5 b6 (bdLo X k) (bdLo Y k) (bdHi X k) (bdHi Y k)) (fun i _ => n - (intOf i).toNat)
      case atStart => exact ⟨0, by omega, rfl, hbx, hF⟩
      case round =>
        clear hbx hF
        obtain ⟨k, hk, rfl, hb, hF⟩ := hrel
        have hbw := hw1.trans (hb.mono hw1.size)
        by_cases hlt : k < n
        · have c0 := up_keep hbw (HR.out k hlt).1
          have c1 := up_keep hbw (HR.out k hlt).2
          have hl5 := lt_of_cell hF.c0
          have hl6 := lt_of_cell hF.d0
          go_upto_region 7 with fail
          generalize hW3 : World.alloc wr _ = W3 at *
          have hb3 : Below wr.heap.size wr W3 := by subst hW3; (repeat (first | with_reducible exact Below.refl _ _ | with_reducible assumption | with_reducible refine up_alloc ?_ _ | with_reducible refine up_drew ?_ | with_reducible refine up_drewN ?_ _ | (with_reducible refine up_set ?_ ?hset _; case hset => first | (simp; done) | (simp; omega) | omega) | with_reducible refine up_trans ?_ (by with_reducible assumption)))
          have e0 : W3.cell? ⟨wr.heap.size, 0, none⟩ = some (.int .i64 (X k)) := by subst hW3; simp [go_sem]
          have e1 : W3.cell? ⟨wr.heap.size, 1, none⟩ = some (.int .i64 (Y k)) := by subst hW3; simp [go_sem]
          have hb13 : Below w1.heap.size w1 W3 := up_trans hb hb3
          have hF3 := hF.up hb3
          have HL1 := Lib.hid (show bdLo X (k + 1) = min (bdLo X k) (X k) from rfl)
          have HL2 := Lib.hid (show bdLo Y (k + 1) = min (bdLo Y k) (Y k) from rfl)
          have HH1 := Lib.hid (show bdHi X (k + 1) = max (bdHi X k) (X k) from rfl)
          have HH2 := Lib.hid (show bdHi Y (k + 1) = max (bdHi Y k) (Y k) from rfl)
          clear hW3 c0 c1 hF
          generalize bdLo X k = l1 at *
          generalize bdLo Y k = l2 at *
          generalize bdHi X k = h1 at *
          generalize bdHi Y k = h2 at *
          generalize X k = xk at *
          generalize Y k = yk at *
          go_cut [22] from 22 to 48 (fun i wx => i = .int .i64 k ∧ Below w1.heap.size w1 wx ∧ BF wx b5 b6 (min l1 xk) (min l2 yk) h1 h2 ∧ wx.cell? ⟨wr.heap.size, 0, none⟩ = some (.int .i64 xk) ∧ wx.cell? ⟨wr.heap.size, 1, none⟩ = some (.int .i64 yk))
          case first =>
            have HF3 := Lib.hid hF3
            obtain ⟨c0, c1, d0, d1, f5, f6, ne⟩ := hF3
            have z0 := f5 0; have z1 := f5 1
            clear f5 f6
            have HA := Lib.hid (show ∀ W, Calls Try.prog 93 #[.int .i64 l1, .int .i64 xk] W (fun e w2 => e = .returned (.int .i64 (min l1 xk)) ∧ w2 = W) from fun W => (l1Least_any l1 xk W).mono fun _ _ ⟨p, q⟩ => ⟨p, q.symm⟩)
            have HB := Lib.hid (show ∀ W, Calls Try.prog 93 #[.int .i64 l2, .int .i64 yk] W (fun e w2 => e = .returned (.int .i64 (min l2 yk)) ∧ w2 = W) from fun W => (l1Least_any l2 yk W).mono fun _ _ ⟨p, q⟩ => ⟨p, q.symm⟩)
            refine wp_region_still_tail 11 (by kernel_rfl) (by kernel_rfl) ?_
            simp only [List.take_succ_cons, List.take_zero, List.drop_succ_cons, List.drop_zero]
            repeat (first | still_step | (refine wpStill_step (fun K hK => ?_); go_simp; (first | (with_reducible refine ⟨_, HA.out _, hK _ ?_⟩) | (with_reducible refine ⟨_, HB.out _, hK _ ?_⟩)); clear hK K))
            refine wpStill_nil ?_
            have hbd : Below W3.heap.size W3 W3.drew := up_drew (Below.refl _ _)
            have HFd := Lib.hid (HF3.out.up hbd)
            have e0d := up_keep hbd e0
            have e1d := up_keep hbd e1
            have hbd1 := up_trans hb13 hbd
            change wpList _ _ _ _ _ W3.drew
            clear c0 c1 d0 d1 z0 z1 hbd
            generalize W3.drew = W5 at *
            obtain ⟨c0, c1, d0, d1, f5, f6, _⟩ := HFd.out
            have z0 := f5 0; have z1 := f5 1
            clear f5 f6
            go_wp2_with fail
            go_meet
            exact ⟨rfl, up_set (up_set hbd1 hB5 _) hB5 _, HFd.out.set5 _ _, keep_set e0d (by omega) _ _, keep_set e1d (by omega) _ _⟩
          case rest =>
            obtain ⟨rfl, hb14, hF4, e0, e1⟩ := hcut
            go_upto_region 8 with fail
            have HF4 := Lib.hid hF4
            obtain ⟨c0, c1, d0, d1, f5, f6, ne⟩ := hF4
            have z0 := f6 0; have z1 := f6 1
            clear f5 f6
            have HA := Lib.hid (show ∀ W, Calls Try.prog 94 #[.int .i64 h1, .int .i64 xk] W (fun e w2 => e = .returned (.int .i64 (max h1 xk)) ∧ w2 = W) from fun W => (l1Most_any h1 xk W).mono fun _ _ ⟨p, q⟩ => ⟨p, q.symm⟩)
            have HB := Lib.hid (show ∀ W, Calls Try.prog 94 #[.int .i64 h2, .int .i64 yk] W (fun e w2 => e = .returned (.int .i64 (max h2 yk)) ∧ w2 = W) from fun W => (l1Most_any h2 yk W).mono fun _ _ ⟨p, q⟩ => ⟨p, q.symm⟩)
            refine wp_region_still_tail 11 (by kernel_rfl) (by kernel_rfl) ?_
            simp only [List.take_succ_cons, List.take_zero, List.drop_succ_cons, List.drop_zero]
            repeat (first | still_step | (refine wpStill_step (fun K hK => ?_); go_simp; (first | (with_reducible refine ⟨_, HA.out _, hK _ ?_⟩) | (with_reducible refine ⟨_, HB.out _, hK _ ?_⟩)); clear hK K))
            refine wpStill_nil ?_
            have hbd : Below wc.heap.size wc wc.drew := up_drew (Below.refl _ _)
            have HFd := Lib.hid (HF4.out.up hbd)
            have hbd1 := up_trans hb14 hbd
            change wpList _ _ _ _ _ wc.drew
            clear c0 c1 d0 d1 z0 z1 hbd
            generalize wc.drew = W5 at *
            obtain ⟨c0, c1, d0, d1, f5, f6, _⟩ := HFd.out
            have z0 := f6 0; have z1 := f6 1
            clear f5 f6
            go_wp2_with fail
            go_roundw
            case rel => exact ⟨k + 1, by omega, by go_num, up_set (up_set hbd1 hB6 _) hB6 _, by rw [HL1.out, HL2.out, HH1.out, HH2.out]; exact HFd.out.set6 _ _⟩
            case measure => simp [intOf]; omega
        · have e : k = n := by omega
          subst e
          obtain ⟨r0, r1, r2, r3, r4, r5, rne⟩ := HK.out.up hb
          obtain ⟨c0, c1, d0, d1, f5, f6, ne⟩ := hF
          have z0 := r4 0; have z1 := r4 1; have z2 := r5 0; have z3 := r5 1
          have hl2 : w.heap.size + 1 < w1.heap.size := lt_of_cell HK.out.d0
          have n1 : b5 ≠ w.heap.size := by omega
          have n2 : b5 ≠ w.heap.size + 1 := by omega
          have n3 : b6 ≠ w.heap.size := by omega
          have n4 : b6 ≠ w.heap.size + 1 := by omega
          clear f5 f6 r4 r5
          go_upto_region 10 with fail
          generalize bdLo X k = l1 at *
          generalize bdLo Y k = l2 at *
          generalize bdHi X k = h1 at *
          generalize bdHi Y k = h2 at *
          go_region_held3 (fun w' => w'.cell? ⟨b5, 0, none⟩ = some (.int .i64 l1) ∧ w'.cell? ⟨b5, 1, none⟩ = some (.int .i64 l2) ∧ w'.cell? ⟨b6, 0, none⟩ = some (.int .i64 h1) ∧ w'.cell? ⟨b6, 1, none⟩ = some (.int .i64 h2))
            (first
              | (with_reducible exact ⟨by assumption, by assumption, by assumption, by assumption⟩)
              | (refine ⟨?_, ?_, ?_, ?_⟩ <;> (with_reducible refine Eq.trans (cell_drewB _ _) ?_) <;> (repeat (rw [cell_set_ne _ _ _ _ _ _ (by omega)])) <;> with_reducible assumption)) (fail)
          all_goals
            go_wp2_with fail
            refine bodyPost_ret (v := .tuple #[.agg #[.int .i64 l1, .int .i64 l2], .agg #[.int .i64 h1, .int .i64 h2], .bool true]) (by simp [results, Try.results16, go_sem, r0, r1, r2, r3]) rfl ?_
            rw [HV.out]
            exact ⟨rfl, by (repeat (first | with_reducible exact Below.refl _ _ | with_reducible assumption | with_reducible refine up_alloc ?_ _ | with_reducible refine up_drew ?_ | with_reducible refine up_drewN ?_ _ | (with_reducible refine up_set ?_ ?hset _; case hset => first | (simp; done) | (simp; omega) | omega) | with_reducible refine up_trans ?_ (by with_reducible assumption)))⟩
end Go.Proofs.Ytljbcfgecbonnaa
