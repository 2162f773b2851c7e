/-
  The reference's draws for FnChartChanges and FnForms.
-/
import Derived.Test.YtljbcfgecbonnaaRows
import Derived.Test.YtljbcfgecbonnaaBase
import Derived.Test.YtljbcfgecbonnaaSpot
import Derived.Test.YtljbcfgecbonnaaSlice
import Derived.Test.YtljbcfgecbonnaaTurned
import Derived.Test.YtljbcfgecbonnaaTrans
import Derived.BigQuiet
import Derived.Test.YtljbcfgecbonnaaCur
import Derived.Test.YtljbcfgecbonnaaDrawP
import Derived.Test.YtljbcfgecbonnaaOpen
import Derived.Test.YtljbcfgecbonnaaAppend
import Derived.Test.YtljbcfgecbonnaaAppendE
import Derived.Test.YtljbcfgecbonnaaForm
import Derived.Test.YtljbcfgecbonnaaSameForm
import Derived.Deep.LoopGhost
import Derived.Deep.Onto
import Derived.Deep.CutRange
import Derived.Deep.DeepCutAuto
import Derived.Deep.RegionHeld3
import Derived.Test.YtljbcfgecbonnaaDrawV
import Derived.Test.YtljbcfgecbonnaaDrawX
import Derived.Test.YtljbcfgecbonnaaDrawW
import Derived.Test.YtljbcfgecbonnaaDrawZ
import Derived.Test.YtljbcfgecbonnaaDrawJ
import Derived.Test.YtljbcfgecbonnaaBytes
namespace Go.Proofs.Ytljbcfgecbonnaa
open Go.RowKit Go.ChangeShapes Go.WideShapes Go.Sort

/-- Returned: a list of spots with numbers, or with a number and a spot; nothing that was there has turned. -/
def AnsDII (w : World) (e : Ending) (w' : World) : Prop := ∃ v n X Y, ∃ i k : Int, e = .returned (.tuple #[v, .int .i64 i, .int .i64 k]) ∧ Spots w' v n X Y ∧ n ≤ 13 ∧ Below w.heap.size w w'
def AnsDIS (w : World) (e : Ending) (w' : World) : Prop := ∃ v n X Y, ∃ i x y : Int, e = .returned (.tuple #[v, .int .i64 i, .agg #[.int .i64 x, .int .i64 y]]) ∧ Spots w' v n X Y ∧ n ≤ 13 ∧ Below w.heap.size w w'
def AnsLn (w : World) (e : Ending) (w' : World) : Prop := ∃ x y u v p : Int, e = .returned (.tuple #[.agg #[.int .i64 x, .int .i64 y], .agg #[.int .i64 u, .int .i64 v], .int .i64 p]) ∧ Below w.heap.size w w'
def AnsBl (w : World) (e : Ending) (w' : World) : Prop := ∃ x y r f a b : Int, e = .returned (.tuple #[.agg #[.int .i64 x, .int .i64 y], .int .i64 r, .int .i64 f, .int .i64 a, .int .i64 b]) ∧ Below w.heap.size w w'
def AnsWe (w : World) (e : Ending) (w' : World) : Prop := ∃ x y p a b : Int, e = .returned (.tuple #[.agg #[.int .i64 x, .int .i64 y], .int .i64 p, .int .i64 a, .int .i64 b]) ∧ Below w.heap.size w w'
set_option maxRecDepth 100000 in
theorem drawSwapPerformers_g (v : Value) (n : Nat) (w : World) (h : Bytes w v n) (hn : n ≤ 9223372036854775807) : Calls Try.prog 24 #[v] w (AnsDII w) := by
  obtain ⟨A, c, rfl, hc, hr⟩ := h
  have HC := Lib.hid (fun t => curAt_new ⟨A, c, rfl, hc, hr⟩ hn t)
  clear hr
  go_enter Try.func24, Try.ntmps24
  go_wp2_with fail
  refine (cur_anyChart w.heap.size 0 _ (HC.out _) (by omega)).mono ?_
  rintro e w1 ⟨v1, n1, hn1, rfl, ⟨X, Y, ho⟩, hc1, ht1⟩
  obtain ⟨A1, c1, rfl, hnc1, hr1⟩ := ho
  have HO := Lib.hid (show OwnS _ w1 (.slice A1 n1 c1) n1 X Y from ⟨A1, c1, rfl, hnc1, hr1⟩)
  clear hr1
  go_wp2_with fail
  refine (cur_performer w.heap.size _ n1 c1 A1 _ hc1 (by omega) (by omega)).mono ?_
  rintro e w2 ⟨i, rfl, hi, hc2, ht2⟩
  go_wp2_with fail
  refine (cur_performer w.heap.size _ n1 c1 A1 _ hc2 (by omega) (by omega)).mono ?_
  rintro e w3 ⟨k, rfl, hk, hc3, ht3⟩
  go_wp2_with fail
  go_ret3
  have ht13 := ht2.trans ht3
  exact ⟨_, n1, X, Y, i, k, rfl, (HO.out.turnc ht13 (by simp)).spots, hn1, cur_below (ht1.trans ht13)⟩
/-- A cursor's new box behind other new boxes. -/
theorem cur_start {w W : World} {A : Option Addr} {n c p : Nat} (hb : Below w.heap.size w W) (h : Bytes w (.slice A n c) n) (hn : n ≤ 9223372036854775807) (hp : W.heap.size = p) (t : TypeId) : CurAt (W.alloc (.cells #[.slice A n c, .int .i64 0, .int .u64 0] t)) p 0 := by
  subst hp; exact curAt_new (h.up hb) hn t
/-- A box with two numbers that may be written. -/
structure RBox (w : World) (b : Nat) : Prop where
  ex : ∃ x y : Int, w.cell? ⟨b, 0, none⟩ = some (.int .i64 x) ∧ w.cell? ⟨b, 1, none⟩ = some (.int .i64 y)
  free : Free w b
  lt : b < w.heap.size
theorem RBox.turn {lo hi : Nat} {w w' : World} {b : Nat} (h : RBox w b) (ht : Turned lo hi w w') (hb : b < lo ∨ hi ≤ b) : RBox w' b := by
  obtain ⟨⟨x, y, h0, h1⟩, hf, hl⟩ := h
  exact ⟨⟨x, y, ht.cell h0 hb, ht.cell h1 hb⟩, ht.free hf hl hb, by have := ht.size; omega⟩
/-- What it reads behind two stores. -/
theorem RBox.put {w : World} {b : Nat} (h : RBox w b) (u v : Value) :
    ((w.setCell ⟨b, 0, none⟩ u).setCell ⟨b, 1, none⟩ v).cell? ⟨b, 0, none⟩ = some u ∧ ((w.setCell ⟨b, 0, none⟩ u).setCell ⟨b, 1, none⟩ v).cell? ⟨b, 1, none⟩ = some v := by
  obtain ⟨⟨x, y, h0, h1⟩, _, _⟩ := h
  exact ⟨(cell_set_ne _ b 1 v b 0 (by omega)).trans (cell_set_same w b 0 _ u h0), cell_set_same _ b 1 _ v ((cell_set_ne w b 0 u b 1 (by omega)).trans h1)⟩
theorem put_far {w : World} {b g o : Nat} (hne : b ≠ g) (u v : Value) : ((w.setCell ⟨b, 0, none⟩ u).setCell ⟨b, 1, none⟩ v).cell? ⟨g, o, none⟩ = w.cell? ⟨g, o, none⟩ :=
  (cell_set_ne _ b 1 v g o (by omega)).trans (cell_set_ne w b 0 u g o (by omega))
theorem RBox.far {w : World} {b g : Nat} (h : RBox w g) (hne : b ≠ g) (u v : Value) : RBox ((w.setCell ⟨b, 0, none⟩ u).setCell ⟨b, 1, none⟩ v) g := by
  obtain ⟨⟨x, y, h0, h1⟩, hf, hl⟩ := h
  exact ⟨⟨x, y, (put_far hne u v).trans h0, (put_far hne u v).trans h1⟩, (hf.set _ _).set _ _, by rw [size_set, size_set]; exact hl⟩
theorem put_below {B : Nat} {w : World} {b : Nat} (hb : B ≤ b) (u v : Value) : Below B w ((w.setCell ⟨b, 0, none⟩ u).setCell ⟨b, 1, none⟩ v) :=
  ((Below.refl B w).setCell (p := ⟨b, 0, none⟩) hb _).setCell (p := ⟨b, 1, none⟩) hb _
theorem turned_old {p : Nat} {w W w' : World} (hb : Below w.heap.size w W) (ht : Turned p (p + 1) W w') (hp : w.heap.size ≤ p) : Below w.heap.size w w' :=
  hb.trans ⟨ht.os, ht.tape, ht.output, ht.size, fun k hk => ht.block k (by have := hb.size; omega) (.inl (by omega))⟩
/-- What stands while a performer is placed: the spot's box behind w2, the cursor. -/
structure PlS (p : Nat) (w2 wx : World) (K : Nat) : Prop where
  s : RBox wx w2.heap.size
  cur : CurAt wx p K
  t : Turned p (p + 1) w2 wx
theorem PlS.more {p : Nat} {w2 wx : World} {K K' : Nat} (h : PlS p w2 wx K) (hk : K ≤ K') : PlS p w2 wx K' := ⟨h.s, h.cur.more hk, h.t⟩
theorem PlS.step {p : Nat} {w2 wx w' : World} {K K' K2 : Nat} (h : PlS p w2 wx K) (ht : Turned p (p + 1) wx w') (hc : CurAt w' p K') (hb : p < w2.heap.size) (hk : K' ≤ K2) : PlS p w2 w' K2 :=
  ⟨h.s.turn ht (by omega), hc.more hk, h.t.trans ht⟩
theorem PlS.put {p : Nat} {w2 wx : World} {K : Nat} (h : PlS p w2 wx K) (hb : p < w2.heap.size) (x y : Int) : PlS p w2 ((wx.setCell ⟨w2.heap.size, 0, none⟩ (.int .i64 x)).setCell ⟨w2.heap.size, 1, none⟩ (.int .i64 y)) K :=
  ⟨⟨⟨x, y, h.s.put _ _⟩, (h.s.free.set _ _).set _ _, by rw [size_set, size_set]; exact h.s.lt⟩, h.cur.below (put_below (Nat.le_refl _) _ _) hb, h.t.far (put_below (Nat.le_refl _) _ _)⟩
set_option maxRecDepth 100000 in
set_option maxHeartbeats 8000000 in
theorem drawPlacePerformer_g (v : Value) (n : Nat) (w : World) (h : Bytes w v n) (hn : n ≤ 9223372036854775807) : Calls Try.prog 31 #[v] w (AnsDIS w) := by
  have HV := Lib.hid h
  obtain ⟨A, c, rfl, hc, hr⟩ := h
  clear hr
  go_enter Try.func31, Try.ntmps31
  go_wp2_with fail
  refine (cur_anyChart (w.heap.size + 1) 0 _ (cur_start (by (repeat (first | with_reducible exact Below.refl _ _ | with_reducible assumption | with_reducible refine up_alloc ?_ _ | with_reducible refine up_drew ?_ | with_reducible refine up_drewN ?_ _ | (with_reducible refine up_set ?_ ?hset _; case hset => first | (simp; done) | (simp; omega) | omega) | with_reducible refine up_trans ?_ (by with_reducible assumption)))) HV.out hn (by simp) _) (by omega)).mono ?_
  rintro e w1 ⟨v1, n1, hn1, rfl, ⟨X, Y, ho⟩, hc1, ht1⟩
  have hR : RBox w1 w.heap.size := RBox.turn ⟨⟨0, 0, by simp [go_sem], by simp [go_sem]⟩, (fun o => by simp [go_sem]), by simp; omega⟩ ht1 (by omega)
  have hW1 : Below w.heap.size w w1 := turned_old (by (repeat (first | with_reducible exact Below.refl _ _ | with_reducible assumption | with_reducible refine up_alloc ?_ _ | with_reducible refine up_drew ?_ | with_reducible refine up_drewN ?_ _ | (with_reducible refine up_set ?_ ?hset _; case hset => first | (simp; done) | (simp; omega) | omega) | with_reducible refine up_trans ?_ (by with_reducible assumption)))) ht1 (by omega)
  clear ht1
  replace ho : OwnS (w.heap.size + 1 + 1) w1 v1 n1 X Y := by simpa using ho
  obtain ⟨A1, c1, rfl, hnc1, hr1⟩ := ho
  have HO := Lib.hid (show OwnS (w.heap.size + 1 + 1) w1 (.slice A1 n1 c1) n1 X Y from ⟨A1, c1, rfl, hnc1, hr1⟩)
  clear hr1
  go_wp2_with fail
  refine (cur_anySpot _ _ _ hc1 (by omega)).mono ?_
  rintro e w2 ⟨x, y, rfl, hc2, ht2⟩
  have hl2 := hc2.lt
  have hR2 := hR.turn ht2 (by omega)
  have hW2 := turned_old hW1 ht2 (by omega)
  have HO2 := Lib.hid (HO.out.turnc ht2 (by omega))
  clear hR HO hW1
  go_upto_region 4 with fail
  generalize hWx : World.alloc w2 _ = W2 at *
  have hbV : Below w2.heap.size w2 W2 := by subst hWx; exact below_alloc _ _
  have hs2 := hW2.size
  have hlb : w.heap.size + 1 < w2.heap.size := by omega
  have hP : PlS (w.heap.size + 1) w2 W2 200000 := ⟨⟨⟨x, y, by subst hWx; simp [go_sem], by subst hWx; simp [go_sem]⟩, (by subst hWx; intro o; simp [go_sem]), by subst hWx; simp⟩, (hc2.up hbV).more (by omega), Turned.of_below hbV⟩
  clear hWx hbV hc2
  go_cut [21] (fun s wx => ∃ bq : Bool, s = .bool bq ∧ (bq = true → 0 < n1) ∧ PlS (w.heap.size + 1) w2 wx 300000)
  case first =>
    by_cases hm0 : n1 = 0
    · subst hm0
      go_wp2_with fail
      go_meet
      exact ⟨false, rfl, (fun h => absurd h (by simp)), hP.more (by omega)⟩
    · have j2 : (n1 : Int) > 0 := by omega
      go_wp2_with fail
      refine (cur_one _ _ 4 _ hP.cur (by omega) (by omega)).mono ?_
      rintro e w3 ⟨bq, rfl, hc3, ht3⟩
      go_wp2_with fail
      go_meet
      exact ⟨bq, rfl, fun _ => by omega, hP.step ht3 hc3 hlb (by omega)⟩
  case rest =>
  obtain ⟨bq, rfl, hbq, hP1⟩ := hcut
  obtain ⟨w3, rfl⟩ : ∃ W : World, W = wc := ⟨_, rfl⟩
  clear hP
  go_upto_if 21 with fail
  go_cut [7] (fun s wx => s = .pointer (some ⟨w2.heap.size, 0, none⟩) ∧ PlS (w.heap.size + 1) w2 wx 400000)
  case first =>
    cases bq with
    | false =>
      go_wp2_with fail
      go_meet
      exact ⟨rfl, hP1.more (by omega)⟩
    | true =>
      have hm0 := hbq rfl
      go_wp2_with fail
      refine (cur_pick _ _ n1 _ hP1.cur (by omega) (by omega)).mono ?_
      rintro e w4 ⟨J, rfl, hJ, hc4, ht4⟩
      have hP4 := hP1.step ht4 hc4 hlb (Nat.le_refl _)
      have hO4 := HO2.out.turnc hP4.t (by omega)
      have hJn : J < n1 := by omega
      have jJ : (J : Int) < (n1 : Int) := by omega
      obtain ⟨A', c', e1, _, hrow⟩ := hO4.spots
      clear hO4
      injection e1 with e1 _ e2
      subst e1
      subst e2
      obtain ⟨g, o, rfl, hr2⟩ := hrow (by omega)
      have d0 := (hr2 J hJn).1
      have d1 := (hr2 J hJn).2
      obtain ⟨⟨a0, a1, r0, r1⟩, rf, _⟩ := hP4.s
      have rf0 := rf 0
      have rf1 := rf 1
      have HP4 := Lib.hid hP4
      clear hr2 hrow rf hP1 hP4
      go_wp2_with fail
      go_meet
      exact ⟨rfl, (HP4.out.put hlb (X J) (Y J)).more (by omega)⟩
  case rest =>
  obtain ⟨rfl, hP2⟩ := hcut
  obtain ⟨w5, rfl⟩ : ∃ W : World, W = wc := ⟨_, rfl⟩
  clear hP1
  obtain ⟨⟨x5, y5, s0, s1⟩, _, _⟩ := hP2.s
  have hR5 := hR2.turn hP2.t (by omega)
  have HR5 := Lib.hid hR5
  have rf0 := hR5.free 0
  have rf1 := hR5.free 1
  obtain ⟨⟨a0, a1, q0, q1⟩, _, _⟩ := hR5
  have HP2 := Lib.hid hP2
  clear hP2
  go_wp2_with fail
  go_region_held3 (fun w' => w'.cell? ⟨w2.heap.size, 0, none⟩ = some (.int .i64 x5) ∧ w'.cell? ⟨w2.heap.size, 1, none⟩ = some (.int .i64 y5))
    (first | exact ⟨by assumption, by assumption⟩ | exact ⟨(put_far (by omega) _ _).trans (by assumption), (put_far (by omega) _ _).trans (by assumption)⟩ | go_keep) (first
      | (go_at_call 103; (with_reducible refine (cur_performer (w.heap.size + 1) 400000 n1 c1 A1 _ (HP2.out.cur.up (show Below w5.heap.size w5 _ from (by (repeat (first | with_reducible exact Below.refl _ _ | with_reducible assumption | with_reducible refine up_alloc ?_ _ | with_reducible refine up_drew ?_ | with_reducible refine up_drewN ?_ _ | (with_reducible refine up_set ?_ ?hset _; case hset => first | (simp; done) | (simp; omega) | omega) | with_reducible refine up_trans ?_ (by with_reducible assumption)))))) (by omega) (by omega)).mono ?_); rintro e w7 ⟨i, rfl, hi, hc7, ht7⟩; replace ht7 := (Turned.of_below (show Below w5.heap.size w5 _ from (by (repeat (first | with_reducible exact Below.refl _ _ | with_reducible assumption | with_reducible refine up_alloc ?_ _ | with_reducible refine up_drew ?_ | with_reducible refine up_drewN ?_ _ | (with_reducible refine up_set ?_ ?hset _; case hset => first | (simp; done) | (simp; omega) | omega) | with_reducible refine up_trans ?_ (by with_reducible assumption)))))).trans ht7; have hP7 := HP2.out.step ht7 hc7 hlb (Nat.le_refl _); have p0 := ht7.cell s0 (by omega); have p1 := ht7.cell s1 (by omega); have p2 := ht7.cell q0 (by omega); have p3 := ht7.cell q1 (by omega); have hR7 := HR5.out.turn ht7 (by omega); have p4 := hR7.free 0; have p5 := hR7.free 1)
      | fail)
  all_goals
    obtain ⟨e0, e1⟩ := (HR5.out.turn ht7 (by omega)).put (.int .i64 x5) (.int .i64 y5)
    have hb9 := (turned_old hW2 hP7.t (by omega)).trans (put_below (Nat.le_refl w.heap.size) (.int .i64 x5) (.int .i64 y5))
    have hO9 := ((HO2.out.turnc hP7.t (by omega)).turn ((Turned.set (lo := w.heap.size) (hi := w.heap.size + 1) (w := w7) (b := w.heap.size) (o := 0) (Nat.le_refl _) (by omega) (.int .i64 x5)).trans (Turned.set (b := w.heap.size) (o := 1) (Nat.le_refl _) (by omega) (.int .i64 y5))) (by omega)).spots
    go_wp2_with fail
    generalize World.setCell (World.setCell w7 _ _) _ _ = w9 at *
    refine bodyPost_ret (v := .tuple #[.slice A1 n1 c1, .int .i64 i, .agg #[.int .i64 x5, .int .i64 y5]]) (by simp [results, Try.results31, go_sem, e0, e1]) rfl ?_
    exact ⟨_, n1, X, Y, i, x5, y5, rfl, hO9, hn1, hb9⟩
set_option maxRecDepth 100000 in
set_option maxHeartbeats 8000000 in
theorem drawChangedSpots_g (v : Value) (n : Nat) (w : World) (h : Bytes w v n) (hn : n ≤ 9223372036854775807) : Calls Try.prog 39 #[v] w (AnsD2 w) := by
  have HV := Lib.hid h
  obtain ⟨A, c, rfl, hc, hr⟩ := h
  clear hr
  go_enter Try.func39, Try.ntmps39
  go_wp2_with fail
  refine (cur_anyChart w.heap.size 0 _ (cur_start (Below.refl _ _) HV.out hn rfl _) (by omega)).mono ?_
  rintro e w1 ⟨v1, n1, hn1, rfl, ⟨X, Y, ho⟩, hc1, ht1⟩
  have hW1 : Below w.heap.size w w1 := turned_old (by (repeat (first | with_reducible exact Below.refl _ _ | with_reducible assumption | with_reducible refine up_alloc ?_ _ | with_reducible refine up_drew ?_ | with_reducible refine up_drewN ?_ _ | (with_reducible refine up_set ?_ ?hset _; case hset => first | (simp; done) | (simp; omega) | omega) | with_reducible refine up_trans ?_ (by with_reducible assumption)))) ht1 (Nat.le_refl _)
  have hz1 : w.heap.size < w1.heap.size := hc1.lt
  clear ht1
  replace ho : OwnS (w.heap.size + 1) w1 v1 n1 X Y := by simpa using ho
  have HA1 := Lib.hid ho.spots
  go_wp2_with fail
  refine (chOwn_g v1 n1 X Y _ ho.spots (by omega)).mono ?_
  rintro e w2 ⟨v2, rfl, ho2, hb2⟩
  have HA2 := Lib.hid (ho.up hb2)
  clear ho
  obtain ⟨A1, c1, rfl, hnc1, _⟩ := id HA1.out
  have hO2 := ho2.ownS
  obtain ⟨A2, c2, rfl, hnc2, hr2⟩ := hO2
  have HO2 := Lib.hid (show OwnS w1.heap.size w2 (.slice A2 n1 c2) n1 X Y from ⟨A2, c2, rfl, hnc2, hr2⟩)
  have hc2' := hc1.up hb2
  have hW2 := hW1.trans (hb2.mono (by omega))
  have hz2 := hb2.size
  clear ho2 hb2 hc1 hW1
  by_cases hm0 : n1 = 0
  · subst hm0
    go_wp2_with fail
    go_ret2
    exact ⟨_, 0, X, Y, _, 0, X, Y, rfl, HA2.out.spots, HO2.out.spots, by omega, by omega, hW2⟩
  · have j0 : (n1 : Int) > 0 := by omega
    obtain ⟨gb, ob, rfl, hgb, hfb, hRb⟩ := hr2 (by omega)
    have HRb := Lib.hid hRb
    have HFb := Lib.hid hfb
    have hlb := lt_of_cell (hRb 0 (by omega)).1
    clear hfb hRb hr2
    go_wp2_with fail
    refine (cur_pick _ _ 4 _ hc2' (by omega) (by omega)).mono ?_
    rintro e w3 ⟨y, rfl, hy, hc3, ht3⟩
    by_cases y0 : y = 0
    · subst y0
      go_wp2_with fail
      refine (cur_pick _ _ n1 _ hc3 (by omega) (by omega)).mono ?_
      rintro e w4 ⟨I, rfl, hI, hc4, ht4⟩
      have hIn : I < n1 := by omega
      have jI : (I : Int) < (n1 : Int) := by omega
      go_wp2_with fail
      refine (cur_spot _ _ _ hc4 (by omega)).mono ?_
      rintro e w5 ⟨x, z, rfl, hc5, ht5⟩
      have ht25 := (ht3.trans ht4).trans ht5
      have b0 := ht25.cell (HRb.out I hIn).1 (by omega)
      have b1 := ht25.cell (HRb.out I hIn).2 (by omega)
      have f0 := ht25.free HFb.out hlb (by omega) (ob + I * 2)
      have f1 := ht25.free HFb.out hlb (by omega) (ob + I * 2 + 1)
      have hb9 : Below w1.heap.size w5 ((w5.setCell ⟨gb, ob + I * 2, none⟩ (.int .i64 x)).setCell ⟨gb, ob + I * 2 + 1, none⟩ (.int .i64 z)) := ((Below.refl w1.heap.size w5).setCell (p := ⟨gb, ob + I * 2, none⟩) hgb _).setCell (p := ⟨gb, ob + I * 2 + 1, none⟩) hgb _
      have hE : OwnSE w1.heap.size w5 (.slice (some ⟨gb, ob, none⟩) n1 c2) n1 := ⟨X, Y, HO2.out.turnc ht25 (by omega)⟩
      have hA9 := Spots.old HA1.out ((HA2.out.turnc ht25 (by omega)).spots) hb9
      have hW9 := (turned_old hW2 ht25 (Nat.le_refl _)).trans (hb9.mono (by omega))
      go_wp2_with fail
      go_ret2
      obtain ⟨X9, Y9, h9⟩ := (hE.store gb (ob + I * 2) x).store gb (ob + I * 2 + 1) z
      exact ⟨_, n1, X, Y, _, n1, X9, Y9, rfl, hA9, h9.spots, by omega, by omega, hW9⟩
    · have jy0 : ¬ (y : Int) = 0 := by omega
      by_cases y1 : y = 1
      · subst y1
        go_wp2_with fail
        refine (cur_pick _ _ n1 _ hc3 (by omega) (by omega)).mono ?_
        rintro e w4 ⟨I, rfl, hI, hc4, ht4⟩
        go_wp2_with fail
        refine (cur_pick _ _ n1 _ hc4 (by omega) (by omega)).mono ?_
        rintro e w5 ⟨J, rfl, hJ, hc5, ht5⟩
        have hIn : I < n1 := by omega
        have jI : (I : Int) < (n1 : Int) := by omega
        have hJn : J < n1 := by omega
        have jJ : (J : Int) < (n1 : Int) := by omega
        have ht25 := (ht3.trans ht4).trans ht5
        obtain ⟨A1', c1', e1, _, hra⟩ := HA1.out
        injection e1 with e1 _ e2
        subst e1
        subst e2
        obtain ⟨ga, oa, rfl, hRa⟩ := hra (by omega)
        have hga := lt_of_cell (hRa 0 (by omega)).1
        have hRa5 := ((HA2.out.turnc ht25 (by omega)).spots)
        obtain ⟨A1', c1', e1, _, hra2⟩ := hRa5
        injection e1 with e1 _ e2
        subst e1
        subst e2
        obtain ⟨ga', oa', e1, hRa5⟩ := hra2 (by omega)
        injection e1 with e1
        injection e1 with e1 e2
        subst e1
        subst e2
        clear hra hra2
        have hRb5 : Row2 w5 gb ob n1 X Y := HRb.out.turn ht25 (by omega)
        have a0 := (hRa5 J hJn).1
        have a1 := (hRa5 J hJn).2
        have b0 := (hRb5 I hIn).1
        have b1 := (hRb5 I hIn).2
        have hff := ht25.free HFb.out hlb (by omega)
        have f0 := hff (ob + I * 2)
        have f1 := hff (ob + I * 2 + 1)
        have f2 := hff (ob + J * 2)
        have f3 := hff (ob + J * 2 + 1)
        have a2 : ((w5.setCell ⟨gb, ob + I * 2, none⟩ (.int .i64 (X J))).setCell ⟨gb, ob + I * 2 + 1, none⟩ (.int .i64 (Y J))).cell? ⟨ga, oa + I * 2, none⟩ = some (.int .i64 (X I)) := ((cell_set_ne _ gb _ _ ga _ (by omega)).trans (cell_set_ne _ gb _ _ ga _ (by omega))).trans (hRa5 I hIn).1
        have a3 : ((w5.setCell ⟨gb, ob + I * 2, none⟩ (.int .i64 (X J))).setCell ⟨gb, ob + I * 2 + 1, none⟩ (.int .i64 (Y J))).cell? ⟨ga, oa + I * 2 + 1, none⟩ = some (.int .i64 (Y I)) := ((cell_set_ne _ gb _ _ ga _ (by omega)).trans (cell_set_ne _ gb _ _ ga _ (by omega))).trans (hRa5 I hIn).2
        have hRb6 := hRb5.put hIn (X J) (Y J)
        have b2 := (hRb6 J hJn).1
        have b3 := (hRb6 J hJn).2
        have hb9 : Below w1.heap.size w5 ((((w5.setCell ⟨gb, ob + I * 2, none⟩ (.int .i64 (X J))).setCell ⟨gb, ob + I * 2 + 1, none⟩ (.int .i64 (Y J))).setCell ⟨gb, ob + J * 2, none⟩ (.int .i64 (X I))).setCell ⟨gb, ob + J * 2 + 1, none⟩ (.int .i64 (Y I))) := ((((Below.refl w1.heap.size w5).setCell (p := ⟨gb, ob + I * 2, none⟩) hgb _).setCell (p := ⟨gb, ob + I * 2 + 1, none⟩) hgb _).setCell (p := ⟨gb, ob + J * 2, none⟩) hgb _).setCell (p := ⟨gb, ob + J * 2 + 1, none⟩) hgb _
        have hE : OwnSE w1.heap.size w5 (.slice (some ⟨gb, ob, none⟩) n1 c2) n1 := ⟨X, Y, HO2.out.turnc ht25 (by omega)⟩
        have hA9 := Spots.old HA1.out ((HA2.out.turnc ht25 (by omega)).spots) hb9
        have hW9 := (turned_old hW2 ht25 (Nat.le_refl _)).trans (hb9.mono (by omega))
        clear hRa5 hRb5 hRb6 hRa hff
        go_wp2_with fail
        go_ret2
        obtain ⟨X9, Y9, h9⟩ := (((hE.store gb (ob + I * 2) (X J)).store gb (ob + I * 2 + 1) (Y J)).store gb (ob + J * 2) (X I)).store gb (ob + J * 2 + 1) (Y I)
        exact ⟨_, n1, X, Y, _, n1, X9, Y9, rfl, hA9, h9.spots, by omega, by omega, hW9⟩
      · have jy1 : ¬ (y : Int) = 1 := by omega
        by_cases y2 : y = 2
        · subst y2
          go_wp2_with fail
          refine (cur_anyChart _ _ _ hc3 (by omega)).mono ?_
          rintro e w4 ⟨v4, n4, hn4, rfl, ⟨X4, Y4, ho4⟩, hc4, ht4⟩
          have ht24 := ht3.trans ht4
          go_wp2_with fail
          go_ret2
          exact ⟨_, n1, X, Y, _, n4, X4, Y4, rfl, (HA2.out.turnc ht24 (by omega)).spots, ho4.spots, by omega, by omega, turned_old hW2 ht24 (Nat.le_refl _)⟩
        · have jy2 : ¬ (y : Int) = 2 := by omega
          go_wp2_with fail
          go_ret2
          exact ⟨_, n1, X, Y, _, n1, X, Y, rfl, (HA2.out.turnc ht3 (by omega)).spots, (HO2.out.turnc ht3 (by omega)).spots, by omega, by omega, turned_old hW2 ht3 (Nat.le_refl _)⟩
theorem drawSameForm_g (v : Value) (n : Nat) (w : World) (h : Bytes w v n) (hn : n ≤ 9223372036854775807) : Calls Try.prog 37 #[v] w (AnsD2 w) := by
  have HC := Lib.hid (drawChangedSpots_g v n w h hn)
  go_enter Try.func37, Try.ntmps37
  go_wp2_with fail
  refine HC.out.mono ?_
  rintro e w1 ⟨v1, n1, X, Y, v2, n2, U, V, rfl, ho, hp, hn1, hn2, hb⟩
  go_wp2_with fail
  go_ret2
  exact ⟨_, n1, X, Y, _, n2, U, V, rfl, ho, hp, hn1, hn2, hb⟩
set_option maxRecDepth 100000 in
set_option maxHeartbeats 4000000 in
theorem drawMoveChart_g (v : Value) (n : Nat) (w : World) (h : Bytes w v n) (hn : n ≤ 9223372036854775807) : Calls Try.prog 34 #[v] w (AnsDII w) := by
  obtain ⟨A, c, rfl, hc, hr⟩ := h
  have HC := Lib.hid (fun t => curAt_new ⟨A, c, rfl, hc, hr⟩ hn t)
  clear hr
  go_enter Try.func34, Try.ntmps34
  go_wp2_with fail
  refine (cur_among w.heap.size 0 _ 4 (-2001) 2001 _ ((HC.out _).up (below_alloc _ _)) (by omega) (by omega) (by omega) (by simp) (by intro i hi; match i, hi with | 0, _ => exact ⟨2000, by simp [go_sem], by omega, by omega⟩ | 1, _ => exact ⟨2001, by simp [go_sem], by omega, by omega⟩ | 2, _ => exact ⟨-2000, by simp [go_sem], by omega, by omega⟩ | 3, _ => exact ⟨-2001, by simp [go_sem], by omega, by omega⟩ | (q + 4), hi => omega)).mono ?_
  rintro e w1 ⟨x, rfl, hx, hc1, ht1⟩
  have hl1 := hc1.lt
  go_wp2_with fail
  generalize hW1 : World.alloc w1 _ = W1
  have hb1 : Below w1.heap.size w1 W1 := by subst hW1; exact below_alloc _ _
  have HA := Lib.hid (show ∀ i, i < 6 → ∃ y : Int, W1.cell? ⟨w1.heap.size, i, none⟩ = some (.int .i64 y) ∧ -2001 ≤ y ∧ y ≤ 2001 by
    subst hW1
    intro i hi; match i, hi with | 0, _ => exact ⟨0, by simp [go_sem], by omega, by omega⟩ | 1, _ => exact ⟨8, by simp [go_sem], by omega, by omega⟩ | 2, _ => exact ⟨-8, by simp [go_sem], by omega, by omega⟩ | 3, _ => exact ⟨80, by simp [go_sem], by omega, by omega⟩ | 4, _ => exact ⟨-80, by simp [go_sem], by omega, by omega⟩ | 5, _ => exact ⟨x, by simp [go_sem], by omega, by omega⟩ | (q + 6), hi => omega)
  clear hW1
  refine (cur_anyChart w.heap.size _ _ (hc1.up hb1) (by omega)).mono ?_
  rintro e w2 ⟨v2, n2, hn2, rfl, ⟨X, Y, ho⟩, hc2, ht2⟩
  go_wp2_with fail
  refine (cur_among w.heap.size _ _ 6 (-2001) 2001 _ hc2 (by omega) (by omega) (by omega) hl1 (fun i hi => by obtain ⟨y, h1, h2⟩ := HA.out i hi; exact ⟨y, ht2.cell h1 (by omega), h2⟩)).mono ?_
  rintro e w3 ⟨y, rfl, hy, hc3, ht3⟩
  go_wp2_with fail
  refine (cur_among w.heap.size _ _ 6 (-2001) 2001 _ hc3 (by omega) (by omega) (by omega) hl1 (fun i hi => by obtain ⟨y, h1, h2⟩ := HA.out i hi; exact ⟨y, ht3.cell (ht2.cell h1 (by omega)) (by omega), h2⟩)).mono ?_
  rintro e w4 ⟨z, rfl, hz, hc4, ht4⟩
  go_wp2_with fail
  go_ret3
  have hta := (((Turned.of_below (lo := w.heap.size) (hi := w.heap.size + 1) (below_alloc _ _)).trans ht1).trans (Turned.of_below hb1)).trans ht2
  have hs := hb1.size
  exact ⟨_, n2, X, Y, y, z, rfl, (ho.turnc (ht3.trans ht4) (by omega)).spots, hn2, cur_below (hta.trans (ht3.trans ht4))⟩
set_option maxRecDepth 100000 in
set_option maxHeartbeats 4000000 in
theorem drawLineOf_g (v : Value) (n : Nat) (w : World) (h : Bytes w v n) (hn : n ≤ 9223372036854775807) : Calls Try.prog 40 #[v] w (AnsLn w) := by
  have HV := Lib.hid h
  obtain ⟨A, c, rfl, hc, hr⟩ := h
  clear hr
  go_enter Try.func40, Try.ntmps40
  go_wp2_with fail
  refine (cur_anySpot (w.heap.size + 1 + 1) 0 _ (cur_start (by (repeat (first | with_reducible exact Below.refl _ _ | with_reducible assumption | with_reducible refine up_alloc ?_ _ | with_reducible refine up_drew ?_ | with_reducible refine up_drewN ?_ _ | (with_reducible refine up_set ?_ ?hset _; case hset => first | (simp; done) | (simp; omega) | omega) | with_reducible refine up_trans ?_ (by with_reducible assumption)))) HV.out hn (by simp) _) (by omega)).mono ?_
  rintro e w1 ⟨x, y, rfl, hc1, ht1⟩
  have hR : RBox w1 w.heap.size := RBox.turn ⟨⟨0, 0, by simp [go_sem], by simp [go_sem]⟩, (fun o => by simp [go_sem]), by simp; omega⟩ ht1 (by omega)
  have hS : RBox w1 (w.heap.size + 1) := RBox.turn ⟨⟨0, 0, by simp [go_sem], by simp [go_sem]⟩, (fun o => by simp [go_sem]), by simp⟩ ht1 (by omega)
  have hW1 : Below w.heap.size w w1 := turned_old (by (repeat (first | with_reducible exact Below.refl _ _ | with_reducible assumption | with_reducible refine up_alloc ?_ _ | with_reducible refine up_drew ?_ | with_reducible refine up_drewN ?_ _ | (with_reducible refine up_set ?_ ?hset _; case hset => first | (simp; done) | (simp; omega) | omega) | with_reducible refine up_trans ?_ (by with_reducible assumption)))) ht1 (by omega)
  clear ht1
  go_wp2_with fail
  refine (cur_anySpot _ _ _ hc1 (by omega)).mono ?_
  rintro e w2 ⟨u, z, rfl, hc2, ht2⟩
  go_wp2_with fail
  refine (cur_many _ _ _ hc2 (by omega)).mono ?_
  rintro e w3 ⟨k, rfl, hk, hc3, ht3⟩
  have ht13 := ht2.trans ht3
  have hR3 := hR.turn ht13 (by omega)
  have hS3 := hS.turn ht13 (by omega)
  have hW3 := turned_old hW1 ht13 (by omega)
  obtain ⟨⟨a0, a1, r0, r1⟩, rf, _⟩ := id hR3
  obtain ⟨⟨b0, b1, s0, s1⟩, sf, _⟩ := id hS3
  have rf0 := rf 0
  have rf1 := rf 1
  have sf0 := sf 0
  have sf1 := sf 1
  clear rf sf
  have hS4 := hS3.far (b := w.heap.size) (by omega) (.int .i64 x) (.int .i64 y)
  have hq0 := hS4.put (.int .i64 u) (.int .i64 z)
  have hq1 := hR3.put (.int .i64 x) (.int .i64 y)
  have e0 := (put_far (w := (w3.setCell ⟨w.heap.size, 0, none⟩ (.int .i64 x)).setCell ⟨w.heap.size, 1, none⟩ (.int .i64 y)) (b := w.heap.size + 1) (g := w.heap.size) (o := 0) (by omega) (.int .i64 u) (.int .i64 z)).trans hq1.1
  have e1 := (put_far (w := (w3.setCell ⟨w.heap.size, 0, none⟩ (.int .i64 x)).setCell ⟨w.heap.size, 1, none⟩ (.int .i64 y)) (b := w.heap.size + 1) (g := w.heap.size) (o := 1) (by omega) (.int .i64 u) (.int .i64 z)).trans hq1.2
  obtain ⟨g0, g1⟩ := hq0
  have hb9 := ((hW3.trans (put_below (Nat.le_refl _) (.int .i64 x) (.int .i64 y))).trans (put_below (show w.heap.size ≤ w.heap.size + 1 by omega) (.int .i64 u) (.int .i64 z)))
  clear hq1 hS4
  go_wp2_with fail
  generalize World.setCell (World.setCell (World.setCell (World.setCell w3 _ _) _ _) _ _) _ _ = w9 at *
  refine bodyPost_ret (v := .tuple #[.agg #[.int .i64 x, .int .i64 y], .agg #[.int .i64 u, .int .i64 z], .int .i64 k]) (by simp [results, Try.results40, go_sem, e0, e1, g0, g1]) rfl ?_
  exact ⟨x, y, u, z, k, rfl, hb9⟩
set_option maxRecDepth 100000 in
set_option maxHeartbeats 4000000 in
theorem drawWedgeOf_g (v : Value) (n : Nat) (w : World) (h : Bytes w v n) (hn : n ≤ 9223372036854775807) : Calls Try.prog 46 #[v] w (AnsWe w) := by
  have HV := Lib.hid h
  obtain ⟨A, c, rfl, hc, hr⟩ := h
  clear hr
  go_enter Try.func46, Try.ntmps46
  go_wp2_with fail
  refine (cur_anySpot (w.heap.size + 1) 0 _ (cur_start (by (repeat (first | with_reducible exact Below.refl _ _ | with_reducible assumption | with_reducible refine up_alloc ?_ _ | with_reducible refine up_drew ?_ | with_reducible refine up_drewN ?_ _ | (with_reducible refine up_set ?_ ?hset _; case hset => first | (simp; done) | (simp; omega) | omega) | with_reducible refine up_trans ?_ (by with_reducible assumption)))) HV.out hn (by simp) _) (by omega)).mono ?_
  rintro e w1 ⟨x, y, rfl, hc1, ht1⟩
  have hR : RBox w1 w.heap.size := RBox.turn ⟨⟨0, 0, by simp [go_sem], by simp [go_sem]⟩, (fun o => by simp [go_sem]), by simp; omega⟩ ht1 (by omega)
  have hW1 : Below w.heap.size w w1 := turned_old (by (repeat (first | with_reducible exact Below.refl _ _ | with_reducible assumption | with_reducible refine up_alloc ?_ _ | with_reducible refine up_drew ?_ | with_reducible refine up_drewN ?_ _ | (with_reducible refine up_set ?_ ?hset _; case hset => first | (simp; done) | (simp; omega) | omega) | with_reducible refine up_trans ?_ (by with_reducible assumption)))) ht1 (by omega)
  clear ht1
  go_wp2_with fail
  refine (cur_many _ _ _ hc1 (by omega)).mono ?_
  rintro e w2 ⟨k, rfl, hk, hc2, ht2⟩
  go_wp2_with fail
  refine (cur_gap _ _ _ hc2 (by omega)).mono ?_
  rintro e w3 ⟨a, rfl, ha, hc3, ht3⟩
  go_wp2_with fail
  refine (cur_gap _ _ _ hc3 (by omega)).mono ?_
  rintro e w4 ⟨b, rfl, hb, hc4, ht4⟩
  have ht14 := (ht2.trans ht3).trans ht4
  have hR4 := hR.turn ht14 (by omega)
  have hW4 := turned_old hW1 ht14 (by omega)
  obtain ⟨⟨a0, a1, r0, r1⟩, rf, _⟩ := id hR4
  have rf0 := rf 0
  have rf1 := rf 1
  clear rf
  obtain ⟨e0, e1⟩ := hR4.put (.int .i64 x) (.int .i64 y)
  have hb9 := hW4.trans (put_below (Nat.le_refl w.heap.size) (.int .i64 x) (.int .i64 y))
  go_wp2_with fail
  generalize World.setCell (World.setCell w4 _ _) _ _ = w9 at *
  refine bodyPost_ret (v := .tuple #[.agg #[.int .i64 x, .int .i64 y], .int .i64 k, .int .i64 a, .int .i64 b]) (by simp [results, Try.results46, go_sem, e0, e1]) rfl ?_
  exact ⟨x, y, k, a, b, rfl, hb9⟩
set_option maxRecDepth 100000 in
set_option maxHeartbeats 8000000 in
theorem drawBlockOf_g (v : Value) (n : Nat) (w : World) (h : Bytes w v n) (hn : n ≤ 9223372036854775807) : Calls Try.prog 43 #[v] w (AnsBl w) := by
  have HV := Lib.hid h
  obtain ⟨A, c, rfl, hc, hr⟩ := h
  clear hr
  go_enter Try.func43, Try.ntmps43
  go_wp2_with fail
  refine (cur_pick (w.heap.size + 1) 0 800 _ (cur_start (by (repeat (first | with_reducible exact Below.refl _ _ | with_reducible assumption | with_reducible refine up_alloc ?_ _ | with_reducible refine up_drew ?_ | with_reducible refine up_drewN ?_ _ | (with_reducible refine up_set ?_ ?hset _; case hset => first | (simp; done) | (simp; omega) | omega) | with_reducible refine up_trans ?_ (by with_reducible assumption)))) HV.out hn (by simp) _) (by omega) (by omega)).mono ?_
  rintro e w1 ⟨x, rfl, hx, hc1, ht1⟩
  have hR : RBox w1 w.heap.size := RBox.turn ⟨⟨0, 0, by simp [go_sem], by simp [go_sem]⟩, (fun o => by simp [go_sem]), by simp; omega⟩ ht1 (by omega)
  have hW1 : Below w.heap.size w w1 := turned_old (by (repeat (first | with_reducible exact Below.refl _ _ | with_reducible assumption | with_reducible refine up_alloc ?_ _ | with_reducible refine up_drew ?_ | with_reducible refine up_drewN ?_ _ | (with_reducible refine up_set ?_ ?hset _; case hset => first | (simp; done) | (simp; omega) | omega) | with_reducible refine up_trans ?_ (by with_reducible assumption)))) ht1 (by omega)
  clear ht1
  go_wp2_with fail
  refine (cur_pick _ _ 300 _ hc1 (by omega) (by omega)).mono ?_
  rintro e w2 ⟨y, rfl, hy, hc2, ht2⟩
  have hl2 := hc2.lt
  go_wp2_with fail
  refine (cur_among _ _ _ 2 (0) 13 _ (hc2.up (below_alloc _ _)) (by omega) (by omega) (by omega) hl2 (by intro i hi; match i, hi with | 0, _ => exact ⟨0, by simp [go_sem], by omega, by omega⟩ | 1, _ => exact ⟨13, by simp [go_sem], by omega, by omega⟩ | (q + 2), hi => omega)).mono ?_
  rintro e w3 ⟨a, rfl, ha, hc3, ht3⟩
  have hl3 := hc3.lt
  go_wp2_with fail
  refine (cur_among _ _ _ 6 (0) 13 _ (hc3.up (below_alloc _ _)) (by omega) (by omega) (by omega) hl3 (by intro i hi; match i, hi with | 0, _ => exact ⟨1, by simp [go_sem], by omega, by omega⟩ | 1, _ => exact ⟨2, by simp [go_sem], by omega, by omega⟩ | 2, _ => exact ⟨3, by simp [go_sem], by omega, by omega⟩ | 3, _ => exact ⟨4, by simp [go_sem], by omega, by omega⟩ | 4, _ => exact ⟨12, by simp [go_sem], by omega, by omega⟩ | 5, _ => exact ⟨a, by simp [go_sem], by omega, by omega⟩ | (q + 6), hi => omega)).mono ?_
  rintro e w4 ⟨b, rfl, hb, hc4, ht4⟩
  have hl4 := hc4.lt
  have ht24 := (((ht2.trans (Turned.of_below (below_alloc _ _))).trans ht3).trans (Turned.of_below (below_alloc _ _))).trans ht4
  go_wp2_with fail
  refine (cur_among _ _ _ 2 (0) 13 _ (hc4.up (below_alloc _ _)) (by omega) (by omega) (by omega) hl4 (by intro i hi; match i, hi with | 0, _ => exact ⟨0, by simp [go_sem], by omega, by omega⟩ | 1, _ => exact ⟨13, by simp [go_sem], by omega, by omega⟩ | (q + 2), hi => omega)).mono ?_
  rintro e w5 ⟨a', rfl, ha', hc5, ht5⟩
  have hl5 := hc5.lt
  go_wp2_with fail
  refine (cur_among _ _ _ 6 (0) 13 _ (hc5.up (below_alloc _ _)) (by omega) (by omega) (by omega) hl5 (by intro i hi; match i, hi with | 0, _ => exact ⟨1, by simp [go_sem], by omega, by omega⟩ | 1, _ => exact ⟨2, by simp [go_sem], by omega, by omega⟩ | 2, _ => exact ⟨3, by simp [go_sem], by omega, by omega⟩ | 3, _ => exact ⟨4, by simp [go_sem], by omega, by omega⟩ | 4, _ => exact ⟨12, by simp [go_sem], by omega, by omega⟩ | 5, _ => exact ⟨a', by simp [go_sem], by omega, by omega⟩ | (q + 6), hi => omega)).mono ?_
  rintro e w6 ⟨b', rfl, hb', hc6, ht6⟩
  have ht26 := (((ht24.trans (Turned.of_below (below_alloc _ _))).trans ht5).trans (Turned.of_below (below_alloc _ _))).trans ht6
  go_wp2_with fail
  refine (cur_gap _ _ _ hc6 (by omega)).mono ?_
  rintro e w7 ⟨fx, rfl, hfx, hc7, ht7⟩
  go_wp2_with fail
  refine (cur_gap _ _ _ hc7 (by omega)).mono ?_
  rintro e w8 ⟨fy, rfl, hfy, hc8, ht8⟩
  have ht28 := (ht26.trans ht7).trans ht8
  have hR8 := hR.turn ht28 (by omega)
  have hW8 := turned_old hW1 ht28 (by omega)
  obtain ⟨⟨a0, a1, r0, r1⟩, rf, _⟩ := id hR8
  have rf0 := rf 0
  have rf1 := rf 1
  clear rf
  obtain ⟨e0, e1⟩ := hR8.put (.int .i64 (200 + (x : Int))) (.int .i64 (200 + (y : Int)))
  have hb9 := hW8.trans (put_below (Nat.le_refl w.heap.size) (.int .i64 (200 + (x : Int))) (.int .i64 (200 + (y : Int))))
  go_wp2_with fail
  generalize World.setCell (World.setCell w8 _ _) _ _ = w9 at *
  refine bodyPost_ret (v := .tuple #[.agg #[.int .i64 (200 + (x : Int)), .int .i64 (200 + (y : Int))], .int .i64 b, .int .i64 b', .int .i64 fx, .int .i64 fy]) (by simp [results, Try.results43, go_sem, e0, e1]) rfl ?_
  exact ⟨_, _, b, b', fx, fy, rfl, hb9⟩
set_option maxRecDepth 100000 in
set_option maxHeartbeats 8000000 in
theorem drawPolyLine_g (v : Value) (n : Nat) (w : World) (h : Bytes w v n) (hn : n ≤ 9223372036854775807) : Calls Try.prog 49 #[v] w (AnsDI w) := by
  have HV := Lib.hid h
  obtain ⟨A, c, rfl, hc, hr⟩ := h
  clear hr
  go_enter Try.func49, Try.ntmps49
  go_wp2_with fail
  refine (cur_anySpot w.heap.size 0 _ (cur_start (Below.refl _ _) HV.out hn rfl _) (by omega)).mono ?_
  rintro e w1 ⟨x, y, rfl, hc1, ht1⟩
  have hW1 : Below w.heap.size w w1 := turned_old (by (repeat (first | with_reducible exact Below.refl _ _ | with_reducible assumption | with_reducible refine up_alloc ?_ _ | with_reducible refine up_drew ?_ | with_reducible refine up_drewN ?_ _ | (with_reducible refine up_set ?_ ?hset _; case hset => first | (simp; done) | (simp; omega) | omega) | with_reducible refine up_trans ?_ (by with_reducible assumption)))) ht1 (Nat.le_refl _)
  have hz1 : w.heap.size < w1.heap.size := hc1.lt
  clear ht1
  go_wp2_with fail
  generalize hWx : World.alloc w1 _ = W1
  have hb1 : Below w1.heap.size w1 W1 := by subst hWx; exact below_alloc _ _
  have HO1 := Lib.hid (show OwnR w1.heap.size W1 (.slice (some ⟨w1.heap.size, 0, none⟩) 1 1) 1 (fun _ => x) (fun _ => y) by subst hWx; exact OwnR.one (Nat.le_refl _) rfl rfl)
  have hcW := hc1.up hb1
  have hW2 := hW1.trans (hb1.mono (by omega))
  clear hWx hc1 hW1
  refine (cur_pick _ _ 5 _ hcW (by omega) (by omega)).mono ?_
  rintro e w2 ⟨k, rfl, hk, hc2, ht2⟩
  go_wp2_with fail
  refine (cur_one _ _ 16 _ hc2 (by omega) (by omega)).mono ?_
  rintro e w3 ⟨bq, rfl, hc3, ht3⟩
  have ht13 := ht2.trans ht3
  have HO3 := Lib.hid (HO1.out.turn ht13 (by omega))
  have hW3 := turned_old hW2 ht13 (Nat.le_refl _)
  have hs3 : w1.heap.size ≤ w3.heap.size := by have := ht13.size; have := hb1.size; omega
  clear ht2 ht3 ht13 HO1 hW2 hcW hc2
  have hz3 := hc3.lt
  go_upto_if 17 with fail
  go_cut [6] (fun s wx => ∃ p : Nat, s = .int .i64 p ∧ p ≤ 9 ∧ OwnR w1.heap.size wx (.slice (some ⟨w1.heap.size, 0, none⟩) 1 1) 1 (fun _ => x) (fun _ => y) ∧ CurAt wx w.heap.size 1000 ∧ Below w.heap.size w wx ∧ w1.heap.size ≤ wx.heap.size)
  case first =>
    cases bq with
    | false =>
      go_wp2_with fail
      go_meet
      exact ⟨1 + k, by simp, by omega, HO3.out, hc3.more (by omega), hW3, hs3⟩
    | true =>
      go_wp2_with fail
      refine (cur_among _ _ _ 3 1 9 _ (hc3.up (below_alloc _ _)) (by omega) (by omega) (by omega) hz3 (by intro i hi; match i, hi with | 0, _ => exact ⟨1, by simp [go_sem], by omega, by omega⟩ | 1, _ => exact ⟨8, by simp [go_sem], by omega, by omega⟩ | 2, _ => exact ⟨9, by simp [go_sem], by omega, by omega⟩ | (q + 3), hi => omega)).mono ?_
      rintro e w4 ⟨p, rfl, hp, hc4, ht4⟩
      have ht34 := (Turned.of_below (below_alloc _ _)).trans ht4
      go_wp2_with fail
      go_meet
      exact ⟨p.toNat, by rw [show ((p.toNat : Nat) : Int) = p by omega], by omega, HO3.out.turn ht34 (by omega), hc4.more (by omega), turned_old hW3 ht34 (Nat.le_refl _), by have := ht34.size; omega⟩
  case rest =>
  obtain ⟨p, rfl, hp, hO4, hc4, hW4, hz4⟩ := hcut
  obtain ⟨w4, rfl⟩ : ∃ W : World, W = wc := ⟨_, rfl⟩
  clear hc3 hW3 HO3
  go_wp2_with fail
  go_loopg [5] 10 (fun gk q wr => ∃ (m : Nat) (X Y : Nat → Int), (m = 1 ∨ m ≤ p) ∧ 1 ≤ m ∧ m + gk = 11 ∧ OwnR w1.heap.size wr q m X Y ∧ CurAt wr w.heap.size (1000 + 12 * m) ∧ Below w.heap.size w wr ∧ w1.heap.size ≤ wr.heap.size)
  case atStart => exact ⟨1, _, _, .inl rfl, by omega, by omega, hO4, hc4.more (by omega), hW4, hz4⟩
  case round =>
    obtain ⟨m, X, Y, hm, hm1, hmg, how, hcr, hWr, hzr⟩ := hrel
    obtain ⟨A5, c5, rfl, hmc, _⟩ := how.shape
    have HO := Lib.hid how
    clear how
    by_cases hlt : m < p
    · have jlt : (m : Int) < (p : Int) := by omega
      go_wp2_with fail
      refine (cur_spot _ _ _ hcr (by omega)).mono ?_
      rintro e w5 ⟨x5, y5, rfl, hc5, ht5⟩
      have hs5 := ht5.size
      have hW5 := turned_old hWr ht5 (Nat.le_refl _)
      have HO5 := Lib.hid ((HO.out.turn ht5 (by omega)).cong (X' := fun i => if i = m then x5 else X i) (Y' := fun i => if i = m then y5 else Y i) (fun i hi => by rw [if_neg (by omega)]) (fun i hi => by rw [if_neg (by omega)]))
      go_wp2_with (at_builtin; refine wpList_app_spot_e rfl (.tmp 25) (.tmp 28) rfl w1.heap.size _ m (fun i => if i = m then x5 else X i) (fun i => if i = m then y5 else Y i) rfl rfl (by simp) (OwnR.up HO5.out (Below.refl _ _)) (show w1.heap.size ≤ w5.heap.size by omega) (by omega) (if_pos rfl) (if_pos rfl) ?_; intro v8 w8 ho8 hb8)
      go_roundg (gk - 1)
      case measure => omega
      case rel => exact ⟨m + 1, _, _, .inr (by omega), by omega, by omega, ho8, (hc5.below hb8 hz1).more (by omega), hW5.trans (hb8.mono (by omega)), by have := hb8.size; omega⟩
    · have jlt : ¬ (m : Int) < (p : Int) := by omega
      go_wp2_with fail
      refine (cur_many _ _ _ hcr (by omega)).mono ?_
      rintro e w6 ⟨k6, rfl, hk6, hc6, ht6⟩
      go_wp2_with fail
      go_ret2
      exact ⟨_, m, X, Y, k6, rfl, (HO.out.turn ht6 (by omega)).ownS.spots, by omega, turned_old hWr ht6 (Nat.le_refl _)⟩
end Go.Proofs.Ytljbcfgecbonnaa
