/-
  The reference's draw of costs and numbers that may certify them.
-/
import Derived.Test.YtadlemadnifohaaRows
import Derived.Test.YtadlemadnifohaaBase
import Derived.Test.YtadlemadnifohaaSpot
import Derived.Test.YtadlemadnifohaaSlice
import Derived.Test.YtadlemadnifohaaLawS
import Derived.Test.YtadlemadnifohaaMark
import Derived.Test.YtadlemadnifohaaInts
import Derived.Test.YtadlemadnifohaaIntsL
import Derived.Test.YtadlemadnifohaaTurned
import Derived.Test.YtadlemadnifohaaTrans
import Derived.BigQuiet
import Derived.Test.YtadlemadnifohaaCur
import Derived.Test.YtadlemadnifohaaDrawP
import Derived.Test.YtadlemadnifohaaCopyI
import Derived.Test.YtadlemadnifohaaRowsI
import Derived.Test.YtadlemadnifohaaCosts
import Derived.Test.YtadlemadnifohaaRowB
import Derived.Test.YtadlemadnifohaaDrawN
import Derived.Deep.CutRange
import Derived.Deep.DeepCutAuto
import Derived.Test.YtadlemadnifohaaDrawC
import Derived.Test.YtadlemadnifohaaDrawM
import Derived.Test.YtadlemadnifohaaCert
namespace Go.Proofs.Ytadlemadnifohaa
open Go.RowKit Go.ChangeShapes Go.WideShapes Go.Sort

/-- Some n numbers in memory of its own. -/
def OwnE (base : Nat) (w : World) (v : Value) (n : Nat) : Prop := ∃ X, OwnI base w v n X
theorem OwnE.store {base : Nat} {w : World} {v : Value} {n : Nat} (h : OwnE base w v n) (b o : Nat) (z : Int) : OwnE base (w.setCell ⟨b, o, none⟩ (.int .i64 z)) v n := by
  obtain ⟨X, A, c, e, hc, hr⟩ := h
  subst e
  by_cases hn : 0 < n
  · obtain ⟨b', o', rfl, hb, hf, hrow⟩ := hr hn
    refine ⟨fun i => if b = b' ∧ o = o' + i then z else X i, _, _, rfl, hc, fun _ => ⟨b', o', rfl, hb, hf.set _ _, fun i hi => ?_⟩⟩
    dsimp only
    by_cases e : b = b' ∧ o = o' + i
    · obtain ⟨rfl, rfl⟩ := e
      rw [if_pos ⟨rfl, rfl⟩]
      exact cell_set_same _ _ _ _ _ (hrow i hi)
    · rw [if_neg e, cell_set_ne _ _ _ _ _ _ (by omega)]
      exact hrow i hi
  · exact ⟨X, _, _, rfl, hc, fun h => absurd h hn⟩
theorem OwnE.up {base : Nat} {w w' : World} {v : Value} {n : Nat} (h : OwnE base w v n) (hb : Below w.heap.size w w') : OwnE base w' v n := by
  obtain ⟨X, h⟩ := h
  exact ⟨X, h.up hb⟩
theorem OwnE.turn {base : Nat} {w w' : World} {v : Value} {n p : Nat} (h : OwnE base w v n) (ht : Turned p (p + 1) w w') (hp : p < base) : OwnE base w' v n := by
  obtain ⟨X, h⟩ := h
  exact ⟨X, h.turn ht (by omega)⟩
theorem OwnE.cells {base : Nat} {w : World} {v : Value} {n : Nat} (h : OwnE base w v n) (hn : 0 < n) : ∃ b o c X, v = .slice (some ⟨b, o, none⟩) n c ∧ base ≤ b ∧ Free w b ∧ Row1 w b o n X ∧ n ≤ c := by
  obtain ⟨X, A, c, e, hc, hr⟩ := h
  obtain ⟨b, o, rfl, hb, hf, hrow⟩ := hr hn
  exact ⟨b, o, c, X, e, hb, hf, hrow, hc⟩
theorem OwnE.shape {base : Nat} {w : World} {v : Value} {n : Nat} (h : OwnE base w v n) : ∃ A c, v = .slice A n c ∧ n ≤ c := by
  obtain ⟨X, A, c, e, hc, hr⟩ := h
  exact ⟨A, c, e, hc⟩
/-- The list without its first number. -/
theorem OwnE.tail {base : Nat} {w : World} {b o n c : Nat} (h : OwnE base w (.slice (some ⟨b, o, none⟩) n c) n) : OwnE base w (.slice (some ⟨b, o + 1, none⟩) (n - 1) (c - 1)) (n - 1) := by
  obtain ⟨X, A, c', e, hc, hr⟩ := h
  injection e with e1 _ e2
  subst e2
  refine ⟨fun i => X (i + 1), _, _, rfl, by omega, fun hn => ?_⟩
  obtain ⟨b', o', e, hb, hf, hrow⟩ := hr (by omega)
  rw [← e1] at e
  injection e with e
  injection e with e1 e2 _
  subst e1
  subst e2
  exact ⟨b, o + 1, rfl, hb, hf, fun i hi => by rw [show o + 1 + i = o + (i + 1) by omega]; exact hrow (i + 1) (by omega)⟩
theorem OwnE.more {base base' : Nat} {w : World} {v : Value} {n : Nat} (h : OwnE base w v n) (hb : base' ≤ base) : OwnE base' w v n := by
  obtain ⟨X, h⟩ := h
  exact ⟨X, h.more hb⟩
theorem ownE_made (w : World) (n : Nat) (t : TypeId) : OwnE w.heap.size (w.alloc (.cells (madeCells #[.int .i64 0] n) t)) (.slice (some ⟨w.heap.size, 0, none⟩) n n) n :=
  ⟨fun _ => 0, _, _, rfl, Nat.le_refl _, fun _ => ⟨_, 0, rfl, Nat.le_refl _, fun o => by simp [go_sem], row1_made w t n⟩⟩
theorem ownE_two (w : World) (n : Nat) (t : TypeId) : OwnE w.heap.size ((w.alloc (.cells (madeCells #[.int .i64 0] n) t)).alloc (.cells (madeCells #[.int .i64 0] n) t)).drew (.slice (some ⟨w.heap.size, 0, none⟩) n n) n ∧
    OwnE w.heap.size ((w.alloc (.cells (madeCells #[.int .i64 0] n) t)).alloc (.cells (madeCells #[.int .i64 0] n) t)).drew (.slice (some ⟨w.heap.size + 1, 0, none⟩) n n) n := by
  refine ⟨(ownE_made w n t).up (by (repeat (first | with_reducible exact Below.refl _ _ | with_reducible assumption | with_reducible refine up_alloc ?_ _ | with_reducible refine up_drew ?_ | with_reducible refine up_drewN ?_ _ | (with_reducible refine up_set ?_ ?hset _; case hset => first | (simp; done) | (simp; omega) | omega) | with_reducible refine up_trans ?_ (by with_reducible assumption)))), ?_⟩
  have := (ownE_made (w.alloc (.cells (madeCells #[.int .i64 0] n) t)) n t).up (w' := ((w.alloc (.cells (madeCells #[.int .i64 0] n) t)).alloc (.cells (madeCells #[.int .i64 0] n) t)).drew) (by (repeat (first | with_reducible exact Below.refl _ _ | with_reducible assumption | with_reducible refine up_alloc ?_ _ | with_reducible refine up_drew ?_ | with_reducible refine up_drewN ?_ _ | (with_reducible refine up_set ?_ ?hset _; case hset => first | (simp; done) | (simp; omega) | omega) | with_reducible refine up_trans ?_ (by with_reducible assumption))))
  simp only [World.size_alloc] at this
  exact this.more (by omega)
def AnsDrawC (w : World) (e : Ending) (w' : World) : Prop := ∃ v n R F r X m c Y, e = .returned (.tuple #[v, r, c]) ∧ IRows w' v n R F ∧ Ints w' r n X ∧ Ints w' c m Y ∧ m ≤ n ∧ n ≤ 13 ∧ (∀ i, i < n → R i ≤ 14) ∧ Below w.heap.size w w'
set_option maxRecDepth 100000 in
set_option maxHeartbeats 8000000 in
theorem drawIsCertificate_g (v : Value) (n : Nat) (w : World) (h : Bytes w v n) (hn : n ≤ 9223372036854775807) : Calls Try.prog 27 #[v] w (AnsDrawC w) := by
  obtain ⟨A, c, rfl, hc, hr⟩ := h
  have HC := Lib.hid (fun t => curAt_new ⟨A, c, rfl, hc, hr⟩ hn t)
  clear hr
  go_enter Try.func27, Try.ntmps27
  go_wp2_with fail
  refine (cur_costs w.heap.size 0 _ (HC.out _) (by omega)).mono ?_
  rintro e w1 ⟨v1, n1, R, F, L, rfl, ho, hn1, hR, hc1, ht1⟩
  have hp1 : w.heap.size < w1.heap.size := hc1.lt
  obtain ⟨A1, c1, e1, _⟩ := ho.shape
  subst e1
  have HOO := Lib.hid ho
  have HRR := Lib.hid hR
  have HG := Lib.hid (fun W (hW : IRows W (.slice A1 n1 c1) n1 R F) => maGood_g (.slice A1 n1 c1) n1 R F W hW (by omega) (fun i hi => by have := hR i hi; omega))
  have HCe := Lib.hid (fun W (hW : IRows W (.slice A1 n1 c1) n1 R F) => sLeastCertificate_g (.slice A1 n1 c1) n1 R F W hW (by omega) (fun i hi => by have := hR i hi; omega))
  clear ho hR
  obtain ⟨i0, hi0, hz0, hz1, hz2⟩ := info_parts info_int
  have hmk : ∀ W : World, (Instr.makeSlice 25 (.int .i64 (n1 : Int)) (.int .i64 (n1 : Int))).run Try.prog W = .ok (.slice (some ⟨W.heap.size, 0, none⟩) n1 n1) (W.alloc (.cells (madeCells #[.int .i64 0] n1) 3)) := fun W => by
    have := run_make_rowN (P := Try.prog) 25 3 i0 _ Try.underlying25 hi0 hz0 .i64 .i64 n1 n1 (Nat.le_refl _) (by rw [hz2]; omega) (by omega) W
    rw [this, hz1, Nat.mul_one]; rfl
  clear hi0 hz0 hz1 hz2 i0
  go_upto_region 3 with fail
  go_cut [7, 8] (fun p q wx => OwnE w1.heap.size wx p n1 ∧ OwnE w1.heap.size wx q n1 ∧ CurAt wx w.heap.size 500 ∧ Turned w.heap.size (w.heap.size + 1) w1 wx)
  case first =>
    go_region
    all_goals
      go_wp2_with fail
      go_meet
      obtain ⟨m1, m2⟩ := ownE_two w1 n1 3
      first
        | exact ⟨m1, m2, (hc1.more (by omega)).up (by (repeat (first | with_reducible exact Below.refl _ _ | with_reducible assumption | with_reducible refine up_alloc ?_ _ | with_reducible refine up_drew ?_ | with_reducible refine up_drewN ?_ _ | (with_reducible refine up_set ?_ ?hset _; case hset => first | (simp; done) | (simp; omega) | omega) | with_reducible refine up_trans ?_ (by with_reducible assumption)))), Turned.of_below (by (repeat (first | with_reducible exact Below.refl _ _ | with_reducible assumption | with_reducible refine up_alloc ?_ _ | with_reducible refine up_drew ?_ | with_reducible refine up_drewN ?_ _ | (with_reducible refine up_set ?_ ?hset _; case hset => first | (simp; done) | (simp; omega) | omega) | with_reducible refine up_trans ?_ (by with_reducible assumption))))⟩
        | exact ⟨m2, m1, (hc1.more (by omega)).up (by (repeat (first | with_reducible exact Below.refl _ _ | with_reducible assumption | with_reducible refine up_alloc ?_ _ | with_reducible refine up_drew ?_ | with_reducible refine up_drewN ?_ _ | (with_reducible refine up_set ?_ ?hset _; case hset => first | (simp; done) | (simp; omega) | omega) | with_reducible refine up_trans ?_ (by with_reducible assumption)))), Turned.of_below (by (repeat (first | with_reducible exact Below.refl _ _ | with_reducible assumption | with_reducible refine up_alloc ?_ _ | with_reducible refine up_drew ?_ | with_reducible refine up_drewN ?_ _ | (with_reducible refine up_set ?_ ?hset _; case hset => first | (simp; done) | (simp; omega) | omega) | with_reducible refine up_trans ?_ (by with_reducible assumption))))⟩
  case rest =>
  obtain ⟨hr0, hk0, hc2, ht2⟩ := hcut
  obtain ⟨Ar, cr, er, _⟩ := hr0.shape
  subst er
  obtain ⟨Ak, ck, ek, _⟩ := hk0.shape
  subst ek
  have HR0 := Lib.hid hr0
  have HK0 := Lib.hid hk0
  clear hr0 hk0
  obtain ⟨w2, rfl⟩ : ∃ W : World, W = wc := ⟨_, rfl⟩
  have HI2 := Lib.hid ((HOO.out.turn ht2 (by simp)).irows)
  cases hq : acB n1 R F with
  | false =>
    have HG2 := Lib.hid (HG.out w2 HI2.out)
    rw [hq] at HG2
    clear hq
    go_upto_if 27 with (go_at_call 35; refine HG2.out.mono ?_; rintro e w3 ⟨rfl, hb3⟩; have hc3 := hc2.up hb3)
    have ht3 := ht2.trans (Turned.of_below hb3)
    have HR3 := Lib.hid (HR0.out.up hb3)
    have HK3 := Lib.hid (HK0.out.up hb3)
    by_cases h0 : n1 = 0
    · subst h0
      go_wp2_with fail
      go_ret3
      obtain ⟨X9, hX9⟩ := HR3.out
      obtain ⟨Y9, hY9⟩ := HK3.out
      exact ⟨_, 0, R, F, _, X9, 0, _, Y9, rfl, (HOO.out.turn ht3 (by simp)).irows, hX9.ints, hY9.ints, by omega, hn1, HRR.out, cur_below (ht1.trans ht3)⟩
    · have j1 : (n1 : Int) > 0 := by omega
      obtain ⟨br, or, cr', Xr, er, hbr, hfr, hrow, hcr⟩ := HR3.out.cells (by omega)
      injection er with er1 _ er2
      subst er1
      subst er2
      obtain ⟨bk, ok, ck', Xk, ek, hbk, hfk, hkow, hck⟩ := HK3.out.cells (by omega)
      injection ek with ek1 _ ek2
      subst ek1
      subst ek2
      have HRow := Lib.hid hrow
      have HKow := Lib.hid hkow
      have HFr := Lib.hid hfr
      have HFk := Lib.hid hfk
      have hltr := hrow.lt (by omega)
      have hltk := hkow.lt (by omega)
      clear hrow hkow hfr hfk
      go_wp2_with fail
      refine (cur_pick w.heap.size _ n1 _ hc3 (by omega) (by omega)).mono ?_
      rintro e w5 ⟨I, rfl, hI, hc5, ht5⟩
      have hIn : I < n1 := by omega
      have jI : (I : Int) < (n1 : Int) := by omega
      have hs5 := ht5.size
      go_wp2_with fail
      refine (cur_pick w.heap.size _ 8 _ hc5 (by omega) (by omega)).mono ?_
      rintro e w6 ⟨y, rfl, hy, hc6, ht6⟩
      have ht7 := (ht3.trans ht5).trans ht6
      have ht56 := ht5.trans ht6
      have hs6 := ht56.size
      have HR6 := Lib.hid (HR3.out.turn ht56 hp1)
      have HK6 := Lib.hid (HK3.out.turn ht56 hp1)
      by_cases y0 : y = 0
      · subst y0
        have c6 := ht56.cell (HRow.out I hIn) (by omega)
        have f6 := ht56.free HFr.out hltr (by omega) (or + I)
        go_wp2_with fail
        have hb9 : ∀ z, Below w1.heap.size w6 (w6.setCell ⟨br, or + I, none⟩ (.int .i64 z)) := fun z => (Below.refl _ _).setCell hbr _
        go_ret3
        obtain ⟨X9, hX9⟩ := HR6.out.store br (or + I) _
        obtain ⟨Y9, hY9⟩ := HK6.out.store br (or + I) _
        exact ⟨_, n1, R, F, _, X9, n1, _, Y9, rfl, (HOO.out.turn (ht7.far (hb9 _)) (by simp)).irows, hX9.ints, hY9.ints, by omega, hn1, HRR.out, cur_below (ht1.trans (ht7.far (hb9 _)))⟩
      · have jy0 : ¬ (y : Int) = 0 := by omega
        by_cases y1 : y = 1
        · subst y1
          have c6 := ht56.cell (HKow.out I hIn) (by omega)
          have f6 := ht56.free HFk.out hltk (by omega) (ok + I)
          go_wp2_with fail
          have hb9 : ∀ z, Below w1.heap.size w6 (w6.setCell ⟨bk, ok + I, none⟩ (.int .i64 z)) := fun z => (Below.refl _ _).setCell hbk _
          go_ret3
          obtain ⟨X9, hX9⟩ := HR6.out.store bk (ok + I) _
          obtain ⟨Y9, hY9⟩ := HK6.out.store bk (ok + I) _
          exact ⟨_, n1, R, F, _, X9, n1, _, Y9, rfl, (HOO.out.turn (ht7.far (hb9 _)) (by simp)).irows, hX9.ints, hY9.ints, by omega, hn1, HRR.out, cur_below (ht1.trans (ht7.far (hb9 _)))⟩
        · have jy1 : ¬ (y : Int) = 1 := by omega
          by_cases y2 : y = 2
          · subst y2
            have hpl : w.heap.size < w6.heap.size := hc6.lt
            go_wp2_with fail
            refine (cur_among w.heap.size _ _ 4 (-2100001) 2100001 _ (hc6.up (below_alloc _ _)) (by omega) (by omega) (by omega) hpl (by intro i hi; match i, hi with | 0, _ => exact ⟨(-2100000), by simp [go_sem], by omega, by omega⟩ | 1, _ => exact ⟨(-2100001), by simp [go_sem], by omega, by omega⟩ | 2, _ => exact ⟨2100000, by simp [go_sem], by omega, by omega⟩ | 3, _ => exact ⟨2100001, by simp [go_sem], by omega, by omega⟩ | (q + 4), hi => omega)).mono ?_
            rintro e w9 ⟨z, rfl, hz, hc9, ht12⟩
            have hta := (Turned.of_below (lo := w.heap.size) (hi := w.heap.size + 1) (below_alloc w6 _)).trans ht12
            have ht13 := ht7.trans hta
            have HR9 := Lib.hid ((HR6.out.up (below_alloc _ _)).turn ht12 hp1)
            have HK9 := Lib.hid ((HK6.out.up (below_alloc _ _)).turn ht12 hp1)
            have c9 := (ht56.trans hta).cell (HRow.out I hIn) (by omega)
            have f9 := (ht56.trans hta).free HFr.out hltr (by omega) (or + I)
            go_wp2_with fail
            have hb9 : ∀ z, Below w1.heap.size w9 (w9.setCell ⟨br, or + I, none⟩ (.int .i64 z)) := fun z => (Below.refl _ _).setCell hbr _
            go_ret3
            obtain ⟨X9, hX9⟩ := HR9.out.store br (or + I) _
            obtain ⟨Y9, hY9⟩ := HK9.out.store br (or + I) _
            exact ⟨_, n1, R, F, _, X9, n1, _, Y9, rfl, (HOO.out.turn (ht13.far (hb9 _)) (by simp)).irows, hX9.ints, hY9.ints, by omega, hn1, HRR.out, cur_below (ht1.trans (ht13.far (hb9 _)))⟩
          · have jy2 : ¬ (y : Int) = 2 := by omega
            by_cases y3 : y = 3
            · subst y3
              go_wp2_with fail
              refine (cur_one w.heap.size _ 3 _ hc6 (by omega) (by omega)).mono ?_
              rintro e w9 ⟨q9, rfl, hc9, ht12⟩
              have ht13 := ht7.trans ht12
              have HR9 := Lib.hid (HR6.out.turn ht12 hp1)
              have HK9 := Lib.hid (HK6.out.turn ht12 hp1)
              cases q9 with
              | false =>
                go_wp2_with fail
                go_ret3
                obtain ⟨X9, hX9⟩ := HR9.out
                obtain ⟨Y9, hY9⟩ := HK9.out
                exact ⟨_, n1, R, F, _, X9, n1, _, Y9, rfl, (HOO.out.turn ht13 (by simp)).irows, hX9.ints, hY9.ints, by omega, hn1, HRR.out, cur_below (ht1.trans ht13)⟩
              | true =>
                have jn1 : (1 : Int) ≤ (n1 : Int) := by omega
                by_cases hck1 : ck = 1
                · have hn11 : n1 = 1 := by omega
                  subst hck1
                  subst hn11
                  go_wp2_with fail
                  go_ret3
                  obtain ⟨X9, hX9⟩ := HR9.out
                  exact ⟨_, 1, R, F, _, X9, 0, _, fun _ => 0, rfl, (HOO.out.turn ht13 (by simp)).irows, hX9.ints, ⟨_, _, rfl, by omega, fun h => absurd h (by omega)⟩, by omega, hn1, HRR.out, cur_below (ht1.trans ht13)⟩
                · have HT := Lib.hid HK9.out.tail
                  have jc1 : (1 : Int) ≤ (ck : Int) := by omega
                  go_wp2_with fail
                  go_ret3
                  obtain ⟨X9, hX9⟩ := HR9.out
                  obtain ⟨Y9, hY9⟩ := HT.out
                  exact ⟨_, n1, R, F, _, X9, (n1 - 1), _, Y9, rfl, (HOO.out.turn ht13 (by simp)).irows, hX9.ints, hY9.ints, by omega, hn1, HRR.out, cur_below (ht1.trans ht13)⟩
            · have jy3 : ¬ (y : Int) = 3 := by omega
              go_wp2_with fail
              go_ret3
              obtain ⟨X9, hX9⟩ := HR6.out
              obtain ⟨Y9, hY9⟩ := HK6.out
              exact ⟨_, n1, R, F, _, X9, n1, _, Y9, rfl, (HOO.out.turn ht7 (by simp)).irows, hX9.ints, hY9.ints, by omega, hn1, HRR.out, cur_below (ht1.trans ht7)⟩
  | true =>
    have HG2 := Lib.hid (HG.out w2 HI2.out)
    have HCe2 := HCe
    rw [hq] at HG2 HCe2
    clear hq
    go_upto_if 27 with (first
      | (go_at_call 35; refine HG2.out.mono ?_; rintro e w3 ⟨rfl, hb3⟩; have hc3 := hc2.up hb3)
      | (go_at_call 54; refine (cur_one w.heap.size _ 4 _ hc3 (by omega) (by omega)).mono ?_; rintro e w4 ⟨q4, rfl, hc4, ht4⟩))
    have ht5 := (ht2.trans (Turned.of_below hb3)).trans ht4
    have HR4 := Lib.hid ((HR0.out.up hb3).turn ht4 hp1)
    have HK4 := Lib.hid ((HK0.out.up hb3).turn ht4 hp1)
    go_cut [7, 8] (fun p q wx => OwnE w1.heap.size wx p n1 ∧ OwnE w1.heap.size wx q n1 ∧ CurAt wx w.heap.size 502 ∧ Turned w.heap.size (w.heap.size + 1) w1 wx)
    case first =>
      cases q4 with
      | true =>
        go_wp2_with fail
        go_meet
        exact ⟨HR4.out, HK4.out, hc4, ht5⟩
      | false =>
        go_wp2_with fail
        refine (HCe2.out w4 ((HOO.out.turn ht5 (by simp)).irows)).mono ?_
        rintro e w6 ⟨u6, v6, wm, rfl, hv6, hbm, hu6, hb6⟩
        have hs4 := ht5.size
        have hsm := hbm.size
        have hb64 := up_trans hbm hb6
        go_wp2_with fail
        go_meet
        exact ⟨⟨_, hu6.more (by omega)⟩, ⟨_, (hv6.up hb6).more (by omega)⟩, hc4.up hb64, ht5.trans (Turned.of_below hb64)⟩
    case rest =>
    obtain ⟨hr5, hk5, hcB, htB⟩ := hcut
    clear HR0 HK0 HR4 HK4 hc4 hc3 hc2 ht4 ht5
    obtain ⟨Ar, cr, er, _⟩ := hr5.shape
    subst er
    obtain ⟨Ak, ck, ek, _⟩ := hk5.shape
    subst ek
    have HR5 := Lib.hid hr5
    have HK5 := Lib.hid hk5
    clear hr5 hk5
    by_cases h0 : n1 = 0
    · subst h0
      go_wp2_with fail
      go_ret3
      obtain ⟨X9, hX9⟩ := HR5.out
      obtain ⟨Y9, hY9⟩ := HK5.out
      exact ⟨_, 0, R, F, _, X9, 0, _, Y9, rfl, (HOO.out.turn htB (by simp)).irows, hX9.ints, hY9.ints, by omega, hn1, HRR.out, cur_below (ht1.trans htB)⟩
    · have j1 : (n1 : Int) > 0 := by omega
      obtain ⟨br, or, cr', Xr, er, hbr, hfr, hrow, hcr⟩ := HR5.out.cells (by omega)
      injection er with er1 _ er2
      subst er1
      subst er2
      obtain ⟨bk, ok, ck', Xk, ek, hbk, hfk, hkow, hck⟩ := HK5.out.cells (by omega)
      injection ek with ek1 _ ek2
      subst ek1
      subst ek2
      have HRow := Lib.hid hrow
      have HKow := Lib.hid hkow
      have HFr := Lib.hid hfr
      have HFk := Lib.hid hfk
      have hltr := hrow.lt (by omega)
      have hltk := hkow.lt (by omega)
      clear hrow hkow hfr hfk
      go_wp2_with fail
      refine (cur_pick w.heap.size _ n1 _ hcB (by omega) (by omega)).mono ?_
      rintro e w5 ⟨I, rfl, hI, hc5, ht5⟩
      have hIn : I < n1 := by omega
      have jI : (I : Int) < (n1 : Int) := by omega
      have hs5 := ht5.size
      go_wp2_with fail
      refine (cur_pick w.heap.size _ 8 _ hc5 (by omega) (by omega)).mono ?_
      rintro e w6 ⟨y, rfl, hy, hc6, ht6⟩
      have ht7 := (htB.trans ht5).trans ht6
      have ht56 := ht5.trans ht6
      have hs6 := ht56.size
      have HR6 := Lib.hid (HR5.out.turn ht56 hp1)
      have HK6 := Lib.hid (HK5.out.turn ht56 hp1)
      by_cases y0 : y = 0
      · subst y0
        have c6 := ht56.cell (HRow.out I hIn) (by omega)
        have f6 := ht56.free HFr.out hltr (by omega) (or + I)
        go_wp2_with fail
        have hb9 : ∀ z, Below w1.heap.size w6 (w6.setCell ⟨br, or + I, none⟩ (.int .i64 z)) := fun z => (Below.refl _ _).setCell hbr _
        go_ret3
        obtain ⟨X9, hX9⟩ := HR6.out.store br (or + I) _
        obtain ⟨Y9, hY9⟩ := HK6.out.store br (or + I) _
        exact ⟨_, n1, R, F, _, X9, n1, _, Y9, rfl, (HOO.out.turn (ht7.far (hb9 _)) (by simp)).irows, hX9.ints, hY9.ints, by omega, hn1, HRR.out, cur_below (ht1.trans (ht7.far (hb9 _)))⟩
      · have jy0 : ¬ (y : Int) = 0 := by omega
        by_cases y1 : y = 1
        · subst y1
          have c6 := ht56.cell (HKow.out I hIn) (by omega)
          have f6 := ht56.free HFk.out hltk (by omega) (ok + I)
          go_wp2_with fail
          have hb9 : ∀ z, Below w1.heap.size w6 (w6.setCell ⟨bk, ok + I, none⟩ (.int .i64 z)) := fun z => (Below.refl _ _).setCell hbk _
          go_ret3
          obtain ⟨X9, hX9⟩ := HR6.out.store bk (ok + I) _
          obtain ⟨Y9, hY9⟩ := HK6.out.store bk (ok + I) _
          exact ⟨_, n1, R, F, _, X9, n1, _, Y9, rfl, (HOO.out.turn (ht7.far (hb9 _)) (by simp)).irows, hX9.ints, hY9.ints, by omega, hn1, HRR.out, cur_below (ht1.trans (ht7.far (hb9 _)))⟩
        · have jy1 : ¬ (y : Int) = 1 := by omega
          by_cases y2 : y = 2
          · subst y2
            have hpl : w.heap.size < w6.heap.size := hc6.lt
            go_wp2_with fail
            refine (cur_among w.heap.size _ _ 4 (-2100001) 2100001 _ (hc6.up (below_alloc _ _)) (by omega) (by omega) (by omega) hpl (by intro i hi; match i, hi with | 0, _ => exact ⟨(-2100000), by simp [go_sem], by omega, by omega⟩ | 1, _ => exact ⟨(-2100001), by simp [go_sem], by omega, by omega⟩ | 2, _ => exact ⟨2100000, by simp [go_sem], by omega, by omega⟩ | 3, _ => exact ⟨2100001, by simp [go_sem], by omega, by omega⟩ | (q + 4), hi => omega)).mono ?_
            rintro e w9 ⟨z, rfl, hz, hc9, ht12⟩
            have hta := (Turned.of_below (lo := w.heap.size) (hi := w.heap.size + 1) (below_alloc w6 _)).trans ht12
            have ht13 := ht7.trans hta
            have HR9 := Lib.hid ((HR6.out.up (below_alloc _ _)).turn ht12 hp1)
            have HK9 := Lib.hid ((HK6.out.up (below_alloc _ _)).turn ht12 hp1)
            have c9 := (ht56.trans hta).cell (HRow.out I hIn) (by omega)
            have f9 := (ht56.trans hta).free HFr.out hltr (by omega) (or + I)
            go_wp2_with fail
            have hb9 : ∀ z, Below w1.heap.size w9 (w9.setCell ⟨br, or + I, none⟩ (.int .i64 z)) := fun z => (Below.refl _ _).setCell hbr _
            go_ret3
            obtain ⟨X9, hX9⟩ := HR9.out.store br (or + I) _
            obtain ⟨Y9, hY9⟩ := HK9.out.store br (or + I) _
            exact ⟨_, n1, R, F, _, X9, n1, _, Y9, rfl, (HOO.out.turn (ht13.far (hb9 _)) (by simp)).irows, hX9.ints, hY9.ints, by omega, hn1, HRR.out, cur_below (ht1.trans (ht13.far (hb9 _)))⟩
          · have jy2 : ¬ (y : Int) = 2 := by omega
            by_cases y3 : y = 3
            · subst y3
              go_wp2_with fail
              refine (cur_one w.heap.size _ 3 _ hc6 (by omega) (by omega)).mono ?_
              rintro e w9 ⟨q9, rfl, hc9, ht12⟩
              have ht13 := ht7.trans ht12
              have HR9 := Lib.hid (HR6.out.turn ht12 hp1)
              have HK9 := Lib.hid (HK6.out.turn ht12 hp1)
              cases q9 with
              | false =>
                go_wp2_with fail
                go_ret3
                obtain ⟨X9, hX9⟩ := HR9.out
                obtain ⟨Y9, hY9⟩ := HK9.out
                exact ⟨_, n1, R, F, _, X9, n1, _, Y9, rfl, (HOO.out.turn ht13 (by simp)).irows, hX9.ints, hY9.ints, by omega, hn1, HRR.out, cur_below (ht1.trans ht13)⟩
              | true =>
                have jn1 : (1 : Int) ≤ (n1 : Int) := by omega
                by_cases hck1 : ck = 1
                · have hn11 : n1 = 1 := by omega
                  subst hck1
                  subst hn11
                  go_wp2_with fail
                  go_ret3
                  obtain ⟨X9, hX9⟩ := HR9.out
                  exact ⟨_, 1, R, F, _, X9, 0, _, fun _ => 0, rfl, (HOO.out.turn ht13 (by simp)).irows, hX9.ints, ⟨_, _, rfl, by omega, fun h => absurd h (by omega)⟩, by omega, hn1, HRR.out, cur_below (ht1.trans ht13)⟩
                · have HT := Lib.hid HK9.out.tail
                  have jc1 : (1 : Int) ≤ (ck : Int) := by omega
                  go_wp2_with fail
                  go_ret3
                  obtain ⟨X9, hX9⟩ := HR9.out
                  obtain ⟨Y9, hY9⟩ := HT.out
                  exact ⟨_, n1, R, F, _, X9, (n1 - 1), _, Y9, rfl, (HOO.out.turn ht13 (by simp)).irows, hX9.ints, hY9.ints, by omega, hn1, HRR.out, cur_below (ht1.trans ht13)⟩
            · have jy3 : ¬ (y : Int) = 3 := by omega
              go_wp2_with fail
              go_ret3
              obtain ⟨X9, hX9⟩ := HR6.out
              obtain ⟨Y9, hY9⟩ := HK6.out
              exact ⟨_, n1, R, F, _, X9, n1, _, Y9, rfl, (HOO.out.turn ht7 (by simp)).irows, hX9.ints, hY9.ints, by omega, hn1, HRR.out, cur_below (ht1.trans ht7)⟩
end Go.Proofs.Ytadlemadnifohaa
