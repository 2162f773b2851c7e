/-
  The reference's draws of charts, mostly valid ones.
-/
import Derived.Test.YtljbcfgecbonnaaRows
import Derived.Test.YtljbcfgecbonnaaBase
import Derived.Test.YtljbcfgecbonnaaSpot
import Derived.Test.YtljbcfgecbonnaaSlice
import Derived.Test.YtljbcfgecbonnaaLawS
import Derived.Test.YtljbcfgecbonnaaMark
import Derived.Test.YtljbcfgecbonnaaInts
import Derived.Test.YtljbcfgecbonnaaIntsL
import Derived.Test.YtljbcfgecbonnaaTurned
import Derived.Test.YtljbcfgecbonnaaTrans
import Derived.BigQuiet
import Derived.Test.YtljbcfgecbonnaaCur
import Derived.Test.YtljbcfgecbonnaaDrawP
import Derived.Test.YtljbcfgecbonnaaOpen
import Derived.Test.YtljbcfgecbonnaaDrawV
import Derived.Test.YtljbcfgecbonnaaAppend
import Derived.Test.YtljbcfgecbonnaaAppendE
import Derived.Test.YtljbcfgecbonnaaSameForm
import Derived.Deep.LoopGhost
import Derived.Deep.Onto
import Derived.Deep.CutRange
import Derived.Deep.DeepCutAuto
import Derived.Deep.RegionHeld3
import Derived.Test.YtljbcfgecbonnaaDrawW
namespace Go.Proofs.Ytljbcfgecbonnaa
open Go.RowKit Go.ChangeShapes Go.WideShapes Go.Sort

/-- Some n spots in memory of its own. -/
def OwnSE (base : Nat) (w : World) (v : Value) (n : Nat) : Prop := ∃ X Y, OwnS base w v n X Y
theorem OwnSE.store {base : Nat} {w : World} {v : Value} {n : Nat} (h : OwnSE base w v n) (b o : Nat) (z : Int) : OwnSE base (w.setCell ⟨b, o, none⟩ (.int .i64 z)) v n := by
  obtain ⟨X, Y, A, c, e, hc, hr⟩ := h
  subst e
  by_cases hn : 0 < n
  · obtain ⟨b', o', rfl, hb, hf, hrow⟩ := hr hn
    refine ⟨fun i => if b = b' ∧ o = o' + i * 2 then z else X i, fun i => if b = b' ∧ o = o' + i * 2 + 1 then z else Y i, _, _, rfl, hc, fun _ => ⟨b', o', rfl, hb, hf.set _ _, fun i hi => ⟨?_, ?_⟩⟩⟩
    · dsimp only
      by_cases e : b = b' ∧ o = o' + i * 2
      · obtain ⟨rfl, rfl⟩ := e
        rw [if_pos ⟨rfl, rfl⟩]
        exact cell_set_same _ _ _ _ _ (hrow i hi).1
      · rw [if_neg e, cell_set_ne _ _ _ _ _ _ (by omega)]
        exact (hrow i hi).1
    · dsimp only
      by_cases e : b = b' ∧ o = o' + i * 2 + 1
      · obtain ⟨rfl, rfl⟩ := e
        rw [if_pos ⟨rfl, rfl⟩]
        exact cell_set_same _ _ _ _ _ (hrow i hi).2
      · rw [if_neg e, cell_set_ne _ _ _ _ _ _ (by omega)]
        exact (hrow i hi).2
  · exact ⟨X, Y, _, _, rfl, hc, fun h => absurd h hn⟩
/-- Returned: at most 13 spots in new memory; beside it only the cursor has turned. -/
def AnsCh (w : World) (p K : Nat) (e : Ending) (w' : World) : Prop := ∃ v n, n ≤ 13 ∧ e = .returned v ∧ OwnSE w.heap.size w' v n ∧ CurAt w' p K ∧ Turned p (p + 1) w w'
set_option maxRecDepth 100000 in
set_option maxHeartbeats 4000000 in
theorem cur_anyChart (p K : Nat) (w : World) (h : CurAt w p K) (hK : K ≤ 600000) :
    Calls Try.prog 84 #[.pointer (some ⟨p, 0, none⟩)] w (AnsCh w p (K + 110000)) := by
  have hpw := h.lt
  go_enter Try.func84, Try.ntmps84
  go_wp2_with fail
  refine (cur_chart p K _ h (by omega)).mono ?_
  rintro e w1 ⟨v, n, X, Y, hn0, hn, rfl, ho, hc1, ht1⟩
  obtain ⟨A, c, e1, hnc, hr⟩ := ho.ownS
  obtain ⟨g, o, e2, hbg, hf, hrow⟩ := hr hn0
  subst e1
  subst e2
  have HO := Lib.hid (show OwnSE w.heap.size w1 (.slice (some ⟨g, o, none⟩) n c) n from ⟨X, Y, ho.ownS⟩)
  have HOR := Lib.hid ho
  have HRow := Lib.hid hrow
  have HF := Lib.hid hf
  have hlg := lt_of_cell (hrow 0 hn0).1
  have hs1 := ht1.size
  clear ho hr hrow hf
  go_wp2_with fail
  refine (cur_pick p _ n _ hc1 (by omega) (by omega)).mono ?_
  rintro e w2 ⟨I, rfl, hI, hc2, ht2⟩
  have hIn : I < n := by omega
  have jI : (I : Int) < (n : Int) := by omega
  have j0 : (0 : Int) < (n : Int) := by omega
  go_wp2_with fail
  refine (cur_pick p _ 30 _ hc2 (by omega) (by omega)).mono ?_
  rintro e w3 ⟨y, rfl, hy, hc3, ht3⟩
  have ht13 := ht2.trans ht3
  have htw := ht1.trans ht13
  have HO3 := Lib.hid (show OwnSE w.heap.size w3 (.slice (some ⟨g, o, none⟩) n c) n from ⟨X, Y, (HOR.out.turn ht13 hpw).ownS⟩)
  by_cases y0 : y = 0
  · subst y0
    go_wp2_with fail
    refine (cur_anySpot p _ _ hc3 (by omega)).mono ?_
    rintro e w4 ⟨x, z, rfl, hc4, ht4⟩
    have ht14 := ht13.trans ht4
    have c0 := ht14.cell (HRow.out I hIn).1 (by omega)
    have c1 := ht14.cell (HRow.out I hIn).2 (by omega)
    have f0 := ht14.free HF.out hlg (by omega) (o + I * 2)
    have f1 := ht14.free HF.out hlg (by omega) (o + I * 2 + 1)
    have HO4 := Lib.hid (show OwnSE w.heap.size w4 (.slice (some ⟨g, o, none⟩) n c) n from ⟨X, Y, (HOR.out.turn ht14 hpw).ownS⟩)
    go_wp2_with fail
    go_ret
    have hb9 : ∀ x z : Int, Below w.heap.size w4 ((w4.setCell ⟨g, o + I * 2, none⟩ (.int .i64 x)).setCell ⟨g, o + I * 2 + 1, none⟩ (.int .i64 z)) := fun x z => ((Below.refl w.heap.size w4).setCell (p := ⟨g, o + I * 2, none⟩) hbg _).setCell (p := ⟨g, o + I * 2 + 1, none⟩) hbg _
    exact ⟨_, n, by omega, rfl, (HO4.out.store g (o + I * 2) x).store g (o + I * 2 + 1) z, (hc4.below (hb9 x z) hpw).more (by omega), (ht1.trans ht14).far (hb9 x z)⟩
  · have jy0 : ¬ (y : Int) = 0 := by omega
    by_cases y1 : y = 1
    · subst y1
      have c0 := ht13.cell (HRow.out I hIn).1 (by omega)
      have c1 := ht13.cell (HRow.out I hIn).2 (by omega)
      have d0 := ht13.cell (HRow.out 0 hn0).1 (by omega)
      have d1 := ht13.cell (HRow.out 0 hn0).2 (by omega)
      rw [Nat.zero_mul, Nat.add_zero] at d0 d1
      have f0 := ht13.free HF.out hlg (by omega) (o + I * 2)
      have f1 := ht13.free HF.out hlg (by omega) (o + I * 2 + 1)
      go_wp2_with fail
      go_ret
      have hb9 : ∀ x z : Int, Below w.heap.size w3 ((w3.setCell ⟨g, o + I * 2, none⟩ (.int .i64 x)).setCell ⟨g, o + I * 2 + 1, none⟩ (.int .i64 z)) := fun x z => ((Below.refl w.heap.size w3).setCell (p := ⟨g, o + I * 2, none⟩) hbg _).setCell (p := ⟨g, o + I * 2 + 1, none⟩) hbg _
      exact ⟨_, n, by omega, rfl, (HO3.out.store g (o + I * 2) (X 0)).store g (o + I * 2 + 1) (Y 0), (hc3.below (hb9 (X 0) (Y 0)) hpw).more (by omega), htw.far (hb9 (X 0) (Y 0))⟩
    · have jy1 : ¬ (y : Int) = 1 := by omega
      by_cases y2 : y = 2
      · subst y2
        go_wp2_with fail
        go_ret
        exact ⟨_, 0, by omega, rfl, ⟨X, Y, _, _, rfl, Nat.le_refl _, fun h => absurd h (by omega)⟩, hc3.more (by omega), htw⟩
      · have jy2 : ¬ (y : Int) = 2 := by omega
        by_cases y3 : y = 3
        · subst y3
          have hs3 := htw.size
          go_wp2_with fail
          refine (cur_chartOf p _ 13 _ hc3 (by omega) (by omega)).mono ?_
          rintro e w4 ⟨v4, X4, Y4, rfl, ho4, hc4, ht4⟩
          go_wp2_with fail
          go_ret
          exact ⟨_, 13, by omega, rfl, ⟨X4, Y4, ho4.ownS.more hs3⟩, hc4.more (by omega), htw.trans ht4⟩
        · have jy3 : ¬ (y : Int) = 3 := by omega
          go_wp2_with fail
          go_ret
          exact ⟨_, n, by omega, rfl, HO3.out, hc3.more (by omega), htw⟩
end Go.Proofs.Ytljbcfgecbonnaa
