/-
  impl.OrderAlong.
-/
import Derived.Test.YtbfhfjpfjkdcfaaRows
import Derived.Test.YtbfhfjpfjkdcfaaBase
import Derived.Test.YtbfhfjpfjkdcfaaSpot
import Derived.Test.YtbfhfjpfjkdcfaaSlice
import Derived.Test.YtbfhfjpfjkdcfaaChart
import Derived.Test.YtbfhfjpfjkdcfaaLawS
import Derived.Test.YtbfhfjpfjkdcfaaMark
import Derived.Test.YtbfhfjpfjkdcfaaInts
import Derived.Test.YtbfhfjpfjkdcfaaIntsL
import Derived.Test.YtbfhfjpfjkdcfaaCopyI
import Derived.Test.YtbfhfjpfjkdcfaaAddI
import Derived.Test.YtbfhfjpfjkdcfaaOrdP
import Derived.Lib.Strings
import Derived.Lib.Slices
import Derived.Lib.Small
import Derived.Lib.Walk
import Derived.Lib.BitFns
import Derived.Test.YtbfhfjpfjkdcfaaPiece
import Derived.BigQuiet
import Derived.RegionTactic
import Derived.ChangeAlike
import Derived.Deep.QuietTactic
import Derived.Deep.CutRange
import Derived.Deep.DeepCutAuto
import Derived.Test.YtbfhfjpfjkdcfaaOrdK
namespace Go.Proofs.Ytbfhfjpfjkdcfaa
open Go.RowKit Go.ChangeShapes Go.WideShapes Go.Sort

set_option maxRecDepth 100000 in
set_option maxHeartbeats 8000000 in
theorem iOrder_ok (v : Value) (n : Nat) (X Y : Nat → Int) (w : World) (h : Spots w v n X Y) (hc : chartB n X Y = true) :
    Calls Try.prog 7 #[v] w (AnsIB w n (ordO X Y n) true) := by
  have HV := Lib.hid h
  have HC := Lib.hid (fun W (hW : Spots W v n X Y) => isChart_g v n X Y W hW (by have := (chartB_iff.1 hc).1.2; omega))
  rw [hc] at HC
  have hn := (chartB_iff.1 hc).1
  have hsp := (chartB_iff.1 hc).2.1
  have HB := Lib.hid (show ∀ j, j < n → (0 ≤ X j ∧ X j ≤ 1280) ∧ 0 ≤ Y j ∧ Y j ≤ 672 from fun j hj => by have := spotB_iff.1 (hsp j hj); omega)
  obtain ⟨Av, cv, rfl, hncv, hrow⟩ := h
  obtain ⟨b, o, rfl, hr⟩ := hrow (by omega)
  have HR := Lib.hid hr
  have hbw := lt_of_cell (hr 0 (by omega)).1
  clear hr hrow hc hsp
  go_enter Try.func7, Try.ntmps7
  go_wp2_with fail
  generalize hWx : World.alloc w _ = W
  have hbW : Below w.heap.size w W := by subst hWx; exact below_alloc _ _
  have g0 : W.cell? ⟨w.heap.size, 0, none⟩ = some (.slice (some ⟨b, o, none⟩) n cv) := by subst hWx; simp [go_sem]
  have hzW : w.heap.size < W.heap.size := by subst hWx; simp
  clear hWx
  refine (HC.out _ (HV.out.up hbW)).mono ?_
  rintro e w1 ⟨rfl, hb1⟩
  have g1 := up_keep hb1 g0
  have hs1 := hb1.size
  have hbW1 := up_trans hbW hb1
  go_upto_region 4 with fail
  generalize hWx : World.alloc w1 _ = W2
  have hb2 : Below w1.heap.size w1 W2 := by subst hWx; exact below_alloc _ _
  have ho2 : OwnN w1.heap.size W2 (.slice (some ⟨w1.heap.size, 0, none⟩) 0 0) 0 (fun j => (j : Int)) := by subst hWx; exact OwnN.empty (Nat.le_refl _) _
  have hs2 := hb2.size
  clear hWx
  have g2 := up_keep hb2 g1
  go_wp2_with fail
  go_loopw [4, 12] (fun q ii wr => ∃ i : Nat, i ≤ n ∧ ii = .int .i64 (i : Int) ∧ OwnN w1.heap.size wr q i (fun j => (j : Int)) ∧ Below w1.heap.size w1 wr) (fun _ ii _ => n - (intOf ii).toNat)
  case atStart => exact ⟨0, by omega, rfl, ho2, hb2⟩
  case round =>
    obtain ⟨i, hi, rfl, how, hbk⟩ := hrel
    by_cases hlt : i < n
    · have j1 : (i : Int) < (n : Int) := by omega
      have HO := Lib.hid how
      clear how
      go_wp2_with (at_builtin; refine wpList_app_int2 rfl (.tmp 15) (.tmp 17) rfl w1.heap.size _ i (fun j => (j : Int)) rfl rfl rfl (by simp [go_sem]) (OwnN.up HO.out (by (repeat (first | with_reducible exact Below.refl _ _ | with_reducible assumption | with_reducible refine up_alloc ?_ _ | with_reducible refine up_drew ?_ | with_reducible refine up_drewN ?_ _ | (with_reducible refine up_set ?_ ?hset _; case hset => first | (simp; done) | (simp; omega) | omega) | with_reducible refine up_trans ?_ (by with_reducible assumption))))) (show Below w1.heap.size w1 _ from (by (repeat (first | with_reducible exact Below.refl _ _ | with_reducible assumption | with_reducible refine up_alloc ?_ _ | with_reducible refine up_drew ?_ | with_reducible refine up_drewN ?_ _ | (with_reducible refine up_set ?_ ?hset _; case hset => first | (simp; done) | (simp; omega) | omega) | with_reducible refine up_trans ?_ (by with_reducible assumption))))).size (by omega) ?_; intro v3 w3 ho3 hb3 _ _; replace hb3 := (show Below w1.heap.size w1 _ from (by (repeat (first | with_reducible exact Below.refl _ _ | with_reducible assumption | with_reducible refine up_alloc ?_ _ | with_reducible refine up_drew ?_ | with_reducible refine up_drewN ?_ _ | (with_reducible refine up_set ?_ ?hset _; case hset => first | (simp; done) | (simp; omega) | omega) | with_reducible refine up_trans ?_ (by with_reducible assumption))))).trans hb3)
      go_roundw
      case rel => exact ⟨i + 1, by omega, by go_num, ho3, hb3⟩
      case measure => first | (simp [intOf]; done) | (simp [intOf]; omega)
    · have e : i = n := by omega
      subst e
      obtain ⟨Ad, cd, e1, _, hrd⟩ := how.ownI
      subst e1
      obtain ⟨d, od, rfl, hdb, hfd, hR⟩ := hrd (by omega)
      have HSF := Lib.hid (sortFunc_any w.heap.size b o i cv d od cd X Y wr (up_keep hbk g1) (fun j hj => ⟨up_keep hbk (up_keep hbW1 (HR.out j hj).1), up_keep hbk (up_keep hbW1 (HR.out j hj).2)⟩) (by omega) (by have := hbW.size; omega) HB.out (by omega) (by omega) hR hfd)
      have hdlt := hR.lt (by omega)
      have hbwr := up_trans hbW1 hbk
      clear hR hfd hrd how
      go_wp2_with fail
      refine HSF.out.mono ?_
      rintro e w5 ⟨rfl, h1, h2, h3⟩
      go_wp2_with fail
      go_ret2
      exact ⟨_, rfl, ⟨_, _, rfl, by assumption, fun _ => ⟨d, od, rfl, by have := hbW.size; omega, h2, h1⟩⟩, hbwr.trans ⟨h3.os, h3.tape, h3.output, h3.size, fun k hk => h3.block k (by have := hbwr.size; omega) (.inl (by have := hbW.size; omega))⟩⟩
set_option maxRecDepth 100000 in
theorem iOrder_any (v : Value) (n : Nat) (X Y : Nat → Int) (w : World) (h : Spots w v n X Y) (hn : n ≤ 1048576) :
    Calls Try.prog 7 #[v] w (AnsIB w (ordN n (chartB n X Y)) (ordO X Y n) (chartB n X Y)) := by
  cases hc : chartB n X Y with
  | true => exact iOrder_ok v n X Y w h hc
  | false =>
    have HV := Lib.hid h
    have HC := Lib.hid (fun W (hW : Spots W v n X Y) => isChart_g v n X Y W hW (by omega))
    rw [hc] at HC
    obtain ⟨Av, cv, rfl, hncv, hrow⟩ := h
    clear hrow
    go_enter Try.func7, Try.ntmps7
    go_wp2_with fail
    generalize hWx : World.alloc w _ = W
    have hbW : Below w.heap.size w W := by subst hWx; exact below_alloc _ _
    clear hWx
    refine (HC.out _ (HV.out.up hbW)).mono ?_
    rintro e w1 ⟨rfl, hb1⟩
    go_wp2_with fail
    go_ret2
    exact AnsIB.nil (up_trans hbW hb1)
end Go.Proofs.Ytbfhfjpfjkdcfaa
