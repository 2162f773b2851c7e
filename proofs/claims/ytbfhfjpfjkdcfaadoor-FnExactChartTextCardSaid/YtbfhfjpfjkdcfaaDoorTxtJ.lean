/-
  The program's text of a chart.
-/
import Derived.Test.YtbfhfjpfjkdcfaaDoorRows
import Derived.Test.YtbfhfjpfjkdcfaaDoorBase
import Derived.Test.YtbfhfjpfjkdcfaaDoorSpot
import Derived.Test.YtbfhfjpfjkdcfaaDoorSlice
import Derived.Test.YtbfhfjpfjkdcfaaDoorChart
import Derived.Test.YtbfhfjpfjkdcfaaDoorTxtP
import Derived.Test.YtbfhfjpfjkdcfaaDoorTxtB
import Derived.Test.YtbfhfjpfjkdcfaaDoorTxtI
import Derived.Test.YtbfhfjpfjkdcfaaDoorShelf
namespace Go.Proofs.YtbfhfjpfjkdcfaaDoor
open Go.RowKit Go.ChangeShapes Go.WideShapes Go.Sort Go.Proofs

theorem cells_app (a b : List UInt8) : Lib.byteCells a ++ Lib.strCells (bS b) = Lib.byteCells (a ++ b) := by
  rw [show Lib.strCells (bS b) = Lib.byteCells b from rfl]
  unfold Lib.byteCells
  rw [List.map_append]
set_option maxRecDepth 100000 in
set_option maxHeartbeats 4000000 in
theorem chartText_s (v : Value) (n : Nat) (X Y : Nat → Int) (w : World) (h : Spots w v n X Y) (hn : n ≤ 12) (hs : ∀ i, i < n → (0 ≤ X i ∧ X i ≤ 1280) ∧ 0 ≤ Y i ∧ Y i ≤ 672) (ht : TabW w) :
    Calls Tryd.prog 23 #[v] w (Ans w (.string (bS (txL X Y n)))) := by
  obtain ⟨A, c, rfl, hnc, hrow⟩ := h
  have hfr := Lib.fresh_isBuilder 60 5 w
  go_enter Tryd.func23, Tryd.ntmps23
  go_wp2_with fail
  go_loopw [10] (fun i wr => ∃ k : Nat, k ≤ n ∧ i = .int .i64 k ∧ Lib.IsBuilder 60 5 w.heap.size w.heap.size (Lib.byteCells (txL X Y k)) wr ∧ Below w.heap.size w wr) (fun i _ => n - (intOf i).toNat)
  case atStart => exact ⟨0, by omega, rfl, hfr, by (repeat (first | with_reducible exact Below.refl _ _ | with_reducible assumption | with_reducible refine up_alloc ?_ _ | with_reducible refine up_drew ?_ | with_reducible refine up_drewN ?_ _ | (with_reducible refine up_set ?_ ?hset _; case hset => first | (simp; done) | (simp; omega) | omega) | with_reducible refine up_trans ?_ (by with_reducible assumption)))⟩
  case round =>
    obtain ⟨k, hk, rfl, hbd, hb⟩ := hrel
    have HB := Lib.hid hbd
    clear hbd hfr
    have hsz := hb.size
    by_cases hlt : k < n
    · obtain ⟨b, o, rfl, hr⟩ := hrow (by omega)
      have hsk := hs k hlt
      obtain ⟨x, hx⟩ : ∃ x : Nat, X k = (x : Int) := ⟨(X k).toNat, by omega⟩
      obtain ⟨y, hy⟩ : ∃ y : Nat, Y k = (y : Int) := ⟨(Y k).toNat, by omega⟩
      have c1 := up_keep hb (hr k hlt).1
      have c2 := up_keep hb (hr k hlt).2
      rw [hx] at c1
      rw [hy] at c2
      have hx1 : x ≤ 1280 := by omega
      have hy1 : y ≤ 672 := by omega
      have hl1 := sp_len hx1 (show y ≤ 1280 by omega)
      have hl2 := tx_len (X := X) (Y := Y) (n := k) (fun i hi => hs i (by omega))
      have HT := Lib.hid (fun (W : World) (hW : Below w.heap.size w W) => spotText_s x y hx1 hy1 W (ht.up hW))
      have HD := Lib.hid (show Lib.byteCells (txL X Y k) ++ Lib.strCells (bS (spL x y ++ [10])) = Lib.byteCells (txL X Y (k + 1)) by rw [cells_app]; simp only [txL, hx, hy]; rfl)
      have hkc : k ≤ c := by omega
      have h1 : ∀ w : World, (Op.stringOp .add (bS (spL x y)) ⟨#[10]⟩).run Tryd.prog w = .ok (.string (bS (spL x y ++ [10]))) w := add_bS (spL x y) [10] (by simp; omega)
      have HW := Lib.hid (fun (W : World) (hW : Below wr.heap.size wr W) => writeStr w.heap.size w.heap.size (Lib.byteCells (txL X Y k)) (bS (spL x y ++ [10])) W (bld_below HB.out hW) (by rw [Lib.byteCells_length, bS_size]; simp; omega) (Nat.le_trans hsz hW.size))
      clear hr hrow hs hsk hx hy hx1 hy1 hl1 hl2
      go_wp2_with (first
        | (go_at_call 35; (refine (HT.out _ (by (repeat (first | with_reducible exact Below.refl _ _ | with_reducible assumption | with_reducible refine up_alloc ?_ _ | with_reducible refine up_drew ?_ | with_reducible refine up_drewN ?_ _ | (with_reducible refine up_set ?_ ?hset _; case hset => first | (simp; done) | (simp; omega) | omega) | with_reducible refine up_trans ?_ (by with_reducible assumption))))).mono ?_); rintro e w1 ⟨rfl, hb1⟩)
        | (go_at_call 36; (refine (HW.out _ (by (repeat (first | with_reducible exact Below.refl _ _ | with_reducible assumption | with_reducible refine up_alloc ?_ _ | with_reducible refine up_drew ?_ | with_reducible refine up_drewN ?_ _ | (with_reducible refine up_set ?_ ?hset _; case hset => first | (simp; done) | (simp; omega) | omega) | with_reducible refine up_trans ?_ (by with_reducible assumption))))).mono ?_); rintro e w2 ⟨rfl, hd2, hb2⟩))
      go_roundw
      case rel => exact ⟨k + 1, by omega, by go_num, by rw [HD.out] at hd2; exact hd2, (show Below w.heap.size w w1 from (by (repeat (first | with_reducible exact Below.refl _ _ | with_reducible assumption | with_reducible refine up_alloc ?_ _ | with_reducible refine up_drew ?_ | with_reducible refine up_drewN ?_ _ | (with_reducible refine up_set ?_ ?hset _; case hset => first | (simp; done) | (simp; omega) | omega) | with_reducible refine up_trans ?_ (by with_reducible assumption))))).trans hb2⟩
      case measure => simp [intOf]; omega
    · have e : k = n := by omega
      subst e
      have HS := Lib.hid (Tryd.Builder_String_any w.heap.size w.heap.size (txL X Y k) wr HB.out hsz)
      go_wp2_with (go_at_call 37; (refine (HS.out).mono ?_); rintro e w2 ⟨rfl, hb2⟩)
      go_ret
      exact ⟨rfl, hb.trans hb2⟩
set_option maxRecDepth 100000 in
set_option maxHeartbeats 2000000 in
theorem implChartText_s (v : Value) (n : Nat) (X Y : Nat → Int) (w : World) (h : Spots w v n X Y) (hn : n ≤ 9223372036854775807) (ht : TabW w) :
    Calls Tryd.prog 13 #[v] w (Ans w (.tuple #[.string (bS (if chartB n X Y = true then txL X Y n else [])), .bool (chartB n X Y)])) := by
  have HG := Lib.hid (isChart_g v n X Y w h hn)
  cases hc : chartB n X Y with
  | false =>
    rw [hc] at HG
    have HD := Lib.hid (show bS (if false = true then txL X Y n else []) = ⟨#[]⟩ from rfl)
    rw [HD.out]
    clear hc HD h
    go_enter Tryd.func13, Tryd.ntmps13
    go_wp2_with ((go_at_call 22; refine (from0 (HG.out) (by first | exact hb0 | exact up_alloc hb0 _ | exact up_drew hb0 | exact up_drewN hb0 _ | exact Below.refl _ _)).mono ?_; rintro e w1 ⟨rfl, hb0⟩; obtain ⟨hc0, hf0⟩ := bcell hb0))
    go_ret2
    exact ⟨rfl, by (repeat (first | with_reducible exact Below.refl _ _ | with_reducible assumption | with_reducible refine up_alloc ?_ _ | with_reducible refine up_drew ?_ | with_reducible refine up_drewN ?_ _ | (with_reducible refine up_set ?_ ?hset _; case hset => first | (simp; done) | (simp; omega) | omega) | with_reducible refine up_trans ?_ (by with_reducible assumption)))⟩
  | true =>
    obtain ⟨⟨_, h12⟩, hsp, _⟩ := chartB_iff.1 hc
    rw [hc] at HG
    have HT := Lib.hid (fun (W : World) (hW : Below w.heap.size w W) => chartText_s v n X Y W (h.up hW) h12 (fun i hi => by have := spotB_iff.1 (hsp i hi); exact this) (ht.up hW))
    have HD := Lib.hid (show bS (if true = true then txL X Y n else []) = bS (txL X Y n) from rfl)
    rw [HD.out]
    clear hc HD h hsp h12
    go_enter Tryd.func13, Tryd.ntmps13
    go_wp2_with (first | (go_at_call 22; (refine (HG.out).mono ?_); rintro e w1 ⟨rfl, hb1⟩) | (go_at_call 23; (refine (HT.out _ (by (repeat (first | with_reducible exact Below.refl _ _ | with_reducible assumption | with_reducible refine up_alloc ?_ _ | with_reducible refine up_drew ?_ | with_reducible refine up_drewN ?_ _ | (with_reducible refine up_set ?_ ?hset _; case hset => first | (simp; done) | (simp; omega) | omega) | with_reducible refine up_trans ?_ (by with_reducible assumption))))).mono ?_); rintro e w2 ⟨rfl, hb2⟩))
    go_ret2
    exact ⟨rfl, by (repeat (first | with_reducible exact Below.refl _ _ | with_reducible assumption | with_reducible refine up_alloc ?_ _ | with_reducible refine up_drew ?_ | with_reducible refine up_drewN ?_ _ | (with_reducible refine up_set ?_ ?hset _; case hset => first | (simp; done) | (simp; omega) | omega) | with_reducible refine up_trans ?_ (by with_reducible assumption)))⟩
end Go.Proofs.YtbfhfjpfjkdcfaaDoor
