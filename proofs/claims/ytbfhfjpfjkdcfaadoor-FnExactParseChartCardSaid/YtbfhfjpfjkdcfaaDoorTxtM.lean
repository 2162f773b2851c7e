/-
  The reference's text of a spot and of a chart.
-/
import Derived.Test.YtbfhfjpfjkdcfaaDoorRows
import Derived.Test.YtbfhfjpfjkdcfaaDoorBase
import Derived.Test.YtbfhfjpfjkdcfaaDoorSpot
import Derived.Test.YtbfhfjpfjkdcfaaDoorSlice
import Derived.Test.YtbfhfjpfjkdcfaaDoorChart
import Derived.Test.YtbfhfjpfjkdcfaaDoorTxtP
import Derived.Test.YtbfhfjpfjkdcfaaDoorTxtN
import Derived.Deep.RegionHeld3
namespace Go.Proofs.YtbfhfjpfjkdcfaaDoor
open Go.RowKit Go.ChangeShapes Go.WideShapes Go.Sort

set_option maxRecDepth 100000 in
set_option maxHeartbeats 4000000 in
theorem stPart_s (n : Nat) (hn : n ≤ 1280) (w : World) : Calls Tryd.prog 43 #[.int .i64 (n : Int)] w (Ans w (.string (bS (stpL n)))) := by
  have hq : (n : Int).tdiv 8 = ((n / 8 : Nat) : Int) := by rw [Int.tdiv_eq_ediv_of_nonneg (by omega)]; rfl
  have hm : (n : Int).tmod 8 = ((n % 8 : Nat) : Int) := by rw [Int.tmod_eq_emod_of_nonneg (by omega)]; rfl
  have hq2 : (n : Int) / 8 = ((n / 8 : Nat) : Int) := rfl
  have hm2 : (n : Int) % 8 = ((n % 8 : Nat) : Int) := rfl
  have hst : stpL n = if n % 8 = 0 then Lib.decDigits (n / 8) else Lib.decDigits (n / 8) ++ 43 :: Lib.decDigits (n % 8) := rfl
  have hq1 : n / 8 ≤ 160 := by omega
  have hm1 : n % 8 < 8 := by omega
  generalize n / 8 = q at hst hq hq2 hq1
  generalize n % 8 = r at hst hm hm2 hm1
  have A := Lib.hid (l1Num_s q (by omega))
  have B := Lib.hid (l1Num_s r (by omega))
  have lq := dec_len (n := q) (by omega)
  have lr := dec_len (n := r) (by omega)
  have hqw : IntKind.i64.wrap (q : Int) = (q : Int) := IntWalk.i64_in _ (by omega)
  have hrw : IntKind.i64.wrap (r : Int) = (r : Int) := IntWalk.i64_in _ (by omega)
  by_cases h0 : r = 0
  · subst h0
    have HD := Lib.hid (show bS (stpL n) = bS (Lib.decDigits q) from congrArg bS (by rw [hst, if_pos rfl]))
    clear hst hq1 hm1 lq lr hrw hn
    go_enter Tryd.func43, Tryd.ntmps43
    go_wp2_with ((go_at_call 52; refine (from0 (A.out _) (by first | exact hb0 | exact up_alloc hb0 _ | exact up_drew hb0 | exact up_drewN hb0 _ | exact Below.refl _ _)).mono ?_; rintro e w1 ⟨rfl, hb0⟩; obtain ⟨hc0, hf0⟩ := bcell hb0))
    go_ret
    rw [HD.out]
    exact ⟨rfl, by (repeat (first | with_reducible exact Below.refl _ _ | with_reducible assumption | with_reducible refine up_alloc ?_ _ | with_reducible refine up_drew ?_ | with_reducible refine up_drewN ?_ _ | (with_reducible refine up_set ?_ ?hset _; case hset => first | (simp; done) | (simp; omega) | omega) | with_reducible refine up_trans ?_ (by with_reducible assumption)))⟩
  · have jr : ¬ (r : Int) = 0 := by omega
    have HD := Lib.hid (show bS (stpL n) = bS (Lib.decDigits q ++ 43 :: Lib.decDigits r) from congrArg bS (by rw [hst, if_neg h0]))
    have h1 : ∀ w : World, (Op.stringOp .add (bS (Lib.decDigits q)) ⟨#[43]⟩).run Tryd.prog w = .ok (.string (bS (Lib.decDigits q ++ [43]))) w := add_bS (Lib.decDigits q) [43] (by simp; omega)
    have h2 : ∀ w : World, (Op.stringOp .add (bS (Lib.decDigits q ++ [43])) (bS (Lib.decDigits r))).run Tryd.prog w = .ok (.string (bS (Lib.decDigits q ++ [43] ++ Lib.decDigits r))) w := add_bS (Lib.decDigits q ++ [43]) (Lib.decDigits r) (by simp; omega)
    clear hst hq1 hm1 lq lr h0 hn
    go_enter Tryd.func43, Tryd.ntmps43
    go_wp2_with (go_at_call 52; first | ((with_reducible show Calls Tryd.prog _ #[.int .i64 (q : Int)] _ _); refine (A.out _).mono ?_; rintro e w1 ⟨rfl, hb1⟩) | ((with_reducible show Calls Tryd.prog _ #[.int .i64 (r : Int)] _ _); refine (B.out _).mono ?_; rintro e w2 ⟨rfl, hb2⟩))
    go_ret
    rw [HD.out]
    exact ⟨rfl, by (repeat (first | with_reducible exact Below.refl _ _ | with_reducible assumption | with_reducible refine up_alloc ?_ _ | with_reducible refine up_drew ?_ | with_reducible refine up_drewN ?_ _ | (with_reducible refine up_set ?_ ?hset _; case hset => first | (simp; done) | (simp; omega) | omega) | with_reducible refine up_trans ?_ (by with_reducible assumption)))⟩
set_option maxRecDepth 100000 in
set_option maxHeartbeats 4000000 in
theorem stText_s (x y : Nat) (hx : x ≤ 1280) (hy : y ≤ 1280) (w : World) : Calls Tryd.prog 32 #[.agg #[.int .i64 (x : Int), .int .i64 (y : Int)]] w (Ans w (.string (bS (spL x y)))) := by
  have A := Lib.hid (stPart_s x hx)
  have B := Lib.hid (stPart_s y hy)
  have lx := stp_len hx
  have ly := stp_len hy
  have HD := Lib.hid (show bS (spL x y) = bS (stpL x ++ 44 :: stpL y) from rfl)
  have h1 : ∀ w : World, (Op.stringOp .add (bS (stpL x)) ⟨#[44]⟩).run Tryd.prog w = .ok (.string (bS (stpL x ++ [44]))) w := add_bS (stpL x) [44] (by simp; omega)
  have h2 : ∀ w : World, (Op.stringOp .add (bS (stpL x ++ [44])) (bS (stpL y))).run Tryd.prog w = .ok (.string (bS (stpL x ++ [44] ++ stpL y))) w := add_bS (stpL x ++ [44]) (stpL y) (by simp; omega)
  clear lx ly hx hy
  go_enter Tryd.func32, Tryd.ntmps32
  go_wp2_with fail
  have hnew := cell_new2 w (.int .i64 (x : Int)) (.int .i64 (y : Int)) 38
  generalize hW : World.alloc _ _ = W at *
  have hb0 : Below w.heap.size w W := by subst hW; (repeat (first | with_reducible exact Below.refl _ _ | with_reducible assumption | with_reducible refine up_alloc ?_ _ | with_reducible refine up_drew ?_ | with_reducible refine up_drewN ?_ _ | (with_reducible refine up_set ?_ ?hset _; case hset => first | (simp; done) | (simp; omega) | omega) | with_reducible refine up_trans ?_ (by with_reducible assumption)))
  clear hW
  obtain ⟨g0, g1⟩ := hnew
  go_region_held3 (fun w' => w'.cell? ⟨w.heap.size, 0, none⟩ = some (.int .i64 (x : Int)) ∧ w'.cell? ⟨w.heap.size, 1, none⟩ = some (.int .i64 (y : Int)))
    (first | exact ⟨by assumption, by assumption⟩ | go_keep) (first
    | (go_at_call 43; (with_reducible refine (A.out _).mono ?_); rintro e wa ⟨rfl, hba⟩; have y0 := up_keep (show Below W.heap.size W wa from (by (repeat (first | with_reducible exact Below.refl _ _ | with_reducible assumption | with_reducible refine up_alloc ?_ _ | with_reducible refine up_drew ?_ | with_reducible refine up_drewN ?_ _ | (with_reducible refine up_set ?_ ?hset _; case hset => first | (simp; done) | (simp; omega) | omega) | with_reducible refine up_trans ?_ (by with_reducible assumption))))) g0; have y1 := up_keep (show Below W.heap.size W wa from (by (repeat (first | with_reducible exact Below.refl _ _ | with_reducible assumption | with_reducible refine up_alloc ?_ _ | with_reducible refine up_drew ?_ | with_reducible refine up_drewN ?_ _ | (with_reducible refine up_set ?_ ?hset _; case hset => first | (simp; done) | (simp; omega) | omega) | with_reducible refine up_trans ?_ (by with_reducible assumption))))) g1)
    | (go_at_call 43; (with_reducible refine (B.out _).mono ?_); rintro e wb ⟨rfl, hbb⟩; have y0 := up_keep (show Below W.heap.size W wb from (by (repeat (first | with_reducible exact Below.refl _ _ | with_reducible assumption | with_reducible refine up_alloc ?_ _ | with_reducible refine up_drew ?_ | with_reducible refine up_drewN ?_ _ | (with_reducible refine up_set ?_ ?hset _; case hset => first | (simp; done) | (simp; omega) | omega) | with_reducible refine up_trans ?_ (by with_reducible assumption))))) g0; have y1 := up_keep (show Below W.heap.size W wb from (by (repeat (first | with_reducible exact Below.refl _ _ | with_reducible assumption | with_reducible refine up_alloc ?_ _ | with_reducible refine up_drew ?_ | with_reducible refine up_drewN ?_ _ | (with_reducible refine up_set ?_ ?hset _; case hset => first | (simp; done) | (simp; omega) | omega) | with_reducible refine up_trans ?_ (by with_reducible assumption))))) g1)
    | fail)
  all_goals
    go_wp2_with fail
    go_ret
    rw [HD.out]
    exact ⟨rfl, by (repeat (first | with_reducible exact Below.refl _ _ | with_reducible assumption | with_reducible refine up_alloc ?_ _ | with_reducible refine up_drew ?_ | with_reducible refine up_drewN ?_ _ | (with_reducible refine up_set ?_ ?hset _; case hset => first | (simp; done) | (simp; omega) | omega) | with_reducible refine up_trans ?_ (by with_reducible assumption)))⟩
set_option maxRecDepth 100000 in
set_option maxHeartbeats 4000000 in
theorem chText_s (v : Value) (n : Nat) (X Y : Nat → Int) (w : World) (h : Spots w v n X Y) (hn : n ≤ 12) (hs : ∀ i, i < n → (0 ≤ X i ∧ X i ≤ 1280) ∧ 0 ≤ Y i ∧ Y i ≤ 672) :
    Calls Tryd.prog 20 #[v] w (Ans w (.string (bS (txL X Y n)))) := by
  obtain ⟨A, c, rfl, hnc, hrow⟩ := h
  go_enter Tryd.func20, Tryd.ntmps20
  go_wp2_with fail
  go_loopw [3, 8] (fun s i wr => ∃ k : Nat, k ≤ n ∧ s = .string (bS (txL X Y k)) ∧ i = .int .i64 k ∧ Below w.heap.size w wr) (fun _ i _ => n - (intOf i).toNat)
  case atStart => exact ⟨0, by omega, rfl, rfl, Below.refl _ _⟩
  case round =>
    obtain ⟨k, hk, rfl, rfl, hb⟩ := hrel
    by_cases hlt : k < n
    · obtain ⟨b, o, rfl, hr⟩ := hrow (by omega)
      have hsk := hs k hlt
      obtain ⟨x, hx⟩ : ∃ x : Nat, X k = (x : Int) := ⟨(X k).toNat, by omega⟩
      obtain ⟨y, hy⟩ : ∃ y : Nat, Y k = (y : Int) := ⟨(Y k).toNat, by omega⟩
      have c1 := up_keep hb (hr k hlt).1
      have c2 := up_keep hb (hr k hlt).2
      rw [hx] at c1
      rw [hy] at c2
      have hx1 : x ≤ 1280 := by omega
      have hy1 : y ≤ 1280 := by omega
      have hl1 := sp_len hx1 hy1
      have hl2 := tx_len (X := X) (Y := Y) (n := k) (fun i hi => hs i (by omega))
      have HT := Lib.hid (stText_s x y hx1 hy1)
      have HD := Lib.hid (show txL X Y (k + 1) = txL X Y k ++ (spL x y ++ [10]) by simp only [txL, hx, hy]; rfl)
      have hkc : k ≤ c := by omega
      have h1 : ∀ w : World, (Op.stringOp .add (bS (spL x y)) ⟨#[10]⟩).run Tryd.prog w = .ok (.string (bS (spL x y ++ [10]))) w := add_bS (spL x y) [10] (by simp; omega)
      have h2 : ∀ w : World, (Op.stringOp .add (bS (txL X Y k)) (bS (spL x y ++ [10]))).run Tryd.prog w = .ok (.string (bS (txL X Y k ++ (spL x y ++ [10])))) w := add_bS (txL X Y k) (spL x y ++ [10]) (by simp; omega)
      clear hr hrow hs hsk hx hy hx1 hy1 hl1 hl2
      go_wp2_with ((go_at_call 32; refine (from0 (HT.out _) (by first | exact hb0 | exact up_alloc hb0 _ | exact up_drew hb0 | exact up_drewN hb0 _ | exact Below.refl _ _)).mono ?_; rintro e w1 ⟨rfl, hb0⟩; obtain ⟨hc0, hf0⟩ := bcell hb0))
      go_roundw
      case rel => exact ⟨k + 1, by omega, by rw [HD.out], by go_num, by (repeat (first | with_reducible exact Below.refl _ _ | with_reducible assumption | with_reducible refine up_alloc ?_ _ | with_reducible refine up_drew ?_ | with_reducible refine up_drewN ?_ _ | (with_reducible refine up_set ?_ ?hset _; case hset => first | (simp; done) | (simp; omega) | omega) | with_reducible refine up_trans ?_ (by with_reducible assumption)))⟩
      case measure => simp [intOf]; omega
    · have e : k = n := by omega
      subst e
      go_wp2_with fail
      go_ret
      exact ⟨rfl, hb⟩
set_option maxRecDepth 100000 in
set_option maxHeartbeats 2000000 in
theorem specChartText_s (v : Value) (n : Nat) (X Y : Nat → Int) (w : World) (h : Spots w v n X Y) (hn : n ≤ 9223372036854775807) :
    Calls Tryd.prog 11 #[v] w (Ans w (.tuple #[.string (bS (if chartB n X Y = true then txL X Y n else [])), .bool (chartB n X Y)])) := by
  have HG := Lib.hid (chGood_g v n X Y w h hn)
  cases hc : chartB n X Y with
  | false =>
    rw [hc] at HG
    have HD := Lib.hid (show bS (if false = true then txL X Y n else []) = ⟨#[]⟩ from rfl)
    rw [HD.out]
    clear hc HD h
    go_enter Tryd.func11, Tryd.ntmps11
    go_wp2_with ((go_at_call 19; refine (from0 (HG.out) (by first | exact hb0 | exact up_alloc hb0 _ | exact up_drew hb0 | exact up_drewN hb0 _ | exact Below.refl _ _)).mono ?_; rintro e w1 ⟨rfl, hb0⟩; obtain ⟨hc0, hf0⟩ := bcell hb0))
    go_ret2
    exact ⟨rfl, by (repeat (first | with_reducible exact Below.refl _ _ | with_reducible assumption | with_reducible refine up_alloc ?_ _ | with_reducible refine up_drew ?_ | with_reducible refine up_drewN ?_ _ | (with_reducible refine up_set ?_ ?hset _; case hset => first | (simp; done) | (simp; omega) | omega) | with_reducible refine up_trans ?_ (by with_reducible assumption)))⟩
  | true =>
    obtain ⟨⟨_, h12⟩, hsp, _⟩ := chartB_iff.1 hc
    rw [hc] at HG
    have HT := Lib.hid (fun (W : World) (hW : Below w.heap.size w W) => chText_s v n X Y W (h.up hW) h12 (fun i hi => by have := spotB_iff.1 (hsp i hi); exact this))
    have HD := Lib.hid (show bS (if true = true then txL X Y n else []) = bS (txL X Y n) from rfl)
    rw [HD.out]
    clear hc HD h hsp h12
    go_enter Tryd.func11, Tryd.ntmps11
    go_wp2_with (first | (go_at_call 19; (refine (HG.out).mono ?_); rintro e w1 ⟨rfl, hb1⟩) | (go_at_call 20; (refine (HT.out _ (by (repeat (first | with_reducible exact Below.refl _ _ | with_reducible assumption | with_reducible refine up_alloc ?_ _ | with_reducible refine up_drew ?_ | with_reducible refine up_drewN ?_ _ | (with_reducible refine up_set ?_ ?hset _; case hset => first | (simp; done) | (simp; omega) | omega) | with_reducible refine up_trans ?_ (by with_reducible assumption))))).mono ?_); rintro e w2 ⟨rfl, hb2⟩))
    go_ret2
    exact ⟨rfl, by (repeat (first | with_reducible exact Below.refl _ _ | with_reducible assumption | with_reducible refine up_alloc ?_ _ | with_reducible refine up_drew ?_ | with_reducible refine up_drewN ?_ _ | (with_reducible refine up_set ?_ ?hset _; case hset => first | (simp; done) | (simp; omega) | omega) | with_reducible refine up_trans ?_ (by with_reducible assumption)))⟩
end Go.Proofs.YtbfhfjpfjkdcfaaDoor
