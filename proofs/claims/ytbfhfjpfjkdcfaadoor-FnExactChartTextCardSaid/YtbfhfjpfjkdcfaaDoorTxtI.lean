/-
  The program's text of a spot and of a chart.
-/
import Derived.Test.YtbfhfjpfjkdcfaaDoorRows
import Derived.Test.YtbfhfjpfjkdcfaaDoorBase
import Derived.Test.YtbfhfjpfjkdcfaaDoorSpot
import Derived.Test.YtbfhfjpfjkdcfaaDoorSlice
import Derived.Test.YtbfhfjpfjkdcfaaDoorChart
import Derived.Test.YtbfhfjpfjkdcfaaDoorTxtP
import Derived.Test.YtbfhfjpfjkdcfaaDoorTxtB
import Derived.Test.YtbfhfjpfjkdcfaaDoorShelf
import Derived.Deep.RegionHeld3
import Derived.Lib.AppendIntMem
namespace Go.Proofs.YtbfhfjpfjkdcfaaDoor
open Go.RowKit Go.ChangeShapes Go.WideShapes Go.Sort Go.Proofs

theorem tab_up {P : Program} {n : String} {k : IntKind} {zs : List Int} {w w' : World} (h : Lib.TabIs P w n k zs) (hb : Below w.heap.size w w') : Lib.TabIs P w' n k zs := by
  unfold Lib.TabIs at h ⊢
  unfold World.var? at h ⊢
  cases hg : P.globalNamed n with
  | none => rw [hg] at h; cases h
  | some g =>
    rw [hg] at h
    simp only [Option.bind_some] at h ⊢
    by_cases hl : g < w.heap.size
    · rw [hb.block g hl]; exact h
    · rw [Array.getElem?_eq_none (by omega)] at h; cases h
theorem below_growN (w : World) (k : Nat) (os : Array Obj) : Below w.heap.size w (grow (w.drewN k) os) :=
  ⟨by show (w.drewN k).os = _; induction k <;> simp_all [World.drewN], by show (w.drewN k).tape = _; induction k <;> simp_all [World.drewN], by show (w.drewN k).output = _; induction k <;> simp_all [World.drewN], Lib.size_grow w k os, fun i hi => Lib.heap_grow_old w k os i hi⟩
theorem bld_below {T e : TypeId} {B b : Nat} {bs : List Value} {W W' : World} (h : Lib.IsBuilder T e B b bs W) (hb : Below W.heap.size W W') : Lib.IsBuilder T e B b bs W' := by
  have one : ∀ p, Lib.BuilderAt T e B b p bs W → Lib.BuilderAt T e B b p bs W' := fun p h => by
    have hlt := h.lt
    obtain ⟨hB, v, hv, hown, hne⟩ := h
    exact ⟨hB, v, (hb.block b hlt).trans hv, hown.kept (row := none) ⟨hb.os, hb.tape, hb.output, hb.size, fun k hk _ => hb.block k hk⟩ (Classical.em _), hne⟩
  exact h.elim (fun x => .inl (one _ x)) (fun x => .inr (one _ x))
/-- The table that Itoa reads. -/
def TabW (w : World) : Prop := Lib.TabIs Tryd.prog w "internal/strconv.uint64pow10" .u64 Lib.pow10Tab
theorem TabW.up {w w' : World} (h : TabW w) (hb : Below w.heap.size w w') : TabW w' := tab_up h hb
theorem itoa_s (n : Nat) (hn : n ≤ 999) (w : World) (ht : TabW w) : Calls Tryd.prog 53 #[.int .i64 (n : Int)] w (Ans w (.string (bS (Lib.decDigits n)))) :=
  (Tryd.strconv_Itoa (n : Int) (by omega) (by omega) w ht).mono fun e w' ⟨he, k, os, hw⟩ => by
    subst he hw
    exact ⟨by rw [Lib.itoa_nonneg]; rfl, below_growN w k os⟩

set_option maxRecDepth 100000 in
set_option maxHeartbeats 4000000 in
theorem stepsText_s (n : Nat) (hn : n ≤ 1280) (w : World) (ht : TabW w) : Calls Tryd.prog 45 #[.int .i64 (n : Int)] w (Ans w (.string (bS (stpL n)))) := by
  have hq : (n : Int).tdiv 8 = ((n / 8 : Nat) : Int) := by rw [Int.tdiv_eq_ediv_of_nonneg (by omega)]; rfl
  have hm : (n : Int).tmod 8 = ((n % 8 : Nat) : Int) := by rw [Int.tmod_eq_emod_of_nonneg (by omega)]; rfl
  have hq2 : (n : Int) / 8 = ((n / 8 : Nat) : Int) := rfl
  have hm2 : (n : Int) % 8 = ((n % 8 : Nat) : Int) := rfl
  have hst : stpL n = if n % 8 = 0 then Lib.decDigits (n / 8) else Lib.decDigits (n / 8) ++ 43 :: Lib.decDigits (n % 8) := rfl
  have hq1 : n / 8 ≤ 160 := by omega
  have hm1 : n % 8 < 8 := by omega
  generalize n / 8 = q at hst hq hq2 hq1
  generalize n % 8 = r at hst hm hm2 hm1
  have A := Lib.hid (fun (W : World) (hW : Below w.heap.size w W) => itoa_s q (by omega) W (ht.up hW))
  have B := Lib.hid (fun (W : World) (hW : Below w.heap.size w W) => itoa_s r (by omega) W (ht.up hW))
  have lq := dec_len (n := q) (by omega)
  have lr := dec_len (n := r) (by omega)
  have hqw : IntKind.i64.wrap (q : Int) = (q : Int) := IntWalk.i64_in _ (by omega)
  have hrw : IntKind.i64.wrap (r : Int) = (r : Int) := IntWalk.i64_in _ (by omega)
  by_cases h0 : r = 0
  · subst h0
    have HD := Lib.hid (show bS (stpL n) = bS (Lib.decDigits q) from congrArg bS (by rw [hst, if_pos rfl]))
    clear hst hq1 hm1 lq lr hrw hn
    go_enter Tryd.func45, Tryd.ntmps45
    go_wp2_with (go_at_call 53; (refine (A.out _ (by (repeat (first | with_reducible exact Below.refl _ _ | with_reducible assumption | with_reducible refine up_alloc ?_ _ | with_reducible refine up_drew ?_ | with_reducible refine up_drewN ?_ _ | (with_reducible refine up_set ?_ ?hset _; case hset => first | (simp; done) | (simp; omega) | omega) | with_reducible refine up_trans ?_ (by with_reducible assumption))))).mono ?_); rintro e w1 ⟨rfl, hb1⟩)
    go_ret
    rw [HD.out]
    exact ⟨rfl, by (repeat (first | with_reducible exact Below.refl _ _ | with_reducible assumption | with_reducible refine up_alloc ?_ _ | with_reducible refine up_drew ?_ | with_reducible refine up_drewN ?_ _ | (with_reducible refine up_set ?_ ?hset _; case hset => first | (simp; done) | (simp; omega) | omega) | with_reducible refine up_trans ?_ (by with_reducible assumption)))⟩
  · have jr : 0 < (r : Int) := by omega
    have HD := Lib.hid (show bS (stpL n) = bS (Lib.decDigits q ++ 43 :: Lib.decDigits r) from congrArg bS (by rw [hst, if_neg h0]))
    have h1 : ∀ w : World, (Op.stringOp .add ⟨#[43]⟩ (bS (Lib.decDigits r))).run Tryd.prog w = .ok (.string (bS (43 :: Lib.decDigits r))) w := add_bS [43] (Lib.decDigits r) (by simp; omega)
    have h2 : ∀ w : World, (Op.stringOp .add (bS (Lib.decDigits q)) (bS (43 :: Lib.decDigits r))).run Tryd.prog w = .ok (.string (bS (Lib.decDigits q ++ 43 :: Lib.decDigits r))) w := add_bS (Lib.decDigits q) (43 :: Lib.decDigits r) (by simp; omega)
    clear hst hq1 hm1 lq lr h0 hn
    go_enter Tryd.func45, Tryd.ntmps45
    go_wp2_with (go_at_call 53; first | ((with_reducible show Calls Tryd.prog _ #[.int .i64 (q : Int)] _ _); refine (A.out _ (by (repeat (first | with_reducible exact Below.refl _ _ | with_reducible assumption | with_reducible refine up_alloc ?_ _ | with_reducible refine up_drew ?_ | with_reducible refine up_drewN ?_ _ | (with_reducible refine up_set ?_ ?hset _; case hset => first | (simp; done) | (simp; omega) | omega) | with_reducible refine up_trans ?_ (by with_reducible assumption))))).mono ?_; rintro e w1 ⟨rfl, hb1⟩) | ((with_reducible show Calls Tryd.prog _ #[.int .i64 (r : Int)] _ _); refine (B.out _ (by (repeat (first | with_reducible exact Below.refl _ _ | with_reducible assumption | with_reducible refine up_alloc ?_ _ | with_reducible refine up_drew ?_ | with_reducible refine up_drewN ?_ _ | (with_reducible refine up_set ?_ ?hset _; case hset => first | (simp; done) | (simp; omega) | omega) | with_reducible refine up_trans ?_ (by with_reducible assumption))))).mono ?_; rintro e w2 ⟨rfl, hb2⟩))
    go_ret
    rw [HD.out]
    exact ⟨rfl, by (repeat (first | with_reducible exact Below.refl _ _ | with_reducible assumption | with_reducible refine up_alloc ?_ _ | with_reducible refine up_drew ?_ | with_reducible refine up_drewN ?_ _ | (with_reducible refine up_set ?_ ?hset _; case hset => first | (simp; done) | (simp; omega) | omega) | with_reducible refine up_trans ?_ (by with_reducible assumption)))⟩
set_option maxRecDepth 100000 in
set_option maxHeartbeats 4000000 in
theorem spotText_s (x y : Nat) (hx : x ≤ 1280) (hy : y ≤ 672) (w : World) (ht : TabW w) : Calls Tryd.prog 35 #[.agg #[.int .i64 (x : Int), .int .i64 (y : Int)]] w (Ans w (.tuple #[.string (bS (spL x y)), .bool true])) := by
  have G := Lib.hid (show ∀ W, Calls Tryd.prog 29 #[.agg #[.int .i64 (x : Int), .int .i64 (y : Int)]] W (Ans W (.bool true)) from fun W => by
    have := isSpot_any (x : Int) (y : Int) W
    rw [show spotB (x : Int) (y : Int) = true from spotB_iff.2 ⟨⟨by omega, by omega⟩, by omega, by omega⟩] at this
    exact this)
  have A := Lib.hid (fun (W : World) (hW : Below w.heap.size w W) => stepsText_s x hx W (ht.up hW))
  have B := Lib.hid (fun (W : World) (hW : Below w.heap.size w W) => stepsText_s y (show y ≤ 1280 by omega) W (ht.up hW))
  have lx := stp_len hx
  have ly := stp_len (show y ≤ 1280 by omega)
  have HD := Lib.hid (show bS (spL x y) = bS (stpL x ++ 44 :: stpL y) from rfl)
  have h1 : ∀ w : World, (Op.stringOp .add (bS (stpL x)) ⟨#[44]⟩).run Tryd.prog w = .ok (.string (bS (stpL x ++ [44]))) w := add_bS (stpL x) [44] (by simp; omega)
  have h2 : ∀ w : World, (Op.stringOp .add (bS (stpL x ++ [44])) (bS (stpL y))).run Tryd.prog w = .ok (.string (bS (stpL x ++ [44] ++ stpL y))) w := add_bS (stpL x ++ [44]) (stpL y) (by simp; omega)
  clear lx ly hx hy
  go_enter Tryd.func35, Tryd.ntmps35
  go_wp2_with fail
  have hnew := cell_new2 w (.int .i64 (x : Int)) (.int .i64 (y : Int)) 38
  generalize hW : World.alloc _ _ = V at *
  have hb0 : Below w.heap.size w V := by subst hW; (repeat (first | with_reducible exact Below.refl _ _ | with_reducible assumption | with_reducible refine up_alloc ?_ _ | with_reducible refine up_drew ?_ | with_reducible refine up_drewN ?_ _ | (with_reducible refine up_set ?_ ?hset _; case hset => first | (simp; done) | (simp; omega) | omega) | with_reducible refine up_trans ?_ (by with_reducible assumption)))
  clear hW
  go_wp2_with (go_at_call 29; refine (G.out _).mono ?_; rintro e W ⟨rfl, hbV⟩)
  have g0 := up_keep (show Below V.heap.size V W from (by (repeat (first | with_reducible exact Below.refl _ _ | with_reducible assumption | with_reducible refine up_alloc ?_ _ | with_reducible refine up_drew ?_ | with_reducible refine up_drewN ?_ _ | (with_reducible refine up_set ?_ ?hset _; case hset => first | (simp; done) | (simp; omega) | omega) | with_reducible refine up_trans ?_ (by with_reducible assumption))))) hnew.1
  have g1 := up_keep (show Below V.heap.size V W from (by (repeat (first | with_reducible exact Below.refl _ _ | with_reducible assumption | with_reducible refine up_alloc ?_ _ | with_reducible refine up_drew ?_ | with_reducible refine up_drewN ?_ _ | (with_reducible refine up_set ?_ ?hset _; case hset => first | (simp; done) | (simp; omega) | omega) | with_reducible refine up_trans ?_ (by with_reducible assumption))))) hnew.2
  have hbW : Below w.heap.size w W := by (repeat (first | with_reducible exact Below.refl _ _ | with_reducible assumption | with_reducible refine up_alloc ?_ _ | with_reducible refine up_drew ?_ | with_reducible refine up_drewN ?_ _ | (with_reducible refine up_set ?_ ?hset _; case hset => first | (simp; done) | (simp; omega) | omega) | with_reducible refine up_trans ?_ (by with_reducible assumption)))
  clear hnew hb0 hbV
  go_region_held3 (fun w' => w'.cell? ⟨w.heap.size, 0, none⟩ = some (.int .i64 (x : Int)) ∧ w'.cell? ⟨w.heap.size, 1, none⟩ = some (.int .i64 (y : Int)))
    (first | exact ⟨by assumption, by assumption⟩ | go_keep) (first
    | (go_at_call 45; (with_reducible refine (A.out _ (by (repeat (first | with_reducible exact Below.refl _ _ | with_reducible assumption | with_reducible refine up_alloc ?_ _ | with_reducible refine up_drew ?_ | with_reducible refine up_drewN ?_ _ | (with_reducible refine up_set ?_ ?hset _; case hset => first | (simp; done) | (simp; omega) | omega) | with_reducible refine up_trans ?_ (by with_reducible assumption))))).mono ?_); rintro e wa ⟨rfl, hba⟩; have y0 := up_keep (show Below W.heap.size W wa from (by (repeat (first | with_reducible exact Below.refl _ _ | with_reducible assumption | with_reducible refine up_alloc ?_ _ | with_reducible refine up_drew ?_ | with_reducible refine up_drewN ?_ _ | (with_reducible refine up_set ?_ ?hset _; case hset => first | (simp; done) | (simp; omega) | omega) | with_reducible refine up_trans ?_ (by with_reducible assumption))))) g0; have y1 := up_keep (show Below W.heap.size W wa from (by (repeat (first | with_reducible exact Below.refl _ _ | with_reducible assumption | with_reducible refine up_alloc ?_ _ | with_reducible refine up_drew ?_ | with_reducible refine up_drewN ?_ _ | (with_reducible refine up_set ?_ ?hset _; case hset => first | (simp; done) | (simp; omega) | omega) | with_reducible refine up_trans ?_ (by with_reducible assumption))))) g1)
    | (go_at_call 45; (with_reducible refine (B.out _ (by (repeat (first | with_reducible exact Below.refl _ _ | with_reducible assumption | with_reducible refine up_alloc ?_ _ | with_reducible refine up_drew ?_ | with_reducible refine up_drewN ?_ _ | (with_reducible refine up_set ?_ ?hset _; case hset => first | (simp; done) | (simp; omega) | omega) | with_reducible refine up_trans ?_ (by with_reducible assumption))))).mono ?_); rintro e wb ⟨rfl, hbb⟩; have y0 := up_keep (show Below W.heap.size W wb from (by (repeat (first | with_reducible exact Below.refl _ _ | with_reducible assumption | with_reducible refine up_alloc ?_ _ | with_reducible refine up_drew ?_ | with_reducible refine up_drewN ?_ _ | (with_reducible refine up_set ?_ ?hset _; case hset => first | (simp; done) | (simp; omega) | omega) | with_reducible refine up_trans ?_ (by with_reducible assumption))))) g0; have y1 := up_keep (show Below W.heap.size W wb from (by (repeat (first | with_reducible exact Below.refl _ _ | with_reducible assumption | with_reducible refine up_alloc ?_ _ | with_reducible refine up_drew ?_ | with_reducible refine up_drewN ?_ _ | (with_reducible refine up_set ?_ ?hset _; case hset => first | (simp; done) | (simp; omega) | omega) | with_reducible refine up_trans ?_ (by with_reducible assumption))))) g1)
    | fail)
  all_goals
    go_wp2_with fail
    go_ret2
    rw [HD.out]
    exact ⟨rfl, by (repeat (first | with_reducible exact Below.refl _ _ | with_reducible assumption | with_reducible refine up_alloc ?_ _ | with_reducible refine up_drew ?_ | with_reducible refine up_drewN ?_ _ | (with_reducible refine up_set ?_ ?hset _; case hset => first | (simp; done) | (simp; omega) | omega) | with_reducible refine up_trans ?_ (by with_reducible assumption)))⟩
end Go.Proofs.YtbfhfjpfjkdcfaaDoor
