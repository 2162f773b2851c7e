/-
  FnExactChartText: for all arguments the law returns true, and its arguments read afterwards as before. No condition.
-/
import Derived.Test.YtbfhfjpfjkdcfaaDoorRows
import Derived.Test.YtbfhfjpfjkdcfaaDoorBase
import Derived.Test.YtbfhfjpfjkdcfaaDoorSpot
import Derived.Test.YtbfhfjpfjkdcfaaDoorSlice
import Derived.Test.YtbfhfjpfjkdcfaaDoorOpen
import Derived.Test.YtbfhfjpfjkdcfaaDoorLawS
import Derived.Test.YtbfhfjpfjkdcfaaDoorChart
import Derived.Test.YtbfhfjpfjkdcfaaDoorTxtM
import Derived.Test.YtbfhfjpfjkdcfaaDoorTxtJ
import Derived.Test.YtbfhfjpfjkdcfaaDoorLaid
import Derived.Test.YtbfhfjpfjkdcfaaDoorTie
import Derived.Test.YtbfhfjpfjkdcfaaDoorCards
namespace Go.Proofs.YtbfhfjpfjkdcfaaDoor
open Go.RowKit Go.ChangeShapes Go.WideShapes Go.Sort

set_option maxHeartbeats 1000000 in
theorem fnExactChartText_walk (v : Value) (n : Nat) (X Y : Nat → Int) (hn : n ≤ 9223372036854775807) (w : World) (h : Spots w v n X Y) (ht : TabW w) :
    Calls Tryd.prog 4 #[v] w (Ans w (.bool true)) := by
  have HZ := Lib.hid (szSpotS_any v n X Y 1048576 (by omega) (by omega) hn w h)
  by_cases hl : n ≤ 1048576
  · rw [show szV 1048576 n = 1048576 - n by unfold szV; rw [if_pos (by omega)]] at HZ
    have HT := Lib.hid (fun W (hW : Below w.heap.size w W) => toSpotS_any v n X Y hl W (h.up hW))
    obtain ⟨txt, htx⟩ : ∃ txt, txt = bS (if chartB n X Y = true then txL X Y n else []) := ⟨_, rfl⟩
    obtain ⟨q, hq⟩ : ∃ q, q = chartB n X Y := ⟨_, rfl⟩
    have HI := Lib.hid (fun v W (hv : Spots W v n X Y) (hW : Below w.heap.size w W) => implChartText_s v n X Y W hv hn (ht.up hW))
    have HS := Lib.hid (fun v W (hv : Spots W v n X Y) => specChartText_s v n X Y W hv hn)
    have HE := Lib.hid (fun v v' w' (a : Spots w' v n X Y) (b : Spots w' v' n X Y) => eqSpotS_same v v' n X Y hl w' a b)
    rw [← htx, ← hq] at HI HS
    clear htx hq ht
    go_enter Tryd.func4, Tryd.ntmps4
    go_wp2_with (go_at_call 10; refine (HZ.out).mono ?_; rintro e w1 ⟨rfl, hb1⟩)
    go_wp2_with (go_at_call 12; refine (HT.out _ (by (repeat (first | with_reducible exact Below.refl _ _ | with_reducible assumption | with_reducible refine up_alloc ?_ _ | with_reducible refine up_drew ?_ | with_reducible refine up_drewN ?_ _ | (with_reducible refine up_set ?_ ?hset _; case hset => first | (simp; done) | (simp; omega) | omega) | with_reducible refine up_trans ?_ (by with_reducible assumption))))).mono ?_; rintro e w2 ⟨v2, rfl, ho2, hb2⟩)
    go_wp2_with (go_at_call 11; refine (HS.out _ _ ho2.spots).mono ?_; rintro e w3 ⟨rfl, hb3⟩)
    go_wp2_with (go_at_call 12; refine (HT.out _ (by (repeat (first | with_reducible exact Below.refl _ _ | with_reducible assumption | with_reducible refine up_alloc ?_ _ | with_reducible refine up_drew ?_ | with_reducible refine up_drewN ?_ _ | (with_reducible refine up_set ?_ ?hset _; case hset => first | (simp; done) | (simp; omega) | omega) | with_reducible refine up_trans ?_ (by with_reducible assumption))))).mono ?_; rintro e w4 ⟨v4, rfl, ho4, hb4⟩)
    go_wp2_with (go_at_call 13; refine (HI.out _ _ ho4.spots (by (repeat (first | with_reducible exact Below.refl _ _ | with_reducible assumption | with_reducible refine up_alloc ?_ _ | with_reducible refine up_drew ?_ | with_reducible refine up_drewN ?_ _ | (with_reducible refine up_set ?_ ?hset _; case hset => first | (simp; done) | (simp; omega) | omega) | with_reducible refine up_trans ?_ (by with_reducible assumption))))).mono ?_; rintro e w5 ⟨rfl, hb5⟩)
    go_wp2_with (go_at_call 12; refine (HT.out _ (by (repeat (first | with_reducible exact Below.refl _ _ | with_reducible assumption | with_reducible refine up_alloc ?_ _ | with_reducible refine up_drew ?_ | with_reducible refine up_drewN ?_ _ | (with_reducible refine up_set ?_ ?hset _; case hset => first | (simp; done) | (simp; omega) | omega) | with_reducible refine up_trans ?_ (by with_reducible assumption))))).mono ?_; rintro e w6 ⟨v6, rfl, ho6, hb6⟩)
    go_wp2_with (go_at_call 7; refine (HE.out _ _ _ (ho4.spots.up (show Below w4.heap.size w4 _ from (by (repeat (first | with_reducible exact Below.refl _ _ | with_reducible assumption | with_reducible refine up_alloc ?_ _ | with_reducible refine up_drew ?_ | with_reducible refine up_drewN ?_ _ | (with_reducible refine up_set ?_ ?hset _; case hset => first | (simp; done) | (simp; omega) | omega) | with_reducible refine up_trans ?_ (by with_reducible assumption)))))) ho6.spots).mono ?_; rintro e w7 ⟨rfl, hb7⟩)
    go_ret
    exact Ans.bool rfl (by (repeat (first | with_reducible exact Below.refl _ _ | with_reducible assumption | with_reducible refine up_alloc ?_ _ | with_reducible refine up_drew ?_ | with_reducible refine up_drewN ?_ _ | (with_reducible refine up_set ?_ ?hset _; case hset => first | (simp; done) | (simp; omega) | omega) | with_reducible refine up_trans ?_ (by with_reducible assumption))))
  · rw [show szV 1048576 n = -1 by unfold szV; rw [if_neg (by omega)]] at HZ
    go_enter Tryd.func4, Tryd.ntmps4
    go_wp2_with ((go_at_call 10; refine (HZ.out).mono ?_; rintro e w1 ⟨rfl, hb⟩))
    go_ret
    exact Ans.bool rfl (by (repeat (first | with_reducible exact Below.refl _ _ | with_reducible assumption | with_reducible refine up_alloc ?_ _ | with_reducible refine up_drew ?_ | with_reducible refine up_drewN ?_ _ | (with_reducible refine up_set ?_ ?hset _; case hset => first | (simp; done) | (simp; omega) | omega) | with_reducible refine up_trans ?_ (by with_reducible assumption))))
theorem fnExactChartText_law : LawWalkX Tryd.prog (fun W => laidMet Tryd.prog Rows.fnExactChartTextRow.laid W) 4 Tryd.f4 := by
  intro H enc W base args ds ps hval hA hL
  rw [Tryd.params4] at hval hA
  obtain ⟨v0, d0, rfl, rfl, h0⟩ := trodAll_one hA
  obtain ⟨n, X, Y, hs, hn⟩ := open_spots (hval 0 _ v0 rfl rfl) h0
  have hT : TabW W := Lib.tabIs_of_head (P := Tryd.prog) (t := 97) (e := 91) (n := 20) (rest := []) (g := 3) (by kernel_rfl) (by kernel_rfl) Tryd.underlying97 Tryd.underlying91 (by kernel_rfl) (by kernel_rfl) hL.tail.tail
  exact fnExactChartText_walk v0 n X Y hn W hs hT
/-- A world that holds the tables. -/
noncomputable def textWorld (os : Os) : World :=
  let w0 := World.holding Tryd.prog os ⟨#[], #[], []⟩
  { w0 with heap := ((w0.heap.modify 4 (layCells (cellsOfData Rows.laid_math_bits_deBruijn32tab))).modify 5 (layCells (cellsOfData Rows.laid_math_bits_deBruijn64tab))).modify 3 (layCells (cellsOfData Rows.laid_internal_strconv_uint64pow10)) }
theorem textWorld_met (os : Os) (args : Array Value) : laidMet Tryd.prog Rows.fnExactChartTextRow.laid ((textWorld os).forCall (fun _ _ => 0) ⟨#[], args, []⟩).memory :=
  laidMet_of_run' 8 (by kernel_rfl) (by kernel_rfl)
set_option maxRecDepth 100000 in
set_option maxHeartbeats 4000000 in
theorem fnExactChartText_wit (os : Os) (H : Type) (enc : TypeId × Value → H) : ∃ (w : World) (tape : Tape) (i : Input), w.os = os ∧ (w.forCall tape i).Shaped Tryd.checked.prog ∧ i.vars = [] ∧ Input.okWide Tryd.checked.prog (w.forCall tape i) .any w.heap.size 4 i ∧
      ((Rows.fnExactChartTextSpec.pre enc Tryd.checked.prog Tryd.f4 [] false (w.forCall tape i).memory i.args ∧ laidMet Tryd.prog Rows.fnExactChartTextRow.laid (w.forCall tape i).memory) ∧ sizedMet enc Tryd.checked.prog Tryd.f4 (OpenSpec.ofChange Rows.fnExactChartTextSpec) false (w.forCall tape i).memory i.args) ∧ ({} : Assume).holds Tryd.checked.prog (lone (Frame.enter Tryd.checked.prog 4 i.args .normal) [] (w.forCall tape i)) :=
  ChangeSpec.witness_at (enc := enc) (C := Tryd.checked) (os := os) (X := fun w _ => laidMet Tryd.prog Rows.fnExactChartTextRow.laid w) false (textWorld os) #[.slice none 0 0] 8 rfl (by kernel_rfl) (by kernel_rfl) (by kernel_rfl) (by kernel_rfl) (by kernel_rfl) (textWorld_met os _)
set_option maxRecDepth 100000 in
set_option maxHeartbeats 4000000 in
theorem fnExactChartText_row (os : Os) (started : os.Started) (H : Type) (enc : TypeId × Value → H) :
    ReturnsInHanded {} Tryd.checked os 4 .any (fun w args => (Rows.fnExactChartTextSpec.pre enc Tryd.prog Tryd.f4 [] false w args ∧ laidMet Tryd.prog Rows.fnExactChartTextRow.laid w) ∧ sizedMet enc Tryd.prog Tryd.f4 (OpenSpec.ofChange Rows.fnExactChartTextSpec) false w args) (Rows.fnExactChartTextSpec.post enc Tryd.checked.prog Tryd.f4 false true false false) :=
  liftedX_of (C := Tryd.checked) (X := fun W => laidMet Tryd.prog Rows.fnExactChartTextRow.laid W) (fun _ _ hh h => h.of_heap hh) (s := Rows.fnExactChartTextSpec) (tb := 4) (by kernel_rfl) (by kernel_rfl) (by kernel_rfl) (by kernel_rfl) Tryd.func4 rfl Tryd.underlying4 rfl
      (fun H ds h => by
        have h2 : ds.length = 1 := by rw [Tryd.params4] at h; exact h
        match ds, h2 with
        | [_], _ => rfl)
      fnExactChartText_law os started H enc (fnExactChartText_wit os H enc)
set_option maxRecDepth 100000 in
set_option maxHeartbeats 4000000 in
theorem fnExactChartText_holds : Rows.FnExactChartTextSaid :=
  OpenClaim.holds_of_wide 4 Tryd.f4 rfl rfl rfl rfl rfl rfl rfl ⟨rfl, rfl, rfl, rfl, rfl⟩ rfl rfl rfl rfl rfl (by kernel_rfl) Tryd.func4 (by kernel_rfl)
    (of_decide_eq_true (by kernel_rfl)) (by unfold Func.isWrapper; first | (rw [if_pos (by decide +kernel)]; kernel_rfl) | (rw [if_neg (by decide +kernel)]; exact ⟨rfl, rfl⟩))
    (fun os started H enc _ => fnExactChartText_row os started H enc)
set_option maxRecDepth 100000 in
theorem fnExactChartText_card : Rows.FnExactChartTextCardSaid :=
  Claim7.holds_tied_plain_at .later [] [.data, .data, .data] true (true, "267671112f5ff1adbd507ea477d8b745587903763f0caa9454d302b70fe58f93") false
    fnExactChartText_holds (fun _ h => by cases h) (by kernel_rfl) (fun _ h => by cases h) fnExactChartText_row_tie rfl ⟨rfl, rfl⟩ (by kernel_rfl) rfl
    (fun f fn hf hfn => by
      obtain rfl : f = 4 := Option.some.inj ((show Tryd.prog.funcNamed "loop.example/g00939/laws.FnExactChartText" = some 4 by kernel_rfl).symm.trans hf) |>.symm
      obtain rfl : fn = Tryd.f4 := (Option.some.inj (Tryd.func4.symm.trans hfn)).symm
      exact ⟨by kernel_rfl, fun j t ht => by
        rw [Tryd.params4] at ht
        have h3 : t = 28 := by
          rcases j with _ | j
          · simpa using ht.symm
          · simp at ht
        subst h3
        exact (show Tryd.prog.wantsStandIn 28 = false by kernel_rfl)⟩)
    (by kernel_rfl)
#print axioms fnExactChartText_card
end Go.Proofs.YtbfhfjpfjkdcfaaDoor
