/-
  FnExactParseChart: for all arguments the law returns true, and its argument reads afterwards as before. No condition.
-/
import Derived.Test.YtbfhfjpfjkdcfaaDoorRows
import Derived.Test.YtbfhfjpfjkdcfaaDoorBase
import Derived.Test.YtbfhfjpfjkdcfaaDoorSpot
import Derived.Test.YtbfhfjpfjkdcfaaDoorSlice
import Derived.Test.YtbfhfjpfjkdcfaaDoorOpen
import Derived.Test.YtbfhfjpfjkdcfaaDoorLawS
import Derived.Test.YtbfhfjpfjkdcfaaDoorMark
import Derived.Test.YtbfhfjpfjkdcfaaDoorForm
import Derived.Test.YtbfhfjpfjkdcfaaDoorChart
import Derived.Test.YtbfhfjpfjkdcfaaDoorPrsP
import Derived.Test.YtbfhfjpfjkdcfaaDoorPrsY
import Derived.Test.YtbfhfjpfjkdcfaaDoorPrsZ
import Derived.Test.YtbfhfjpfjkdcfaaDoorLaid
import Derived.Test.YtbfhfjpfjkdcfaaDoorLaidS
import Derived.Test.YtbfhfjpfjkdcfaaDoorTie
import Derived.Test.YtbfhfjpfjkdcfaaDoorCards
import Derived.PinnedBridge
import Derived.Lay
namespace Go.Proofs.YtbfhfjpfjkdcfaaDoor
open Go.RowKit Go.ChangeShapes Go.WideShapes Go.Sort Go.Proofs

theorem specR_len (l : List UInt8) : ((specR l).getD []).length ≤ 12 := by
  cases h : specR l with
  | none => simp
  | some o =>
    unfold specR at h
    split at h
    · cases h
    · split at h
      · cases h
      · split at h
        · rename_i hc
          obtain rfl := Option.some.inj h
          exact (chartB_iff.1 hc.1).1.2
        · cases h
set_option maxHeartbeats 4000000 in
theorem fnExactParseChart_walk (l : List UInt8) (w : World) (hm : MaxW w) :
    Calls Tryd.prog 3 #[.string (bS l)] w (Ans w (.bool true)) := by
  have hsz := bS_size l
  obtain ⟨n, hn⟩ : ∃ n, n = l.length := ⟨_, rfl⟩
  rw [← hn] at hsz
  by_cases hl : n ≤ 1048576
  · have HS := Lib.hid (fun w' => specParseChart_s l w' (by omega))
    have HI := Lib.hid (fun w' (hw : Below w.heap.size w w') => parseChart_s l w' (by omega) (hm.up hw))
    have hk := specR_len l
    rw [← specR_implR l] at HI
    unfold AnsP at HS HI
    generalize (specR l).isSome = q at *
    generalize xO ((specR l).getD []) = X at *
    generalize yO ((specR l).getD []) = Y at *
    generalize ((specR l).getD []).length = m at *
    replace HS := HS.out
    replace HI := HI.out
    clear hn
    generalize bS l = s at *
    go_enter Tryd.func3, Tryd.ntmps3
    have hW0 := Below.refl w.heap.size w
    go_wp2_with fail
    refine (HS _).mono ?_
    rintro e w1 ⟨rS, rfl, h_rS_1, hb0⟩
    have hz0 := hb0.size
    have hW1 := up_trans hW0 hb0
    go_wp2_with fail
    refine (HI _ hW1).mono ?_
    rintro e w2 ⟨rI, rfl, h_rI_2, hb1⟩
    have hz1 := hb1.size
    have hW2 := up_trans hW1 hb1
    have h_rS_2 := h_rS_1.up hb1
    go_wp2_with fail
    refine (eqSpotS_g rI rS _ _ _ _ h_rI_2.spots h_rS_2.spots (by omega)).mono ?_
    rintro e w3 ⟨rfl, hb2⟩
    have hz2 := hb2.size
    have hW3 := up_trans hW2 hb2
    have h_rI_3 := h_rI_2.up hb2
    go_wp2_with fail
    refine (markSpotS_g _ rI _ _ _ 1 _ h_rI_3 (by omega) (by omega) (by omega)).mono ?_
    rintro e w4 ⟨rfl, hg3, h_rI_4⟩
    have hz3 := hg3.size
    have hB3 : Below w1.heap.size w3 w4 := below_old h_rI_3 hg3 (by omega)
    have hW4 := hW3.trans (hB3.mono (by omega))
    go_wp2_with fail
    refine (heldSpotS_g rI _ 1 _ h_rI_4.spots (by omega) (by omega) (by omega)).mono ?_
    rintro e w5 ⟨rfl, hb4⟩
    have hz4 := hb4.size
    have hW5 := up_trans hW4 hb4
    go_wp2_with fail
    refine (HI _ hW5).mono ?_
    rintro e w6 ⟨rH, rfl, h_rH_6, hb5⟩
    have hz5 := hb5.size
    have hW6 := up_trans hW5 hb5
    have h_rS_3 := h_rS_2.up hb2
    have h_rS_4 := Spots.old h_rS_1.spots h_rS_3.spots hB3
    have h_rS_5 := h_rS_4.up hb4
    have h_rS_6 := h_rS_5.up hb5
    go_wp2_with fail
    refine (eqSpotS_g rH rS _ _ _ _ h_rH_6.spots h_rS_6 (by omega)).mono ?_
    rintro e w7 ⟨rfl, hb6⟩
    have hz6 := hb6.size
    have hW7 := up_trans hW6 hb6
    have h_rI_5 := h_rI_4.up hb4
    have h_rI_6 := h_rI_5.up hb5
    have h_rI_7 := h_rI_6.up hb6
    go_wp2_with fail
    refine (heldSpotS_g rI _ 1 _ h_rI_7.spots (by omega) (by omega) (by omega)).mono ?_
    rintro e w8 ⟨rfl, hb7⟩
    have hz7 := hb7.size
    have hW8 := up_trans hW7 hb7
    go_wp2_with fail
    go_ret
    exact Ans.bool rfl hW8
  · have j : (1048576 : Int) < (n : Int) := by omega
    clear hn
    generalize bS l = s at *
    go_enter Tryd.func3, Tryd.ntmps3
    go_wp2_with fail
    go_ret
    exact Ans.bool rfl (by (repeat (first | with_reducible exact Below.refl _ _ | with_reducible assumption | with_reducible refine up_alloc ?_ _ | with_reducible refine up_drew ?_ | with_reducible refine up_drewN ?_ _ | (with_reducible refine up_set ?_ ?hset _; case hset => first | (simp; done) | (simp; omega) | omega) | with_reducible refine up_trans ?_ (by with_reducible assumption))))
theorem fnExactParseChart_law : LawWalkXS Tryd.prog (fun W => laidMet Tryd.prog Rows.fnExactParseChartRow.laid W) 3 Tryd.f3 := by
  intro H enc W base args ds ps hval hA _ hsh
  rw [Tryd.params3] at hval hA
  obtain ⟨v0, d0, rfl, rfl, h0⟩ := trodAll_one hA
  obtain ⟨s, rfl⟩ := okWide_string Tryd.underlying9 (hval 0 _ v0 rfl rfl)
  have hM : MaxW W := cell_of_shapedOpen_int (P := Tryd.prog) (g := 0) (t := 3) (zero := #[.int .i64 0]) hsh (of_decide_eq_true (by kernel_rfl)) (by kernel_rfl) rfl (by kernel_rfl) (by kernel_rfl) Tryd.underlying3
  have := fnExactParseChart_walk s.data.toList W hM
  rwa [show bS s.data.toList = s from rfl] at this
set_option maxRecDepth 100000 in
set_option maxHeartbeats 4000000 in
theorem fnExactParseChart_wit (os : Os) (H : Type) (enc : TypeId × Value → H) : ∃ (w : World) (tape : Tape) (i : Input), w.os = os ∧ (w.forCall tape i).Shaped Tryd.checked.prog ∧ i.vars = [] ∧ Input.okWide Tryd.checked.prog (w.forCall tape i) .any w.heap.size 3 i ∧
      ((Rows.fnExactParseChartSpec.pre enc Tryd.checked.prog Tryd.f3 [] false (w.forCall tape i).memory i.args ∧ laidMet Tryd.prog Rows.fnExactParseChartRow.laid (w.forCall tape i).memory) ∧ sizedMet enc Tryd.checked.prog Tryd.f3 (OpenSpec.ofChange Rows.fnExactParseChartSpec) false (w.forCall tape i).memory i.args) ∧ ({} : Assume).holds Tryd.checked.prog (lone (Frame.enter Tryd.checked.prog 3 i.args .normal) [] (w.forCall tape i)) :=
  ChangeSpec.witness_shaped (enc := enc) (C := Tryd.checked) (os := os) (X := fun w _ => laidMet Tryd.prog Rows.fnExactParseChartRow.laid w) false (World.laidAll Tryd.prog os Rows.fnExactParseChartRow.laid) #[.string ⟨#[]⟩] 8 (World.laidAll_os _ _ _)
      (World.shaped_of_ZipB (by kernel_rfl) (by kernel_rfl)) (by kernel_rfl) (by kernel_rfl) (by kernel_rfl) (laidMet_laidAll _ (by kernel_rfl) (by kernel_rfl))
set_option maxRecDepth 100000 in
set_option maxHeartbeats 4000000 in
theorem fnExactParseChart_row (os : Os) (started : os.Started) (H : Type) (enc : TypeId × Value → H) :
    ReturnsInHanded {} Tryd.checked os 3 .any (fun w args => (Rows.fnExactParseChartSpec.pre enc Tryd.prog Tryd.f3 [] false w args ∧ laidMet Tryd.prog Rows.fnExactParseChartRow.laid w) ∧ sizedMet enc Tryd.prog Tryd.f3 (OpenSpec.ofChange Rows.fnExactParseChartSpec) false w args) (Rows.fnExactParseChartSpec.post enc Tryd.checked.prog Tryd.f3 false true false false) :=
  liftedXS_of (C := Tryd.checked) (X := fun W => laidMet Tryd.prog Rows.fnExactParseChartRow.laid W) (fun _ _ hh h => h.of_heap hh) (s := Rows.fnExactParseChartSpec) (tb := 4) (by kernel_rfl) (by kernel_rfl) (by kernel_rfl) (by kernel_rfl) Tryd.func3 rfl Tryd.underlying4 rfl
      (fun H ds h => by
        have h2 : ds.length = 1 := by rw [Tryd.params3] at h; exact h
        match ds, h2 with
        | [_], _ => rfl)
      fnExactParseChart_law os started H enc (fnExactParseChart_wit os H enc)
set_option maxRecDepth 100000 in
set_option maxHeartbeats 4000000 in
theorem fnExactParseChart_holds : Rows.FnExactParseChartSaid :=
  OpenClaim.holds_of_wide 3 Tryd.f3 rfl rfl rfl rfl rfl rfl rfl ⟨rfl, rfl, rfl, rfl, rfl⟩ rfl rfl rfl rfl rfl (by kernel_rfl) Tryd.func3 (by kernel_rfl)
    (of_decide_eq_true (by kernel_rfl)) (by unfold Func.isWrapper; first | (rw [if_pos (by decide +kernel)]; kernel_rfl) | (rw [if_neg (by decide +kernel)]; exact ⟨rfl, rfl⟩))
    (fun os started H enc _ => fnExactParseChart_row os started H enc)
set_option maxRecDepth 100000 in
theorem fnExactParseChart_card : Rows.FnExactParseChartCardSaid :=
  Claim7.holds_tied_plain_at .later [] [.data, .pinned] true (true, "267671112f5ff1adbd507ea477d8b745587903763f0caa9454d302b70fe58f93") false
    fnExactParseChart_holds (fun _ h => by cases h) (by kernel_rfl) (fun _ h => by cases h) fnExactParseChart_row_tie rfl ⟨rfl, rfl⟩ (by kernel_rfl) rfl
    (fun f fn hf hfn => by
      obtain rfl : f = 3 := Option.some.inj ((show Tryd.prog.funcNamed "loop.example/g00939/laws.FnExactParseChart" = some 3 by kernel_rfl).symm.trans hf) |>.symm
      obtain rfl : fn = Tryd.f3 := (Option.some.inj (Tryd.func3.symm.trans hfn)).symm
      exact ⟨by kernel_rfl, fun j t ht => by
        rw [Tryd.params3] at ht
        have h3 : t = 9 := by
          rcases j with _ | j
          · simpa using ht.symm
          · simp at ht
        subst h3
        exact (show Tryd.prog.wantsStandIn 9 = false by kernel_rfl)⟩)
    (by kernel_rfl)
#print axioms fnExactParseChart_card
end Go.Proofs.YtbfhfjpfjkdcfaaDoor
