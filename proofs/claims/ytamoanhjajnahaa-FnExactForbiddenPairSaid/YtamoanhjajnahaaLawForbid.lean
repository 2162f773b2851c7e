/-
  FnExactForbiddenPair: for all arguments the law returns true, and its arguments read afterwards as before. No condition.
-/
import Derived.Test.YtamoanhjajnahaaRows
import Derived.Test.YtamoanhjajnahaaBase
import Derived.Test.YtamoanhjajnahaaSpot
import Derived.Test.YtamoanhjajnahaaSlice
import Derived.Test.YtamoanhjajnahaaLawS
import Derived.Test.YtamoanhjajnahaaMark
import Derived.Test.YtamoanhjajnahaaOpen
import Derived.Test.YtamoanhjajnahaaTrod
import Derived.Test.YtamoanhjajnahaaInts
import Derived.Test.YtamoanhjajnahaaIntsL
import Derived.Test.YtamoanhjajnahaaTurned
import Derived.Test.YtamoanhjajnahaaTrans
import Derived.Test.YtamoanhjajnahaaOpenT
import Derived.Test.YtamoanhjajnahaaRowsI
import Derived.Test.YtamoanhjajnahaaCosts
import Derived.Test.YtamoanhjajnahaaAppend
import Derived.Test.YtamoanhjajnahaaAppendE
import Derived.Test.YtamoanhjajnahaaForm
import Derived.Test.YtamoanhjajnahaaCopyI
import Derived.Test.YtamoanhjajnahaaMatch
import Derived.Test.YtamoanhjajnahaaMatS
import Derived.Test.YtamoanhjajnahaaMatchP
import Derived.Test.YtamoanhjajnahaaMatchQ
import Derived.Test.YtamoanhjajnahaaOnes
import Derived.Test.YtamoanhjajnahaaTable
import Derived.Test.YtamoanhjajnahaaLeast
import Derived.Test.YtamoanhjajnahaaLeastM
import Derived.Test.YtamoanhjajnahaaRowB
import Derived.Test.YtamoanhjajnahaaPair
namespace Go.Proofs.Ytamoanhjajnahaa
open Go.RowKit Go.ChangeShapes Go.WideShapes Go.Sort

set_option maxRecDepth 100000 in
set_option maxHeartbeats 8000000 in
theorem fnExactForbiddenPair_walk (v : Value) (n : Nat) (R : Nat → Nat) (F : Nat → Nat → Int) (i : Int) (k : Int) (hn : n ≤ 9223372036854775807) (hR : ∀ i, i < n → R i ≤ 9223372036854775807) (w : World) (h : IRows w v n R F) :
    Calls Try.prog 8 #[v, .int .i64 i, .int .i64 k] w (Ans w (.bool true)) := by
  by_cases hle : (n : Int) + (sumR R n : Nat) ≤ 1048576
  · have HZ := szR_pos hle
    have hRR : ∀ i, i < n → R i ≤ 1048576 := fun i hi => by have := sumR_one (R := R) hi; omega
    have HS := Lib.hid (fun v w' (hw : IRows w' v n R F) => sForbiddenPair_g v n R F i k w' hw (by omega) hRR)
    have HI := Lib.hid (fun v w' (hw : IRows w' v n R F) => iForbiddenPair_g v n R F i k w' hw (by omega) hRR)
    obtain ⟨za, zq, hv⟩ : ∃ za zq, fpV n R F i k = .tuple #[.int .i64 za, .bool zq] := ⟨_, _, rfl⟩
    rw [hv] at HI HS
    clear hv
    have eza : (za != za) = false := by simp
    have ezq : (zq != zq) = false := by simp
    go_enter Try.func8, Try.ntmps8
    have hW0 := Below.refl w.heap.size w
    go_wp2_with fail
    refine (szIntSS_g v _ _ _ _ _ h (by omega) (by omega) hn hR).mono ?_
    rintro e w1 ⟨rfl, hb0⟩
    have hz0 := hb0.size
    have hW1 := up_trans hW0 hb0
    have h_a_1 := h.up hb0
    go_wp2_with fail
    refine (toIntSS_g v _ _ _ _ h_a_1 (by omega) hRR).mono ?_
    rintro e w2 ⟨t0, rfl, h_t0_2, hb1⟩
    have hz1 := hb1.size
    have hW2 := up_trans hW1 hb1
    go_wp2_with fail
    refine (HS.out t0 _ h_t0_2.rows).mono ?_
    rintro e w3 ⟨rfl, hb2⟩
    have hz2 := hb2.size
    have hW3 := up_trans hW2 hb2
    have h_a_2 := h_a_1.up hb1
    have h_a_3 := h_a_2.up hb2
    go_wp2_with fail
    refine (toIntSS_g v _ _ _ _ h_a_3 (by omega) hRR).mono ?_
    rintro e w4 ⟨x0, rfl, h_x0_4, hb3⟩
    have hz3 := hb3.size
    have hW4 := up_trans hW3 hb3
    go_wp2_with fail
    refine (HI.out x0 _ h_x0_4.rows).mono ?_
    rintro e w5 ⟨rfl, hb4⟩
    have hz4 := hb4.size
    have hW5 := up_trans hW4 hb4
    have h_a_4 := h_a_3.up hb3
    have h_a_5 := h_a_4.up hb4
    go_wp2_with fail
    refine (toIntSS_g v _ _ _ _ h_a_5 (by omega) hRR).mono ?_
    rintro e w6 ⟨y0, rfl, h_y0_6, hb5⟩
    have hz5 := hb5.size
    have hW6 := up_trans hW5 hb5
    have h_x0_5 := h_x0_4.up hb4
    have h_x0_6 := h_x0_5.up hb5
    go_wp2_with fail
    refine (eqIntSS_g x0 y0 _ _ _ _ h_x0_6.rows h_y0_6.rows (by omega) hRR).mono ?_
    rintro e w7 ⟨rfl, hb6⟩
    have hz6 := hb6.size
    have hW7 := up_trans hW6 hb6
    go_wp2_with fail
    go_ret
    exact Ans.bool rfl hW7
  · have HZ := szR_neg hle
    go_enter Try.func8, Try.ntmps8
    go_wp2_with fail
    refine (szIntSS_g v _ _ _ _ _ h (by omega) (by omega) hn hR).mono ?_
    rintro e w1 ⟨rfl, hb0⟩
    go_wp2_with fail
    go_ret
    exact Ans.bool rfl hb0

set_option maxRecDepth 100000 in
theorem fnExactForbiddenPair_law : LawWalk Try.prog 8 Try.f8 := by
  intro H enc W base args ds ps hval hA
  rw [Try.params8] at hval hA
  obtain ⟨v0, v1, v2, d0, d1, d2, p0, p1, p2, rfl, h0, h1, h2⟩ := args3 hA
  obtain ⟨n, R, F, hs, hn, hR⟩ := open_rows (hval 0 _ v0 rfl rfl) h0
  obtain ⟨i, rfl, _⟩ := open_int Try.underlying3 (hval 1 _ v1 rfl rfl) h1
  obtain ⟨k, rfl, _⟩ := open_int Try.underlying3 (hval 2 _ v2 rfl rfl) h2
  exact fnExactForbiddenPair_walk v0 n R F i k hn hR W hs

set_option maxRecDepth 100000 in
set_option maxHeartbeats 4000000 in
theorem fnExactForbiddenPair_wit (os : Os) (H : Type) (enc : TypeId × Value → H) : ∃ (w : World) (tape : Tape) (i : Input), w.os = os ∧ (w.forCall tape i).Shaped Try.checked.prog ∧ i.vars = [] ∧ Input.okWide Try.checked.prog (w.forCall tape i) .any w.heap.size 8 i ∧
      Rows.fnExactForbiddenPairSpec.pre6 enc Try.checked.prog Try.f8 [] false (w.forCall tape i).memory i.args ∧ ({} : Assume).holds Try.checked.prog (lone (Frame.enter Try.checked.prog 8 i.args .normal) [] (w.forCall tape i)) :=
  ChangeSpec.witness6 (enc := enc) (C := Try.checked) false ⟨#[], #[.slice none 0 0, .int .i64 0, .int .i64 0], []⟩ 8 (by kernel_rfl) (by kernel_rfl) (by kernel_rfl) (by kernel_rfl)

set_option maxRecDepth 100000 in
set_option maxHeartbeats 4000000 in
theorem fnExactForbiddenPair_row (os : Os) (started : os.Started) (H : Type) (enc : TypeId × Value → H) :
    ReturnsInHanded {} Try.checked os 8 .any (Rows.fnExactForbiddenPairSpec.pre6 enc Try.checked.prog Try.f8 [] false) (Rows.fnExactForbiddenPairSpec.post enc Try.checked.prog Try.f8 false true false false) :=
  lifted_of (C := Try.checked) (s := Rows.fnExactForbiddenPairSpec) (tb := 4) (by kernel_rfl) (by kernel_rfl) (by kernel_rfl) (by kernel_rfl) Try.func8 rfl Try.underlying4 rfl
      (fun H ds h => by
        have h2 : ds.length = 3 := by rw [Try.params8] at h; exact h
        match ds, h2 with
        | [_, _, _], _ => rfl)
      fnExactForbiddenPair_law os started H enc (fnExactForbiddenPair_wit os H enc)

set_option maxRecDepth 100000 in
set_option maxHeartbeats 4000000 in
theorem fnExactForbiddenPair_holds : Rows.FnExactForbiddenPairSaid :=
  OpenClaim.holds_of_wide 8 Try.f8 rfl rfl rfl rfl rfl rfl rfl ⟨rfl, rfl, rfl, rfl, rfl⟩ rfl rfl rfl rfl rfl (by kernel_rfl) Try.func8 (by kernel_rfl)
    (of_decide_eq_true (by kernel_rfl)) (by unfold Func.isWrapper; first | (rw [if_pos (by decide +kernel)]; kernel_rfl) | (rw [if_neg (by decide +kernel)]; exact ⟨rfl, rfl⟩))
    (fun os started H enc _ => fnExactForbiddenPair_row os started H enc)

#print axioms fnExactForbiddenPair_holds
end Go.Proofs.Ytamoanhjajnahaa
