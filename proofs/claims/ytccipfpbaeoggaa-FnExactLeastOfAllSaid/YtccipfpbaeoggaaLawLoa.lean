/-
  FnExactLeastOfAll: for all arguments the law returns true, and its arguments read afterwards as before. No condition.
-/
import Derived.Test.YtccipfpbaeoggaaRows
import Derived.Test.YtccipfpbaeoggaaBase
import Derived.Test.YtccipfpbaeoggaaSlice
import Derived.Test.YtccipfpbaeoggaaLawS
import Derived.Test.YtccipfpbaeoggaaOpen
import Derived.Test.YtccipfpbaeoggaaTrod
import Derived.Test.YtccipfpbaeoggaaMoves
import Derived.Test.YtccipfpbaeoggaaCloseM
namespace Go.Proofs.Ytccipfpbaeoggaa
open Go.RowKit Go.ChangeShapes Go.WideShapes Go.Sort

set_option maxRecDepth 100000 in
set_option maxHeartbeats 4000000 in
theorem fnExactLeastOfAll_walk (v : Value) (n : Nat) (M : Nat → Nat → Int) (hn : n ≤ 9223372036854775807) (w : World) (h : Moves w v n M) :
    Calls Try.prog 10 #[v] w (Ans w (.bool true)) := by
  by_cases hl : n ≤ 1048576
  · have HZ := szV_pos (left := 1048576) (n := n) (by omega)
    have HS := Lib.hid (fun v w' (hw : Moves w' v n M) => sLeastOfAll_any v n M w' hw hl)
    have HI := Lib.hid (fun v w' (hw : Moves w' v n M) => iLeastOfAll_any v n M w' hw hl)
    obtain ⟨a, b, d, hv⟩ : ∃ a b d, loaV n M = .tuple #[.int .i64 a, .int .i64 b, .bool d] := by
      unfold loaV; split <;> exact ⟨_, _, _, rfl⟩
    rw [hv] at HI HS
    clear hv
    have ea : (a != a) = false := by simp
    have eb : (b != b) = false := by simp
    have ed : (d != d) = false := by simp
    go_enter Try.func10, Try.ntmps10
    go_wp2_with fail
    refine (szMoveS_g v _ M _ _ h (by omega) (by omega) (by omega)).mono ?_
    rintro e w1 ⟨rfl, hb0⟩
    have h1 := h.up hb0
    go_wp2_with fail
    refine (toMoveS_g v _ M _ h1 (by omega)).mono ?_
    rintro e w2 ⟨t, rfl, ht, hb1⟩
    have h2 := h1.up hb1
    go_wp2_with fail
    refine (HS.out t _ ht.moves).mono ?_
    rintro e w3 ⟨rfl, hb2⟩
    have h3 := h2.up hb2
    go_wp2_with fail
    refine (toMoveS_g v _ M _ h3 (by omega)).mono ?_
    rintro e w4 ⟨x, rfl, hx, hb3⟩
    have h4 := h3.up hb3
    go_wp2_with fail
    refine (HI.out x _ hx.moves).mono ?_
    rintro e w5 ⟨rfl, hb4⟩
    have h5 := h4.up hb4
    have hx5 := hx.up hb4
    go_wp2_with fail
    refine (toMoveS_g v _ M _ h5 (by omega)).mono ?_
    rintro e w6 ⟨y, rfl, hy, hb5⟩
    go_wp2_with fail
    refine (eqMoveS_g x y _ M _ (hx5.up hb5).moves hy.moves (by omega)).mono ?_
    rintro e w7 ⟨rfl, hb6⟩
    go_wp2_with fail
    go_ret
    exact Ans.bool rfl (by (repeat (first | with_reducible exact Below.refl _ _ | with_reducible assumption | with_reducible refine up_alloc ?_ _ | with_reducible refine up_drew ?_ | with_reducible refine up_drewN ?_ _ | (with_reducible refine up_set ?_ ?hset _; case hset => first | (simp; done) | (simp; omega) | omega) | with_reducible refine up_trans ?_ (by with_reducible assumption))))
  · have HZ := szV_neg (left := 1048576) (n := n) (by omega)
    go_enter Try.func10, Try.ntmps10
    go_wp2_with (go_at_call 35; refine (szMoveS_g v _ M _ _ h (by omega) (by omega) (by omega)).mono ?_; rintro e w1 ⟨rfl, hb0⟩)
    go_ret
    exact Ans.bool rfl (by (repeat (first | with_reducible exact Below.refl _ _ | with_reducible assumption | with_reducible refine up_alloc ?_ _ | with_reducible refine up_drew ?_ | with_reducible refine up_drewN ?_ _ | (with_reducible refine up_set ?_ ?hset _; case hset => first | (simp; done) | (simp; omega) | omega) | with_reducible refine up_trans ?_ (by with_reducible assumption))))

set_option maxRecDepth 100000 in
theorem fnExactLeastOfAll_law : LawWalk Try.prog 10 Try.f10 := by
  intro H enc W base args ds ps hval hA
  rw [Try.params10] at hval hA
  obtain ⟨v0, d0, rfl, rfl, h0⟩ := trodAll_one hA
  obtain ⟨n, M, hs, hn⟩ := open_moves (hval 0 _ v0 rfl rfl) h0
  exact fnExactLeastOfAll_walk v0 n M hn W hs

set_option maxRecDepth 100000 in
theorem fnExactLeastOfAll_holds : Rows.FnExactLeastOfAllSaid :=
  OpenClaim.holds_of_wide 10 Try.f10 rfl rfl rfl rfl rfl rfl rfl ⟨rfl, rfl, rfl, rfl, rfl⟩ rfl rfl rfl rfl rfl (by kernel_rfl) Try.func10 (by kernel_rfl)
    (of_decide_eq_true (by kernel_rfl)) (by unfold Func.isWrapper; first | (rw [if_pos (by decide +kernel)]; kernel_rfl) | (rw [if_neg (by decide +kernel)]; exact ⟨rfl, rfl⟩))
    (fun os started H enc _ => lifted_of (C := Try.checked) (s := Rows.fnExactLeastOfAllSpec) (tb := 4) (by kernel_rfl) (by kernel_rfl) (by kernel_rfl) (by kernel_rfl) Try.func10 rfl Try.underlying4 rfl
      (fun H ds h => by
        have h2 : ds.length = 1 := by rw [Try.params10] at h; exact h
        match ds, h2 with
        | [_], _ => rfl)
      fnExactLeastOfAll_law os started H enc
      (ChangeSpec.witness6 (enc := enc) (C := Try.checked) false ⟨#[], #[.slice none 0 0], []⟩ 8 (by kernel_rfl) (by kernel_rfl) (by kernel_rfl) (by kernel_rfl)))

#print axioms fnExactLeastOfAll_holds
end Go.Proofs.Ytccipfpbaeoggaa
