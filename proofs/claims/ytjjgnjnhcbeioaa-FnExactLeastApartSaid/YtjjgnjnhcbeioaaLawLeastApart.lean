/-
  FnExactLeastApart: for all arguments the law returns true, and its arguments read afterwards as before. No condition.
-/
import Derived.Test.YtjjgnjnhcbeioaaRows
import Derived.Test.YtjjgnjnhcbeioaaBase
import Derived.Test.YtjjgnjnhcbeioaaSpot
import Derived.Test.YtjjgnjnhcbeioaaOpen
import Derived.Test.YtjjgnjnhcbeioaaMove
import Derived.Test.YtjjgnjnhcbeioaaApart
import Derived.Test.YtjjgnjnhcbeioaaApartS
namespace Go.Proofs.Ytjjgnjnhcbeioaa
open Go.RowKit Go.ChangeShapes Go.WideShapes Go.Sort

set_option maxHeartbeats 1000000 in
theorem fnExactLeastApart_walk (x y u v c x' y' u' v' c' : Int) (w : World) :
    Calls Try.prog 5 #[.agg #[.int .i64 x, .int .i64 y, .int .i64 u, .int .i64 v, .int .i64 c], .agg #[.int .i64 x', .int .i64 y', .int .i64 u', .int .i64 v', .int .i64 c']] w (Ans w (.bool true)) := by
  obtain ⟨a, b, d, hv⟩ : ∃ a b d, lapV x y u v c x' y' u' v' c' = .tuple #[.int .i64 a, .int .i64 b, .bool d] := by
    unfold lapV; split <;> exact ⟨_, _, _, rfl⟩
  have HI := Lib.hid (iLeastApart_any x y u v c x' y' u' v' c')
  have HS := Lib.hid (sLeastApart_any x y u v c x' y' u' v' c')
  rw [hv] at HI HS
  clear hv
  go_enter Try.func5, Try.ntmps5
  go_wp2
  generalize hW : World.alloc _ _ = W
  have hb : Below w.heap.size w W := by subst hW; (repeat (first | with_reducible exact Below.refl _ _ | with_reducible assumption | with_reducible refine up_alloc ?_ _ | with_reducible refine up_drew ?_ | with_reducible refine up_drewN ?_ _ | (with_reducible refine up_set ?_ ?hset _; case hset => first | (simp; done) | (simp; omega) | omega) | with_reducible refine up_trans ?_ (by with_reducible assumption)))
  have k0 : W.cell? ⟨w.heap.size, 0, none⟩ = some (.int .i64 x) := by subst hW; simp [go_sem]
  have k1 : W.cell? ⟨w.heap.size, 1, none⟩ = some (.int .i64 y) := by subst hW; simp [go_sem]
  have k2 : W.cell? ⟨w.heap.size, 2, none⟩ = some (.int .i64 u) := by subst hW; simp [go_sem]
  have k3 : W.cell? ⟨w.heap.size, 3, none⟩ = some (.int .i64 v) := by subst hW; simp [go_sem]
  have k4 : W.cell? ⟨w.heap.size, 4, none⟩ = some (.int .i64 c) := by subst hW; simp [go_sem]
  have k5 : W.cell? ⟨w.heap.size + 1, 0, none⟩ = some (.int .i64 x') := by subst hW; simp [go_sem]
  have k6 : W.cell? ⟨w.heap.size + 1, 1, none⟩ = some (.int .i64 y') := by subst hW; simp [go_sem]
  have k7 : W.cell? ⟨w.heap.size + 1, 2, none⟩ = some (.int .i64 u') := by subst hW; simp [go_sem]
  have k8 : W.cell? ⟨w.heap.size + 1, 3, none⟩ = some (.int .i64 v') := by subst hW; simp [go_sem]
  have k9 : W.cell? ⟨w.heap.size + 1, 4, none⟩ = some (.int .i64 c') := by subst hW; simp [go_sem]
  clear hW
  have q0 := cell_regrown k0
  have q1 := cell_regrown k1
  have q2 := cell_regrown k2
  have q3 := cell_regrown k3
  have q4 := cell_regrown k4
  have q5 := cell_regrown k5
  have q6 := cell_regrown k6
  have q7 := cell_regrown k7
  have q8 := cell_regrown k8
  have q9 := cell_regrown k9
  refine wp_region_up (by kernel_rfl) (by kernel_rfl) ?_
  repeat (go_big_quiet_step (first | exact up_of (fun W _ => toMove_any _ _ _ _ _ W) _ _ | exact up_of (fun W _ => HS.out W) _ _))
  refine wpQuiet_nil ?_
  intro w1 hb0
  obtain ⟨hc0, hf0⟩ := bcell hb0
  clear q0 q1 q2 q3 q4 q5 q6 q7 q8 q9
  go_wp2
  have q0 := cell_regrown (up_keep hb0 k0)
  have q1 := cell_regrown (up_keep hb0 k1)
  have q2 := cell_regrown (up_keep hb0 k2)
  have q3 := cell_regrown (up_keep hb0 k3)
  have q4 := cell_regrown (up_keep hb0 k4)
  have q5 := cell_regrown (up_keep hb0 k5)
  have q6 := cell_regrown (up_keep hb0 k6)
  have q7 := cell_regrown (up_keep hb0 k7)
  have q8 := cell_regrown (up_keep hb0 k8)
  have q9 := cell_regrown (up_keep hb0 k9)
  have hb1 := up_trans hb hb0
  clear k0 k1 k2 k3 k4 k5 k6 k7 k8 k9 hc0 hf0 hb0 hb
  refine wp_region_up (by kernel_rfl) (by kernel_rfl) ?_
  repeat (go_big_quiet_step (first | exact up_of (fun W _ => toMove_any _ _ _ _ _ W) _ _ | exact up_of (fun W _ => HI.out W) _ _))
  refine wpQuiet_nil ?_
  intro w1 hb0
  obtain ⟨hc0, hf0⟩ := bcell hb0
  clear q0 q1 q2 q3 q4 q5 q6 q7 q8 q9 hc0 hf0
  have ea : (a != a) = false := by simp
  have eb : (b != b) = false := by simp
  have ed : (d != d) = false := by simp
  go_wp2
  all_goals
    go_ret
    exact Ans.bool rfl (by (repeat (first | with_reducible exact Below.refl _ _ | with_reducible assumption | with_reducible refine up_alloc ?_ _ | with_reducible refine up_drew ?_ | with_reducible refine up_drewN ?_ _ | (with_reducible refine up_set ?_ ?hset _; case hset => first | (simp; done) | (simp; omega) | omega) | with_reducible refine up_trans ?_ (by with_reducible assumption))))

theorem fnExactLeastApart_law : LawWalk Try.prog 5 Try.f5 := by
  intro H enc W base args ds ps hval hA
  rw [Try.params5] at hval hA
  obtain ⟨v0, v1, d0, d1, p0, p1, rfl, rfl, rfl, h0, h1⟩ := trodAll_two hA
  obtain ⟨x, y, u, v, c, rfl⟩ := open_move (hval 0 _ v0 rfl rfl) h0
  obtain ⟨x', y', u', v', c', rfl⟩ := open_move (hval 1 _ v1 rfl rfl) h1
  exact fnExactLeastApart_walk _ _ _ _ _ _ _ _ _ _ _

set_option maxRecDepth 100000 in
theorem fnExactLeastApart_holds : Rows.FnExactLeastApartSaid :=
  OpenClaim.holds_of_wide 5 Try.f5 rfl rfl rfl rfl rfl rfl rfl ⟨rfl, rfl, rfl, rfl, rfl⟩ rfl rfl rfl rfl rfl (by kernel_rfl) Try.func5 (by kernel_rfl)
    (of_decide_eq_true (by kernel_rfl)) (by unfold Func.isWrapper; first | (rw [if_pos (by decide +kernel)]; kernel_rfl) | (rw [if_neg (by decide +kernel)]; exact ⟨rfl, rfl⟩))
    (fun os started H enc _ => lifted_of (C := Try.checked) (s := Rows.fnExactLeastApartSpec) (tb := 4) (by kernel_rfl) (by kernel_rfl) (by kernel_rfl) (by kernel_rfl) Try.func5 rfl Try.underlying4 rfl
      (fun H ds h => by
        have h2 : ds.length = 2 := by rw [Try.params5] at h; exact h
        match ds, h2 with
        | [_, _], _ => rfl)
      fnExactLeastApart_law os started H enc
      (ChangeSpec.witness6 (enc := enc) (C := Try.checked) false ⟨#[], #[.agg #[.int .i64 0, .int .i64 0, .int .i64 0, .int .i64 0, .int .i64 0], .agg #[.int .i64 0, .int .i64 0, .int .i64 0, .int .i64 0, .int .i64 0]], []⟩ 8 (by kernel_rfl) (by kernel_rfl) (by kernel_rfl) (by kernel_rfl)))

#print axioms fnExactLeastApart_holds
end Go.Proofs.Ytjjgnjnhcbeioaa
