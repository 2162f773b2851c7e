/-
  Slices of numbers appended in a region that draws its order; a copy that is appended to.
-/
import Derived.Test.YtbfhfjpfjkdcfaaRows
import Derived.Test.YtbfhfjpfjkdcfaaBase
import Derived.Test.YtbfhfjpfjkdcfaaSpot
import Derived.Test.YtbfhfjpfjkdcfaaSlice
import Derived.Test.YtbfhfjpfjkdcfaaLawS
import Derived.Test.YtbfhfjpfjkdcfaaMark
import Derived.Test.YtbfhfjpfjkdcfaaAppend
import Derived.Test.YtbfhfjpfjkdcfaaAppendE
import Derived.Test.YtbfhfjpfjkdcfaaInts
import Derived.Test.YtbfhfjpfjkdcfaaIntsL
import Derived.Test.YtbfhfjpfjkdcfaaCopyI
import Derived.Test.YtbfhfjpfjkdcfaaTurned
import Derived.Test.YtbfhfjpfjkdcfaaTrans
import Derived.Maps.AppendAt
import Derived.Test.YtbfhfjpfjkdcfaaPut
namespace Go.Proofs.Ytbfhfjpfjkdcfaa
open Go.RowKit Go.ChangeShapes Go.WideShapes Go.Sort

theorem OwnN.more {base base' : Nat} {w : World} {v : Value} {n : Nat} {X : Nat → Int} (h : OwnN base w v n X) (hb : base' ≤ base) : OwnN base' w v n X := by
  refine ⟨h.1, h.2.imp id fun ⟨g, cap, cur, h1, h2, h3⟩ => ⟨g, cap, cur, h1, Nat.le_trans hb h2, h3⟩⟩
theorem step_add_ints {ops : Array Oper} {o : Oper} {a : Act} {w : World} {K : Act → World → Prop} {Q : Exit → Act → World → Prop} {E : Prop} (hgd : o.guard = none) (s x : Operand)
    (ho : o.op = .call { callee := .builtin .append, args := #[s, x], argTypes := #[24, 24] })
    (base : Nat) (v u : Value) (k m : Nat) (X : Nat → Int) (hs : a.eval s = v) (hx : a.eval x = u) (hown : OwnN base w v k X) (hsp : Ints w u m (fun j => X (k + j))) (hbase : base ≤ w.heap.size) (hk : k ≤ 1048576) (hn : m ≤ 1048576)
    (h : ∀ v' w', OwnN base w' v' (k + m) X → Below base w w' → K (a.put o.dst v') w') :
    if Region.wanted o (yielded ops a.tmps) = true then Oper.wp Try.prog o a w K Q else E := by
  have hw : Region.wanted o (yielded ops a.tmps) = true := by unfold Region.wanted; rw [hgd]
  rw [if_pos hw]
  obtain ⟨v', w', hr, h1, h2⟩ := run_add_ints (w := w) o.type base v u k m X hown hsp hbase hk hn
  unfold Oper.wp execOp
  simp only [ho, resolve, invoke, builtin, Sem.run_bind, Sem.run_pure, Result.andThen_ok, List.map_toArray, List.map_cons, List.map_nil, hs, hx, hr]
  exact h _ _ h1 h2
set_option maxRecDepth 100000 in
theorem l1OwnN_g (v : Value) (n : Nat) (X : Nat → Int) (w : World) (h : Ints w v n X) (hn : n ≤ 1048576) :
    Calls Try.prog 14 #[v] w (fun e w' => ∃ u, e = .returned u ∧ OwnN w.heap.size w' u n X ∧ Below w.heap.size w w') := by
  go_enter Try.func14, Try.ntmps14
  go_wp2_with (at_builtin; refine wpList_copy_ints rfl (.tmp 3) (.tmp 4) rfl w.heap.size _ v n X rfl rfl (OwnN.empty (Nat.le_refl _) _) (h.up (by (repeat (first | with_reducible exact Below.refl _ _ | with_reducible assumption | with_reducible refine up_alloc ?_ _ | with_reducible refine up_drew ?_ | with_reducible refine up_drewN ?_ _ | (with_reducible refine up_set ?_ ?hset _; case hset => first | (simp; done) | (simp; omega) | omega) | with_reducible refine up_trans ?_ (by with_reducible assumption))))) (by simp) hn ?_; intro v2 w2 ho2 hb2)
  go_ret
  exact ⟨_, rfl, ho2, (below_alloc _ _).trans hb2⟩
end Go.Proofs.Ytbfhfjpfjkdcfaa
