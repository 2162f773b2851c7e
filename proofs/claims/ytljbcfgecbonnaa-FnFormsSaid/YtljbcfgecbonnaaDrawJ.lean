/-
  The reference's draws of charts for the laws on forms.
-/
import Derived.Test.YtljbcfgecbonnaaRows
import Derived.Test.YtljbcfgecbonnaaBase
import Derived.Test.YtljbcfgecbonnaaSpot
import Derived.Test.YtljbcfgecbonnaaSlice
import Derived.Test.YtljbcfgecbonnaaLawS
import Derived.Test.YtljbcfgecbonnaaMark
import Derived.Test.YtljbcfgecbonnaaInts
import Derived.Test.YtljbcfgecbonnaaIntsL
import Derived.Test.YtljbcfgecbonnaaTurned
import Derived.Test.YtljbcfgecbonnaaTrans
import Derived.BigQuiet
import Derived.Test.YtljbcfgecbonnaaCur
import Derived.Test.YtljbcfgecbonnaaDrawP
import Derived.Test.YtljbcfgecbonnaaOpen
import Derived.Test.YtljbcfgecbonnaaDrawV
import Derived.Test.YtljbcfgecbonnaaAppend
import Derived.Test.YtljbcfgecbonnaaAppendE
import Derived.Test.YtljbcfgecbonnaaSameForm
import Derived.Deep.LoopGhost
import Derived.Deep.Onto
import Derived.Deep.CutRange
import Derived.Deep.DeepCutAuto
import Derived.Deep.RegionHeld3
import Derived.Test.YtljbcfgecbonnaaDrawW
import Derived.Test.YtljbcfgecbonnaaDrawZ
import Derived.Test.YtljbcfgecbonnaaBytes
namespace Go.Proofs.Ytljbcfgecbonnaa
open Go.RowKit Go.ChangeShapes Go.WideShapes Go.Sort

theorem OwnS.turnc {base p : Nat} {w w' : World} {v : Value} {n : Nat} {X Y : Nat → Int} (h : OwnS base w v n X Y) (ht : Turned p (p + 1) w w') (hp : p < base) : OwnS base w' v n X Y := by
  obtain ⟨A, c, e, hc, hr⟩ := h
  refine ⟨A, c, e, hc, fun hn => ?_⟩
  obtain ⟨b, o, e, hb, hf, hrow⟩ := hr hn
  exact ⟨b, o, e, hb, ht.free hf (lt_of_cell (hrow 0 hn).1) (by omega), fun i hi => ⟨ht.cell (hrow i hi).1 (by omega), ht.cell (hrow i hi).2 (by omega)⟩⟩
/-- Returned: a list of spots (two lists; a list and a number) in new memory; nothing that was there has turned. -/
def AnsD1 (w : World) (e : Ending) (w' : World) : Prop := ∃ v n X Y, e = .returned v ∧ Spots w' v n X Y ∧ n ≤ 13 ∧ Below w.heap.size w w'
def AnsD2 (w : World) (e : Ending) (w' : World) : Prop := ∃ v n X Y u m U V, e = .returned (.tuple #[v, u]) ∧ Spots w' v n X Y ∧ Spots w' u m U V ∧ n ≤ 13 ∧ m ≤ 13 ∧ Below w.heap.size w w'
def AnsDI (w : World) (e : Ending) (w' : World) : Prop := ∃ v n X Y, ∃ i : Int, e = .returned (.tuple #[v, .int .i64 i]) ∧ Spots w' v n X Y ∧ n ≤ 13 ∧ Below w.heap.size w w'
set_option maxRecDepth 100000 in
theorem drawMiddleSpot_g (v : Value) (n : Nat) (w : World) (h : Bytes w v n) (hn : n ≤ 9223372036854775807) : Calls Try.prog 92 #[v] w (AnsD1 w) := by
  obtain ⟨A, c, rfl, hc, hr⟩ := h
  have HC := Lib.hid (fun t => curAt_new ⟨A, c, rfl, hc, hr⟩ hn t)
  clear hr
  go_enter Try.func92, Try.ntmps92
  go_wp2_with fail
  refine (cur_anyChart w.heap.size 0 _ (HC.out _) (by omega)).mono ?_
  rintro e w1 ⟨v1, n1, hn1, rfl, ⟨X, Y, ho⟩, hc1, ht1⟩
  go_wp2_with fail
  go_ret
  exact ⟨_, n1, X, Y, rfl, ho.spots, hn1, cur_below ht1⟩
theorem drawBoundsOf_g (v : Value) (n : Nat) (w : World) (h : Bytes w v n) (hn : n ≤ 9223372036854775807) : Calls Try.prog 14 #[v] w (AnsD1 w) := by
  have HC := Lib.hid (drawMiddleSpot_g v n w h hn)
  go_enter Try.func14, Try.ntmps14
  go_wp2_with fail
  refine HC.out.mono ?_
  rintro e w1 ⟨v1, n1, X, Y, rfl, ho, hn1, hb⟩
  go_wp2_with fail
  go_ret
  exact ⟨_, n1, X, Y, rfl, ho, hn1, hb⟩
set_option maxRecDepth 100000 in
theorem drawJoinForms_g (v : Value) (n : Nat) (w : World) (h : Bytes w v n) (hn : n ≤ 9223372036854775807) : Calls Try.prog 9 #[v] w (AnsD2 w) := by
  obtain ⟨A, c, rfl, hc, hr⟩ := h
  have HC := Lib.hid (fun t => curAt_new ⟨A, c, rfl, hc, hr⟩ hn t)
  clear hr
  go_enter Try.func9, Try.ntmps9
  go_wp2_with fail
  refine (cur_anyChart w.heap.size 0 _ (HC.out _) (by omega)).mono ?_
  rintro e w1 ⟨v1, n1, hn1, rfl, ⟨X, Y, ho⟩, hc1, ht1⟩
  go_wp2_with fail
  refine (cur_anyChart w.heap.size _ _ hc1 (by omega)).mono ?_
  rintro e w2 ⟨v2, n2, hn2, rfl, ⟨U, V, ho2⟩, hc2, ht2⟩
  go_wp2_with fail
  go_ret2
  exact ⟨_, n1, X, Y, _, n2, U, V, rfl, (ho.turnc ht2 (by simp)).spots, ho2.spots, hn1, hn2, cur_below (ht1.trans ht2)⟩
set_option maxRecDepth 100000 in
theorem drawSpreadForm_g (v : Value) (n : Nat) (w : World) (h : Bytes w v n) (hn : n ≤ 9223372036854775807) : Calls Try.prog 22 #[v] w (AnsDI w) := by
  obtain ⟨A, c, rfl, hc, hr⟩ := h
  have HC := Lib.hid (fun t => curAt_new ⟨A, c, rfl, hc, hr⟩ hn t)
  clear hr
  go_enter Try.func22, Try.ntmps22
  go_wp2_with fail
  refine (cur_anyChart w.heap.size 0 _ (HC.out _) (by omega)).mono ?_
  rintro e w1 ⟨v1, n1, hn1, rfl, ⟨X, Y, ho⟩, hc1, ht1⟩
  have hl1 := hc1.lt
  go_wp2_with fail
  refine (cur_among w.heap.size _ _ 2 0 401 _ (hc1.up (below_alloc _ _)) (by omega) (by omega) (by omega) hl1 (by intro i hi; match i, hi with | 0, _ => exact ⟨0, by simp [go_sem], by omega, by omega⟩ | 1, _ => exact ⟨401, by simp [go_sem], by omega, by omega⟩ | (q + 2), hi => omega)).mono ?_
  rintro e w2 ⟨x, rfl, hx, hc2, ht2⟩
  have hl2 := hc2.lt
  go_wp2_with fail
  refine (cur_among w.heap.size _ _ 8 0 401 _ (hc2.up (below_alloc _ _)) (by omega) (by omega) (by omega) hl2 (by intro i hi; match i, hi with | 0, _ => exact ⟨1, by simp [go_sem], by omega, by omega⟩ | 1, _ => exact ⟨50, by simp [go_sem], by omega, by omega⟩ | 2, _ => exact ⟨90, by simp [go_sem], by omega, by omega⟩ | 3, _ => exact ⟨100, by simp [go_sem], by omega, by omega⟩ | 4, _ => exact ⟨110, by simp [go_sem], by omega, by omega⟩ | 5, _ => exact ⟨200, by simp [go_sem], by omega, by omega⟩ | 6, _ => exact ⟨400, by simp [go_sem], by omega, by omega⟩ | 7, _ => exact ⟨x, by simp [go_sem], by omega, by omega⟩ | (q + 8), hi => omega)).mono ?_
  rintro e w3 ⟨y, rfl, hy, hc3, ht3⟩
  go_wp2_with fail
  go_ret2
  have ht13 := (((Turned.of_below (lo := w.heap.size) (hi := w.heap.size + 1) (below_alloc w1 _)).trans ht2).trans (Turned.of_below (below_alloc _ _))).trans ht3
  exact ⟨_, n1, X, Y, _, rfl, (ho.turnc ht13 (by simp)).spots, hn1, cur_below (ht1.trans ht13)⟩
set_option maxRecDepth 100000 in
theorem drawTurnForm_g (v : Value) (n : Nat) (w : World) (h : Bytes w v n) (hn : n ≤ 9223372036854775807) : Calls Try.prog 52 #[v] w (AnsDI w) := by
  obtain ⟨A, c, rfl, hc, hr⟩ := h
  have HC := Lib.hid (fun t => curAt_new ⟨A, c, rfl, hc, hr⟩ hn t)
  clear hr
  go_enter Try.func52, Try.ntmps52
  go_wp2_with fail
  refine (cur_anyChart w.heap.size 0 _ (HC.out _) (by omega)).mono ?_
  rintro e w1 ⟨v1, n1, hn1, rfl, ⟨X, Y, ho⟩, hc1, ht1⟩
  have hl1 := hc1.lt
  go_wp2_with fail
  refine (cur_among w.heap.size _ _ 2 (-1) 4 _ (hc1.up (below_alloc _ _)) (by omega) (by omega) (by omega) hl1 (by intro i hi; match i, hi with | 0, _ => exact ⟨4, by simp [go_sem], by omega, by omega⟩ | 1, _ => exact ⟨(-1), by simp [go_sem], by omega, by omega⟩ | (q + 2), hi => omega)).mono ?_
  rintro e w2 ⟨x, rfl, hx, hc2, ht2⟩
  have hl2 := hc2.lt
  go_wp2_with fail
  refine (cur_among w.heap.size _ _ 5 (-1) 4 _ (hc2.up (below_alloc _ _)) (by omega) (by omega) (by omega) hl2 (by intro i hi; match i, hi with | 0, _ => exact ⟨0, by simp [go_sem], by omega, by omega⟩ | 1, _ => exact ⟨1, by simp [go_sem], by omega, by omega⟩ | 2, _ => exact ⟨2, by simp [go_sem], by omega, by omega⟩ | 3, _ => exact ⟨3, by simp [go_sem], by omega, by omega⟩ | 4, _ => exact ⟨x, by simp [go_sem], by omega, by omega⟩ | (q + 5), hi => omega)).mono ?_
  rintro e w3 ⟨y, rfl, hy, hc3, ht3⟩
  go_wp2_with fail
  go_ret2
  have ht13 := (((Turned.of_below (lo := w.heap.size) (hi := w.heap.size + 1) (below_alloc w1 _)).trans ht2).trans (Turned.of_below (below_alloc _ _))).trans ht3
  exact ⟨_, n1, X, Y, _, rfl, (ho.turnc ht13 (by simp)).spots, hn1, cur_below (ht1.trans ht13)⟩
end Go.Proofs.Ytljbcfgecbonnaa
