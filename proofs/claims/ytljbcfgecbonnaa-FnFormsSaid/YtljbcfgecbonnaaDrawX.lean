/-
  The reference's draws of counts, gaps and performers.
-/
import Derived.Test.YtljbcfgecbonnaaRows
import Derived.Test.YtljbcfgecbonnaaBase
import Derived.Test.YtljbcfgecbonnaaSpot
import Derived.Test.YtljbcfgecbonnaaSlice
import Derived.Test.YtljbcfgecbonnaaLawS
import Derived.Test.YtljbcfgecbonnaaMark
import Derived.Test.YtljbcfgecbonnaaInts
import Derived.Test.YtljbcfgecbonnaaIntsL
import Derived.Test.YtljbcfgecbonnaaTurned
import Derived.Test.YtljbcfgecbonnaaTrans
import Derived.BigQuiet
import Derived.Test.YtljbcfgecbonnaaCur
import Derived.Test.YtljbcfgecbonnaaDrawP
namespace Go.Proofs.Ytljbcfgecbonnaa
open Go.RowKit Go.ChangeShapes Go.WideShapes Go.Sort

set_option maxRecDepth 100000 in
theorem cur_many (p K : Nat) (w : World) (h : CurAt w p K) (hK : K ≤ 1000000) :
    Calls Try.prog 112 #[.pointer (some ⟨p, 0, none⟩)] w (AnsRng w p (K + 4) (0) 13) := by
  have hpw := h.lt
  go_enter Try.func112, Try.ntmps112
  go_wp2_with fail
  refine (cur_among p K _ 2 (0) 13 _ (h.up (below_alloc _ _)) (by omega) (by omega) (by omega) hpw (by intro i hi; match i, hi with | 0, _ => exact ⟨0, by simp [go_sem], by omega, by omega⟩ | 1, _ => exact ⟨13, by simp [go_sem], by omega, by omega⟩ | (q + 2), hi => omega)).mono ?_
  rintro e w1 ⟨x, rfl, hx, hc1, ht1⟩
  have hl1 : p < w1.heap.size := hc1.lt
  go_wp2_with fail
  refine (cur_among p _ _ 8 (0) 13 _ (hc1.up (below_alloc _ _)) (by omega) (by omega) (by omega) hl1 (by intro i hi; match i, hi with | 0, _ => exact ⟨1, by simp [go_sem], by omega, by omega⟩ | 1, _ => exact ⟨2, by simp [go_sem], by omega, by omega⟩ | 2, _ => exact ⟨3, by simp [go_sem], by omega, by omega⟩ | 3, _ => exact ⟨4, by simp [go_sem], by omega, by omega⟩ | 4, _ => exact ⟨5, by simp [go_sem], by omega, by omega⟩ | 5, _ => exact ⟨7, by simp [go_sem], by omega, by omega⟩ | 6, _ => exact ⟨12, by simp [go_sem], by omega, by omega⟩ | 7, _ => exact ⟨x, by simp [go_sem], by omega, by omega⟩ | (q + 8), hi => omega)).mono ?_
  rintro e w2 ⟨y, rfl, hy, hc2, ht2⟩
  go_wp2_with fail
  go_ret
  exact ⟨y, rfl, hy, hc2, (((Turned.of_below (below_alloc _ _)).trans ht1).trans (Turned.of_below (below_alloc _ _))).trans ht2⟩
set_option maxRecDepth 100000 in
theorem cur_gap (p K : Nat) (w : World) (h : CurAt w p K) (hK : K ≤ 1000000) :
    Calls Try.prog 117 #[.pointer (some ⟨p, 0, none⟩)] w (AnsRng w p (K + 4) (-201) 201) := by
  have hpw := h.lt
  go_enter Try.func117, Try.ntmps117
  go_wp2_with fail
  refine (cur_among p K _ 4 (-201) 201 _ (h.up (below_alloc _ _)) (by omega) (by omega) (by omega) hpw (by intro i hi; match i, hi with | 0, _ => exact ⟨200, by simp [go_sem], by omega, by omega⟩ | 1, _ => exact ⟨201, by simp [go_sem], by omega, by omega⟩ | 2, _ => exact ⟨(-200), by simp [go_sem], by omega, by omega⟩ | 3, _ => exact ⟨(-201), by simp [go_sem], by omega, by omega⟩ | (q + 4), hi => omega)).mono ?_
  rintro e w1 ⟨x, rfl, hx, hc1, ht1⟩
  have hl1 : p < w1.heap.size := hc1.lt
  go_wp2_with fail
  refine (cur_among p _ _ 7 (-201) 201 _ (hc1.up (below_alloc _ _)) (by omega) (by omega) (by omega) hl1 (by intro i hi; match i, hi with | 0, _ => exact ⟨8, by simp [go_sem], by omega, by omega⟩ | 1, _ => exact ⟨16, by simp [go_sem], by omega, by omega⟩ | 2, _ => exact ⟨(-16), by simp [go_sem], by omega, by omega⟩ | 3, _ => exact ⟨24, by simp [go_sem], by omega, by omega⟩ | 4, _ => exact ⟨5, by simp [go_sem], by omega, by omega⟩ | 5, _ => exact ⟨0, by simp [go_sem], by omega, by omega⟩ | 6, _ => exact ⟨x, by simp [go_sem], by omega, by omega⟩ | (q + 7), hi => omega)).mono ?_
  rintro e w2 ⟨y, rfl, hy, hc2, ht2⟩
  go_wp2_with fail
  go_ret
  exact ⟨y, rfl, hy, hc2, (((Turned.of_below (below_alloc _ _)).trans ht1).trans (Turned.of_below (below_alloc _ _))).trans ht2⟩
set_option maxRecDepth 100000 in
theorem cur_performer (p K n c : Nat) (A : Option Addr) (w : World) (h : CurAt w p K) (hK : K ≤ 1000000) (hn : n ≤ 1000000) :
    Calls Try.prog 103 #[.pointer (some ⟨p, 0, none⟩), .slice A n c] w (AnsRng w p (K + 6) (-1) (n + 1)) := by
  go_enter Try.func103, Try.ntmps103
  go_wp2_with fail
  refine (cur_pick p K 16 _ h (by omega) (by omega)).mono ?_
  rintro e w1 ⟨a, rfl, ha, hc1, ht1⟩
  go_wp2_with fail
  rw [show ((n : Int) + (a : Int) / 15) = ((n + a / 15 : Nat) : Int) by omega]
  refine (cur_pick p _ (n + a / 15) _ hc1 (by omega) (by omega)).mono ?_
  rintro e w2 ⟨x, rfl, hx, hc2, ht2⟩
  go_wp2_with fail
  refine (cur_pick p _ 24 _ hc2 (by omega) (by omega)).mono ?_
  rintro e w3 ⟨b, rfl, hb, hc3, ht3⟩
  go_wp2_with fail
  go_ret
  exact ⟨(x : Int) - (b : Int) / 23, rfl, by omega, hc3, (ht1.trans ht2).trans ht3⟩
end Go.Proofs.Ytljbcfgecbonnaa
