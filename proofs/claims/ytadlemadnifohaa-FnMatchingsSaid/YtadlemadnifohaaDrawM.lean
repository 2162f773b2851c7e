/-
  The reference's draws on costs: what they leave standing.
-/
import Derived.Test.YtadlemadnifohaaRows
import Derived.Test.YtadlemadnifohaaBase
import Derived.Test.YtadlemadnifohaaSpot
import Derived.Test.YtadlemadnifohaaSlice
import Derived.Test.YtadlemadnifohaaLawS
import Derived.Test.YtadlemadnifohaaMark
import Derived.Test.YtadlemadnifohaaInts
import Derived.Test.YtadlemadnifohaaIntsL
import Derived.Test.YtadlemadnifohaaTurned
import Derived.Test.YtadlemadnifohaaTrans
import Derived.BigQuiet
import Derived.Test.YtadlemadnifohaaCur
import Derived.Test.YtadlemadnifohaaDrawP
import Derived.Test.YtadlemadnifohaaCopyI
import Derived.Test.YtadlemadnifohaaRowsI
import Derived.Test.YtadlemadnifohaaCosts
import Derived.Test.YtadlemadnifohaaRowB
import Derived.Test.YtadlemadnifohaaDrawN
import Derived.Deep.CutRange
import Derived.Deep.DeepCutAuto
import Derived.Test.YtadlemadnifohaaDrawC
import Derived.Test.YtadlemadnifohaaBytes
namespace Go.Proofs.Ytadlemadnifohaa
open Go.RowKit Go.ChangeShapes Go.WideShapes Go.Sort

/-- Returned: rows of numbers in new memory; nothing that was there has turned. -/
def AnsDraw (w : World) (e : Ending) (w' : World) : Prop := ∃ v n R F, e = .returned v ∧ IRows w' v n R F ∧ n ≤ 13 ∧ (∀ i, i < n → R i ≤ 14) ∧ Below w.heap.size w w'
def AnsDrawP (w : World) (e : Ending) (w' : World) : Prop := ∃ v n R F, ∃ i k : Int, e = .returned (.tuple #[v, .int .i64 i, .int .i64 k]) ∧ IRows w' v n R F ∧ n ≤ 13 ∧ (∀ i, i < n → R i ≤ 14) ∧ Below w.heap.size w w'
set_option maxRecDepth 100000 in
theorem drawAreCosts_g (v : Value) (n : Nat) (w : World) (h : Bytes w v n) (hn : n ≤ 9223372036854775807) : Calls Try.prog 32 #[v] w (AnsDraw w) := by
  obtain ⟨A, c, rfl, hc, hr⟩ := h
  have HC := Lib.hid (fun t => curAt_new ⟨A, c, rfl, hc, hr⟩ hn t)
  clear hr
  go_enter Try.func32, Try.ntmps32
  go_wp2_with fail
  refine (cur_costs w.heap.size 0 _ (HC.out _) (by omega)).mono ?_
  rintro e w1 ⟨v1, n1, R, F, L, rfl, ho, hn1, hR, hc1, ht1⟩
  go_wp2_with fail
  go_ret
  exact ⟨_, n1, R, F, rfl, ho.irows, hn1, hR, cur_below ht1⟩
theorem drawLeastMatching_g (v : Value) (n : Nat) (w : World) (h : Bytes w v n) (hn : n ≤ 9223372036854775807) : Calls Try.prog 5 #[v] w (AnsDraw w) := by
  have HC := Lib.hid (drawAreCosts_g v n w h hn)
  go_enter Try.func5, Try.ntmps5
  go_wp2_with fail
  refine HC.out.mono ?_
  rintro e w1 ⟨v1, n1, R, F, rfl, ho, hn1, hR, hb⟩
  go_wp2_with fail
  go_ret
  exact ⟨_, n1, R, F, rfl, ho, hn1, hR, hb⟩
theorem drawLeastGreatest_g (v : Value) (n : Nat) (w : World) (h : Bytes w v n) (hn : n ≤ 9223372036854775807) : Calls Try.prog 29 #[v] w (AnsDraw w) := by
  have HC := Lib.hid (drawAreCosts_g v n w h hn)
  go_enter Try.func29, Try.ntmps29
  go_wp2_with fail
  refine HC.out.mono ?_
  rintro e w1 ⟨v1, n1, R, F, rfl, ho, hn1, hR, hb⟩
  go_wp2_with fail
  go_ret
  exact ⟨_, n1, R, F, rfl, ho, hn1, hR, hb⟩
set_option maxRecDepth 100000 in
set_option maxHeartbeats 4000000 in
theorem drawForcedPair_g (v : Value) (n : Nat) (w : World) (h : Bytes w v n) (hn : n ≤ 9223372036854775807) : Calls Try.prog 14 #[v] w (AnsDrawP w) := by
  obtain ⟨A, c, rfl, hc, hr⟩ := h
  have HC := Lib.hid (fun t => curAt_new ⟨A, c, rfl, hc, hr⟩ hn t)
  clear hr
  go_enter Try.func14, Try.ntmps14
  go_wp2_with fail
  refine (cur_costs w.heap.size 0 _ (HC.out _) (by omega)).mono ?_
  rintro e w1 ⟨v1, n1, R, F, L, rfl, ho, hn1, hR, hc1, ht1⟩
  obtain ⟨A1, c1, e1, _⟩ := ho.shape
  subst e1
  have HO := Lib.hid ho.irows
  have HOO := Lib.hid ho
  have HRR := Lib.hid hR
  clear ho hR
  go_wp2_with fail
  refine (cur_pick w.heap.size _ 16 _ hc1 (by omega) (by omega)).mono ?_
  rintro e w2 ⟨a, rfl, ha, hc2, ht2⟩
  go_wp2_with fail
  rw [show ((n1 : Int) + (a : Int) / 15) = ((n1 + a / 15 : Nat) : Int) by omega]
  refine (cur_pick w.heap.size _ (n1 + a / 15) _ hc2 (by omega) (by omega)).mono ?_
  rintro e w3 ⟨x, rfl, hx, hc3, ht3⟩
  go_wp2_with fail
  refine (cur_pick w.heap.size _ 24 _ hc3 (by omega) (by omega)).mono ?_
  rintro e w4 ⟨b, rfl, hb, hc4, ht4⟩
  go_wp2_with fail
  refine (cur_pick w.heap.size _ 16 _ hc4 (by omega) (by omega)).mono ?_
  rintro e w5 ⟨d, rfl, hd, hc5, ht5⟩
  go_wp2_with fail
  rw [show ((n1 : Int) + (d : Int) / 15) = ((n1 + d / 15 : Nat) : Int) by omega]
  refine (cur_pick w.heap.size _ (n1 + d / 15) _ hc5 (by omega) (by omega)).mono ?_
  rintro e w6 ⟨y, rfl, hy, hc6, ht6⟩
  go_wp2_with fail
  refine (cur_pick w.heap.size _ 24 _ hc6 (by omega) (by omega)).mono ?_
  rintro e w7 ⟨f, rfl, hf, hc7, ht7⟩
  go_wp2_with fail
  go_ret3
  have ht := ((((ht2.trans ht3).trans ht4).trans ht5).trans ht6).trans ht7
  exact ⟨_, n1, R, F, _, _, rfl, (HOO.out.turn ht (by simp)).irows, hn1, HRR.out, cur_below (ht1.trans ht)⟩
theorem drawForbiddenPair_g (v : Value) (n : Nat) (w : World) (h : Bytes w v n) (hn : n ≤ 9223372036854775807) : Calls Try.prog 17 #[v] w (AnsDrawP w) := by
  have HC := Lib.hid (drawForcedPair_g v n w h hn)
  go_enter Try.func17, Try.ntmps17
  go_wp2_with fail
  refine HC.out.mono ?_
  rintro e w1 ⟨v1, n1, R, F, i, k, rfl, ho, hn1, hR, hb⟩
  go_wp2_with fail
  go_ret3
  exact ⟨_, n1, R, F, _, _, rfl, ho, hn1, hR, hb⟩
end Go.Proofs.Ytadlemadnifohaa
