/-
  The reference's draw of costs and a matching.
-/
import Derived.Test.YtadlemadnifohaaRows
import Derived.Test.YtadlemadnifohaaBase
import Derived.Test.YtadlemadnifohaaSpot
import Derived.Test.YtadlemadnifohaaSlice
import Derived.Test.YtadlemadnifohaaLawS
import Derived.Test.YtadlemadnifohaaMark
import Derived.Test.YtadlemadnifohaaInts
import Derived.Test.YtadlemadnifohaaIntsL
import Derived.Test.YtadlemadnifohaaTurned
import Derived.Test.YtadlemadnifohaaTrans
import Derived.BigQuiet
import Derived.Test.YtadlemadnifohaaCur
import Derived.Test.YtadlemadnifohaaDrawP
import Derived.Test.YtadlemadnifohaaCopyI
import Derived.Test.YtadlemadnifohaaRowsI
import Derived.Test.YtadlemadnifohaaCosts
import Derived.Test.YtadlemadnifohaaRowB
import Derived.Test.YtadlemadnifohaaDrawN
import Derived.Deep.CutRange
import Derived.Deep.DeepCutAuto
import Derived.Test.YtadlemadnifohaaDrawC
import Derived.Test.YtadlemadnifohaaDrawM
import Derived.Test.YtadlemadnifohaaPut
import Derived.Deep.RegionHeld3
import Derived.Test.YtadlemadnifohaaDrawT
namespace Go.Proofs.Ytadlemadnifohaa
open Go.RowKit Go.ChangeShapes Go.WideShapes Go.Sort

def AnsDrawM (w : World) (e : Ending) (w' : World) : Prop := ∃ v n R F u P, e = .returned (.tuple #[v, u]) ∧ IRows w' v n R F ∧ Ints w' u n P ∧ n ≤ 13 ∧ (∀ i, i < n → R i ≤ 14) ∧ Below w.heap.size w w'
set_option maxRecDepth 100000 in
set_option maxHeartbeats 4000000 in
theorem drawMatchingSum_g (v : Value) (n : Nat) (w : World) (h : Bytes w v n) (hn : n ≤ 9223372036854775807) : Calls Try.prog 20 #[v] w (AnsDrawM w) := by
  obtain ⟨A, c, rfl, hc, hr⟩ := h
  have HC := Lib.hid (fun t => curAt_new ⟨A, c, rfl, hc, hr⟩ hn t)
  clear hr
  go_enter Try.func20, Try.ntmps20
  go_wp2_with fail
  refine (cur_costs w.heap.size 0 _ (HC.out _) (by omega)).mono ?_
  rintro e w1 ⟨v1, n1, R, F, L, rfl, ho, hn1, hR, hc1, ht1⟩
  obtain ⟨A1, c1, e1, _⟩ := ho.shape
  subst e1
  have HOO := Lib.hid ho
  have HRR := Lib.hid hR
  clear ho hR
  go_wp2_with fail
  refine (cur_matching w.heap.size _ n1 _ hc1 (by omega) hn1).mono ?_
  rintro e w2 ⟨u, P, rfl, hu, hc2, ht2⟩
  go_wp2_with fail
  go_ret2
  exact ⟨_, n1, R, F, _, P, rfl, (HOO.out.turn ht2 (by simp)).irows, hu.ownI.ints, hn1, HRR.out, cur_below (ht1.trans ht2)⟩
end Go.Proofs.Ytadlemadnifohaa
