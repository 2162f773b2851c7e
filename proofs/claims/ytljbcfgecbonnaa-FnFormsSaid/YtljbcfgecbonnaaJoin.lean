/-
  JoinForms on both sides.
-/
import Derived.Test.YtljbcfgecbonnaaRows
import Derived.Test.YtljbcfgecbonnaaBase
import Derived.Test.YtljbcfgecbonnaaSpot
import Derived.Test.YtljbcfgecbonnaaSlice
import Derived.Test.YtljbcfgecbonnaaChart
import Derived.Test.YtljbcfgecbonnaaAppend
import Derived.Test.YtljbcfgecbonnaaForm
import Derived.Test.YtljbcfgecbonnaaLawS
import Derived.Test.YtljbcfgecbonnaaMark
import Derived.Test.YtljbcfgecbonnaaOpen
namespace Go.Proofs.Ytljbcfgecbonnaa
open Go.RowKit Go.Sort Go.ChangeShapes Go.WideShapes

/-- Is there a joined form? -/
def joinB (n : Nat) (X Y : Nat → Int) (m : Nat) (X' Y' : Nat → Int) : Bool := (chartB n X Y && chartB m X' Y') && chartB (n + m) (cat n X X') (cat n Y Y')
set_option maxHeartbeats 1000000 in
theorem iJoin_any (v v' : Value) (n m : Nat) (X Y X' Y' : Nat → Int) (w : World) (h : Spots w v n X Y) (h' : Spots w v' m X' Y') (hn : n + m ≤ 1048576) :
    Calls Try.prog 10 #[v, v'] w (AnsSB w (sel (joinB n X Y m X' Y') (n + m)) (cat n X X') (cat n Y Y') (joinB n X Y m X' Y')) := by
  cases hc : chartB n X Y with
  | false =>
    rw [show joinB n X Y m X' Y' = false by simp [joinB, hc]]
    go_enter Try.func10, Try.ntmps10
    go_wp2_with ((go_at_call 13; refine (isChart_g _ _ _ _ _ (by first | exact Spots.up (by with_reducible assumption) (by (repeat (first | with_reducible exact Below.refl _ _ | with_reducible assumption | with_reducible refine up_alloc ?_ _ | with_reducible refine up_drew ?_ | with_reducible refine up_drewN ?_ _ | (with_reducible refine up_set ?_ ?hset _; case hset => first | (simp; done) | (simp; omega) | omega) | with_reducible refine up_trans ?_ (by with_reducible assumption)))) | exact OwnS.spots (OwnS.up (by with_reducible assumption) (by (repeat (first | with_reducible exact Below.refl _ _ | with_reducible assumption | with_reducible refine up_alloc ?_ _ | with_reducible refine up_drew ?_ | with_reducible refine up_drewN ?_ _ | (with_reducible refine up_set ?_ ?hset _; case hset => first | (simp; done) | (simp; omega) | omega) | with_reducible refine up_trans ?_ (by with_reducible assumption)))))) (by omega)).mono ?_; rintro e w1 ⟨rfl, hb⟩))
    go_ret2
    exact AnsSB.nil (by (repeat (first | with_reducible exact Below.refl _ _ | with_reducible assumption | with_reducible refine up_alloc ?_ _ | with_reducible refine up_drew ?_ | with_reducible refine up_drewN ?_ _ | (with_reducible refine up_set ?_ ?hset _; case hset => first | (simp; done) | (simp; omega) | omega) | with_reducible refine up_trans ?_ (by with_reducible assumption))))
  | true =>
    cases hc' : chartB m X' Y' with
    | false =>
      rw [show joinB n X Y m X' Y' = false by simp [joinB, hc, hc']]
      go_enter Try.func10, Try.ntmps10
      go_wp2_with ((go_at_call 13; refine (isChart_g _ _ _ _ _ (by first | exact Spots.up (by with_reducible assumption) (by (repeat (first | with_reducible exact Below.refl _ _ | with_reducible assumption | with_reducible refine up_alloc ?_ _ | with_reducible refine up_drew ?_ | with_reducible refine up_drewN ?_ _ | (with_reducible refine up_set ?_ ?hset _; case hset => first | (simp; done) | (simp; omega) | omega) | with_reducible refine up_trans ?_ (by with_reducible assumption)))) | exact OwnS.spots (OwnS.up (by with_reducible assumption) (by (repeat (first | with_reducible exact Below.refl _ _ | with_reducible assumption | with_reducible refine up_alloc ?_ _ | with_reducible refine up_drew ?_ | with_reducible refine up_drewN ?_ _ | (with_reducible refine up_set ?_ ?hset _; case hset => first | (simp; done) | (simp; omega) | omega) | with_reducible refine up_trans ?_ (by with_reducible assumption)))))) (by omega)).mono ?_; rintro e w1 ⟨rfl, hb⟩))
      go_ret2
      exact AnsSB.nil (by (repeat (first | with_reducible exact Below.refl _ _ | with_reducible assumption | with_reducible refine up_alloc ?_ _ | with_reducible refine up_drew ?_ | with_reducible refine up_drewN ?_ _ | (with_reducible refine up_set ?_ ?hset _; case hset => first | (simp; done) | (simp; omega) | omega) | with_reducible refine up_trans ?_ (by with_reducible assumption))))
    | true =>
      have e : joinB n X Y m X' Y' = chartB (n + m) (cat n X X') (cat n Y Y') := by simp [joinB, hc, hc']
      rw [e]
      clear e
      go_enter Try.func10, Try.ntmps10
      go_wp2_with fail
      refine (isChart_g v n X Y _ h (by omega)).mono ?_
      rintro e w1 ⟨rfl, hb0⟩
      go_wp2_with fail
      refine (isChart_g v' m X' Y' _ (h'.up hb0) (by omega)).mono ?_
      rintro e w2 ⟨rfl, hb1⟩
      have hW2 := up_trans hb0 hb1
      have hz := hW2.size
      have HM := h
      have HM' := h'
      clear h h' hb0 hb1
      go_wp2_with (first
        | (at_builtin; refine wpList_app_copy rfl (.tmp 14) (.tmp 15) rfl w.heap.size _ v n X Y rfl rfl (OwnR.empty hz _ _) (HM.up (by (repeat (first | with_reducible exact Below.refl _ _ | with_reducible assumption | with_reducible refine up_alloc ?_ _ | with_reducible refine up_drew ?_ | with_reducible refine up_drewN ?_ _ | (with_reducible refine up_set ?_ ?hset _; case hset => first | (simp; done) | (simp; omega) | omega) | with_reducible refine up_trans ?_ (by with_reducible assumption))))) (by simp; omega) (by omega) ?_; intro v3 w3 ho3 hb3; replace hb3 := (up_alloc hW2 _).trans hb3)
        | (at_builtin; refine wpList_app_all rfl (.tmp 16) (.tmp 17) rfl w.heap.size _ v' n m X Y X' Y' rfl rfl ho3 (HM'.up hb3) hb3.size (by omega) ?_; intro v4 w4 ho4 hb4; replace hb4 := hb3.trans hb4)
        | (go_at_call 85; refine (asForm_g _ _ _ _ _ ho4.ownS.spots (by omega)).mono ?_; rintro e w1 ⟨rfl, hb⟩))
      go_ret2
      exact AnsSB.sel (ho4.ownS.up hb) (up_trans hb4 hb)
set_option maxHeartbeats 1000000 in
theorem sJoin_any (v v' : Value) (n m : Nat) (X Y X' Y' : Nat → Int) (w : World) (h : Spots w v n X Y) (h' : Spots w v' m X' Y') (hn : n + m ≤ 1048576) :
    Calls Try.prog 11 #[v, v'] w (AnsSB w (sel (joinB n X Y m X' Y') (n + m)) (cat n X X') (cat n Y Y') (joinB n X Y m X' Y')) := by
  cases hc : chartB n X Y with
  | false =>
    rw [show joinB n X Y m X' Y' = false by simp [joinB, hc]]
    go_enter Try.func11, Try.ntmps11
    go_wp2_with ((go_at_call 86; refine (chGood_g _ _ _ _ _ (by first | exact Spots.up (by with_reducible assumption) (by (repeat (first | with_reducible exact Below.refl _ _ | with_reducible assumption | with_reducible refine up_alloc ?_ _ | with_reducible refine up_drew ?_ | with_reducible refine up_drewN ?_ _ | (with_reducible refine up_set ?_ ?hset _; case hset => first | (simp; done) | (simp; omega) | omega) | with_reducible refine up_trans ?_ (by with_reducible assumption)))) | exact OwnS.spots (OwnS.up (by with_reducible assumption) (by (repeat (first | with_reducible exact Below.refl _ _ | with_reducible assumption | with_reducible refine up_alloc ?_ _ | with_reducible refine up_drew ?_ | with_reducible refine up_drewN ?_ _ | (with_reducible refine up_set ?_ ?hset _; case hset => first | (simp; done) | (simp; omega) | omega) | with_reducible refine up_trans ?_ (by with_reducible assumption)))))) (by omega)).mono ?_; rintro e w1 ⟨rfl, hb⟩))
    go_ret2
    exact AnsSB.nil (by (repeat (first | with_reducible exact Below.refl _ _ | with_reducible assumption | with_reducible refine up_alloc ?_ _ | with_reducible refine up_drew ?_ | with_reducible refine up_drewN ?_ _ | (with_reducible refine up_set ?_ ?hset _; case hset => first | (simp; done) | (simp; omega) | omega) | with_reducible refine up_trans ?_ (by with_reducible assumption))))
  | true =>
    cases hc' : chartB m X' Y' with
    | false =>
      rw [show joinB n X Y m X' Y' = false by simp [joinB, hc, hc']]
      go_enter Try.func11, Try.ntmps11
      go_wp2_with ((go_at_call 86; refine (chGood_g _ _ _ _ _ (by first | exact Spots.up (by with_reducible assumption) (by (repeat (first | with_reducible exact Below.refl _ _ | with_reducible assumption | with_reducible refine up_alloc ?_ _ | with_reducible refine up_drew ?_ | with_reducible refine up_drewN ?_ _ | (with_reducible refine up_set ?_ ?hset _; case hset => first | (simp; done) | (simp; omega) | omega) | with_reducible refine up_trans ?_ (by with_reducible assumption)))) | exact OwnS.spots (OwnS.up (by with_reducible assumption) (by (repeat (first | with_reducible exact Below.refl _ _ | with_reducible assumption | with_reducible refine up_alloc ?_ _ | with_reducible refine up_drew ?_ | with_reducible refine up_drewN ?_ _ | (with_reducible refine up_set ?_ ?hset _; case hset => first | (simp; done) | (simp; omega) | omega) | with_reducible refine up_trans ?_ (by with_reducible assumption)))))) (by omega)).mono ?_; rintro e w1 ⟨rfl, hb⟩))
      go_ret2
      exact AnsSB.nil (by (repeat (first | with_reducible exact Below.refl _ _ | with_reducible assumption | with_reducible refine up_alloc ?_ _ | with_reducible refine up_drew ?_ | with_reducible refine up_drewN ?_ _ | (with_reducible refine up_set ?_ ?hset _; case hset => first | (simp; done) | (simp; omega) | omega) | with_reducible refine up_trans ?_ (by with_reducible assumption))))
    | true =>
      have e : joinB n X Y m X' Y' = chartB (n + m) (cat n X X') (cat n Y Y') := by simp [joinB, hc, hc']
      rw [e]
      clear e
      go_enter Try.func11, Try.ntmps11
      go_wp2_with fail
      refine (chGood_g v n X Y _ h (by omega)).mono ?_
      rintro e w1 ⟨rfl, hb0⟩
      go_wp2_with fail
      refine (chGood_g v' m X' Y' _ (h'.up hb0) (by omega)).mono ?_
      rintro e w2 ⟨rfl, hb1⟩
      have hW2 := up_trans hb0 hb1
      have HM := h
      have HM' := h'
      clear h h' hb0 hb1
      go_wp2_with fail
      refine (chOwn_g v n X Y _ (HM.up hW2) (by omega)).mono ?_
      rintro e w3 ⟨v3, rfl, ho3, hb3⟩
      have hW3 := up_trans hW2 hb3
      have hz := hW2.size
      have ho3' := World.ownsRow.kept (row := none) ho3 (World.grownBy.refl _ _) (by cases v3.ownBlock <;> simp)
      go_wp2_with (first
        | (at_builtin; refine wpList_app_all rfl (.tmp 15) (.tmp 16) rfl w2.heap.size _ v' n m X Y X' Y' rfl rfl ho3 (HM'.up hW3) hb3.size (by omega) ?_; intro v4 w4 ho4 hb4; have hW4 := hW3.trans (hb4.mono hz))
        | (go_at_call 87; refine (chIf_g _ _ _ _ _ ho4.ownS.spots (by omega)).mono ?_; rintro e w1 ⟨rfl, hb⟩))
      go_ret2
      exact AnsSB.sel ((ho4.ownS.more hz).up hb) (up_trans hW4 hb)
end Go.Proofs.Ytljbcfgecbonnaa
