/-
  PlacePerformer on both sides.
-/
import Derived.Test.YtljbcfgecbonnaaRows
import Derived.Test.YtljbcfgecbonnaaBase
import Derived.Test.YtljbcfgecbonnaaSpot
import Derived.Test.YtljbcfgecbonnaaSlice
import Derived.Test.YtljbcfgecbonnaaChart
import Derived.Test.YtljbcfgecbonnaaAppend
import Derived.Test.YtljbcfgecbonnaaForm
import Derived.Test.YtljbcfgecbonnaaLawS
import Derived.Test.YtljbcfgecbonnaaMark
import Derived.Test.YtljbcfgecbonnaaOpen
import Derived.Test.YtljbcfgecbonnaaTrod
import Derived.Test.YtljbcfgecbonnaaSwap
namespace Go.Proofs.Ytljbcfgecbonnaa
open Go.RowKit Go.Sort Go.ChangeShapes Go.WideShapes

/-- The list with the number x at the place i. -/
def plX (i : Nat) (x : Int) (X : Nat → Int) (t : Nat) : Int := if t = i then x else X t
def plB (n : Nat) (X Y : Nat → Int) (i x y : Int) : Bool := hasI n X Y i && chartB n (plX i.toNat x X) (plX i.toNat y Y)
theorem pl_no {n : Nat} {X Y : Nat → Int} {i x y : Int} (h : spotB x y = false) : plB n X Y i x y = false := by
  cases hm : plB n X Y i x y with
  | false => rfl
  | true =>
    simp only [plB, Bool.and_eq_true] at hm
    obtain ⟨_, h1, h2⟩ := hasI_iff.1 hm.1
    have := (chartB_iff.1 hm.2).2.1 i.toNat (by omega)
    simp [plX, h] at this
set_option maxHeartbeats 2000000 in
theorem iPlace_any (v : Value) (n : Nat) (X Y : Nat → Int) (i x y : Int) (w : World) (h : Spots w v n X Y) (hn : n ≤ 1048576) :
    Calls Try.prog 32 #[v, .int .i64 i, .agg #[.int .i64 x, .int .i64 y]] w (AnsSB w (sel (plB n X Y i x y) n) (plX i.toNat x X) (plX i.toNat y Y) (plB n X Y i x y)) := by
  obtain ⟨A, c, hv, hnc, hrow⟩ := h
  have HV : Spots w v n X Y := ⟨A, c, hv, hnc, hrow⟩
  subst hv
  clear hrow
  cases hc : chartB n X Y with
  | false =>
    rw [show plB n X Y i x y = false by simp [plB, hasI, hc]]
    go_enter Try.func32, Try.ntmps32
    go_wp2_with ((go_at_call 13; refine (isChart_g _ _ _ _ _ (by first | exact Spots.up (by with_reducible assumption) (by (repeat (first | with_reducible exact Below.refl _ _ | with_reducible assumption | with_reducible refine up_alloc ?_ _ | with_reducible refine up_drew ?_ | with_reducible refine up_drewN ?_ _ | (with_reducible refine up_set ?_ ?hset _; case hset => first | (simp; done) | (simp; omega) | omega) | with_reducible refine up_trans ?_ (by with_reducible assumption)))) | exact OwnS.spots (OwnS.up (by with_reducible assumption) (by (repeat (first | with_reducible exact Below.refl _ _ | with_reducible assumption | with_reducible refine up_alloc ?_ _ | with_reducible refine up_drew ?_ | with_reducible refine up_drewN ?_ _ | (with_reducible refine up_set ?_ ?hset _; case hset => first | (simp; done) | (simp; omega) | omega) | with_reducible refine up_trans ?_ (by with_reducible assumption)))))) (by omega)).mono ?_; rintro e w1 ⟨rfl, hb⟩))
    go_ret2
    exact AnsSB.nil (by (repeat (first | with_reducible exact Below.refl _ _ | with_reducible assumption | with_reducible refine up_alloc ?_ _ | with_reducible refine up_drew ?_ | with_reducible refine up_drewN ?_ _ | (with_reducible refine up_set ?_ ?hset _; case hset => first | (simp; done) | (simp; omega) | omega) | with_reducible refine up_trans ?_ (by with_reducible assumption))))
  | true =>
    cases hi : inB i 0 ((n : Int) - 1) with
    | false =>
      rw [show plB n X Y i x y = false by simp [plB, hasI, hi]]
      go_enter Try.func32, Try.ntmps32
      go_wp2_with (first | (go_at_call 13; refine (isChart_g _ _ _ _ _ (by first | exact Spots.up (by with_reducible assumption) (by (repeat (first | with_reducible exact Below.refl _ _ | with_reducible assumption | with_reducible refine up_alloc ?_ _ | with_reducible refine up_drew ?_ | with_reducible refine up_drewN ?_ _ | (with_reducible refine up_set ?_ ?hset _; case hset => first | (simp; done) | (simp; omega) | omega) | with_reducible refine up_trans ?_ (by with_reducible assumption)))) | exact OwnS.spots (OwnS.up (by with_reducible assumption) (by (repeat (first | with_reducible exact Below.refl _ _ | with_reducible assumption | with_reducible refine up_alloc ?_ _ | with_reducible refine up_drew ?_ | with_reducible refine up_drewN ?_ _ | (with_reducible refine up_set ?_ ?hset _; case hset => first | (simp; done) | (simp; omega) | omega) | with_reducible refine up_trans ?_ (by with_reducible assumption)))))) (by omega)).mono ?_; rintro e w1 ⟨rfl, hb⟩) | (go_at_call 89; refine (within_any _ _ _ _).mono ?_; rintro e w1 ⟨rfl, rfl⟩))
      go_ret2
      exact AnsSB.nil (by (repeat (first | with_reducible exact Below.refl _ _ | with_reducible assumption | with_reducible refine up_alloc ?_ _ | with_reducible refine up_drew ?_ | with_reducible refine up_drewN ?_ _ | (with_reducible refine up_set ?_ ?hset _; case hset => first | (simp; done) | (simp; omega) | omega) | with_reducible refine up_trans ?_ (by with_reducible assumption))))
    | true =>
      go_enter Try.func32, Try.ntmps32
      go_wp2_with fail
      generalize hW : World.alloc w _ = W at *
      have hbW : Below w.heap.size w W := by subst hW; (repeat (first | with_reducible exact Below.refl _ _ | with_reducible assumption | with_reducible refine up_alloc ?_ _ | with_reducible refine up_drew ?_ | with_reducible refine up_drewN ?_ _ | (with_reducible refine up_set ?_ ?hset _; case hset => first | (simp; done) | (simp; omega) | omega) | with_reducible refine up_trans ?_ (by with_reducible assumption)))
      have hwW : w.heap.size < W.heap.size := by subst hW; simp
      have k0 : W.cell? ⟨w.heap.size, 0, none⟩ = some (.int .i64 x) := by subst hW; simp [go_sem]
      have k1 : W.cell? ⟨w.heap.size, 1, none⟩ = some (.int .i64 y) := by subst hW; simp [go_sem]
      clear hW
      have HM := HV.up hbW
      clear HV
      refine (isChart_g _ n X Y _ HM (by omega)).mono ?_
      rintro e w1 ⟨rfl, hb0⟩
      have q0 := up_keep hb0 k0
      have q1 := up_keep hb0 k1
      cases hs : spotB x y with
      | false =>
        have HN := Lib.hid (pl_no (n := n) (X := X) (Y := Y) (i := i) hs)
        go_wp2_with (first | (go_at_call 90; refine (isSpot_any _ _ _).mono ?_; rintro e w1 ⟨rfl, hb⟩) | (go_at_call 89; refine (within_any _ _ _ _).mono ?_; rintro e w1 ⟨rfl, rfl⟩))
        go_ret2
        rw [HN.out]
        exact AnsSB.nil (hbW.trans ((up_trans hb0 hb).mono hbW.size))
      | true =>
        obtain ⟨i1, i2⟩ := inB_iff.1 hi
        obtain ⟨I, rfl⟩ : ∃ I : Nat, i = I := ⟨i.toNat, by omega⟩
        have HP := Lib.hid (show plB n X Y I x y = chartB n (plX I x X) (plX I y Y) by simp [plB, hasI, hc, hi])
        have hI : I < n := by omega
        go_wp2_with (go_at_call 89; refine (within_any _ _ _ _).mono ?_; rintro e w1 ⟨rfl, rfl⟩)
        refine (isSpot_any _ _ _).mono ?_
        rintro e w2 ⟨rfl, hb1⟩
        have r0 := up_keep hb1 q0
        have r1 := up_keep hb1 q1
        have hb2 := up_trans hb0 hb1
        have hz := hb2.size
        have HM2 := HM.up hb2
        clear HM hb0 hb1 q0 q1
        go_wp2_with (at_builtin; refine wpList_app_copy rfl (.tmp 25) (.tmp 26) rfl W.heap.size _ _ n X Y rfl rfl (OwnR.empty hz _ _) (HM2.up (by (repeat (first | with_reducible exact Below.refl _ _ | with_reducible assumption | with_reducible refine up_alloc ?_ _ | with_reducible refine up_drew ?_ | with_reducible refine up_drewN ?_ _ | (with_reducible refine up_set ?_ ?hset _; case hset => first | (simp; done) | (simp; omega) | omega) | with_reducible refine up_trans ?_ (by with_reducible assumption))))) (by simp; omega) (by omega) ?_; intro v3 w3 ho3 hb3; replace hb3 := (up_alloc hb2 _).trans hb3; obtain ⟨A, cp, rfl, hcp, hcr⟩ := ho3.ownS; obtain ⟨b, o, rfl, hbb, hf, hr⟩ := hcr (by omega); have d1 := (hr I (by omega)).1; have d2 := (hr I (by omega)).2; have f1 := hf (o + I * 2); have f2 := hf (o + I * 2 + 1); have s0 := up_keep hb3 k0; have s1 := up_keep hb3 k1; have R1 := Lib.hid (hr.put hI x y); have F1 := Lib.hid ((hf.set ⟨b, o + I * 2, none⟩ (.int .i64 x)).set ⟨b, o + I * 2 + 1, none⟩ (.int .i64 y)); clear hr hf hcr)
        have hbb' : w.heap.size ≤ b := by omega
        have how : OwnS W.heap.size _ (.slice (some ⟨b, o, none⟩) n cp) n (plX I x X) (plX I y Y) := ⟨_, _, rfl, hcp, fun _ => ⟨_, _, rfl, hbb, F1.out, R1.out⟩⟩
        have hbw := hbW.trans ((((hb3.setCell (p := ⟨b, o + I * 2, none⟩) hbb (.int .i64 x)).setCell (p := ⟨b, o + I * 2 + 1, none⟩) hbb (.int .i64 y))).mono hbW.size)
        refine (asForm_g _ n (plX I x X) (plX I y Y) _ how.spots (by omega)).mono ?_
        rintro e w4 ⟨rfl, hbq⟩
        go_wp2_with fail
        go_ret2
        rw [HP.out, show ((I : Int)).toNat = I by omega]
        exact AnsSB.sel ((how.more hbW.size).up hbq) (up_trans hbw hbq)
set_option maxHeartbeats 2000000 in
theorem sPlace_any (v : Value) (n : Nat) (X Y : Nat → Int) (i x y : Int) (w : World) (h : Spots w v n X Y) (hn : n ≤ 1048576) :
    Calls Try.prog 33 #[v, .int .i64 i, .agg #[.int .i64 x, .int .i64 y]] w (AnsSB w (sel (plB n X Y i x y) n) (plX i.toNat x X) (plX i.toNat y Y) (plB n X Y i x y)) := by
  cases hi : hasI n X Y i with
  | false =>
    rw [show plB n X Y i x y = false by simp [plB, hi]]
    go_enter Try.func33, Try.ntmps33
    go_wp2_with ((go_at_call 104; refine (chHas_g _ _ _ _ _ _ (by first | exact Spots.up (by with_reducible assumption) (by (repeat (first | with_reducible exact Below.refl _ _ | with_reducible assumption | with_reducible refine up_alloc ?_ _ | with_reducible refine up_drew ?_ | with_reducible refine up_drewN ?_ _ | (with_reducible refine up_set ?_ ?hset _; case hset => first | (simp; done) | (simp; omega) | omega) | with_reducible refine up_trans ?_ (by with_reducible assumption)))) | exact OwnS.spots (OwnS.up (by with_reducible assumption) (by (repeat (first | with_reducible exact Below.refl _ _ | with_reducible assumption | with_reducible refine up_alloc ?_ _ | with_reducible refine up_drew ?_ | with_reducible refine up_drewN ?_ _ | (with_reducible refine up_set ?_ ?hset _; case hset => first | (simp; done) | (simp; omega) | omega) | with_reducible refine up_trans ?_ (by with_reducible assumption)))))) (by omega)).mono ?_; rintro e w1 ⟨rfl, hb⟩))
    go_ret2
    exact AnsSB.nil (by (repeat (first | with_reducible exact Below.refl _ _ | with_reducible assumption | with_reducible refine up_alloc ?_ _ | with_reducible refine up_drew ?_ | with_reducible refine up_drewN ?_ _ | (with_reducible refine up_set ?_ ?hset _; case hset => first | (simp; done) | (simp; omega) | omega) | with_reducible refine up_trans ?_ (by with_reducible assumption))))
  | true =>
    obtain ⟨hc, i1, i2⟩ := hasI_iff.1 hi
    obtain ⟨I, rfl⟩ : ∃ I : Nat, i = I := ⟨i.toNat, by omega⟩
    rw [show plB n X Y I x y = chartB n (plX I x X) (plX I y Y) by simp [plB, hi]]
    rw [show ((I : Int)).toNat = I by omega]
    clear hc
    have hI : I < n := by omega
    go_enter Try.func33, Try.ntmps33
    go_wp2_with fail
    generalize hW : World.alloc w _ = W at *
    have hbW : Below w.heap.size w W := by subst hW; (repeat (first | with_reducible exact Below.refl _ _ | with_reducible assumption | with_reducible refine up_alloc ?_ _ | with_reducible refine up_drew ?_ | with_reducible refine up_drewN ?_ _ | (with_reducible refine up_set ?_ ?hset _; case hset => first | (simp; done) | (simp; omega) | omega) | with_reducible refine up_trans ?_ (by with_reducible assumption)))
    have k0 : W.cell? ⟨w.heap.size, 0, none⟩ = some (.int .i64 x) := by subst hW; simp [go_sem]
    have k1 : W.cell? ⟨w.heap.size, 1, none⟩ = some (.int .i64 y) := by subst hW; simp [go_sem]
    clear hW
    have HM := h.up hbW
    clear h
    refine (chHas_g v n X Y _ _ HM (by omega)).mono ?_
    rintro e w1 ⟨rfl, hb0⟩
    go_wp2_with fail
    refine (chOwn_g v n X Y _ (HM.up hb0) (by omega)).mono ?_
    rintro e w3 ⟨v1, rfl, ho, hb1⟩
    have hz := hb0.size
    have hb3 := up_trans hb0 hb1
    obtain ⟨A, cp, rfl, hcp, hcr⟩ := ho.ownS
    obtain ⟨b, o, rfl, hbb, hf, hr⟩ := hcr (by omega)
    have d1 := (hr I (by omega)).1; have d2 := (hr I (by omega)).2
    have f1 := hf (o + I * 2); have f2 := hf (o + I * 2 + 1)
    have s0 := up_keep hb3 k0
    have s1 := up_keep hb3 k1
    have R1 := Lib.hid (hr.put hI x y)
    have F1 := Lib.hid ((hf.set ⟨b, o + I * 2, none⟩ (.int .i64 x)).set ⟨b, o + I * 2 + 1, none⟩ (.int .i64 y))
    have hbb2 : W.heap.size ≤ b := by omega
    clear hr hf hcr ho HM hb0 hb1 hbb
    go_wp2_with fail
    have how : OwnS W.heap.size _ (.slice (some ⟨b, o, none⟩) n cp) n (plX I x X) (plX I y Y) := ⟨_, _, rfl, hcp, fun _ => ⟨_, _, rfl, hbb2, F1.out, R1.out⟩⟩
    have hbw := hbW.trans ((((hb3.setCell (p := ⟨b, o + I * 2, none⟩) hbb2 (.int .i64 x)).setCell (p := ⟨b, o + I * 2 + 1, none⟩) hbb2 (.int .i64 y))).mono hbW.size)
    refine (chIf_g _ n (plX I x X) (plX I y Y) _ how.spots (by omega)).mono ?_
    rintro e w4 ⟨rfl, hbq⟩
    go_wp2_with fail
    go_ret2
    exact AnsSB.sel ((how.more hbW.size).up hbq) (up_trans hbw hbq)
end Go.Proofs.Ytljbcfgecbonnaa
