/-
  WedgeOf on both sides.
-/
import Derived.Test.YthpflpjhohmboaaRows
import Derived.Test.YthpflpjhohmboaaBase
import Derived.Test.YthpflpjhohmboaaSpot
import Derived.Test.YthpflpjhohmboaaSlice
import Derived.Test.YthpflpjhohmboaaChart
import Derived.Test.YthpflpjhohmboaaAppend
import Derived.Test.YthpflpjhohmboaaAppendE
import Derived.Test.YthpflpjhohmboaaForm
import Derived.Test.YthpflpjhohmboaaLawS
import Derived.Test.YthpflpjhohmboaaMark
import Derived.Test.YthpflpjhohmboaaOpen
import Derived.Test.YthpflpjhohmboaaTrod
import Derived.Test.YthpflpjhohmboaaBlock
namespace Go.Proofs.Ythpflpjhohmboaa
open Go.RowKit Go.Sort Go.ChangeShapes Go.WideShapes

/-- The wedge's spots: the i-th lies in rank (i + 1) / 2, on the right if i is odd. -/
def weX (x fx : Int) (i : Nat) : Int := if i % 2 = 1 then x + ((i + 1) / 2 : Nat) * fx else x - ((i + 1) / 2 : Nat) * fx
def weY (y fy : Int) (i : Nat) : Int := y + ((i + 1) / 2 : Nat) * fy
def weOk (x y count fx fy : Int) : Bool := spotB x y && inB count 1 12 && inB fx (-200) 200 && inB fy (-200) 200
def weB (x y count fx fy : Int) : Bool := weOk x y count fx fy && chartB count.toNat (weX x fx) (weY y fy)
theorem we0 (x fx : Int) : weX x fx 0 = x := by simp [weX]
theorem we0' (y fy : Int) : weY y fy 0 = y := by simp [weY]
theorem we1 (x fx : Int) (k n : Nat) (hk : 1 ≤ k) (h : n = 2 * k - 1) : weX x fx n = x + (k : Int) * fx := by
  unfold weX; rw [if_pos (by omega), show (n + 1) / 2 = k by omega]
theorem we2 (x fx : Int) (k n : Nat) (hk : 1 ≤ k) (h : n = 2 * k - 1) : weX x fx (n + 1) = x - (k : Int) * fx := by
  unfold weX; rw [if_neg (by omega), show (n + 1 + 1) / 2 = k by omega]
theorem we1' (y fy : Int) (k n : Nat) (hk : 1 ≤ k) (h : n = 2 * k - 1 ∨ n = 2 * k) : weY y fy n = y + (k : Int) * fy := by
  unfold weY; rw [show (n + 1) / 2 = k by omega]
theorem OwnR.shape {base : Nat} {w : World} {v : Value} {n : Nat} {X Y : Nat → Int} (h : OwnR base w v n X Y) : ∃ A c, v = .slice A n c ∧ n ≤ c ∧ c ≤ maxLen := by
  rcases h.2 with ⟨rfl, rfl⟩ | ⟨g, cap, cur, rfl, hb, hg, hnc, hm, _⟩
  · exact ⟨none, 0, rfl, Nat.le_refl _, by unfold maxLen; omega⟩
  · exact ⟨_, _, rfl, hnc, hm⟩
set_option maxHeartbeats 2000000 in
theorem iWedge_any (x y count fx fy : Int) (w : World) :
    Calls Try.prog 30 #[.agg #[.int .i64 x, .int .i64 y], .int .i64 count, .int .i64 fx, .int .i64 fy] w
      (AnsSB w (sel (weB x y count fx fy) count.toNat) (weX x fx) (weY y fy) (weB x y count fx fy)) := by
  cases hv : weOk x y count fx fy with
  | false =>
    rw [show weB x y count fx fy = false by simp [weB, hv]]
    unfold weOk at hv
    go_enter Try.func30, Try.ntmps30
    go_wp2_with (first | (go_at_call 62; refine (isSpot_any _ _ _).mono ?_; rintro e w1 ⟨rfl, hb⟩) | (go_at_call 56; refine (within_any _ _ _ _).mono ?_; rintro e w1 ⟨rfl, rfl⟩))
    all_goals first
      | (exfalso; simp_all; done)
      | (go_ret2; exact AnsSB.nil (by (repeat (first | with_reducible exact Below.refl _ _ | with_reducible assumption | with_reducible refine up_alloc ?_ _ | with_reducible refine up_drew ?_ | with_reducible refine up_drewN ?_ _ | (with_reducible refine up_set ?_ ?hset _; case hset => first | (simp; done) | (simp; omega) | omega) | with_reducible refine up_trans ?_ (by with_reducible assumption)))))
  | true =>
    rw [show weB x y count fx fy = chartB count.toNat (weX x fx) (weY y fy) by simp [weB, hv]]
    simp only [weOk, Bool.and_eq_true] at hv
    obtain ⟨⟨⟨v1, v2⟩, v3⟩, v4⟩ := hv
    have v1' := spotB_iff.1 v1
    have v2' := inB_iff.1 v2
    have v3' := inB_iff.1 v3
    have v4' := inB_iff.1 v4
    obtain ⟨⟨a1, a2⟩, a3, a4⟩ := v1'
    obtain ⟨b1, b2⟩ := v2'
    obtain ⟨d1, d2⟩ := v3'
    obtain ⟨e1, e2⟩ := v4'
    obtain ⟨C, rfl⟩ : ∃ C : Nat, count = C := ⟨count.toNat, by omega⟩
    rw [show ((C : Int)).toNat = C by omega]
    go_enter Try.func30, Try.ntmps30
    go_wp2_with fail
    generalize hW : World.alloc w _ = W at *
    have hbW : Below w.heap.size w W := by subst hW; (repeat (first | with_reducible exact Below.refl _ _ | with_reducible assumption | with_reducible refine up_alloc ?_ _ | with_reducible refine up_drew ?_ | with_reducible refine up_drewN ?_ _ | (with_reducible refine up_set ?_ ?hset _; case hset => first | (simp; done) | (simp; omega) | omega) | with_reducible refine up_trans ?_ (by with_reducible assumption)))
    have k0 : W.cell? ⟨w.heap.size, 0, none⟩ = some (.int .i64 x) := by subst hW; simp [go_sem]
    have k1 : W.cell? ⟨w.heap.size, 1, none⟩ = some (.int .i64 y) := by subst hW; simp [go_sem]
    refine (isSpot_any _ _ _).mono ?_
    rintro e w1 ⟨rfl, hb⟩
    have q0 := up_keep hb k0
    have q1 := up_keep hb k1
    go_wp2_with (first | (go_at_call 62; refine (isSpot_any _ _ _).mono ?_; rintro e w1 ⟨rfl, hb⟩) | (go_at_call 56; refine (within_any _ _ _ _).mono ?_; rintro e w1 ⟨rfl, rfl⟩))
    clear hW v1 v2 v3 v4
    have hz := hb.size
    go_loopw [10, 11] (fun v i wr => ∃ k n : Nat, 1 ≤ k ∧ n ≤ C ∧ (n = 2 * k - 1 ∨ (n = C ∧ C < 2 * k)) ∧ i = .int .i64 k ∧ k ≤ 7 ∧ OwnR W.heap.size wr v n (weX x fx) (weY y fy) ∧ Below W.heap.size W wr) (fun _ i _ => 20 - (intOf i).toNat)
    case atStart => exact ⟨1, 1, by omega, by omega, by omega, rfl, by omega, OwnR.one hb.size (we0 x fx) (we0' y fy), by (repeat (first | with_reducible exact Below.refl _ _ | with_reducible assumption | with_reducible refine up_alloc ?_ _ | with_reducible refine up_drew ?_ | with_reducible refine up_drewN ?_ _ | (with_reducible refine up_set ?_ ?hset _; case hset => first | (simp; done) | (simp; omega) | omega) | with_reducible refine up_trans ?_ (by with_reducible assumption)))⟩
    case round =>
      clear hb
      obtain ⟨k, n, hk1, hn, hkn, rfl, hk7, how, hb⟩ := hrel
      obtain ⟨A, cp, rfl, hcp, hcp'⟩ := OwnR.shape how
      by_cases hlt : n < C
      · have q0 := up_keep hb k0
        have q1 := up_keep hb k1
        have hm1 := mul_bd (a := (k : Int)) (b := fx) (A := 12) (B := 200) (by omega) (by omega) (by omega) (by omega)
        have hm2 := mul_bd (a := (k : Int)) (b := fy) (A := 12) (B := 200) (by omega) (by omega) (by omega) (by omega)
        by_cases hlt2 : n + 1 < C
        · go_wp2_with (first | (at_builtin; refine wpList_app_spot_e rfl (.tmp 38) (.tmp 52) rfl W.heap.size _ n (weX x fx) (weY y fy) rfl rfl (by simp) (OwnR.up how (by (repeat (first | with_reducible exact Below.refl _ _ | with_reducible assumption | with_reducible refine up_alloc ?_ _ | with_reducible refine up_drew ?_ | with_reducible refine up_drewN ?_ _ | (with_reducible refine up_set ?_ ?hset _; case hset => first | (simp; done) | (simp; omega) | omega) | with_reducible refine up_trans ?_ (by with_reducible assumption))))) (show Below W.heap.size W _ from (by (repeat (first | with_reducible exact Below.refl _ _ | with_reducible assumption | with_reducible refine up_alloc ?_ _ | with_reducible refine up_drew ?_ | with_reducible refine up_drewN ?_ _ | (with_reducible refine up_set ?_ ?hset _; case hset => first | (simp; done) | (simp; omega) | omega) | with_reducible refine up_trans ?_ (by with_reducible assumption))))).size (by omega) (we1 x fx k n (by omega) (by omega)) (we1' y fy k n (by omega) (by omega)) ?_; intro v2 w2 ho2 hb2; replace hb2 := (show Below W.heap.size W _ from (by (repeat (first | with_reducible exact Below.refl _ _ | with_reducible assumption | with_reducible refine up_alloc ?_ _ | with_reducible refine up_drew ?_ | with_reducible refine up_drewN ?_ _ | (with_reducible refine up_set ?_ ?hset _; case hset => first | (simp; done) | (simp; omega) | omega) | with_reducible refine up_trans ?_ (by with_reducible assumption))))).trans hb2; obtain ⟨A2, cp2, rfl, hcq, hcq'⟩ := OwnR.shape ho2; have q2 := up_keep hb2 k0; have q3 := up_keep hb2 k1) | (at_builtin; refine wpList_app_spot_e rfl (.tmp 58) (.tmp 72) rfl W.heap.size _ (n + 1) (weX x fx) (weY y fy) rfl rfl (by simp) (OwnR.up ho2 (by (repeat (first | with_reducible exact Below.refl _ _ | with_reducible assumption | with_reducible refine up_alloc ?_ _ | with_reducible refine up_drew ?_ | with_reducible refine up_drewN ?_ _ | (with_reducible refine up_set ?_ ?hset _; case hset => first | (simp; done) | (simp; omega) | omega) | with_reducible refine up_trans ?_ (by with_reducible assumption))))) (show Below W.heap.size W _ from (by (repeat (first | with_reducible exact Below.refl _ _ | with_reducible assumption | with_reducible refine up_alloc ?_ _ | with_reducible refine up_drew ?_ | with_reducible refine up_drewN ?_ _ | (with_reducible refine up_set ?_ ?hset _; case hset => first | (simp; done) | (simp; omega) | omega) | with_reducible refine up_trans ?_ (by with_reducible assumption))))).size (by omega) (we2 x fx k n (by omega) (by omega)) (we1' y fy k (n + 1) (by omega) (by omega)) ?_; intro v3 w3 ho3 hb3; replace hb3 := (show Below W.heap.size W _ from (by (repeat (first | with_reducible exact Below.refl _ _ | with_reducible assumption | with_reducible refine up_alloc ?_ _ | with_reducible refine up_drew ?_ | with_reducible refine up_drewN ?_ _ | (with_reducible refine up_set ?_ ?hset _; case hset => first | (simp; done) | (simp; omega) | omega) | with_reducible refine up_trans ?_ (by with_reducible assumption))))).trans hb3))
          go_roundw
          case rel => exact ⟨k + 1, n + 1 + 1, by omega, by omega, by omega, by go_num, by omega, ho3, hb3⟩
          case measure => simp [intOf]; omega
        · go_wp2_with (at_builtin; refine wpList_app_spot_e rfl (.tmp 38) (.tmp 52) rfl W.heap.size _ n (weX x fx) (weY y fy) rfl rfl (by simp) (OwnR.up how (by (repeat (first | with_reducible exact Below.refl _ _ | with_reducible assumption | with_reducible refine up_alloc ?_ _ | with_reducible refine up_drew ?_ | with_reducible refine up_drewN ?_ _ | (with_reducible refine up_set ?_ ?hset _; case hset => first | (simp; done) | (simp; omega) | omega) | with_reducible refine up_trans ?_ (by with_reducible assumption))))) (show Below W.heap.size W _ from (by (repeat (first | with_reducible exact Below.refl _ _ | with_reducible assumption | with_reducible refine up_alloc ?_ _ | with_reducible refine up_drew ?_ | with_reducible refine up_drewN ?_ _ | (with_reducible refine up_set ?_ ?hset _; case hset => first | (simp; done) | (simp; omega) | omega) | with_reducible refine up_trans ?_ (by with_reducible assumption))))).size (by omega) (we1 x fx k n (by omega) (by omega)) (we1' y fy k n (by omega) (by omega)) ?_; intro v2 w2 ho2 hb2; replace hb2 := (show Below W.heap.size W _ from (by (repeat (first | with_reducible exact Below.refl _ _ | with_reducible assumption | with_reducible refine up_alloc ?_ _ | with_reducible refine up_drew ?_ | with_reducible refine up_drewN ?_ _ | (with_reducible refine up_set ?_ ?hset _; case hset => first | (simp; done) | (simp; omega) | omega) | with_reducible refine up_trans ?_ (by with_reducible assumption))))).trans hb2; obtain ⟨A2, cp2, rfl, hcq, hcq'⟩ := OwnR.shape ho2; have q2 := up_keep hb2 k0; have q3 := up_keep hb2 k1)
          go_roundw
          case rel => exact ⟨k + 1, n + 1, by omega, by omega, by omega, by go_num, by omega, ho2, hb2⟩
          case measure => simp [intOf]; omega
      · have e : n = C := by omega
        subst e
        have hbw := hbW.trans (hb.mono hbW.size)
        go_wp2_with (go_at_call 63; refine (asForm_g _ _ _ _ _ how.ownS.spots (by omega)).mono ?_; rintro e wq ⟨rfl, hbq⟩)
        go_ret2
        exact AnsSB.sel ((how.ownS.more hbW.size).up hbq) (up_trans hbw hbq)
set_option maxHeartbeats 2000000 in
theorem sWedge_any (x y count fx fy : Int) (w : World) :
    Calls Try.prog 28 #[.agg #[.int .i64 x, .int .i64 y], .int .i64 count, .int .i64 fx, .int .i64 fy] w
      (AnsSB w (sel (weB x y count fx fy) count.toNat) (weX x fx) (weY y fy) (weB x y count fx fy)) := by
  cases hv : weOk x y count fx fy with
  | false =>
    rw [show weB x y count fx fy = false by simp [weB, hv]]
    unfold weOk at hv
    go_enter Try.func28, Try.ntmps28
    go_wp2_with (first | (go_at_call 58; refine (stGood_any _ _ _).mono ?_; rintro e w1 ⟨rfl, hb⟩) | (go_at_call 60; refine (l1In_any _ _ _ _).mono ?_; rintro e w1 ⟨rfl, rfl⟩) | (go_at_call 59; refine (fmCount_any _ _).mono ?_; rintro e w1 ⟨rfl, rfl⟩))
    all_goals first
      | (exfalso; simp_all; done)
      | (go_ret2; exact AnsSB.nil (by (repeat (first | with_reducible exact Below.refl _ _ | with_reducible assumption | with_reducible refine up_alloc ?_ _ | with_reducible refine up_drew ?_ | with_reducible refine up_drewN ?_ _ | (with_reducible refine up_set ?_ ?hset _; case hset => first | (simp; done) | (simp; omega) | omega) | with_reducible refine up_trans ?_ (by with_reducible assumption)))))
  | true =>
    rw [show weB x y count fx fy = chartB count.toNat (weX x fx) (weY y fy) by simp [weB, hv]]
    simp only [weOk, Bool.and_eq_true] at hv
    obtain ⟨⟨⟨v1, v2⟩, v3⟩, v4⟩ := hv
    have v1' := spotB_iff.1 v1
    have v2' := inB_iff.1 v2
    have v3' := inB_iff.1 v3
    have v4' := inB_iff.1 v4
    obtain ⟨⟨a1, a2⟩, a3, a4⟩ := v1'
    obtain ⟨b1, b2⟩ := v2'
    obtain ⟨d1, d2⟩ := v3'
    obtain ⟨e1, e2⟩ := v4'
    obtain ⟨C, rfl⟩ : ∃ C : Nat, count = C := ⟨count.toNat, by omega⟩
    rw [show ((C : Int)).toNat = C by omega]
    go_enter Try.func28, Try.ntmps28
    go_wp2_with fail
    generalize hW : World.alloc w _ = W at *
    have hbW : Below w.heap.size w W := by subst hW; (repeat (first | with_reducible exact Below.refl _ _ | with_reducible assumption | with_reducible refine up_alloc ?_ _ | with_reducible refine up_drew ?_ | with_reducible refine up_drewN ?_ _ | (with_reducible refine up_set ?_ ?hset _; case hset => first | (simp; done) | (simp; omega) | omega) | with_reducible refine up_trans ?_ (by with_reducible assumption)))
    have k0 : W.cell? ⟨w.heap.size, 0, none⟩ = some (.int .i64 x) := by subst hW; simp [go_sem]
    have k1 : W.cell? ⟨w.heap.size, 1, none⟩ = some (.int .i64 y) := by subst hW; simp [go_sem]
    refine (stGood_any _ _ _).mono ?_
    rintro e w1 ⟨rfl, hb⟩
    have q0 := up_keep hb k0
    have q1 := up_keep hb k1
    go_wp2_with (first | (go_at_call 58; refine (stGood_any _ _ _).mono ?_; rintro e w1 ⟨rfl, hb⟩) | (go_at_call 60; refine (l1In_any _ _ _ _).mono ?_; rintro e w1 ⟨rfl, rfl⟩) | (go_at_call 59; refine (fmCount_any _ _).mono ?_; rintro e w1 ⟨rfl, rfl⟩))
    clear hW v1 v2 v3 v4
    have hz := hb.size
    go_loopw [10, 11] (fun v i wr => ∃ k n : Nat, 1 ≤ k ∧ n = 2 * k - 1 ∧ n ≤ C + 1 ∧ i = .int .i64 k ∧ k ≤ 7 ∧ OwnR W.heap.size wr v n (weX x fx) (weY y fy) ∧ Below W.heap.size W wr) (fun _ i _ => 20 - (intOf i).toNat)
    case atStart => exact ⟨1, 1, by omega, by omega, by omega, rfl, by omega, OwnR.one hb.size (we0 x fx) (we0' y fy), by (repeat (first | with_reducible exact Below.refl _ _ | with_reducible assumption | with_reducible refine up_alloc ?_ _ | with_reducible refine up_drew ?_ | with_reducible refine up_drewN ?_ _ | (with_reducible refine up_set ?_ ?hset _; case hset => first | (simp; done) | (simp; omega) | omega) | with_reducible refine up_trans ?_ (by with_reducible assumption)))⟩
    case round =>
      clear hb
      obtain ⟨k, n, hk1, hkn, hn, rfl, hk7, how, hb⟩ := hrel
      obtain ⟨A, cp, rfl, hcp, hcp'⟩ := OwnR.shape how
      by_cases hlt : n < C
      · have q0 := up_keep hb k0
        have q1 := up_keep hb k1
        have hm1 := mul_bd (a := (k : Int)) (b := fx) (A := 12) (B := 200) (by omega) (by omega) (by omega) (by omega)
        have hm2 := mul_bd (a := (k : Int)) (b := fy) (A := 12) (B := 200) (by omega) (by omega) (by omega) (by omega)
        go_wp2_with (at_builtin; refine wpList_app_two rfl (.tmp 38) (.tmp 65) rfl W.heap.size _ n (weX x fx) (weY y fy) rfl rfl (by simp) (OwnR.up how (by (repeat (first | with_reducible exact Below.refl _ _ | with_reducible assumption | with_reducible refine up_alloc ?_ _ | with_reducible refine up_drew ?_ | with_reducible refine up_drewN ?_ _ | (with_reducible refine up_set ?_ ?hset _; case hset => first | (simp; done) | (simp; omega) | omega) | with_reducible refine up_trans ?_ (by with_reducible assumption))))) (show Below W.heap.size W _ from (by (repeat (first | with_reducible exact Below.refl _ _ | with_reducible assumption | with_reducible refine up_alloc ?_ _ | with_reducible refine up_drew ?_ | with_reducible refine up_drewN ?_ _ | (with_reducible refine up_set ?_ ?hset _; case hset => first | (simp; done) | (simp; omega) | omega) | with_reducible refine up_trans ?_ (by with_reducible assumption))))).size (by omega) (we1 x fx k n (by omega) (by omega)) (we1' y fy k n (by omega) (by omega)) (we2 x fx k n (by omega) (by omega)) (we1' y fy k (n + 1) (by omega) (by omega)) ?_; intro v2 w2 ho2 hb2; replace hb2 := (show Below W.heap.size W _ from (by (repeat (first | with_reducible exact Below.refl _ _ | with_reducible assumption | with_reducible refine up_alloc ?_ _ | with_reducible refine up_drew ?_ | with_reducible refine up_drewN ?_ _ | (with_reducible refine up_set ?_ ?hset _; case hset => first | (simp; done) | (simp; omega) | omega) | with_reducible refine up_trans ?_ (by with_reducible assumption))))).trans hb2)
        go_roundw
        case rel => exact ⟨k + 1, n + 2, by omega, by omega, by omega, by go_num, by omega, ho2, hb2⟩
        case measure => simp [intOf]; omega
      · have hbw := hbW.trans (hb.mono hbW.size)
        have hot := OwnS.take how.ownS (show C ≤ n by omega)
        go_wp2_with (go_at_call 61; refine (chIf_g _ _ _ _ _ hot.spots (by omega)).mono ?_; rintro e wq ⟨rfl, hbq⟩)
        go_ret2
        exact AnsSB.sel ((hot.more hbW.size).up hbq) (up_trans hbw hbq)
set_option maxHeartbeats 4000000 in
theorem fnExactWedgeOf_walk (x y count fx fy : Int) (w : World) :
    Calls Try.prog 7 #[.agg #[.int .i64 x, .int .i64 y], .int .i64 count, .int .i64 fx, .int .i64 fy] w (Ans w (.bool true)) := by
  have hN : sel (weB x y count fx fy) count.toNat ≤ 144 := by
    cases hv : weB x y count fx fy with
    | false => simp [sel]
    | true =>
      simp only [weB, weOk, Bool.and_eq_true] at hv
      obtain ⟨⟨⟨⟨v1, v2⟩, v3⟩, v4⟩, v5⟩ := hv
      have v2' := inB_iff.1 v2
      simp only [sel, if_true]
      omega
  have HS := fun w => sWedge_any x y count fx fy w
  have HI := fun w => iWedge_any x y count fx fy w
  generalize weB x y count fx fy = q at *
  generalize sel q count.toNat = N at *
  generalize weX x fx = U at *
  generalize weY y fy = V at *
  go_enter Try.func7, Try.ntmps7
  go_wp2_with fail
  generalize hW : World.alloc w _ = W at *
  have hbW : Below w.heap.size w W := by subst hW; (repeat (first | with_reducible exact Below.refl _ _ | with_reducible assumption | with_reducible refine up_alloc ?_ _ | with_reducible refine up_drew ?_ | with_reducible refine up_drewN ?_ _ | (with_reducible refine up_set ?_ ?hset _; case hset => first | (simp; done) | (simp; omega) | omega) | with_reducible refine up_trans ?_ (by with_reducible assumption)))
  have k0 : W.cell? ⟨w.heap.size, 0, none⟩ = some (.int .i64 x) := by subst hW; simp [go_sem]
  have k1 : W.cell? ⟨w.heap.size, 1, none⟩ = some (.int .i64 y) := by subst hW; simp [go_sem]
  clear hW
  have hW0 := Below.refl W.heap.size W
  go_wp2_with fail
  refine (toSpot_any _ _ _).mono ?_
  rintro e w1 ⟨rfl, hb0⟩
  have hz0 := hb0.size
  have hW1 := up_trans hW0 hb0
  go_wp2_with fail
  refine (HS _).mono ?_
  rintro e w2 ⟨rS, rfl, h_rS_2, hb1⟩
  have hz1 := hb1.size
  have hW2 := up_trans hW1 hb1
  have k0_1 := up_keep hb0 k0
  have k0_2 := up_keep hb1 k0_1
  have k1_1 := up_keep hb0 k1
  have k1_2 := up_keep hb1 k1_1
  go_wp2_with fail
  refine (toSpot_any _ _ _).mono ?_
  rintro e w3 ⟨rfl, hb2⟩
  have hz2 := hb2.size
  have hW3 := up_trans hW2 hb2
  go_wp2_with fail
  refine (HI _).mono ?_
  rintro e w4 ⟨rI, rfl, h_rI_4, hb3⟩
  have hz3 := hb3.size
  have hW4 := up_trans hW3 hb3
  have h_rS_3 := h_rS_2.up hb2
  have h_rS_4 := h_rS_3.up hb3
  go_wp2_with fail
  refine (eqSpotS_g rI rS _ _ _ _ h_rI_4.spots h_rS_4.spots (by omega)).mono ?_
  rintro e w5 ⟨rfl, hb4⟩
  have hz4 := hb4.size
  have hW5 := up_trans hW4 hb4
  have h_rI_5 := h_rI_4.up hb4
  go_wp2_with fail
  refine (markSpotS_g _ rI _ _ _ 1 _ h_rI_5 (by omega) (by omega) (by omega)).mono ?_
  rintro e w6 ⟨rfl, hg5, h_rI_6⟩
  have hz5 := hg5.size
  have hB5 : Below w3.heap.size w5 w6 := below_old h_rI_5 hg5 (by omega)
  have hW6 := hW5.trans (hB5.mono (by omega))
  go_wp2_with fail
  refine (heldSpotS_g rI _ 1 _ h_rI_6.spots (by omega) (by omega) (by omega)).mono ?_
  rintro e w7 ⟨rfl, hb6⟩
  have hz6 := hb6.size
  have hW7 := up_trans hW6 hb6
  have k0_3 := up_keep hb2 k0_2
  have k0_4 := up_keep hb3 k0_3
  have k0_5 := up_keep hb4 k0_4
  have k0_6 := cell_old k0_3 k0_5 hB5
  have k0_7 := up_keep hb6 k0_6
  have k1_3 := up_keep hb2 k1_2
  have k1_4 := up_keep hb3 k1_3
  have k1_5 := up_keep hb4 k1_4
  have k1_6 := cell_old k1_3 k1_5 hB5
  have k1_7 := up_keep hb6 k1_6
  go_wp2_with fail
  refine (toSpot_any _ _ _).mono ?_
  rintro e w8 ⟨rfl, hb7⟩
  have hz7 := hb7.size
  have hW8 := up_trans hW7 hb7
  go_wp2_with fail
  refine (HI _).mono ?_
  rintro e w9 ⟨rH, rfl, h_rH_9, hb8⟩
  have hz8 := hb8.size
  have hW9 := up_trans hW8 hb8
  have h_rS_5 := h_rS_4.up hb4
  have h_rS_6 := Spots.old h_rS_3.spots h_rS_5.spots hB5
  have h_rS_7 := h_rS_6.up hb6
  have h_rS_8 := h_rS_7.up hb7
  have h_rS_9 := h_rS_8.up hb8
  go_wp2_with fail
  refine (eqSpotS_g rH rS _ _ _ _ h_rH_9.spots h_rS_9 (by omega)).mono ?_
  rintro e w10 ⟨rfl, hb9⟩
  have hz9 := hb9.size
  have hW10 := up_trans hW9 hb9
  have h_rI_7 := h_rI_6.up hb6
  have h_rI_8 := h_rI_7.up hb7
  have h_rI_9 := h_rI_8.up hb8
  have h_rI_10 := h_rI_9.up hb9
  go_wp2_with fail
  refine (heldSpotS_g rI _ 1 _ h_rI_10.spots (by omega) (by omega) (by omega)).mono ?_
  rintro e w11 ⟨rfl, hb10⟩
  have hz10 := hb10.size
  have hW11 := up_trans hW10 hb10
  go_wp2_with fail
  go_ret
  exact Ans.bool rfl (hbW.trans (hW11.mono hbW.size))

theorem fnExactWedgeOf_law : LawWalk Try.prog 7 Try.f7 := by
  intro H enc W base args ds ps hval hA
  rw [Try.params7] at hval hA
  obtain ⟨v0, v1, v2, v3, d0, d1, d2, d3, p0, p1, p2, p3, rfl, h0, h1, h2, h3⟩ := args4 hA
  obtain ⟨x, y, rfl⟩ := open_spot (hval 0 _ v0 rfl rfl) h0
  obtain ⟨a, rfl, _⟩ := open_int Try.underlying3 (hval 1 _ v1 rfl rfl) h1
  obtain ⟨b, rfl, _⟩ := open_int Try.underlying3 (hval 2 _ v2 rfl rfl) h2
  obtain ⟨c, rfl, _⟩ := open_int Try.underlying3 (hval 3 _ v3 rfl rfl) h3
  exact fnExactWedgeOf_walk _ _ _ _ _ _

set_option maxRecDepth 100000 in
theorem fnExactWedgeOf_holds : Rows.FnExactWedgeOfSaid :=
  OpenClaim.holds_of_wide 7 Try.f7 rfl rfl rfl rfl rfl rfl rfl ⟨rfl, rfl, rfl, rfl, rfl⟩ rfl rfl rfl rfl rfl (by kernel_rfl) Try.func7 (by kernel_rfl)
    (of_decide_eq_true (by kernel_rfl)) (by unfold Func.isWrapper; first | (rw [if_pos (by decide +kernel)]; kernel_rfl) | (rw [if_neg (by decide +kernel)]; exact ⟨rfl, rfl⟩))
    (fun os started H enc _ => lifted_of (C := Try.checked) (s := Rows.fnExactWedgeOfSpec) (tb := 4) (by kernel_rfl) (by kernel_rfl) (by kernel_rfl) (by kernel_rfl) Try.func7 rfl Try.underlying4 rfl
      (fun H ds h => by
        have h2 : ds.length = 4 := by rw [Try.params7] at h; exact h
        match ds, h2 with
        | [_, _, _, _], _ => rfl)
      fnExactWedgeOf_law os started H enc
      (ChangeSpec.witness6 (enc := enc) (C := Try.checked) false ⟨#[], #[.agg #[.int .i64 0, .int .i64 0], .int .i64 0, .int .i64 0, .int .i64 0], []⟩ 8 (by kernel_rfl) (by kernel_rfl) (by kernel_rfl) (by kernel_rfl)))

#print axioms fnExactWedgeOf_holds
end Go.Proofs.Ythpflpjhohmboaa
