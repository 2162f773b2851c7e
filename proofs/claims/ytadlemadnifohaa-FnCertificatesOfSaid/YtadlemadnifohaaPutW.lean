/-
  l1Put walked.
-/
import Derived.Test.YtadlemadnifohaaPut
namespace Go.Proofs.Ytadlemadnifohaa
open Go.RowKit Go.ChangeShapes Go.WideShapes Go.Sort

set_option maxRecDepth 100000 in
set_option maxHeartbeats 2000000 in
theorem l1Put_g (v : Value) (m : Nat) (A : Nat → Int) (x : Int) (w : World) (h : Ints w v m A) (hm : m ≤ 1000) (hi : IncN m A) :
    Calls Try.prog 57 #[v, .int .i64 x] w (AnsPut w m A x) := by
  have HI := Lib.hid hi
  have HV := Lib.hid h
  obtain ⟨Ad, c, rfl, hmc, hrow⟩ := h
  have HRow := Lib.hid hrow
  clear hi hrow
  go_enter Try.func57, Try.ntmps57
  go_wp2_with fail
  go_loop [5] (fun i => ∃ k : Nat, k ≤ m ∧ i = .int .i64 k ∧ ∀ j, j < k → A j < x) (fun i => m - (intOf i).toNat)
  case atStart => exact ⟨0, by omega, rfl, fun j hj => by omega⟩
  case round =>
    obtain ⟨k, hk, rfl, hx⟩ := hrel
    have HK := Lib.hid hx
    clear hx
    have HPre := Lib.hid (show ∀ W, Below w.heap.size w W → Ints W (.slice Ad k c) k (putN A k x) from fun W hW => ⟨_, _, rfl, by omega, fun hk0 => by
      obtain ⟨b, o, e, hr⟩ := HRow.out (by omega)
      exact ⟨b, o, e, fun i hi => by rw [up_keep hW (hr i (by omega))]; simp [putN, hi]⟩⟩)
    by_cases hlt : k < m
    · obtain ⟨b, o, rfl, hr⟩ := HRow.out (by omega)
      have c0 := hr k hlt
      have HSuf := Lib.hid (show ∀ W, Below w.heap.size w W → Ints W (.slice (some ⟨b, o + k, none⟩) (m - k) (c - k)) (m - k) (fun j => putN A k x (k + 1 + j)) from fun W hW => ⟨_, _, rfl, by omega, fun _ => ⟨b, o + k, rfl, fun i hi => by
        have := up_keep hW (hr (k + i) (by omega))
        rw [show o + k + i = o + (k + i) by omega, this]
        simp only [putN, if_neg (show ¬ k + 1 + i < k by omega), if_neg (show ¬ k + 1 + i = k by omega), show k + 1 + i - 1 = k + i by omega]⟩⟩)
      clear hr
      have j1 : (k : Int) < (m : Int) := by omega
      by_cases hlx : A k < x
      · have hdec : decide (A k < x) = true := decide_eq_true hlx
        have HL := Lib.hid hlx
        clear hlx
        go_wp2_with fail
        go_round
        case rel => exact ⟨k + 1, by omega, by go_num, fun j hj => by
          by_cases e : j = k
          · rw [e]; exact HL.out
          · exact HK.out j (by omega)⟩
        case measure => simp [intOf]; omega
      · have hdec : decide (A k < x) = false := decide_eq_false hlx
        by_cases he : A k = x
        · have hde : (A k == x) = true := by simpa using he
          have HE := Lib.hid he
          clear hlx he
          go_wp2_with fail
          go_ret
          exact ⟨_, m, A, rfl, HV.out, Below.refl _ _, by omega, HI.out, fun y => ⟨fun hh => .inr hh, fun hh => hh.elim (fun e => ⟨k, hlt, by rw [e]; exact HE.out⟩) id⟩⟩
        · have hde : (A k == x) = false := by simpa using he
          have HG := Lib.hid (show k < m → x < A k from fun _ => by omega)
          clear hlx he
          have HPk := Lib.hid (show putN A k x k = x by simp [putN])
          go_wp2_with (first | (at_builtin; refine wpList_copy_ints rfl (.tmp 34) (.tmp 37) rfl w.heap.size _ _ k (putN A k x) rfl rfl (OwnN.empty (Nat.le_refl _) _) (HPre.out _ (by (repeat (first | with_reducible exact Below.refl _ _ | with_reducible assumption | with_reducible refine up_alloc ?_ _ | with_reducible refine up_drew ?_ | with_reducible refine up_drewN ?_ _ | (with_reducible refine up_set ?_ ?hset _; case hset => first | (simp; done) | (simp; omega) | omega) | with_reducible refine up_trans ?_ (by with_reducible assumption))))) (by simp) (by omega) ?_; intro v2 w2 ho2 hb2; replace hb2 := (show Below w.heap.size w _ from (by (repeat (first | with_reducible exact Below.refl _ _ | with_reducible assumption | with_reducible refine up_alloc ?_ _ | with_reducible refine up_drew ?_ | with_reducible refine up_drewN ?_ _ | (with_reducible refine up_set ?_ ?hset _; case hset => first | (simp; done) | (simp; omega) | omega) | with_reducible refine up_trans ?_ (by with_reducible assumption))))).trans hb2) | (at_builtin; refine wpList_app_int2 rfl (.tmp 39) (.tmp 41) rfl w.heap.size _ k (putN A k x) rfl rfl HPk.out (by simp [go_sem]) (OwnN.up ho2 (by (repeat (first | with_reducible exact Below.refl _ _ | with_reducible assumption | with_reducible refine up_alloc ?_ _ | with_reducible refine up_drew ?_ | with_reducible refine up_drewN ?_ _ | (with_reducible refine up_set ?_ ?hset _; case hset => first | (simp; done) | (simp; omega) | omega) | with_reducible refine up_trans ?_ (by with_reducible assumption))))) (show Below w.heap.size w _ from (by (repeat (first | with_reducible exact Below.refl _ _ | with_reducible assumption | with_reducible refine up_alloc ?_ _ | with_reducible refine up_drew ?_ | with_reducible refine up_drewN ?_ _ | (with_reducible refine up_set ?_ ?hset _; case hset => first | (simp; done) | (simp; omega) | omega) | with_reducible refine up_trans ?_ (by with_reducible assumption))))).size (by omega) ?_; intro v3 w3 ho3 hb3 _ _; replace hb3 := (show Below w.heap.size w _ from (by (repeat (first | with_reducible exact Below.refl _ _ | with_reducible assumption | with_reducible refine up_alloc ?_ _ | with_reducible refine up_drew ?_ | with_reducible refine up_drewN ?_ _ | (with_reducible refine up_set ?_ ?hset _; case hset => first | (simp; done) | (simp; omega) | omega) | with_reducible refine up_trans ?_ (by with_reducible assumption))))).trans hb3) | (at_builtin; refine wpList_add_ints rfl (.tmp 43) (.tmp 46) rfl w.heap.size _ _ (k + 1) (m - k) (putN A k x) rfl rfl (OwnN.up ho3 (by (repeat (first | with_reducible exact Below.refl _ _ | with_reducible assumption | with_reducible refine up_alloc ?_ _ | with_reducible refine up_drew ?_ | with_reducible refine up_drewN ?_ _ | (with_reducible refine up_set ?_ ?hset _; case hset => first | (simp; done) | (simp; omega) | omega) | with_reducible refine up_trans ?_ (by with_reducible assumption))))) (HSuf.out _ (by (repeat (first | with_reducible exact Below.refl _ _ | with_reducible assumption | with_reducible refine up_alloc ?_ _ | with_reducible refine up_drew ?_ | with_reducible refine up_drewN ?_ _ | (with_reducible refine up_set ?_ ?hset _; case hset => first | (simp; done) | (simp; omega) | omega) | with_reducible refine up_trans ?_ (by with_reducible assumption))))) (show Below w.heap.size w _ from (by (repeat (first | with_reducible exact Below.refl _ _ | with_reducible assumption | with_reducible refine up_alloc ?_ _ | with_reducible refine up_drew ?_ | with_reducible refine up_drewN ?_ _ | (with_reducible refine up_set ?_ ?hset _; case hset => first | (simp; done) | (simp; omega) | omega) | with_reducible refine up_trans ?_ (by with_reducible assumption))))).size (by omega) (by omega) ?_; intro v4 w4 ho4 hb4; replace hb4 := (show Below w.heap.size w _ from (by (repeat (first | with_reducible exact Below.refl _ _ | with_reducible assumption | with_reducible refine up_alloc ?_ _ | with_reducible refine up_drew ?_ | with_reducible refine up_drewN ?_ _ | (with_reducible refine up_set ?_ ?hset _; case hset => first | (simp; done) | (simp; omega) | omega) | with_reducible refine up_trans ?_ (by with_reducible assumption))))).trans hb4))
          go_ret
          rw [show k + 1 + (m - k) = m + 1 by omega] at ho4
          exact ⟨_, _, _, rfl, ho4.ownI.ints, hb4, Nat.le_refl _, putN_inc HI.out HK.out hk HG.out, putN_has hk⟩
    · have e : k = m := by omega
      have j1 : ¬ (k : Int) < (m : Int) := by omega
      have HG := Lib.hid (show k < m → x < A k from fun hh => absurd hh hlt)
      have HSuf := Lib.hid (show ∀ W, Below w.heap.size w W → ∀ A' c', Ints W (.slice A' 0 c') 0 (fun j => putN A k x (k + 1 + j)) from fun W hW A' c' => ⟨_, _, rfl, Nat.zero_le _, fun hh => absurd hh (by omega)⟩)
      subst e
      clear hlt
      cases Ad with
      | none =>
        have HPk := Lib.hid (show putN A k x k = x by simp [putN])
        go_wp2_with (first | (at_builtin; refine wpList_copy_ints rfl (.tmp 34) (.tmp 37) rfl w.heap.size _ _ k (putN A k x) rfl rfl (OwnN.empty (Nat.le_refl _) _) (HPre.out _ (by (repeat (first | with_reducible exact Below.refl _ _ | with_reducible assumption | with_reducible refine up_alloc ?_ _ | with_reducible refine up_drew ?_ | with_reducible refine up_drewN ?_ _ | (with_reducible refine up_set ?_ ?hset _; case hset => first | (simp; done) | (simp; omega) | omega) | with_reducible refine up_trans ?_ (by with_reducible assumption))))) (by simp) (by omega) ?_; intro v2 w2 ho2 hb2; replace hb2 := (show Below w.heap.size w _ from (by (repeat (first | with_reducible exact Below.refl _ _ | with_reducible assumption | with_reducible refine up_alloc ?_ _ | with_reducible refine up_drew ?_ | with_reducible refine up_drewN ?_ _ | (with_reducible refine up_set ?_ ?hset _; case hset => first | (simp; done) | (simp; omega) | omega) | with_reducible refine up_trans ?_ (by with_reducible assumption))))).trans hb2) | (at_builtin; refine wpList_app_int2 rfl (.tmp 39) (.tmp 41) rfl w.heap.size _ k (putN A k x) rfl rfl HPk.out (by simp [go_sem]) (OwnN.up ho2 (by (repeat (first | with_reducible exact Below.refl _ _ | with_reducible assumption | with_reducible refine up_alloc ?_ _ | with_reducible refine up_drew ?_ | with_reducible refine up_drewN ?_ _ | (with_reducible refine up_set ?_ ?hset _; case hset => first | (simp; done) | (simp; omega) | omega) | with_reducible refine up_trans ?_ (by with_reducible assumption))))) (show Below w.heap.size w _ from (by (repeat (first | with_reducible exact Below.refl _ _ | with_reducible assumption | with_reducible refine up_alloc ?_ _ | with_reducible refine up_drew ?_ | with_reducible refine up_drewN ?_ _ | (with_reducible refine up_set ?_ ?hset _; case hset => first | (simp; done) | (simp; omega) | omega) | with_reducible refine up_trans ?_ (by with_reducible assumption))))).size (by omega) ?_; intro v3 w3 ho3 hb3 _ _; replace hb3 := (show Below w.heap.size w _ from (by (repeat (first | with_reducible exact Below.refl _ _ | with_reducible assumption | with_reducible refine up_alloc ?_ _ | with_reducible refine up_drew ?_ | with_reducible refine up_drewN ?_ _ | (with_reducible refine up_set ?_ ?hset _; case hset => first | (simp; done) | (simp; omega) | omega) | with_reducible refine up_trans ?_ (by with_reducible assumption))))).trans hb3) | (at_builtin; refine wpList_add_ints rfl (.tmp 43) (.tmp 46) rfl w.heap.size _ _ (k + 1) 0 (putN A k x) rfl rfl (OwnN.up ho3 (by (repeat (first | with_reducible exact Below.refl _ _ | with_reducible assumption | with_reducible refine up_alloc ?_ _ | with_reducible refine up_drew ?_ | with_reducible refine up_drewN ?_ _ | (with_reducible refine up_set ?_ ?hset _; case hset => first | (simp; done) | (simp; omega) | omega) | with_reducible refine up_trans ?_ (by with_reducible assumption))))) (HSuf.out _ (by (repeat (first | with_reducible exact Below.refl _ _ | with_reducible assumption | with_reducible refine up_alloc ?_ _ | with_reducible refine up_drew ?_ | with_reducible refine up_drewN ?_ _ | (with_reducible refine up_set ?_ ?hset _; case hset => first | (simp; done) | (simp; omega) | omega) | with_reducible refine up_trans ?_ (by with_reducible assumption)))) _ _) (show Below w.heap.size w _ from (by (repeat (first | with_reducible exact Below.refl _ _ | with_reducible assumption | with_reducible refine up_alloc ?_ _ | with_reducible refine up_drew ?_ | with_reducible refine up_drewN ?_ _ | (with_reducible refine up_set ?_ ?hset _; case hset => first | (simp; done) | (simp; omega) | omega) | with_reducible refine up_trans ?_ (by with_reducible assumption))))).size (by omega) (by omega) ?_; intro v4 w4 ho4 hb4; replace hb4 := (show Below w.heap.size w _ from (by (repeat (first | with_reducible exact Below.refl _ _ | with_reducible assumption | with_reducible refine up_alloc ?_ _ | with_reducible refine up_drew ?_ | with_reducible refine up_drewN ?_ _ | (with_reducible refine up_set ?_ ?hset _; case hset => first | (simp; done) | (simp; omega) | omega) | with_reducible refine up_trans ?_ (by with_reducible assumption))))).trans hb4))
        all_goals (
          go_ret
          rw [show k + 1 + 0 = k + 1 by omega] at ho4
          exact ⟨_, _, _, rfl, ho4.ownI.ints, hb4, Nat.le_refl _, putN_inc HI.out HK.out hk HG.out, putN_has hk⟩)
      | some ad =>
        have HPk := Lib.hid (show putN A k x k = x by simp [putN])
        go_wp2_with (first | (at_builtin; refine wpList_copy_ints rfl (.tmp 34) (.tmp 37) rfl w.heap.size _ _ k (putN A k x) rfl rfl (OwnN.empty (Nat.le_refl _) _) (HPre.out _ (by (repeat (first | with_reducible exact Below.refl _ _ | with_reducible assumption | with_reducible refine up_alloc ?_ _ | with_reducible refine up_drew ?_ | with_reducible refine up_drewN ?_ _ | (with_reducible refine up_set ?_ ?hset _; case hset => first | (simp; done) | (simp; omega) | omega) | with_reducible refine up_trans ?_ (by with_reducible assumption))))) (by simp) (by omega) ?_; intro v2 w2 ho2 hb2; replace hb2 := (show Below w.heap.size w _ from (by (repeat (first | with_reducible exact Below.refl _ _ | with_reducible assumption | with_reducible refine up_alloc ?_ _ | with_reducible refine up_drew ?_ | with_reducible refine up_drewN ?_ _ | (with_reducible refine up_set ?_ ?hset _; case hset => first | (simp; done) | (simp; omega) | omega) | with_reducible refine up_trans ?_ (by with_reducible assumption))))).trans hb2) | (at_builtin; refine wpList_app_int2 rfl (.tmp 39) (.tmp 41) rfl w.heap.size _ k (putN A k x) rfl rfl HPk.out (by simp [go_sem]) (OwnN.up ho2 (by (repeat (first | with_reducible exact Below.refl _ _ | with_reducible assumption | with_reducible refine up_alloc ?_ _ | with_reducible refine up_drew ?_ | with_reducible refine up_drewN ?_ _ | (with_reducible refine up_set ?_ ?hset _; case hset => first | (simp; done) | (simp; omega) | omega) | with_reducible refine up_trans ?_ (by with_reducible assumption))))) (show Below w.heap.size w _ from (by (repeat (first | with_reducible exact Below.refl _ _ | with_reducible assumption | with_reducible refine up_alloc ?_ _ | with_reducible refine up_drew ?_ | with_reducible refine up_drewN ?_ _ | (with_reducible refine up_set ?_ ?hset _; case hset => first | (simp; done) | (simp; omega) | omega) | with_reducible refine up_trans ?_ (by with_reducible assumption))))).size (by omega) ?_; intro v3 w3 ho3 hb3 _ _; replace hb3 := (show Below w.heap.size w _ from (by (repeat (first | with_reducible exact Below.refl _ _ | with_reducible assumption | with_reducible refine up_alloc ?_ _ | with_reducible refine up_drew ?_ | with_reducible refine up_drewN ?_ _ | (with_reducible refine up_set ?_ ?hset _; case hset => first | (simp; done) | (simp; omega) | omega) | with_reducible refine up_trans ?_ (by with_reducible assumption))))).trans hb3) | (at_builtin; refine wpList_add_ints rfl (.tmp 43) (.tmp 46) rfl w.heap.size _ _ (k + 1) 0 (putN A k x) rfl rfl (OwnN.up ho3 (by (repeat (first | with_reducible exact Below.refl _ _ | with_reducible assumption | with_reducible refine up_alloc ?_ _ | with_reducible refine up_drew ?_ | with_reducible refine up_drewN ?_ _ | (with_reducible refine up_set ?_ ?hset _; case hset => first | (simp; done) | (simp; omega) | omega) | with_reducible refine up_trans ?_ (by with_reducible assumption))))) (HSuf.out _ (by (repeat (first | with_reducible exact Below.refl _ _ | with_reducible assumption | with_reducible refine up_alloc ?_ _ | with_reducible refine up_drew ?_ | with_reducible refine up_drewN ?_ _ | (with_reducible refine up_set ?_ ?hset _; case hset => first | (simp; done) | (simp; omega) | omega) | with_reducible refine up_trans ?_ (by with_reducible assumption)))) _ _) (show Below w.heap.size w _ from (by (repeat (first | with_reducible exact Below.refl _ _ | with_reducible assumption | with_reducible refine up_alloc ?_ _ | with_reducible refine up_drew ?_ | with_reducible refine up_drewN ?_ _ | (with_reducible refine up_set ?_ ?hset _; case hset => first | (simp; done) | (simp; omega) | omega) | with_reducible refine up_trans ?_ (by with_reducible assumption))))).size (by omega) (by omega) ?_; intro v4 w4 ho4 hb4; replace hb4 := (show Below w.heap.size w _ from (by (repeat (first | with_reducible exact Below.refl _ _ | with_reducible assumption | with_reducible refine up_alloc ?_ _ | with_reducible refine up_drew ?_ | with_reducible refine up_drewN ?_ _ | (with_reducible refine up_set ?_ ?hset _; case hset => first | (simp; done) | (simp; omega) | omega) | with_reducible refine up_trans ?_ (by with_reducible assumption))))).trans hb4))
        all_goals (
          go_ret
          rw [show k + 1 + 0 = k + 1 by omega] at ho4
          exact ⟨_, _, _, rfl, ho4.ownI.ints, hb4, Nat.le_refl _, putN_inc HI.out HK.out hk HG.out, putN_has hk⟩)
end Go.Proofs.Ytadlemadnifohaa
