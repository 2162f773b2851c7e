/-
  The reference's draws of matchings: numbers in new memory.
-/
import Derived.Test.YtadlemadnifohaaRows
import Derived.Test.YtadlemadnifohaaBase
import Derived.Test.YtadlemadnifohaaSpot
import Derived.Test.YtadlemadnifohaaSlice
import Derived.Test.YtadlemadnifohaaLawS
import Derived.Test.YtadlemadnifohaaMark
import Derived.Test.YtadlemadnifohaaInts
import Derived.Test.YtadlemadnifohaaIntsL
import Derived.Test.YtadlemadnifohaaTurned
import Derived.Test.YtadlemadnifohaaTrans
import Derived.BigQuiet
import Derived.Test.YtadlemadnifohaaCur
import Derived.Test.YtadlemadnifohaaDrawP
import Derived.Test.YtadlemadnifohaaCopyI
import Derived.Test.YtadlemadnifohaaRowsI
import Derived.Test.YtadlemadnifohaaCosts
import Derived.Test.YtadlemadnifohaaRowB
import Derived.Test.YtadlemadnifohaaDrawN
import Derived.Deep.CutRange
import Derived.Deep.DeepCutAuto
import Derived.Test.YtadlemadnifohaaDrawC
import Derived.Test.YtadlemadnifohaaDrawM
import Derived.Test.YtadlemadnifohaaPut
import Derived.Deep.RegionHeld3
namespace Go.Proofs.Ytadlemadnifohaa
open Go.RowKit Go.ChangeShapes Go.WideShapes Go.Sort

theorem step_add_ints {ops : Array Oper} {o : Oper} {a : Act} {w : World} {K : Act → World → Prop} {Q : Exit → Act → World → Prop} {E : Prop} (hgd : o.guard = none) (s x : Operand)
    (ho : o.op = .call { callee := .builtin .append, args := #[s, x], argTypes := #[25, 25] })
    (base : Nat) (v u : Value) (k m : Nat) (X : Nat → Int) (hs : a.eval s = v) (hx : a.eval x = u) (hown : OwnN base w v k X) (hsp : Ints w u m (fun j => X (k + j))) (hbase : base ≤ w.heap.size) (hk : k ≤ 1048576) (hn : m ≤ 1048576)
    (h : ∀ v' w', OwnN base w' v' (k + m) X → Below base w w' → K (a.put o.dst v') w') :
    if Region.wanted o (yielded ops a.tmps) = true then Oper.wp Try.prog o a w K Q else E := by
  have hw : Region.wanted o (yielded ops a.tmps) = true := by unfold Region.wanted; rw [hgd]
  rw [if_pos hw]
  obtain ⟨v', w', hr, h1, h2⟩ := run_add_ints (w := w) o.type base v u k m X hown hsp hbase hk hn
  unfold Oper.wp execOp
  simp only [ho, resolve, invoke, builtin, Sem.run_bind, Sem.run_pure, Result.andThen_ok, List.map_toArray, List.map_cons, List.map_nil, hs, hx, hr]
  exact h _ _ h1 h2
set_option maxRecDepth 100000 in
theorem l1OwnN_g (v : Value) (n : Nat) (X : Nat → Int) (w : World) (h : Ints w v n X) (hn : n ≤ 1048576) :
    Calls Try.prog 65 #[v] w (fun e w' => ∃ u, e = .returned u ∧ OwnN w.heap.size w' u n X ∧ Below w.heap.size w w') := by
  go_enter Try.func65, Try.ntmps65
  go_wp2_with (at_builtin; refine wpList_copy_ints rfl (.tmp 3) (.tmp 4) rfl w.heap.size _ v n X rfl rfl (OwnN.empty (Nat.le_refl _) _) (h.up (by (repeat (first | with_reducible exact Below.refl _ _ | with_reducible assumption | with_reducible refine up_alloc ?_ _ | with_reducible refine up_drew ?_ | with_reducible refine up_drewN ?_ _ | (with_reducible refine up_set ?_ ?hset _; case hset => first | (simp; done) | (simp; omega) | omega) | with_reducible refine up_trans ?_ (by with_reducible assumption))))) (by simp) hn ?_; intro v2 w2 ho2 hb2)
  go_ret
  exact ⟨_, rfl, ho2, (below_alloc _ _).trans hb2⟩
/-- Returned: n numbers in new memory; beside it only the cursor has turned. -/
def AnsMat (w : World) (p K n : Nat) (e : Ending) (w' : World) : Prop := ∃ v X, e = .returned v ∧ OwnN w.heap.size w' v n X ∧ CurAt w' p K ∧ Turned p (p + 1) w w'
set_option maxRecDepth 100000 in
set_option maxHeartbeats 8000000 in
theorem cur_matching (p K n : Nat) (w : World) (h : CurAt w p K) (hK : K ≤ 1000000) (hn : n ≤ 13) :
    Calls Try.prog 49 #[.pointer (some ⟨p, 0, none⟩), .int .i64 n] w (AnsMat w p (K + 100) n) := by
  have hpw := h.lt
  go_enter Try.func49, Try.ntmps49
  go_wp2_with fail
  go_loopw [5, 6] (fun q i wr => ∃ k X, k ≤ n ∧ i = .int .i64 k ∧ OwnN w.heap.size wr q k X ∧ CurAt wr p (K + 2 * k) ∧ Turned p (p + 1) w wr) (fun _ i _ => n - (intOf i).toNat)
  case atStart => exact ⟨0, fun _ => 0, by omega, rfl, OwnN.nil _ _ _, h.more (by omega), Turned.refl _ _ _⟩
  case round =>
    clear h
    obtain ⟨k, X, hk, rfl, how, hc, ht⟩ := hrel
    obtain ⟨Ad, c, e1, hkc, _⟩ := how.shape
    subst e1
    have HO := Lib.hid how
    clear how
    by_cases hlt : k < n
    · have j1 : (k : Int) < (n : Int) := by omega
      go_wp2_with fail
      rw [show ((k : Int) + 1) = ((k + 1 : Nat) : Int) by omega]
      refine (cur_pick p _ (k + 1) _ hc (by omega) (by omega)).mono ?_
      rintro e w5 ⟨t, rfl, ht1, hc5, ht5⟩
      have htk : t ≤ k := by omega
      have jt : (t : Int) ≤ (k : Int) := by omega
      have jt0 : (0 : Int) ≤ (t : Int) := by omega
      have jtc : (t : Int) ≤ (c : Int) := by omega
      have jkc : (k : Int) ≤ (c : Int) := by omega
      have jk0 : (0 : Int) ≤ (k : Int) := by omega
      have hI := (HO.out.turn ht5 hpw).ownI.ints
      obtain ⟨A', c', e1, _, hrow⟩ := hI
      injection e1 with e1 _ e2
      subst e1
      subst e2
      have HRow := Lib.hid hrow
      clear hrow
      have hs5 := ht5.size
      have hsw := ht.size
      have HPk := Lib.hid (show putN X t (k : Int) t = (k : Int) by simp [putN])
      have HPre := Lib.hid (show ∀ W, Below w5.heap.size w5 W → Ints W (.slice Ad t c) t (putN X t (k : Int)) from fun W hW => ⟨_, _, rfl, by omega, fun hk0 => by
        obtain ⟨b, o, e, hr⟩ := HRow.out (by omega)
        exact ⟨b, o, e, fun i hi => by rw [up_keep hW (hr i (by omega))]; simp [putN, hi]⟩⟩)
      by_cases htl : t < k
      · obtain ⟨b, o, rfl, hr⟩ := HRow.out (by omega)
        have HSuf := Lib.hid (show ∀ W, Below w5.heap.size w5 W → Ints W (.slice (some ⟨b, o + t, none⟩) (k - t) (c - t)) (k - t) (fun j => putN X t (k : Int) (t + 1 + j)) from fun W hW => ⟨_, _, rfl, by omega, fun _ => ⟨b, o + t, rfl, fun i hi => by
          have := up_keep hW (hr (t + i) (by omega))
          rw [show o + t + i = o + (t + i) by omega, this]
          simp only [putN, if_neg (show ¬ t + 1 + i < t by omega), if_neg (show ¬ t + 1 + i = t by omega), show t + 1 + i - 1 = t + i by omega]⟩⟩)
        have jn1 : ¬ c = t := by omega
        have jn2 : ¬ k = t := by omega
        clear hr
        go_wp2_with fail
        go_region_held3 (fun _ => True) (trivial) (first
            | (go_at_call 65; (refine (l1OwnN_g _ t (putN X t (k : Int)) _ (HPre.out _ (by (repeat (first | with_reducible exact Below.refl _ _ | with_reducible assumption | with_reducible refine up_alloc ?_ _ | with_reducible refine up_drew ?_ | with_reducible refine up_drewN ?_ _ | (with_reducible refine up_set ?_ ?hset _; case hset => first | (simp; done) | (simp; omega) | omega) | with_reducible refine up_trans ?_ (by with_reducible assumption))))) (by omega)).mono ?_); rintro e w6 ⟨u, rfl, ho6, hb6⟩; have y0 : w6.cell? ⟨w5.heap.size, 0, none⟩ = some (.int .i64 (k : Int)) := up_keep hb6 (cell_one_new w5 (.int .i64 (k : Int)) _ 0 _ rfl); replace ho6 := ho6.more (show Below w5.heap.size w5 _ from (by (repeat (first | with_reducible exact Below.refl _ _ | with_reducible assumption | with_reducible refine up_alloc ?_ _ | with_reducible refine up_drew ?_ | with_reducible refine up_drewN ?_ _ | (with_reducible refine up_set ?_ ?hset _; case hset => first | (simp; done) | (simp; omega) | omega) | with_reducible refine up_trans ?_ (by with_reducible assumption))))).size)
            | (go_at_call 65; (refine (l1OwnN_g _ t (putN X t (k : Int)) _ (HPre.out _ (by (repeat (first | with_reducible exact Below.refl _ _ | with_reducible assumption | with_reducible refine up_alloc ?_ _ | with_reducible refine up_drew ?_ | with_reducible refine up_drewN ?_ _ | (with_reducible refine up_set ?_ ?hset _; case hset => first | (simp; done) | (simp; omega) | omega) | with_reducible refine up_trans ?_ (by with_reducible assumption))))) (by omega)).mono ?_); rintro e w6 ⟨u, rfl, ho6, hb6⟩; replace ho6 := ho6.more (show Below w5.heap.size w5 _ from (by (repeat (first | with_reducible exact Below.refl _ _ | with_reducible assumption | with_reducible refine up_alloc ?_ _ | with_reducible refine up_drew ?_ | with_reducible refine up_drewN ?_ _ | (with_reducible refine up_set ?_ ?hset _; case hset => first | (simp; done) | (simp; omega) | omega) | with_reducible refine up_trans ?_ (by with_reducible assumption))))).size)
            | (refine step_app_int rfl (.tmp 21) (.tmp 23) rfl w5.heap.size _ t (putN X t (k : Int)) rfl rfl HPk.out y0 (OwnN.up ho6 (by (repeat (first | with_reducible exact Below.refl _ _ | with_reducible assumption | with_reducible refine up_alloc ?_ _ | with_reducible refine up_drew ?_ | with_reducible refine up_drewN ?_ _ | (with_reducible refine up_set ?_ ?hset _; case hset => first | (simp; done) | (simp; omega) | omega) | with_reducible refine up_trans ?_ (by with_reducible assumption))))) (show Below w5.heap.size w5 _ from (by (repeat (first | with_reducible exact Below.refl _ _ | with_reducible assumption | with_reducible refine up_alloc ?_ _ | with_reducible refine up_drew ?_ | with_reducible refine up_drewN ?_ _ | (with_reducible refine up_set ?_ ?hset _; case hset => first | (simp; done) | (simp; omega) | omega) | with_reducible refine up_trans ?_ (by with_reducible assumption))))).size (by omega) ?_; intro v7 w7 ho7 hb7 _ _; replace hb7 := (show Below w5.heap.size w5 _ from (by (repeat (first | with_reducible exact Below.refl _ _ | with_reducible assumption | with_reducible refine up_alloc ?_ _ | with_reducible refine up_drew ?_ | with_reducible refine up_drewN ?_ _ | (with_reducible refine up_set ?_ ?hset _; case hset => first | (simp; done) | (simp; omega) | omega) | with_reducible refine up_trans ?_ (by with_reducible assumption))))).trans hb7)
            | (refine step_app_int rfl (.tmp 21) (.tmp 23) rfl w5.heap.size _ t (putN X t (k : Int)) rfl rfl HPk.out (cell_one_new _ _ _ 0 _ rfl) (OwnN.up ho6 (by (repeat (first | with_reducible exact Below.refl _ _ | with_reducible assumption | with_reducible refine up_alloc ?_ _ | with_reducible refine up_drew ?_ | with_reducible refine up_drewN ?_ _ | (with_reducible refine up_set ?_ ?hset _; case hset => first | (simp; done) | (simp; omega) | omega) | with_reducible refine up_trans ?_ (by with_reducible assumption))))) (show Below w5.heap.size w5 _ from (by (repeat (first | with_reducible exact Below.refl _ _ | with_reducible assumption | with_reducible refine up_alloc ?_ _ | with_reducible refine up_drew ?_ | with_reducible refine up_drewN ?_ _ | (with_reducible refine up_set ?_ ?hset _; case hset => first | (simp; done) | (simp; omega) | omega) | with_reducible refine up_trans ?_ (by with_reducible assumption))))).size (by omega) ?_; intro v7 w7 ho7 hb7 _ _; replace hb7 := (show Below w5.heap.size w5 _ from (by (repeat (first | with_reducible exact Below.refl _ _ | with_reducible assumption | with_reducible refine up_alloc ?_ _ | with_reducible refine up_drew ?_ | with_reducible refine up_drewN ?_ _ | (with_reducible refine up_set ?_ ?hset _; case hset => first | (simp; done) | (simp; omega) | omega) | with_reducible refine up_trans ?_ (by with_reducible assumption))))).trans hb7)
            | (refine step_add_ints rfl (.tmp 24) (.tmp 27) rfl w5.heap.size _ _ (t + 1) (k - t) (putN X t (k : Int)) rfl rfl (OwnN.up ho7 (by (repeat (first | with_reducible exact Below.refl _ _ | with_reducible assumption | with_reducible refine up_alloc ?_ _ | with_reducible refine up_drew ?_ | with_reducible refine up_drewN ?_ _ | (with_reducible refine up_set ?_ ?hset _; case hset => first | (simp; done) | (simp; omega) | omega) | with_reducible refine up_trans ?_ (by with_reducible assumption))))) (HSuf.out _ (by (repeat (first | with_reducible exact Below.refl _ _ | with_reducible assumption | with_reducible refine up_alloc ?_ _ | with_reducible refine up_drew ?_ | with_reducible refine up_drewN ?_ _ | (with_reducible refine up_set ?_ ?hset _; case hset => first | (simp; done) | (simp; omega) | omega) | with_reducible refine up_trans ?_ (by with_reducible assumption))))) (show Below w5.heap.size w5 _ from (by (repeat (first | with_reducible exact Below.refl _ _ | with_reducible assumption | with_reducible refine up_alloc ?_ _ | with_reducible refine up_drew ?_ | with_reducible refine up_drewN ?_ _ | (with_reducible refine up_set ?_ ?hset _; case hset => first | (simp; done) | (simp; omega) | omega) | with_reducible refine up_trans ?_ (by with_reducible assumption))))).size (by omega) (by omega) ?_; intro v8 w8 ho8 hb8; replace hb8 := (show Below w5.heap.size w5 _ from (by (repeat (first | with_reducible exact Below.refl _ _ | with_reducible assumption | with_reducible refine up_alloc ?_ _ | with_reducible refine up_drew ?_ | with_reducible refine up_drewN ?_ _ | (with_reducible refine up_set ?_ ?hset _; case hset => first | (simp; done) | (simp; omega) | omega) | with_reducible refine up_trans ?_ (by with_reducible assumption))))).trans hb8)
            | fail)
        all_goals
          go_wp2_with fail
          obtain ⟨A8, c8, e8, _, _⟩ := ho8.shape
          subst e8
          go_roundw
          case rel =>
            have hbx : Below w.heap.size w5 w8 := hb8.mono (by omega)
            exact ⟨k + 1, putN X t (k : Int), by omega, by go_num, by have := ho8.more (show w.heap.size ≤ w5.heap.size by omega); rw [show t + 1 + (k - t) = k + 1 by omega] at this ⊢; exact this, (hc5.below hbx hpw).more (by omega), (ht.trans ht5).far hbx⟩
          case measure => simp [intOf]; omega
      · have e : k = t := by omega
        have HSuf := Lib.hid (show ∀ W, Below w5.heap.size w5 W → ∀ A' c', Ints W (.slice A' 0 c') 0 (fun j => putN X t (k : Int) (t + 1 + j)) from fun W hW A' c' => ⟨_, _, rfl, Nat.zero_le _, fun hh => absurd hh (by omega)⟩)
        subst e
        clear htl
        cases Ad with
        | none =>
          go_wp2_with fail
          go_region_held3 (fun _ => True) (trivial) (first
              | (go_at_call 65; (refine (l1OwnN_g _ k (putN X k (k : Int)) _ (HPre.out _ (by (repeat (first | with_reducible exact Below.refl _ _ | with_reducible assumption | with_reducible refine up_alloc ?_ _ | with_reducible refine up_drew ?_ | with_reducible refine up_drewN ?_ _ | (with_reducible refine up_set ?_ ?hset _; case hset => first | (simp; done) | (simp; omega) | omega) | with_reducible refine up_trans ?_ (by with_reducible assumption))))) (by omega)).mono ?_); rintro e w6 ⟨u, rfl, ho6, hb6⟩; have y0 : w6.cell? ⟨w5.heap.size, 0, none⟩ = some (.int .i64 (k : Int)) := up_keep hb6 (cell_one_new w5 (.int .i64 (k : Int)) _ 0 _ rfl); replace ho6 := ho6.more (show Below w5.heap.size w5 _ from (by (repeat (first | with_reducible exact Below.refl _ _ | with_reducible assumption | with_reducible refine up_alloc ?_ _ | with_reducible refine up_drew ?_ | with_reducible refine up_drewN ?_ _ | (with_reducible refine up_set ?_ ?hset _; case hset => first | (simp; done) | (simp; omega) | omega) | with_reducible refine up_trans ?_ (by with_reducible assumption))))).size)
              | (go_at_call 65; (refine (l1OwnN_g _ k (putN X k (k : Int)) _ (HPre.out _ (by (repeat (first | with_reducible exact Below.refl _ _ | with_reducible assumption | with_reducible refine up_alloc ?_ _ | with_reducible refine up_drew ?_ | with_reducible refine up_drewN ?_ _ | (with_reducible refine up_set ?_ ?hset _; case hset => first | (simp; done) | (simp; omega) | omega) | with_reducible refine up_trans ?_ (by with_reducible assumption))))) (by omega)).mono ?_); rintro e w6 ⟨u, rfl, ho6, hb6⟩; replace ho6 := ho6.more (show Below w5.heap.size w5 _ from (by (repeat (first | with_reducible exact Below.refl _ _ | with_reducible assumption | with_reducible refine up_alloc ?_ _ | with_reducible refine up_drew ?_ | with_reducible refine up_drewN ?_ _ | (with_reducible refine up_set ?_ ?hset _; case hset => first | (simp; done) | (simp; omega) | omega) | with_reducible refine up_trans ?_ (by with_reducible assumption))))).size)
              | (refine step_app_int rfl (.tmp 21) (.tmp 23) rfl w5.heap.size _ k (putN X k (k : Int)) rfl rfl HPk.out y0 (OwnN.up ho6 (by (repeat (first | with_reducible exact Below.refl _ _ | with_reducible assumption | with_reducible refine up_alloc ?_ _ | with_reducible refine up_drew ?_ | with_reducible refine up_drewN ?_ _ | (with_reducible refine up_set ?_ ?hset _; case hset => first | (simp; done) | (simp; omega) | omega) | with_reducible refine up_trans ?_ (by with_reducible assumption))))) (show Below w5.heap.size w5 _ from (by (repeat (first | with_reducible exact Below.refl _ _ | with_reducible assumption | with_reducible refine up_alloc ?_ _ | with_reducible refine up_drew ?_ | with_reducible refine up_drewN ?_ _ | (with_reducible refine up_set ?_ ?hset _; case hset => first | (simp; done) | (simp; omega) | omega) | with_reducible refine up_trans ?_ (by with_reducible assumption))))).size (by omega) ?_; intro v7 w7 ho7 hb7 _ _; replace hb7 := (show Below w5.heap.size w5 _ from (by (repeat (first | with_reducible exact Below.refl _ _ | with_reducible assumption | with_reducible refine up_alloc ?_ _ | with_reducible refine up_drew ?_ | with_reducible refine up_drewN ?_ _ | (with_reducible refine up_set ?_ ?hset _; case hset => first | (simp; done) | (simp; omega) | omega) | with_reducible refine up_trans ?_ (by with_reducible assumption))))).trans hb7)
              | (refine step_app_int rfl (.tmp 21) (.tmp 23) rfl w5.heap.size _ k (putN X k (k : Int)) rfl rfl HPk.out (cell_one_new _ _ _ 0 _ rfl) (OwnN.up ho6 (by (repeat (first | with_reducible exact Below.refl _ _ | with_reducible assumption | with_reducible refine up_alloc ?_ _ | with_reducible refine up_drew ?_ | with_reducible refine up_drewN ?_ _ | (with_reducible refine up_set ?_ ?hset _; case hset => first | (simp; done) | (simp; omega) | omega) | with_reducible refine up_trans ?_ (by with_reducible assumption))))) (show Below w5.heap.size w5 _ from (by (repeat (first | with_reducible exact Below.refl _ _ | with_reducible assumption | with_reducible refine up_alloc ?_ _ | with_reducible refine up_drew ?_ | with_reducible refine up_drewN ?_ _ | (with_reducible refine up_set ?_ ?hset _; case hset => first | (simp; done) | (simp; omega) | omega) | with_reducible refine up_trans ?_ (by with_reducible assumption))))).size (by omega) ?_; intro v7 w7 ho7 hb7 _ _; replace hb7 := (show Below w5.heap.size w5 _ from (by (repeat (first | with_reducible exact Below.refl _ _ | with_reducible assumption | with_reducible refine up_alloc ?_ _ | with_reducible refine up_drew ?_ | with_reducible refine up_drewN ?_ _ | (with_reducible refine up_set ?_ ?hset _; case hset => first | (simp; done) | (simp; omega) | omega) | with_reducible refine up_trans ?_ (by with_reducible assumption))))).trans hb7)
              | (refine step_add_ints rfl (.tmp 24) (.tmp 27) rfl w5.heap.size _ _ (k + 1) 0 (putN X k (k : Int)) rfl rfl (OwnN.up ho7 (by (repeat (first | with_reducible exact Below.refl _ _ | with_reducible assumption | with_reducible refine up_alloc ?_ _ | with_reducible refine up_drew ?_ | with_reducible refine up_drewN ?_ _ | (with_reducible refine up_set ?_ ?hset _; case hset => first | (simp; done) | (simp; omega) | omega) | with_reducible refine up_trans ?_ (by with_reducible assumption))))) (HSuf.out _ (by (repeat (first | with_reducible exact Below.refl _ _ | with_reducible assumption | with_reducible refine up_alloc ?_ _ | with_reducible refine up_drew ?_ | with_reducible refine up_drewN ?_ _ | (with_reducible refine up_set ?_ ?hset _; case hset => first | (simp; done) | (simp; omega) | omega) | with_reducible refine up_trans ?_ (by with_reducible assumption)))) _ _) (show Below w5.heap.size w5 _ from (by (repeat (first | with_reducible exact Below.refl _ _ | with_reducible assumption | with_reducible refine up_alloc ?_ _ | with_reducible refine up_drew ?_ | with_reducible refine up_drewN ?_ _ | (with_reducible refine up_set ?_ ?hset _; case hset => first | (simp; done) | (simp; omega) | omega) | with_reducible refine up_trans ?_ (by with_reducible assumption))))).size (by omega) (by omega) ?_; intro v8 w8 ho8 hb8; replace hb8 := (show Below w5.heap.size w5 _ from (by (repeat (first | with_reducible exact Below.refl _ _ | with_reducible assumption | with_reducible refine up_alloc ?_ _ | with_reducible refine up_drew ?_ | with_reducible refine up_drewN ?_ _ | (with_reducible refine up_set ?_ ?hset _; case hset => first | (simp; done) | (simp; omega) | omega) | with_reducible refine up_trans ?_ (by with_reducible assumption))))).trans hb8)
              | fail)
          all_goals
            go_wp2_with fail
            obtain ⟨A8, c8, e8, _, _⟩ := ho8.shape
            subst e8
            go_roundw
            case rel =>
              have hbx : Below w.heap.size w5 w8 := hb8.mono (by omega)
              exact ⟨k + 1, putN X k (k : Int), by omega, by go_num, by have := ho8.more (show w.heap.size ≤ w5.heap.size by omega); rwa [show k + 1 + 0 = k + 1 by omega] at this, (hc5.below hbx hpw).more (by omega), (ht.trans ht5).far hbx⟩
            case measure => simp [intOf]; omega
        | some ad =>
          by_cases hck : c = k
          · subst hck
            go_wp2_with fail
            go_region_held3 (fun _ => True) (trivial) (first
                | (go_at_call 65; (refine (l1OwnN_g _ c (putN X c (c : Int)) _ (HPre.out _ (by (repeat (first | with_reducible exact Below.refl _ _ | with_reducible assumption | with_reducible refine up_alloc ?_ _ | with_reducible refine up_drew ?_ | with_reducible refine up_drewN ?_ _ | (with_reducible refine up_set ?_ ?hset _; case hset => first | (simp; done) | (simp; omega) | omega) | with_reducible refine up_trans ?_ (by with_reducible assumption))))) (by omega)).mono ?_); rintro e w6 ⟨u, rfl, ho6, hb6⟩; have y0 : w6.cell? ⟨w5.heap.size, 0, none⟩ = some (.int .i64 (c : Int)) := up_keep hb6 (cell_one_new w5 (.int .i64 (c : Int)) _ 0 _ rfl); replace ho6 := ho6.more (show Below w5.heap.size w5 _ from (by (repeat (first | with_reducible exact Below.refl _ _ | with_reducible assumption | with_reducible refine up_alloc ?_ _ | with_reducible refine up_drew ?_ | with_reducible refine up_drewN ?_ _ | (with_reducible refine up_set ?_ ?hset _; case hset => first | (simp; done) | (simp; omega) | omega) | with_reducible refine up_trans ?_ (by with_reducible assumption))))).size)
                | (go_at_call 65; (refine (l1OwnN_g _ c (putN X c (c : Int)) _ (HPre.out _ (by (repeat (first | with_reducible exact Below.refl _ _ | with_reducible assumption | with_reducible refine up_alloc ?_ _ | with_reducible refine up_drew ?_ | with_reducible refine up_drewN ?_ _ | (with_reducible refine up_set ?_ ?hset _; case hset => first | (simp; done) | (simp; omega) | omega) | with_reducible refine up_trans ?_ (by with_reducible assumption))))) (by omega)).mono ?_); rintro e w6 ⟨u, rfl, ho6, hb6⟩; replace ho6 := ho6.more (show Below w5.heap.size w5 _ from (by (repeat (first | with_reducible exact Below.refl _ _ | with_reducible assumption | with_reducible refine up_alloc ?_ _ | with_reducible refine up_drew ?_ | with_reducible refine up_drewN ?_ _ | (with_reducible refine up_set ?_ ?hset _; case hset => first | (simp; done) | (simp; omega) | omega) | with_reducible refine up_trans ?_ (by with_reducible assumption))))).size)
                | (refine step_app_int rfl (.tmp 21) (.tmp 23) rfl w5.heap.size _ c (putN X c (c : Int)) rfl rfl HPk.out y0 (OwnN.up ho6 (by (repeat (first | with_reducible exact Below.refl _ _ | with_reducible assumption | with_reducible refine up_alloc ?_ _ | with_reducible refine up_drew ?_ | with_reducible refine up_drewN ?_ _ | (with_reducible refine up_set ?_ ?hset _; case hset => first | (simp; done) | (simp; omega) | omega) | with_reducible refine up_trans ?_ (by with_reducible assumption))))) (show Below w5.heap.size w5 _ from (by (repeat (first | with_reducible exact Below.refl _ _ | with_reducible assumption | with_reducible refine up_alloc ?_ _ | with_reducible refine up_drew ?_ | with_reducible refine up_drewN ?_ _ | (with_reducible refine up_set ?_ ?hset _; case hset => first | (simp; done) | (simp; omega) | omega) | with_reducible refine up_trans ?_ (by with_reducible assumption))))).size (by omega) ?_; intro v7 w7 ho7 hb7 _ _; replace hb7 := (show Below w5.heap.size w5 _ from (by (repeat (first | with_reducible exact Below.refl _ _ | with_reducible assumption | with_reducible refine up_alloc ?_ _ | with_reducible refine up_drew ?_ | with_reducible refine up_drewN ?_ _ | (with_reducible refine up_set ?_ ?hset _; case hset => first | (simp; done) | (simp; omega) | omega) | with_reducible refine up_trans ?_ (by with_reducible assumption))))).trans hb7)
                | (refine step_app_int rfl (.tmp 21) (.tmp 23) rfl w5.heap.size _ c (putN X c (c : Int)) rfl rfl HPk.out (cell_one_new _ _ _ 0 _ rfl) (OwnN.up ho6 (by (repeat (first | with_reducible exact Below.refl _ _ | with_reducible assumption | with_reducible refine up_alloc ?_ _ | with_reducible refine up_drew ?_ | with_reducible refine up_drewN ?_ _ | (with_reducible refine up_set ?_ ?hset _; case hset => first | (simp; done) | (simp; omega) | omega) | with_reducible refine up_trans ?_ (by with_reducible assumption))))) (show Below w5.heap.size w5 _ from (by (repeat (first | with_reducible exact Below.refl _ _ | with_reducible assumption | with_reducible refine up_alloc ?_ _ | with_reducible refine up_drew ?_ | with_reducible refine up_drewN ?_ _ | (with_reducible refine up_set ?_ ?hset _; case hset => first | (simp; done) | (simp; omega) | omega) | with_reducible refine up_trans ?_ (by with_reducible assumption))))).size (by omega) ?_; intro v7 w7 ho7 hb7 _ _; replace hb7 := (show Below w5.heap.size w5 _ from (by (repeat (first | with_reducible exact Below.refl _ _ | with_reducible assumption | with_reducible refine up_alloc ?_ _ | with_reducible refine up_drew ?_ | with_reducible refine up_drewN ?_ _ | (with_reducible refine up_set ?_ ?hset _; case hset => first | (simp; done) | (simp; omega) | omega) | with_reducible refine up_trans ?_ (by with_reducible assumption))))).trans hb7)
                | (refine step_add_ints rfl (.tmp 24) (.tmp 27) rfl w5.heap.size _ _ (c + 1) 0 (putN X c (c : Int)) rfl rfl (OwnN.up ho7 (by (repeat (first | with_reducible exact Below.refl _ _ | with_reducible assumption | with_reducible refine up_alloc ?_ _ | with_reducible refine up_drew ?_ | with_reducible refine up_drewN ?_ _ | (with_reducible refine up_set ?_ ?hset _; case hset => first | (simp; done) | (simp; omega) | omega) | with_reducible refine up_trans ?_ (by with_reducible assumption))))) (HSuf.out _ (by (repeat (first | with_reducible exact Below.refl _ _ | with_reducible assumption | with_reducible refine up_alloc ?_ _ | with_reducible refine up_drew ?_ | with_reducible refine up_drewN ?_ _ | (with_reducible refine up_set ?_ ?hset _; case hset => first | (simp; done) | (simp; omega) | omega) | with_reducible refine up_trans ?_ (by with_reducible assumption)))) _ _) (show Below w5.heap.size w5 _ from (by (repeat (first | with_reducible exact Below.refl _ _ | with_reducible assumption | with_reducible refine up_alloc ?_ _ | with_reducible refine up_drew ?_ | with_reducible refine up_drewN ?_ _ | (with_reducible refine up_set ?_ ?hset _; case hset => first | (simp; done) | (simp; omega) | omega) | with_reducible refine up_trans ?_ (by with_reducible assumption))))).size (by omega) (by omega) ?_; intro v8 w8 ho8 hb8; replace hb8 := (show Below w5.heap.size w5 _ from (by (repeat (first | with_reducible exact Below.refl _ _ | with_reducible assumption | with_reducible refine up_alloc ?_ _ | with_reducible refine up_drew ?_ | with_reducible refine up_drewN ?_ _ | (with_reducible refine up_set ?_ ?hset _; case hset => first | (simp; done) | (simp; omega) | omega) | with_reducible refine up_trans ?_ (by with_reducible assumption))))).trans hb8)
                | fail)
            all_goals
              go_wp2_with fail
              obtain ⟨A8, c8, e8, _, _⟩ := ho8.shape
              subst e8
              go_roundw
              case rel =>
                have hbx : Below w.heap.size w5 w8 := hb8.mono (by omega)
                exact ⟨c + 1, putN X c (c : Int), by omega, by go_num, by have := ho8.more (show w.heap.size ≤ w5.heap.size by omega); rwa [show c + 1 + 0 = c + 1 by omega] at this, (hc5.below hbx hpw).more (by omega), (ht.trans ht5).far hbx⟩
              case measure => simp [intOf]; omega
          · have jn1 : ¬ c = k := hck
            clear hck
            go_wp2_with fail
            go_region_held3 (fun _ => True) (trivial) (first
                | (go_at_call 65; (refine (l1OwnN_g _ k (putN X k (k : Int)) _ (HPre.out _ (by (repeat (first | with_reducible exact Below.refl _ _ | with_reducible assumption | with_reducible refine up_alloc ?_ _ | with_reducible refine up_drew ?_ | with_reducible refine up_drewN ?_ _ | (with_reducible refine up_set ?_ ?hset _; case hset => first | (simp; done) | (simp; omega) | omega) | with_reducible refine up_trans ?_ (by with_reducible assumption))))) (by omega)).mono ?_); rintro e w6 ⟨u, rfl, ho6, hb6⟩; have y0 : w6.cell? ⟨w5.heap.size, 0, none⟩ = some (.int .i64 (k : Int)) := up_keep hb6 (cell_one_new w5 (.int .i64 (k : Int)) _ 0 _ rfl); replace ho6 := ho6.more (show Below w5.heap.size w5 _ from (by (repeat (first | with_reducible exact Below.refl _ _ | with_reducible assumption | with_reducible refine up_alloc ?_ _ | with_reducible refine up_drew ?_ | with_reducible refine up_drewN ?_ _ | (with_reducible refine up_set ?_ ?hset _; case hset => first | (simp; done) | (simp; omega) | omega) | with_reducible refine up_trans ?_ (by with_reducible assumption))))).size)
                | (go_at_call 65; (refine (l1OwnN_g _ k (putN X k (k : Int)) _ (HPre.out _ (by (repeat (first | with_reducible exact Below.refl _ _ | with_reducible assumption | with_reducible refine up_alloc ?_ _ | with_reducible refine up_drew ?_ | with_reducible refine up_drewN ?_ _ | (with_reducible refine up_set ?_ ?hset _; case hset => first | (simp; done) | (simp; omega) | omega) | with_reducible refine up_trans ?_ (by with_reducible assumption))))) (by omega)).mono ?_); rintro e w6 ⟨u, rfl, ho6, hb6⟩; replace ho6 := ho6.more (show Below w5.heap.size w5 _ from (by (repeat (first | with_reducible exact Below.refl _ _ | with_reducible assumption | with_reducible refine up_alloc ?_ _ | with_reducible refine up_drew ?_ | with_reducible refine up_drewN ?_ _ | (with_reducible refine up_set ?_ ?hset _; case hset => first | (simp; done) | (simp; omega) | omega) | with_reducible refine up_trans ?_ (by with_reducible assumption))))).size)
                | (refine step_app_int rfl (.tmp 21) (.tmp 23) rfl w5.heap.size _ k (putN X k (k : Int)) rfl rfl HPk.out y0 (OwnN.up ho6 (by (repeat (first | with_reducible exact Below.refl _ _ | with_reducible assumption | with_reducible refine up_alloc ?_ _ | with_reducible refine up_drew ?_ | with_reducible refine up_drewN ?_ _ | (with_reducible refine up_set ?_ ?hset _; case hset => first | (simp; done) | (simp; omega) | omega) | with_reducible refine up_trans ?_ (by with_reducible assumption))))) (show Below w5.heap.size w5 _ from (by (repeat (first | with_reducible exact Below.refl _ _ | with_reducible assumption | with_reducible refine up_alloc ?_ _ | with_reducible refine up_drew ?_ | with_reducible refine up_drewN ?_ _ | (with_reducible refine up_set ?_ ?hset _; case hset => first | (simp; done) | (simp; omega) | omega) | with_reducible refine up_trans ?_ (by with_reducible assumption))))).size (by omega) ?_; intro v7 w7 ho7 hb7 _ _; replace hb7 := (show Below w5.heap.size w5 _ from (by (repeat (first | with_reducible exact Below.refl _ _ | with_reducible assumption | with_reducible refine up_alloc ?_ _ | with_reducible refine up_drew ?_ | with_reducible refine up_drewN ?_ _ | (with_reducible refine up_set ?_ ?hset _; case hset => first | (simp; done) | (simp; omega) | omega) | with_reducible refine up_trans ?_ (by with_reducible assumption))))).trans hb7)
                | (refine step_app_int rfl (.tmp 21) (.tmp 23) rfl w5.heap.size _ k (putN X k (k : Int)) rfl rfl HPk.out (cell_one_new _ _ _ 0 _ rfl) (OwnN.up ho6 (by (repeat (first | with_reducible exact Below.refl _ _ | with_reducible assumption | with_reducible refine up_alloc ?_ _ | with_reducible refine up_drew ?_ | with_reducible refine up_drewN ?_ _ | (with_reducible refine up_set ?_ ?hset _; case hset => first | (simp; done) | (simp; omega) | omega) | with_reducible refine up_trans ?_ (by with_reducible assumption))))) (show Below w5.heap.size w5 _ from (by (repeat (first | with_reducible exact Below.refl _ _ | with_reducible assumption | with_reducible refine up_alloc ?_ _ | with_reducible refine up_drew ?_ | with_reducible refine up_drewN ?_ _ | (with_reducible refine up_set ?_ ?hset _; case hset => first | (simp; done) | (simp; omega) | omega) | with_reducible refine up_trans ?_ (by with_reducible assumption))))).size (by omega) ?_; intro v7 w7 ho7 hb7 _ _; replace hb7 := (show Below w5.heap.size w5 _ from (by (repeat (first | with_reducible exact Below.refl _ _ | with_reducible assumption | with_reducible refine up_alloc ?_ _ | with_reducible refine up_drew ?_ | with_reducible refine up_drewN ?_ _ | (with_reducible refine up_set ?_ ?hset _; case hset => first | (simp; done) | (simp; omega) | omega) | with_reducible refine up_trans ?_ (by with_reducible assumption))))).trans hb7)
                | (refine step_add_ints rfl (.tmp 24) (.tmp 27) rfl w5.heap.size _ _ (k + 1) 0 (putN X k (k : Int)) rfl rfl (OwnN.up ho7 (by (repeat (first | with_reducible exact Below.refl _ _ | with_reducible assumption | with_reducible refine up_alloc ?_ _ | with_reducible refine up_drew ?_ | with_reducible refine up_drewN ?_ _ | (with_reducible refine up_set ?_ ?hset _; case hset => first | (simp; done) | (simp; omega) | omega) | with_reducible refine up_trans ?_ (by with_reducible assumption))))) (HSuf.out _ (by (repeat (first | with_reducible exact Below.refl _ _ | with_reducible assumption | with_reducible refine up_alloc ?_ _ | with_reducible refine up_drew ?_ | with_reducible refine up_drewN ?_ _ | (with_reducible refine up_set ?_ ?hset _; case hset => first | (simp; done) | (simp; omega) | omega) | with_reducible refine up_trans ?_ (by with_reducible assumption)))) _ _) (show Below w5.heap.size w5 _ from (by (repeat (first | with_reducible exact Below.refl _ _ | with_reducible assumption | with_reducible refine up_alloc ?_ _ | with_reducible refine up_drew ?_ | with_reducible refine up_drewN ?_ _ | (with_reducible refine up_set ?_ ?hset _; case hset => first | (simp; done) | (simp; omega) | omega) | with_reducible refine up_trans ?_ (by with_reducible assumption))))).size (by omega) (by omega) ?_; intro v8 w8 ho8 hb8; replace hb8 := (show Below w5.heap.size w5 _ from (by (repeat (first | with_reducible exact Below.refl _ _ | with_reducible assumption | with_reducible refine up_alloc ?_ _ | with_reducible refine up_drew ?_ | with_reducible refine up_drewN ?_ _ | (with_reducible refine up_set ?_ ?hset _; case hset => first | (simp; done) | (simp; omega) | omega) | with_reducible refine up_trans ?_ (by with_reducible assumption))))).trans hb8)
                | fail)
            all_goals
              go_wp2_with fail
              obtain ⟨A8, c8, e8, _, _⟩ := ho8.shape
              subst e8
              go_roundw
              case rel =>
                have hbx : Below w.heap.size w5 w8 := hb8.mono (by omega)
                exact ⟨k + 1, putN X k (k : Int), by omega, by go_num, by have := ho8.more (show w.heap.size ≤ w5.heap.size by omega); rwa [show k + 1 + 0 = k + 1 by omega] at this, (hc5.below hbx hpw).more (by omega), (ht.trans ht5).far hbx⟩
              case measure => simp [intOf]; omega
    · have e : k = n := by omega
      subst e
      by_cases h0 : k = 0
      · subst h0
        go_wp2_with fail
        go_ret
        exact ⟨_, X, rfl, HO.out, hc.more (by omega), ht⟩
      · have j1 : (k : Int) > 0 := by omega
        obtain ⟨g, c', e1, hgb, hgl⟩ := World.ownsRow.form HO.out (by omega)
        injection e1 with e1 _ e2
        subst e1
        subst e2
        go_wp2_with fail
        refine (cur_one p _ 16 _ hc (by omega) (by omega)).mono ?_
        rintro e w5 ⟨q, rfl, hc5, ht5⟩
        have HO5 := Lib.hid (HO.out.turn ht5 hpw)
        have ht6 := ht.trans ht5
        cases q with
        | false =>
          go_wp2_with fail
          go_ret
          exact ⟨_, X, rfl, HO5.out, hc5.more (by omega), ht6⟩
        | true =>
          go_wp2_with fail
          refine (cur_pick p _ k _ hc5 (by omega) (by omega)).mono ?_
          rintro e w6 ⟨J, rfl, hJ, hc6, ht7⟩
          have hJk : J < k := by omega
          have jJ : (J : Int) < (k : Int) := by omega
          have HO6 := Lib.hid (HO5.out.turn ht7 hpw)
          have ht8 := ht6.trans ht7
          have hpl : p < w6.heap.size := hc6.lt
          go_wp2_with fail
          refine (cur_among p _ _ 4 (-1) 13 _ (hc6.up (below_alloc _ _)) (by omega) (by omega) (by omega) hpl (by intro i hi; match i, hi with | 0, _ => exact ⟨(-1), by simp [go_sem], by omega, by omega⟩ | 1, _ => exact ⟨0, by simp [go_sem], by omega, by omega⟩ | 2, _ => exact ⟨((k : Int) - 1), by simp [go_sem], by omega, by omega⟩ | 3, _ => exact ⟨(k : Int), by simp [go_sem], by omega, by omega⟩ | (q + 4), hi => omega)).mono ?_
          rintro e w9 ⟨z, rfl, hz, hc9, ht12⟩
          have ht13 := (ht8.trans (Turned.of_below (below_alloc _ _))).trans ht12
          have hN9 := ((HO6.out.up (below_alloc _ _)).turn ht12 hpw)
          obtain ⟨c9, f9⟩ := hN9.at hJk
          have HN9 := Lib.hid hN9
          clear hN9
          go_wp2_with fail
          go_ret
          obtain ⟨s1, s2⟩ := HN9.out.store hJk z
          have hb9 : Below w.heap.size w9 (w9.setCell ⟨g, J, none⟩ (.int .i64 z)) := (Below.refl _ _).setCell hgb _
          exact ⟨_, _, rfl, s1, (hc9.below hb9 hpw).more (by omega), ht13.far hb9⟩
end Go.Proofs.Ytadlemadnifohaa
