/-
  spec.OrderAlong.
-/
import Derived.Test.YtbfhfjpfjkdcfaaRows
import Derived.Test.YtbfhfjpfjkdcfaaBase
import Derived.Test.YtbfhfjpfjkdcfaaSpot
import Derived.Test.YtbfhfjpfjkdcfaaSlice
import Derived.Test.YtbfhfjpfjkdcfaaChart
import Derived.Test.YtbfhfjpfjkdcfaaLawS
import Derived.Test.YtbfhfjpfjkdcfaaMark
import Derived.Test.YtbfhfjpfjkdcfaaInts
import Derived.Test.YtbfhfjpfjkdcfaaIntsL
import Derived.Test.YtbfhfjpfjkdcfaaCopyI
import Derived.Test.YtbfhfjpfjkdcfaaAddI
import Derived.Test.YtbfhfjpfjkdcfaaOrdP
import Derived.Test.YtbfhfjpfjkdcfaaPiece
import Derived.BigQuiet
import Derived.Deep.QuietTactic
import Derived.Deep.CutRange
import Derived.Deep.DeepCutAuto
import Derived.Deep.RegionHeld3
namespace Go.Proofs.Ytbfhfjpfjkdcfaa
open Go.RowKit Go.ChangeShapes Go.WideShapes Go.Sort

set_option maxRecDepth 100000 in
set_option maxHeartbeats 8000000 in
theorem sOrder_ok (v : Value) (n : Nat) (X Y : Nat → Int) (w : World) (h : Spots w v n X Y) (hc : chartB n X Y = true) :
    Calls Try.prog 5 #[v] w (AnsIB w n (ordO X Y n) true) := by
  have HC := Lib.hid (chGood_g v n X Y w h (by have := (chartB_iff.1 hc).1.2; omega))
  rw [hc] at HC
  have hn := (chartB_iff.1 hc).1
  obtain ⟨Av, cv, rfl, hncv, hrow⟩ := h
  obtain ⟨b, o, rfl, hr⟩ := hrow (by omega)
  have HR := Lib.hid hr
  clear hr hrow hc
  go_enter Try.func5, Try.ntmps5
  go_wp2_with fail
  refine HC.out.mono ?_
  rintro e w1 ⟨rfl, hb1⟩
  go_wp2_with fail
  go_loopw [4, 13] (fun q ii wr => ∃ i : Nat, i ≤ n ∧ ii = .int .i64 (i : Int) ∧ OwnN w.heap.size wr q i (ordO X Y i) ∧ Below w.heap.size w wr) (fun _ ii _ => n - (intOf ii).toNat)
  case atStart => exact ⟨0, by omega, rfl, OwnN.nil _ _ _, hb1⟩
  case round =>
    clear hb1
    obtain ⟨i, hi, rfl, how, hbw⟩ := hrel
    obtain ⟨Ad, c, e1, hic, _⟩ := how.shape
    subst e1
    have HO := Lib.hid how
    clear how
    by_cases hlt : i < n
    · have j1 : (i : Int) < (n : Int) := by omega
      have x0 := up_keep hbw (HR.out i hlt).1
      have x1 := up_keep hbw (HR.out i hlt).2
      have HORD := Lib.hid (show putN (ordO X Y i) (posO X Y (ordO X Y i) i i) (i : Int) = ordO X Y (i + 1) from rfl)
      have HBD := Lib.hid (ordO_bd X Y i)
      generalize ordO X Y i = O at *
      go_upto_region 7 with fail
      generalize hWx : World.alloc wr _ = W
      have hbW : Below wr.heap.size wr W := by subst hWx; exact below_alloc _ _
      have g0 : W.cell? ⟨wr.heap.size, 0, none⟩ = some (.int .i64 (X i)) := by subst hWx; simp [go_sem]
      have g1 : W.cell? ⟨wr.heap.size, 1, none⟩ = some (.int .i64 (Y i)) := by subst hWx; simp [go_sem]
      clear hWx x0 x1
      have hbwW := up_trans hbw hbW
      have HOW := Lib.hid (HO.out.up hbW)
      obtain ⟨w4, rfl⟩ : ∃ W : World, W = wr := ⟨_, rfl⟩
      go_wp2_with fail
      go_loopw [7] (fun kk wq => ∃ k : Nat, k ≤ i ∧ kk = .int .i64 (k : Int) ∧ posO X Y O i k = posO X Y O i i ∧ Below W.heap.size W wq) (fun kk _ => (intOf kk).toNat)
      case atStart => exact ⟨i, by omega, rfl, rfl, Below.refl _ _⟩
      case round =>
        obtain ⟨k, hk, rfl, hpos, hbk⟩ := hrel
        obtain ⟨q, hq⟩ : ∃ q, (decide (0 < k) && aft X Y (O (k - 1)).toNat i) = q := ⟨_, rfl⟩
        have HQ := Lib.hid hq
        have HPOS := Lib.hid hpos
        have g0' := cell_regrown (up_keep hbk g0)
        have g1' := cell_regrown (up_keep hbk g1)
        have HOK := Lib.hid (HOW.out.up hbk)
        have hbwk := up_trans hbwW hbk
        go_upto_region 8 with fail
        go_cut [63] (fun s wx => s = .bool q ∧ Below wr.heap.size wr wx)
        case first =>
          by_cases hk0 : k = 0
          · subst hk0
            have q0 : q = false := by rw [← hq]; rfl
            subst q0
            have jz : ¬ ((0 : Nat) : Int) > 0 := by omega
            clear hq hpos
            refine wp_region_up (by kernel_rfl) (by kernel_rfl) ?_
            repeat (go_big_quiet_step (fail))
            refine wpQuiet_nil ?_
            intro w1 hb0
            obtain ⟨hc0, hf0⟩ := bcell hb0
            go_wp2_with fail
            go_meet
            exact ⟨rfl, hb0⟩
          · obtain ⟨K, hK⟩ : ∃ K, k - 1 = K := ⟨_, rfl⟩
            rw [hK, decide_eq_true (show 0 < k by omega), Bool.true_and] at hq
            have hKi : K < i := by omega
            obtain ⟨o1, o2⟩ := HBD.out K hKi
            obtain ⟨V, hV⟩ : ∃ V : Nat, O K = V := ⟨(O K).toNat, by omega⟩
            rw [hV, Int.toNat_natCast] at hq
            have hVn : V < n := by omega
            have w1' : IntKind.i64.wrap ((k : Int) - 1) = (K : Int) := by rw [show (k : Int) - 1 = (K : Int) by omega]; exact IntWalk.i64_in _ (by omega)
            obtain ⟨A9, c9, e9, _, hrow9⟩ := HOK.out.ownI
            injection e9 with e1 _ e2
            subst e1
            subst e2
            obtain ⟨bo, oo, rfl, _, _, hr9⟩ := hrow9 (by omega)
            have y0 := hr9 K hKi
            rw [hV] at y0
            have y0' := cell_regrown y0
            have z0 := cell_regrown (up_keep hbwk (HR.out V hVn).1)
            have z1 := cell_regrown (up_keep hbwk (HR.out V hVn).2)
            have jk : (k : Int) > 0 := by omega
            have jkn : 0 < k := by omega
            have jkb : decide (0 < k) = true := by simpa using jkn
            have jK : (K : Int) < (i : Int) := by omega
            have jK0 : (0 : Int) ≤ (K : Int) := by omega
            have jV : (V : Int) < (n : Int) := by omega
            have jV0 : (0 : Int) ≤ (V : Int) := by omega
            unfold aft at hq
            clear hV hK o1 o2 hr9 hrow9 y0 hpos
            generalize X V = xv at *
            generalize Y V = yv at *
            generalize X i = xi at *
            generalize Y i = yi at *
            by_cases a1 : xi < xv
            · have b1 : decide (xv > xi) = true := by simpa using a1
              have b1' : decide (xi < xv) = true := by simpa using a1
              have q1 : q = true := by rw [← hq]; simp [a1]
              subst q1
              have a1' : xv > xi := a1
              clear hq
              refine wp_region_up (by kernel_rfl) (by kernel_rfl) ?_
              repeat (go_big_quiet_step (fail))
              refine wpQuiet_nil ?_
              intro w1 hb0
              obtain ⟨hc0, hf0⟩ := bcell hb0
              go_wp2_with fail
              go_meet
              exact ⟨rfl, hb0⟩
            · have b1 : decide (xv > xi) = false := by simp; omega
              have b1' : decide (xi < xv) = false := by simp; omega
              have a1' : ¬ xv > xi := by omega
              by_cases a2 : xv = xi
              · have b2 : (xv == xi) = true := by simp [a2]
                by_cases a3 : yi < yv
                · have b3 : decide (yv > yi) = true := by simpa using a3
                  have b3' : decide (yi < yv) = true := by simpa using a3
                  have a3' : yv > yi := a3
                  have q1 : q = true := by rw [← hq]; simp [a2, a3]
                  subst q1
                  clear hq a2
                  refine wp_region_up (by kernel_rfl) (by kernel_rfl) ?_
                  repeat (go_big_quiet_step (fail))
                  refine wpQuiet_nil ?_
                  intro w1 hb0
                  obtain ⟨hc0, hf0⟩ := bcell hb0
                  go_wp2_with fail
                  go_meet
                  exact ⟨rfl, hb0⟩
                · have b3 : decide (yv > yi) = false := by simp; omega
                  have b3' : decide (yi < yv) = false := by simp; omega
                  have a3' : ¬ yv > yi := by omega
                  have q1 : q = false := by rw [← hq]; simp [a2]; omega
                  subst q1
                  clear hq a2
                  refine wp_region_up (by kernel_rfl) (by kernel_rfl) ?_
                  repeat (go_big_quiet_step (fail))
                  refine wpQuiet_nil ?_
                  intro w1 hb0
                  obtain ⟨hc0, hf0⟩ := bcell hb0
                  go_wp2_with fail
                  go_meet
                  exact ⟨rfl, hb0⟩
              · have b2 : (xv == xi) = false := by simp [a2]
                have q1 : q = false := by rw [← hq]; simp [a2]; omega
                subst q1
                clear hq
                refine wp_region_up (by kernel_rfl) (by kernel_rfl) ?_
                repeat (go_big_quiet_step (fail))
                refine wpQuiet_nil ?_
                intro w1 hb0
                obtain ⟨hc0, hf0⟩ := bcell hb0
                go_wp2_with fail
                go_meet
                exact ⟨rfl, hb0⟩
        case rest =>
        obtain ⟨rfl, hb9⟩ := hcut
        obtain ⟨w5, rfl⟩ : ∃ W : World, W = wc := ⟨_, rfl⟩
        clear g0' g1' hq hpos
        cases q with
        | true =>
          have hq := HQ.out
          rw [Bool.and_eq_true, decide_eq_true_iff] at hq
          have HNX := Lib.hid (show posO X Y O i (k - 1) = posO X Y O i i from by
            rw [← HPOS.out]
            obtain ⟨K, rfl⟩ : ∃ K, k = K + 1 := ⟨k - 1, by omega⟩
            rw [Nat.add_sub_cancel] at hq ⊢
            exact (if_pos hq.2).symm)
          have hk1 : 0 < k := hq.1
          clear hq
          go_wp2_with fail
          go_roundw
          case rel => exact ⟨k - 1, by omega, by rw [show ((k - 1 : Nat) : Int) = (k : Int) - 1 by omega], HNX.out, up_trans hbk hb9⟩
          case measure => simp [intOf]; omega
        | false =>
          have hkk : posO X Y O i k = k := by
            have hq := HQ.out
            cases hh : k with
            | zero => rfl
            | succ K =>
              rw [hh] at hq
              simp only [Nat.add_sub_cancel, Nat.succ_pos, decide_true, Bool.true_and] at hq
              exact if_neg (by rw [hq]; simp)
          have hORD : putN O k (i : Int) = ordO X Y (i + 1) := by rw [← HORD.out, ← HPOS.out, hkk]
          have HORD := Lib.hid hORD
          have hbw5 := up_trans hbwk hb9
          have hsz5 := hbw5.size
          obtain ⟨A9, c9, e9, _, hrow9⟩ := (HOK.out.up hb9).ownI.ints
          injection e9 with e1 _ e2
          subst e1
          subst e2
          have HRow := Lib.hid hrow9
          obtain ⟨t, rfl⟩ : ∃ t, t = k := ⟨_, rfl⟩
          clear hkk hORD hrow9 hbk hb9 hbwk hbwW hbW hbw HOK HOW HPOS HQ g0 g1
          have jt : (t : Int) ≤ (i : Int) := by omega
          have jt0 : (0 : Int) ≤ (t : Int) := by omega
          have jtc : (t : Int) ≤ (c : Int) := by omega
          have jkc : (i : Int) ≤ (c : Int) := by omega
          have jk0 : (0 : Int) ≤ (i : Int) := by omega
          have HPk := Lib.hid (show putN O t (i : Int) t = (i : Int) by simp [putN])
          have HPre := Lib.hid (show ∀ W, Below w5.heap.size w5 W → Ints W (.slice Ad t c) t (putN O t (i : Int)) from fun W hW => ⟨_, _, rfl, by omega, fun hk0 => by
            obtain ⟨bo, oo, e, hr⟩ := HRow.out (by omega)
            exact ⟨bo, oo, e, fun j hj => by rw [up_keep hW (hr j (by omega))]; simp [putN, hj]⟩⟩)
          by_cases htl : t < i
          · obtain ⟨bo, oo, rfl, hr⟩ := HRow.out (by omega)
            have HSuf := Lib.hid (show ∀ W, Below w5.heap.size w5 W → Ints W (.slice (some ⟨bo, oo + t, none⟩) (i - t) (c - t)) (i - t) (fun j => putN O t (i : Int) (t + 1 + j)) from fun W hW => ⟨_, _, rfl, by omega, fun _ => ⟨bo, oo + t, rfl, fun j hj => by
              have := up_keep hW (hr (t + j) (by omega))
              rw [show oo + t + j = oo + (t + j) by omega, this]
              simp only [putN, if_neg (show ¬ t + 1 + j < t by omega), if_neg (show ¬ t + 1 + j = t by omega), show t + 1 + j - 1 = t + j by omega]⟩⟩)
            have jn1 : ¬ c = t := by omega
            have jn2 : ¬ i = t := by omega
            clear hr
            go_wp2_with fail
            go_region_held3 (fun _ => True) (trivial) (first
              | (go_at_call 14; (refine (l1OwnN_g _ t (putN O t (i : Int)) _ (HPre.out _ (by (repeat (first | with_reducible exact Below.refl _ _ | with_reducible assumption | with_reducible refine up_alloc ?_ _ | with_reducible refine up_drew ?_ | with_reducible refine up_drewN ?_ _ | (with_reducible refine up_set ?_ ?hset _; case hset => first | (simp; done) | (simp; omega) | omega) | with_reducible refine up_trans ?_ (by with_reducible assumption))))) (by omega)).mono ?_); rintro e w6 ⟨u, rfl, ho6, hb6⟩; have y0 : w6.cell? ⟨w5.heap.size, 0, none⟩ = some (.int .i64 (i : Int)) := up_keep hb6 (cell_one_new w5 (.int .i64 (i : Int)) _ 0 _ rfl); replace ho6 := ho6.more (show Below w5.heap.size w5 _ from (by (repeat (first | with_reducible exact Below.refl _ _ | with_reducible assumption | with_reducible refine up_alloc ?_ _ | with_reducible refine up_drew ?_ | with_reducible refine up_drewN ?_ _ | (with_reducible refine up_set ?_ ?hset _; case hset => first | (simp; done) | (simp; omega) | omega) | with_reducible refine up_trans ?_ (by with_reducible assumption))))).size)
              | (go_at_call 14; (refine (l1OwnN_g _ t (putN O t (i : Int)) _ (HPre.out _ (by (repeat (first | with_reducible exact Below.refl _ _ | with_reducible assumption | with_reducible refine up_alloc ?_ _ | with_reducible refine up_drew ?_ | with_reducible refine up_drewN ?_ _ | (with_reducible refine up_set ?_ ?hset _; case hset => first | (simp; done) | (simp; omega) | omega) | with_reducible refine up_trans ?_ (by with_reducible assumption))))) (by omega)).mono ?_); rintro e w6 ⟨u, rfl, ho6, hb6⟩; replace ho6 := ho6.more (show Below w5.heap.size w5 _ from (by (repeat (first | with_reducible exact Below.refl _ _ | with_reducible assumption | with_reducible refine up_alloc ?_ _ | with_reducible refine up_drew ?_ | with_reducible refine up_drewN ?_ _ | (with_reducible refine up_set ?_ ?hset _; case hset => first | (simp; done) | (simp; omega) | omega) | with_reducible refine up_trans ?_ (by with_reducible assumption))))).size)
              | (refine step_app_int rfl (.tmp 69) (.tmp 71) rfl w5.heap.size _ t (putN O t (i : Int)) rfl rfl HPk.out y0 (OwnN.up ho6 (by (repeat (first | with_reducible exact Below.refl _ _ | with_reducible assumption | with_reducible refine up_alloc ?_ _ | with_reducible refine up_drew ?_ | with_reducible refine up_drewN ?_ _ | (with_reducible refine up_set ?_ ?hset _; case hset => first | (simp; done) | (simp; omega) | omega) | with_reducible refine up_trans ?_ (by with_reducible assumption))))) (show Below w5.heap.size w5 _ from (by (repeat (first | with_reducible exact Below.refl _ _ | with_reducible assumption | with_reducible refine up_alloc ?_ _ | with_reducible refine up_drew ?_ | with_reducible refine up_drewN ?_ _ | (with_reducible refine up_set ?_ ?hset _; case hset => first | (simp; done) | (simp; omega) | omega) | with_reducible refine up_trans ?_ (by with_reducible assumption))))).size (by omega) ?_; intro v7 w7 ho7 hb7 _ _; replace hb7 := (show Below w5.heap.size w5 _ from (by (repeat (first | with_reducible exact Below.refl _ _ | with_reducible assumption | with_reducible refine up_alloc ?_ _ | with_reducible refine up_drew ?_ | with_reducible refine up_drewN ?_ _ | (with_reducible refine up_set ?_ ?hset _; case hset => first | (simp; done) | (simp; omega) | omega) | with_reducible refine up_trans ?_ (by with_reducible assumption))))).trans hb7)
              | (refine step_app_int rfl (.tmp 69) (.tmp 71) rfl w5.heap.size _ t (putN O t (i : Int)) rfl rfl HPk.out (cell_one_new _ _ _ 0 _ rfl) (OwnN.up ho6 (by (repeat (first | with_reducible exact Below.refl _ _ | with_reducible assumption | with_reducible refine up_alloc ?_ _ | with_reducible refine up_drew ?_ | with_reducible refine up_drewN ?_ _ | (with_reducible refine up_set ?_ ?hset _; case hset => first | (simp; done) | (simp; omega) | omega) | with_reducible refine up_trans ?_ (by with_reducible assumption))))) (show Below w5.heap.size w5 _ from (by (repeat (first | with_reducible exact Below.refl _ _ | with_reducible assumption | with_reducible refine up_alloc ?_ _ | with_reducible refine up_drew ?_ | with_reducible refine up_drewN ?_ _ | (with_reducible refine up_set ?_ ?hset _; case hset => first | (simp; done) | (simp; omega) | omega) | with_reducible refine up_trans ?_ (by with_reducible assumption))))).size (by omega) ?_; intro v7 w7 ho7 hb7 _ _; replace hb7 := (show Below w5.heap.size w5 _ from (by (repeat (first | with_reducible exact Below.refl _ _ | with_reducible assumption | with_reducible refine up_alloc ?_ _ | with_reducible refine up_drew ?_ | with_reducible refine up_drewN ?_ _ | (with_reducible refine up_set ?_ ?hset _; case hset => first | (simp; done) | (simp; omega) | omega) | with_reducible refine up_trans ?_ (by with_reducible assumption))))).trans hb7)
              | (refine step_add_ints rfl (.tmp 72) (.tmp 75) rfl w5.heap.size _ _ (t + 1) (i - t) (putN O t (i : Int)) rfl rfl (OwnN.up ho7 (by (repeat (first | with_reducible exact Below.refl _ _ | with_reducible assumption | with_reducible refine up_alloc ?_ _ | with_reducible refine up_drew ?_ | with_reducible refine up_drewN ?_ _ | (with_reducible refine up_set ?_ ?hset _; case hset => first | (simp; done) | (simp; omega) | omega) | with_reducible refine up_trans ?_ (by with_reducible assumption))))) (HSuf.out _ (by (repeat (first | with_reducible exact Below.refl _ _ | with_reducible assumption | with_reducible refine up_alloc ?_ _ | with_reducible refine up_drew ?_ | with_reducible refine up_drewN ?_ _ | (with_reducible refine up_set ?_ ?hset _; case hset => first | (simp; done) | (simp; omega) | omega) | with_reducible refine up_trans ?_ (by with_reducible assumption))))) (show Below w5.heap.size w5 _ from (by (repeat (first | with_reducible exact Below.refl _ _ | with_reducible assumption | with_reducible refine up_alloc ?_ _ | with_reducible refine up_drew ?_ | with_reducible refine up_drewN ?_ _ | (with_reducible refine up_set ?_ ?hset _; case hset => first | (simp; done) | (simp; omega) | omega) | with_reducible refine up_trans ?_ (by with_reducible assumption))))).size (by omega) (by omega) ?_; intro v8 w8 ho8 hb8; replace hb8 := (show Below w5.heap.size w5 _ from (by (repeat (first | with_reducible exact Below.refl _ _ | with_reducible assumption | with_reducible refine up_alloc ?_ _ | with_reducible refine up_drew ?_ | with_reducible refine up_drewN ?_ _ | (with_reducible refine up_set ?_ ?hset _; case hset => first | (simp; done) | (simp; omega) | omega) | with_reducible refine up_trans ?_ (by with_reducible assumption))))).trans hb8)
              | fail)
            all_goals
              go_wp2_with fail
              obtain ⟨A8, c8, e8, _, _⟩ := ho8.shape
              subst e8
              go_roundw
              case rel =>
                have hbx : Below w.heap.size w5 w8 := hb8.mono (by omega)
                have hoo := ho8.more (show w.heap.size ≤ w5.heap.size by omega)
                rw [show t + 1 + (i - t) = i + 1 by omega] at hoo
                rw [HORD.out] at hoo
                exact ⟨i + 1, by omega, by go_num, by first | exact hoo | (rw [show t + 1 + (i - t) = i + 1 by omega]; exact hoo), hbw5.trans hbx⟩
              case measure => simp [intOf]; omega
          · have e : i = t := by omega
            have HSuf := Lib.hid (show ∀ W, Below w5.heap.size w5 W → ∀ A' c', Ints W (.slice A' 0 c') 0 (fun j => putN O t (i : Int) (t + 1 + j)) from fun W hW A' c' => ⟨_, _, rfl, Nat.zero_le _, fun hh => absurd hh (by omega)⟩)
            subst e
            clear htl
            cases Ad with
            | none =>
              go_wp2_with fail
              go_region_held3 (fun _ => True) (trivial) (first
                | (go_at_call 14; (refine (l1OwnN_g _ i (putN O i (i : Int)) _ (HPre.out _ (by (repeat (first | with_reducible exact Below.refl _ _ | with_reducible assumption | with_reducible refine up_alloc ?_ _ | with_reducible refine up_drew ?_ | with_reducible refine up_drewN ?_ _ | (with_reducible refine up_set ?_ ?hset _; case hset => first | (simp; done) | (simp; omega) | omega) | with_reducible refine up_trans ?_ (by with_reducible assumption))))) (by omega)).mono ?_); rintro e w6 ⟨u, rfl, ho6, hb6⟩; have y0 : w6.cell? ⟨w5.heap.size, 0, none⟩ = some (.int .i64 (i : Int)) := up_keep hb6 (cell_one_new w5 (.int .i64 (i : Int)) _ 0 _ rfl); replace ho6 := ho6.more (show Below w5.heap.size w5 _ from (by (repeat (first | with_reducible exact Below.refl _ _ | with_reducible assumption | with_reducible refine up_alloc ?_ _ | with_reducible refine up_drew ?_ | with_reducible refine up_drewN ?_ _ | (with_reducible refine up_set ?_ ?hset _; case hset => first | (simp; done) | (simp; omega) | omega) | with_reducible refine up_trans ?_ (by with_reducible assumption))))).size)
                | (go_at_call 14; (refine (l1OwnN_g _ i (putN O i (i : Int)) _ (HPre.out _ (by (repeat (first | with_reducible exact Below.refl _ _ | with_reducible assumption | with_reducible refine up_alloc ?_ _ | with_reducible refine up_drew ?_ | with_reducible refine up_drewN ?_ _ | (with_reducible refine up_set ?_ ?hset _; case hset => first | (simp; done) | (simp; omega) | omega) | with_reducible refine up_trans ?_ (by with_reducible assumption))))) (by omega)).mono ?_); rintro e w6 ⟨u, rfl, ho6, hb6⟩; replace ho6 := ho6.more (show Below w5.heap.size w5 _ from (by (repeat (first | with_reducible exact Below.refl _ _ | with_reducible assumption | with_reducible refine up_alloc ?_ _ | with_reducible refine up_drew ?_ | with_reducible refine up_drewN ?_ _ | (with_reducible refine up_set ?_ ?hset _; case hset => first | (simp; done) | (simp; omega) | omega) | with_reducible refine up_trans ?_ (by with_reducible assumption))))).size)
                | (refine step_app_int rfl (.tmp 69) (.tmp 71) rfl w5.heap.size _ i (putN O i (i : Int)) rfl rfl HPk.out y0 (OwnN.up ho6 (by (repeat (first | with_reducible exact Below.refl _ _ | with_reducible assumption | with_reducible refine up_alloc ?_ _ | with_reducible refine up_drew ?_ | with_reducible refine up_drewN ?_ _ | (with_reducible refine up_set ?_ ?hset _; case hset => first | (simp; done) | (simp; omega) | omega) | with_reducible refine up_trans ?_ (by with_reducible assumption))))) (show Below w5.heap.size w5 _ from (by (repeat (first | with_reducible exact Below.refl _ _ | with_reducible assumption | with_reducible refine up_alloc ?_ _ | with_reducible refine up_drew ?_ | with_reducible refine up_drewN ?_ _ | (with_reducible refine up_set ?_ ?hset _; case hset => first | (simp; done) | (simp; omega) | omega) | with_reducible refine up_trans ?_ (by with_reducible assumption))))).size (by omega) ?_; intro v7 w7 ho7 hb7 _ _; replace hb7 := (show Below w5.heap.size w5 _ from (by (repeat (first | with_reducible exact Below.refl _ _ | with_reducible assumption | with_reducible refine up_alloc ?_ _ | with_reducible refine up_drew ?_ | with_reducible refine up_drewN ?_ _ | (with_reducible refine up_set ?_ ?hset _; case hset => first | (simp; done) | (simp; omega) | omega) | with_reducible refine up_trans ?_ (by with_reducible assumption))))).trans hb7)
                | (refine step_app_int rfl (.tmp 69) (.tmp 71) rfl w5.heap.size _ i (putN O i (i : Int)) rfl rfl HPk.out (cell_one_new _ _ _ 0 _ rfl) (OwnN.up ho6 (by (repeat (first | with_reducible exact Below.refl _ _ | with_reducible assumption | with_reducible refine up_alloc ?_ _ | with_reducible refine up_drew ?_ | with_reducible refine up_drewN ?_ _ | (with_reducible refine up_set ?_ ?hset _; case hset => first | (simp; done) | (simp; omega) | omega) | with_reducible refine up_trans ?_ (by with_reducible assumption))))) (show Below w5.heap.size w5 _ from (by (repeat (first | with_reducible exact Below.refl _ _ | with_reducible assumption | with_reducible refine up_alloc ?_ _ | with_reducible refine up_drew ?_ | with_reducible refine up_drewN ?_ _ | (with_reducible refine up_set ?_ ?hset _; case hset => first | (simp; done) | (simp; omega) | omega) | with_reducible refine up_trans ?_ (by with_reducible assumption))))).size (by omega) ?_; intro v7 w7 ho7 hb7 _ _; replace hb7 := (show Below w5.heap.size w5 _ from (by (repeat (first | with_reducible exact Below.refl _ _ | with_reducible assumption | with_reducible refine up_alloc ?_ _ | with_reducible refine up_drew ?_ | with_reducible refine up_drewN ?_ _ | (with_reducible refine up_set ?_ ?hset _; case hset => first | (simp; done) | (simp; omega) | omega) | with_reducible refine up_trans ?_ (by with_reducible assumption))))).trans hb7)
                | (refine step_add_ints rfl (.tmp 72) (.tmp 75) rfl w5.heap.size _ _ (i + 1) 0 (putN O i (i : Int)) rfl rfl (OwnN.up ho7 (by (repeat (first | with_reducible exact Below.refl _ _ | with_reducible assumption | with_reducible refine up_alloc ?_ _ | with_reducible refine up_drew ?_ | with_reducible refine up_drewN ?_ _ | (with_reducible refine up_set ?_ ?hset _; case hset => first | (simp; done) | (simp; omega) | omega) | with_reducible refine up_trans ?_ (by with_reducible assumption))))) (HSuf.out _ (by (repeat (first | with_reducible exact Below.refl _ _ | with_reducible assumption | with_reducible refine up_alloc ?_ _ | with_reducible refine up_drew ?_ | with_reducible refine up_drewN ?_ _ | (with_reducible refine up_set ?_ ?hset _; case hset => first | (simp; done) | (simp; omega) | omega) | with_reducible refine up_trans ?_ (by with_reducible assumption)))) _ _) (show Below w5.heap.size w5 _ from (by (repeat (first | with_reducible exact Below.refl _ _ | with_reducible assumption | with_reducible refine up_alloc ?_ _ | with_reducible refine up_drew ?_ | with_reducible refine up_drewN ?_ _ | (with_reducible refine up_set ?_ ?hset _; case hset => first | (simp; done) | (simp; omega) | omega) | with_reducible refine up_trans ?_ (by with_reducible assumption))))).size (by omega) (by omega) ?_; intro v8 w8 ho8 hb8; replace hb8 := (show Below w5.heap.size w5 _ from (by (repeat (first | with_reducible exact Below.refl _ _ | with_reducible assumption | with_reducible refine up_alloc ?_ _ | with_reducible refine up_drew ?_ | with_reducible refine up_drewN ?_ _ | (with_reducible refine up_set ?_ ?hset _; case hset => first | (simp; done) | (simp; omega) | omega) | with_reducible refine up_trans ?_ (by with_reducible assumption))))).trans hb8)
                | fail)
              all_goals
                go_wp2_with fail
                obtain ⟨A8, c8, e8, _, _⟩ := ho8.shape
                subst e8
                go_roundw
                case rel =>
                  have hbx : Below w.heap.size w5 w8 := hb8.mono (by omega)
                  have hoo := ho8.more (show w.heap.size ≤ w5.heap.size by omega)
                  rw [show i + 1 + 0 = i + 1 by omega] at hoo
                  rw [HORD.out] at hoo
                  exact ⟨i + 1, by omega, by go_num, by first | exact hoo | (rw [show i + 1 + 0 = i + 1 by omega]; exact hoo), hbw5.trans hbx⟩
                case measure => simp [intOf]; omega
            | some ad =>
              by_cases hck : c = i
              · subst hck
                go_wp2_with fail
                go_region_held3 (fun _ => True) (trivial) (first
                  | (go_at_call 14; (refine (l1OwnN_g _ c (putN O c (c : Int)) _ (HPre.out _ (by (repeat (first | with_reducible exact Below.refl _ _ | with_reducible assumption | with_reducible refine up_alloc ?_ _ | with_reducible refine up_drew ?_ | with_reducible refine up_drewN ?_ _ | (with_reducible refine up_set ?_ ?hset _; case hset => first | (simp; done) | (simp; omega) | omega) | with_reducible refine up_trans ?_ (by with_reducible assumption))))) (by omega)).mono ?_); rintro e w6 ⟨u, rfl, ho6, hb6⟩; have y0 : w6.cell? ⟨w5.heap.size, 0, none⟩ = some (.int .i64 (c : Int)) := up_keep hb6 (cell_one_new w5 (.int .i64 (c : Int)) _ 0 _ rfl); replace ho6 := ho6.more (show Below w5.heap.size w5 _ from (by (repeat (first | with_reducible exact Below.refl _ _ | with_reducible assumption | with_reducible refine up_alloc ?_ _ | with_reducible refine up_drew ?_ | with_reducible refine up_drewN ?_ _ | (with_reducible refine up_set ?_ ?hset _; case hset => first | (simp; done) | (simp; omega) | omega) | with_reducible refine up_trans ?_ (by with_reducible assumption))))).size)
                  | (go_at_call 14; (refine (l1OwnN_g _ c (putN O c (c : Int)) _ (HPre.out _ (by (repeat (first | with_reducible exact Below.refl _ _ | with_reducible assumption | with_reducible refine up_alloc ?_ _ | with_reducible refine up_drew ?_ | with_reducible refine up_drewN ?_ _ | (with_reducible refine up_set ?_ ?hset _; case hset => first | (simp; done) | (simp; omega) | omega) | with_reducible refine up_trans ?_ (by with_reducible assumption))))) (by omega)).mono ?_); rintro e w6 ⟨u, rfl, ho6, hb6⟩; replace ho6 := ho6.more (show Below w5.heap.size w5 _ from (by (repeat (first | with_reducible exact Below.refl _ _ | with_reducible assumption | with_reducible refine up_alloc ?_ _ | with_reducible refine up_drew ?_ | with_reducible refine up_drewN ?_ _ | (with_reducible refine up_set ?_ ?hset _; case hset => first | (simp; done) | (simp; omega) | omega) | with_reducible refine up_trans ?_ (by with_reducible assumption))))).size)
                  | (refine step_app_int rfl (.tmp 69) (.tmp 71) rfl w5.heap.size _ c (putN O c (c : Int)) rfl rfl HPk.out y0 (OwnN.up ho6 (by (repeat (first | with_reducible exact Below.refl _ _ | with_reducible assumption | with_reducible refine up_alloc ?_ _ | with_reducible refine up_drew ?_ | with_reducible refine up_drewN ?_ _ | (with_reducible refine up_set ?_ ?hset _; case hset => first | (simp; done) | (simp; omega) | omega) | with_reducible refine up_trans ?_ (by with_reducible assumption))))) (show Below w5.heap.size w5 _ from (by (repeat (first | with_reducible exact Below.refl _ _ | with_reducible assumption | with_reducible refine up_alloc ?_ _ | with_reducible refine up_drew ?_ | with_reducible refine up_drewN ?_ _ | (with_reducible refine up_set ?_ ?hset _; case hset => first | (simp; done) | (simp; omega) | omega) | with_reducible refine up_trans ?_ (by with_reducible assumption))))).size (by omega) ?_; intro v7 w7 ho7 hb7 _ _; replace hb7 := (show Below w5.heap.size w5 _ from (by (repeat (first | with_reducible exact Below.refl _ _ | with_reducible assumption | with_reducible refine up_alloc ?_ _ | with_reducible refine up_drew ?_ | with_reducible refine up_drewN ?_ _ | (with_reducible refine up_set ?_ ?hset _; case hset => first | (simp; done) | (simp; omega) | omega) | with_reducible refine up_trans ?_ (by with_reducible assumption))))).trans hb7)
                  | (refine step_app_int rfl (.tmp 69) (.tmp 71) rfl w5.heap.size _ c (putN O c (c : Int)) rfl rfl HPk.out (cell_one_new _ _ _ 0 _ rfl) (OwnN.up ho6 (by (repeat (first | with_reducible exact Below.refl _ _ | with_reducible assumption | with_reducible refine up_alloc ?_ _ | with_reducible refine up_drew ?_ | with_reducible refine up_drewN ?_ _ | (with_reducible refine up_set ?_ ?hset _; case hset => first | (simp; done) | (simp; omega) | omega) | with_reducible refine up_trans ?_ (by with_reducible assumption))))) (show Below w5.heap.size w5 _ from (by (repeat (first | with_reducible exact Below.refl _ _ | with_reducible assumption | with_reducible refine up_alloc ?_ _ | with_reducible refine up_drew ?_ | with_reducible refine up_drewN ?_ _ | (with_reducible refine up_set ?_ ?hset _; case hset => first | (simp; done) | (simp; omega) | omega) | with_reducible refine up_trans ?_ (by with_reducible assumption))))).size (by omega) ?_; intro v7 w7 ho7 hb7 _ _; replace hb7 := (show Below w5.heap.size w5 _ from (by (repeat (first | with_reducible exact Below.refl _ _ | with_reducible assumption | with_reducible refine up_alloc ?_ _ | with_reducible refine up_drew ?_ | with_reducible refine up_drewN ?_ _ | (with_reducible refine up_set ?_ ?hset _; case hset => first | (simp; done) | (simp; omega) | omega) | with_reducible refine up_trans ?_ (by with_reducible assumption))))).trans hb7)
                  | (refine step_add_ints rfl (.tmp 72) (.tmp 75) rfl w5.heap.size _ _ (c + 1) 0 (putN O c (c : Int)) rfl rfl (OwnN.up ho7 (by (repeat (first | with_reducible exact Below.refl _ _ | with_reducible assumption | with_reducible refine up_alloc ?_ _ | with_reducible refine up_drew ?_ | with_reducible refine up_drewN ?_ _ | (with_reducible refine up_set ?_ ?hset _; case hset => first | (simp; done) | (simp; omega) | omega) | with_reducible refine up_trans ?_ (by with_reducible assumption))))) (HSuf.out _ (by (repeat (first | with_reducible exact Below.refl _ _ | with_reducible assumption | with_reducible refine up_alloc ?_ _ | with_reducible refine up_drew ?_ | with_reducible refine up_drewN ?_ _ | (with_reducible refine up_set ?_ ?hset _; case hset => first | (simp; done) | (simp; omega) | omega) | with_reducible refine up_trans ?_ (by with_reducible assumption)))) _ _) (show Below w5.heap.size w5 _ from (by (repeat (first | with_reducible exact Below.refl _ _ | with_reducible assumption | with_reducible refine up_alloc ?_ _ | with_reducible refine up_drew ?_ | with_reducible refine up_drewN ?_ _ | (with_reducible refine up_set ?_ ?hset _; case hset => first | (simp; done) | (simp; omega) | omega) | with_reducible refine up_trans ?_ (by with_reducible assumption))))).size (by omega) (by omega) ?_; intro v8 w8 ho8 hb8; replace hb8 := (show Below w5.heap.size w5 _ from (by (repeat (first | with_reducible exact Below.refl _ _ | with_reducible assumption | with_reducible refine up_alloc ?_ _ | with_reducible refine up_drew ?_ | with_reducible refine up_drewN ?_ _ | (with_reducible refine up_set ?_ ?hset _; case hset => first | (simp; done) | (simp; omega) | omega) | with_reducible refine up_trans ?_ (by with_reducible assumption))))).trans hb8)
                  | fail)
                all_goals
                  go_wp2_with fail
                  obtain ⟨A8, c8, e8, _, _⟩ := ho8.shape
                  subst e8
                  go_roundw
                  case rel =>
                    have hbx : Below w.heap.size w5 w8 := hb8.mono (by omega)
                    have hoo := ho8.more (show w.heap.size ≤ w5.heap.size by omega)
                    rw [show c + 1 + 0 = c + 1 by omega] at hoo
                    rw [HORD.out] at hoo
                    exact ⟨c + 1, by omega, by go_num, by first | exact hoo | (rw [show c + 1 + 0 = c + 1 by omega]; exact hoo), hbw5.trans hbx⟩
                  case measure => simp [intOf]; omega
              · have jn1 : ¬ c = i := hck
                clear hck
                go_wp2_with fail
                go_region_held3 (fun _ => True) (trivial) (first
                  | (go_at_call 14; (refine (l1OwnN_g _ i (putN O i (i : Int)) _ (HPre.out _ (by (repeat (first | with_reducible exact Below.refl _ _ | with_reducible assumption | with_reducible refine up_alloc ?_ _ | with_reducible refine up_drew ?_ | with_reducible refine up_drewN ?_ _ | (with_reducible refine up_set ?_ ?hset _; case hset => first | (simp; done) | (simp; omega) | omega) | with_reducible refine up_trans ?_ (by with_reducible assumption))))) (by omega)).mono ?_); rintro e w6 ⟨u, rfl, ho6, hb6⟩; have y0 : w6.cell? ⟨w5.heap.size, 0, none⟩ = some (.int .i64 (i : Int)) := up_keep hb6 (cell_one_new w5 (.int .i64 (i : Int)) _ 0 _ rfl); replace ho6 := ho6.more (show Below w5.heap.size w5 _ from (by (repeat (first | with_reducible exact Below.refl _ _ | with_reducible assumption | with_reducible refine up_alloc ?_ _ | with_reducible refine up_drew ?_ | with_reducible refine up_drewN ?_ _ | (with_reducible refine up_set ?_ ?hset _; case hset => first | (simp; done) | (simp; omega) | omega) | with_reducible refine up_trans ?_ (by with_reducible assumption))))).size)
                  | (go_at_call 14; (refine (l1OwnN_g _ i (putN O i (i : Int)) _ (HPre.out _ (by (repeat (first | with_reducible exact Below.refl _ _ | with_reducible assumption | with_reducible refine up_alloc ?_ _ | with_reducible refine up_drew ?_ | with_reducible refine up_drewN ?_ _ | (with_reducible refine up_set ?_ ?hset _; case hset => first | (simp; done) | (simp; omega) | omega) | with_reducible refine up_trans ?_ (by with_reducible assumption))))) (by omega)).mono ?_); rintro e w6 ⟨u, rfl, ho6, hb6⟩; replace ho6 := ho6.more (show Below w5.heap.size w5 _ from (by (repeat (first | with_reducible exact Below.refl _ _ | with_reducible assumption | with_reducible refine up_alloc ?_ _ | with_reducible refine up_drew ?_ | with_reducible refine up_drewN ?_ _ | (with_reducible refine up_set ?_ ?hset _; case hset => first | (simp; done) | (simp; omega) | omega) | with_reducible refine up_trans ?_ (by with_reducible assumption))))).size)
                  | (refine step_app_int rfl (.tmp 69) (.tmp 71) rfl w5.heap.size _ i (putN O i (i : Int)) rfl rfl HPk.out y0 (OwnN.up ho6 (by (repeat (first | with_reducible exact Below.refl _ _ | with_reducible assumption | with_reducible refine up_alloc ?_ _ | with_reducible refine up_drew ?_ | with_reducible refine up_drewN ?_ _ | (with_reducible refine up_set ?_ ?hset _; case hset => first | (simp; done) | (simp; omega) | omega) | with_reducible refine up_trans ?_ (by with_reducible assumption))))) (show Below w5.heap.size w5 _ from (by (repeat (first | with_reducible exact Below.refl _ _ | with_reducible assumption | with_reducible refine up_alloc ?_ _ | with_reducible refine up_drew ?_ | with_reducible refine up_drewN ?_ _ | (with_reducible refine up_set ?_ ?hset _; case hset => first | (simp; done) | (simp; omega) | omega) | with_reducible refine up_trans ?_ (by with_reducible assumption))))).size (by omega) ?_; intro v7 w7 ho7 hb7 _ _; replace hb7 := (show Below w5.heap.size w5 _ from (by (repeat (first | with_reducible exact Below.refl _ _ | with_reducible assumption | with_reducible refine up_alloc ?_ _ | with_reducible refine up_drew ?_ | with_reducible refine up_drewN ?_ _ | (with_reducible refine up_set ?_ ?hset _; case hset => first | (simp; done) | (simp; omega) | omega) | with_reducible refine up_trans ?_ (by with_reducible assumption))))).trans hb7)
                  | (refine step_app_int rfl (.tmp 69) (.tmp 71) rfl w5.heap.size _ i (putN O i (i : Int)) rfl rfl HPk.out (cell_one_new _ _ _ 0 _ rfl) (OwnN.up ho6 (by (repeat (first | with_reducible exact Below.refl _ _ | with_reducible assumption | with_reducible refine up_alloc ?_ _ | with_reducible refine up_drew ?_ | with_reducible refine up_drewN ?_ _ | (with_reducible refine up_set ?_ ?hset _; case hset => first | (simp; done) | (simp; omega) | omega) | with_reducible refine up_trans ?_ (by with_reducible assumption))))) (show Below w5.heap.size w5 _ from (by (repeat (first | with_reducible exact Below.refl _ _ | with_reducible assumption | with_reducible refine up_alloc ?_ _ | with_reducible refine up_drew ?_ | with_reducible refine up_drewN ?_ _ | (with_reducible refine up_set ?_ ?hset _; case hset => first | (simp; done) | (simp; omega) | omega) | with_reducible refine up_trans ?_ (by with_reducible assumption))))).size (by omega) ?_; intro v7 w7 ho7 hb7 _ _; replace hb7 := (show Below w5.heap.size w5 _ from (by (repeat (first | with_reducible exact Below.refl _ _ | with_reducible assumption | with_reducible refine up_alloc ?_ _ | with_reducible refine up_drew ?_ | with_reducible refine up_drewN ?_ _ | (with_reducible refine up_set ?_ ?hset _; case hset => first | (simp; done) | (simp; omega) | omega) | with_reducible refine up_trans ?_ (by with_reducible assumption))))).trans hb7)
                  | (refine step_add_ints rfl (.tmp 72) (.tmp 75) rfl w5.heap.size _ _ (i + 1) 0 (putN O i (i : Int)) rfl rfl (OwnN.up ho7 (by (repeat (first | with_reducible exact Below.refl _ _ | with_reducible assumption | with_reducible refine up_alloc ?_ _ | with_reducible refine up_drew ?_ | with_reducible refine up_drewN ?_ _ | (with_reducible refine up_set ?_ ?hset _; case hset => first | (simp; done) | (simp; omega) | omega) | with_reducible refine up_trans ?_ (by with_reducible assumption))))) (HSuf.out _ (by (repeat (first | with_reducible exact Below.refl _ _ | with_reducible assumption | with_reducible refine up_alloc ?_ _ | with_reducible refine up_drew ?_ | with_reducible refine up_drewN ?_ _ | (with_reducible refine up_set ?_ ?hset _; case hset => first | (simp; done) | (simp; omega) | omega) | with_reducible refine up_trans ?_ (by with_reducible assumption)))) _ _) (show Below w5.heap.size w5 _ from (by (repeat (first | with_reducible exact Below.refl _ _ | with_reducible assumption | with_reducible refine up_alloc ?_ _ | with_reducible refine up_drew ?_ | with_reducible refine up_drewN ?_ _ | (with_reducible refine up_set ?_ ?hset _; case hset => first | (simp; done) | (simp; omega) | omega) | with_reducible refine up_trans ?_ (by with_reducible assumption))))).size (by omega) (by omega) ?_; intro v8 w8 ho8 hb8; replace hb8 := (show Below w5.heap.size w5 _ from (by (repeat (first | with_reducible exact Below.refl _ _ | with_reducible assumption | with_reducible refine up_alloc ?_ _ | with_reducible refine up_drew ?_ | with_reducible refine up_drewN ?_ _ | (with_reducible refine up_set ?_ ?hset _; case hset => first | (simp; done) | (simp; omega) | omega) | with_reducible refine up_trans ?_ (by with_reducible assumption))))).trans hb8)
                  | fail)
                all_goals
                  go_wp2_with fail
                  obtain ⟨A8, c8, e8, _, _⟩ := ho8.shape
                  subst e8
                  go_roundw
                  case rel =>
                    have hbx : Below w.heap.size w5 w8 := hb8.mono (by omega)
                    have hoo := ho8.more (show w.heap.size ≤ w5.heap.size by omega)
                    rw [show i + 1 + 0 = i + 1 by omega] at hoo
                    rw [HORD.out] at hoo
                    exact ⟨i + 1, by omega, by go_num, by first | exact hoo | (rw [show i + 1 + 0 = i + 1 by omega]; exact hoo), hbw5.trans hbx⟩
                  case measure => simp [intOf]; omega
    · have e : i = n := by omega
      subst e
      go_wp2_with fail
      go_ret2
      exact ⟨_, rfl, HO.out.ownI, hbw⟩
set_option maxRecDepth 100000 in
theorem sOrder_any (v : Value) (n : Nat) (X Y : Nat → Int) (w : World) (h : Spots w v n X Y) (hn : n ≤ 1048576) :
    Calls Try.prog 5 #[v] w (AnsIB w (ordN n (chartB n X Y)) (ordO X Y n) (chartB n X Y)) := by
  cases hc : chartB n X Y with
  | true => exact sOrder_ok v n X Y w h hc
  | false =>
    have HC := Lib.hid (chGood_g v n X Y w h (by omega))
    rw [hc] at HC
    go_enter Try.func5, Try.ntmps5
    go_wp2_with fail
    refine HC.out.mono ?_
    rintro e w1 ⟨rfl, hb1⟩
    go_wp2_with fail
    go_ret2
    exact AnsIB.nil hb1
end Go.Proofs.Ytbfhfjpfjkdcfaa
