/- Words and contracts, part 11. -/
import Derived.Test.YtbfhfjpfjkdcfaaGreatDoorRows
import Derived.BigQuiet
import Derived.Deep.QuietTactic
import Derived.Deep.CutRange
import Derived.Deep.DeepCutAuto
import Derived.Deep.RegionHeld3
import Derived.Lib.Strings
import Derived.Lib.Slices
import Derived.Lib.Small
import Derived.Lib.Walk
import Derived.Lib.BitFns
import Derived.RegionTactic
import Derived.ChangeAlike
import Derived.Test.YtbfhfjpfjkdcfaaGreatDoorZ10
namespace Go.Proofs.YtbfhfjpfjkdcfaaGreatDoor
open Go.RowKit Go.ChangeShapes Go.WideShapes Go.Sort

set_option maxRecDepth 100000 in
set_option maxHeartbeats 8000000 in
theorem sOrder_ok (v : Value) (n : Nat) (X Y : Nat → Int) (w : World) (h : Spots w v n X Y) (hc : chartB n X Y = true) :
    Calls Tryz.prog 11 #[v] w (AnsIB w n (ordO X Y n) true) := by
  have HC := Lib.hid (chGood_g v n X Y w h (by have := (chartB_iff.1 hc).1.2; omega))
  rw [hc] at HC
  have hn := (chartB_iff.1 hc).1
  obtain ⟨Av, cv, rfl, hncv, hrow⟩ := h
  obtain ⟨b, o, rfl, hr⟩ := hrow (by omega)
  have HR := Lib.hid hr
  clear hr hrow hc
  go_enter Tryz.func11, Tryz.ntmps11
  go_wp2_with fail
  refine HC.out.mono ?_
  rintro e w1 ⟨rfl, hb1⟩
  go_wp2_with fail
  go_loopw [4, 13] (fun q ii wr => ∃ i : Nat, i ≤ n ∧ ii = .int .i64 (i : Int) ∧ OwnN w.heap.size wr q i (ordO X Y i) ∧ Below w.heap.size w wr) (fun _ ii _ => n - (intOf ii).toNat)
  case atStart => exact ⟨0, by omega, rfl, OwnN.nil _ _ _, hb1⟩
  case round =>
    clear hb1
    obtain ⟨i, hi, rfl, how, hbw⟩ := hrel
    obtain ⟨Ad, c, e1, hic, _⟩ := how.shape
    subst e1
    have HO := Lib.hid how
    clear how
    by_cases hlt : i < n
    · have j1 : (i : Int) < (n : Int) := by omega
      have x0 := up_keep hbw (HR.out i hlt).1
      have x1 := up_keep hbw (HR.out i hlt).2
      have HORD := Lib.hid (show putN (ordO X Y i) (posO X Y (ordO X Y i) i i) (i : Int) = ordO X Y (i + 1) from rfl)
      have HBD := Lib.hid (ordO_bd X Y i)
      generalize ordO X Y i = O at *
      go_upto_region 7 with fail
      generalize hWx : World.alloc wr _ = W
      have hbW : Below wr.heap.size wr W := by subst hWx; exact below_alloc _ _
      have g0 : W.cell? ⟨wr.heap.size, 0, none⟩ = some (.int .i64 (X i)) := by subst hWx; simp [go_sem]
      have g1 : W.cell? ⟨wr.heap.size, 1, none⟩ = some (.int .i64 (Y i)) := by subst hWx; simp [go_sem]
      clear hWx x0 x1
      have hbwW := up_trans hbw hbW
      have HOW := Lib.hid (HO.out.up hbW)
      obtain ⟨w4, rfl⟩ : ∃ W : World, W = wr := ⟨_, rfl⟩
      go_wp2_with fail
      go_loopw [7] (fun kk wq => ∃ k : Nat, k ≤ i ∧ kk = .int .i64 (k : Int) ∧ posO X Y O i k = posO X Y O i i ∧ Below W.heap.size W wq) (fun kk _ => (intOf kk).toNat)
      case atStart => exact ⟨i, by omega, rfl, rfl, Below.refl _ _⟩
      case round =>
        obtain ⟨k, hk, rfl, hpos, hbk⟩ := hrel
        obtain ⟨q, hq⟩ : ∃ q, (decide (0 < k) && aft X Y (O (k - 1)).toNat i) = q := ⟨_, rfl⟩
        have HQ := Lib.hid hq
        have HPOS := Lib.hid hpos
        have g0' := cell_regrown (up_keep hbk g0)
        have g1' := cell_regrown (up_keep hbk g1)
        have HOK := Lib.hid (HOW.out.up hbk)
        have hbwk := up_trans hbwW hbk
        go_upto_region 8 with fail
        go_cut [63] (fun s wx => s = .bool q ∧ Below wr.heap.size wr wx)
        case first =>
          by_cases hk0 : k = 0
          · subst hk0
            have q0 : q = false := by rw [← hq]; rfl
            subst q0
            have jz : ¬ ((0 : Nat) : Int) > 0 := by omega
            clear hq hpos
            refine wp_region_up (by kernel_rfl) (by kernel_rfl) ?_
            repeat (go_big_quiet_step (fail))
            refine wpQuiet_nil ?_
            intro w1 hb0
            obtain ⟨hc0, hf0⟩ := bcell hb0
            go_wp2_with fail
            go_meet
            exact ⟨rfl, hb0⟩
          · obtain ⟨K, hK⟩ : ∃ K, k - 1 = K := ⟨_, rfl⟩
            rw [hK, decide_eq_true (show 0 < k by omega), Bool.true_and] at hq
            have hKi : K < i := by omega
            obtain ⟨o1, o2⟩ := HBD.out K hKi
            obtain ⟨V, hV⟩ : ∃ V : Nat, O K = V := ⟨(O K).toNat, by omega⟩
            rw [hV, Int.toNat_natCast] at hq
            have hVn : V < n := by omega
            have w1' : IntKind.i64.wrap ((k : Int) - 1) = (K : Int) := by rw [show (k : Int) - 1 = (K : Int) by omega]; exact IntWalk.i64_in _ (by omega)
            obtain ⟨A9, c9, e9, _, hrow9⟩ := HOK.out.ownI
            injection e9 with e1 _ e2
            subst e1
            subst e2
            obtain ⟨bo, oo, rfl, _, _, hr9⟩ := hrow9 (by omega)
            have y0 := hr9 K hKi
            rw [hV] at y0
            have y0' := cell_regrown y0
            have z0 := cell_regrown (up_keep hbwk (HR.out V hVn).1)
            have z1 := cell_regrown (up_keep hbwk (HR.out V hVn).2)
            have jk : (k : Int) > 0 := by omega
            have jkn : 0 < k := by omega
            have jkb : decide (0 < k) = true := by simpa using jkn
            have jK : (K : Int) < (i : Int) := by omega
            have jK0 : (0 : Int) ≤ (K : Int) := by omega
            have jV : (V : Int) < (n : Int) := by omega
            have jV0 : (0 : Int) ≤ (V : Int) := by omega
            unfold aft at hq
            clear hV hK o1 o2 hr9 hrow9 y0 hpos
            generalize X V = xv at *
            generalize Y V = yv at *
            generalize X i = xi at *
            generalize Y i = yi at *
            by_cases a1 : xi < xv
            · have b1 : decide (xv > xi) = true := by simpa using a1
              have b1' : decide (xi < xv) = true := by simpa using a1
              have q1 : q = true := by rw [← hq]; simp [a1]
              subst q1
              have a1' : xv > xi := a1
              clear hq
              refine wp_region_up (by kernel_rfl) (by kernel_rfl) ?_
              repeat (go_big_quiet_step (fail))
              refine wpQuiet_nil ?_
              intro w1 hb0
              obtain ⟨hc0, hf0⟩ := bcell hb0
              go_wp2_with fail
              go_meet
              exact ⟨rfl, hb0⟩
            · have b1 : decide (xv > xi) = false := by simp; omega
              have b1' : decide (xi < xv) = false := by simp; omega
              have a1' : ¬ xv > xi := by omega
              by_cases a2 : xv = xi
              · have b2 : (xv == xi) = true := by simp [a2]
                by_cases a3 : yi < yv
                · have b3 : decide (yv > yi) = true := by simpa using a3
                  have b3' : decide (yi < yv) = true := by simpa using a3
                  have a3' : yv > yi := a3
                  have q1 : q = true := by rw [← hq]; simp [a2, a3]
                  subst q1
                  clear hq a2
                  refine wp_region_up (by kernel_rfl) (by kernel_rfl) ?_
                  repeat (go_big_quiet_step (fail))
                  refine wpQuiet_nil ?_
                  intro w1 hb0
                  obtain ⟨hc0, hf0⟩ := bcell hb0
                  go_wp2_with fail
                  go_meet
                  exact ⟨rfl, hb0⟩
                · have b3 : decide (yv > yi) = false := by simp; omega
                  have b3' : decide (yi < yv) = false := by simp; omega
                  have a3' : ¬ yv > yi := by omega
                  have q1 : q = false := by rw [← hq]; simp [a2]; omega
                  subst q1
                  clear hq a2
                  refine wp_region_up (by kernel_rfl) (by kernel_rfl) ?_
                  repeat (go_big_quiet_step (fail))
                  refine wpQuiet_nil ?_
                  intro w1 hb0
                  obtain ⟨hc0, hf0⟩ := bcell hb0
                  go_wp2_with fail
                  go_meet
                  exact ⟨rfl, hb0⟩
              · have b2 : (xv == xi) = false := by simp [a2]
                have q1 : q = false := by rw [← hq]; simp [a2]; omega
                subst q1
                clear hq
                refine wp_region_up (by kernel_rfl) (by kernel_rfl) ?_
                repeat (go_big_quiet_step (fail))
                refine wpQuiet_nil ?_
                intro w1 hb0
                obtain ⟨hc0, hf0⟩ := bcell hb0
                go_wp2_with fail
                go_meet
                exact ⟨rfl, hb0⟩
        case rest =>
        obtain ⟨rfl, hb9⟩ := hcut
        obtain ⟨w5, rfl⟩ : ∃ W : World, W = wc := ⟨_, rfl⟩
        clear g0' g1' hq hpos
        cases q with
        | true =>
          have hq := HQ.out
          rw [Bool.and_eq_true, decide_eq_true_iff] at hq
          have HNX := Lib.hid (show posO X Y O i (k - 1) = posO X Y O i i from by
            rw [← HPOS.out]
            obtain ⟨K, rfl⟩ : ∃ K, k = K + 1 := ⟨k - 1, by omega⟩
            rw [Nat.add_sub_cancel] at hq ⊢
            exact (if_pos hq.2).symm)
          have hk1 : 0 < k := hq.1
          clear hq
          go_wp2_with fail
          go_roundw
          case rel => exact ⟨k - 1, by omega, by rw [show ((k - 1 : Nat) : Int) = (k : Int) - 1 by omega], HNX.out, up_trans hbk hb9⟩
          case measure => simp [intOf]; omega
        | false =>
          have hkk : posO X Y O i k = k := by
            have hq := HQ.out
            cases hh : k with
            | zero => rfl
            | succ K =>
              rw [hh] at hq
              simp only [Nat.add_sub_cancel, Nat.succ_pos, decide_true, Bool.true_and] at hq
              exact if_neg (by rw [hq]; simp)
          have hORD : putN O k (i : Int) = ordO X Y (i + 1) := by rw [← HORD.out, ← HPOS.out, hkk]
          have HORD := Lib.hid hORD
          have hbw5 := up_trans hbwk hb9
          have hsz5 := hbw5.size
          obtain ⟨A9, c9, e9, _, hrow9⟩ := (HOK.out.up hb9).ownI.ints
          injection e9 with e1 _ e2
          subst e1
          subst e2
          have HRow := Lib.hid hrow9
          obtain ⟨t, rfl⟩ : ∃ t, t = k := ⟨_, rfl⟩
          clear hkk hORD hrow9 hbk hb9 hbwk hbwW hbW hbw HOK HOW HPOS HQ g0 g1
          have jt : (t : Int) ≤ (i : Int) := by omega
          have jt0 : (0 : Int) ≤ (t : Int) := by omega
          have jtc : (t : Int) ≤ (c : Int) := by omega
          have jkc : (i : Int) ≤ (c : Int) := by omega
          have jk0 : (0 : Int) ≤ (i : Int) := by omega
          have HPk := Lib.hid (show putN O t (i : Int) t = (i : Int) by simp [putN])
          have HPre := Lib.hid (show ∀ W, Below w5.heap.size w5 W → Ints W (.slice Ad t c) t (putN O t (i : Int)) from fun W hW => ⟨_, _, rfl, by omega, fun hk0 => by
            obtain ⟨bo, oo, e, hr⟩ := HRow.out (by omega)
            exact ⟨bo, oo, e, fun j hj => by rw [up_keep hW (hr j (by omega))]; simp [putN, hj]⟩⟩)
          by_cases htl : t < i
          · obtain ⟨bo, oo, rfl, hr⟩ := HRow.out (by omega)
            have HSuf := Lib.hid (show ∀ W, Below w5.heap.size w5 W → Ints W (.slice (some ⟨bo, oo + t, none⟩) (i - t) (c - t)) (i - t) (fun j => putN O t (i : Int) (t + 1 + j)) from fun W hW => ⟨_, _, rfl, by omega, fun _ => ⟨bo, oo + t, rfl, fun j hj => by
              have := up_keep hW (hr (t + j) (by omega))
              rw [show oo + t + j = oo + (t + j) by omega, this]
              simp only [putN, if_neg (show ¬ t + 1 + j < t by omega), if_neg (show ¬ t + 1 + j = t by omega), show t + 1 + j - 1 = t + j by omega]⟩⟩)
            have jn1 : ¬ c = t := by omega
            have jn2 : ¬ i = t := by omega
            clear hr
            go_wp2_with fail
            go_region_held3 (fun _ => True) (trivial) (first
              | (go_at_call 30; (refine (l1OwnN_g _ t (putN O t (i : Int)) _ (HPre.out _ (by (repeat (first | with_reducible exact Below.refl _ _ | with_reducible assumption | with_reducible refine up_alloc ?_ _ | with_reducible refine up_drew ?_ | with_reducible refine up_drewN ?_ _ | (with_reducible refine up_set ?_ ?hset _; case hset => first | (simp; done) | (simp; omega) | omega) | with_reducible refine up_trans ?_ (by with_reducible assumption))))) (by omega)).mono ?_); rintro e w6 ⟨u, rfl, ho6, hb6⟩; have y0 : w6.cell? ⟨w5.heap.size, 0, none⟩ = some (.int .i64 (i : Int)) := up_keep hb6 (cell_one_new w5 (.int .i64 (i : Int)) _ 0 _ rfl); replace ho6 := ho6.more (show Below w5.heap.size w5 _ from (by (repeat (first | with_reducible exact Below.refl _ _ | with_reducible assumption | with_reducible refine up_alloc ?_ _ | with_reducible refine up_drew ?_ | with_reducible refine up_drewN ?_ _ | (with_reducible refine up_set ?_ ?hset _; case hset => first | (simp; done) | (simp; omega) | omega) | with_reducible refine up_trans ?_ (by with_reducible assumption))))).size)
              | (go_at_call 30; (refine (l1OwnN_g _ t (putN O t (i : Int)) _ (HPre.out _ (by (repeat (first | with_reducible exact Below.refl _ _ | with_reducible assumption | with_reducible refine up_alloc ?_ _ | with_reducible refine up_drew ?_ | with_reducible refine up_drewN ?_ _ | (with_reducible refine up_set ?_ ?hset _; case hset => first | (simp; done) | (simp; omega) | omega) | with_reducible refine up_trans ?_ (by with_reducible assumption))))) (by omega)).mono ?_); rintro e w6 ⟨u, rfl, ho6, hb6⟩; replace ho6 := ho6.more (show Below w5.heap.size w5 _ from (by (repeat (first | with_reducible exact Below.refl _ _ | with_reducible assumption | with_reducible refine up_alloc ?_ _ | with_reducible refine up_drew ?_ | with_reducible refine up_drewN ?_ _ | (with_reducible refine up_set ?_ ?hset _; case hset => first | (simp; done) | (simp; omega) | omega) | with_reducible refine up_trans ?_ (by with_reducible assumption))))).size)
              | (refine step_app_int rfl (.tmp 69) (.tmp 71) rfl w5.heap.size _ t (putN O t (i : Int)) rfl rfl HPk.out y0 (OwnN.up ho6 (by (repeat (first | with_reducible exact Below.refl _ _ | with_reducible assumption | with_reducible refine up_alloc ?_ _ | with_reducible refine up_drew ?_ | with_reducible refine up_drewN ?_ _ | (with_reducible refine up_set ?_ ?hset _; case hset => first | (simp; done) | (simp; omega) | omega) | with_reducible refine up_trans ?_ (by with_reducible assumption))))) (show Below w5.heap.size w5 _ from (by (repeat (first | with_reducible exact Below.refl _ _ | with_reducible assumption | with_reducible refine up_alloc ?_ _ | with_reducible refine up_drew ?_ | with_reducible refine up_drewN ?_ _ | (with_reducible refine up_set ?_ ?hset _; case hset => first | (simp; done) | (simp; omega) | omega) | with_reducible refine up_trans ?_ (by with_reducible assumption))))).size (by omega) ?_; intro v7 w7 ho7 hb7 _ _; replace hb7 := (show Below w5.heap.size w5 _ from (by (repeat (first | with_reducible exact Below.refl _ _ | with_reducible assumption | with_reducible refine up_alloc ?_ _ | with_reducible refine up_drew ?_ | with_reducible refine up_drewN ?_ _ | (with_reducible refine up_set ?_ ?hset _; case hset => first | (simp; done) | (simp; omega) | omega) | with_reducible refine up_trans ?_ (by with_reducible assumption))))).trans hb7)
              | (refine step_app_int rfl (.tmp 69) (.tmp 71) rfl w5.heap.size _ t (putN O t (i : Int)) rfl rfl HPk.out (cell_one_new _ _ _ 0 _ rfl) (OwnN.up ho6 (by (repeat (first | with_reducible exact Below.refl _ _ | with_reducible assumption | with_reducible refine up_alloc ?_ _ | with_reducible refine up_drew ?_ | with_reducible refine up_drewN ?_ _ | (with_reducible refine up_set ?_ ?hset _; case hset => first | (simp; done) | (simp; omega) | omega) | with_reducible refine up_trans ?_ (by with_reducible assumption))))) (show Below w5.heap.size w5 _ from (by (repeat (first | with_reducible exact Below.refl _ _ | with_reducible assumption | with_reducible refine up_alloc ?_ _ | with_reducible refine up_drew ?_ | with_reducible refine up_drewN ?_ _ | (with_reducible refine up_set ?_ ?hset _; case hset => first | (simp; done) | (simp; omega) | omega) | with_reducible refine up_trans ?_ (by with_reducible assumption))))).size (by omega) ?_; intro v7 w7 ho7 hb7 _ _; replace hb7 := (show Below w5.heap.size w5 _ from (by (repeat (first | with_reducible exact Below.refl _ _ | with_reducible assumption | with_reducible refine up_alloc ?_ _ | with_reducible refine up_drew ?_ | with_reducible refine up_drewN ?_ _ | (with_reducible refine up_set ?_ ?hset _; case hset => first | (simp; done) | (simp; omega) | omega) | with_reducible refine up_trans ?_ (by with_reducible assumption))))).trans hb7)
              | (refine step_add_ints rfl (.tmp 72) (.tmp 75) rfl w5.heap.size _ _ (t + 1) (i - t) (putN O t (i : Int)) rfl rfl (OwnN.up ho7 (by (repeat (first | with_reducible exact Below.refl _ _ | with_reducible assumption | with_reducible refine up_alloc ?_ _ | with_reducible refine up_drew ?_ | with_reducible refine up_drewN ?_ _ | (with_reducible refine up_set ?_ ?hset _; case hset => first | (simp; done) | (simp; omega) | omega) | with_reducible refine up_trans ?_ (by with_reducible assumption))))) (HSuf.out _ (by (repeat (first | with_reducible exact Below.refl _ _ | with_reducible assumption | with_reducible refine up_alloc ?_ _ | with_reducible refine up_drew ?_ | with_reducible refine up_drewN ?_ _ | (with_reducible refine up_set ?_ ?hset _; case hset => first | (simp; done) | (simp; omega) | omega) | with_reducible refine up_trans ?_ (by with_reducible assumption))))) (show Below w5.heap.size w5 _ from (by (repeat (first | with_reducible exact Below.refl _ _ | with_reducible assumption | with_reducible refine up_alloc ?_ _ | with_reducible refine up_drew ?_ | with_reducible refine up_drewN ?_ _ | (with_reducible refine up_set ?_ ?hset _; case hset => first | (simp; done) | (simp; omega) | omega) | with_reducible refine up_trans ?_ (by with_reducible assumption))))).size (by omega) (by omega) ?_; intro v8 w8 ho8 hb8; replace hb8 := (show Below w5.heap.size w5 _ from (by (repeat (first | with_reducible exact Below.refl _ _ | with_reducible assumption | with_reducible refine up_alloc ?_ _ | with_reducible refine up_drew ?_ | with_reducible refine up_drewN ?_ _ | (with_reducible refine up_set ?_ ?hset _; case hset => first | (simp; done) | (simp; omega) | omega) | with_reducible refine up_trans ?_ (by with_reducible assumption))))).trans hb8)
              | fail)
            all_goals
              go_wp2_with fail
              obtain ⟨A8, c8, e8, _, _⟩ := ho8.shape
              subst e8
              go_roundw
              case rel =>
                have hbx : Below w.heap.size w5 w8 := hb8.mono (by omega)
                have hoo := ho8.more (show w.heap.size ≤ w5.heap.size by omega)
                rw [show t + 1 + (i - t) = i + 1 by omega] at hoo
                rw [HORD.out] at hoo
                exact ⟨i + 1, by omega, by go_num, by first | exact hoo | (rw [show t + 1 + (i - t) = i + 1 by omega]; exact hoo), hbw5.trans hbx⟩
              case measure => simp [intOf]; omega
          · have e : i = t := by omega
            have HSuf := Lib.hid (show ∀ W, Below w5.heap.size w5 W → ∀ A' c', Ints W (.slice A' 0 c') 0 (fun j => putN O t (i : Int) (t + 1 + j)) from fun W hW A' c' => ⟨_, _, rfl, Nat.zero_le _, fun hh => absurd hh (by omega)⟩)
            subst e
            clear htl
            cases Ad with
            | none =>
              go_wp2_with fail
              go_region_held3 (fun _ => True) (trivial) (first
                | (go_at_call 30; (refine (l1OwnN_g _ i (putN O i (i : Int)) _ (HPre.out _ (by (repeat (first | with_reducible exact Below.refl _ _ | with_reducible assumption | with_reducible refine up_alloc ?_ _ | with_reducible refine up_drew ?_ | with_reducible refine up_drewN ?_ _ | (with_reducible refine up_set ?_ ?hset _; case hset => first | (simp; done) | (simp; omega) | omega) | with_reducible refine up_trans ?_ (by with_reducible assumption))))) (by omega)).mono ?_); rintro e w6 ⟨u, rfl, ho6, hb6⟩; have y0 : w6.cell? ⟨w5.heap.size, 0, none⟩ = some (.int .i64 (i : Int)) := up_keep hb6 (cell_one_new w5 (.int .i64 (i : Int)) _ 0 _ rfl); replace ho6 := ho6.more (show Below w5.heap.size w5 _ from (by (repeat (first | with_reducible exact Below.refl _ _ | with_reducible assumption | with_reducible refine up_alloc ?_ _ | with_reducible refine up_drew ?_ | with_reducible refine up_drewN ?_ _ | (with_reducible refine up_set ?_ ?hset _; case hset => first | (simp; done) | (simp; omega) | omega) | with_reducible refine up_trans ?_ (by with_reducible assumption))))).size)
                | (go_at_call 30; (refine (l1OwnN_g _ i (putN O i (i : Int)) _ (HPre.out _ (by (repeat (first | with_reducible exact Below.refl _ _ | with_reducible assumption | with_reducible refine up_alloc ?_ _ | with_reducible refine up_drew ?_ | with_reducible refine up_drewN ?_ _ | (with_reducible refine up_set ?_ ?hset _; case hset => first | (simp; done) | (simp; omega) | omega) | with_reducible refine up_trans ?_ (by with_reducible assumption))))) (by omega)).mono ?_); rintro e w6 ⟨u, rfl, ho6, hb6⟩; replace ho6 := ho6.more (show Below w5.heap.size w5 _ from (by (repeat (first | with_reducible exact Below.refl _ _ | with_reducible assumption | with_reducible refine up_alloc ?_ _ | with_reducible refine up_drew ?_ | with_reducible refine up_drewN ?_ _ | (with_reducible refine up_set ?_ ?hset _; case hset => first | (simp; done) | (simp; omega) | omega) | with_reducible refine up_trans ?_ (by with_reducible assumption))))).size)
                | (refine step_app_int rfl (.tmp 69) (.tmp 71) rfl w5.heap.size _ i (putN O i (i : Int)) rfl rfl HPk.out y0 (OwnN.up ho6 (by (repeat (first | with_reducible exact Below.refl _ _ | with_reducible assumption | with_reducible refine up_alloc ?_ _ | with_reducible refine up_drew ?_ | with_reducible refine up_drewN ?_ _ | (with_reducible refine up_set ?_ ?hset _; case hset => first | (simp; done) | (simp; omega) | omega) | with_reducible refine up_trans ?_ (by with_reducible assumption))))) (show Below w5.heap.size w5 _ from (by (repeat (first | with_reducible exact Below.refl _ _ | with_reducible assumption | with_reducible refine up_alloc ?_ _ | with_reducible refine up_drew ?_ | with_reducible refine up_drewN ?_ _ | (with_reducible refine up_set ?_ ?hset _; case hset => first | (simp; done) | (simp; omega) | omega) | with_reducible refine up_trans ?_ (by with_reducible assumption))))).size (by omega) ?_; intro v7 w7 ho7 hb7 _ _; replace hb7 := (show Below w5.heap.size w5 _ from (by (repeat (first | with_reducible exact Below.refl _ _ | with_reducible assumption | with_reducible refine up_alloc ?_ _ | with_reducible refine up_drew ?_ | with_reducible refine up_drewN ?_ _ | (with_reducible refine up_set ?_ ?hset _; case hset => first | (simp; done) | (simp; omega) | omega) | with_reducible refine up_trans ?_ (by with_reducible assumption))))).trans hb7)
                | (refine step_app_int rfl (.tmp 69) (.tmp 71) rfl w5.heap.size _ i (putN O i (i : Int)) rfl rfl HPk.out (cell_one_new _ _ _ 0 _ rfl) (OwnN.up ho6 (by (repeat (first | with_reducible exact Below.refl _ _ | with_reducible assumption | with_reducible refine up_alloc ?_ _ | with_reducible refine up_drew ?_ | with_reducible refine up_drewN ?_ _ | (with_reducible refine up_set ?_ ?hset _; case hset => first | (simp; done) | (simp; omega) | omega) | with_reducible refine up_trans ?_ (by with_reducible assumption))))) (show Below w5.heap.size w5 _ from (by (repeat (first | with_reducible exact Below.refl _ _ | with_reducible assumption | with_reducible refine up_alloc ?_ _ | with_reducible refine up_drew ?_ | with_reducible refine up_drewN ?_ _ | (with_reducible refine up_set ?_ ?hset _; case hset => first | (simp; done) | (simp; omega) | omega) | with_reducible refine up_trans ?_ (by with_reducible assumption))))).size (by omega) ?_; intro v7 w7 ho7 hb7 _ _; replace hb7 := (show Below w5.heap.size w5 _ from (by (repeat (first | with_reducible exact Below.refl _ _ | with_reducible assumption | with_reducible refine up_alloc ?_ _ | with_reducible refine up_drew ?_ | with_reducible refine up_drewN ?_ _ | (with_reducible refine up_set ?_ ?hset _; case hset => first | (simp; done) | (simp; omega) | omega) | with_reducible refine up_trans ?_ (by with_reducible assumption))))).trans hb7)
                | (refine step_add_ints rfl (.tmp 72) (.tmp 75) rfl w5.heap.size _ _ (i + 1) 0 (putN O i (i : Int)) rfl rfl (OwnN.up ho7 (by (repeat (first | with_reducible exact Below.refl _ _ | with_reducible assumption | with_reducible refine up_alloc ?_ _ | with_reducible refine up_drew ?_ | with_reducible refine up_drewN ?_ _ | (with_reducible refine up_set ?_ ?hset _; case hset => first | (simp; done) | (simp; omega) | omega) | with_reducible refine up_trans ?_ (by with_reducible assumption))))) (HSuf.out _ (by (repeat (first | with_reducible exact Below.refl _ _ | with_reducible assumption | with_reducible refine up_alloc ?_ _ | with_reducible refine up_drew ?_ | with_reducible refine up_drewN ?_ _ | (with_reducible refine up_set ?_ ?hset _; case hset => first | (simp; done) | (simp; omega) | omega) | with_reducible refine up_trans ?_ (by with_reducible assumption)))) _ _) (show Below w5.heap.size w5 _ from (by (repeat (first | with_reducible exact Below.refl _ _ | with_reducible assumption | with_reducible refine up_alloc ?_ _ | with_reducible refine up_drew ?_ | with_reducible refine up_drewN ?_ _ | (with_reducible refine up_set ?_ ?hset _; case hset => first | (simp; done) | (simp; omega) | omega) | with_reducible refine up_trans ?_ (by with_reducible assumption))))).size (by omega) (by omega) ?_; intro v8 w8 ho8 hb8; replace hb8 := (show Below w5.heap.size w5 _ from (by (repeat (first | with_reducible exact Below.refl _ _ | with_reducible assumption | with_reducible refine up_alloc ?_ _ | with_reducible refine up_drew ?_ | with_reducible refine up_drewN ?_ _ | (with_reducible refine up_set ?_ ?hset _; case hset => first | (simp; done) | (simp; omega) | omega) | with_reducible refine up_trans ?_ (by with_reducible assumption))))).trans hb8)
                | fail)
              all_goals
                go_wp2_with fail
                obtain ⟨A8, c8, e8, _, _⟩ := ho8.shape
                subst e8
                go_roundw
                case rel =>
                  have hbx : Below w.heap.size w5 w8 := hb8.mono (by omega)
                  have hoo := ho8.more (show w.heap.size ≤ w5.heap.size by omega)
                  rw [show i + 1 + 0 = i + 1 by omega] at hoo
                  rw [HORD.out] at hoo
                  exact ⟨i + 1, by omega, by go_num, by first | exact hoo | (rw [show i + 1 + 0 = i + 1 by omega]; exact hoo), hbw5.trans hbx⟩
                case measure => simp [intOf]; omega
            | some ad =>
              by_cases hck : c = i
              · subst hck
                go_wp2_with fail
                go_region_held3 (fun _ => True) (trivial) (first
                  | (go_at_call 30; (refine (l1OwnN_g _ c (putN O c (c : Int)) _ (HPre.out _ (by (repeat (first | with_reducible exact Below.refl _ _ | with_reducible assumption | with_reducible refine up_alloc ?_ _ | with_reducible refine up_drew ?_ | with_reducible refine up_drewN ?_ _ | (with_reducible refine up_set ?_ ?hset _; case hset => first | (simp; done) | (simp; omega) | omega) | with_reducible refine up_trans ?_ (by with_reducible assumption))))) (by omega)).mono ?_); rintro e w6 ⟨u, rfl, ho6, hb6⟩; have y0 : w6.cell? ⟨w5.heap.size, 0, none⟩ = some (.int .i64 (c : Int)) := up_keep hb6 (cell_one_new w5 (.int .i64 (c : Int)) _ 0 _ rfl); replace ho6 := ho6.more (show Below w5.heap.size w5 _ from (by (repeat (first | with_reducible exact Below.refl _ _ | with_reducible assumption | with_reducible refine up_alloc ?_ _ | with_reducible refine up_drew ?_ | with_reducible refine up_drewN ?_ _ | (with_reducible refine up_set ?_ ?hset _; case hset => first | (simp; done) | (simp; omega) | omega) | with_reducible refine up_trans ?_ (by with_reducible assumption))))).size)
                  | (go_at_call 30; (refine (l1OwnN_g _ c (putN O c (c : Int)) _ (HPre.out _ (by (repeat (first | with_reducible exact Below.refl _ _ | with_reducible assumption | with_reducible refine up_alloc ?_ _ | with_reducible refine up_drew ?_ | with_reducible refine up_drewN ?_ _ | (with_reducible refine up_set ?_ ?hset _; case hset => first | (simp; done) | (simp; omega) | omega) | with_reducible refine up_trans ?_ (by with_reducible assumption))))) (by omega)).mono ?_); rintro e w6 ⟨u, rfl, ho6, hb6⟩; replace ho6 := ho6.more (show Below w5.heap.size w5 _ from (by (repeat (first | with_reducible exact Below.refl _ _ | with_reducible assumption | with_reducible refine up_alloc ?_ _ | with_reducible refine up_drew ?_ | with_reducible refine up_drewN ?_ _ | (with_reducible refine up_set ?_ ?hset _; case hset => first | (simp; done) | (simp; omega) | omega) | with_reducible refine up_trans ?_ (by with_reducible assumption))))).size)
                  | (refine step_app_int rfl (.tmp 69) (.tmp 71) rfl w5.heap.size _ c (putN O c (c : Int)) rfl rfl HPk.out y0 (OwnN.up ho6 (by (repeat (first | with_reducible exact Below.refl _ _ | with_reducible assumption | with_reducible refine up_alloc ?_ _ | with_reducible refine up_drew ?_ | with_reducible refine up_drewN ?_ _ | (with_reducible refine up_set ?_ ?hset _; case hset => first | (simp; done) | (simp; omega) | omega) | with_reducible refine up_trans ?_ (by with_reducible assumption))))) (show Below w5.heap.size w5 _ from (by (repeat (first | with_reducible exact Below.refl _ _ | with_reducible assumption | with_reducible refine up_alloc ?_ _ | with_reducible refine up_drew ?_ | with_reducible refine up_drewN ?_ _ | (with_reducible refine up_set ?_ ?hset _; case hset => first | (simp; done) | (simp; omega) | omega) | with_reducible refine up_trans ?_ (by with_reducible assumption))))).size (by omega) ?_; intro v7 w7 ho7 hb7 _ _; replace hb7 := (show Below w5.heap.size w5 _ from (by (repeat (first | with_reducible exact Below.refl _ _ | with_reducible assumption | with_reducible refine up_alloc ?_ _ | with_reducible refine up_drew ?_ | with_reducible refine up_drewN ?_ _ | (with_reducible refine up_set ?_ ?hset _; case hset => first | (simp; done) | (simp; omega) | omega) | with_reducible refine up_trans ?_ (by with_reducible assumption))))).trans hb7)
                  | (refine step_app_int rfl (.tmp 69) (.tmp 71) rfl w5.heap.size _ c (putN O c (c : Int)) rfl rfl HPk.out (cell_one_new _ _ _ 0 _ rfl) (OwnN.up ho6 (by (repeat (first | with_reducible exact Below.refl _ _ | with_reducible assumption | with_reducible refine up_alloc ?_ _ | with_reducible refine up_drew ?_ | with_reducible refine up_drewN ?_ _ | (with_reducible refine up_set ?_ ?hset _; case hset => first | (simp; done) | (simp; omega) | omega) | with_reducible refine up_trans ?_ (by with_reducible assumption))))) (show Below w5.heap.size w5 _ from (by (repeat (first | with_reducible exact Below.refl _ _ | with_reducible assumption | with_reducible refine up_alloc ?_ _ | with_reducible refine up_drew ?_ | with_reducible refine up_drewN ?_ _ | (with_reducible refine up_set ?_ ?hset _; case hset => first | (simp; done) | (simp; omega) | omega) | with_reducible refine up_trans ?_ (by with_reducible assumption))))).size (by omega) ?_; intro v7 w7 ho7 hb7 _ _; replace hb7 := (show Below w5.heap.size w5 _ from (by (repeat (first | with_reducible exact Below.refl _ _ | with_reducible assumption | with_reducible refine up_alloc ?_ _ | with_reducible refine up_drew ?_ | with_reducible refine up_drewN ?_ _ | (with_reducible refine up_set ?_ ?hset _; case hset => first | (simp; done) | (simp; omega) | omega) | with_reducible refine up_trans ?_ (by with_reducible assumption))))).trans hb7)
                  | (refine step_add_ints rfl (.tmp 72) (.tmp 75) rfl w5.heap.size _ _ (c + 1) 0 (putN O c (c : Int)) rfl rfl (OwnN.up ho7 (by (repeat (first | with_reducible exact Below.refl _ _ | with_reducible assumption | with_reducible refine up_alloc ?_ _ | with_reducible refine up_drew ?_ | with_reducible refine up_drewN ?_ _ | (with_reducible refine up_set ?_ ?hset _; case hset => first | (simp; done) | (simp; omega) | omega) | with_reducible refine up_trans ?_ (by with_reducible assumption))))) (HSuf.out _ (by (repeat (first | with_reducible exact Below.refl _ _ | with_reducible assumption | with_reducible refine up_alloc ?_ _ | with_reducible refine up_drew ?_ | with_reducible refine up_drewN ?_ _ | (with_reducible refine up_set ?_ ?hset _; case hset => first | (simp; done) | (simp; omega) | omega) | with_reducible refine up_trans ?_ (by with_reducible assumption)))) _ _) (show Below w5.heap.size w5 _ from (by (repeat (first | with_reducible exact Below.refl _ _ | with_reducible assumption | with_reducible refine up_alloc ?_ _ | with_reducible refine up_drew ?_ | with_reducible refine up_drewN ?_ _ | (with_reducible refine up_set ?_ ?hset _; case hset => first | (simp; done) | (simp; omega) | omega) | with_reducible refine up_trans ?_ (by with_reducible assumption))))).size (by omega) (by omega) ?_; intro v8 w8 ho8 hb8; replace hb8 := (show Below w5.heap.size w5 _ from (by (repeat (first | with_reducible exact Below.refl _ _ | with_reducible assumption | with_reducible refine up_alloc ?_ _ | with_reducible refine up_drew ?_ | with_reducible refine up_drewN ?_ _ | (with_reducible refine up_set ?_ ?hset _; case hset => first | (simp; done) | (simp; omega) | omega) | with_reducible refine up_trans ?_ (by with_reducible assumption))))).trans hb8)
                  | fail)
                all_goals
                  go_wp2_with fail
                  obtain ⟨A8, c8, e8, _, _⟩ := ho8.shape
                  subst e8
                  go_roundw
                  case rel =>
                    have hbx : Below w.heap.size w5 w8 := hb8.mono (by omega)
                    have hoo := ho8.more (show w.heap.size ≤ w5.heap.size by omega)
                    rw [show c + 1 + 0 = c + 1 by omega] at hoo
                    rw [HORD.out] at hoo
                    exact ⟨c + 1, by omega, by go_num, by first | exact hoo | (rw [show c + 1 + 0 = c + 1 by omega]; exact hoo), hbw5.trans hbx⟩
                  case measure => simp [intOf]; omega
              · have jn1 : ¬ c = i := hck
                clear hck
                go_wp2_with fail
                go_region_held3 (fun _ => True) (trivial) (first
                  | (go_at_call 30; (refine (l1OwnN_g _ i (putN O i (i : Int)) _ (HPre.out _ (by (repeat (first | with_reducible exact Below.refl _ _ | with_reducible assumption | with_reducible refine up_alloc ?_ _ | with_reducible refine up_drew ?_ | with_reducible refine up_drewN ?_ _ | (with_reducible refine up_set ?_ ?hset _; case hset => first | (simp; done) | (simp; omega) | omega) | with_reducible refine up_trans ?_ (by with_reducible assumption))))) (by omega)).mono ?_); rintro e w6 ⟨u, rfl, ho6, hb6⟩; have y0 : w6.cell? ⟨w5.heap.size, 0, none⟩ = some (.int .i64 (i : Int)) := up_keep hb6 (cell_one_new w5 (.int .i64 (i : Int)) _ 0 _ rfl); replace ho6 := ho6.more (show Below w5.heap.size w5 _ from (by (repeat (first | with_reducible exact Below.refl _ _ | with_reducible assumption | with_reducible refine up_alloc ?_ _ | with_reducible refine up_drew ?_ | with_reducible refine up_drewN ?_ _ | (with_reducible refine up_set ?_ ?hset _; case hset => first | (simp; done) | (simp; omega) | omega) | with_reducible refine up_trans ?_ (by with_reducible assumption))))).size)
                  | (go_at_call 30; (refine (l1OwnN_g _ i (putN O i (i : Int)) _ (HPre.out _ (by (repeat (first | with_reducible exact Below.refl _ _ | with_reducible assumption | with_reducible refine up_alloc ?_ _ | with_reducible refine up_drew ?_ | with_reducible refine up_drewN ?_ _ | (with_reducible refine up_set ?_ ?hset _; case hset => first | (simp; done) | (simp; omega) | omega) | with_reducible refine up_trans ?_ (by with_reducible assumption))))) (by omega)).mono ?_); rintro e w6 ⟨u, rfl, ho6, hb6⟩; replace ho6 := ho6.more (show Below w5.heap.size w5 _ from (by (repeat (first | with_reducible exact Below.refl _ _ | with_reducible assumption | with_reducible refine up_alloc ?_ _ | with_reducible refine up_drew ?_ | with_reducible refine up_drewN ?_ _ | (with_reducible refine up_set ?_ ?hset _; case hset => first | (simp; done) | (simp; omega) | omega) | with_reducible refine up_trans ?_ (by with_reducible assumption))))).size)
                  | (refine step_app_int rfl (.tmp 69) (.tmp 71) rfl w5.heap.size _ i (putN O i (i : Int)) rfl rfl HPk.out y0 (OwnN.up ho6 (by (repeat (first | with_reducible exact Below.refl _ _ | with_reducible assumption | with_reducible refine up_alloc ?_ _ | with_reducible refine up_drew ?_ | with_reducible refine up_drewN ?_ _ | (with_reducible refine up_set ?_ ?hset _; case hset => first | (simp; done) | (simp; omega) | omega) | with_reducible refine up_trans ?_ (by with_reducible assumption))))) (show Below w5.heap.size w5 _ from (by (repeat (first | with_reducible exact Below.refl _ _ | with_reducible assumption | with_reducible refine up_alloc ?_ _ | with_reducible refine up_drew ?_ | with_reducible refine up_drewN ?_ _ | (with_reducible refine up_set ?_ ?hset _; case hset => first | (simp; done) | (simp; omega) | omega) | with_reducible refine up_trans ?_ (by with_reducible assumption))))).size (by omega) ?_; intro v7 w7 ho7 hb7 _ _; replace hb7 := (show Below w5.heap.size w5 _ from (by (repeat (first | with_reducible exact Below.refl _ _ | with_reducible assumption | with_reducible refine up_alloc ?_ _ | with_reducible refine up_drew ?_ | with_reducible refine up_drewN ?_ _ | (with_reducible refine up_set ?_ ?hset _; case hset => first | (simp; done) | (simp; omega) | omega) | with_reducible refine up_trans ?_ (by with_reducible assumption))))).trans hb7)
                  | (refine step_app_int rfl (.tmp 69) (.tmp 71) rfl w5.heap.size _ i (putN O i (i : Int)) rfl rfl HPk.out (cell_one_new _ _ _ 0 _ rfl) (OwnN.up ho6 (by (repeat (first | with_reducible exact Below.refl _ _ | with_reducible assumption | with_reducible refine up_alloc ?_ _ | with_reducible refine up_drew ?_ | with_reducible refine up_drewN ?_ _ | (with_reducible refine up_set ?_ ?hset _; case hset => first | (simp; done) | (simp; omega) | omega) | with_reducible refine up_trans ?_ (by with_reducible assumption))))) (show Below w5.heap.size w5 _ from (by (repeat (first | with_reducible exact Below.refl _ _ | with_reducible assumption | with_reducible refine up_alloc ?_ _ | with_reducible refine up_drew ?_ | with_reducible refine up_drewN ?_ _ | (with_reducible refine up_set ?_ ?hset _; case hset => first | (simp; done) | (simp; omega) | omega) | with_reducible refine up_trans ?_ (by with_reducible assumption))))).size (by omega) ?_; intro v7 w7 ho7 hb7 _ _; replace hb7 := (show Below w5.heap.size w5 _ from (by (repeat (first | with_reducible exact Below.refl _ _ | with_reducible assumption | with_reducible refine up_alloc ?_ _ | with_reducible refine up_drew ?_ | with_reducible refine up_drewN ?_ _ | (with_reducible refine up_set ?_ ?hset _; case hset => first | (simp; done) | (simp; omega) | omega) | with_reducible refine up_trans ?_ (by with_reducible assumption))))).trans hb7)
                  | (refine step_add_ints rfl (.tmp 72) (.tmp 75) rfl w5.heap.size _ _ (i + 1) 0 (putN O i (i : Int)) rfl rfl (OwnN.up ho7 (by (repeat (first | with_reducible exact Below.refl _ _ | with_reducible assumption | with_reducible refine up_alloc ?_ _ | with_reducible refine up_drew ?_ | with_reducible refine up_drewN ?_ _ | (with_reducible refine up_set ?_ ?hset _; case hset => first | (simp; done) | (simp; omega) | omega) | with_reducible refine up_trans ?_ (by with_reducible assumption))))) (HSuf.out _ (by (repeat (first | with_reducible exact Below.refl _ _ | with_reducible assumption | with_reducible refine up_alloc ?_ _ | with_reducible refine up_drew ?_ | with_reducible refine up_drewN ?_ _ | (with_reducible refine up_set ?_ ?hset _; case hset => first | (simp; done) | (simp; omega) | omega) | with_reducible refine up_trans ?_ (by with_reducible assumption)))) _ _) (show Below w5.heap.size w5 _ from (by (repeat (first | with_reducible exact Below.refl _ _ | with_reducible assumption | with_reducible refine up_alloc ?_ _ | with_reducible refine up_drew ?_ | with_reducible refine up_drewN ?_ _ | (with_reducible refine up_set ?_ ?hset _; case hset => first | (simp; done) | (simp; omega) | omega) | with_reducible refine up_trans ?_ (by with_reducible assumption))))).size (by omega) (by omega) ?_; intro v8 w8 ho8 hb8; replace hb8 := (show Below w5.heap.size w5 _ from (by (repeat (first | with_reducible exact Below.refl _ _ | with_reducible assumption | with_reducible refine up_alloc ?_ _ | with_reducible refine up_drew ?_ | with_reducible refine up_drewN ?_ _ | (with_reducible refine up_set ?_ ?hset _; case hset => first | (simp; done) | (simp; omega) | omega) | with_reducible refine up_trans ?_ (by with_reducible assumption))))).trans hb8)
                  | fail)
                all_goals
                  go_wp2_with fail
                  obtain ⟨A8, c8, e8, _, _⟩ := ho8.shape
                  subst e8
                  go_roundw
                  case rel =>
                    have hbx : Below w.heap.size w5 w8 := hb8.mono (by omega)
                    have hoo := ho8.more (show w.heap.size ≤ w5.heap.size by omega)
                    rw [show i + 1 + 0 = i + 1 by omega] at hoo
                    rw [HORD.out] at hoo
                    exact ⟨i + 1, by omega, by go_num, by first | exact hoo | (rw [show i + 1 + 0 = i + 1 by omega]; exact hoo), hbw5.trans hbx⟩
                  case measure => simp [intOf]; omega
    · have e : i = n := by omega
      subst e
      go_wp2_with fail
      go_ret2
      exact ⟨_, rfl, HO.out.ownI, hbw⟩
set_option maxRecDepth 100000 in
theorem sOrder_any (v : Value) (n : Nat) (X Y : Nat → Int) (w : World) (h : Spots w v n X Y) (hn : n ≤ 1048576) :
    Calls Tryz.prog 11 #[v] w (AnsIB w (ordN n (chartB n X Y)) (ordO X Y n) (chartB n X Y)) := by
  cases hc : chartB n X Y with
  | true => exact sOrder_ok v n X Y w h hc
  | false =>
    have HC := Lib.hid (chGood_g v n X Y w h (by omega))
    rw [hc] at HC
    go_enter Tryz.func11, Tryz.ntmps11
    go_wp2_with fail
    refine HC.out.mono ?_
    rintro e w1 ⟨rfl, hb1⟩
    go_wp2_with fail
    go_ret2
    exact AnsIB.nil hb1
end Go.Proofs.YtbfhfjpfjkdcfaaGreatDoor
namespace Go.Proofs.YtbfhfjpfjkdcfaaGreatDoor
open Go.RowKit Go.ChangeShapes Go.WideShapes Go.Sort

set_option maxHeartbeats 4000000 in
set_option maxRecDepth 100000 in
theorem len64_any (x : Int) (w : World) (h0 : 0 ≤ x) (h1 : x ≤ 12) : Calls Tryz.prog 75 #[.int .u64 x] w fun e w' => (∃ z : Int, e = .returned (.int .i64 z)) ∧ w = w' := by
  go_enter Tryz.func75, Tryz.ntmps75
  go_wp2
  all_goals (go_ret; exact ⟨⟨_, rfl⟩, rfl⟩)
set_option maxHeartbeats 1000000 in
theorem len_any (x : Int) (w : World) (h0 : 0 ≤ x) (h1 : x ≤ 12) : Calls Tryz.prog 52 #[.int .u64 x] w fun e w' => (∃ z : Int, e = .returned (.int .i64 z)) ∧ w = w' := by
  go_enter Tryz.func52, Tryz.ntmps52
  go_wp2_with (go_at_call 75; refine (len64_any x _ h0 h1).mono ?_; rintro e w1 ⟨⟨z, rfl⟩, rfl⟩)
  go_ret
  exact ⟨⟨_, rfl⟩, rfl⟩
/-- How two performers compare. -/
def cmpV (X Y : Nat → Int) (i k : Nat) : Int := if X i = X k then Y i - Y k else X i - X k
theorem cmp_aft (X Y : Nat → Int) (i k : Nat) : (cmpV X Y i k < 0) ↔ aft X Y k i = true := by
  unfold cmpV aft
  rw [Bool.or_eq_true, Bool.and_eq_true, decide_eq_true_iff, decide_eq_true_iff, decide_eq_true_iff]
  split <;> omega
set_option maxRecDepth 100000 in
set_option maxHeartbeats 2000000 in
theorem cmp_any (bl b o n c : Nat) (X Y : Nat → Int) (i k : Nat) (w : World) (hl : w.cell? ⟨bl, 0, none⟩ = some (.slice (some ⟨b, o, none⟩) n c)) (hr : Row2 w b o n X Y) (hi : i < n) (hk : k < n)
    (hb : ∀ j, j < n → (0 ≤ X j ∧ X j ≤ 1280) ∧ 0 ≤ Y j ∧ Y j ≤ 672) :
    Calls Tryz.prog 29 #[.int .i64 (i : Int), .int .i64 (k : Int), .pointer (some ⟨bl, 0, none⟩)] w (Ans w (.int .i64 (cmpV X Y i k))) := by
  have l0 := cell_regrown hl
  have x0 := cell_regrown (hr i hi).1
  have x1 := cell_regrown (hr i hi).2
  have y0 := cell_regrown (hr k hk).1
  have y1 := cell_regrown (hr k hk).2
  have ji : (i : Int) < (n : Int) := by omega
  have jk : (k : Int) < (n : Int) := by omega
  obtain ⟨⟨a1, a2⟩, a3, a4⟩ := hb i hi
  obtain ⟨⟨b1, b2⟩, b3, b4⟩ := hb k hk
  have H := Lib.hid (show cmpV X Y i k = if X i = X k then Y i - Y k else X i - X k from rfl)
  have HL := Lib.hid hl
  have HX := Lib.hid (hr i hi)
  have HY := Lib.hid (hr k hk)
  clear hb hr hl
  generalize X i = xi at *
  generalize Y i = yi at *
  generalize X k = xk at *
  generalize Y k = yk at *
  have z1 : IntKind.i64.wrap (xi - xk) = xi - xk := IntWalk.i64_in _ (by omega)
  have z2 : IntKind.i64.wrap (yi - yk) = yi - yk := IntWalk.i64_in _ (by omega)
  by_cases he : xi = xk
  · have hne : (xi != xk) = false := by simp [he]
    rw [if_pos he] at H
    clear he
    go_enter Tryz.func29, Tryz.ntmps29
    go_upto_region 1 with fail
    refine wp_region_up (by kernel_rfl) (by kernel_rfl) ?_
    repeat (go_big_quiet_step (fail))
    refine wpQuiet_nil ?_
    intro w1 hb0
    obtain ⟨hc0, hf0⟩ := bcell hb0
    obtain ⟨w5, rfl⟩ : ∃ W : World, W = w1 := ⟨_, rfl⟩
    clear l0 x0 x1 y0 y1 hc0 hf0
    have l0 := cell_regrown (up_keep hb0 HL.out)
    have x1 := cell_regrown (up_keep hb0 HX.out.2)
    have y1 := cell_regrown (up_keep hb0 HY.out.2)
    have hb5 := hb0
    clear hb0
    go_upto_region 3 with fail
    refine wp_region_up (by kernel_rfl) (by kernel_rfl) ?_
    repeat (go_big_quiet_step (fail))
    refine wpQuiet_nil ?_
    intro w1 hb0
    obtain ⟨hc0, hf0⟩ := bcell hb0
    go_wp2_with fail
    go_ret
    exact ⟨by rw [H.out]; rfl, up_trans hb5 hb0⟩
  · have hne : (xi != xk) = true := by simp [he]
    rw [if_neg he] at H
    clear he
    go_enter Tryz.func29, Tryz.ntmps29
    go_upto_region 1 with fail
    refine wp_region_up (by kernel_rfl) (by kernel_rfl) ?_
    repeat (go_big_quiet_step (fail))
    refine wpQuiet_nil ?_
    intro w1 hb0
    obtain ⟨hc0, hf0⟩ := bcell hb0
    obtain ⟨w5, rfl⟩ : ∃ W : World, W = w1 := ⟨_, rfl⟩
    clear l0 x0 x1 y0 y1 hc0 hf0
    have l0 := cell_regrown (up_keep hb0 HL.out)
    have x0 := cell_regrown (up_keep hb0 HX.out.1)
    have y0 := cell_regrown (up_keep hb0 HY.out.1)
    have hb5 := hb0
    clear hb0
    go_upto_region 2 with fail
    refine wp_region_up (by kernel_rfl) (by kernel_rfl) ?_
    repeat (go_big_quiet_step (fail))
    refine wpQuiet_nil ?_
    intro w1 hb0
    obtain ⟨hc0, hf0⟩ := bcell hb0
    go_wp2_with fail
    go_ret
    exact ⟨by rw [H.out]; rfl, up_trans hb5 hb0⟩
end Go.Proofs.YtbfhfjpfjkdcfaaGreatDoor
namespace Go.Proofs.YtbfhfjpfjkdcfaaGreatDoor
open Go.RowKit Go.ChangeShapes Go.WideShapes Go.Sort

/-- While i is put: what stands at q. -/
def insT (O : Nat → Int) (i t q : Nat) : Int := if q < t then O q else if q = t then (i : Int) else if q ≤ i then O (q - 1) else (q : Int)
def sortS (X Y : Nat → Int) (i q : Nat) : Int := if q < i then ordO X Y i q else (q : Int)
theorem insT_start (X Y : Nat → Int) (i q : Nat) : sortS X Y i q = insT (ordO X Y i) i i q := by
  unfold sortS insT
  split
  · rfl
  · split
    · rename_i h1 h2; rw [h2]
    · rw [if_neg (by omega)]
theorem insT_end {X Y : Nat → Int} {i t : Nat} (ht : t ≤ i) (hp : posO X Y (ordO X Y i) i i = t) (q : Nat) : insT (ordO X Y i) i t q = sortS X Y (i + 1) q := by
  unfold sortS insT
  by_cases hq : q < i + 1
  · rw [if_pos hq]
    show _ = putN (ordO X Y i) (posO X Y (ordO X Y i) i i) (i : Int) q
    rw [hp]
    unfold putN
    repeat' split
    all_goals first | rfl | omega
  · rw [if_neg hq, if_neg (by omega), if_neg (by omega), if_neg (by omega)]
theorem insT_step {O : Nat → Int} {i t : Nat} (ht : t + 1 ≤ i) (q : Nat) : (if q = t then (i : Int) else if q = t + 1 then O t else insT O i (t + 1) q) = insT O i t q := by
  unfold insT
  by_cases h1 : q = t
  · rw [if_pos h1, if_neg (by omega), if_pos h1]
  · rw [if_neg h1]
    by_cases h2 : q = t + 1
    · rw [if_pos h2, if_neg (by omega), if_neg (by omega), if_pos (by omega)]
      subst h2; rfl
    · rw [if_neg h2]
      by_cases h3 : q < t
      · rw [if_pos (by omega), if_pos h3]
      · rw [if_neg (by omega), if_neg h2, if_neg h3, if_neg h1]
theorem cellS_drew (w : World) (p : Addr) : w.drew.cell? p = w.cell? p := rfl
theorem frozenS_drew (w : World) (p : Addr) : w.drew.frozen? p = w.frozen? p := rfl
theorem rowS_drew {w : World} {b o n : Nat} {X : Nat → Int} (h : Row1 w b o n X) : Row1 w.drew b o n X := h
theorem freeS_drew {w : World} {b : Nat} (h : Free w b) : Free w.drew b := h
theorem turnS_drew {lo hi : Nat} {w w' : World} (h : Turned lo hi w w') : Turned lo hi w w'.drew := ⟨h.os, h.tape, h.output, h.size, h.block⟩
/-- The numbers in order in their own block d; nothing else has turned. -/
def AnsSort (w : World) (d od n : Nat) (X Y : Nat → Int) (e : Ending) (w' : World) : Prop := e = .returned (.tuple #[]) ∧ Row1 w' d od n (ordO X Y n) ∧ Free w' d ∧ Turned d (d + 1) w w'
set_option maxRecDepth 100000 in
set_option maxHeartbeats 8000000 in
theorem ins_any (bl b o n c d od cd : Nat) (X Y : Nat → Int) (w : World) (hl : w.cell? ⟨bl, 0, none⟩ = some (.slice (some ⟨b, o, none⟩) n c)) (hr : Row2 w b o n X Y) (hbd : bl ≠ d) (hbd2 : b ≠ d)
    (hb : ∀ j, j < n → (0 ≤ X j ∧ X j ≤ 1280) ∧ 0 ≤ Y j ∧ Y j ≤ 672) (hn1 : 1 ≤ n) (hn : n ≤ 12) (hd : Row1 w d od n (fun q => (q : Int))) (hf : Free w d) :
    Calls Tryz.prog 66 #[.slice (some ⟨d, od, none⟩) n cd, .int .i64 0, .int .i64 (n : Int), (.func (.func 29) #[] #[.pointer (some ⟨bl, 0, none⟩)])] w (AnsSort w d od n X Y) := by
  have HL := Lib.hid hl
  have HR := Lib.hid hr
  have HB := Lib.hid hb
  have hdw := hd.lt (by omega)
  have h0 : Row1 w d od n (sortS X Y 1) := hd.cong (fun q _ => by
    unfold sortS
    by_cases hq : q < 1
    · rw [if_pos hq]
      have : q = 0 := by omega
      subst this
      rfl
    · rw [if_neg hq])
  clear hl hr hb hd
  go_enter Tryz.func66, Tryz.ntmps66
  go_wp2_with fail
  go_loopw [8] (fun ii wr => ∃ i : Nat, 1 ≤ i ∧ i ≤ n ∧ ii = .int .i64 (i : Int) ∧ Row1 wr d od n (sortS X Y i) ∧ Free wr d ∧ Turned d (d + 1) w wr) (fun ii _ => n - (intOf ii).toNat)
  case atStart => exact ⟨1, by omega, by omega, rfl, h0, hf, Turned.refl _ _ _⟩
  case round =>
    clear h0 hf
    obtain ⟨i, hi1, hi, rfl, hrow, hfr, ht⟩ := hrel
    by_cases hlt : i < n
    · have j1 : (i : Int) < (n : Int) := by omega
      have HBD := Lib.hid (ordO_bd X Y i)
      have HST := Lib.hid (fun q => insT_start X Y i q)
      have HEN := Lib.hid (fun (t : Nat) (ht : t ≤ i) (hp : posO X Y (ordO X Y i) i i = t) (q : Nat) => insT_end ht hp q)
      have hrow2 : Row1 wr d od n (insT (ordO X Y i) i i) := hrow.cong (fun q _ => HST.out q)
      clear hrow
      generalize ordO X Y i = O at *
      obtain ⟨w4, rfl⟩ : ∃ W : World, W = wr := ⟨_, rfl⟩
      go_wp2_with fail
      go_loopw [9] (fun jj wq => ∃ t : Nat, t ≤ i ∧ jj = .int .i64 (t : Int) ∧ posO X Y O i t = posO X Y O i i ∧ Row1 wq d od n (insT O i t) ∧ Free wq d ∧ Turned d (d + 1) w wq) (fun jj _ => (intOf jj).toNat)
      case atStart => exact ⟨i, by omega, rfl, rfl, hrow2, hfr, ht⟩
      case round =>
        clear hrow2 hfr ht
        obtain ⟨t, htk, rfl, hpos, hrow, hfr, ht⟩ := hrel
        obtain ⟨q, hq⟩ : ∃ q, (decide (0 < t) && aft X Y (O (t - 1)).toNat i) = q := ⟨_, rfl⟩
        have HQ := Lib.hid hq
        have HPOS := Lib.hid hpos
        have HROW := Lib.hid hrow
        have HFR := Lib.hid hfr
        have hsz := ht.size
        go_upto_region 4 with fail
        go_cut [34] (fun s wx => s = .bool q ∧ Below wr.heap.size wr wx)
        case first =>
          by_cases hk0 : t = 0
          · subst hk0
            have q0 : q = false := by rw [← hq]; rfl
            subst q0
            clear hq hpos
            refine wp_region_up (by kernel_rfl) (by kernel_rfl) ?_
            repeat (go_big_quiet_step (fail))
            refine wpQuiet_nil ?_
            intro w1 hb0
            obtain ⟨hc0, hf0⟩ := bcell hb0
            go_wp2_with fail
            go_meet
            exact ⟨rfl, hb0⟩
          · obtain ⟨K, hK⟩ : ∃ K, t - 1 = K := ⟨_, rfl⟩
            rw [hK, decide_eq_true (show 0 < t by omega), Bool.true_and] at hq
            have hKi : K < i := by omega
            obtain ⟨o1, o2⟩ := HBD.out K hKi
            obtain ⟨V, hV⟩ : ∃ V : Nat, O K = V := ⟨(O K).toNat, by omega⟩
            rw [hV, Int.toNat_natCast] at hq
            have hVn : V < n := by omega
            have y0 := hrow t (by omega)
            have y1 := hrow K (by omega)
            rw [show insT O i t t = (i : Int) by simp [insT]] at y0
            rw [show insT O i t K = (V : Int) by rw [← hV]; unfold insT; rw [if_pos (by omega)]] at y1
            have y0' := cell_regrown y0
            have y1' := cell_regrown y1
            have HC := Lib.hid (fun W (hW : Below wr.heap.size wr W) => cmp_any bl b o n c X Y i V W (up_keep hW (ht.cell HL.out (by omega))) (fun j hj => ⟨up_keep hW (ht.cell (HR.out j hj).1 (by omega)), up_keep hW (ht.cell (HR.out j hj).2 (by omega))⟩) hlt hVn HB.out)
            have hca := cmp_aft X Y i V
            rw [hq] at hca
            obtain ⟨cv, hcv⟩ : ∃ z, cmpV X Y i V = z := ⟨_, rfl⟩
            rw [hcv] at HC hca
            have w1' : IntKind.i64.wrap ((t : Int) - 1) = (K : Int) := by rw [show (t : Int) - 1 = (K : Int) by omega]; exact IntWalk.i64_in _ (by omega)
            have jkn : 0 < t := by omega
            have jkb : decide (0 < t) = true := by simpa using jkn
            have jtn : (t : Int) < (n : Int) := by omega
            have jK : (K : Int) < (n : Int) := by omega
            have jK0 : (0 : Int) ≤ (K : Int) := by omega
            clear hV hK o1 o2 y0 y1 hpos hcv hq hrow hfr ht
            cases q with
            | true =>
              have c1 : cv < 0 := hca.2 rfl
              have c2 : decide (cv < 0) = true := by simpa using c1
              clear hca
              refine wp_region_up (by kernel_rfl) (by kernel_rfl) ?_
              repeat (go_big_quiet_step (exact up_of HC.out _ _))
              refine wpQuiet_nil ?_
              intro w1 hb0
              obtain ⟨hc0, hf0⟩ := bcell hb0
              go_wp2_with fail
              go_meet
              exact ⟨rfl, hb0⟩
            | false =>
              have c1 : ¬ cv < 0 := fun h => by simpa using hca.1 h
              have c2 : decide (cv < 0) = false := by simpa using c1
              clear hca
              refine wp_region_up (by kernel_rfl) (by kernel_rfl) ?_
              repeat (go_big_quiet_step (exact up_of HC.out _ _))
              refine wpQuiet_nil ?_
              intro w1 hb0
              obtain ⟨hc0, hf0⟩ := bcell hb0
              go_wp2_with fail
              go_meet
              exact ⟨rfl, hb0⟩
        case rest =>
        obtain ⟨rfl, hb9⟩ := hcut
        obtain ⟨w5, rfl⟩ : ∃ W : World, W = wc := ⟨_, rfl⟩
        have hR5 := HROW.out.up hb9
        have hF5 := HFR.out.up (by omega) hb9
        have ht5 : Turned d (d + 1) w w5 := ht.trans (Turned.of_below hb9)
        clear hq hpos hrow hfr ht hb9
        cases q with
        | true =>
          have hq := HQ.out
          rw [Bool.and_eq_true, decide_eq_true_iff] at hq
          obtain ⟨K, rfl⟩ : ∃ K, t = K + 1 := ⟨t - 1, by omega⟩
          have HNX := Lib.hid (show posO X Y O i K = posO X Y O i i from by
            rw [← HPOS.out]
            rw [Nat.add_sub_cancel] at hq
            exact (if_pos hq.2).symm)
          have hKn : K < n := by omega
          have hK1n : K + 1 < n := by omega
          have ci := hR5 (K + 1) hK1n
          have cj := hR5 K hKn
          rw [show insT O i (K + 1) (K + 1) = (i : Int) by simp [insT]] at ci
          rw [show insT O i (K + 1) K = O K by unfold insT; rw [if_pos (by omega)]] at cj
          have fi := hF5 (od + (K + 1))
          have fj := hF5 (od + K)
          have R1 := hR5.put hK1n (O K)
          have F1 := hF5.set ⟨d, od + (K + 1), none⟩ (.int .i64 (O K))
          have x1 := (cellS_drew _ _).trans (R1 K hKn)
          have x2 := (frozenS_drew _ _).trans (F1 (od + K))
          have R2 := Lib.hid (rowS_drew (R1.put hKn (i : Int)))
          have F2 := Lib.hid (freeS_drew (F1.set ⟨d, od + K, none⟩ (.int .i64 (i : Int))))
          have G2 := Lib.hid (turnS_drew ((ht5.trans (Turned.set (Nat.le_refl d) (Nat.lt_succ_self d) (o := od + (K + 1)) (.int .i64 (O K)))).trans (Turned.set (Nat.le_refl d) (Nat.lt_succ_self d) (o := od + K) (.int .i64 (i : Int)))))
          have jk1 : ((K + 1 : Nat) : Int) < (n : Int) := by omega
          have jK : (K : Int) < (n : Int) := by omega
          have jK0 : (0 : Int) ≤ (K : Int) := by omega
          have w1' : IntKind.i64.wrap (((K + 1 : Nat) : Int) - 1) = (K : Int) := by rw [show ((K + 1 : Nat) : Int) - 1 = (K : Int) by omega]; exact IntWalk.i64_in _ (by omega)
          have w2' : wrap64 (((K + 1 : Nat) : Int) - 1) = (K : Int) := by rw [show ((K + 1 : Nat) : Int) - 1 = (K : Int) by omega]; exact IntWalk.wrap64_in _ (by omega)
          clear R1 F1 hR5 hF5 hq ht5
          go_wp2_with fail
          go_region
          clear x1 x2
          generalize hW7 : World.drew (World.setCell (World.setCell w5 _ _) _ _) = W7 at *
          have R3 := Lib.hid (R2.out.cong (X' := insT O i K) (fun q _ => insT_step (by omega) q))
          clear hW7 R2 ci cj fi fj
          go_wp2_with fail
          go_roundw
          case rel => exact ⟨K, by omega, by first | rfl | go_num | (rw [show ((K : Int) + 1) - 1 = (K : Int) by omega]), HNX.out, R3.out, F2.out, G2.out⟩
          case measure => first | (simp [intOf]; done) | (simp [intOf]; omega)
        | false =>
          have htt : posO X Y O i i = t := by
            have hq := HQ.out
            rw [← HPOS.out]
            cases hh : t with
            | zero => rfl
            | succ K =>
              rw [hh] at hq
              simp only [Nat.add_sub_cancel, Nat.succ_pos, decide_true, Bool.true_and] at hq
              exact if_neg (by rw [hq]; simp)
          have hR6 := Lib.hid (hR5.cong (fun q _ => HEN.out t htk htt q))
          clear hR5
          go_wp2_with fail
          go_roundw
          case rel => exact ⟨i + 1, by omega, by omega, by go_num, hR6.out, hF5, ht5⟩
          case measure => simp [intOf]; omega
    · have e : i = n := by omega
      subst e
      have hrow2 : Row1 wr d od i (ordO X Y i) := hrow.cong (fun q hq => by unfold sortS; rw [if_pos hq])
      go_wp2_with fail
      go_end0
      exact ⟨rfl, hrow2, hfr, ht⟩
end Go.Proofs.YtbfhfjpfjkdcfaaGreatDoor
