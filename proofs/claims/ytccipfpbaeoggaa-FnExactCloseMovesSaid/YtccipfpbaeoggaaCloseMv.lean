/-
  CloseMoves on both sides.
-/
import Derived.Test.YtccipfpbaeoggaaRows
import Derived.Test.YtccipfpbaeoggaaBase
import Derived.Test.YtccipfpbaeoggaaSpot
import Derived.Test.YtccipfpbaeoggaaSlice
import Derived.Test.YtccipfpbaeoggaaLawS
import Derived.Test.YtccipfpbaeoggaaMark
import Derived.Test.YtccipfpbaeoggaaMove
import Derived.Test.YtccipfpbaeoggaaGcd
import Derived.Test.YtccipfpbaeoggaaApart
import Derived.Test.YtccipfpbaeoggaaApartS
import Derived.Test.YtccipfpbaeoggaaStay
import Derived.Test.YtccipfpbaeoggaaMoves
import Derived.Test.YtccipfpbaeoggaaMovesT
import Derived.Test.YtccipfpbaeoggaaFrac
import Derived.Test.YtccipfpbaeoggaaCloseM
import Derived.Test.YtccipfpbaeoggaaAppend
import Derived.Test.YtccipfpbaeoggaaAppendE
import Derived.Test.YtccipfpbaeoggaaInts
import Derived.Test.YtccipfpbaeoggaaIntsL
import Derived.Test.YtccipfpbaeoggaaTurned
import Derived.Test.YtccipfpbaeoggaaTrans
import Derived.Test.YtccipfpbaeoggaaRowsI
import Derived.Test.YtccipfpbaeoggaaPairs
import Derived.Deep.RegionHeld3
import Derived.Deep.QuietTactic
namespace Go.Proofs.Ytccipfpbaeoggaa
open Go.RowKit

/-- Do two moves stay so far apart? -/
def saMM (a b : Nat → Int) (d : Int) : Bool := saB (a 0) (a 1) (a 2) (a 3) (b 0) (b 1) (b 2) (b 3) d
def cpStep (S : Nat → Nat → Bool) (a b : Nat) (L : List (Nat × Nat)) : List (Nat × Nat) := if S a b then L else L ++ [(a, b)]
def cpIn (S : Nat → Nat → Bool) (a : Nat) (L : List (Nat × Nat)) : Nat → List (Nat × Nat)
  | 0 => L
  | j + 1 => cpStep S a (a + 1 + j) (cpIn S a L j)
def cpOut (S : Nat → Nat → Bool) (n : Nat) : Nat → List (Nat × Nat)
  | 0 => []
  | a + 1 => cpIn S a (cpOut S n a) (n - (a + 1))
theorem cpIn_len (S : Nat → Nat → Bool) (a : Nat) (L : List (Nat × Nat)) : ∀ j, (cpIn S a L j).length ≤ L.length + j
  | 0 => Nat.le_refl _
  | j + 1 => by
    have := cpIn_len S a L j
    simp only [cpIn, cpStep]
    split
    · omega
    · rw [List.length_append]; simp; omega
theorem cpOut_len (S : Nat → Nat → Bool) (n : Nat) : ∀ a, (cpOut S n a).length ≤ a * n
  | 0 => by simp [cpOut]
  | a + 1 => by
    have h1 := cpOut_len S n a
    have h2 := cpIn_len S a (cpOut S n a) (n - (a + 1))
    simp only [cpOut]
    rw [Nat.add_mul, Nat.one_mul]
    omega
def mmS (M : Nat → Nat → Int) (d : Int) (i j : Nat) : Bool := saMM (M i) (M j) d
def cvOk (n : Nat) (M : Nat → Nat → Int) (d : Int) : Bool := tgL n M && inB d 0 80
def cvL (n : Nat) (M : Nat → Nat → Int) (d : Int) : List (Nat × Nat) := if cvOk n M d then cpOut (mmS M d) n n else []
theorem sumR_two : ∀ N, sumR (fun _ => 2) N = 2 * N
  | 0 => rfl
  | N + 1 => by rw [sumR, sumR_two N]; omega
theorem cvL_len (n : Nat) (M : Nat → Nat → Int) (d : Int) : (cvL n M d).length ≤ 144 := by
  unfold cvL
  split
  · rename_i h
    simp only [cvOk, Bool.and_eq_true] at h
    have h1 := (tgL_iff h.1).1
    have h2 := cpOut_len (mmS M d) n n
    have h3 : n * n ≤ 12 * 12 := Nat.mul_le_mul h1.2 h1.2
    omega
  · simp
set_option maxRecDepth 100000 in
set_option maxHeartbeats 4000000 in
theorem iCloseMoves_any (v : Value) (n : Nat) (M : Nat → Nat → Int) (d : Int) (w : World) (h : Moves w v n M) (hn : n ≤ 1048576) :
    Calls Try.prog 43 #[v, .int .i64 d] w (AnsRwB w (cvL n M d).length (fun _ => 2) (prF (cvL n M d)) (cvOk n M d)) := by
  have HT := Lib.hid (areTogether_g v n M w h hn)
  cases ht : tgL n M with
  | false =>
    rw [ht] at HT
    rw [show cvOk n M d = false by simp [cvOk, ht], show cvL n M d = [] by simp [cvL, cvOk, ht]]
    clear h ht
    go_enter Try.func43, Try.ntmps43
    go_wp2_with (go_at_call 85; refine HT.out.mono ?_; rintro e w1 ⟨rfl, hb⟩)
    go_ret2
    exact AnsRwB.nil hb
  | true =>
    rw [ht] at HT
    cases hd : inB d 0 80 with
    | false =>
      rw [show cvOk n M d = false by simp [cvOk, hd], show cvL n M d = [] by simp [cvL, cvOk, hd]]
      clear h ht
      go_enter Try.func43, Try.ntmps43
      go_wp2_with (first | (go_at_call 85; refine HT.out.mono ?_; rintro e w1 ⟨rfl, hb⟩) | (go_at_call 68; refine (within_any _ _ _ _).mono ?_; rintro e w1 ⟨rfl, rfl⟩))
      go_ret2
      exact AnsRwB.nil hb
    | true =>
      rw [show cvOk n M d = true by simp [cvOk, hd, ht], show cvL n M d = cpOut (mmS M d) n n by simp [cvL, cvOk, hd, ht]]
      obtain ⟨d1, d2⟩ := inB_iff.1 hd
      obtain ⟨⟨n2, n12⟩, _, hmv⟩ := tgL_iff ht
      obtain ⟨A, c, rfl, hnc, hrow⟩ := h
      obtain ⟨b, o, rfl, hr⟩ := hrow (by omega)
      have HR := Lib.hid hr
      have HCA := Lib.hid (fun i j (hi : i < n) (hj : j < n) W => (show Calls Try.prog 82 #[mvV (M i), mvV (M j), .int .i64 d] W (Ans W (.bool (mmS M d i j))) from stayApart_any _ _ _ _ _ _ _ _ _ _ d (hmv i hi) (hmv j hj) d1 d2 W))
      have HLn := Lib.hid (fun a => cpOut_len (mmS M d) n a)
      have HLi := Lib.hid (fun a L j => cpIn_len (mmS M d) a L j)
      have HS := Lib.hid (show ∀ a, cpOut (mmS M d) n (a + 1) = cpIn (mmS M d) a (cpOut (mmS M d) n a) (n - (a + 1)) from fun _ => rfl)
      clear hr hrow hmv ht
      go_enter Try.func43, Try.ntmps43
      go_wp2_with (first | (go_at_call 85; refine HT.out.mono ?_; rintro e wT ⟨rfl, hb1⟩) | (go_at_call 68; refine (within_any _ _ _ _).mono ?_; rintro e w1 ⟨rfl, rfl⟩))
      go_loopw [6, 20] (fun q i wr => ∃ a : Nat, a ≤ n ∧ i = .int .i64 a ∧ OwnP wT.heap.size wr q (cpOut (mmS M d) n a) ∧ Below wT.heap.size wT wr) (fun _ i _ => n - (intOf i).toNat)
      case atStart => exact ⟨0, by omega, rfl, OwnP.empty (Nat.le_refl _), below_alloc _ _⟩
      case round =>
        obtain ⟨a, ha, rfl, how, hb⟩ := hrel
        by_cases hlt : a < n
        · obtain ⟨Ls, hLs⟩ : ∃ Ls, Ls = cpOut (mmS M d) n a := ⟨_, rfl⟩
          have hl0 := HLn.out a
          have hl1 : a * n ≤ 12 * 12 := Nat.mul_le_mul (by omega) (by omega)
          have HSa := Lib.hid (show cpOut (mmS M d) n (a + 1) = cpIn (mmS M d) a Ls (n - (a + 1)) by rw [HS.out, hLs])
          rw [← hLs] at how hl0
          clear hLs
          obtain ⟨W3, rfl⟩ : ∃ W3 : World, W3 = wr := ⟨_, rfl⟩
          have hbw := hb
          go_wp2_with fail
          go_loopw [6, 8] (fun q i wi => ∃ j : Nat, a + 1 + j ≤ n ∧ i = .int .i64 ((a + 1 + j : Nat) : Int) ∧ OwnP wT.heap.size wi q (cpIn (mmS M d) a Ls j) ∧ Below wT.heap.size wT wi) (fun _ i _ => n - (intOf i).toNat)
          case atStart => exact ⟨0, by omega, congrArg (Value.int .i64) (by omega), how, hbw⟩
          case round =>
            obtain ⟨j, hj, rfl, hoi, hb2⟩ := hrel
            by_cases hltj : a + 1 + j < n
            · have hC := HCA.out a (a + 1 + j) hlt hltj
              have hl2 := HLi.out a Ls j
              have HSj := Lib.hid (show cpIn (mmS M d) a Ls (j + 1) = if mmS M d a (a + 1 + j) then cpIn (mmS M d) a Ls j else cpIn (mmS M d) a Ls j ++ [(a, a + 1 + j)] from rfl)
              generalize cpIn (mmS M d) a Ls j = Lj at *
              have gb := (HR.out (a + 1 + j) hltj).up (hb1.trans (hb2.mono hb1.size))
              have d0 := cell_regrown gb.c0
              have d1' := cell_regrown gb.c1
              have d2' := cell_regrown gb.c2
              have d3 := cell_regrown gb.c3
              have d4 := cell_regrown gb.c4
              have ga2 := (HR.out a hlt).up (hb1.trans (hb2.mono hb1.size))
              have c0 := cell_regrown ga2.c0
              have c1 := cell_regrown ga2.c1
              have c2 := cell_regrown ga2.c2
              have c3 := cell_regrown ga2.c3
              have c4 := cell_regrown ga2.c4
              clear gb ga2
              have i1 : (a : Int) < (n : Int) := by omega
              have i2 : ((a + 1 + j : Nat) : Int) < (n : Int) := by omega
              cases hq : mmS M d a (a + 1 + j) with
              | true =>
                rw [hq] at hC
                have HC := Lib.hid hC
                have HZ := Lib.hid (show cpIn (mmS M d) a Ls (j + 1) = Lj by rw [HSj.out, if_pos hq])
                clear hC hq
                go_wp2_with fail
                refine wp_region_up (by kernel_rfl) (by kernel_rfl) ?_
                repeat (go_big_quiet_step (exact up_of (fun W _ => HC.out W) _ _))
                refine wpQuiet_nil ?_
                intro w1 hb0
                obtain ⟨hc0, hf0⟩ := bcell hb0
                clear c0 c1 c2 c3 c4 d0 d1' d2' d3 d4 hc0 hf0
                have hb4 := hb2.trans (hb0.mono hb2.size)
                have ho4 := hoi.up hb0
                go_wp2_with fail
                go_roundw
                case rel => exact ⟨j + 1, by omega, congrArg (Value.int .i64) (by omega), by rw [HZ.out]; exact ho4, hb4⟩
                case measure => simp [intOf]; omega
              | false =>
                rw [hq] at hC
                have HC := Lib.hid hC
                have HZ := Lib.hid (show cpIn (mmS M d) a Ls (j + 1) = Lj ++ [(a, a + 1 + j)] by rw [HSj.out, if_neg (by rw [hq]; simp)])
                clear hC hq
                go_wp2_with fail
                refine wp_region_up (by kernel_rfl) (by kernel_rfl) ?_
                repeat (go_big_quiet_step (exact up_of (fun W _ => HC.out W) _ _))
                refine wpQuiet_nil ?_
                intro w1 hb0
                obtain ⟨hc0, hf0⟩ := bcell hb0
                clear c0 c1 c2 c3 c4 d0 d1' d2' d3 d4 hc0 hf0
                obtain ⟨w4, rfl⟩ : ∃ w4 : World, w4 = w1 := ⟨_, rfl⟩
                have hb4 := hb2.trans (hb0.mono hb2.size)
                have ho4 := hoi.up hb0
                go_wp2_with (at_builtin; refine wpList_app_pair rfl (.tmp 42) (.tmp 46) rfl wT.heap.size _ Lj a (a + 1 + j) (g := w4.heap.size) rfl rfl (by simp [go_sem]) (by simp [go_sem]) (fun o => by simp [go_sem]) (by have := hb4.size; omega) (by simp [go_sem]) ho4 (show Below w4.heap.size w4 _ from (by (repeat (first | with_reducible exact Below.refl _ _ | with_reducible assumption | with_reducible refine up_alloc ?_ _ | with_reducible refine up_drew ?_ | with_reducible refine up_drewN ?_ _ | (with_reducible refine up_set ?_ ?hset _; case hset => first | (simp; done) | (simp; omega) | omega) | with_reducible refine up_trans ?_ (by with_reducible assumption))))) (Nat.le_refl _) (by have := hb4.size; simp; omega) (by omega) ?_; intro v2 w5 ho5 hb5 hg5 hn5; replace hb5 := (hb4.trans ((show Below w4.heap.size w4 _ from (by (repeat (first | with_reducible exact Below.refl _ _ | with_reducible assumption | with_reducible refine up_alloc ?_ _ | with_reducible refine up_drew ?_ | with_reducible refine up_drewN ?_ _ | (with_reducible refine up_set ?_ ?hset _; case hset => first | (simp; done) | (simp; omega) | omega) | with_reducible refine up_trans ?_ (by with_reducible assumption))))).mono hb4.size)).trans hb5)
                go_roundw
                case rel => exact ⟨j + 1, by omega, congrArg (Value.int .i64) (by omega), by rw [HZ.out]; exact ho5, hb5⟩
                case measure => simp [intOf]; omega
            · have ej : j = n - (a + 1) := by omega
              subst ej
              go_wp2_with fail
              go_roundw
              case rel => exact ⟨a + 1, by omega, by go_num, by rw [HSa.out]; exact hoi, hb2⟩
              case measure => simp [intOf]; omega
        · have e : a = n := by omega
          subst e
          go_wp2_with fail
          go_ret2
          exact ⟨_, rfl, how.rw.more hb1.size, hb1.trans (hb.mono hb1.size)⟩
set_option maxRecDepth 100000 in
set_option maxHeartbeats 4000000 in
theorem sCloseMoves_any (v : Value) (n : Nat) (M : Nat → Nat → Int) (d : Int) (w : World) (h : Moves w v n M) (hn : n ≤ 1048576) :
    Calls Try.prog 42 #[v, .int .i64 d] w (AnsRwB w (cvL n M d).length (fun _ => 2) (prF (cvL n M d)) (cvOk n M d)) := by
  have HT := Lib.hid (apList_g v n M w h hn)
  cases ht : tgL n M with
  | false =>
    rw [ht] at HT
    rw [show cvOk n M d = false by simp [cvOk, ht], show cvL n M d = [] by simp [cvL, cvOk, ht]]
    clear h ht
    go_enter Try.func42, Try.ntmps42
    go_wp2_with (go_at_call 83; refine HT.out.mono ?_; rintro e w1 ⟨rfl, hb⟩)
    go_ret2
    exact AnsRwB.nil hb
  | true =>
    rw [ht] at HT
    cases hd : inB d 0 80 with
    | false =>
      rw [show cvOk n M d = false by simp [cvOk, hd], show cvL n M d = [] by simp [cvL, cvOk, hd]]
      clear h ht
      go_enter Try.func42, Try.ntmps42
      go_wp2_with (first | (go_at_call 83; refine HT.out.mono ?_; rintro e w1 ⟨rfl, hb⟩) | (go_at_call 79; refine (apDist_any _ _).mono ?_; rintro e w1 ⟨rfl, rfl⟩))
      go_ret2
      exact AnsRwB.nil hb
    | true =>
      rw [show cvOk n M d = true by simp [cvOk, hd, ht], show cvL n M d = cpOut (mmS M d) n n by simp [cvL, cvOk, hd, ht]]
      obtain ⟨d1, d2⟩ := inB_iff.1 hd
      obtain ⟨⟨n2, n12⟩, _, hmv⟩ := tgL_iff ht
      obtain ⟨A, c, rfl, hnc, hrow⟩ := h
      obtain ⟨b, o, rfl, hr⟩ := hrow (by omega)
      have HR := Lib.hid hr
      have HCA := Lib.hid (fun i j (hi : i < n) (hj : j < n) W => (show Calls Try.prog 80 #[mvV (M i), mvV (M j), .int .i64 d] W (Ans W (.bool (mmS M d i j))) from apStay_any _ _ _ _ _ _ _ _ _ _ d (hmv i hi) (hmv j hj) d1 d2 W))
      have HLn := Lib.hid (fun a => cpOut_len (mmS M d) n a)
      have HLi := Lib.hid (fun a L j => cpIn_len (mmS M d) a L j)
      have HS := Lib.hid (show ∀ a, cpOut (mmS M d) n (a + 1) = cpIn (mmS M d) a (cpOut (mmS M d) n a) (n - (a + 1)) from fun _ => rfl)
      clear hr hrow hmv ht
      go_enter Try.func42, Try.ntmps42
      go_wp2_with (first | (go_at_call 83; refine HT.out.mono ?_; rintro e wT ⟨rfl, hb1⟩) | (go_at_call 79; refine (apDist_any _ _).mono ?_; rintro e w1 ⟨rfl, rfl⟩))
      go_loopw [6, 20] (fun q i wr => ∃ a : Nat, a ≤ n ∧ i = .int .i64 a ∧ OwnP wT.heap.size wr q (cpOut (mmS M d) n a) ∧ Below wT.heap.size wT wr) (fun _ i _ => n - (intOf i).toNat)
      case atStart => exact ⟨0, by omega, rfl, OwnP.nil _ _, Below.refl _ _⟩
      case round =>
        obtain ⟨a, ha, rfl, how, hb⟩ := hrel
        by_cases hlt : a < n
        · obtain ⟨Ls, hLs⟩ : ∃ Ls, Ls = cpOut (mmS M d) n a := ⟨_, rfl⟩
          have hl0 := HLn.out a
          have hl1 : a * n ≤ 12 * 12 := Nat.mul_le_mul (by omega) (by omega)
          have HSa := Lib.hid (show cpOut (mmS M d) n (a + 1) = cpIn (mmS M d) a Ls (n - (a + 1)) by rw [HS.out, hLs])
          rw [← hLs] at how hl0
          clear hLs
          have gr := (HR.out a hlt).up (up_trans hb1 hb)
          obtain ⟨x0, x1, x2, x3, x4⟩ := gr
          go_wp2_with fail
          have hqb := OwnP.own_ne how (b := wr.heap.size) (Nat.le_refl _)
          generalize hW3 : World.alloc wr _ = W3 at *
          have hb3 : Below wr.heap.size wr W3 := by subst hW3; (repeat (first | with_reducible exact Below.refl _ _ | with_reducible assumption | with_reducible refine up_alloc ?_ _ | with_reducible refine up_drew ?_ | with_reducible refine up_drewN ?_ _ | (with_reducible refine up_set ?_ ?hset _; case hset => first | (simp; done) | (simp; omega) | omega) | with_reducible refine up_trans ?_ (by with_reducible assumption)))
          have hbw := up_trans hb hb3
          have hwb : wr.heap.size < W3.heap.size := by subst hW3; simp
          have y0 : W3.cell? ⟨wr.heap.size, 0, none⟩ = some (.int .i64 (M a 0)) := by subst hW3; simp [go_sem]
          have y1 : W3.cell? ⟨wr.heap.size, 1, none⟩ = some (.int .i64 (M a 1)) := by subst hW3; simp [go_sem]
          have y2 : W3.cell? ⟨wr.heap.size, 2, none⟩ = some (.int .i64 (M a 2)) := by subst hW3; simp [go_sem]
          have y3 : W3.cell? ⟨wr.heap.size, 3, none⟩ = some (.int .i64 (M a 3)) := by subst hW3; simp [go_sem]
          have y4 : W3.cell? ⟨wr.heap.size, 4, none⟩ = some (.int .i64 (M a 4)) := by subst hW3; simp [go_sem]
          replace how := how.up hb3
          clear hW3 x0 x1 x2 x3 x4
          go_loopw [6, 9] (fun q i wi => ∃ j : Nat, a + 1 + j ≤ n ∧ i = .int .i64 ((a + 1 + j : Nat) : Int) ∧ OwnP wT.heap.size wi q (cpIn (mmS M d) a Ls j) ∧ Below wT.heap.size wT wi ∧ wi.cell? ⟨wr.heap.size, 0, none⟩ = some (.int .i64 (M a 0)) ∧ wi.cell? ⟨wr.heap.size, 1, none⟩ = some (.int .i64 (M a 1)) ∧ wi.cell? ⟨wr.heap.size, 2, none⟩ = some (.int .i64 (M a 2)) ∧ wi.cell? ⟨wr.heap.size, 3, none⟩ = some (.int .i64 (M a 3)) ∧ wi.cell? ⟨wr.heap.size, 4, none⟩ = some (.int .i64 (M a 4)) ∧ q.ownBlock ≠ some wr.heap.size ∧ wr.heap.size < wi.heap.size) (fun _ i _ => n - (intOf i).toNat)
          case atStart => exact ⟨0, by omega, congrArg (Value.int .i64) (by omega), how, hbw, y0, y1, y2, y3, y4, hqb, hwb⟩
          case round =>
            obtain ⟨j, hj, rfl, hoi, hb2, y0, y1, y2, y3, y4, hqb, hwb⟩ := hrel
            by_cases hltj : a + 1 + j < n
            · have hC := HCA.out a (a + 1 + j) hlt hltj
              have hl2 := HLi.out a Ls j
              have HSj := Lib.hid (show cpIn (mmS M d) a Ls (j + 1) = if mmS M d a (a + 1 + j) then cpIn (mmS M d) a Ls j else cpIn (mmS M d) a Ls j ++ [(a, a + 1 + j)] from rfl)
              generalize cpIn (mmS M d) a Ls j = Lj at *
              have gb := (HR.out (a + 1 + j) hltj).up (hb1.trans (hb2.mono hb1.size))
              have d0 := cell_regrown gb.c0
              have d1' := cell_regrown gb.c1
              have d2' := cell_regrown gb.c2
              have d3 := cell_regrown gb.c3
              have d4 := cell_regrown gb.c4
              have c0 := cell_regrown y0
              have c1 := cell_regrown y1
              have c2 := cell_regrown y2
              have c3 := cell_regrown y3
              have c4 := cell_regrown y4
              clear gb
              have i1 : (a : Int) < (n : Int) := by omega
              have i2 : ((a + 1 + j : Nat) : Int) < (n : Int) := by omega
              cases hq : mmS M d a (a + 1 + j) with
              | true =>
                rw [hq] at hC
                have HC := Lib.hid hC
                have HZ := Lib.hid (show cpIn (mmS M d) a Ls (j + 1) = Lj by rw [HSj.out, if_pos hq])
                clear hC hq
                go_wp2_with fail
                refine wp_region_up (by kernel_rfl) (by kernel_rfl) ?_
                repeat (go_big_quiet_step (exact up_of (fun W _ => HC.out W) _ _))
                refine wpQuiet_nil ?_
                intro w1 hb0
                obtain ⟨hc0, hf0⟩ := bcell hb0
                clear c0 c1 c2 c3 c4 d0 d1' d2' d3 d4 hc0 hf0
                have hb4 := hb2.trans (hb0.mono hb2.size)
                have ho4 := hoi.up hb0
                go_wp2_with fail
                go_roundw
                case rel => exact ⟨j + 1, by omega, congrArg (Value.int .i64) (by omega), by rw [HZ.out]; exact ho4, hb4, up_keep hb0 y0, up_keep hb0 y1, up_keep hb0 y2, up_keep hb0 y3, up_keep hb0 y4, hqb, Nat.lt_of_lt_of_le hwb hb0.size⟩
                case measure => simp [intOf]; omega
              | false =>
                rw [hq] at hC
                have HC := Lib.hid hC
                have HZ := Lib.hid (show cpIn (mmS M d) a Ls (j + 1) = Lj ++ [(a, a + 1 + j)] by rw [HSj.out, if_neg (by rw [hq]; simp)])
                clear hC hq
                go_wp2_with fail
                refine wp_region_up (by kernel_rfl) (by kernel_rfl) ?_
                repeat (go_big_quiet_step (exact up_of (fun W _ => HC.out W) _ _))
                refine wpQuiet_nil ?_
                intro w1 hb0
                obtain ⟨hc0, hf0⟩ := bcell hb0
                clear c0 c1 c2 c3 c4 d0 d1' d2' d3 d4 hc0 hf0
                obtain ⟨w4, rfl⟩ : ∃ w4 : World, w4 = w1 := ⟨_, rfl⟩
                have hb4 := hb2.trans (hb0.mono hb2.size)
                have ho4 := hoi.up hb0
                go_wp2_with (at_builtin; refine wpList_app_pair rfl (.tmp 41) (.tmp 45) rfl wT.heap.size _ Lj a (a + 1 + j) (g := w4.heap.size) rfl rfl (by simp [go_sem]) (by simp [go_sem]) (fun o => by simp [go_sem]) (by have := hb4.size; omega) (by simp [go_sem]) ho4 (show Below w4.heap.size w4 _ from (by (repeat (first | with_reducible exact Below.refl _ _ | with_reducible assumption | with_reducible refine up_alloc ?_ _ | with_reducible refine up_drew ?_ | with_reducible refine up_drewN ?_ _ | (with_reducible refine up_set ?_ ?hset _; case hset => first | (simp; done) | (simp; omega) | omega) | with_reducible refine up_trans ?_ (by with_reducible assumption))))) (Nat.le_refl _) (by have := hb4.size; simp; omega) (by omega) ?_; intro v2 w5 ho5 hb5 hg5 hn5; have z0 := far_keep (show Below w4.heap.size w4 _ from (by (repeat (first | with_reducible exact Below.refl _ _ | with_reducible assumption | with_reducible refine up_alloc ?_ _ | with_reducible refine up_drew ?_ | with_reducible refine up_drewN ?_ _ | (with_reducible refine up_set ?_ ?hset _; case hset => first | (simp; done) | (simp; omega) | omega) | with_reducible refine up_trans ?_ (by with_reducible assumption))))) hg5 (up_keep hb0 y0) hqb; have z1 := far_keep (show Below w4.heap.size w4 _ from (by (repeat (first | with_reducible exact Below.refl _ _ | with_reducible assumption | with_reducible refine up_alloc ?_ _ | with_reducible refine up_drew ?_ | with_reducible refine up_drewN ?_ _ | (with_reducible refine up_set ?_ ?hset _; case hset => first | (simp; done) | (simp; omega) | omega) | with_reducible refine up_trans ?_ (by with_reducible assumption))))) hg5 (up_keep hb0 y1) hqb; have z2 := far_keep (show Below w4.heap.size w4 _ from (by (repeat (first | with_reducible exact Below.refl _ _ | with_reducible assumption | with_reducible refine up_alloc ?_ _ | with_reducible refine up_drew ?_ | with_reducible refine up_drewN ?_ _ | (with_reducible refine up_set ?_ ?hset _; case hset => first | (simp; done) | (simp; omega) | omega) | with_reducible refine up_trans ?_ (by with_reducible assumption))))) hg5 (up_keep hb0 y2) hqb; have z3 := far_keep (show Below w4.heap.size w4 _ from (by (repeat (first | with_reducible exact Below.refl _ _ | with_reducible assumption | with_reducible refine up_alloc ?_ _ | with_reducible refine up_drew ?_ | with_reducible refine up_drewN ?_ _ | (with_reducible refine up_set ?_ ?hset _; case hset => first | (simp; done) | (simp; omega) | omega) | with_reducible refine up_trans ?_ (by with_reducible assumption))))) hg5 (up_keep hb0 y3) hqb; have z4 := far_keep (show Below w4.heap.size w4 _ from (by (repeat (first | with_reducible exact Below.refl _ _ | with_reducible assumption | with_reducible refine up_alloc ?_ _ | with_reducible refine up_drew ?_ | with_reducible refine up_drewN ?_ _ | (with_reducible refine up_set ?_ ?hset _; case hset => first | (simp; done) | (simp; omega) | omega) | with_reducible refine up_trans ?_ (by with_reducible assumption))))) hg5 (up_keep hb0 y4) hqb; have zq := own_step (show Below w4.heap.size w4 _ from (by (repeat (first | with_reducible exact Below.refl _ _ | with_reducible assumption | with_reducible refine up_alloc ?_ _ | with_reducible refine up_drew ?_ | with_reducible refine up_drewN ?_ _ | (with_reducible refine up_set ?_ ?hset _; case hset => first | (simp; done) | (simp; omega) | omega) | with_reducible refine up_trans ?_ (by with_reducible assumption))))) hn5 hqb (Nat.lt_of_lt_of_le hwb hb0.size); have zs := Nat.lt_of_lt_of_le (Nat.lt_of_lt_of_le hwb hb0.size) (Nat.le_trans (show Below w4.heap.size w4 _ from (by (repeat (first | with_reducible exact Below.refl _ _ | with_reducible assumption | with_reducible refine up_alloc ?_ _ | with_reducible refine up_drew ?_ | with_reducible refine up_drewN ?_ _ | (with_reducible refine up_set ?_ ?hset _; case hset => first | (simp; done) | (simp; omega) | omega) | with_reducible refine up_trans ?_ (by with_reducible assumption))))).size hg5.size); replace hb5 := (hb4.trans ((show Below w4.heap.size w4 _ from (by (repeat (first | with_reducible exact Below.refl _ _ | with_reducible assumption | with_reducible refine up_alloc ?_ _ | with_reducible refine up_drew ?_ | with_reducible refine up_drewN ?_ _ | (with_reducible refine up_set ?_ ?hset _; case hset => first | (simp; done) | (simp; omega) | omega) | with_reducible refine up_trans ?_ (by with_reducible assumption))))).mono hb4.size)).trans hb5)
                go_roundw
                case rel => exact ⟨j + 1, by omega, congrArg (Value.int .i64) (by omega), by rw [HZ.out]; exact ho5, hb5, z0, z1, z2, z3, z4, zq, zs⟩
                case measure => simp [intOf]; omega
            · have ej : j = n - (a + 1) := by omega
              subst ej
              go_wp2_with fail
              go_roundw
              case rel => exact ⟨a + 1, by omega, by go_num, by rw [HSa.out]; exact hoi, hb2⟩
              case measure => simp [intOf]; omega
        · have e : a = n := by omega
          subst e
          go_wp2_with fail
          go_ret2
          exact ⟨_, rfl, how.rw.more hb1.size, hb1.trans (hb.mono hb1.size)⟩
end Go.Proofs.Ytccipfpbaeoggaa
