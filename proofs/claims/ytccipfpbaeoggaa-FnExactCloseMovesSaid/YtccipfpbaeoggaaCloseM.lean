/-
  The closest of some moves, on both sides.
-/
import Derived.Test.YtccipfpbaeoggaaRows
import Derived.Test.YtccipfpbaeoggaaBase
import Derived.Test.YtccipfpbaeoggaaSpot
import Derived.Test.YtccipfpbaeoggaaSlice
import Derived.Test.YtccipfpbaeoggaaMove
import Derived.Test.YtccipfpbaeoggaaGcd
import Derived.Test.YtccipfpbaeoggaaApart
import Derived.Test.YtccipfpbaeoggaaApartS
import Derived.Test.YtccipfpbaeoggaaStay
import Derived.Test.YtccipfpbaeoggaaMoves
import Derived.Test.YtccipfpbaeoggaaFrac
import Derived.Deep.RegionHeld3
import Derived.Deep.QuietTactic
namespace Go.Proofs.Ytccipfpbaeoggaa
open Go.RowKit Go.ChangeShapes Go.WideShapes Go.Sort

def apMM (a b : Nat → Int) : Int × Int := apM (a 0) (a 1) (a 2) (a 3) (b 0) (b 1) (b 2) (b 3)
def tgMM (a b : Nat → Int) : Bool := togB (a 0) (a 1) (a 2) (a 3) (a 4) (b 0) (b 1) (b 2) (b 3) (b 4)
def mvB (a : Nat → Int) : Bool := moveB (a 0) (a 1) (a 2) (a 3) (a 4)
/-- 2 to 12 moves that go together. -/
def tgL (n : Nat) (M : Nat → Nat → Int) : Bool := inB n 2 12 && allB (fun i => tgMM (M 0) (M i)) n
theorem tgL_iff {n : Nat} {M : Nat → Nat → Int} (h : tgL n M = true) : (2 ≤ n ∧ n ≤ 12) ∧ (∀ i, i < n → tgMM (M 0) (M i) = true) ∧ ∀ i, i < n → mvB (M i) = true := by
  simp only [tgL, Bool.and_eq_true] at h
  have h1 := inB_iff.1 h.1
  have h2 := allB_iff.1 h.2
  exact ⟨by omega, h2, fun i hi => (togB_iff.1 (h2 i hi)).1.2⟩
theorem apMM_bd {a b : Nat → Int} (ha : mvB a = true) (hb : mvB b = true) : (0 ≤ (apMM a b).1 ∧ (apMM a b).1 ≤ 11838003609600) ∧ 1 ≤ (apMM a b).2 ∧ (apMM a b).2 ≤ 8359936 := apM_bd ha hb
theorem goTogether_mm (a b : Nat → Int) (w : World) : Calls Try.prog 81 #[mvV a, mvV b] w (Ans w (.bool (tgMM a b))) := goTogether_any _ _ _ _ _ _ _ _ _ _ w
theorem apGood_mm (a b : Nat → Int) (w : World) : Calls Try.prog 78 #[mvV a, mvV b] w (Ans w (.bool (tgMM a b))) := apGood_any _ _ _ _ _ _ _ _ _ _ w
theorem leastApart_mm (a b : Nat → Int) (ha : mvB a = true) (hb : mvB b = true) (w : World) : Calls Try.prog 89 #[mvV a, mvV b] w (Ans w (.tuple #[.int .i64 (apMM a b).1, .int .i64 (apMM a b).2])) := leastApart_m _ _ _ _ _ _ _ _ _ _ ha hb w
theorem apLeast_mm (a b : Nat → Int) (ha : mvB a = true) (hb : mvB b = true) (w : World) : Calls Try.prog 88 #[mvV a, mvV b] w (Ans w (.tuple #[.int .i64 (apMM a b).1, .int .i64 (apMM a b).2])) := apLeast_m _ _ _ _ _ _ _ _ _ _ ha hb w
set_option maxRecDepth 100000 in
set_option maxHeartbeats 2000000 in
theorem areTogether_g (v : Value) (n : Nat) (M : Nat → Nat → Int) (w : World) (h : Moves w v n M) (hn : n ≤ 1048576) :
    Calls Try.prog 85 #[v] w (Ans w (.bool (tgL n M))) := by
  obtain ⟨A, c, rfl, hnc, hrow⟩ := h
  cases hi : inB n 2 12 with
  | false =>
    have HE := Lib.hid (show tgL n M = false by simp [tgL, hi])
    go_enter Try.func85, Try.ntmps85
    go_wp2_with (go_at_call 68; refine (within_any _ _ _ _).mono ?_; rintro e w1 ⟨rfl, rfl⟩)
    go_ret
    exact Ans.bool (by rw [HE.out]) (Below.refl _ _)
  | true =>
    have HE := Lib.hid (show tgL n M = (true && allB (fun i => tgMM (M 0) (M i)) n) by simp [tgL, hi])
    go_enter Try.func85, Try.ntmps85
    go_wp2_with (go_at_call 68; refine (within_any _ _ _ _).mono ?_; rintro e w1 ⟨rfl, rfl⟩)
    go_loopw [11] (fun i wr => ∃ k : Nat, k ≤ n ∧ i = .int .i64 k ∧ Below w.heap.size w wr ∧ allB (fun i => tgMM (M 0) (M i)) k = true) (fun i _ => n - (intOf i).toNat)
    case atStart => exact ⟨0, by omega, rfl, Below.refl _ _, rfl⟩
    case round =>
      obtain ⟨k, hk, rfl, hb, ha⟩ := hrel
      have HA := Lib.hid ha
      clear ha
      by_cases hlt : k < n
      · obtain ⟨b, o, rfl, hr⟩ := hrow (by omega)
        have g1 := (hr k hlt).up hb
        have g0 := (hr 0 (by omega)).up hb
        rw [Nat.zero_mul, Nat.add_zero] at g0
        obtain ⟨c0, c1, c2, c3, c4⟩ := g1
        have hn0 : (0 : Int) < (n : Int) := by omega
        clear hr hrow
        have HC := Lib.hid (goTogether_mm (M 0) (M k))
        go_wp2_with fail
        generalize hW3 : World.alloc wr _ = W3 at *
        have hb3 : Below wr.heap.size wr W3 := by subst hW3; (repeat (first | with_reducible exact Below.refl _ _ | with_reducible assumption | with_reducible refine up_alloc ?_ _ | with_reducible refine up_drew ?_ | with_reducible refine up_drewN ?_ _ | (with_reducible refine up_set ?_ ?hset _; case hset => first | (simp; done) | (simp; omega) | omega) | with_reducible refine up_trans ?_ (by with_reducible assumption)))
        have hbw3 := up_trans hb hb3
        have e0 : W3.cell? ⟨wr.heap.size, 0, none⟩ = some (.int .i64 (M k 0)) := by subst hW3; simp [go_sem]
        have e1 : W3.cell? ⟨wr.heap.size, 1, none⟩ = some (.int .i64 (M k 1)) := by subst hW3; simp [go_sem]
        have e2 : W3.cell? ⟨wr.heap.size, 2, none⟩ = some (.int .i64 (M k 2)) := by subst hW3; simp [go_sem]
        have e3 : W3.cell? ⟨wr.heap.size, 3, none⟩ = some (.int .i64 (M k 3)) := by subst hW3; simp [go_sem]
        have e4 : W3.cell? ⟨wr.heap.size, 4, none⟩ = some (.int .i64 (M k 4)) := by subst hW3; simp [go_sem]
        have g3 := g0.up hb3
        have d0 := cell_regrown g3.c0
        have d1 := cell_regrown g3.c1
        have d2 := cell_regrown g3.c2
        have d3 := cell_regrown g3.c3
        have d4 := cell_regrown g3.c4
        replace e0 := cell_regrown e0
        replace e1 := cell_regrown e1
        replace e2 := cell_regrown e2
        replace e3 := cell_regrown e3
        replace e4 := cell_regrown e4
        clear hW3 g0 g3 c0 c1 c2 c3 c4
        cases hq : tgMM (M 0) (M k) with
        | true =>
          rw [hq] at HC
          have HQ := Lib.hid hq
          clear hq
          refine wp_region_up (by kernel_rfl) (by kernel_rfl) ?_
          repeat (go_big_quiet_step (exact up_of (fun W _ => HC.out W) _ _))
          refine wpQuiet_nil ?_
          intro w1 hb0
          obtain ⟨hc0, hf0⟩ := bcell hb0
          go_wp2_with fail
          go_roundw
          case rel => exact ⟨k + 1, by omega, by go_num, up_trans hbw3 hb0, allB_succ HA.out HQ.out⟩
          case measure => simp [intOf]; omega
        | false =>
          rw [hq] at HC
          have HQ := Lib.hid hq
          clear hq
          refine wp_region_up (by kernel_rfl) (by kernel_rfl) ?_
          repeat (go_big_quiet_step (exact up_of (fun W _ => HC.out W) _ _))
          refine wpQuiet_nil ?_
          intro w1 hb0
          obtain ⟨hc0, hf0⟩ := bcell hb0
          go_wp2_with fail
          go_ret
          exact Ans.bool (by rw [HE.out, allB_no hlt HQ.out]; simp) (up_trans hbw3 hb0)
      · have e : k = n := by omega
        subst e
        go_wp2_with fail
        go_ret
        exact Ans.bool (by rw [HE.out, HA.out]; simp) hb
set_option maxRecDepth 100000 in
set_option maxHeartbeats 2000000 in
theorem apList_g (v : Value) (n : Nat) (M : Nat → Nat → Int) (w : World) (h : Moves w v n M) (hn : n ≤ 1048576) :
    Calls Try.prog 83 #[v] w (Ans w (.bool (tgL n M))) := by
  obtain ⟨A, c, rfl, hnc, hrow⟩ := h
  have HE := Lib.hid (show tgL n M = (inB n 2 12 && allB (fun i => tgMM (M 0) (M i)) n) from rfl)
  go_enter Try.func83, Try.ntmps83
  go_wp2_with fail
  go_loopw [7] (fun i wr => ∃ k : Nat, k ≤ n ∧ i = .int .i64 k ∧ Below w.heap.size w wr ∧ allB (fun i => tgMM (M 0) (M i)) k = true) (fun i _ => n - (intOf i).toNat)
  case atStart => exact ⟨0, by omega, rfl, Below.refl _ _, rfl⟩
  case round =>
    obtain ⟨k, hk, rfl, hb, ha⟩ := hrel
    have HA := Lib.hid ha
    clear ha
    by_cases hlt : k < n
    · obtain ⟨b, o, rfl, hr⟩ := hrow (by omega)
      have g1 := (hr k hlt).up hb
      have g0 := (hr 0 (by omega)).up hb
      rw [Nat.zero_mul, Nat.add_zero] at g0
      obtain ⟨c0, c1, c2, c3, c4⟩ := g1
      have hn0 : (0 : Int) < (n : Int) := by omega
      clear hr hrow
      have HC := Lib.hid (apGood_mm (M 0) (M k))
      go_wp2_with fail
      generalize hW3 : World.alloc wr _ = W3 at *
      have hb3 : Below wr.heap.size wr W3 := by subst hW3; (repeat (first | with_reducible exact Below.refl _ _ | with_reducible assumption | with_reducible refine up_alloc ?_ _ | with_reducible refine up_drew ?_ | with_reducible refine up_drewN ?_ _ | (with_reducible refine up_set ?_ ?hset _; case hset => first | (simp; done) | (simp; omega) | omega) | with_reducible refine up_trans ?_ (by with_reducible assumption)))
      have hbw3 := up_trans hb hb3
      have e0 : W3.cell? ⟨wr.heap.size, 0, none⟩ = some (.int .i64 (M k 0)) := by subst hW3; simp [go_sem]
      have e1 : W3.cell? ⟨wr.heap.size, 1, none⟩ = some (.int .i64 (M k 1)) := by subst hW3; simp [go_sem]
      have e2 : W3.cell? ⟨wr.heap.size, 2, none⟩ = some (.int .i64 (M k 2)) := by subst hW3; simp [go_sem]
      have e3 : W3.cell? ⟨wr.heap.size, 3, none⟩ = some (.int .i64 (M k 3)) := by subst hW3; simp [go_sem]
      have e4 : W3.cell? ⟨wr.heap.size, 4, none⟩ = some (.int .i64 (M k 4)) := by subst hW3; simp [go_sem]
      have g3 := g0.up hb3
      have d0 := cell_regrown g3.c0
      have d1 := cell_regrown g3.c1
      have d2 := cell_regrown g3.c2
      have d3 := cell_regrown g3.c3
      have d4 := cell_regrown g3.c4
      replace e0 := cell_regrown e0
      replace e1 := cell_regrown e1
      replace e2 := cell_regrown e2
      replace e3 := cell_regrown e3
      replace e4 := cell_regrown e4
      clear hW3 g0 g3 c0 c1 c2 c3 c4
      cases hq : tgMM (M 0) (M k) with
      | true =>
        rw [hq] at HC
        have HQ := Lib.hid hq
        clear hq
        refine wp_region_up (by kernel_rfl) (by kernel_rfl) ?_
        repeat (go_big_quiet_step (exact up_of (fun W _ => HC.out W) _ _))
        refine wpQuiet_nil ?_
        intro w1 hb0
        obtain ⟨hc0, hf0⟩ := bcell hb0
        go_wp2_with fail
        go_roundw
        case rel => exact ⟨k + 1, by omega, by go_num, up_trans hbw3 hb0, allB_succ HA.out HQ.out⟩
        case measure => simp [intOf]; omega
      | false =>
        rw [hq] at HC
        have HQ := Lib.hid hq
        clear hq
        refine wp_region_up (by kernel_rfl) (by kernel_rfl) ?_
        repeat (go_big_quiet_step (exact up_of (fun W _ => HC.out W) _ _))
        refine wpQuiet_nil ?_
        intro w1 hb0
        obtain ⟨hc0, hf0⟩ := bcell hb0
        go_wp2_with fail
        go_ret
        exact Ans.bool (by rw [HE.out, allB_no hlt HQ.out]; simp) (up_trans hbw3 hb0)
    · have e : k = n := by omega
      subst e
      go_wp2_with (go_at_call 71; refine (l1In_any _ _ _ _).mono ?_; rintro e w1 ⟨rfl, rfl⟩)
      go_ret
      exact Ans.bool (by rw [HE.out, HA.out]; simp) hb
/-- The closest two so far, and their least square. -/
abbrev CSt : Type := (Nat × Nat) × (Int × Int)
def clStep (D : Nat → Nat → Int × Int) (s : CSt) (a b : Nat) : CSt := if lessB (D a b).1 (D a b).2 s.2.1 s.2.2 then ((a, b), D a b) else s
def clIn (D : Nat → Nat → Int × Int) (a : Nat) (s : CSt) : Nat → CSt
  | 0 => s
  | j + 1 => clStep D (clIn D a s j) a (a + 1 + j)
def clOut (D : Nat → Nat → Int × Int) (n : Nat) : Nat → CSt
  | 0 => ((0, 1), D 0 1)
  | a + 1 => clIn D a (clOut D n a) (n - (a + 1))
def clGood (D : Nat → Nat → Int × Int) (n : Nat) (s : CSt) : Prop := s.2 = D s.1.1 s.1.2 ∧ s.1.1 < n ∧ s.1.2 < n
theorem clStep_good {D : Nat → Nat → Int × Int} {n : Nat} {s : CSt} (h : clGood D n s) {a b : Nat} (ha : a < n) (hb : b < n) : clGood D n (clStep D s a b) := by
  unfold clStep
  split
  · exact ⟨rfl, ha, hb⟩
  · exact h
theorem clIn_good {D : Nat → Nat → Int × Int} {n : Nat} {s : CSt} (h : clGood D n s) {a : Nat} (ha : a < n) : ∀ j, a + 1 + j ≤ n → clGood D n (clIn D a s j)
  | 0, _ => h
  | j + 1, hj => clStep_good (clIn_good h ha j (by omega)) ha (by omega)
theorem clOut_good {D : Nat → Nat → Int × Int} {n : Nat} (hn : 2 ≤ n) : ∀ a, a ≤ n → clGood D n (clOut D n a)
  | 0, _ => ⟨rfl, by show 0 < n; omega, by show 1 < n; omega⟩
  | a + 1, ha => clIn_good (clOut_good hn a (by omega)) (by omega) _ (by omega)
def mmD (M : Nat → Nat → Int) (i j : Nat) : Int × Int := apMM (M i) (M j)
def DBd (p : Int × Int) : Prop := (0 ≤ p.1 ∧ p.1 ≤ 11838003609600) ∧ 1 ≤ p.2 ∧ p.2 ≤ 8359936
theorem mmD_bd {n : Nat} {M : Nat → Nat → Int} (h : ∀ i, i < n → mvB (M i) = true) {i j : Nat} (hi : i < n) (hj : j < n) : DBd (mmD M i j) := apMM_bd (h i hi) (h j hj)
set_option maxRecDepth 100000 in
set_option maxHeartbeats 4000000 in
theorem closestMoves_g (v : Value) (n : Nat) (M : Nat → Nat → Int) (w : World) (h : Moves w v n M) (ht : tgL n M = true) :
    Calls Try.prog 86 #[v] w (Ans w (.tuple #[.int .i64 ((clOut (mmD M) n n).1.1 : Nat), .int .i64 ((clOut (mmD M) n n).1.2 : Nat)])) := by
  obtain ⟨A, c, rfl, hnc, hrow⟩ := h
  obtain ⟨⟨n2, n12⟩, _, hmv⟩ := tgL_iff ht
  obtain ⟨b, o, rfl, hr⟩ := hrow (by omega)
  have HR := Lib.hid hr
  have HM := Lib.hid hmv
  have HG := Lib.hid (fun a ha => clOut_good (D := mmD M) (n := n) n2 a ha)
  have HB := Lib.hid (fun i j hi hj => mmD_bd (n := n) (M := M) hmv (i := i) (j := j) hi hj)
  have HCA := Lib.hid (fun i j (hi : i < n) (hj : j < n) => leastApart_mm (M i) (M j) (hmv i hi) (hmv j hj))
  have HD := Lib.hid (show ∀ i j, apMM (M i) (M j) = mmD M i j from fun _ _ => rfl)
  have H0 := Lib.hid (show clOut (mmD M) n 0 = ((0, 1), mmD M 0 1) from rfl)
  have HS := Lib.hid (show ∀ a, clOut (mmD M) n (a + 1) = clIn (mmD M) a (clOut (mmD M) n a) (n - (a + 1)) from fun _ => rfl)
  clear hr hrow hmv ht
  have g0 := HR.out 0 (by omega)
  have g1 := HR.out 1 (by omega)
  rw [Nat.zero_mul, Nat.add_zero] at g0
  rw [Nat.one_mul] at g1
  have hC := HCA.out 0 1 (by omega) (by omega)
  rw [HD.out] at hC
  have HC0 := Lib.hid hC
  clear hC
  obtain ⟨s0, hs0⟩ : ∃ s0, s0 = clOut (mmD M) n 0 := ⟨_, rfl⟩
  have e01 : (mmD M 0 1) = s0.2 := by rw [hs0, H0.out]
  rw [e01] at HC0
  have c0 := cell_regrown g0.c0
  have c1 := cell_regrown g0.c1
  have c2 := cell_regrown g0.c2
  have c3 := cell_regrown g0.c3
  have c4 := cell_regrown g0.c4
  have d0 := cell_regrown g1.c0
  have d1 := cell_regrown g1.c1
  have d2 := cell_regrown g1.c2
  have d3 := cell_regrown g1.c3
  have d4 := cell_regrown g1.c4
  have hn0 : (0 : Int) < (n : Int) := by omega
  have hn1 : (1 : Int) < (n : Int) := by omega
  have HE := Lib.hid hs0
  clear g0 g1 e01 hs0
  go_enter Try.func86, Try.ntmps86
  go_wp2_with fail
  refine wp_region_up (by kernel_rfl) (by kernel_rfl) ?_
  repeat (go_big_quiet_step (exact up_of (fun W _ => HC0.out W) _ _))
  refine wpQuiet_nil ?_
  intro w1 hb0
  obtain ⟨hc0, hf0⟩ := bcell hb0
  clear c0 c1 c2 c3 c4 d0 d1 d2 d3 d4 hc0 hf0
  go_wp2_with fail
  go_loopw [4, 5, 6, 7, 24] (fun p q t u i wr => ∃ a : Nat, a ≤ n ∧ i = .int .i64 a ∧ p = .int .i64 ((clOut (mmD M) n a).1.1 : Nat) ∧ q = .int .i64 ((clOut (mmD M) n a).1.2 : Nat) ∧ t = .int .i64 (clOut (mmD M) n a).2.1 ∧ u = .int .i64 (clOut (mmD M) n a).2.2 ∧ Below w.heap.size w wr) (fun _ _ _ _ i _ => n - (intOf i).toNat)
  case atStart => exact ⟨0, by omega, rfl, by rw [H0.out]; rfl, by rw [H0.out]; rfl, by rw [HE.out], by rw [HE.out], hb0⟩
  case round =>
    clear hb0
    obtain ⟨a, ha, rfl, rfl, rfl, rfl, rfl, hb⟩ := hrel
    by_cases hlt : a < n
    · have ga := HG.out a (by omega)
      obtain ⟨s, hs⟩ : ∃ s, s = clOut (mmD M) n a := ⟨_, rfl⟩
      rw [← hs] at ga ⊢
      have HSa := Lib.hid (show clOut (mmD M) n (a + 1) = clIn (mmD M) a s (n - (a + 1)) by rw [HS.out, hs])
      have HGI := Lib.hid (fun j hj => clIn_good ga hlt j hj)
      clear hs
      obtain ⟨W3, rfl⟩ : ∃ W3 : World, W3 = wr := ⟨_, rfl⟩
      have hbw := hb
      go_wp2_with fail
      go_loopw [4, 5, 6, 7, 9] (fun p q t u i wi => ∃ j : Nat, a + 1 + j ≤ n ∧ i = .int .i64 ((a + 1 + j : Nat) : Int) ∧ p = .int .i64 ((clIn (mmD M) a s j).1.1 : Nat) ∧ q = .int .i64 ((clIn (mmD M) a s j).1.2 : Nat) ∧ t = .int .i64 (clIn (mmD M) a s j).2.1 ∧ u = .int .i64 (clIn (mmD M) a s j).2.2 ∧ Below W3.heap.size W3 wi) (fun _ _ _ _ i _ => n - (intOf i).toNat)
      case atStart => exact ⟨0, by omega, congrArg (Value.int .i64) (by omega), rfl, rfl, rfl, rfl, Below.refl _ _⟩
      case round =>
        obtain ⟨j, hj, rfl, rfl, rfl, rfl, rfl, hb2⟩ := hrel
        by_cases hltj : a + 1 + j < n
        · have gj := HGI.out j hj
          have HSj := Lib.hid (show clIn (mmD M) a s (j + 1) = clStep (mmD M) (clIn (mmD M) a s j) a (a + 1 + j) from rfl)
          generalize clIn (mmD M) a s j = z at *
          have hC := HCA.out a (a + 1 + j) hlt hltj
          have bd := HB.out a (a + 1 + j) hlt hltj
          have bz : DBd z.2 := by rw [gj.1]; exact HB.out _ _ gj.2.1 gj.2.2
          rw [HD.out] at hC
          have HSq := Lib.hid (show clStep (mmD M) z a (a + 1 + j) = if lessB (mmD M a (a + 1 + j)).1 (mmD M a (a + 1 + j)).2 z.2.1 z.2.2 then ((a, a + 1 + j), mmD M a (a + 1 + j)) else z from rfl)
          generalize mmD M a (a + 1 + j) = r at *
          have HC := Lib.hid hC
          clear hC gj
          obtain ⟨⟨z1, z2⟩, z3, z4⟩ := z
          obtain ⟨r1, r2⟩ := r
          obtain ⟨⟨q1, q2⟩, q3, q4⟩ := bd
          obtain ⟨⟨q5, q6⟩, q7, q8⟩ := bz
          simp only at q1 q2 q3 q4 q5 q6 q7 q8 HSq HC
          have HLs := Lib.hid (lessFraction_any r1 r2 z3 z4 q1 q2 q3 q4 q5 q6 q7 q8)
          have gb := ((HR.out (a + 1 + j) hltj).up hbw).up hb2
          have d0 := cell_regrown gb.c0
          have d1 := cell_regrown gb.c1
          have d2 := cell_regrown gb.c2
          have d3 := cell_regrown gb.c3
          have d4 := cell_regrown gb.c4
          have ga2 := ((HR.out a hlt).up hbw).up hb2
          have c0 := cell_regrown ga2.c0
          have c1 := cell_regrown ga2.c1
          have c2 := cell_regrown ga2.c2
          have c3 := cell_regrown ga2.c3
          have c4 := cell_regrown ga2.c4
          clear gb ga2
          have i1 : (a : Int) < (n : Int) := by omega
          have i2 : ((a + 1 + j : Nat) : Int) < (n : Int) := by omega
          cases hq : lessB r1 r2 z3 z4 with
          | true =>
            rw [hq] at HLs
            have HZ := Lib.hid (show clIn (mmD M) a s (j + 1) = ((a, a + 1 + j), (r1, r2)) by rw [HSj.out, HSq.out, if_pos hq])
            clear hq
            go_wp2_with fail
            refine wp_region_up (by kernel_rfl) (by kernel_rfl) ?_
            repeat (go_big_quiet_step (exact up_of (fun W _ => HC.out W) _ _))
            refine wpQuiet_nil ?_
            intro w1 hb0
            obtain ⟨hc0, hf0⟩ := bcell hb0
            clear c0 c1 c2 c3 c4 d0 d1 d2 d3 d4 hc0 hf0
            go_wp2_with (go_at_call 108; refine (HLs.out _).mono ?_; rintro e wq ⟨rfl, hbq⟩)
            go_roundw
            case rel => exact ⟨j + 1, by omega, congrArg (Value.int .i64) (by omega), by rw [HZ.out], by rw [HZ.out]; exact congrArg (Value.int .i64) (show ((a : Int) + 1 + (j : Int)) = ((a + 1 + j : Nat) : Int) by omega), by rw [HZ.out], by rw [HZ.out], by (repeat (first | with_reducible exact Below.refl _ _ | with_reducible assumption | with_reducible refine up_alloc ?_ _ | with_reducible refine up_drew ?_ | with_reducible refine up_drewN ?_ _ | (with_reducible refine up_set ?_ ?hset _; case hset => first | (simp; done) | (simp; omega) | omega) | with_reducible refine up_trans ?_ (by with_reducible assumption)))⟩
            case measure => simp [intOf]; omega
          | false =>
            rw [hq] at HLs
            have HZ := Lib.hid (show clIn (mmD M) a s (j + 1) = ((z1, z2), (z3, z4)) by rw [HSj.out, HSq.out, if_neg (by rw [hq]; simp)])
            clear hq
            go_wp2_with fail
            refine wp_region_up (by kernel_rfl) (by kernel_rfl) ?_
            repeat (go_big_quiet_step (exact up_of (fun W _ => HC.out W) _ _))
            refine wpQuiet_nil ?_
            intro w1 hb0
            obtain ⟨hc0, hf0⟩ := bcell hb0
            clear c0 c1 c2 c3 c4 d0 d1 d2 d3 d4 hc0 hf0
            go_wp2_with (go_at_call 108; refine (HLs.out _).mono ?_; rintro e wq ⟨rfl, hbq⟩)
            go_roundw
            case rel => exact ⟨j + 1, by omega, congrArg (Value.int .i64) (by omega), by rw [HZ.out], by rw [HZ.out], by rw [HZ.out], by rw [HZ.out], by (repeat (first | with_reducible exact Below.refl _ _ | with_reducible assumption | with_reducible refine up_alloc ?_ _ | with_reducible refine up_drew ?_ | with_reducible refine up_drewN ?_ _ | (with_reducible refine up_set ?_ ?hset _; case hset => first | (simp; done) | (simp; omega) | omega) | with_reducible refine up_trans ?_ (by with_reducible assumption)))⟩
            case measure => simp [intOf]; omega
        · have ej : j = n - (a + 1) := by omega
          subst ej
          go_wp2_with fail
          go_roundw
          case rel => exact ⟨a + 1, by omega, by go_num, by rw [HSa.out], by rw [HSa.out], by rw [HSa.out], by rw [HSa.out], hbw.trans (hb2.mono hbw.size)⟩
          case measure => simp [intOf]; omega
    · have e : a = n := by omega
      subst e
      go_wp2_with fail
      go_ret2
      exact ⟨rfl, hb⟩
set_option maxRecDepth 100000 in
set_option maxHeartbeats 4000000 in
theorem apClosest_g (v : Value) (n : Nat) (M : Nat → Nat → Int) (w : World) (h : Moves w v n M) (ht : tgL n M = true) :
    Calls Try.prog 84 #[v] w (Ans w (.tuple #[.int .i64 ((clOut (mmD M) n n).1.1 : Nat), .int .i64 ((clOut (mmD M) n n).1.2 : Nat)])) := by
  obtain ⟨A, c, rfl, hnc, hrow⟩ := h
  obtain ⟨⟨n2, n12⟩, _, hmv⟩ := tgL_iff ht
  obtain ⟨b, o, rfl, hr⟩ := hrow (by omega)
  have HR := Lib.hid hr
  have HM := Lib.hid hmv
  have HG := Lib.hid (fun a ha => clOut_good (D := mmD M) (n := n) n2 a ha)
  have HB := Lib.hid (fun i j hi hj => mmD_bd (n := n) (M := M) hmv (i := i) (j := j) hi hj)
  have HCA := Lib.hid (fun i j (hi : i < n) (hj : j < n) => apLeast_mm (M i) (M j) (hmv i hi) (hmv j hj))
  have HD := Lib.hid (show ∀ i j, apMM (M i) (M j) = mmD M i j from fun _ _ => rfl)
  have H0 := Lib.hid (show clOut (mmD M) n 0 = ((0, 1), mmD M 0 1) from rfl)
  have HS := Lib.hid (show ∀ a, clOut (mmD M) n (a + 1) = clIn (mmD M) a (clOut (mmD M) n a) (n - (a + 1)) from fun _ => rfl)
  clear hr hrow hmv ht
  have g0 := HR.out 0 (by omega)
  have g1 := HR.out 1 (by omega)
  rw [Nat.zero_mul, Nat.add_zero] at g0
  rw [Nat.one_mul] at g1
  have hC := HCA.out 0 1 (by omega) (by omega)
  rw [HD.out] at hC
  have HC0 := Lib.hid hC
  clear hC
  obtain ⟨s0, hs0⟩ : ∃ s0, s0 = clOut (mmD M) n 0 := ⟨_, rfl⟩
  have e01 : (mmD M 0 1) = s0.2 := by rw [hs0, H0.out]
  rw [e01] at HC0
  have c0 := cell_regrown g0.c0
  have c1 := cell_regrown g0.c1
  have c2 := cell_regrown g0.c2
  have c3 := cell_regrown g0.c3
  have c4 := cell_regrown g0.c4
  have d0 := cell_regrown g1.c0
  have d1 := cell_regrown g1.c1
  have d2 := cell_regrown g1.c2
  have d3 := cell_regrown g1.c3
  have d4 := cell_regrown g1.c4
  have hn0 : (0 : Int) < (n : Int) := by omega
  have hn1 : (1 : Int) < (n : Int) := by omega
  have HE := Lib.hid hs0
  clear g0 g1 e01 hs0
  go_enter Try.func84, Try.ntmps84
  go_wp2_with fail
  refine wp_region_up (by kernel_rfl) (by kernel_rfl) ?_
  repeat (go_big_quiet_step (exact up_of (fun W _ => HC0.out W) _ _))
  refine wpQuiet_nil ?_
  intro w1 hb0
  obtain ⟨hc0, hf0⟩ := bcell hb0
  clear c0 c1 c2 c3 c4 d0 d1 d2 d3 d4 hc0 hf0
  go_wp2_with fail
  go_loopw [4, 5, 6, 7, 25] (fun p q t u i wr => ∃ a : Nat, a ≤ n ∧ i = .int .i64 a ∧ p = .int .i64 ((clOut (mmD M) n a).1.1 : Nat) ∧ q = .int .i64 ((clOut (mmD M) n a).1.2 : Nat) ∧ t = .int .i64 (clOut (mmD M) n a).2.1 ∧ u = .int .i64 (clOut (mmD M) n a).2.2 ∧ Below w.heap.size w wr) (fun _ _ _ _ i _ => n - (intOf i).toNat)
  case atStart => exact ⟨0, by omega, rfl, by rw [H0.out]; rfl, by rw [H0.out]; rfl, by rw [HE.out], by rw [HE.out], hb0⟩
  case round =>
    clear hb0
    obtain ⟨a, ha, rfl, rfl, rfl, rfl, rfl, hb⟩ := hrel
    by_cases hlt : a < n
    · have ga := HG.out a (by omega)
      obtain ⟨s, hs⟩ : ∃ s, s = clOut (mmD M) n a := ⟨_, rfl⟩
      rw [← hs] at ga ⊢
      have HSa := Lib.hid (show clOut (mmD M) n (a + 1) = clIn (mmD M) a s (n - (a + 1)) by rw [HS.out, hs])
      have HGI := Lib.hid (fun j hj => clIn_good ga hlt j hj)
      clear hs
      have gr := (HR.out a hlt).up hb
      obtain ⟨x0, x1, x2, x3, x4⟩ := gr
      go_wp2_with fail
      generalize hW3 : World.alloc wr _ = W3 at *
      have hb3 : Below wr.heap.size wr W3 := by subst hW3; (repeat (first | with_reducible exact Below.refl _ _ | with_reducible assumption | with_reducible refine up_alloc ?_ _ | with_reducible refine up_drew ?_ | with_reducible refine up_drewN ?_ _ | (with_reducible refine up_set ?_ ?hset _; case hset => first | (simp; done) | (simp; omega) | omega) | with_reducible refine up_trans ?_ (by with_reducible assumption)))
      have hbw := up_trans hb hb3
      have y0 : W3.cell? ⟨wr.heap.size, 0, none⟩ = some (.int .i64 (M a 0)) := by subst hW3; simp [go_sem]
      have y1 : W3.cell? ⟨wr.heap.size, 1, none⟩ = some (.int .i64 (M a 1)) := by subst hW3; simp [go_sem]
      have y2 : W3.cell? ⟨wr.heap.size, 2, none⟩ = some (.int .i64 (M a 2)) := by subst hW3; simp [go_sem]
      have y3 : W3.cell? ⟨wr.heap.size, 3, none⟩ = some (.int .i64 (M a 3)) := by subst hW3; simp [go_sem]
      have y4 : W3.cell? ⟨wr.heap.size, 4, none⟩ = some (.int .i64 (M a 4)) := by subst hW3; simp [go_sem]
      clear hW3 x0 x1 x2 x3 x4
      go_loopw [4, 5, 6, 7, 10] (fun p q t u i wi => ∃ j : Nat, a + 1 + j ≤ n ∧ i = .int .i64 ((a + 1 + j : Nat) : Int) ∧ p = .int .i64 ((clIn (mmD M) a s j).1.1 : Nat) ∧ q = .int .i64 ((clIn (mmD M) a s j).1.2 : Nat) ∧ t = .int .i64 (clIn (mmD M) a s j).2.1 ∧ u = .int .i64 (clIn (mmD M) a s j).2.2 ∧ Below W3.heap.size W3 wi) (fun _ _ _ _ i _ => n - (intOf i).toNat)
      case atStart => exact ⟨0, by omega, congrArg (Value.int .i64) (by omega), rfl, rfl, rfl, rfl, Below.refl _ _⟩
      case round =>
        obtain ⟨j, hj, rfl, rfl, rfl, rfl, rfl, hb2⟩ := hrel
        by_cases hltj : a + 1 + j < n
        · have gj := HGI.out j hj
          have HSj := Lib.hid (show clIn (mmD M) a s (j + 1) = clStep (mmD M) (clIn (mmD M) a s j) a (a + 1 + j) from rfl)
          generalize clIn (mmD M) a s j = z at *
          have hC := HCA.out a (a + 1 + j) hlt hltj
          have bd := HB.out a (a + 1 + j) hlt hltj
          have bz : DBd z.2 := by rw [gj.1]; exact HB.out _ _ gj.2.1 gj.2.2
          rw [HD.out] at hC
          have HSq := Lib.hid (show clStep (mmD M) z a (a + 1 + j) = if lessB (mmD M a (a + 1 + j)).1 (mmD M a (a + 1 + j)).2 z.2.1 z.2.2 then ((a, a + 1 + j), mmD M a (a + 1 + j)) else z from rfl)
          generalize mmD M a (a + 1 + j) = r at *
          have HC := Lib.hid hC
          clear hC gj
          obtain ⟨⟨z1, z2⟩, z3, z4⟩ := z
          obtain ⟨r1, r2⟩ := r
          obtain ⟨⟨q1, q2⟩, q3, q4⟩ := bd
          obtain ⟨⟨q5, q6⟩, q7, q8⟩ := bz
          simp only at q1 q2 q3 q4 q5 q6 q7 q8 HSq HC
          have HLs := Lib.hid (apLess_any r1 r2 z3 z4 q1 q2 q3 q4 q5 q6 q7 q8)
          have gb := ((HR.out (a + 1 + j) hltj).up hbw).up hb2
          have d0 := cell_regrown gb.c0
          have d1 := cell_regrown gb.c1
          have d2 := cell_regrown gb.c2
          have d3 := cell_regrown gb.c3
          have d4 := cell_regrown gb.c4
          have c0 := cell_regrown (up_keep hb2 y0)
          have c1 := cell_regrown (up_keep hb2 y1)
          have c2 := cell_regrown (up_keep hb2 y2)
          have c3 := cell_regrown (up_keep hb2 y3)
          have c4 := cell_regrown (up_keep hb2 y4)
          clear gb
          have i1 : (a : Int) < (n : Int) := by omega
          have i2 : ((a + 1 + j : Nat) : Int) < (n : Int) := by omega
          cases hq : lessB r1 r2 z3 z4 with
          | true =>
            rw [hq] at HLs
            have HZ := Lib.hid (show clIn (mmD M) a s (j + 1) = ((a, a + 1 + j), (r1, r2)) by rw [HSj.out, HSq.out, if_pos hq])
            clear hq
            go_wp2_with fail
            refine wp_region_up (by kernel_rfl) (by kernel_rfl) ?_
            repeat (go_big_quiet_step (exact up_of (fun W _ => HC.out W) _ _))
            refine wpQuiet_nil ?_
            intro w1 hb0
            obtain ⟨hc0, hf0⟩ := bcell hb0
            clear c0 c1 c2 c3 c4 d0 d1 d2 d3 d4 hc0 hf0
            go_wp2_with (go_at_call 107; refine (HLs.out _).mono ?_; rintro e wq ⟨rfl, hbq⟩)
            go_roundw
            case rel => exact ⟨j + 1, by omega, congrArg (Value.int .i64) (by omega), by rw [HZ.out], by rw [HZ.out]; exact congrArg (Value.int .i64) (show ((a : Int) + 1 + (j : Int)) = ((a + 1 + j : Nat) : Int) by omega), by rw [HZ.out], by rw [HZ.out], by (repeat (first | with_reducible exact Below.refl _ _ | with_reducible assumption | with_reducible refine up_alloc ?_ _ | with_reducible refine up_drew ?_ | with_reducible refine up_drewN ?_ _ | (with_reducible refine up_set ?_ ?hset _; case hset => first | (simp; done) | (simp; omega) | omega) | with_reducible refine up_trans ?_ (by with_reducible assumption)))⟩
            case measure => simp [intOf]; omega
          | false =>
            rw [hq] at HLs
            have HZ := Lib.hid (show clIn (mmD M) a s (j + 1) = ((z1, z2), (z3, z4)) by rw [HSj.out, HSq.out, if_neg (by rw [hq]; simp)])
            clear hq
            go_wp2_with fail
            refine wp_region_up (by kernel_rfl) (by kernel_rfl) ?_
            repeat (go_big_quiet_step (exact up_of (fun W _ => HC.out W) _ _))
            refine wpQuiet_nil ?_
            intro w1 hb0
            obtain ⟨hc0, hf0⟩ := bcell hb0
            clear c0 c1 c2 c3 c4 d0 d1 d2 d3 d4 hc0 hf0
            go_wp2_with (go_at_call 107; refine (HLs.out _).mono ?_; rintro e wq ⟨rfl, hbq⟩)
            go_roundw
            case rel => exact ⟨j + 1, by omega, congrArg (Value.int .i64) (by omega), by rw [HZ.out], by rw [HZ.out], by rw [HZ.out], by rw [HZ.out], by (repeat (first | with_reducible exact Below.refl _ _ | with_reducible assumption | with_reducible refine up_alloc ?_ _ | with_reducible refine up_drew ?_ | with_reducible refine up_drewN ?_ _ | (with_reducible refine up_set ?_ ?hset _; case hset => first | (simp; done) | (simp; omega) | omega) | with_reducible refine up_trans ?_ (by with_reducible assumption)))⟩
            case measure => simp [intOf]; omega
        · have ej : j = n - (a + 1) := by omega
          subst ej
          go_wp2_with fail
          go_roundw
          case rel => exact ⟨a + 1, by omega, by go_num, by rw [HSa.out], by rw [HSa.out], by rw [HSa.out], by rw [HSa.out], hbw.trans (hb2.mono hbw.size)⟩
          case measure => simp [intOf]; omega
    · have e : a = n := by omega
      subst e
      go_wp2_with fail
      go_ret2
      exact ⟨rfl, hb⟩
/-- What both sides' ClosestMoves and LeastOfAll hand back. -/
def cmV (n : Nat) (M : Nat → Nat → Int) : Value := if tgL n M then .tuple #[.int .i64 ((clOut (mmD M) n n).1.1 : Nat), .int .i64 ((clOut (mmD M) n n).1.2 : Nat), .bool true] else .tuple #[.int .i64 0, .int .i64 0, .bool false]
def loaV (n : Nat) (M : Nat → Nat → Int) : Value := if tgL n M then .tuple #[.int .i64 (clOut (mmD M) n n).2.1, .int .i64 (clOut (mmD M) n n).2.2, .bool true] else .tuple #[.int .i64 0, .int .i64 0, .bool false]
set_option maxRecDepth 100000 in
set_option maxHeartbeats 2000000 in
theorem iClosestMoves_any (v : Value) (n : Nat) (M : Nat → Nat → Int) (w : World) (h : Moves w v n M) (hn : n ≤ 1048576) :
    Calls Try.prog 38 #[v] w (Ans w (cmV n M)) := by
  have HT := Lib.hid (areTogether_g v n M w h hn)
  cases ht : tgL n M with
  | false =>
    rw [ht] at HT
    have HV := Lib.hid (show cmV n M = .tuple #[.int .i64 0, .int .i64 0, .bool false] by simp [cmV, ht])
    clear h ht
    go_enter Try.func38, Try.ntmps38
    go_wp2_with (go_at_call 85; refine HT.out.mono ?_; rintro e w1 ⟨rfl, hb⟩)
    go_ret3
    rw [HV.out]
    exact ⟨rfl, hb⟩
  | true =>
    rw [ht] at HT
    have HC := Lib.hid (fun W (hW : Below w.heap.size w W) => closestMoves_g v n M W (h.up hW) ht)
    have HV := Lib.hid (show cmV n M = .tuple #[.int .i64 ((clOut (mmD M) n n).1.1 : Nat), .int .i64 ((clOut (mmD M) n n).1.2 : Nat), .bool true] by simp [cmV, ht])
    clear h ht
    go_enter Try.func38, Try.ntmps38
    go_wp2_with (first | (go_at_call 85; refine HT.out.mono ?_; rintro e w1 ⟨rfl, hb⟩) | (go_at_call 86; refine (HC.out _ hb).mono ?_; rintro e w2 ⟨rfl, hb2⟩))
    go_ret3
    rw [HV.out]
    exact ⟨rfl, up_trans hb hb2⟩
set_option maxRecDepth 100000 in
set_option maxHeartbeats 2000000 in
theorem sClosestMoves_any (v : Value) (n : Nat) (M : Nat → Nat → Int) (w : World) (h : Moves w v n M) (hn : n ≤ 1048576) :
    Calls Try.prog 36 #[v] w (Ans w (cmV n M)) := by
  have HT := Lib.hid (apList_g v n M w h hn)
  cases ht : tgL n M with
  | false =>
    rw [ht] at HT
    have HV := Lib.hid (show cmV n M = .tuple #[.int .i64 0, .int .i64 0, .bool false] by simp [cmV, ht])
    clear h ht
    go_enter Try.func36, Try.ntmps36
    go_wp2_with (go_at_call 83; refine HT.out.mono ?_; rintro e w1 ⟨rfl, hb⟩)
    go_ret3
    rw [HV.out]
    exact ⟨rfl, hb⟩
  | true =>
    rw [ht] at HT
    have HC := Lib.hid (fun W (hW : Below w.heap.size w W) => apClosest_g v n M W (h.up hW) ht)
    have HV := Lib.hid (show cmV n M = .tuple #[.int .i64 ((clOut (mmD M) n n).1.1 : Nat), .int .i64 ((clOut (mmD M) n n).1.2 : Nat), .bool true] by simp [cmV, ht])
    clear h ht
    go_enter Try.func36, Try.ntmps36
    go_wp2_with (first | (go_at_call 83; refine HT.out.mono ?_; rintro e w1 ⟨rfl, hb⟩) | (go_at_call 84; refine (HC.out _ hb).mono ?_; rintro e w2 ⟨rfl, hb2⟩))
    go_ret3
    rw [HV.out]
    exact ⟨rfl, up_trans hb hb2⟩
set_option maxRecDepth 100000 in
set_option maxHeartbeats 2000000 in
theorem iLeastOfAll_any (v : Value) (n : Nat) (M : Nat → Nat → Int) (w : World) (h : Moves w v n M) (hn : n ≤ 1048576) :
    Calls Try.prog 41 #[v] w (Ans w (loaV n M)) := by
  have HT := Lib.hid (areTogether_g v n M w h hn)
  cases ht : tgL n M with
  | false =>
    rw [ht] at HT
    have HV := Lib.hid (show loaV n M = .tuple #[.int .i64 0, .int .i64 0, .bool false] by simp [loaV, ht])
    clear h ht
    go_enter Try.func41, Try.ntmps41
    go_wp2_with (go_at_call 85; refine HT.out.mono ?_; rintro e w1 ⟨rfl, hb⟩)
    go_ret3
    rw [HV.out]
    exact ⟨rfl, hb⟩
  | true =>
    rw [ht] at HT
    have HC := Lib.hid (fun W (hW : Below w.heap.size w W) => closestMoves_g v n M W (h.up hW) ht)
    have HV := Lib.hid (show loaV n M = .tuple #[.int .i64 (clOut (mmD M) n n).2.1, .int .i64 (clOut (mmD M) n n).2.2, .bool true] by simp [loaV, ht])
    obtain ⟨⟨n2, n12⟩, _, hmv⟩ := tgL_iff ht
    have hg := clOut_good (D := mmD M) n2 n (Nat.le_refl _)
    obtain ⟨A, c, rfl, hnc, hrow⟩ := h
    obtain ⟨b, o, rfl, hr⟩ := hrow (by omega)
    have HR := Lib.hid hr
    generalize clOut (mmD M) n n = z at *
    obtain ⟨⟨i, k⟩, r⟩ := z
    obtain ⟨g1, g2, g3⟩ := hg
    simp only at g1 g2 g3 HC HV
    have HL := Lib.hid (show ∀ W, Calls Try.prog 89 #[mvV (M i), mvV (M k)] W (Ans W (.tuple #[.int .i64 r.1, .int .i64 r.2])) by rw [g1]; exact leastApart_mm (M i) (M k) (hmv i g2) (hmv k g3))
    have hi : (i : Int) < (n : Int) := by omega
    have hk : (k : Int) < (n : Int) := by omega
    clear hr hrow hmv ht g1
    go_enter Try.func41, Try.ntmps41
    go_wp2_with (first | (go_at_call 85; refine HT.out.mono ?_; rintro e w1 ⟨rfl, hb⟩) | (go_at_call 86; refine (HC.out _ hb).mono ?_; rintro e w2 ⟨rfl, hb2⟩))
    have hbw := up_trans hb hb2
    have ga := (HR.out i g2).up hbw
    have gk := (HR.out k g3).up hbw
    have c0 := cell_regrown ga.c0
    have c1 := cell_regrown ga.c1
    have c2 := cell_regrown ga.c2
    have c3 := cell_regrown ga.c3
    have c4 := cell_regrown ga.c4
    have d0 := cell_regrown gk.c0
    have d1 := cell_regrown gk.c1
    have d2 := cell_regrown gk.c2
    have d3 := cell_regrown gk.c3
    have d4 := cell_regrown gk.c4
    clear ga gk
    refine wp_region_up (by kernel_rfl) (by kernel_rfl) ?_
    repeat (go_big_quiet_step (exact up_of (fun W _ => HL.out W) _ _))
    refine wpQuiet_nil ?_
    intro w1 hb0
    obtain ⟨hc0, hf0⟩ := bcell hb0
    clear c0 c1 c2 c3 c4 d0 d1 d2 d3 d4 hc0 hf0
    go_wp2_with fail
    go_ret3
    rw [HV.out]
    exact ⟨rfl, up_trans hbw hb0⟩
set_option maxRecDepth 100000 in
set_option maxHeartbeats 2000000 in
theorem sLeastOfAll_any (v : Value) (n : Nat) (M : Nat → Nat → Int) (w : World) (h : Moves w v n M) (hn : n ≤ 1048576) :
    Calls Try.prog 40 #[v] w (Ans w (loaV n M)) := by
  have HT := Lib.hid (apList_g v n M w h hn)
  cases ht : tgL n M with
  | false =>
    rw [ht] at HT
    have HV := Lib.hid (show loaV n M = .tuple #[.int .i64 0, .int .i64 0, .bool false] by simp [loaV, ht])
    clear h ht
    go_enter Try.func40, Try.ntmps40
    go_wp2_with (go_at_call 83; refine HT.out.mono ?_; rintro e w1 ⟨rfl, hb⟩)
    go_ret3
    rw [HV.out]
    exact ⟨rfl, hb⟩
  | true =>
    rw [ht] at HT
    have HC := Lib.hid (fun W (hW : Below w.heap.size w W) => apClosest_g v n M W (h.up hW) ht)
    have HV := Lib.hid (show loaV n M = .tuple #[.int .i64 (clOut (mmD M) n n).2.1, .int .i64 (clOut (mmD M) n n).2.2, .bool true] by simp [loaV, ht])
    obtain ⟨⟨n2, n12⟩, _, hmv⟩ := tgL_iff ht
    have hg := clOut_good (D := mmD M) n2 n (Nat.le_refl _)
    obtain ⟨A, c, rfl, hnc, hrow⟩ := h
    obtain ⟨b, o, rfl, hr⟩ := hrow (by omega)
    have HR := Lib.hid hr
    generalize clOut (mmD M) n n = z at *
    obtain ⟨⟨i, k⟩, r⟩ := z
    obtain ⟨g1, g2, g3⟩ := hg
    simp only at g1 g2 g3 HC HV
    have HL := Lib.hid (show ∀ W, Calls Try.prog 88 #[mvV (M i), mvV (M k)] W (Ans W (.tuple #[.int .i64 r.1, .int .i64 r.2])) by rw [g1]; exact apLeast_mm (M i) (M k) (hmv i g2) (hmv k g3))
    have hi : (i : Int) < (n : Int) := by omega
    have hk : (k : Int) < (n : Int) := by omega
    clear hr hrow hmv ht g1
    go_enter Try.func40, Try.ntmps40
    go_wp2_with (first | (go_at_call 83; refine HT.out.mono ?_; rintro e w1 ⟨rfl, hb⟩) | (go_at_call 84; refine (HC.out _ hb).mono ?_; rintro e w2 ⟨rfl, hb2⟩))
    have hbw := up_trans hb hb2
    have ga := (HR.out i g2).up hbw
    have gk := (HR.out k g3).up hbw
    have c0 := cell_regrown ga.c0
    have c1 := cell_regrown ga.c1
    have c2 := cell_regrown ga.c2
    have c3 := cell_regrown ga.c3
    have c4 := cell_regrown ga.c4
    have d0 := cell_regrown gk.c0
    have d1 := cell_regrown gk.c1
    have d2 := cell_regrown gk.c2
    have d3 := cell_regrown gk.c3
    have d4 := cell_regrown gk.c4
    clear ga gk
    refine wp_region_up (by kernel_rfl) (by kernel_rfl) ?_
    repeat (go_big_quiet_step (exact up_of (fun W _ => HL.out W) _ _))
    refine wpQuiet_nil ?_
    intro w1 hb0
    obtain ⟨hc0, hf0⟩ := bcell hb0
    clear c0 c1 c2 c3 c4 d0 d1 d2 d3 d4 hc0 hf0
    go_wp2_with fail
    go_ret3
    rw [HV.out]
    exact ⟨rfl, up_trans hbw hb0⟩
end Go.Proofs.Ytccipfpbaeoggaa
