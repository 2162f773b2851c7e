/-
  The closest pair of a chart, on both sides.
-/
import Derived.Test.YtljbcfgecbonnaaRows
import Derived.Test.YtljbcfgecbonnaaBase
import Derived.Test.YtljbcfgecbonnaaSpot
import Derived.Test.YtljbcfgecbonnaaSlice
import Derived.Test.YtljbcfgecbonnaaChart
import Derived.Test.YtljbcfgecbonnaaLawS
import Derived.Test.YtljbcfgecbonnaaOpen
namespace Go.Proofs.Ytljbcfgecbonnaa
open Go.RowKit Go.Sort Go.ChangeShapes Go.WideShapes

/-- The square of two of the spots. -/
def sqD (X Y : Nat → Int) (i j : Nat) : Int := sq (X i) (Y i) (X j) (Y j)
/-- One look: is the pair a, b closer? -/
def cpStep (D : Nat → Nat → Int) (s : Nat × Nat) (a b : Nat) : Nat × Nat := if D a b < D s.1 s.2 then (a, b) else s
/-- The pairs of a with the j next ones. -/
def cpRow (D : Nat → Nat → Int) (a : Nat) : Nat → Nat × Nat → Nat × Nat
  | 0, s => s
  | j + 1, s => cpStep D (cpRow D a j s) a (a + 1 + j)
/-- The pairs of the first k ones. -/
def cpAll (D : Nat → Nat → Int) (n : Nat) : Nat → Nat × Nat
  | 0 => (0, 1)
  | k + 1 => cpRow D k (n - 1 - k) (cpAll D n k)
def cp (D : Nat → Nat → Int) (n : Nat) : Nat × Nat := cpAll D n n

theorem cpRow_bd {D : Nat → Nat → Int} {a j n : Nat} {s : Nat × Nat} (hs : s.1 < s.2 ∧ s.2 < n) (hj : a + j < n) : (cpRow D a j s).1 < (cpRow D a j s).2 ∧ (cpRow D a j s).2 < n := by
  induction j with
  | zero => exact hs
  | succ j ih =>
    have := ih (by omega)
    have e : cpRow D a (j + 1) s = cpStep D (cpRow D a j s) a (a + 1 + j) := rfl
    rw [e]
    unfold cpStep
    split
    · exact ⟨show a < a + 1 + j by omega, show a + 1 + j < n by omega⟩
    · exact this
theorem cpAll_bd {D : Nat → Nat → Int} {n k : Nat} (hn : 2 ≤ n) (hk : k ≤ n) : (cpAll D n k).1 < (cpAll D n k).2 ∧ (cpAll D n k).2 < n := by
  induction k with
  | zero => exact ⟨show 0 < 1 by omega, show 1 < n by omega⟩
  | succ k ih => exact cpRow_bd (ih (by omega)) (by omega)
theorem cpStep_yes {D : Nat → Nat → Int} {s : Nat × Nat} {a b : Nat} (h : D a b < D s.1 s.2) : cpStep D s a b = (a, b) := if_pos h
theorem cpStep_no {D : Nat → Nat → Int} {s : Nat × Nat} {a b : Nat} (h : ¬ D a b < D s.1 s.2) : cpStep D s a b = s := if_neg h
set_option maxHeartbeats 2000000 in
theorem closestPair_any (v : Value) (n : Nat) (X Y : Nat → Int) (w : World) (h : Spots w v n X Y) (hc : chartB n X Y = true) (hn : 2 ≤ n) :
    Calls Try.prog 151 #[v] w (Ans w (.tuple #[.int .i64 ((cp (sqD X Y) n).1 : Nat), .int .i64 ((cp (sqD X Y) n).2 : Nat)])) := by
  obtain ⟨A, c, rfl, hnc, hrow⟩ := h
  obtain ⟨⟨_, hn12⟩, hsp, hdist⟩ := chartB_iff.1 hc
  clear hdist
  obtain ⟨b, o, rfl, hr⟩ := hrow (by omega)
  have HR := Lib.hid hr
  have HS := Lib.hid hsp
  clear hr hrow hc hsp
  go_enter Try.func151, Try.ntmps151
  go_wp2_with fail
  go_loopw [4, 5, 10] (fun p q i wr => ∃ k : Nat, k ≤ n ∧ i = .int .i64 k ∧ p = .int .i64 ((cpAll (sqD X Y) n k).1 : Nat) ∧ q = .int .i64 ((cpAll (sqD X Y) n k).2 : Nat) ∧ Below w.heap.size w wr) (fun _ _ i _ => n - (intOf i).toNat)
  case atStart => exact ⟨0, by omega, rfl, rfl, rfl, Below.refl _ _⟩
  case round =>
    obtain ⟨k, hk, rfl, rfl, rfl, hb⟩ := hrel
    by_cases hlt : k < n
    · obtain ⟨wo, rfl⟩ : ∃ wo : World, wo = wr := ⟨_, rfl⟩
      go_wp2_with fail
      go_loopw [4, 5, 7] (fun p q i wi => ∃ b : Nat, k + 1 ≤ b ∧ b ≤ n ∧ i = .int .i64 b ∧ p = .int .i64 ((cpRow (sqD X Y) k (b - 1 - k) (cpAll (sqD X Y) n k)).1 : Nat) ∧ q = .int .i64 ((cpRow (sqD X Y) k (b - 1 - k) (cpAll (sqD X Y) n k)).2 : Nat) ∧ Below w.heap.size w wi) (fun _ _ i _ => n - (intOf i).toNat)
      case atStart => exact ⟨k + 1, by omega, by omega, by go_num, by rw [show k + 1 - 1 - k = 0 by omega]; rfl, by rw [show k + 1 - 1 - k = 0 by omega]; rfl, hb⟩
      case round =>
        clear hb
        obtain ⟨b', hb1, hb2, rfl, rfl, rfl, hb⟩ := hrel
        have hbd := cpRow_bd (D := sqD X Y) (a := k) (j := b' - 1 - k) (cpAll_bd (D := sqD X Y) (k := k) hn (by omega)) (by omega)
        obtain ⟨s, hs⟩ : ∃ s, s = cpRow (sqD X Y) k (b' - 1 - k) (cpAll (sqD X Y) n k) := ⟨_, rfl⟩
        rw [← hs] at hbd ⊢
        have HT := Lib.hid hs
        clear hs
        obtain ⟨i1, k1⟩ := s
        obtain ⟨hs1, hs2⟩ := hbd
        dsimp only at hs1 hs2 ⊢
        by_cases hjn : b' < n
        · have c1 := cell_regrown (up_keep hb (HR.out k hlt).1)
          have c2 := cell_regrown (up_keep hb (HR.out k hlt).2)
          have c3 := cell_regrown (up_keep hb (HR.out b' hjn).1)
          have c4 := cell_regrown (up_keep hb (HR.out b' hjn).2)
          have c5 := cell_regrown (up_keep hb (HR.out i1 (by omega)).1)
          have c6 := cell_regrown (up_keep hb (HR.out i1 (by omega)).2)
          have c7 := cell_regrown (up_keep hb (HR.out k1 (by omega)).1)
          have c8 := cell_regrown (up_keep hb (HR.out k1 (by omega)).2)
          have s1 := HS.out k hlt
          have s2 := HS.out b' hjn
          have s3 := HS.out i1 (by omega)
          have s4 := HS.out k1 (by omega)
          have hi1 : i1 < n := by omega
          have e1 : cpRow (sqD X Y) k (b' + 1 - 1 - k) (cpAll (sqD X Y) n k) = cpStep (sqD X Y) (i1, k1) k b' := by
            rw [show b' + 1 - 1 - k = (b' - 1 - k) + 1 by omega, HT.out, show b' = k + 1 + (b' - 1 - k) by omega]; simp [cpRow]
          have HE := Lib.hid e1
          clear e1
          by_cases hd : sq (X k) (Y k) (X b') (Y b') < sq (X i1) (Y i1) (X k1) (Y k1)
          · have HN := Lib.hid (cpStep_yes (D := sqD X Y) (s := (i1, k1)) (a := k) (b := b') hd)
            go_wp2_with fail
            refine wp_region_up (by kernel_rfl) (by kernel_rfl) ?_
            repeat (go_big_quiet_step (exact up_of (fun W _ => squareOf_any _ _ _ _ (by with_reducible assumption) (by with_reducible assumption) W) _ _))
            refine wpQuiet_nil ?_
            intro w1 hb0
            obtain ⟨hc0, hf0⟩ := bcell hb0
            go_wp2_with fail
            go_roundw
            case rel => exact ⟨b' + 1, by omega, by omega, by go_num, by rw [HE.out, HN.out], by rw [HE.out, HN.out], by (repeat (first | with_reducible exact Below.refl _ _ | with_reducible assumption | with_reducible refine up_alloc ?_ _ | with_reducible refine up_drew ?_ | with_reducible refine up_drewN ?_ _ | (with_reducible refine up_set ?_ ?hset _; case hset => first | (simp; done) | (simp; omega) | omega) | with_reducible refine up_trans ?_ (by with_reducible assumption)))⟩
            case measure => simp [intOf]; omega
          · have HN := Lib.hid (cpStep_no (D := sqD X Y) (s := (i1, k1)) (a := k) (b := b') hd)
            have hd' : decide (sq (X k) (Y k) (X b') (Y b') < sq (X i1) (Y i1) (X k1) (Y k1)) = false := decide_eq_false hd
            go_wp2_with fail
            refine wp_region_up (by kernel_rfl) (by kernel_rfl) ?_
            repeat (go_big_quiet_step (exact up_of (fun W _ => squareOf_any _ _ _ _ (by with_reducible assumption) (by with_reducible assumption) W) _ _))
            refine wpQuiet_nil ?_
            intro w1 hb0
            obtain ⟨hc0, hf0⟩ := bcell hb0
            go_wp2_with fail
            go_roundw
            case rel => exact ⟨b' + 1, by omega, by omega, by go_num, by rw [HE.out, HN.out], by rw [HE.out, HN.out], by (repeat (first | with_reducible exact Below.refl _ _ | with_reducible assumption | with_reducible refine up_alloc ?_ _ | with_reducible refine up_drew ?_ | with_reducible refine up_drewN ?_ _ | (with_reducible refine up_set ?_ ?hset _; case hset => first | (simp; done) | (simp; omega) | omega) | with_reducible refine up_trans ?_ (by with_reducible assumption)))⟩
            case measure => simp [intOf]; omega
        · have hbb : b' = n := by omega
          have e1 : (i1, k1) = cpAll (sqD X Y) n (k + 1) := by rw [HT.out, hbb]; rfl
          have HE := Lib.hid e1
          clear e1
          subst hbb
          go_wp2_with fail
          go_roundw
          case rel => exact ⟨k + 1, by omega, by go_num, by rw [← HE.out], by rw [← HE.out], hb⟩
          case measure => simp [intOf]; omega
    · have e : k = n := by omega
      subst e
      go_wp2_with fail
      go_ret2
      exact ⟨rfl, hb⟩
/-- What chLeast holds: nothing yet, or the pair s and its square. -/
def ClSt (D : Nat → Nat → Int) (none_ : Prop) (s : Nat × Nat) (p q : Nat) (l : Int) : Prop := (none_ ∧ p = 0 ∧ q = 0 ∧ l = -1) ∨ (¬ none_ ∧ p = s.1 ∧ q = s.2 ∧ l = D s.1 s.2)
theorem ClSt.cong {D : Nat → Nat → Int} {a b : Prop} {s t : Nat × Nat} {p q : Nat} {l : Int} (h : ClSt D a s p q l) (hab : a ↔ b) (hst : s = t) : ClSt D b t p q l := by
  subst hst
  rcases h with h | h
  · exact .inl ⟨hab.1 h.1, h.2⟩
  · exact .inr ⟨fun hb => h.1 (hab.2 hb), h.2⟩
set_option maxHeartbeats 2000000 in
theorem chLeast_any (v : Value) (n : Nat) (X Y : Nat → Int) (w : World) (h : Spots w v n X Y) (hc : chartB n X Y = true) (hn : 2 ≤ n) :
    Calls Try.prog 98 #[v] w (Ans w (.tuple #[.int .i64 ((cp (sqD X Y) n).1 : Nat), .int .i64 ((cp (sqD X Y) n).2 : Nat), .int .i64 (sqD X Y (cp (sqD X Y) n).1 (cp (sqD X Y) n).2)])) := by
  obtain ⟨A, c, rfl, hnc, hrow⟩ := h
  obtain ⟨⟨_, hn12⟩, hsp, hdist⟩ := chartB_iff.1 hc
  clear hdist
  obtain ⟨b, o, rfl, hr⟩ := hrow (by omega)
  have HR := Lib.hid hr
  have HS := Lib.hid hsp
  clear hr hrow hc hsp
  go_enter Try.func98, Try.ntmps98
  go_wp2_with fail
  go_loopw [5, 6, 7, 14] (fun p q l i wr => ∃ k : Nat, k ≤ n ∧ i = .int .i64 k ∧ ∃ (p' q' : Nat) (l' : Int), p = .int .i64 p' ∧ q = .int .i64 q' ∧ l = .int .i64 l' ∧ ClSt (sqD X Y) (k = 0) (cpAll (sqD X Y) n k) p' q' l' ∧ Below w.heap.size w wr) (fun _ _ _ i _ => n - (intOf i).toNat)
  case atStart => exact ⟨0, by omega, rfl, 0, 0, -1, rfl, rfl, rfl, .inl ⟨rfl, rfl, rfl, rfl⟩, Below.refl _ _⟩
  case round =>
    obtain ⟨k, hk, rfl, p', q', l', rfl, rfl, rfl, hst, hb⟩ := hrel
    have HST := Lib.hid hst
    clear hst
    by_cases hlt : k < n
    · obtain ⟨wo, rfl⟩ : ∃ wo : World, wo = wr := ⟨_, rfl⟩
      have c1 := up_keep hb (HR.out k hlt).1
      have c2 := up_keep hb (HR.out k hlt).2
      go_wp2_with fail
      have hnew := cell_new2 wo (.int .i64 (X k)) (.int .i64 (Y k)) 33
      generalize hW : World.alloc _ _ = W at *
      have hbW : Below w.heap.size w W := by subst hW; (repeat (first | with_reducible exact Below.refl _ _ | with_reducible assumption | with_reducible refine up_alloc ?_ _ | with_reducible refine up_drew ?_ | with_reducible refine up_drewN ?_ _ | (with_reducible refine up_set ?_ ?hset _; case hset => first | (simp; done) | (simp; omega) | omega) | with_reducible refine up_trans ?_ (by with_reducible assumption)))
      have hzW : wo.heap.size < W.heap.size := by subst hW; simp
      clear hW c1 c2
      obtain ⟨g0, g1⟩ := hnew
      go_loopw [5, 6, 7, 10] (fun p q l i wi => ∃ b : Nat, k + 1 ≤ b ∧ b ≤ n ∧ i = .int .i64 b ∧ ∃ (p' q' : Nat) (l' : Int), p = .int .i64 p' ∧ q = .int .i64 q' ∧ l = .int .i64 l' ∧ ClSt (sqD X Y) (k = 0 ∧ b = 1) (cpRow (sqD X Y) k (b - 1 - k) (cpAll (sqD X Y) n k)) p' q' l' ∧ Below W.heap.size W wi) (fun _ _ _ i _ => n - (intOf i).toNat)
      case atStart => exact ⟨k + 1, by omega, by omega, by go_num, p', q', l', rfl, rfl, rfl, HST.out.cong (by omega) (by rw [show k + 1 - 1 - k = 0 by omega]; rfl), Below.refl _ _⟩
      case round =>
        clear HST
        obtain ⟨b', hb1, hb2, rfl, p', q', l', rfl, rfl, rfl, hst, hbi⟩ := hrel
        have hbd := cpRow_bd (D := sqD X Y) (a := k) (j := b' - 1 - k) (cpAll_bd (D := sqD X Y) (k := k) hn (by omega)) (by omega)
        have hs1 := HS.out k hlt
        by_cases hjn : b' < n
        · have c1 := cell_regrown (up_keep hbi g0)
          have c2 := cell_regrown (up_keep hbi g1)
          have c3 := cell_regrown (up_keep hbi (up_keep hbW (HR.out b' hjn).1))
          have c4 := cell_regrown (up_keep hbi (up_keep hbW (HR.out b' hjn).2))
          have hs2 := HS.out b' hjn
          have hsb := sq_bd hs1 hs2
          obtain ⟨hsb1, hsb2⟩ := hsb
          have e1 : cpRow (sqD X Y) k (b' + 1 - 1 - k) (cpAll (sqD X Y) n k) = cpStep (sqD X Y) (cpRow (sqD X Y) k (b' - 1 - k) (cpAll (sqD X Y) n k)) k b' := by
            rw [show b' + 1 - 1 - k = (b' - 1 - k) + 1 by omega]
            show cpStep _ _ k (k + 1 + (b' - 1 - k)) = _
            rw [show k + 1 + (b' - 1 - k) = b' by omega]
          have HE := Lib.hid e1
          clear e1
          rcases hst with ⟨⟨rfl, rfl⟩, rfl, rfl, rfl⟩ | ⟨hne, rfl, rfl, rfl⟩
          · have HD := Lib.hid (show sq (X 0) (Y 0) (X 1) (Y 1) = sqD X Y 0 1 from rfl)
            have hl : decide ((-1 : Int) < 0) = true := rfl
            go_wp2_with fail
            refine wp_region_up (by kernel_rfl) (by kernel_rfl) ?_
            repeat (go_big_quiet_step (exact up_of (fun W _ => stSquare_any _ _ _ _ (by with_reducible assumption) (by with_reducible assumption) W) _ _))
            refine wpQuiet_nil ?_
            intro w1 hb0
            obtain ⟨hc0, hf0⟩ := bcell hb0
            go_wp2_with fail
            go_roundw
            case rel => exact ⟨2, by omega, by omega, by go_num, 0, 1, _, rfl, rfl, rfl, .inr ⟨by omega, by rw [HE.out]; rw [cpStep_no (by exact Int.lt_irrefl _)]; rfl, by rw [HE.out]; rw [cpStep_no (by exact Int.lt_irrefl _)]; rfl, by rw [HE.out]; rw [cpStep_no (by exact Int.lt_irrefl _)]; rfl⟩, up_trans hbi hb0⟩
            case measure => simp [intOf]; omega
          · generalize hs : cpRow (sqD X Y) k (b' - 1 - k) (cpAll (sqD X Y) n k) = s at *
            have hs3 := HS.out s.1 (by omega)
            have hs4 := HS.out s.2 (by omega)
            obtain ⟨d1, d2⟩ := sq_bd hs3 hs4
            clear hs
            obtain ⟨i1, k1⟩ := s
            obtain ⟨l1, hl1⟩ : ∃ l1, l1 = sqD X Y i1 k1 := ⟨_, rfl⟩
            have d1' : 0 ≤ l1 := by rw [hl1]; exact d1
            have HL := Lib.hid hl1
            dsimp only
            rw [← hl1]
            clear hl1 d1 d2 hs3 hs4
            have hl : decide (l1 < 0) = false := decide_eq_false (by omega)
            by_cases hd : sq (X k) (Y k) (X b') (Y b') < l1
            · have HN := Lib.hid (cpStep_yes (D := sqD X Y) (s := (i1, k1)) (a := k) (b := b') (by rw [← HL.out]; exact hd))
              go_wp2_with fail
              refine wp_region_up (by kernel_rfl) (by kernel_rfl) ?_
              repeat (go_big_quiet_step (exact up_of (fun W _ => stSquare_any _ _ _ _ (by with_reducible assumption) (by with_reducible assumption) W) _ _))
              refine wpQuiet_nil ?_
              intro w1 hb0
              obtain ⟨hc0, hf0⟩ := bcell hb0
              go_wp2_with fail
              go_roundw
              case rel => exact ⟨b' + 1, by omega, by omega, by go_num, k, b', _, rfl, rfl, rfl, .inr ⟨by omega, by rw [HE.out, HN.out], by rw [HE.out, HN.out], by rw [HE.out, HN.out]; rfl⟩, up_trans hbi hb0⟩
              case measure => simp [intOf]; omega
            · have HN := Lib.hid (cpStep_no (D := sqD X Y) (s := (i1, k1)) (a := k) (b := b') (by rw [← HL.out]; exact hd))
              have hd' : decide (sq (X k) (Y k) (X b') (Y b') < l1) = false := decide_eq_false hd
              go_wp2_with fail
              refine wp_region_up (by kernel_rfl) (by kernel_rfl) ?_
              repeat (go_big_quiet_step (exact up_of (fun W _ => stSquare_any _ _ _ _ (by with_reducible assumption) (by with_reducible assumption) W) _ _))
              refine wpQuiet_nil ?_
              intro w1 hb0
              obtain ⟨hc0, hf0⟩ := bcell hb0
              go_wp2_with fail
              go_roundw
              case rel => exact ⟨b' + 1, by omega, by omega, by go_num, i1, k1, l1, rfl, rfl, rfl, .inr ⟨by omega, by rw [HE.out, HN.out], by rw [HE.out, HN.out], by rw [HE.out, HN.out, HL.out]⟩, up_trans hbi hb0⟩
              case measure => simp [intOf]; omega
        · have hbb : b' = n := by omega
          subst hbb
          have HST := Lib.hid hst
          clear hst
          go_wp2_with fail
          go_roundw
          case rel => exact ⟨k + 1, by omega, by go_num, p', q', l', rfl, rfl, rfl, HST.out.cong (by omega) rfl, up_trans hbW hbi⟩
          case measure => simp [intOf]; omega
    · have e : k = n := by omega
      subst e
      rcases HST.out with ⟨h0, _⟩ | ⟨_, h1, h2, h3⟩
      · omega
      · have H1 := Lib.hid h1
        have H2 := Lib.hid h2
        have H3 := Lib.hid h3
        clear h1 h2 h3 HST
        go_wp2_with fail
        go_ret3
        exact ⟨by rw [H1.out, H2.out, H3.out]; rfl, hb⟩
set_option maxHeartbeats 2000000 in
theorem chLeast_one (v : Value) (X Y : Nat → Int) (w : World) (h : Spots w v 1 X Y) :
    Calls Try.prog 98 #[v] w (Ans w (.tuple #[.int .i64 0, .int .i64 0, .int .i64 (-1)])) := by
  obtain ⟨A, c, rfl, hnc, hrow⟩ := h
  obtain ⟨b, o, rfl, hr⟩ := hrow (by omega)
  obtain ⟨c1, c2⟩ := hr 0 (by omega)
  have HR := Lib.hid hr
  clear hr hrow
  rw [Nat.zero_mul, Nat.add_zero] at c1 c2
  go_enter Try.func98, Try.ntmps98
  go_wp2_with fail
  go_loopw [5, 6, 7, 14] (fun p q l i wr => ((i = .int .i64 0 ∧ wr = w) ∨ i = .int .i64 1) ∧ p = .int .i64 0 ∧ q = .int .i64 0 ∧ l = .int .i64 (-1) ∧ Below w.heap.size w wr) (fun _ _ _ i _ => 1 - (intOf i).toNat)
  case atStart => exact ⟨.inl ⟨rfl, rfl⟩, rfl, rfl, rfl, Below.refl _ _⟩
  case round =>
    obtain ⟨hi, rfl, rfl, rfl, hb⟩ := hrel
    rcases hi with ⟨rfl, rfl⟩ | rfl
    · go_wp2_with fail
      go_loopw [5, 6, 7, 10] (fun p q l i wi => i = .int .i64 1 ∧ p = .int .i64 0 ∧ q = .int .i64 0 ∧ l = .int .i64 (-1) ∧ Below wr.heap.size wr wi) (fun _ _ _ _ _ => 0)
      case atStart => exact ⟨rfl, rfl, rfl, rfl, below_alloc _ _⟩
      case round =>
        obtain ⟨rfl, rfl, rfl, rfl, hbi⟩ := hrel
        go_wp2_with fail
        go_roundw
        case rel => exact ⟨.inr rfl, rfl, rfl, rfl, hbi⟩
        case measure => simp [intOf]
    · go_wp2_with fail
      go_ret3
      exact ⟨rfl, hb⟩
/-- What ClosestPair, LeastSquare, InnerRoom hand back. -/
def cpV (n : Nat) (X Y : Nat → Int) : Value := if chartB n X Y = true ∧ 2 ≤ n then .tuple #[.int .i64 ((cp (sqD X Y) n).1 : Nat), .int .i64 ((cp (sqD X Y) n).2 : Nat), .bool true] else .tuple #[.int .i64 0, .int .i64 0, .bool false]
def lsV (n : Nat) (X Y : Nat → Int) : Value := if chartB n X Y = true ∧ 2 ≤ n then .tuple #[.int .i64 (sqD X Y (cp (sqD X Y) n).1 (cp (sqD X Y) n).2), .bool true] else .tuple #[.int .i64 0, .bool false]
def irV (n : Nat) (X Y : Nat → Int) : Value := if chartB n X Y = true ∧ 2 ≤ n then .tuple #[.int .i64 (sqD X Y (cp (sqD X Y) n).1 (cp (sqD X Y) n).2), .bool true] else .tuple #[.int .i64 0, .bool (chartB n X Y)]
set_option maxHeartbeats 1000000 in
theorem iLeastSquare_g (v : Value) (n : Nat) (X Y : Nat → Int) (w : World) (h : Spots w v n X Y) (hn : n ≤ 1048576) :
    Calls Try.prog 97 #[v] w (Ans w (lsV n X Y)) := by
  have HV := h
  obtain ⟨A, c, rfl, hnc, hrow⟩ := h
  clear hrow
  cases hc : chartB n X Y with
  | false =>
    have HR := Lib.hid (show lsV n X Y = .tuple #[.int .i64 0, .bool false] from if_neg (by simp [hc]))
    go_enter Try.func97, Try.ntmps97
    go_wp2_with ((go_at_call 13; refine (isChart_g _ _ _ _ _ (by first | exact Spots.up (by with_reducible assumption) (by (repeat (first | with_reducible exact Below.refl _ _ | with_reducible assumption | with_reducible refine up_alloc ?_ _ | with_reducible refine up_drew ?_ | with_reducible refine up_drewN ?_ _ | (with_reducible refine up_set ?_ ?hset _; case hset => first | (simp; done) | (simp; omega) | omega) | with_reducible refine up_trans ?_ (by with_reducible assumption)))) | exact OwnS.spots (OwnS.up (by with_reducible assumption) (by (repeat (first | with_reducible exact Below.refl _ _ | with_reducible assumption | with_reducible refine up_alloc ?_ _ | with_reducible refine up_drew ?_ | with_reducible refine up_drewN ?_ _ | (with_reducible refine up_set ?_ ?hset _; case hset => first | (simp; done) | (simp; omega) | omega) | with_reducible refine up_trans ?_ (by with_reducible assumption)))))) (by omega)).mono ?_; rintro e w1 ⟨rfl, hb⟩))
    go_ret2
    rw [HR.out]
    exact ⟨rfl, by (repeat (first | with_reducible exact Below.refl _ _ | with_reducible assumption | with_reducible refine up_alloc ?_ _ | with_reducible refine up_drew ?_ | with_reducible refine up_drewN ?_ _ | (with_reducible refine up_set ?_ ?hset _; case hset => first | (simp; done) | (simp; omega) | omega) | with_reducible refine up_trans ?_ (by with_reducible assumption)))⟩
  | true =>
    by_cases h2 : 2 ≤ n
    · have HR := Lib.hid (show lsV n X Y = .tuple #[.int .i64 (sqD X Y (cp (sqD X Y) n).1 (cp (sqD X Y) n).2), .bool true] from if_pos (by simp [hc, h2]))
      have HC := Lib.hid (fun w' hw => closestPair_any (.slice A n c) n X Y w' hw hc h2)
      go_enter Try.func97, Try.ntmps97
      go_wp2_with (first
        | (go_at_call 13; refine (isChart_g _ _ _ _ _ (by first | exact Spots.up (by with_reducible assumption) (by (repeat (first | with_reducible exact Below.refl _ _ | with_reducible assumption | with_reducible refine up_alloc ?_ _ | with_reducible refine up_drew ?_ | with_reducible refine up_drewN ?_ _ | (with_reducible refine up_set ?_ ?hset _; case hset => first | (simp; done) | (simp; omega) | omega) | with_reducible refine up_trans ?_ (by with_reducible assumption)))) | exact OwnS.spots (OwnS.up (by with_reducible assumption) (by (repeat (first | with_reducible exact Below.refl _ _ | with_reducible assumption | with_reducible refine up_alloc ?_ _ | with_reducible refine up_drew ?_ | with_reducible refine up_drewN ?_ _ | (with_reducible refine up_set ?_ ?hset _; case hset => first | (simp; done) | (simp; omega) | omega) | with_reducible refine up_trans ?_ (by with_reducible assumption)))))) (by omega)).mono ?_; rintro e w1 ⟨rfl, hb⟩)
        | (go_at_call 151; refine (HC.out _ (by first | exact Spots.up (by with_reducible assumption) (by (repeat (first | with_reducible exact Below.refl _ _ | with_reducible assumption | with_reducible refine up_alloc ?_ _ | with_reducible refine up_drew ?_ | with_reducible refine up_drewN ?_ _ | (with_reducible refine up_set ?_ ?hset _; case hset => first | (simp; done) | (simp; omega) | omega) | with_reducible refine up_trans ?_ (by with_reducible assumption)))) | exact OwnS.spots (OwnS.up (by with_reducible assumption) (by (repeat (first | with_reducible exact Below.refl _ _ | with_reducible assumption | with_reducible refine up_alloc ?_ _ | with_reducible refine up_drew ?_ | with_reducible refine up_drewN ?_ _ | (with_reducible refine up_set ?_ ?hset _; case hset => first | (simp; done) | (simp; omega) | omega) | with_reducible refine up_trans ?_ (by with_reducible assumption))))))).mono ?_; rintro e w1 ⟨rfl, hb⟩))
      have hbd := cpAll_bd (D := sqD X Y) (k := n) h2 (Nat.le_refl _)
      obtain ⟨A', c', he, hnc', hrow⟩ := HV
      injection he with he1 he2 he3
      subst he1 he3
      obtain ⟨b, o, rfl, hr⟩ := hrow (by omega)
      have HBw : Below w.heap.size w w1 := by (repeat (first | with_reducible exact Below.refl _ _ | with_reducible assumption | with_reducible refine up_alloc ?_ _ | with_reducible refine up_drew ?_ | with_reducible refine up_drewN ?_ _ | (with_reducible refine up_set ?_ ?hset _; case hset => first | (simp; done) | (simp; omega) | omega) | with_reducible refine up_trans ?_ (by with_reducible assumption)))
      have hs1 := (chartB_iff.1 hc).2.1 _ (show (cp (sqD X Y) n).1 < n by unfold cp; omega)
      have hs2 := (chartB_iff.1 hc).2.1 _ (show (cp (sqD X Y) n).2 < n by unfold cp; omega)
      have hi1 : (cp (sqD X Y) n).1 < n := by unfold cp; omega
      have hi2 : (cp (sqD X Y) n).2 < n := hbd.2
      have c1 := cell_regrown (up_keep HBw (hr _ hi1).1)
      have c2 := cell_regrown (up_keep HBw (hr _ hi1).2)
      have c3 := cell_regrown (up_keep HBw (hr _ hi2).1)
      have c4 := cell_regrown (up_keep HBw (hr _ hi2).2)
      have HSQ := Lib.hid (squareOf_any _ _ _ _ hs1 hs2)
      have HR2 := Lib.hid (show sqD X Y (cp (sqD X Y) n).1 (cp (sqD X Y) n).2 = sq (X (cp (sqD X Y) n).1) (Y (cp (sqD X Y) n).1) (X (cp (sqD X Y) n).2) (Y (cp (sqD X Y) n).2) from rfl)
      clear hr hrow hbd hs1 hs2 HC hc
      generalize cp (sqD X Y) n = s at *
      obtain ⟨i1, k1⟩ := s
      dsimp only at *
      refine wp_region_up (by kernel_rfl) (by kernel_rfl) ?_
      repeat (go_big_quiet_step (exact up_of (fun W _ => HSQ.out W) _ _))
      refine wpQuiet_nil ?_
      intro w1 hb0
      obtain ⟨hc0, hf0⟩ := bcell hb0
      go_wp2_with fail
      go_ret2
      rw [HR.out, HR2.out]
      exact ⟨rfl, by (repeat (first | with_reducible exact Below.refl _ _ | with_reducible assumption | with_reducible refine up_alloc ?_ _ | with_reducible refine up_drew ?_ | with_reducible refine up_drewN ?_ _ | (with_reducible refine up_set ?_ ?hset _; case hset => first | (simp; done) | (simp; omega) | omega) | with_reducible refine up_trans ?_ (by with_reducible assumption)))⟩
    · have HR := Lib.hid (show lsV n X Y = .tuple #[.int .i64 0, .bool false] from if_neg (by simp [h2]))
      go_enter Try.func97, Try.ntmps97
      go_wp2_with ((go_at_call 13; refine (isChart_g _ _ _ _ _ (by first | exact Spots.up (by with_reducible assumption) (by (repeat (first | with_reducible exact Below.refl _ _ | with_reducible assumption | with_reducible refine up_alloc ?_ _ | with_reducible refine up_drew ?_ | with_reducible refine up_drewN ?_ _ | (with_reducible refine up_set ?_ ?hset _; case hset => first | (simp; done) | (simp; omega) | omega) | with_reducible refine up_trans ?_ (by with_reducible assumption)))) | exact OwnS.spots (OwnS.up (by with_reducible assumption) (by (repeat (first | with_reducible exact Below.refl _ _ | with_reducible assumption | with_reducible refine up_alloc ?_ _ | with_reducible refine up_drew ?_ | with_reducible refine up_drewN ?_ _ | (with_reducible refine up_set ?_ ?hset _; case hset => first | (simp; done) | (simp; omega) | omega) | with_reducible refine up_trans ?_ (by with_reducible assumption)))))) (by omega)).mono ?_; rintro e w1 ⟨rfl, hb⟩))
      go_ret2
      rw [HR.out]
      exact ⟨rfl, by (repeat (first | with_reducible exact Below.refl _ _ | with_reducible assumption | with_reducible refine up_alloc ?_ _ | with_reducible refine up_drew ?_ | with_reducible refine up_drewN ?_ _ | (with_reducible refine up_set ?_ ?hset _; case hset => first | (simp; done) | (simp; omega) | omega) | with_reducible refine up_trans ?_ (by with_reducible assumption)))⟩
set_option maxHeartbeats 1000000 in
theorem iInnerRoom_g (v : Value) (n : Nat) (X Y : Nat → Int) (w : World) (h : Spots w v n X Y) (hn : n ≤ 1048576) :
    Calls Try.prog 19 #[v] w (Ans w (irV n X Y)) := by
  have HV := h
  obtain ⟨A, c, rfl, hnc, hrow⟩ := h
  clear hrow
  cases hc : chartB n X Y with
  | false =>
    have HR := Lib.hid (show irV n X Y = .tuple #[.int .i64 0, .bool false] by unfold irV; rw [if_neg (by simp [hc]), hc])
    go_enter Try.func19, Try.ntmps19
    go_wp2_with ((go_at_call 13; refine (isChart_g _ _ _ _ _ (by first | exact Spots.up (by with_reducible assumption) (by (repeat (first | with_reducible exact Below.refl _ _ | with_reducible assumption | with_reducible refine up_alloc ?_ _ | with_reducible refine up_drew ?_ | with_reducible refine up_drewN ?_ _ | (with_reducible refine up_set ?_ ?hset _; case hset => first | (simp; done) | (simp; omega) | omega) | with_reducible refine up_trans ?_ (by with_reducible assumption)))) | exact OwnS.spots (OwnS.up (by with_reducible assumption) (by (repeat (first | with_reducible exact Below.refl _ _ | with_reducible assumption | with_reducible refine up_alloc ?_ _ | with_reducible refine up_drew ?_ | with_reducible refine up_drewN ?_ _ | (with_reducible refine up_set ?_ ?hset _; case hset => first | (simp; done) | (simp; omega) | omega) | with_reducible refine up_trans ?_ (by with_reducible assumption)))))) (by omega)).mono ?_; rintro e w1 ⟨rfl, hb⟩))
    go_ret2
    rw [HR.out]
    exact ⟨rfl, by (repeat (first | with_reducible exact Below.refl _ _ | with_reducible assumption | with_reducible refine up_alloc ?_ _ | with_reducible refine up_drew ?_ | with_reducible refine up_drewN ?_ _ | (with_reducible refine up_set ?_ ?hset _; case hset => first | (simp; done) | (simp; omega) | omega) | with_reducible refine up_trans ?_ (by with_reducible assumption)))⟩
  | true =>
    by_cases h2 : 2 ≤ n
    · have HR := Lib.hid (show irV n X Y = lsV n X Y by unfold irV lsV; rw [if_pos ⟨hc, h2⟩, if_pos ⟨hc, h2⟩])
      have HC := Lib.hid (fun w' hw => iLeastSquare_g (.slice A n c) n X Y w' hw hn)
      obtain ⟨a, q, hq⟩ : ∃ a q, lsV n X Y = .tuple #[.int .i64 a, .bool q] := by unfold lsV; split <;> exact ⟨_, _, rfl⟩
      rw [hq] at HC HR
      clear hq
      have h1 : ((n : Int) == 1) = false := by simp; omega
      go_enter Try.func19, Try.ntmps19
      go_wp2_with (first
        | (go_at_call 13; refine (isChart_g _ _ _ _ _ (by first | exact Spots.up (by with_reducible assumption) (by (repeat (first | with_reducible exact Below.refl _ _ | with_reducible assumption | with_reducible refine up_alloc ?_ _ | with_reducible refine up_drew ?_ | with_reducible refine up_drewN ?_ _ | (with_reducible refine up_set ?_ ?hset _; case hset => first | (simp; done) | (simp; omega) | omega) | with_reducible refine up_trans ?_ (by with_reducible assumption)))) | exact OwnS.spots (OwnS.up (by with_reducible assumption) (by (repeat (first | with_reducible exact Below.refl _ _ | with_reducible assumption | with_reducible refine up_alloc ?_ _ | with_reducible refine up_drew ?_ | with_reducible refine up_drewN ?_ _ | (with_reducible refine up_set ?_ ?hset _; case hset => first | (simp; done) | (simp; omega) | omega) | with_reducible refine up_trans ?_ (by with_reducible assumption)))))) (by omega)).mono ?_; rintro e w1 ⟨rfl, hb⟩)
        | (go_at_call 97; refine (HC.out _ (by first | exact Spots.up (by with_reducible assumption) (by (repeat (first | with_reducible exact Below.refl _ _ | with_reducible assumption | with_reducible refine up_alloc ?_ _ | with_reducible refine up_drew ?_ | with_reducible refine up_drewN ?_ _ | (with_reducible refine up_set ?_ ?hset _; case hset => first | (simp; done) | (simp; omega) | omega) | with_reducible refine up_trans ?_ (by with_reducible assumption)))) | exact OwnS.spots (OwnS.up (by with_reducible assumption) (by (repeat (first | with_reducible exact Below.refl _ _ | with_reducible assumption | with_reducible refine up_alloc ?_ _ | with_reducible refine up_drew ?_ | with_reducible refine up_drewN ?_ _ | (with_reducible refine up_set ?_ ?hset _; case hset => first | (simp; done) | (simp; omega) | omega) | with_reducible refine up_trans ?_ (by with_reducible assumption))))))).mono ?_; rintro e w1 ⟨rfl, hb⟩))
      go_ret2
      rw [HR.out]
      exact ⟨rfl, by (repeat (first | with_reducible exact Below.refl _ _ | with_reducible assumption | with_reducible refine up_alloc ?_ _ | with_reducible refine up_drew ?_ | with_reducible refine up_drewN ?_ _ | (with_reducible refine up_set ?_ ?hset _; case hset => first | (simp; done) | (simp; omega) | omega) | with_reducible refine up_trans ?_ (by with_reducible assumption)))⟩
    · have hn1 : n = 1 := by have := (chartB_iff.1 hc).1; omega
      subst hn1
      have HR := Lib.hid (show irV 1 X Y = .tuple #[.int .i64 0, .bool true] by unfold irV; rw [if_neg (by omega), hc])
      go_enter Try.func19, Try.ntmps19
      go_wp2_with ((go_at_call 13; refine (isChart_g _ _ _ _ _ (by first | exact Spots.up (by with_reducible assumption) (by (repeat (first | with_reducible exact Below.refl _ _ | with_reducible assumption | with_reducible refine up_alloc ?_ _ | with_reducible refine up_drew ?_ | with_reducible refine up_drewN ?_ _ | (with_reducible refine up_set ?_ ?hset _; case hset => first | (simp; done) | (simp; omega) | omega) | with_reducible refine up_trans ?_ (by with_reducible assumption)))) | exact OwnS.spots (OwnS.up (by with_reducible assumption) (by (repeat (first | with_reducible exact Below.refl _ _ | with_reducible assumption | with_reducible refine up_alloc ?_ _ | with_reducible refine up_drew ?_ | with_reducible refine up_drewN ?_ _ | (with_reducible refine up_set ?_ ?hset _; case hset => first | (simp; done) | (simp; omega) | omega) | with_reducible refine up_trans ?_ (by with_reducible assumption)))))) (by omega)).mono ?_; rintro e w1 ⟨rfl, hb⟩))
      go_ret2
      rw [HR.out]
      exact ⟨rfl, by (repeat (first | with_reducible exact Below.refl _ _ | with_reducible assumption | with_reducible refine up_alloc ?_ _ | with_reducible refine up_drew ?_ | with_reducible refine up_drewN ?_ _ | (with_reducible refine up_set ?_ ?hset _; case hset => first | (simp; done) | (simp; omega) | omega) | with_reducible refine up_trans ?_ (by with_reducible assumption)))⟩
set_option maxHeartbeats 1000000 in
theorem sInnerRoom_g (v : Value) (n : Nat) (X Y : Nat → Int) (w : World) (h : Spots w v n X Y) (hn : n ≤ 1048576) :
    Calls Try.prog 20 #[v] w (Ans w (irV n X Y)) := by
  have HV := h
  cases hc : chartB n X Y with
  | false =>
    have HR := Lib.hid (show irV n X Y = .tuple #[.int .i64 0, .bool false] by unfold irV; rw [if_neg (by simp [hc]), hc])
    go_enter Try.func20, Try.ntmps20
    go_wp2_with ((go_at_call 86; refine (chGood_g _ _ _ _ _ (by first | exact Spots.up (by with_reducible assumption) (by (repeat (first | with_reducible exact Below.refl _ _ | with_reducible assumption | with_reducible refine up_alloc ?_ _ | with_reducible refine up_drew ?_ | with_reducible refine up_drewN ?_ _ | (with_reducible refine up_set ?_ ?hset _; case hset => first | (simp; done) | (simp; omega) | omega) | with_reducible refine up_trans ?_ (by with_reducible assumption)))) | exact OwnS.spots (OwnS.up (by with_reducible assumption) (by (repeat (first | with_reducible exact Below.refl _ _ | with_reducible assumption | with_reducible refine up_alloc ?_ _ | with_reducible refine up_drew ?_ | with_reducible refine up_drewN ?_ _ | (with_reducible refine up_set ?_ ?hset _; case hset => first | (simp; done) | (simp; omega) | omega) | with_reducible refine up_trans ?_ (by with_reducible assumption)))))) (by omega)).mono ?_; rintro e w1 ⟨rfl, hb⟩))
    go_ret2
    rw [HR.out]
    exact ⟨rfl, by (repeat (first | with_reducible exact Below.refl _ _ | with_reducible assumption | with_reducible refine up_alloc ?_ _ | with_reducible refine up_drew ?_ | with_reducible refine up_drewN ?_ _ | (with_reducible refine up_set ?_ ?hset _; case hset => first | (simp; done) | (simp; omega) | omega) | with_reducible refine up_trans ?_ (by with_reducible assumption)))⟩
  | true =>
    by_cases h2 : 2 ≤ n
    · have hbd := cpAll_bd (D := sqD X Y) (k := n) h2 (Nat.le_refl _)
      have hs1 := (chartB_iff.1 hc).2.1 _ (show (cp (sqD X Y) n).1 < n by unfold cp; omega)
      have hs2 := (chartB_iff.1 hc).2.1 _ (show (cp (sqD X Y) n).2 < n by unfold cp; omega)
      have h0 : 0 ≤ sqD X Y (cp (sqD X Y) n).1 (cp (sqD X Y) n).2 := (sq_bd hs1 hs2).1
      have HR := Lib.hid (show irV n X Y = .tuple #[.int .i64 (sqD X Y (cp (sqD X Y) n).1 (cp (sqD X Y) n).2), .bool true] from if_pos ⟨hc, h2⟩)
      have HC := Lib.hid (fun w' hw => chLeast_any v n X Y w' hw hc h2)
      clear hs1 hs2 hbd
      generalize sqD X Y (cp (sqD X Y) n).1 (cp (sqD X Y) n).2 = a at *
      have HM := Lib.hid (show max 0 a = a by omega)
      go_enter Try.func20, Try.ntmps20
      go_wp2_with (first
        | (go_at_call 86; refine (chGood_g _ _ _ _ _ (by first | exact Spots.up (by with_reducible assumption) (by (repeat (first | with_reducible exact Below.refl _ _ | with_reducible assumption | with_reducible refine up_alloc ?_ _ | with_reducible refine up_drew ?_ | with_reducible refine up_drewN ?_ _ | (with_reducible refine up_set ?_ ?hset _; case hset => first | (simp; done) | (simp; omega) | omega) | with_reducible refine up_trans ?_ (by with_reducible assumption)))) | exact OwnS.spots (OwnS.up (by with_reducible assumption) (by (repeat (first | with_reducible exact Below.refl _ _ | with_reducible assumption | with_reducible refine up_alloc ?_ _ | with_reducible refine up_drew ?_ | with_reducible refine up_drewN ?_ _ | (with_reducible refine up_set ?_ ?hset _; case hset => first | (simp; done) | (simp; omega) | omega) | with_reducible refine up_trans ?_ (by with_reducible assumption)))))) (by omega)).mono ?_; rintro e w1 ⟨rfl, hb⟩)
        | (go_at_call 98; refine (HC.out _ (by first | exact Spots.up (by with_reducible assumption) (by (repeat (first | with_reducible exact Below.refl _ _ | with_reducible assumption | with_reducible refine up_alloc ?_ _ | with_reducible refine up_drew ?_ | with_reducible refine up_drewN ?_ _ | (with_reducible refine up_set ?_ ?hset _; case hset => first | (simp; done) | (simp; omega) | omega) | with_reducible refine up_trans ?_ (by with_reducible assumption)))) | exact OwnS.spots (OwnS.up (by with_reducible assumption) (by (repeat (first | with_reducible exact Below.refl _ _ | with_reducible assumption | with_reducible refine up_alloc ?_ _ | with_reducible refine up_drew ?_ | with_reducible refine up_drewN ?_ _ | (with_reducible refine up_set ?_ ?hset _; case hset => first | (simp; done) | (simp; omega) | omega) | with_reducible refine up_trans ?_ (by with_reducible assumption))))))).mono ?_; rintro e w1 ⟨rfl, hb⟩)
        | (go_at_call 94; refine (l1Most_any _ _ _).mono ?_; rintro e w1 ⟨rfl, rfl⟩; rw [HM.out]))
      go_ret2
      rw [HR.out]
      exact ⟨rfl, by (repeat (first | with_reducible exact Below.refl _ _ | with_reducible assumption | with_reducible refine up_alloc ?_ _ | with_reducible refine up_drew ?_ | with_reducible refine up_drewN ?_ _ | (with_reducible refine up_set ?_ ?hset _; case hset => first | (simp; done) | (simp; omega) | omega) | with_reducible refine up_trans ?_ (by with_reducible assumption)))⟩
    · have hn1 : n = 1 := by have := (chartB_iff.1 hc).1; omega
      subst hn1
      have HR := Lib.hid (show irV 1 X Y = .tuple #[.int .i64 0, .bool true] by unfold irV; rw [if_neg (by omega), hc])
      go_enter Try.func20, Try.ntmps20
      go_wp2_with (first
        | (go_at_call 86; refine (chGood_g _ _ _ _ _ (by first | exact Spots.up (by with_reducible assumption) (by (repeat (first | with_reducible exact Below.refl _ _ | with_reducible assumption | with_reducible refine up_alloc ?_ _ | with_reducible refine up_drew ?_ | with_reducible refine up_drewN ?_ _ | (with_reducible refine up_set ?_ ?hset _; case hset => first | (simp; done) | (simp; omega) | omega) | with_reducible refine up_trans ?_ (by with_reducible assumption)))) | exact OwnS.spots (OwnS.up (by with_reducible assumption) (by (repeat (first | with_reducible exact Below.refl _ _ | with_reducible assumption | with_reducible refine up_alloc ?_ _ | with_reducible refine up_drew ?_ | with_reducible refine up_drewN ?_ _ | (with_reducible refine up_set ?_ ?hset _; case hset => first | (simp; done) | (simp; omega) | omega) | with_reducible refine up_trans ?_ (by with_reducible assumption)))))) (by omega)).mono ?_; rintro e w1 ⟨rfl, hb⟩)
        | (go_at_call 98; refine (chLeast_one _ X Y _ (by first | exact Spots.up (by with_reducible assumption) (by (repeat (first | with_reducible exact Below.refl _ _ | with_reducible assumption | with_reducible refine up_alloc ?_ _ | with_reducible refine up_drew ?_ | with_reducible refine up_drewN ?_ _ | (with_reducible refine up_set ?_ ?hset _; case hset => first | (simp; done) | (simp; omega) | omega) | with_reducible refine up_trans ?_ (by with_reducible assumption)))) | exact OwnS.spots (OwnS.up (by with_reducible assumption) (by (repeat (first | with_reducible exact Below.refl _ _ | with_reducible assumption | with_reducible refine up_alloc ?_ _ | with_reducible refine up_drew ?_ | with_reducible refine up_drewN ?_ _ | (with_reducible refine up_set ?_ ?hset _; case hset => first | (simp; done) | (simp; omega) | omega) | with_reducible refine up_trans ?_ (by with_reducible assumption))))))).mono ?_; rintro e w1 ⟨rfl, hb⟩)
        | (go_at_call 94; refine (l1Most_any _ _ _).mono ?_; rintro e w1 ⟨rfl, rfl⟩; rw [show max (0 : Int) (-1) = 0 from rfl]))
      go_ret2
      rw [HR.out]
      exact ⟨rfl, by (repeat (first | with_reducible exact Below.refl _ _ | with_reducible assumption | with_reducible refine up_alloc ?_ _ | with_reducible refine up_drew ?_ | with_reducible refine up_drewN ?_ _ | (with_reducible refine up_set ?_ ?hset _; case hset => first | (simp; done) | (simp; omega) | omega) | with_reducible refine up_trans ?_ (by with_reducible assumption)))⟩
end Go.Proofs.Ytljbcfgecbonnaa
