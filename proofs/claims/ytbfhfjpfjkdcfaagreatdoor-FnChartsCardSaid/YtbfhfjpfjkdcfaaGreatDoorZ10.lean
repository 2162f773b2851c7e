/- Words and contracts, part 10. -/
import Derived.Test.YtbfhfjpfjkdcfaaGreatDoorRows
import Derived.Maps.AppendAt
import Derived.Test.YtbfhfjpfjkdcfaaGreatDoorZ9
namespace Go.Proofs.YtbfhfjpfjkdcfaaGreatDoor
open Go.RowKit Go.Sort Go.ChangeShapes Go.WideShapes

/-- The square of two of the spots. -/
def sqD (X Y : Nat → Int) (i j : Nat) : Int := sq (X i) (Y i) (X j) (Y j)
/-- One look: is the pair a, b closer? -/
def cpStep (D : Nat → Nat → Int) (s : Nat × Nat) (a b : Nat) : Nat × Nat := if D a b < D s.1 s.2 then (a, b) else s
/-- The pairs of a with the j next ones. -/
def cpRow (D : Nat → Nat → Int) (a : Nat) : Nat → Nat × Nat → Nat × Nat
  | 0, s => s
  | j + 1, s => cpStep D (cpRow D a j s) a (a + 1 + j)
/-- The pairs of the first k ones. -/
def cpAll (D : Nat → Nat → Int) (n : Nat) : Nat → Nat × Nat
  | 0 => (0, 1)
  | k + 1 => cpRow D k (n - 1 - k) (cpAll D n k)
def cp (D : Nat → Nat → Int) (n : Nat) : Nat × Nat := cpAll D n n

theorem cpRow_bd {D : Nat → Nat → Int} {a j n : Nat} {s : Nat × Nat} (hs : s.1 < s.2 ∧ s.2 < n) (hj : a + j < n) : (cpRow D a j s).1 < (cpRow D a j s).2 ∧ (cpRow D a j s).2 < n := by
  induction j with
  | zero => exact hs
  | succ j ih =>
    have := ih (by omega)
    have e : cpRow D a (j + 1) s = cpStep D (cpRow D a j s) a (a + 1 + j) := rfl
    rw [e]
    unfold cpStep
    split
    · exact ⟨show a < a + 1 + j by omega, show a + 1 + j < n by omega⟩
    · exact this
theorem cpAll_bd {D : Nat → Nat → Int} {n k : Nat} (hn : 2 ≤ n) (hk : k ≤ n) : (cpAll D n k).1 < (cpAll D n k).2 ∧ (cpAll D n k).2 < n := by
  induction k with
  | zero => exact ⟨show 0 < 1 by omega, show 1 < n by omega⟩
  | succ k ih => exact cpRow_bd (ih (by omega)) (by omega)
theorem cpStep_yes {D : Nat → Nat → Int} {s : Nat × Nat} {a b : Nat} (h : D a b < D s.1 s.2) : cpStep D s a b = (a, b) := if_pos h
theorem cpStep_no {D : Nat → Nat → Int} {s : Nat × Nat} {a b : Nat} (h : ¬ D a b < D s.1 s.2) : cpStep D s a b = s := if_neg h
set_option maxHeartbeats 2000000 in
theorem closestPair_any (v : Value) (n : Nat) (X Y : Nat → Int) (w : World) (h : Spots w v n X Y) (hc : chartB n X Y = true) (hn : 2 ≤ n) :
    Calls Tryz.prog 31 #[v] w (Ans w (.tuple #[.int .i64 ((cp (sqD X Y) n).1 : Nat), .int .i64 ((cp (sqD X Y) n).2 : Nat)])) := by
  obtain ⟨A, c, rfl, hnc, hrow⟩ := h
  obtain ⟨⟨_, hn12⟩, hsp, hdist⟩ := chartB_iff.1 hc
  clear hdist
  obtain ⟨b, o, rfl, hr⟩ := hrow (by omega)
  have HR := Lib.hid hr
  have HS := Lib.hid hsp
  clear hr hrow hc hsp
  go_enter Tryz.func31, Tryz.ntmps31
  go_wp2_with fail
  go_loopw [4, 5, 10] (fun p q i wr => ∃ k : Nat, k ≤ n ∧ i = .int .i64 k ∧ p = .int .i64 ((cpAll (sqD X Y) n k).1 : Nat) ∧ q = .int .i64 ((cpAll (sqD X Y) n k).2 : Nat) ∧ Below w.heap.size w wr) (fun _ _ i _ => n - (intOf i).toNat)
  case atStart => exact ⟨0, by omega, rfl, rfl, rfl, Below.refl _ _⟩
  case round =>
    obtain ⟨k, hk, rfl, rfl, rfl, hb⟩ := hrel
    by_cases hlt : k < n
    · obtain ⟨wo, rfl⟩ : ∃ wo : World, wo = wr := ⟨_, rfl⟩
      go_wp2_with fail
      go_loopw [4, 5, 7] (fun p q i wi => ∃ b : Nat, k + 1 ≤ b ∧ b ≤ n ∧ i = .int .i64 b ∧ p = .int .i64 ((cpRow (sqD X Y) k (b - 1 - k) (cpAll (sqD X Y) n k)).1 : Nat) ∧ q = .int .i64 ((cpRow (sqD X Y) k (b - 1 - k) (cpAll (sqD X Y) n k)).2 : Nat) ∧ Below w.heap.size w wi) (fun _ _ i _ => n - (intOf i).toNat)
      case atStart => exact ⟨k + 1, by omega, by omega, by go_num, by rw [show k + 1 - 1 - k = 0 by omega]; rfl, by rw [show k + 1 - 1 - k = 0 by omega]; rfl, hb⟩
      case round =>
        clear hb
        obtain ⟨b', hb1, hb2, rfl, rfl, rfl, hb⟩ := hrel
        have hbd := cpRow_bd (D := sqD X Y) (a := k) (j := b' - 1 - k) (cpAll_bd (D := sqD X Y) (k := k) hn (by omega)) (by omega)
        obtain ⟨s, hs⟩ : ∃ s, s = cpRow (sqD X Y) k (b' - 1 - k) (cpAll (sqD X Y) n k) := ⟨_, rfl⟩
        rw [← hs] at hbd ⊢
        have HT := Lib.hid hs
        clear hs
        obtain ⟨i1, k1⟩ := s
        obtain ⟨hs1, hs2⟩ := hbd
        dsimp only at hs1 hs2 ⊢
        by_cases hjn : b' < n
        · have c1 := cell_regrown (up_keep hb (HR.out k hlt).1)
          have c2 := cell_regrown (up_keep hb (HR.out k hlt).2)
          have c3 := cell_regrown (up_keep hb (HR.out b' hjn).1)
          have c4 := cell_regrown (up_keep hb (HR.out b' hjn).2)
          have c5 := cell_regrown (up_keep hb (HR.out i1 (by omega)).1)
          have c6 := cell_regrown (up_keep hb (HR.out i1 (by omega)).2)
          have c7 := cell_regrown (up_keep hb (HR.out k1 (by omega)).1)
          have c8 := cell_regrown (up_keep hb (HR.out k1 (by omega)).2)
          have s1 := HS.out k hlt
          have s2 := HS.out b' hjn
          have s3 := HS.out i1 (by omega)
          have s4 := HS.out k1 (by omega)
          have hi1 : i1 < n := by omega
          have e1 : cpRow (sqD X Y) k (b' + 1 - 1 - k) (cpAll (sqD X Y) n k) = cpStep (sqD X Y) (i1, k1) k b' := by
            rw [show b' + 1 - 1 - k = (b' - 1 - k) + 1 by omega, HT.out, show b' = k + 1 + (b' - 1 - k) by omega]; simp [cpRow]
          have HE := Lib.hid e1
          clear e1
          by_cases hd : sq (X k) (Y k) (X b') (Y b') < sq (X i1) (Y i1) (X k1) (Y k1)
          · have HN := Lib.hid (cpStep_yes (D := sqD X Y) (s := (i1, k1)) (a := k) (b := b') hd)
            go_wp2_with fail
            refine wp_region_up (by kernel_rfl) (by kernel_rfl) ?_
            repeat (go_big_quiet_step (exact up_of (fun W _ => squareOf_any _ _ _ _ (by with_reducible assumption) (by with_reducible assumption) W) _ _))
            refine wpQuiet_nil ?_
            intro w1 hb0
            obtain ⟨hc0, hf0⟩ := bcell hb0
            go_wp2_with fail
            go_roundw
            case rel => exact ⟨b' + 1, by omega, by omega, by go_num, by rw [HE.out, HN.out], by rw [HE.out, HN.out], by (repeat (first | with_reducible exact Below.refl _ _ | with_reducible assumption | with_reducible refine up_alloc ?_ _ | with_reducible refine up_drew ?_ | with_reducible refine up_drewN ?_ _ | (with_reducible refine up_set ?_ ?hset _; case hset => first | (simp; done) | (simp; omega) | omega) | with_reducible refine up_trans ?_ (by with_reducible assumption)))⟩
            case measure => simp [intOf]; omega
          · have HN := Lib.hid (cpStep_no (D := sqD X Y) (s := (i1, k1)) (a := k) (b := b') hd)
            have hd' : decide (sq (X k) (Y k) (X b') (Y b') < sq (X i1) (Y i1) (X k1) (Y k1)) = false := decide_eq_false hd
            go_wp2_with fail
            refine wp_region_up (by kernel_rfl) (by kernel_rfl) ?_
            repeat (go_big_quiet_step (exact up_of (fun W _ => squareOf_any _ _ _ _ (by with_reducible assumption) (by with_reducible assumption) W) _ _))
            refine wpQuiet_nil ?_
            intro w1 hb0
            obtain ⟨hc0, hf0⟩ := bcell hb0
            go_wp2_with fail
            go_roundw
            case rel => exact ⟨b' + 1, by omega, by omega, by go_num, by rw [HE.out, HN.out], by rw [HE.out, HN.out], by (repeat (first | with_reducible exact Below.refl _ _ | with_reducible assumption | with_reducible refine up_alloc ?_ _ | with_reducible refine up_drew ?_ | with_reducible refine up_drewN ?_ _ | (with_reducible refine up_set ?_ ?hset _; case hset => first | (simp; done) | (simp; omega) | omega) | with_reducible refine up_trans ?_ (by with_reducible assumption)))⟩
            case measure => simp [intOf]; omega
        · have hbb : b' = n := by omega
          have e1 : (i1, k1) = cpAll (sqD X Y) n (k + 1) := by rw [HT.out, hbb]; rfl
          have HE := Lib.hid e1
          clear e1
          subst hbb
          go_wp2_with fail
          go_roundw
          case rel => exact ⟨k + 1, by omega, by go_num, by rw [← HE.out], by rw [← HE.out], hb⟩
          case measure => simp [intOf]; omega
    · have e : k = n := by omega
      subst e
      go_wp2_with fail
      go_ret2
      exact ⟨rfl, hb⟩
/-- What chLeast holds: nothing yet, or the pair s and its square. -/
def ClSt (D : Nat → Nat → Int) (none_ : Prop) (s : Nat × Nat) (p q : Nat) (l : Int) : Prop := (none_ ∧ p = 0 ∧ q = 0 ∧ l = -1) ∨ (¬ none_ ∧ p = s.1 ∧ q = s.2 ∧ l = D s.1 s.2)
theorem ClSt.cong {D : Nat → Nat → Int} {a b : Prop} {s t : Nat × Nat} {p q : Nat} {l : Int} (h : ClSt D a s p q l) (hab : a ↔ b) (hst : s = t) : ClSt D b t p q l := by
  subst hst
  rcases h with h | h
  · exact .inl ⟨hab.1 h.1, h.2⟩
  · exact .inr ⟨fun hb => h.1 (hab.2 hb), h.2⟩
set_option maxHeartbeats 2000000 in
theorem chLeast_any (v : Value) (n : Nat) (X Y : Nat → Int) (w : World) (h : Spots w v n X Y) (hc : chartB n X Y = true) (hn : 2 ≤ n) :
    Calls Tryz.prog 32 #[v] w (Ans w (.tuple #[.int .i64 ((cp (sqD X Y) n).1 : Nat), .int .i64 ((cp (sqD X Y) n).2 : Nat), .int .i64 (sqD X Y (cp (sqD X Y) n).1 (cp (sqD X Y) n).2)])) := by
  obtain ⟨A, c, rfl, hnc, hrow⟩ := h
  obtain ⟨⟨_, hn12⟩, hsp, hdist⟩ := chartB_iff.1 hc
  clear hdist
  obtain ⟨b, o, rfl, hr⟩ := hrow (by omega)
  have HR := Lib.hid hr
  have HS := Lib.hid hsp
  clear hr hrow hc hsp
  go_enter Tryz.func32, Tryz.ntmps32
  go_wp2_with fail
  go_loopw [5, 6, 7, 14] (fun p q l i wr => ∃ k : Nat, k ≤ n ∧ i = .int .i64 k ∧ ∃ (p' q' : Nat) (l' : Int), p = .int .i64 p' ∧ q = .int .i64 q' ∧ l = .int .i64 l' ∧ ClSt (sqD X Y) (k = 0) (cpAll (sqD X Y) n k) p' q' l' ∧ Below w.heap.size w wr) (fun _ _ _ i _ => n - (intOf i).toNat)
  case atStart => exact ⟨0, by omega, rfl, 0, 0, -1, rfl, rfl, rfl, .inl ⟨rfl, rfl, rfl, rfl⟩, Below.refl _ _⟩
  case round =>
    obtain ⟨k, hk, rfl, p', q', l', rfl, rfl, rfl, hst, hb⟩ := hrel
    have HST := Lib.hid hst
    clear hst
    by_cases hlt : k < n
    · obtain ⟨wo, rfl⟩ : ∃ wo : World, wo = wr := ⟨_, rfl⟩
      have c1 := up_keep hb (HR.out k hlt).1
      have c2 := up_keep hb (HR.out k hlt).2
      go_wp2_with fail
      have hnew := cell_new2 wo (.int .i64 (X k)) (.int .i64 (Y k)) 42
      generalize hW : World.alloc _ _ = W at *
      have hbW : Below w.heap.size w W := by subst hW; (repeat (first | with_reducible exact Below.refl _ _ | with_reducible assumption | with_reducible refine up_alloc ?_ _ | with_reducible refine up_drew ?_ | with_reducible refine up_drewN ?_ _ | (with_reducible refine up_set ?_ ?hset _; case hset => first | (simp; done) | (simp; omega) | omega) | with_reducible refine up_trans ?_ (by with_reducible assumption)))
      have hzW : wo.heap.size < W.heap.size := by subst hW; simp
      clear hW c1 c2
      obtain ⟨g0, g1⟩ := hnew
      go_loopw [5, 6, 7, 10] (fun p q l i wi => ∃ b : Nat, k + 1 ≤ b ∧ b ≤ n ∧ i = .int .i64 b ∧ ∃ (p' q' : Nat) (l' : Int), p = .int .i64 p' ∧ q = .int .i64 q' ∧ l = .int .i64 l' ∧ ClSt (sqD X Y) (k = 0 ∧ b = 1) (cpRow (sqD X Y) k (b - 1 - k) (cpAll (sqD X Y) n k)) p' q' l' ∧ Below W.heap.size W wi) (fun _ _ _ i _ => n - (intOf i).toNat)
      case atStart => exact ⟨k + 1, by omega, by omega, by go_num, p', q', l', rfl, rfl, rfl, HST.out.cong (by omega) (by rw [show k + 1 - 1 - k = 0 by omega]; rfl), Below.refl _ _⟩
      case round =>
        clear HST
        obtain ⟨b', hb1, hb2, rfl, p', q', l', rfl, rfl, rfl, hst, hbi⟩ := hrel
        have hbd := cpRow_bd (D := sqD X Y) (a := k) (j := b' - 1 - k) (cpAll_bd (D := sqD X Y) (k := k) hn (by omega)) (by omega)
        have hs1 := HS.out k hlt
        by_cases hjn : b' < n
        · have c1 := cell_regrown (up_keep hbi g0)
          have c2 := cell_regrown (up_keep hbi g1)
          have c3 := cell_regrown (up_keep hbi (up_keep hbW (HR.out b' hjn).1))
          have c4 := cell_regrown (up_keep hbi (up_keep hbW (HR.out b' hjn).2))
          have hs2 := HS.out b' hjn
          have hsb := sq_bd hs1 hs2
          obtain ⟨hsb1, hsb2⟩ := hsb
          have e1 : cpRow (sqD X Y) k (b' + 1 - 1 - k) (cpAll (sqD X Y) n k) = cpStep (sqD X Y) (cpRow (sqD X Y) k (b' - 1 - k) (cpAll (sqD X Y) n k)) k b' := by
            rw [show b' + 1 - 1 - k = (b' - 1 - k) + 1 by omega]
            show cpStep _ _ k (k + 1 + (b' - 1 - k)) = _
            rw [show k + 1 + (b' - 1 - k) = b' by omega]
          have HE := Lib.hid e1
          clear e1
          rcases hst with ⟨⟨rfl, rfl⟩, rfl, rfl, rfl⟩ | ⟨hne, rfl, rfl, rfl⟩
          · have HD := Lib.hid (show sq (X 0) (Y 0) (X 1) (Y 1) = sqD X Y 0 1 from rfl)
            have hl : decide ((-1 : Int) < 0) = true := rfl
            go_wp2_with fail
            refine wp_region_up (by kernel_rfl) (by kernel_rfl) ?_
            repeat (go_big_quiet_step (exact up_of (fun W _ => stSquare_any _ _ _ _ (by with_reducible assumption) (by with_reducible assumption) W) _ _))
            refine wpQuiet_nil ?_
            intro w1 hb0
            obtain ⟨hc0, hf0⟩ := bcell hb0
            go_wp2_with fail
            go_roundw
            case rel => exact ⟨2, by omega, by omega, by go_num, 0, 1, _, rfl, rfl, rfl, .inr ⟨by omega, by rw [HE.out]; rw [cpStep_no (by exact Int.lt_irrefl _)]; rfl, by rw [HE.out]; rw [cpStep_no (by exact Int.lt_irrefl _)]; rfl, by rw [HE.out]; rw [cpStep_no (by exact Int.lt_irrefl _)]; rfl⟩, up_trans hbi hb0⟩
            case measure => simp [intOf]; omega
          · generalize hs : cpRow (sqD X Y) k (b' - 1 - k) (cpAll (sqD X Y) n k) = s at *
            have hs3 := HS.out s.1 (by omega)
            have hs4 := HS.out s.2 (by omega)
            obtain ⟨d1, d2⟩ := sq_bd hs3 hs4
            clear hs
            obtain ⟨i1, k1⟩ := s
            obtain ⟨l1, hl1⟩ : ∃ l1, l1 = sqD X Y i1 k1 := ⟨_, rfl⟩
            have d1' : 0 ≤ l1 := by rw [hl1]; exact d1
            have HL := Lib.hid hl1
            dsimp only
            rw [← hl1]
            clear hl1 d1 d2 hs3 hs4
            have hl : decide (l1 < 0) = false := decide_eq_false (by omega)
            by_cases hd : sq (X k) (Y k) (X b') (Y b') < l1
            · have HN := Lib.hid (cpStep_yes (D := sqD X Y) (s := (i1, k1)) (a := k) (b := b') (by rw [← HL.out]; exact hd))
              go_wp2_with fail
              refine wp_region_up (by kernel_rfl) (by kernel_rfl) ?_
              repeat (go_big_quiet_step (exact up_of (fun W _ => stSquare_any _ _ _ _ (by with_reducible assumption) (by with_reducible assumption) W) _ _))
              refine wpQuiet_nil ?_
              intro w1 hb0
              obtain ⟨hc0, hf0⟩ := bcell hb0
              go_wp2_with fail
              go_roundw
              case rel => exact ⟨b' + 1, by omega, by omega, by go_num, k, b', _, rfl, rfl, rfl, .inr ⟨by omega, by rw [HE.out, HN.out], by rw [HE.out, HN.out], by rw [HE.out, HN.out]; rfl⟩, up_trans hbi hb0⟩
              case measure => simp [intOf]; omega
            · have HN := Lib.hid (cpStep_no (D := sqD X Y) (s := (i1, k1)) (a := k) (b := b') (by rw [← HL.out]; exact hd))
              have hd' : decide (sq (X k) (Y k) (X b') (Y b') < l1) = false := decide_eq_false hd
              go_wp2_with fail
              refine wp_region_up (by kernel_rfl) (by kernel_rfl) ?_
              repeat (go_big_quiet_step (exact up_of (fun W _ => stSquare_any _ _ _ _ (by with_reducible assumption) (by with_reducible assumption) W) _ _))
              refine wpQuiet_nil ?_
              intro w1 hb0
              obtain ⟨hc0, hf0⟩ := bcell hb0
              go_wp2_with fail
              go_roundw
              case rel => exact ⟨b' + 1, by omega, by omega, by go_num, i1, k1, l1, rfl, rfl, rfl, .inr ⟨by omega, by rw [HE.out, HN.out], by rw [HE.out, HN.out], by rw [HE.out, HN.out, HL.out]⟩, up_trans hbi hb0⟩
              case measure => simp [intOf]; omega
        · have hbb : b' = n := by omega
          subst hbb
          have HST := Lib.hid hst
          clear hst
          go_wp2_with fail
          go_roundw
          case rel => exact ⟨k + 1, by omega, by go_num, p', q', l', rfl, rfl, rfl, HST.out.cong (by omega) rfl, up_trans hbW hbi⟩
          case measure => simp [intOf]; omega
    · have e : k = n := by omega
      subst e
      rcases HST.out with ⟨h0, _⟩ | ⟨_, h1, h2, h3⟩
      · omega
      · have H1 := Lib.hid h1
        have H2 := Lib.hid h2
        have H3 := Lib.hid h3
        clear h1 h2 h3 HST
        go_wp2_with fail
        go_ret3
        exact ⟨by rw [H1.out, H2.out, H3.out]; rfl, hb⟩
set_option maxHeartbeats 2000000 in
theorem chLeast_one (v : Value) (X Y : Nat → Int) (w : World) (h : Spots w v 1 X Y) :
    Calls Tryz.prog 32 #[v] w (Ans w (.tuple #[.int .i64 0, .int .i64 0, .int .i64 (-1)])) := by
  obtain ⟨A, c, rfl, hnc, hrow⟩ := h
  obtain ⟨b, o, rfl, hr⟩ := hrow (by omega)
  obtain ⟨c1, c2⟩ := hr 0 (by omega)
  have HR := Lib.hid hr
  clear hr hrow
  rw [Nat.zero_mul, Nat.add_zero] at c1 c2
  go_enter Tryz.func32, Tryz.ntmps32
  go_wp2_with fail
  go_loopw [5, 6, 7, 14] (fun p q l i wr => ((i = .int .i64 0 ∧ wr = w) ∨ i = .int .i64 1) ∧ p = .int .i64 0 ∧ q = .int .i64 0 ∧ l = .int .i64 (-1) ∧ Below w.heap.size w wr) (fun _ _ _ i _ => 1 - (intOf i).toNat)
  case atStart => exact ⟨.inl ⟨rfl, rfl⟩, rfl, rfl, rfl, Below.refl _ _⟩
  case round =>
    obtain ⟨hi, rfl, rfl, rfl, hb⟩ := hrel
    rcases hi with ⟨rfl, rfl⟩ | rfl
    · go_wp2_with fail
      go_loopw [5, 6, 7, 10] (fun p q l i wi => i = .int .i64 1 ∧ p = .int .i64 0 ∧ q = .int .i64 0 ∧ l = .int .i64 (-1) ∧ Below wr.heap.size wr wi) (fun _ _ _ _ _ => 0)
      case atStart => exact ⟨rfl, rfl, rfl, rfl, below_alloc _ _⟩
      case round =>
        obtain ⟨rfl, rfl, rfl, rfl, hbi⟩ := hrel
        go_wp2_with fail
        go_roundw
        case rel => exact ⟨.inr rfl, rfl, rfl, rfl, hbi⟩
        case measure => simp [intOf]
    · go_wp2_with fail
      go_ret3
      exact ⟨rfl, hb⟩
/-- What ClosestPair, LeastSquare, InnerRoom hand back. -/
def cpV (n : Nat) (X Y : Nat → Int) : Value := if chartB n X Y = true ∧ 2 ≤ n then .tuple #[.int .i64 ((cp (sqD X Y) n).1 : Nat), .int .i64 ((cp (sqD X Y) n).2 : Nat), .bool true] else .tuple #[.int .i64 0, .int .i64 0, .bool false]
def lsV (n : Nat) (X Y : Nat → Int) : Value := if chartB n X Y = true ∧ 2 ≤ n then .tuple #[.int .i64 (sqD X Y (cp (sqD X Y) n).1 (cp (sqD X Y) n).2), .bool true] else .tuple #[.int .i64 0, .bool false]
def irV (n : Nat) (X Y : Nat → Int) : Value := if chartB n X Y = true ∧ 2 ≤ n then .tuple #[.int .i64 (sqD X Y (cp (sqD X Y) n).1 (cp (sqD X Y) n).2), .bool true] else .tuple #[.int .i64 0, .bool (chartB n X Y)]
set_option maxHeartbeats 1000000 in
theorem iClosestPair_g (v : Value) (n : Nat) (X Y : Nat → Int) (w : World) (h : Spots w v n X Y) (hn : n ≤ 1048576) :
    Calls Tryz.prog 12 #[v] w (Ans w (cpV n X Y)) := by
  have HV := h
  obtain ⟨A, c, rfl, hnc, hrow⟩ := h
  clear hrow
  cases hc : chartB n X Y with
  | false =>
    have HR := Lib.hid (show cpV n X Y = .tuple #[.int .i64 0, .int .i64 0, .bool false] from if_neg (by simp [hc]))
    go_enter Tryz.func12, Tryz.ntmps12
    go_wp2_with ((go_at_call 18; refine (isChart_g _ _ _ _ _ (by first | exact Spots.up (by with_reducible assumption) (by (repeat (first | with_reducible exact Below.refl _ _ | with_reducible assumption | with_reducible refine up_alloc ?_ _ | with_reducible refine up_drew ?_ | with_reducible refine up_drewN ?_ _ | (with_reducible refine up_set ?_ ?hset _; case hset => first | (simp; done) | (simp; omega) | omega) | with_reducible refine up_trans ?_ (by with_reducible assumption)))) | exact OwnS.spots (OwnS.up (by with_reducible assumption) (by (repeat (first | with_reducible exact Below.refl _ _ | with_reducible assumption | with_reducible refine up_alloc ?_ _ | with_reducible refine up_drew ?_ | with_reducible refine up_drewN ?_ _ | (with_reducible refine up_set ?_ ?hset _; case hset => first | (simp; done) | (simp; omega) | omega) | with_reducible refine up_trans ?_ (by with_reducible assumption)))))) (by omega)).mono ?_; rintro e w1 ⟨rfl, hb⟩))
    go_ret3
    rw [HR.out]
    exact ⟨rfl, by (repeat (first | with_reducible exact Below.refl _ _ | with_reducible assumption | with_reducible refine up_alloc ?_ _ | with_reducible refine up_drew ?_ | with_reducible refine up_drewN ?_ _ | (with_reducible refine up_set ?_ ?hset _; case hset => first | (simp; done) | (simp; omega) | omega) | with_reducible refine up_trans ?_ (by with_reducible assumption)))⟩
  | true =>
    by_cases h2 : 2 ≤ n
    · have HR := Lib.hid (show cpV n X Y = .tuple #[.int .i64 ((cp (sqD X Y) n).1 : Nat), .int .i64 ((cp (sqD X Y) n).2 : Nat), .bool true] from if_pos (by simp [hc, h2]))
      have HC := Lib.hid (fun w' hw => closestPair_any (.slice A n c) n X Y w' hw hc h2)
      go_enter Tryz.func12, Tryz.ntmps12
      go_wp2_with (first
        | (go_at_call 18; refine (isChart_g _ _ _ _ _ (by first | exact Spots.up (by with_reducible assumption) (by (repeat (first | with_reducible exact Below.refl _ _ | with_reducible assumption | with_reducible refine up_alloc ?_ _ | with_reducible refine up_drew ?_ | with_reducible refine up_drewN ?_ _ | (with_reducible refine up_set ?_ ?hset _; case hset => first | (simp; done) | (simp; omega) | omega) | with_reducible refine up_trans ?_ (by with_reducible assumption)))) | exact OwnS.spots (OwnS.up (by with_reducible assumption) (by (repeat (first | with_reducible exact Below.refl _ _ | with_reducible assumption | with_reducible refine up_alloc ?_ _ | with_reducible refine up_drew ?_ | with_reducible refine up_drewN ?_ _ | (with_reducible refine up_set ?_ ?hset _; case hset => first | (simp; done) | (simp; omega) | omega) | with_reducible refine up_trans ?_ (by with_reducible assumption)))))) (by omega)).mono ?_; rintro e w1 ⟨rfl, hb⟩)
        | (go_at_call 31; refine (HC.out _ (by first | exact Spots.up (by with_reducible assumption) (by (repeat (first | with_reducible exact Below.refl _ _ | with_reducible assumption | with_reducible refine up_alloc ?_ _ | with_reducible refine up_drew ?_ | with_reducible refine up_drewN ?_ _ | (with_reducible refine up_set ?_ ?hset _; case hset => first | (simp; done) | (simp; omega) | omega) | with_reducible refine up_trans ?_ (by with_reducible assumption)))) | exact OwnS.spots (OwnS.up (by with_reducible assumption) (by (repeat (first | with_reducible exact Below.refl _ _ | with_reducible assumption | with_reducible refine up_alloc ?_ _ | with_reducible refine up_drew ?_ | with_reducible refine up_drewN ?_ _ | (with_reducible refine up_set ?_ ?hset _; case hset => first | (simp; done) | (simp; omega) | omega) | with_reducible refine up_trans ?_ (by with_reducible assumption))))))).mono ?_; rintro e w1 ⟨rfl, hb⟩))
      go_ret3
      rw [HR.out]
      exact ⟨rfl, by (repeat (first | with_reducible exact Below.refl _ _ | with_reducible assumption | with_reducible refine up_alloc ?_ _ | with_reducible refine up_drew ?_ | with_reducible refine up_drewN ?_ _ | (with_reducible refine up_set ?_ ?hset _; case hset => first | (simp; done) | (simp; omega) | omega) | with_reducible refine up_trans ?_ (by with_reducible assumption)))⟩
    · have HR := Lib.hid (show cpV n X Y = .tuple #[.int .i64 0, .int .i64 0, .bool false] from if_neg (by simp [h2]))
      go_enter Tryz.func12, Tryz.ntmps12
      go_wp2_with ((go_at_call 18; refine (isChart_g _ _ _ _ _ (by first | exact Spots.up (by with_reducible assumption) (by (repeat (first | with_reducible exact Below.refl _ _ | with_reducible assumption | with_reducible refine up_alloc ?_ _ | with_reducible refine up_drew ?_ | with_reducible refine up_drewN ?_ _ | (with_reducible refine up_set ?_ ?hset _; case hset => first | (simp; done) | (simp; omega) | omega) | with_reducible refine up_trans ?_ (by with_reducible assumption)))) | exact OwnS.spots (OwnS.up (by with_reducible assumption) (by (repeat (first | with_reducible exact Below.refl _ _ | with_reducible assumption | with_reducible refine up_alloc ?_ _ | with_reducible refine up_drew ?_ | with_reducible refine up_drewN ?_ _ | (with_reducible refine up_set ?_ ?hset _; case hset => first | (simp; done) | (simp; omega) | omega) | with_reducible refine up_trans ?_ (by with_reducible assumption)))))) (by omega)).mono ?_; rintro e w1 ⟨rfl, hb⟩))
      go_ret3
      rw [HR.out]
      exact ⟨rfl, by (repeat (first | with_reducible exact Below.refl _ _ | with_reducible assumption | with_reducible refine up_alloc ?_ _ | with_reducible refine up_drew ?_ | with_reducible refine up_drewN ?_ _ | (with_reducible refine up_set ?_ ?hset _; case hset => first | (simp; done) | (simp; omega) | omega) | with_reducible refine up_trans ?_ (by with_reducible assumption)))⟩
set_option maxHeartbeats 1000000 in
theorem sClosestPair_g (v : Value) (n : Nat) (X Y : Nat → Int) (w : World) (h : Spots w v n X Y) (hn : n ≤ 1048576) :
    Calls Tryz.prog 13 #[v] w (Ans w (cpV n X Y)) := by
  have HV := h
  obtain ⟨A, c, rfl, hnc, hrow⟩ := h
  clear hrow
  cases hc : chartB n X Y with
  | false =>
    have HR := Lib.hid (show cpV n X Y = .tuple #[.int .i64 0, .int .i64 0, .bool false] from if_neg (by simp [hc]))
    go_enter Tryz.func13, Tryz.ntmps13
    go_wp2_with ((go_at_call 25; refine (chGood_g _ _ _ _ _ (by first | exact Spots.up (by with_reducible assumption) (by (repeat (first | with_reducible exact Below.refl _ _ | with_reducible assumption | with_reducible refine up_alloc ?_ _ | with_reducible refine up_drew ?_ | with_reducible refine up_drewN ?_ _ | (with_reducible refine up_set ?_ ?hset _; case hset => first | (simp; done) | (simp; omega) | omega) | with_reducible refine up_trans ?_ (by with_reducible assumption)))) | exact OwnS.spots (OwnS.up (by with_reducible assumption) (by (repeat (first | with_reducible exact Below.refl _ _ | with_reducible assumption | with_reducible refine up_alloc ?_ _ | with_reducible refine up_drew ?_ | with_reducible refine up_drewN ?_ _ | (with_reducible refine up_set ?_ ?hset _; case hset => first | (simp; done) | (simp; omega) | omega) | with_reducible refine up_trans ?_ (by with_reducible assumption)))))) (by omega)).mono ?_; rintro e w1 ⟨rfl, hb⟩))
    go_ret3
    rw [HR.out]
    exact ⟨rfl, by (repeat (first | with_reducible exact Below.refl _ _ | with_reducible assumption | with_reducible refine up_alloc ?_ _ | with_reducible refine up_drew ?_ | with_reducible refine up_drewN ?_ _ | (with_reducible refine up_set ?_ ?hset _; case hset => first | (simp; done) | (simp; omega) | omega) | with_reducible refine up_trans ?_ (by with_reducible assumption)))⟩
  | true =>
    by_cases h2 : 2 ≤ n
    · have HR := Lib.hid (show cpV n X Y = .tuple #[.int .i64 ((cp (sqD X Y) n).1 : Nat), .int .i64 ((cp (sqD X Y) n).2 : Nat), .bool true] from if_pos (by simp [hc, h2]))
      have HC := Lib.hid (fun w' hw => chLeast_any (.slice A n c) n X Y w' hw hc h2)
      go_enter Tryz.func13, Tryz.ntmps13
      go_wp2_with (first
        | (go_at_call 25; refine (chGood_g _ _ _ _ _ (by first | exact Spots.up (by with_reducible assumption) (by (repeat (first | with_reducible exact Below.refl _ _ | with_reducible assumption | with_reducible refine up_alloc ?_ _ | with_reducible refine up_drew ?_ | with_reducible refine up_drewN ?_ _ | (with_reducible refine up_set ?_ ?hset _; case hset => first | (simp; done) | (simp; omega) | omega) | with_reducible refine up_trans ?_ (by with_reducible assumption)))) | exact OwnS.spots (OwnS.up (by with_reducible assumption) (by (repeat (first | with_reducible exact Below.refl _ _ | with_reducible assumption | with_reducible refine up_alloc ?_ _ | with_reducible refine up_drew ?_ | with_reducible refine up_drewN ?_ _ | (with_reducible refine up_set ?_ ?hset _; case hset => first | (simp; done) | (simp; omega) | omega) | with_reducible refine up_trans ?_ (by with_reducible assumption)))))) (by omega)).mono ?_; rintro e w1 ⟨rfl, hb⟩)
        | (go_at_call 32; refine (HC.out _ (by first | exact Spots.up (by with_reducible assumption) (by (repeat (first | with_reducible exact Below.refl _ _ | with_reducible assumption | with_reducible refine up_alloc ?_ _ | with_reducible refine up_drew ?_ | with_reducible refine up_drewN ?_ _ | (with_reducible refine up_set ?_ ?hset _; case hset => first | (simp; done) | (simp; omega) | omega) | with_reducible refine up_trans ?_ (by with_reducible assumption)))) | exact OwnS.spots (OwnS.up (by with_reducible assumption) (by (repeat (first | with_reducible exact Below.refl _ _ | with_reducible assumption | with_reducible refine up_alloc ?_ _ | with_reducible refine up_drew ?_ | with_reducible refine up_drewN ?_ _ | (with_reducible refine up_set ?_ ?hset _; case hset => first | (simp; done) | (simp; omega) | omega) | with_reducible refine up_trans ?_ (by with_reducible assumption))))))).mono ?_; rintro e w1 ⟨rfl, hb⟩))
      go_ret3
      rw [HR.out]
      exact ⟨rfl, by (repeat (first | with_reducible exact Below.refl _ _ | with_reducible assumption | with_reducible refine up_alloc ?_ _ | with_reducible refine up_drew ?_ | with_reducible refine up_drewN ?_ _ | (with_reducible refine up_set ?_ ?hset _; case hset => first | (simp; done) | (simp; omega) | omega) | with_reducible refine up_trans ?_ (by with_reducible assumption)))⟩
    · have HR := Lib.hid (show cpV n X Y = .tuple #[.int .i64 0, .int .i64 0, .bool false] from if_neg (by simp [h2]))
      go_enter Tryz.func13, Tryz.ntmps13
      go_wp2_with ((go_at_call 25; refine (chGood_g _ _ _ _ _ (by first | exact Spots.up (by with_reducible assumption) (by (repeat (first | with_reducible exact Below.refl _ _ | with_reducible assumption | with_reducible refine up_alloc ?_ _ | with_reducible refine up_drew ?_ | with_reducible refine up_drewN ?_ _ | (with_reducible refine up_set ?_ ?hset _; case hset => first | (simp; done) | (simp; omega) | omega) | with_reducible refine up_trans ?_ (by with_reducible assumption)))) | exact OwnS.spots (OwnS.up (by with_reducible assumption) (by (repeat (first | with_reducible exact Below.refl _ _ | with_reducible assumption | with_reducible refine up_alloc ?_ _ | with_reducible refine up_drew ?_ | with_reducible refine up_drewN ?_ _ | (with_reducible refine up_set ?_ ?hset _; case hset => first | (simp; done) | (simp; omega) | omega) | with_reducible refine up_trans ?_ (by with_reducible assumption)))))) (by omega)).mono ?_; rintro e w1 ⟨rfl, hb⟩))
      go_ret3
      rw [HR.out]
      exact ⟨rfl, by (repeat (first | with_reducible exact Below.refl _ _ | with_reducible assumption | with_reducible refine up_alloc ?_ _ | with_reducible refine up_drew ?_ | with_reducible refine up_drewN ?_ _ | (with_reducible refine up_set ?_ ?hset _; case hset => first | (simp; done) | (simp; omega) | omega) | with_reducible refine up_trans ?_ (by with_reducible assumption)))⟩
set_option maxHeartbeats 1000000 in
theorem iLeastSquare_g (v : Value) (n : Nat) (X Y : Nat → Int) (w : World) (h : Spots w v n X Y) (hn : n ≤ 1048576) :
    Calls Tryz.prog 14 #[v] w (Ans w (lsV n X Y)) := by
  have HV := h
  obtain ⟨A, c, rfl, hnc, hrow⟩ := h
  clear hrow
  cases hc : chartB n X Y with
  | false =>
    have HR := Lib.hid (show lsV n X Y = .tuple #[.int .i64 0, .bool false] from if_neg (by simp [hc]))
    go_enter Tryz.func14, Tryz.ntmps14
    go_wp2_with ((go_at_call 18; refine (isChart_g _ _ _ _ _ (by first | exact Spots.up (by with_reducible assumption) (by (repeat (first | with_reducible exact Below.refl _ _ | with_reducible assumption | with_reducible refine up_alloc ?_ _ | with_reducible refine up_drew ?_ | with_reducible refine up_drewN ?_ _ | (with_reducible refine up_set ?_ ?hset _; case hset => first | (simp; done) | (simp; omega) | omega) | with_reducible refine up_trans ?_ (by with_reducible assumption)))) | exact OwnS.spots (OwnS.up (by with_reducible assumption) (by (repeat (first | with_reducible exact Below.refl _ _ | with_reducible assumption | with_reducible refine up_alloc ?_ _ | with_reducible refine up_drew ?_ | with_reducible refine up_drewN ?_ _ | (with_reducible refine up_set ?_ ?hset _; case hset => first | (simp; done) | (simp; omega) | omega) | with_reducible refine up_trans ?_ (by with_reducible assumption)))))) (by omega)).mono ?_; rintro e w1 ⟨rfl, hb⟩))
    go_ret2
    rw [HR.out]
    exact ⟨rfl, by (repeat (first | with_reducible exact Below.refl _ _ | with_reducible assumption | with_reducible refine up_alloc ?_ _ | with_reducible refine up_drew ?_ | with_reducible refine up_drewN ?_ _ | (with_reducible refine up_set ?_ ?hset _; case hset => first | (simp; done) | (simp; omega) | omega) | with_reducible refine up_trans ?_ (by with_reducible assumption)))⟩
  | true =>
    by_cases h2 : 2 ≤ n
    · have HR := Lib.hid (show lsV n X Y = .tuple #[.int .i64 (sqD X Y (cp (sqD X Y) n).1 (cp (sqD X Y) n).2), .bool true] from if_pos (by simp [hc, h2]))
      have HC := Lib.hid (fun w' hw => closestPair_any (.slice A n c) n X Y w' hw hc h2)
      go_enter Tryz.func14, Tryz.ntmps14
      go_wp2_with (first
        | (go_at_call 18; refine (isChart_g _ _ _ _ _ (by first | exact Spots.up (by with_reducible assumption) (by (repeat (first | with_reducible exact Below.refl _ _ | with_reducible assumption | with_reducible refine up_alloc ?_ _ | with_reducible refine up_drew ?_ | with_reducible refine up_drewN ?_ _ | (with_reducible refine up_set ?_ ?hset _; case hset => first | (simp; done) | (simp; omega) | omega) | with_reducible refine up_trans ?_ (by with_reducible assumption)))) | exact OwnS.spots (OwnS.up (by with_reducible assumption) (by (repeat (first | with_reducible exact Below.refl _ _ | with_reducible assumption | with_reducible refine up_alloc ?_ _ | with_reducible refine up_drew ?_ | with_reducible refine up_drewN ?_ _ | (with_reducible refine up_set ?_ ?hset _; case hset => first | (simp; done) | (simp; omega) | omega) | with_reducible refine up_trans ?_ (by with_reducible assumption)))))) (by omega)).mono ?_; rintro e w1 ⟨rfl, hb⟩)
        | (go_at_call 31; refine (HC.out _ (by first | exact Spots.up (by with_reducible assumption) (by (repeat (first | with_reducible exact Below.refl _ _ | with_reducible assumption | with_reducible refine up_alloc ?_ _ | with_reducible refine up_drew ?_ | with_reducible refine up_drewN ?_ _ | (with_reducible refine up_set ?_ ?hset _; case hset => first | (simp; done) | (simp; omega) | omega) | with_reducible refine up_trans ?_ (by with_reducible assumption)))) | exact OwnS.spots (OwnS.up (by with_reducible assumption) (by (repeat (first | with_reducible exact Below.refl _ _ | with_reducible assumption | with_reducible refine up_alloc ?_ _ | with_reducible refine up_drew ?_ | with_reducible refine up_drewN ?_ _ | (with_reducible refine up_set ?_ ?hset _; case hset => first | (simp; done) | (simp; omega) | omega) | with_reducible refine up_trans ?_ (by with_reducible assumption))))))).mono ?_; rintro e w1 ⟨rfl, hb⟩))
      have hbd := cpAll_bd (D := sqD X Y) (k := n) h2 (Nat.le_refl _)
      obtain ⟨A', c', he, hnc', hrow⟩ := HV
      injection he with he1 he2 he3
      subst he1 he3
      obtain ⟨b, o, rfl, hr⟩ := hrow (by omega)
      have HBw : Below w.heap.size w w1 := by (repeat (first | with_reducible exact Below.refl _ _ | with_reducible assumption | with_reducible refine up_alloc ?_ _ | with_reducible refine up_drew ?_ | with_reducible refine up_drewN ?_ _ | (with_reducible refine up_set ?_ ?hset _; case hset => first | (simp; done) | (simp; omega) | omega) | with_reducible refine up_trans ?_ (by with_reducible assumption)))
      have hs1 := (chartB_iff.1 hc).2.1 _ (show (cp (sqD X Y) n).1 < n by unfold cp; omega)
      have hs2 := (chartB_iff.1 hc).2.1 _ (show (cp (sqD X Y) n).2 < n by unfold cp; omega)
      have hi1 : (cp (sqD X Y) n).1 < n := by unfold cp; omega
      have hi2 : (cp (sqD X Y) n).2 < n := hbd.2
      have c1 := cell_regrown (up_keep HBw (hr _ hi1).1)
      have c2 := cell_regrown (up_keep HBw (hr _ hi1).2)
      have c3 := cell_regrown (up_keep HBw (hr _ hi2).1)
      have c4 := cell_regrown (up_keep HBw (hr _ hi2).2)
      have HSQ := Lib.hid (squareOf_any _ _ _ _ hs1 hs2)
      have HR2 := Lib.hid (show sqD X Y (cp (sqD X Y) n).1 (cp (sqD X Y) n).2 = sq (X (cp (sqD X Y) n).1) (Y (cp (sqD X Y) n).1) (X (cp (sqD X Y) n).2) (Y (cp (sqD X Y) n).2) from rfl)
      clear hr hrow hbd hs1 hs2 HC hc
      generalize cp (sqD X Y) n = s at *
      obtain ⟨i1, k1⟩ := s
      dsimp only at *
      refine wp_region_up (by kernel_rfl) (by kernel_rfl) ?_
      repeat (go_big_quiet_step (exact up_of (fun W _ => HSQ.out W) _ _))
      refine wpQuiet_nil ?_
      intro w1 hb0
      obtain ⟨hc0, hf0⟩ := bcell hb0
      go_wp2_with fail
      go_ret2
      rw [HR.out, HR2.out]
      exact ⟨rfl, by (repeat (first | with_reducible exact Below.refl _ _ | with_reducible assumption | with_reducible refine up_alloc ?_ _ | with_reducible refine up_drew ?_ | with_reducible refine up_drewN ?_ _ | (with_reducible refine up_set ?_ ?hset _; case hset => first | (simp; done) | (simp; omega) | omega) | with_reducible refine up_trans ?_ (by with_reducible assumption)))⟩
    · have HR := Lib.hid (show lsV n X Y = .tuple #[.int .i64 0, .bool false] from if_neg (by simp [h2]))
      go_enter Tryz.func14, Tryz.ntmps14
      go_wp2_with ((go_at_call 18; refine (isChart_g _ _ _ _ _ (by first | exact Spots.up (by with_reducible assumption) (by (repeat (first | with_reducible exact Below.refl _ _ | with_reducible assumption | with_reducible refine up_alloc ?_ _ | with_reducible refine up_drew ?_ | with_reducible refine up_drewN ?_ _ | (with_reducible refine up_set ?_ ?hset _; case hset => first | (simp; done) | (simp; omega) | omega) | with_reducible refine up_trans ?_ (by with_reducible assumption)))) | exact OwnS.spots (OwnS.up (by with_reducible assumption) (by (repeat (first | with_reducible exact Below.refl _ _ | with_reducible assumption | with_reducible refine up_alloc ?_ _ | with_reducible refine up_drew ?_ | with_reducible refine up_drewN ?_ _ | (with_reducible refine up_set ?_ ?hset _; case hset => first | (simp; done) | (simp; omega) | omega) | with_reducible refine up_trans ?_ (by with_reducible assumption)))))) (by omega)).mono ?_; rintro e w1 ⟨rfl, hb⟩))
      go_ret2
      rw [HR.out]
      exact ⟨rfl, by (repeat (first | with_reducible exact Below.refl _ _ | with_reducible assumption | with_reducible refine up_alloc ?_ _ | with_reducible refine up_drew ?_ | with_reducible refine up_drewN ?_ _ | (with_reducible refine up_set ?_ ?hset _; case hset => first | (simp; done) | (simp; omega) | omega) | with_reducible refine up_trans ?_ (by with_reducible assumption)))⟩
set_option maxHeartbeats 1000000 in
theorem sLeastSquare_g (v : Value) (n : Nat) (X Y : Nat → Int) (w : World) (h : Spots w v n X Y) (hn : n ≤ 1048576) :
    Calls Tryz.prog 15 #[v] w (Ans w (lsV n X Y)) := by
  have HV := h
  obtain ⟨A, c, rfl, hnc, hrow⟩ := h
  clear hrow
  cases hc : chartB n X Y with
  | false =>
    have HR := Lib.hid (show lsV n X Y = .tuple #[.int .i64 0, .bool false] from if_neg (by simp [hc]))
    go_enter Tryz.func15, Tryz.ntmps15
    go_wp2_with ((go_at_call 25; refine (chGood_g _ _ _ _ _ (by first | exact Spots.up (by with_reducible assumption) (by (repeat (first | with_reducible exact Below.refl _ _ | with_reducible assumption | with_reducible refine up_alloc ?_ _ | with_reducible refine up_drew ?_ | with_reducible refine up_drewN ?_ _ | (with_reducible refine up_set ?_ ?hset _; case hset => first | (simp; done) | (simp; omega) | omega) | with_reducible refine up_trans ?_ (by with_reducible assumption)))) | exact OwnS.spots (OwnS.up (by with_reducible assumption) (by (repeat (first | with_reducible exact Below.refl _ _ | with_reducible assumption | with_reducible refine up_alloc ?_ _ | with_reducible refine up_drew ?_ | with_reducible refine up_drewN ?_ _ | (with_reducible refine up_set ?_ ?hset _; case hset => first | (simp; done) | (simp; omega) | omega) | with_reducible refine up_trans ?_ (by with_reducible assumption)))))) (by omega)).mono ?_; rintro e w1 ⟨rfl, hb⟩))
    go_ret2
    rw [HR.out]
    exact ⟨rfl, by (repeat (first | with_reducible exact Below.refl _ _ | with_reducible assumption | with_reducible refine up_alloc ?_ _ | with_reducible refine up_drew ?_ | with_reducible refine up_drewN ?_ _ | (with_reducible refine up_set ?_ ?hset _; case hset => first | (simp; done) | (simp; omega) | omega) | with_reducible refine up_trans ?_ (by with_reducible assumption)))⟩
  | true =>
    by_cases h2 : 2 ≤ n
    · have HR := Lib.hid (show lsV n X Y = .tuple #[.int .i64 (sqD X Y (cp (sqD X Y) n).1 (cp (sqD X Y) n).2), .bool true] from if_pos (by simp [hc, h2]))
      have HC := Lib.hid (fun w' hw => chLeast_any (.slice A n c) n X Y w' hw hc h2)
      go_enter Tryz.func15, Tryz.ntmps15
      go_wp2_with (first
        | (go_at_call 25; refine (chGood_g _ _ _ _ _ (by first | exact Spots.up (by with_reducible assumption) (by (repeat (first | with_reducible exact Below.refl _ _ | with_reducible assumption | with_reducible refine up_alloc ?_ _ | with_reducible refine up_drew ?_ | with_reducible refine up_drewN ?_ _ | (with_reducible refine up_set ?_ ?hset _; case hset => first | (simp; done) | (simp; omega) | omega) | with_reducible refine up_trans ?_ (by with_reducible assumption)))) | exact OwnS.spots (OwnS.up (by with_reducible assumption) (by (repeat (first | with_reducible exact Below.refl _ _ | with_reducible assumption | with_reducible refine up_alloc ?_ _ | with_reducible refine up_drew ?_ | with_reducible refine up_drewN ?_ _ | (with_reducible refine up_set ?_ ?hset _; case hset => first | (simp; done) | (simp; omega) | omega) | with_reducible refine up_trans ?_ (by with_reducible assumption)))))) (by omega)).mono ?_; rintro e w1 ⟨rfl, hb⟩)
        | (go_at_call 32; refine (HC.out _ (by first | exact Spots.up (by with_reducible assumption) (by (repeat (first | with_reducible exact Below.refl _ _ | with_reducible assumption | with_reducible refine up_alloc ?_ _ | with_reducible refine up_drew ?_ | with_reducible refine up_drewN ?_ _ | (with_reducible refine up_set ?_ ?hset _; case hset => first | (simp; done) | (simp; omega) | omega) | with_reducible refine up_trans ?_ (by with_reducible assumption)))) | exact OwnS.spots (OwnS.up (by with_reducible assumption) (by (repeat (first | with_reducible exact Below.refl _ _ | with_reducible assumption | with_reducible refine up_alloc ?_ _ | with_reducible refine up_drew ?_ | with_reducible refine up_drewN ?_ _ | (with_reducible refine up_set ?_ ?hset _; case hset => first | (simp; done) | (simp; omega) | omega) | with_reducible refine up_trans ?_ (by with_reducible assumption))))))).mono ?_; rintro e w1 ⟨rfl, hb⟩))
      go_ret2
      rw [HR.out]
      exact ⟨rfl, by (repeat (first | with_reducible exact Below.refl _ _ | with_reducible assumption | with_reducible refine up_alloc ?_ _ | with_reducible refine up_drew ?_ | with_reducible refine up_drewN ?_ _ | (with_reducible refine up_set ?_ ?hset _; case hset => first | (simp; done) | (simp; omega) | omega) | with_reducible refine up_trans ?_ (by with_reducible assumption)))⟩
    · have HR := Lib.hid (show lsV n X Y = .tuple #[.int .i64 0, .bool false] from if_neg (by simp [h2]))
      go_enter Tryz.func15, Tryz.ntmps15
      go_wp2_with ((go_at_call 25; refine (chGood_g _ _ _ _ _ (by first | exact Spots.up (by with_reducible assumption) (by (repeat (first | with_reducible exact Below.refl _ _ | with_reducible assumption | with_reducible refine up_alloc ?_ _ | with_reducible refine up_drew ?_ | with_reducible refine up_drewN ?_ _ | (with_reducible refine up_set ?_ ?hset _; case hset => first | (simp; done) | (simp; omega) | omega) | with_reducible refine up_trans ?_ (by with_reducible assumption)))) | exact OwnS.spots (OwnS.up (by with_reducible assumption) (by (repeat (first | with_reducible exact Below.refl _ _ | with_reducible assumption | with_reducible refine up_alloc ?_ _ | with_reducible refine up_drew ?_ | with_reducible refine up_drewN ?_ _ | (with_reducible refine up_set ?_ ?hset _; case hset => first | (simp; done) | (simp; omega) | omega) | with_reducible refine up_trans ?_ (by with_reducible assumption)))))) (by omega)).mono ?_; rintro e w1 ⟨rfl, hb⟩))
      go_ret2
      rw [HR.out]
      exact ⟨rfl, by (repeat (first | with_reducible exact Below.refl _ _ | with_reducible assumption | with_reducible refine up_alloc ?_ _ | with_reducible refine up_drew ?_ | with_reducible refine up_drewN ?_ _ | (with_reducible refine up_set ?_ ?hset _; case hset => first | (simp; done) | (simp; omega) | omega) | with_reducible refine up_trans ?_ (by with_reducible assumption)))⟩
end Go.Proofs.YtbfhfjpfjkdcfaaGreatDoor
namespace Go.Proofs.YtbfhfjpfjkdcfaaGreatDoor
open Go.RowKit Go.ChangeShapes Go.WideShapes Go.Sort

def HasN (m : Nat) (A : Nat → Int) (y : Int) : Prop := ∃ i, i < m ∧ A i = y
def IncN (m : Nat) (A : Nat → Int) : Prop := ∀ i j, i < j → j < m → A i < A j
/-- x put at k. -/
def putN (A : Nat → Int) (k : Nat) (x : Int) (j : Nat) : Int := if j < k then A j else if j = k then x else A (j - 1)
theorem putN_inc {m : Nat} {A : Nat → Int} {k : Nat} {x : Int} (h : IncN m A) (hl : ∀ j, j < k → A j < x) (hk : k ≤ m) (hg : k < m → x < A k) : IncN (m + 1) (putN A k x) := fun i j hij hj => by
  unfold putN
  by_cases h1 : j < k
  · rw [if_pos h1, if_pos (by omega)]; exact h i j hij (by omega)
  · rw [if_neg h1]
    by_cases h2 : j = k
    · rw [if_pos h2, if_pos (by omega)]; exact hl i (by omega)
    · rw [if_neg h2]
      have hg' := hg (by omega)
      have hkj : A k ≤ A (j - 1) := by
        by_cases e : k = j - 1
        · rw [e]; exact Int.le_refl _
        · exact Int.le_of_lt (h k (j - 1) (by omega) (by omega))
      by_cases h3 : i < k
      · rw [if_pos h3]; have := hl i h3; omega
      · rw [if_neg h3]
        by_cases h4 : i = k
        · rw [if_pos h4]; omega
        · rw [if_neg h4]; exact h (i - 1) (j - 1) (by omega) (by omega)
theorem putN_has {m : Nat} {A : Nat → Int} {k : Nat} {x : Int} (hk : k ≤ m) (y : Int) : HasN (m + 1) (putN A k x) y ↔ (y = x ∨ HasN m A y) := by
  unfold HasN putN
  constructor
  · rintro ⟨i, hi, e⟩
    by_cases h1 : i < k
    · rw [if_pos h1] at e; exact .inr ⟨i, by omega, e⟩
    · rw [if_neg h1] at e
      by_cases h2 : i = k
      · rw [if_pos h2] at e; exact .inl e.symm
      · rw [if_neg h2] at e; exact .inr ⟨i - 1, by omega, e⟩
  · rintro (e | ⟨i, hi, e⟩)
    · exact ⟨k, by omega, by rw [if_neg (by omega), if_pos rfl]; exact e.symm⟩
    · by_cases h1 : i < k
      · exact ⟨i, by omega, by rw [if_pos h1]; exact e⟩
      · exact ⟨i + 1, by omega, by rw [if_neg (by omega), if_neg (by omega), Nat.add_sub_cancel]; exact e⟩
theorem cells1_add (X : Nat → Int) (k : Nat) : ∀ m, cells1 X (k + m) = cells1 X k ++ cells1 (fun j => X (k + j)) m
  | 0 => by simp [cells1]
  | m + 1 => by rw [← Nat.add_assoc, cells1_succ, cells1_add X k m, cells1_succ, List.append_assoc]
set_option maxRecDepth 100000 in
theorem run_add_ints {w : World} (ty : TypeId) (base : Nat) (v x : Value) (k m : Nat) (X : Nat → Int) (hown : OwnN base w v k X) (hx : Ints w x m (fun j => X (k + j))) (hbase : base ≤ w.heap.size) (hk : k ≤ 1048576) (hn : m ≤ 1048576) :
    ∃ v' w', (Builtin.append_ #[30, 30] ty #[v, x]).run Tryz.prog w = .ok v' w' ∧ OwnN base w' v' (k + m) X ∧ Below base w w' := by
  obtain ⟨i0, hi0, hz0, hz1, hz2⟩ := info_parts info_intN
  obtain ⟨A, c, rfl, hmc, hrow⟩ := hx
  have hex : ∀ ad, A = some ad → (∀ j u, (cells1 (fun j => X (k + j)) m)[j]? = some u → w.cell? (ad.add j) = some u) →
      ∃ v' w', (Builtin.append_ #[30, 30] ty #[v, .slice A m c]).run Tryz.prog w = .ok v' w' ∧ OwnN base w' v' (k + m) X ∧ Below base w w' := by
    intro ad hA hc
    subst hA
    obtain ⟨v', w', hr, h1, h2, _⟩ := run_append_own_at (P := Tryz.prog) w base 30 ty 3 i0 _ 1 8 Tryz.underlying30 hi0 hz0 hz1 hz2 rfl (by omega) v k _ hown ad m c (cells1 (fun j => X (k + j)) m) (by rw [cells1_len, Nat.mul_one]) hc (by
      intro u hu
      obtain ⟨i, _, hi⟩ := List.mem_map.1 hu
      subst hi; rfl) (by unfold maxLen; omega) (by omega) hbase
    exact ⟨v', w', hr, by unfold OwnN; rw [cells1_add]; exact h1, below_grown h2 hbase (fun k hk => (World.ownsRow.lt hown k hk).1)⟩
  rcases Nat.eq_zero_or_pos m with h0 | h0
  · subst h0
    cases A with
    | some ad => exact hex ad rfl (fun j u hu => by simp [cells1] at hu)
    | none =>
      refine ⟨v, w, ?_, hown, Below.refl _ _⟩
      rcases hown.2 with ⟨rfl, _⟩ | ⟨g, cap, cur, rfl, _, _, hnc, _⟩
      · simp [Builtin.append_, run_underlying Tryz.underlying30, sizeOf, typeInfo, hi0, Builtin.lenOf, Builtin.firstCells]
      · simp [Builtin.append_, run_underlying Tryz.underlying30, sizeOf, typeInfo, hi0, Builtin.lenOf, Builtin.firstCells, storeCells]
        try omega
  · obtain ⟨b, o, rfl, hr⟩ := hrow h0
    refine hex _ rfl (fun j u hu => ?_)
    have hj : j < m := by
      rcases Nat.lt_or_ge j m with h | h
      · exact h
      · rw [List.getElem?_eq_none (by rw [cells1_len]; exact h)] at hu; cases hu
    rw [add_none, hr j hj, ← cells1_get (fun j => X (k + j)) m j hj]
    exact hu
theorem wpList_add_ints {ops : Array Oper} {rest : List Oper} {o : Oper} {a : Act} {Q : Exit → Act → World → Prop} {w : World} (hgd : o.guard = none) (s x : Operand)
    (ho : o.op = .call { callee := .builtin .append, args := #[s, x], argTypes := #[30, 30] })
    (base : Nat) (v u : Value) (k m : Nat) (X : Nat → Int) (hs : a.eval s = v) (hx : a.eval x = u) (hown : OwnN base w v k X) (hsp : Ints w u m (fun j => X (k + j))) (hbase : base ≤ w.heap.size) (hk : k ≤ 1048576) (hn : m ≤ 1048576)
    (h : ∀ v' w', OwnN base w' v' (k + m) X → Below base w w' → wpList Tryz.prog ops Q rest (a.put o.dst v') w') : wpList Tryz.prog ops Q (o :: rest) a w := by
  obtain ⟨v', w', hr, h1, h2⟩ := run_add_ints (w := w) o.type base v u k m X hown hsp hbase hk hn
  refine wpList_plain hgd fun _ hK => ?_
  unfold Oper.wp execOp
  simp only [ho, resolve, invoke, builtin, Sem.run_bind, Sem.run_pure, Result.andThen_ok, List.map_toArray, List.map_cons, List.map_nil, hs, hx, hr]
  exact hK _ _ (h v' w' h1 h2)
/-- Returned: an increasing list with x. -/
def AnsPut (w : World) (m : Nat) (A : Nat → Int) (x : Int) (e : Ending) (w' : World) : Prop :=
  ∃ v' m' A', e = .returned v' ∧ Ints w' v' m' A' ∧ Below w.heap.size w w' ∧ m' ≤ m + 1 ∧ IncN m' A' ∧ ∀ y, HasN m' A' y ↔ (y = x ∨ HasN m A y)
end Go.Proofs.YtbfhfjpfjkdcfaaGreatDoor
namespace Go.Proofs.YtbfhfjpfjkdcfaaGreatDoor
open Go.RowKit

/-- Spot v comes after spot i. -/
def aft (X Y : Nat → Int) (v i : Nat) : Bool := decide (X i < X v) || (decide (X v = X i) && decide (Y i < Y v))
/-- Where performer i is put among the first k numbers. -/
def posO (X Y : Nat → Int) (O : Nat → Int) (i : Nat) : Nat → Nat
  | 0 => 0
  | k + 1 => if aft X Y (O k).toNat i then posO X Y O i k else k + 1
theorem posO_le (X Y : Nat → Int) (O : Nat → Int) (i : Nat) : ∀ k, posO X Y O i k ≤ k
  | 0 => Nat.le_refl _
  | k + 1 => by
    have := posO_le X Y O i k
    unfold posO
    split <;> omega
/-- The first i performers in order. -/
def ordO (X Y : Nat → Int) : Nat → Nat → Int
  | 0 => fun _ => 0
  | i + 1 => putN (ordO X Y i) (posO X Y (ordO X Y i) i i) (i : Int)
theorem ordO_bd (X Y : Nat → Int) : ∀ i j, j < i → 0 ≤ ordO X Y i j ∧ ordO X Y i j < i
  | 0, j, h => absurd h (by omega)
  | i + 1, j, h => by
    have hp := posO_le X Y (ordO X Y i) i i
    unfold ordO putN
    split
    · have := ordO_bd X Y i j (by omega); omega
    · split
      · omega
      · have := ordO_bd X Y i (j - 1) (by omega); omega
def ordN (n : Nat) (q : Bool) : Nat := if q then n else 0
end Go.Proofs.YtbfhfjpfjkdcfaaGreatDoor
namespace Go.Proofs.YtbfhfjpfjkdcfaaGreatDoor
open Go.RowKit Go.ChangeShapes Go.WideShapes Go.Sort

theorem OwnN.more {base base' : Nat} {w : World} {v : Value} {n : Nat} {X : Nat → Int} (h : OwnN base w v n X) (hb : base' ≤ base) : OwnN base' w v n X := by
  refine ⟨h.1, h.2.imp id fun ⟨g, cap, cur, h1, h2, h3⟩ => ⟨g, cap, cur, h1, Nat.le_trans hb h2, h3⟩⟩
theorem step_add_ints {ops : Array Oper} {o : Oper} {a : Act} {w : World} {K : Act → World → Prop} {Q : Exit → Act → World → Prop} {E : Prop} (hgd : o.guard = none) (s x : Operand)
    (ho : o.op = .call { callee := .builtin .append, args := #[s, x], argTypes := #[30, 30] })
    (base : Nat) (v u : Value) (k m : Nat) (X : Nat → Int) (hs : a.eval s = v) (hx : a.eval x = u) (hown : OwnN base w v k X) (hsp : Ints w u m (fun j => X (k + j))) (hbase : base ≤ w.heap.size) (hk : k ≤ 1048576) (hn : m ≤ 1048576)
    (h : ∀ v' w', OwnN base w' v' (k + m) X → Below base w w' → K (a.put o.dst v') w') :
    if Region.wanted o (yielded ops a.tmps) = true then Oper.wp Tryz.prog o a w K Q else E := by
  have hw : Region.wanted o (yielded ops a.tmps) = true := by unfold Region.wanted; rw [hgd]
  rw [if_pos hw]
  obtain ⟨v', w', hr, h1, h2⟩ := run_add_ints (w := w) o.type base v u k m X hown hsp hbase hk hn
  unfold Oper.wp execOp
  simp only [ho, resolve, invoke, builtin, Sem.run_bind, Sem.run_pure, Result.andThen_ok, List.map_toArray, List.map_cons, List.map_nil, hs, hx, hr]
  exact h _ _ h1 h2
set_option maxRecDepth 100000 in
theorem l1OwnN_g (v : Value) (n : Nat) (X : Nat → Int) (w : World) (h : Ints w v n X) (hn : n ≤ 1048576) :
    Calls Tryz.prog 30 #[v] w (fun e w' => ∃ u, e = .returned u ∧ OwnN w.heap.size w' u n X ∧ Below w.heap.size w w') := by
  go_enter Tryz.func30, Tryz.ntmps30
  go_wp2_with (at_builtin; refine wpList_copy_ints rfl (.tmp 3) (.tmp 4) rfl w.heap.size _ v n X rfl rfl (OwnN.empty (Nat.le_refl _) _) (h.up (by (repeat (first | with_reducible exact Below.refl _ _ | with_reducible assumption | with_reducible refine up_alloc ?_ _ | with_reducible refine up_drew ?_ | with_reducible refine up_drewN ?_ _ | (with_reducible refine up_set ?_ ?hset _; case hset => first | (simp; done) | (simp; omega) | omega) | with_reducible refine up_trans ?_ (by with_reducible assumption))))) (by simp) hn ?_; intro v2 w2 ho2 hb2)
  go_ret
  exact ⟨_, rfl, ho2, (below_alloc _ _).trans hb2⟩
end Go.Proofs.YtbfhfjpfjkdcfaaGreatDoor
namespace Go.Proofs.YtbfhfjpfjkdcfaaGreatDoor
open Go.RowKit Go.ChangeShapes Go.WideShapes Go.Sort

/-- The region with number n in a code. -/
def findRegion (n : Nat) : Code → Option Code
  | .region id l b => if id = n then some (.region id l b) else none
  | .seq a b => match findRegion n a with
    | some c => some c
    | none => findRegion n b
  | .cond _ a b => match findRegion n a with
    | some c => some c
    | none => findRegion n b
  | .loop c => findRegion n c
  | .block _ c => findRegion n c
  | .scope c => findRegion n c
  | _ => none
/-- The 'if' over slot n in a code. -/
def findIf (n : Nat) : Code → Option Code
  | .cond (.tmp m) a b => if m = n then some (.cond (.tmp m) a b) else match findIf n a with
    | some c => some c
    | none => findIf n b
  | .cond _ a b => match findIf n a with
    | some c => some c
    | none => findIf n b
  | .seq a b => match findIf n a with
    | some c => some c
    | none => findIf n b
  | .loop c => findIf n c
  | .block _ c => findIf n c
  | .scope c => findIf n c
  | _ => none
/-- The number of a code's first region. -/
def firstRegion : Code → Option Nat
  | .region id _ _ => some id
  | .seq a b => match firstRegion a with
    | some c => some c
    | none => firstRegion b
  | .cond _ a b => match firstRegion a with
    | some c => some c
    | none => firstRegion b
  | .loop c => firstRegion c
  | .block _ c => firstRegion c
  | .scope c => firstRegion c
  | _ => none
/-- The loop whose first region is n. -/
def findLoop (n : Nat) : Code → Option Code
  | .loop c => if firstRegion c = some n then some (.loop c) else findLoop n c
  | .seq a b => match findLoop n a with
    | some c => some c
    | none => findLoop n b
  | .cond _ a b => match findLoop n a with
    | some c => some c
    | none => findLoop n b
  | .block _ c => findLoop n c
  | .scope c => findLoop n c
  | _ => none
/-- A region in the order of its text, by the quiet walk. -/
theorem wpList_of_quiet {P : Program} {ops : Array Oper} {C : World → Prop} {Q : Exit → Act → World → Prop} : ∀ (l : List Oper) (a : Act) (w : World), C w →
    wpQuiet P ops C (fun a' => ∀ w', C w' → Q .normal a' w') l a → wpList P ops Q l a w := by
  intro l
  induction l with
  | nil => intro a w hC h; exact h w hC
  | cons o rest ih =>
    intro a w hC h
    unfold wpQuiet at h
    unfold wpList
    split
    · rename_i hw
      rw [if_pos hw] at h
      obtain ⟨v, h1, h2⟩ := h
      refine .inl ?_
      have hq := h1 w hC
      unfold Oper.quietAt at hq
      unfold Oper.wp
      revert hq
      cases hr : (execOp a.eval o).run P w with
      | ok n w' =>
        cases n with
        | value u => rintro ⟨rfl, rfl⟩; exact ih _ _ hC h2
        | skip => rintro ⟨rfl, rfl⟩; exact ih _ _ hC h2
        | enter f args =>
          rintro ⟨rfl, hc⟩
          refine hc.mono ?_
          rintro e w'' ⟨rfl, hC'⟩
          exact ih _ _ hC' h2
        | _ => intro hq; exact hq.elim
      | _ => intro hq; exact hq.elim
    · rename_i hw
      rw [if_neg hw] at h
      exact ih _ _ hC h
theorem wp_region_upP {P : Program} {id : Nat} {Q : Exit → Act → World → Prop} {a : Act} {w : World} {l : List Oper}
    (h : wpQuiet P l.toArray (fun w' => ∃ p : Regrown, w' = grow (redrawn w p.d) p.os) (fun a' => ∀ w', Below w.heap.size w w' → Q .normal a' w') l a) : (Code.region id l.toArray false).wp P Q a w := by
  have mono : ∀ (l' : List Oper) (a : Act), wpQuiet P l.toArray (fun w' => ∃ p : Regrown, w' = grow (redrawn w p.d) p.os) (fun a' => ∀ w', Below w.heap.size w w' → Q .normal a' w') l' a →
      wpQuiet P l.toArray (fun w' => ∃ p : Regrown, w' = grow (redrawn w p.d) p.os) (fun a' => ∀ w', (∃ p : Regrown, w' = grow (redrawn w p.d) p.os) → Q .normal a' w') l' a := by
    intro l'
    induction l' with
    | nil => intro a h w' hw'; obtain ⟨p, rfl⟩ := hw'; exact h _ (below_regrown _ _ _)
    | cons o rest ih =>
      intro a h
      unfold wpQuiet at h ⊢
      split
      · rename_i hw; rw [if_pos hw] at h; exact Oper.quiet_mono (fun a => ih a) h
      · rename_i hw; rw [if_neg hw] at h; exact ih _ h
  exact wp_region_lit (wpList_of_quiet l a w ⟨⟨w.drawn, #[]⟩, by rw [grow_empty]; rfl⟩ (mono l a h))
end Go.Proofs.YtbfhfjpfjkdcfaaGreatDoor
