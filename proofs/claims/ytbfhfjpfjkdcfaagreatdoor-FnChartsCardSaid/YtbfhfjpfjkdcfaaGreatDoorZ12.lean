/- Words and contracts, part 12. -/
import Derived.Test.YtbfhfjpfjkdcfaaGreatDoorRows
import Derived.Lib.Strings
import Derived.Lib.Slices
import Derived.Lib.Small
import Derived.Lib.Walk
import Derived.Lib.BitFns
import Derived.BigQuiet
import Derived.RegionTactic
import Derived.ChangeAlike
import Derived.Deep.QuietTactic
import Derived.Deep.CutRange
import Derived.Deep.DeepCutAuto
import Derived.Test.YtbfhfjpfjkdcfaaGreatDoorZ11
namespace Go.Proofs.YtbfhfjpfjkdcfaaGreatDoor
open Go.RowKit Go.ChangeShapes Go.WideShapes Go.Sort

set_option maxRecDepth 100000 in
set_option maxHeartbeats 4000000 in
theorem pdq_any (bl b o n c d od cd : Nat) (X Y : Nat → Int) (lim : Int) (w : World) (hl : w.cell? ⟨bl, 0, none⟩ = some (.slice (some ⟨b, o, none⟩) n c)) (hr : Row2 w b o n X Y) (hbd : bl ≠ d) (hbd2 : b ≠ d)
    (hb : ∀ j, j < n → (0 ≤ X j ∧ X j ≤ 1280) ∧ 0 ≤ Y j ∧ Y j ≤ 672) (hn1 : 1 ≤ n) (hn : n ≤ 12) (hd : Row1 w d od n (fun q => (q : Int))) (hf : Free w d) :
    Calls Tryz.prog 51 #[.slice (some ⟨d, od, none⟩) n cd, .int .i64 0, .int .i64 (n : Int), .int .i64 lim, (.func (.func 29) #[] #[.pointer (some ⟨bl, 0, none⟩)])] w (AnsSort w d od n X Y) := by
  have HI := Lib.hid (ins_any bl b o n c d od cd X Y w hl hr hbd hbd2 hb hn1 hn hd hf)
  clear hl hr hb hd hf
  have jn : (n : Int) ≤ 12 := by omega
  go_enter Tryz.func51, Tryz.ntmps51
  go_wp2_with fail
  go_loopw [1, 2] (fun a b wr => a = .int .i64 0 ∧ b = .int .i64 (n : Int) ∧ wr = w) (fun _ _ _ => 0)
  case atStart => exact ⟨rfl, rfl, rfl⟩
  case round =>
    obtain ⟨rfl, rfl, rfl⟩ := hrel
    go_wp2_with fail
    refine HI.out.mono ?_
    rintro e w2 ⟨rfl, h1, h2, h3⟩
    go_wp2_with fail
    go_end0
    exact ⟨rfl, h1, h2, h3⟩
set_option maxRecDepth 100000 in
set_option maxHeartbeats 4000000 in
theorem sortFunc_any (bl b o n c d od cd : Nat) (X Y : Nat → Int) (w : World) (hl : w.cell? ⟨bl, 0, none⟩ = some (.slice (some ⟨b, o, none⟩) n c)) (hr : Row2 w b o n X Y) (hbd : bl ≠ d) (hbd2 : b ≠ d)
    (hb : ∀ j, j < n → (0 ≤ X j ∧ X j ≤ 1280) ∧ 0 ≤ Y j ∧ Y j ≤ 672) (hn1 : 1 ≤ n) (hn : n ≤ 12) (hd : Row1 w d od n (fun q => (q : Int))) (hf : Free w d) :
    Calls Tryz.prog 28 #[.slice (some ⟨d, od, none⟩) n cd, (.func (.func 29) #[] #[.pointer (some ⟨bl, 0, none⟩)])] w (AnsSort w d od n X Y) := by
  have HI := Lib.hid (fun lim => pdq_any bl b o n c d od cd X Y lim w hl hr hbd hbd2 hb hn1 hn hd hf)
  clear hl hr hb hd hf
  have w1' : IntKind.u64.wrap (n : Int) = (n : Int) := IntWalk.u64_in _ (by omega)
  go_enter Tryz.func28, Tryz.ntmps28
  go_wp2_with (go_at_call 52; refine (len_any (n : Int) _ (by omega) (by omega)).mono ?_; rintro e w1 ⟨⟨z, rfl⟩, rfl⟩)
  refine (HI.out _).mono ?_
  rintro e w2 ⟨rfl, h1, h2, h3⟩
  go_wp2_with fail
  go_end0
  exact ⟨rfl, h1, h2, h3⟩
end Go.Proofs.YtbfhfjpfjkdcfaaGreatDoor
namespace Go.Proofs.YtbfhfjpfjkdcfaaGreatDoor
open Go.RowKit Go.ChangeShapes Go.WideShapes Go.Sort

set_option maxRecDepth 100000 in
set_option maxHeartbeats 8000000 in
theorem iOrder_ok (v : Value) (n : Nat) (X Y : Nat → Int) (w : World) (h : Spots w v n X Y) (hc : chartB n X Y = true) :
    Calls Tryz.prog 10 #[v] w (AnsIB w n (ordO X Y n) true) := by
  have HV := Lib.hid h
  have HC := Lib.hid (fun W (hW : Spots W v n X Y) => isChart_g v n X Y W hW (by have := (chartB_iff.1 hc).1.2; omega))
  rw [hc] at HC
  have hn := (chartB_iff.1 hc).1
  have hsp := (chartB_iff.1 hc).2.1
  have HB := Lib.hid (show ∀ j, j < n → (0 ≤ X j ∧ X j ≤ 1280) ∧ 0 ≤ Y j ∧ Y j ≤ 672 from fun j hj => by have := spotB_iff.1 (hsp j hj); omega)
  obtain ⟨Av, cv, rfl, hncv, hrow⟩ := h
  obtain ⟨b, o, rfl, hr⟩ := hrow (by omega)
  have HR := Lib.hid hr
  have hbw := lt_of_cell (hr 0 (by omega)).1
  clear hr hrow hc hsp
  go_enter Tryz.func10, Tryz.ntmps10
  go_wp2_with fail
  generalize hWx : World.alloc w _ = W
  have hbW : Below w.heap.size w W := by subst hWx; exact below_alloc _ _
  have g0 : W.cell? ⟨w.heap.size, 0, none⟩ = some (.slice (some ⟨b, o, none⟩) n cv) := by subst hWx; simp [go_sem]
  have hzW : w.heap.size < W.heap.size := by subst hWx; simp
  clear hWx
  refine (HC.out _ (HV.out.up hbW)).mono ?_
  rintro e w1 ⟨rfl, hb1⟩
  have g1 := up_keep hb1 g0
  have hs1 := hb1.size
  have hbW1 := up_trans hbW hb1
  go_upto_region 4 with fail
  generalize hWx : World.alloc w1 _ = W2
  have hb2 : Below w1.heap.size w1 W2 := by subst hWx; exact below_alloc _ _
  have ho2 : OwnN w1.heap.size W2 (.slice (some ⟨w1.heap.size, 0, none⟩) 0 0) 0 (fun j => (j : Int)) := by subst hWx; exact OwnN.empty (Nat.le_refl _) _
  have hs2 := hb2.size
  clear hWx
  have g2 := up_keep hb2 g1
  go_wp2_with fail
  go_loopw [4, 12] (fun q ii wr => ∃ i : Nat, i ≤ n ∧ ii = .int .i64 (i : Int) ∧ OwnN w1.heap.size wr q i (fun j => (j : Int)) ∧ Below w1.heap.size w1 wr) (fun _ ii _ => n - (intOf ii).toNat)
  case atStart => exact ⟨0, by omega, rfl, ho2, hb2⟩
  case round =>
    obtain ⟨i, hi, rfl, how, hbk⟩ := hrel
    by_cases hlt : i < n
    · have j1 : (i : Int) < (n : Int) := by omega
      have HO := Lib.hid how
      clear how
      go_wp2_with (at_builtin; refine wpList_app_int2 rfl (.tmp 15) (.tmp 17) rfl w1.heap.size _ i (fun j => (j : Int)) rfl rfl rfl (by simp [go_sem]) (OwnN.up HO.out (by (repeat (first | with_reducible exact Below.refl _ _ | with_reducible assumption | with_reducible refine up_alloc ?_ _ | with_reducible refine up_drew ?_ | with_reducible refine up_drewN ?_ _ | (with_reducible refine up_set ?_ ?hset _; case hset => first | (simp; done) | (simp; omega) | omega) | with_reducible refine up_trans ?_ (by with_reducible assumption))))) (show Below w1.heap.size w1 _ from (by (repeat (first | with_reducible exact Below.refl _ _ | with_reducible assumption | with_reducible refine up_alloc ?_ _ | with_reducible refine up_drew ?_ | with_reducible refine up_drewN ?_ _ | (with_reducible refine up_set ?_ ?hset _; case hset => first | (simp; done) | (simp; omega) | omega) | with_reducible refine up_trans ?_ (by with_reducible assumption))))).size (by omega) ?_; intro v3 w3 ho3 hb3 _ _; replace hb3 := (show Below w1.heap.size w1 _ from (by (repeat (first | with_reducible exact Below.refl _ _ | with_reducible assumption | with_reducible refine up_alloc ?_ _ | with_reducible refine up_drew ?_ | with_reducible refine up_drewN ?_ _ | (with_reducible refine up_set ?_ ?hset _; case hset => first | (simp; done) | (simp; omega) | omega) | with_reducible refine up_trans ?_ (by with_reducible assumption))))).trans hb3)
      go_roundw
      case rel => exact ⟨i + 1, by omega, by go_num, ho3, hb3⟩
      case measure => first | (simp [intOf]; done) | (simp [intOf]; omega)
    · have e : i = n := by omega
      subst e
      obtain ⟨Ad, cd, e1, _, hrd⟩ := how.ownI
      subst e1
      obtain ⟨d, od, rfl, hdb, hfd, hR⟩ := hrd (by omega)
      have HSF := Lib.hid (sortFunc_any w.heap.size b o i cv d od cd X Y wr (up_keep hbk g1) (fun j hj => ⟨up_keep hbk (up_keep hbW1 (HR.out j hj).1), up_keep hbk (up_keep hbW1 (HR.out j hj).2)⟩) (by omega) (by have := hbW.size; omega) HB.out (by omega) (by omega) hR hfd)
      have hdlt := hR.lt (by omega)
      have hbwr := up_trans hbW1 hbk
      clear hR hfd hrd how
      go_wp2_with fail
      refine HSF.out.mono ?_
      rintro e w5 ⟨rfl, h1, h2, h3⟩
      go_wp2_with fail
      go_ret2
      exact ⟨_, rfl, ⟨_, _, rfl, by assumption, fun _ => ⟨d, od, rfl, by have := hbW.size; omega, h2, h1⟩⟩, hbwr.trans ⟨h3.os, h3.tape, h3.output, h3.size, fun k hk => h3.block k (by have := hbwr.size; omega) (.inl (by have := hbW.size; omega))⟩⟩
set_option maxRecDepth 100000 in
theorem iOrder_any (v : Value) (n : Nat) (X Y : Nat → Int) (w : World) (h : Spots w v n X Y) (hn : n ≤ 1048576) :
    Calls Tryz.prog 10 #[v] w (AnsIB w (ordN n (chartB n X Y)) (ordO X Y n) (chartB n X Y)) := by
  cases hc : chartB n X Y with
  | true => exact iOrder_ok v n X Y w h hc
  | false =>
    have HV := Lib.hid h
    have HC := Lib.hid (fun W (hW : Spots W v n X Y) => isChart_g v n X Y W hW (by omega))
    rw [hc] at HC
    obtain ⟨Av, cv, rfl, hncv, hrow⟩ := h
    clear hrow
    go_enter Tryz.func10, Tryz.ntmps10
    go_wp2_with fail
    generalize hWx : World.alloc w _ = W
    have hbW : Below w.heap.size w W := by subst hWx; exact below_alloc _ _
    clear hWx
    refine (HC.out _ (HV.out.up hbW)).mono ?_
    rintro e w1 ⟨rfl, hb1⟩
    go_wp2_with fail
    go_ret2
    exact AnsIB.nil (up_trans hbW hb1)
end Go.Proofs.YtbfhfjpfjkdcfaaGreatDoor
namespace Go.Proofs.YtbfhfjpfjkdcfaaGreatDoor
open Go.RowKit Go.ChangeShapes Go.WideShapes Go.Sort

set_option maxHeartbeats 1000000 in
theorem pSame_g (v v' : Value) (n : Nat) (X Y : Nat → Int) (w : World) (h : Spots w v n X Y) (h' : Spots w v' n X Y) (hn : n ≤ 1048576) :
    Calls Tryz.prog 16 #[v, v'] w (Ans w (.bool true)) := by
  obtain ⟨A, c, rfl, hnc, hrow⟩ := h
  obtain ⟨A', c', rfl, hnc', hrow'⟩ := h'
  go_enter Tryz.func16, Tryz.ntmps16
  go_wp2_with fail
  go_loopw [13] (fun i wr => ∃ k : Nat, k ≤ n ∧ i = .int .i64 k ∧ Below w.heap.size w wr) (fun i _ => n - (intOf i).toNat)
  case atStart => exact ⟨0, by omega, rfl, Below.refl _ _⟩
  case round =>
    obtain ⟨k, hk, rfl, hb⟩ := hrel
    by_cases hlt : k < n
    · obtain ⟨b, o, rfl, hr⟩ := hrow (by omega)
      obtain ⟨b', o', rfl, hr'⟩ := hrow' (by omega)
      have c1 := cell_regrown (up_keep hb (hr k hlt).1)
      have c2 := cell_regrown (up_keep hb (hr k hlt).2)
      have c3 := cell_regrown (up_keep hb (hr' k hlt).1)
      have c4 := cell_regrown (up_keep hb (hr' k hlt).2)
      clear hr hr' hrow hrow'
      generalize X k = xk at *
      generalize Y k = yk at *
      go_wp2_with fail
      refine wp_region_up (by kernel_rfl) (by kernel_rfl) ?_
      repeat (go_big_quiet_step (fail))
      refine wpQuiet_nil ?_
      intro w1 hb0
      obtain ⟨hc0, hf0⟩ := bcell hb0
      go_wp2_with fail
      go_roundw
      case rel => exact ⟨k + 1, by omega, by go_num, up_trans hb hb0⟩
      case measure => simp [intOf]; omega
    · have e : k = n := by omega
      subst e
      go_wp2_with fail
      go_ret
      exact Ans.bool rfl hb
/-- Returned: false only where both lengths are small; the world as it was. -/
def AnsBig (w : World) (n m : Nat) (e : Ending) (w' : World) : Prop := ∃ q : Bool, e = .returned (.bool q) ∧ (q = false → n ≤ 1048576 ∧ m ≤ 1048576) ∧ w' = w
set_option maxHeartbeats 1000000 in
theorem big_g (A A' : Option Addr) (n c m c' : Nat) (w : World) (hn : n ≤ 9223372036854775807) (hm : m ≤ 9223372036854775807) :
    Calls Tryz.prog 4 #[.slice A n c, .slice A' m c'] w (AnsBig w n m) := by
  by_cases h1 : n > 1048576
  · have j1 : (n : Int) > 1048576 := by omega
    go_enter Tryz.func4, Tryz.ntmps4
    go_wp2_with fail
    go_ret
    exact ⟨true, rfl, (fun h => absurd h (by simp)), rfl⟩
  · have j1 : ¬ (n : Int) > 1048576 := by omega
    by_cases h2 : m > 1048576 - n
    · have j2 : (m : Int) > 1048576 - (n : Int) := by omega
      go_enter Tryz.func4, Tryz.ntmps4
      go_wp2_with fail
      go_ret
      exact ⟨true, rfl, (fun h => absurd h (by simp)), rfl⟩
    · have j2 : ¬ (m : Int) > 1048576 - (n : Int) := by omega
      go_enter Tryz.func4, Tryz.ntmps4
      go_wp2_with fail
      go_ret
      exact ⟨false, rfl, (fun _ => ⟨by omega, by omega⟩), rfl⟩
end Go.Proofs.YtbfhfjpfjkdcfaaGreatDoor
namespace Go.Proofs.YtbfhfjpfjkdcfaaGreatDoor
open Go.RowKit

/-! ### Texts are read back -/
theorem splitL_text : ∀ o : List (Nat × Nat), splitL 10 (textO o) = o.map (fun a => spL a.1 a.2) ++ [[]]
  | [] => rfl
  | a :: o => by
    have h10 : (10 : UInt8) ∉ spL a.1 a.2 := by
      unfold spL
      simp only [List.mem_append, List.mem_cons, not_or]
      exact ⟨stp_ne (by decide) (by decide), by decide, stp_ne (by decide) (by decide)⟩
    rw [textO_cons, List.append_assoc, List.cons_append, List.nil_append, splitL_hit h10, splitL_text o]
    rfl
theorem allP_text {m : Nat} (hm : 3 ≤ m) : ∀ o : List (Nat × Nat), (∀ a ∈ o, a.1 ≤ 1280 ∧ a.2 ≤ 672) → allP m (o.map (fun a => spL a.1 a.2)) = some o
  | [], _ => rfl
  | a :: o, h => by
    have h1 := (spP_iff (m := m) (x := a.1) (y := a.2) hm).2 ⟨h a (by simp), rfl⟩
    rw [List.map_cons, allP, h1]
    simp only
    rw [allP_text hm o (fun b hb => h b (by simp [hb]))]
    rfl
/-- n spots as a list. -/
def lsO (X Y : Nat → Int) (n : Nat) : List (Nat × Nat) := (List.range n).map fun i => ((X i).toNat, (Y i).toNat)
theorem lsO_len (X Y : Nat → Int) (n : Nat) : (lsO X Y n).length = n := by simp [lsO]
theorem lsO_x {X Y : Nat → Int} {n : Nat} (h : chartB n X Y = true) (i : Nat) (hi : i < n) : xO (lsO X Y n) i = X i ∧ yO (lsO X Y n) i = Y i := by
  have hs := spotB_iff.1 ((chartB_iff.1 h).2.1 i hi)
  unfold xO yO lsO
  rw [List.getD_eq_getElem?_getD, List.getElem?_map, List.getElem?_range hi]
  simp only [Option.map_some, Option.getD_some]
  omega
theorem implR_text {n : Nat} {X Y : Nat → Int} (h : chartB n X Y = true) : implR (txL X Y n) = some (lsO X Y n) := by
  have hx := fun i hi => (lsO_x h i hi).1
  have hy := fun i hi => (lsO_x h i hi).2
  have ht : textO (lsO X Y n) = txL X Y n := by
    unfold textO
    rw [lsO_len]
    exact txL_cong hx hy
  have hg : goodO (lsO X Y n) = true := by
    unfold goodO
    rw [lsO_len, chartB_cong hx hy]
    exact h
  have hl := (chartB_iff.1 h).1
  rw [← specR_implR, ← ht]
  unfold specR
  rw [splitL_text]
  rw [if_neg (by simp [lsO_len]; omega), List.dropLast_concat, allP_text (by omega) _ (fun a ha => by
    unfold lsO at ha
    obtain ⟨i, hi, rfl⟩ := List.mem_map.1 ha
    have hs := spotB_iff.1 ((chartB_iff.1 h).2.1 i (List.mem_range.1 hi))
    simp only
    omega)]
  simp only
  rw [if_pos ⟨hg, trivial⟩]

/-! ### Mirrored charts -/
def mirX (X : Nat → Int) (i : Nat) : Int := 1280 - X i
theorem mir_chart {n : Nat} {X Y : Nat → Int} (h : chartB n X Y = true) : chartB n (fun i => 1280 - X i) Y = true := by
  obtain ⟨h1, h2, h3⟩ := chartB_iff.1 h
  refine chartB_iff.2 ⟨h1, fun i hi => ?_, fun i j hi hj hc => h3 i j hi hj ⟨by have := hc.1; omega, hc.2⟩⟩
  have := spotB_iff.1 (h2 i hi)
  exact spotB_iff.2 ⟨by omega, by omega⟩
theorem mir_mir (X : Nat → Int) : (fun i => 1280 - (1280 - X i)) = X := funext fun i => by omega
theorem mir_sq (X Y : Nat → Int) : sqD (fun i => 1280 - X i) Y = sqD X Y := funext fun i => funext fun j => by
  unfold sqD sq
  rw [show 1280 - X i - (1280 - X j) = -(X i - X j) by omega, Int.neg_mul_neg]
theorem mir_ls {n : Nat} {X Y : Nat → Int} (h : chartB n X Y = true) : lsV n (fun i => 1280 - X i) Y = lsV n X Y := by
  unfold lsV
  rw [mir_sq, mir_chart h, h]

/-! ### The closest pair is the closest -/
theorem cpStep_le (D : Nat → Nat → Int) (s : Nat × Nat) (a b : Nat) : D (cpStep D s a b).1 (cpStep D s a b).2 ≤ D s.1 s.2 ∧ D (cpStep D s a b).1 (cpStep D s a b).2 ≤ D a b := by
  unfold cpStep
  split
  · exact ⟨by simp only; omega, Int.le_refl _⟩
  · exact ⟨Int.le_refl _, by omega⟩
theorem cpRow_le (D : Nat → Nat → Int) (a : Nat) : ∀ (j : Nat) (s : Nat × Nat), D (cpRow D a j s).1 (cpRow D a j s).2 ≤ D s.1 s.2 ∧ ∀ i, i < j → D (cpRow D a j s).1 (cpRow D a j s).2 ≤ D a (a + 1 + i)
  | 0, s => ⟨Int.le_refl _, fun i hi => absurd hi (by omega)⟩
  | j + 1, s => by
    obtain ⟨h1, h2⟩ := cpRow_le D a j s
    obtain ⟨h3, h4⟩ := cpStep_le D (cpRow D a j s) a (a + 1 + j)
    have e : cpRow D a (j + 1) s = cpStep D (cpRow D a j s) a (a + 1 + j) := rfl
    rw [e]
    refine ⟨by omega, fun i hi => ?_⟩
    by_cases hij : i = j
    · subst hij; exact h4
    · have := h2 i (by omega); omega
theorem cpAll_le (D : Nat → Nat → Int) (n : Nat) : ∀ k, ∀ i j, i < k → i < j → j < n → D (cpAll D n k).1 (cpAll D n k).2 ≤ D i j
  | 0, i, _, hi, _, _ => absurd hi (by omega)
  | k + 1, i, j, hi, hij, hj => by
    obtain ⟨h1, h2⟩ := cpRow_le D k (n - 1 - k) (cpAll D n k)
    have e : cpAll D n (k + 1) = cpRow D k (n - 1 - k) (cpAll D n k) := rfl
    rw [e]
    by_cases hik : i = k
    · subst hik
      have := h2 (j - i - 1) (by omega)
      rw [show i + 1 + (j - i - 1) = j by omega] at this
      exact this
    · have := cpAll_le D n k i j (by omega) hij hj
      omega
theorem sqD_symm (X Y : Nat → Int) (i j : Nat) : sqD X Y i j = sqD X Y j i := by
  unfold sqD sq
  rw [show X i - X j = -(X j - X i) by omega, show Y i - Y j = -(Y j - Y i) by omega, Int.neg_mul_neg, Int.neg_mul_neg]
theorem cp_least {n : Nat} {X Y : Nat → Int} (a b : Nat) (ha : a < n) (hb : b < a) : sqD X Y (cp (sqD X Y) n).1 (cp (sqD X Y) n).2 ≤ sq (X a) (Y a) (X b) (Y b) := by
  have := cpAll_le (sqD X Y) n n b a (by omega) hb ha
  rw [sqD_symm X Y b a] at this
  exact this
theorem sq_pos {x y u v : Int} (h : ¬ (x = u ∧ y = v)) : 1 ≤ sq x y u v := by
  unfold sq
  have h1 := sq_nonneg (x - u)
  have h2 := sq_nonneg (y - v)
  by_cases hx : x = u
  · have hy : y - v ≠ 0 := fun e => h ⟨hx, by omega⟩
    have : 0 < (y - v) * (y - v) := by
      rcases Int.lt_or_gt_of_ne hy with q | q
      · exact Int.mul_pos_of_neg_of_neg q q
      · exact Int.mul_pos q q
    omega
  · have hx' : x - u ≠ 0 := fun e => hx (by omega)
    have : 0 < (x - u) * (x - u) := by
      rcases Int.lt_or_gt_of_ne hx' with q | q
      · exact Int.mul_pos_of_neg_of_neg q q
      · exact Int.mul_pos q q
    omega
/-- What the law asks of the closest pair. -/
theorem cp_facts {n : Nat} {X Y : Nat → Int} (h : chartB n X Y = true) (h2 : 2 ≤ n) :
    ((cp (sqD X Y) n).1 < (cp (sqD X Y) n).2 ∧ (cp (sqD X Y) n).2 < n) ∧ 1 ≤ sqD X Y (cp (sqD X Y) n).1 (cp (sqD X Y) n).2 ∧ sqD X Y (cp (sqD X Y) n).1 (cp (sqD X Y) n).2 ≤ 2089984 ∧
      ∀ a b, a < n → b < a → sqD X Y (cp (sqD X Y) n).1 (cp (sqD X Y) n).2 ≤ sq (X a) (Y a) (X b) (Y b) := by
  have hbd : (cp (sqD X Y) n).1 < (cp (sqD X Y) n).2 ∧ (cp (sqD X Y) n).2 < n := cpAll_bd h2 (Nat.le_refl _)
  obtain ⟨_, hs, hd⟩ := chartB_iff.1 h
  refine ⟨hbd, ?_, (sq_bd (hs _ (by omega)) (hs _ hbd.2)).2, fun a b ha hb => cp_least a b ha hb⟩
  exact sq_pos fun e => hd _ _ hbd.2 hbd.1 ⟨e.1.symm, e.2.symm⟩

/-- Both answers on the closest pair, taken apart. -/
theorem cl_split (n : Nat) (X Y : Nat → Int) : ∃ (i1 k1 z0 : Int) (r : Bool), cpV n X Y = .tuple #[.int .i64 i1, .int .i64 k1, .bool r] ∧ lsV n X Y = .tuple #[.int .i64 z0, .bool r] ∧ r = (chartB n X Y && decide (1 < n)) ∧
    (r = true → ∃ i k : Nat, i1 = i ∧ k1 = k ∧ i < k ∧ k < n ∧ z0 = sq (X i) (Y i) (X k) (Y k) ∧ 1 ≤ z0 ∧ z0 ≤ 2089984 ∧ ∀ a b, a < n → b < a → z0 ≤ sq (X a) (Y a) (X b) (Y b)) := by
  by_cases h : chartB n X Y = true ∧ 2 ≤ n
  · obtain ⟨f1, f2, f3, f4⟩ := cp_facts h.1 h.2
    refine ⟨_, _, _, true, if_pos h, if_pos h, ?_, fun _ => ⟨_, _, rfl, rfl, f1.1, f1.2, rfl, f2, f3, f4⟩⟩
    rw [h.1]
    simp
    omega
  · refine ⟨_, _, _, false, if_neg h, if_neg h, ?_, fun h => by cases h⟩
    cases hc : chartB n X Y with
    | false => rfl
    | true =>
      have : ¬ 2 ≤ n := fun h2 => h ⟨hc, h2⟩
      simp
      omega

/-! ### The order rises -/
/-- Spot i comes before spot v. -/
def bef (X Y : Nat → Int) (i v : Nat) : Prop := X i < X v ∨ (X i = X v ∧ Y i < Y v)
theorem aft_iff {X Y : Nat → Int} {v i : Nat} : aft X Y v i = true ↔ bef X Y i v := by
  unfold aft bef
  simp only [Bool.or_eq_true, Bool.and_eq_true, decide_eq_true_eq]
  constructor
  · rintro (h | h)
    · exact .inl h
    · exact .inr ⟨h.1.symm, h.2⟩
  · rintro (h | h)
    · exact .inl h
    · exact .inr ⟨h.1.symm, h.2⟩
theorem bef_trans {X Y : Nat → Int} {a b c : Nat} (h : bef X Y a b) (k : bef X Y b c) : bef X Y a c := by
  unfold bef at *
  omega
theorem posO_after (X Y : Nat → Int) (O : Nat → Int) (i : Nat) : ∀ k j, posO X Y O i k ≤ j → j < k → bef X Y i (O j).toNat
  | 0, _, _, h => absurd h (by omega)
  | k + 1, j, hp, hj => by
    unfold posO at hp
    split at hp
    · rename_i ha
      by_cases e : j = k
      · subst e; exact aft_iff.1 ha
      · exact posO_after X Y O i k j hp (by omega)
    · omega
theorem posO_before (X Y : Nat → Int) (O : Nat → Int) (i : Nat) : ∀ k, 0 < posO X Y O i k → ¬ bef X Y i (O (posO X Y O i k - 1)).toNat
  | 0, h => absurd h (by simp [posO])
  | k + 1, h => by
    unfold posO at h ⊢
    split
    · rename_i ha
      rw [if_pos ha] at h
      exact posO_before X Y O i k h
    · rename_i ha
      rw [Nat.add_sub_cancel]
      exact fun hb => ha (aft_iff.2 hb)
theorem ord_rises {X Y : Nat → Int} {n : Nat} (hd : ∀ i j, i < n → j < i → ¬ (X i = X j ∧ Y i = Y j)) : ∀ i, i ≤ n → ∀ j k, j < k → k < i → bef X Y (ordO X Y i j).toNat (ordO X Y i k).toNat
  | 0, _, _, _, _, h => absurd h (by omega)
  | i + 1, hi, j, k, hjk, hk => by
    have ih := ord_rises hd i (by omega)
    have hp := posO_le X Y (ordO X Y i) i i
    have ha := posO_after X Y (ordO X Y i) i i
    have hb := posO_before X Y (ordO X Y i) i i
    have hbd := ordO_bd X Y i
    have e : ordO X Y (i + 1) = putN (ordO X Y i) (posO X Y (ordO X Y i) i i) (i : Int) := rfl
    rw [e]
    generalize posO X Y (ordO X Y i) i i = p at *
    have hlow : ∀ j, j < p → bef X Y (ordO X Y i j).toNat i := fun j hj => by
      have hq : bef X Y (ordO X Y i (p - 1)).toNat i := by
        have hn := hb (by omega)
        have hq := hbd (p - 1) (by omega)
        have hne := hd i (ordO X Y i (p - 1)).toNat (by omega) (by omega)
        unfold bef at hn ⊢
        omega
      by_cases ej : j = p - 1
      · subst ej; exact hq
      · exact bef_trans (ih j (p - 1) (by omega) (by omega)) hq
    unfold putN
    by_cases h1 : k < p
    · rw [if_pos h1, if_pos (by omega)]
      exact ih j k hjk (by omega)
    · rw [if_neg h1]
      by_cases h2 : k = p
      · rw [if_pos h2, if_pos (by omega)]
        have := hlow j (by omega)
        simpa using this
      · rw [if_neg h2]
        by_cases h3 : j < p
        · rw [if_pos h3]
          exact ih j (k - 1) (by omega) (by omega)
        · rw [if_neg h3]
          by_cases h4 : j = p
          · rw [if_pos h4]
            have := ha (k - 1) (by omega) (by omega)
            simpa using this
          · rw [if_neg h4]
            exact ih (j - 1) (k - 1) (by omega) (by omega)
/-- What the law asks of the order: the tests at its place j. -/
theorem ord_facts {X Y : Nat → Int} {n : Nat} (h : chartB n X Y = true) (j : Nat) (hj : 1 ≤ j) (hn : j < n) :
    ∃ a b : Nat, ordO X Y n (j - 1) = (a : Int) ∧ ordO X Y n j = (b : Int) ∧ a < n ∧ b < n ∧ bef X Y a b := by
  have h1 := ordO_bd X Y n (j - 1) (by omega)
  have h2 := ordO_bd X Y n j hn
  refine ⟨(ordO X Y n (j - 1)).toNat, (ordO X Y n j).toNat, by omega, by omega, by omega, by omega, ?_⟩
  exact ord_rises (chartB_iff.1 h).2.2 n (Nat.le_refl _) (j - 1) j (by omega) hn
end Go.Proofs.YtbfhfjpfjkdcfaaGreatDoor
namespace Go.Proofs.YtbfhfjpfjkdcfaaGreatDoor
open Go.RowKit Go.ChangeShapes Go.WideShapes Go.Sort

/-- Returned: a spot; beside it only the cursor has turned. -/
def AnsSpot (w : World) (p K : Nat) (e : Ending) (w' : World) : Prop := ∃ x y : Int, e = .returned (.agg #[.int .i64 x, .int .i64 y]) ∧ CurAt w' p K ∧ Turned p (p + 1) w w'
set_option maxRecDepth 100000 in
set_option maxHeartbeats 4000000 in
theorem cur_spot (p K : Nat) (w : World) (h : CurAt w p K) (hK : K ≤ 1000000) :
    Calls Tryz.prog 79 #[.pointer (some ⟨p, 0, none⟩)] w (AnsSpot w p (K + 12)) := by
  have hpw := h.lt
  go_enter Tryz.func79, Tryz.ntmps79
  go_wp2_with fail
  generalize hW : World.alloc w _ = W0 at *
  have hbW : Below w.heap.size w W0 := by subst hW; exact below_alloc _ _
  have k0 : W0.cell? ⟨w.heap.size, 0, none⟩ = some (.int .i64 0) := by subst hW; simp [go_sem]
  have k1 : W0.cell? ⟨w.heap.size, 1, none⟩ = some (.int .i64 0) := by subst hW; simp [go_sem]
  have kf : Free W0 w.heap.size := by subst hW; intro o; simp [go_sem]
  have hlt0 : w.heap.size < W0.heap.size := lt_of_cell k0
  clear hW
  refine (cur_pick p K 161 _ (h.up hbW) (by omega) (by omega)).mono ?_
  rintro e w1 ⟨a, rfl, ha, hc1, ht1⟩
  go_wp2_with fail
  refine (cur_pick p _ 1281 _ hc1 (by omega) (by omega)).mono ?_
  rintro e w2 ⟨b, rfl, hb, hc2, ht2⟩
  have hl2 : p < w2.heap.size := hc2.lt
  go_wp2_with fail
  refine (cur_among p _ _ 7 0 1288 _ (hc2.up (below_alloc _ _)) (by omega) (by omega) (by omega) hl2 (by intro i hi; match i, hi with | 0, _ => exact ⟨0, by simp [go_sem], by omega, by omega⟩ | 1, _ => exact ⟨80, by simp [go_sem], by omega, by omega⟩ | 2, _ => exact ⟨160, by simp [go_sem], by omega, by omega⟩ | 3, _ => exact ⟨640, by simp [go_sem], by omega, by omega⟩ | 4, _ => exact ⟨(8 * (a : Int)), by simp [go_sem], by omega, by omega⟩ | 5, _ => exact ⟨(b : Int), by simp [go_sem], by omega, by omega⟩ | 6, _ => exact ⟨1280, by simp [go_sem], by omega, by omega⟩ | (q + 7), hi => omega)).mono ?_
  rintro e w3 ⟨x, rfl, hx, hc3, ht3⟩
  have ht13 := ((ht1.trans ht2).trans (Turned.of_below (below_alloc _ _))).trans ht3
  go_wp2_with fail
  refine (cur_pick p _ 85 _ hc3 (by omega) (by omega)).mono ?_
  rintro e w4 ⟨c, rfl, hc, hc4, ht4⟩
  go_wp2_with fail
  refine (cur_pick p _ 673 _ hc4 (by omega) (by omega)).mono ?_
  rintro e w5 ⟨d, rfl, hd, hc5, ht5⟩
  have hl5 : p < w5.heap.size := hc5.lt
  go_wp2_with fail
  refine (cur_among p _ _ 6 0 1288 _ (hc5.up (below_alloc _ _)) (by omega) (by omega) (by omega) hl5 (by intro i hi; match i, hi with | 0, _ => exact ⟨0, by simp [go_sem], by omega, by omega⟩ | 1, _ => exact ⟨80, by simp [go_sem], by omega, by omega⟩ | 2, _ => exact ⟨336, by simp [go_sem], by omega, by omega⟩ | 3, _ => exact ⟨(8 * (c : Int)), by simp [go_sem], by omega, by omega⟩ | 4, _ => exact ⟨(d : Int), by simp [go_sem], by omega, by omega⟩ | 5, _ => exact ⟨672, by simp [go_sem], by omega, by omega⟩ | (q + 6), hi => omega)).mono ?_
  rintro e w6 ⟨y, rfl, hy, hc6, ht6⟩
  have ht16 := (((ht13.trans ht4).trans ht5).trans (Turned.of_below (below_alloc _ _))).trans ht6
  have c0 := ht16.cell k0 (by omega)
  have c1 := ht16.cell k1 (by omega)
  have f0 := ht16.free kf hlt0 (by omega) 0
  have f1 := ht16.free kf hlt0 (by omega) 1
  go_wp2_with fail
  have q0 := (cell_set_ne (w6.setCell ⟨w.heap.size, 0, none⟩ (.int .i64 x)) (w.heap.size) 1 (.int .i64 y) (w.heap.size) 0 (by omega)).trans (cell_set_same w6 (w.heap.size) 0 _ (.int .i64 x) c0)
  have q1 := cell_set_same (w6.setCell ⟨w.heap.size, 0, none⟩ (.int .i64 x)) (w.heap.size) 1 _ (.int .i64 y) ((cell_set_ne w6 (w.heap.size) 0 (.int .i64 x) (w.heap.size) 1 (by omega)).trans c1)
  have hb9 : Below w.heap.size w6 ((w6.setCell ⟨w.heap.size, 0, none⟩ (.int .i64 x)).setCell ⟨w.heap.size, 1, none⟩ (.int .i64 y)) := ((Below.refl w.heap.size w6).setCell (p := ⟨w.heap.size, 0, none⟩) (Nat.le_refl _) _).setCell (p := ⟨w.heap.size, 1, none⟩) (Nat.le_refl _) _
  generalize World.setCell (World.setCell w6 _ _) _ _ = w9 at *
  refine bodyPost_ret (v := .agg #[.int .i64 x, .int .i64 y]) (by simp [results, Tryz.results79, go_sem, q0, q1]) rfl ?_
  exact ⟨x, y, rfl, (hc6.below hb9 hpw).more (by omega), ((Turned.of_below hbW).trans ht16).far hb9⟩
set_option maxRecDepth 100000 in
set_option maxHeartbeats 4000000 in
theorem cur_anySpot (p K : Nat) (w : World) (h : CurAt w p K) (hK : K ≤ 1000000) :
    Calls Tryz.prog 62 #[.pointer (some ⟨p, 0, none⟩)] w (AnsSpot w p (K + 20)) := by
  have hpw := h.lt
  go_enter Tryz.func62, Tryz.ntmps62
  go_wp2_with fail
  generalize hW : World.alloc w _ = W0 at *
  have hbW : Below w.heap.size w W0 := by subst hW; exact below_alloc _ _
  have k0 : W0.cell? ⟨w.heap.size, 0, none⟩ = some (.int .i64 0) := by subst hW; simp [go_sem]
  have k1 : W0.cell? ⟨w.heap.size, 1, none⟩ = some (.int .i64 0) := by subst hW; simp [go_sem]
  have kf : Free W0 w.heap.size := by subst hW; intro o; simp [go_sem]
  have hlt0 : w.heap.size < W0.heap.size := lt_of_cell k0
  clear hW
  refine (cur_spot p K _ (h.up hbW) (by omega)).mono ?_
  rintro e w1 ⟨x, y, rfl, hc1, ht1⟩
  go_wp2_with fail
  generalize hW : World.alloc w1 _ = W1 at *
  have hbV : Below w1.heap.size w1 W1 := by subst hW; exact below_alloc _ _
  have g0 : W1.cell? ⟨w1.heap.size, 0, none⟩ = some (.int .i64 x) := by subst hW; simp [go_sem]
  have g1 : W1.cell? ⟨w1.heap.size, 1, none⟩ = some (.int .i64 y) := by subst hW; simp [go_sem]
  have gf : Free W1 w1.heap.size := by subst hW; intro o; simp [go_sem]
  have hlt1 : w1.heap.size < W1.heap.size := lt_of_cell g0
  have hs1 := ht1.size
  clear hW
  refine (cur_pick p _ 30 _ (hc1.up hbV) (by omega) (by omega)).mono ?_
  rintro e w2 ⟨n, rfl, hn, hc2, ht2⟩
  have htW := (ht1.trans (Turned.of_below hbV)).trans ht2
  have hsW := hbW.size
  have hlw : w.heap.size < w1.heap.size := by omega
  have hlp : p < w1.heap.size := by omega
  by_cases n0 : n = 0
  · subst n0
    have hl2 : p < w2.heap.size := hc2.lt
    go_wp2_with fail
    refine (cur_among p _ _ 2 (-1) 1281 _ (hc2.up (below_alloc _ _)) (by omega) (by omega) (by omega) hl2 (by intro i hi; match i, hi with | 0, _ => exact ⟨(-1), by simp [go_sem], by omega, by omega⟩ | 1, _ => exact ⟨1281, by simp [go_sem], by omega, by omega⟩ | (q + 2), hi => omega)).mono ?_
    rintro e w3 ⟨z, rfl, hz, hc3, ht3⟩
    have hta := (Turned.of_below (lo := p) (hi := p + 1) (below_alloc w2 _)).trans ht3
    have a0 := (ht2.trans hta).cell g0 (by omega)
    have a1 := (ht2.trans hta).cell g1 (by omega)
    have af := (ht2.trans hta).free gf hlt1 (by omega)
    have af0 := af 0
    have af1 := af 1
    have b0 := (htW.trans hta).cell k0 (by omega)
    have b1 := (htW.trans hta).cell k1 (by omega)
    have bf := (htW.trans hta).free kf hlt0 (by omega)
    have bf0 := bf 0
    have bf1 := bf 1
    go_wp2_with fail
    have c0 := (cell_set_ne w3 w1.heap.size 0 (.int .i64 z) w.heap.size 0 (by omega)).trans b0
    have c1 := (cell_set_ne w3 w1.heap.size 0 (.int .i64 z) w.heap.size 1 (by omega)).trans b1
    have hb8 : Below w.heap.size w3 (w3.setCell ⟨w1.heap.size, 0, none⟩ (.int .i64 z)) := (Below.refl w.heap.size w3).setCell (p := ⟨w1.heap.size, 0, none⟩) (by show w.heap.size ≤ w1.heap.size; omega) _
    have q0 := (cell_set_ne ((w3.setCell ⟨w1.heap.size, 0, none⟩ (.int .i64 z)).setCell ⟨w.heap.size, 0, none⟩ (.int .i64 z)) (w.heap.size) 1 (.int .i64 y) (w.heap.size) 0 (by omega)).trans (cell_set_same (w3.setCell ⟨w1.heap.size, 0, none⟩ (.int .i64 z)) (w.heap.size) 0 _ (.int .i64 z) c0)
    have q1 := cell_set_same ((w3.setCell ⟨w1.heap.size, 0, none⟩ (.int .i64 z)).setCell ⟨w.heap.size, 0, none⟩ (.int .i64 z)) (w.heap.size) 1 _ (.int .i64 y) ((cell_set_ne (w3.setCell ⟨w1.heap.size, 0, none⟩ (.int .i64 z)) (w.heap.size) 0 (.int .i64 z) (w.heap.size) 1 (by omega)).trans c1)
    have hb9 : Below w.heap.size (w3.setCell ⟨w1.heap.size, 0, none⟩ (.int .i64 z)) (((w3.setCell ⟨w1.heap.size, 0, none⟩ (.int .i64 z)).setCell ⟨w.heap.size, 0, none⟩ (.int .i64 z)).setCell ⟨w.heap.size, 1, none⟩ (.int .i64 y)) := ((Below.refl w.heap.size (w3.setCell ⟨w1.heap.size, 0, none⟩ (.int .i64 z))).setCell (p := ⟨w.heap.size, 0, none⟩) (Nat.le_refl _) _).setCell (p := ⟨w.heap.size, 1, none⟩) (Nat.le_refl _) _
    generalize World.setCell (World.setCell (w3.setCell ⟨w1.heap.size, 0, none⟩ (.int .i64 z)) _ _) _ _ = w9 at *
    refine bodyPost_ret (v := .agg #[.int .i64 z, .int .i64 y]) (by simp [results, Tryz.results62, go_sem, q0, q1]) rfl ?_
    exact ⟨z, y, rfl, ((hc3.below hb8 hpw).below hb9 hpw).more (by omega), ((((Turned.of_below hbW).trans htW).trans hta).far hb8).far hb9⟩
  · by_cases n1 : n = 1
    · subst n1
      have hl2 : p < w2.heap.size := hc2.lt
      go_wp2_with fail
      refine (cur_among p _ _ 2 (-1) 1281 _ (hc2.up (below_alloc _ _)) (by omega) (by omega) (by omega) hl2 (by intro i hi; match i, hi with | 0, _ => exact ⟨(-1), by simp [go_sem], by omega, by omega⟩ | 1, _ => exact ⟨673, by simp [go_sem], by omega, by omega⟩ | (q + 2), hi => omega)).mono ?_
      rintro e w3 ⟨z, rfl, hz, hc3, ht3⟩
      have hta := (Turned.of_below (lo := p) (hi := p + 1) (below_alloc w2 _)).trans ht3
      have a0 := (ht2.trans hta).cell g0 (by omega)
      have a1 := (ht2.trans hta).cell g1 (by omega)
      have af := (ht2.trans hta).free gf hlt1 (by omega)
      have af0 := af 0
      have af1 := af 1
      have b0 := (htW.trans hta).cell k0 (by omega)
      have b1 := (htW.trans hta).cell k1 (by omega)
      have bf := (htW.trans hta).free kf hlt0 (by omega)
      have bf0 := bf 0
      have bf1 := bf 1
      go_wp2_with fail
      have c0 := (cell_set_ne w3 w1.heap.size 1 (.int .i64 z) w.heap.size 0 (by omega)).trans b0
      have c1 := (cell_set_ne w3 w1.heap.size 1 (.int .i64 z) w.heap.size 1 (by omega)).trans b1
      have hb8 : Below w.heap.size w3 (w3.setCell ⟨w1.heap.size, 1, none⟩ (.int .i64 z)) := (Below.refl w.heap.size w3).setCell (p := ⟨w1.heap.size, 1, none⟩) (by show w.heap.size ≤ w1.heap.size; omega) _
      have q0 := (cell_set_ne ((w3.setCell ⟨w1.heap.size, 1, none⟩ (.int .i64 z)).setCell ⟨w.heap.size, 0, none⟩ (.int .i64 x)) (w.heap.size) 1 (.int .i64 z) (w.heap.size) 0 (by omega)).trans (cell_set_same (w3.setCell ⟨w1.heap.size, 1, none⟩ (.int .i64 z)) (w.heap.size) 0 _ (.int .i64 x) c0)
      have q1 := cell_set_same ((w3.setCell ⟨w1.heap.size, 1, none⟩ (.int .i64 z)).setCell ⟨w.heap.size, 0, none⟩ (.int .i64 x)) (w.heap.size) 1 _ (.int .i64 z) ((cell_set_ne (w3.setCell ⟨w1.heap.size, 1, none⟩ (.int .i64 z)) (w.heap.size) 0 (.int .i64 x) (w.heap.size) 1 (by omega)).trans c1)
      have hb9 : Below w.heap.size (w3.setCell ⟨w1.heap.size, 1, none⟩ (.int .i64 z)) (((w3.setCell ⟨w1.heap.size, 1, none⟩ (.int .i64 z)).setCell ⟨w.heap.size, 0, none⟩ (.int .i64 x)).setCell ⟨w.heap.size, 1, none⟩ (.int .i64 z)) := ((Below.refl w.heap.size (w3.setCell ⟨w1.heap.size, 1, none⟩ (.int .i64 z))).setCell (p := ⟨w.heap.size, 0, none⟩) (Nat.le_refl _) _).setCell (p := ⟨w.heap.size, 1, none⟩) (Nat.le_refl _) _
      generalize World.setCell (World.setCell (w3.setCell ⟨w1.heap.size, 1, none⟩ (.int .i64 z)) _ _) _ _ = w9 at *
      refine bodyPost_ret (v := .agg #[.int .i64 x, .int .i64 z]) (by simp [results, Tryz.results62, go_sem, q0, q1]) rfl ?_
      exact ⟨x, z, rfl, ((hc3.below hb8 hpw).below hb9 hpw).more (by omega), ((((Turned.of_below hbW).trans htW).trans hta).far hb8).far hb9⟩
    · have jn0 : ¬ (n : Int) = 0 := by omega
      have jn1 : ¬ (n : Int) = 1 := by omega
      have a0 := ht2.cell g0 (by omega)
      have a1 := ht2.cell g1 (by omega)
      have c0 := htW.cell k0 (by omega)
      have c1 := htW.cell k1 (by omega)
      have bf := htW.free kf hlt0 (by omega)
      have bf0 := bf 0
      have bf1 := bf 1
      go_wp2_with fail
      have q0 := (cell_set_ne (w2.setCell ⟨w.heap.size, 0, none⟩ (.int .i64 x)) (w.heap.size) 1 (.int .i64 y) (w.heap.size) 0 (by omega)).trans (cell_set_same w2 (w.heap.size) 0 _ (.int .i64 x) c0)
      have q1 := cell_set_same (w2.setCell ⟨w.heap.size, 0, none⟩ (.int .i64 x)) (w.heap.size) 1 _ (.int .i64 y) ((cell_set_ne w2 (w.heap.size) 0 (.int .i64 x) (w.heap.size) 1 (by omega)).trans c1)
      have hb9 : Below w.heap.size w2 ((w2.setCell ⟨w.heap.size, 0, none⟩ (.int .i64 x)).setCell ⟨w.heap.size, 1, none⟩ (.int .i64 y)) := ((Below.refl w.heap.size w2).setCell (p := ⟨w.heap.size, 0, none⟩) (Nat.le_refl _) _).setCell (p := ⟨w.heap.size, 1, none⟩) (Nat.le_refl _) _
      generalize World.setCell (World.setCell w2 _ _) _ _ = w9 at *
      refine bodyPost_ret (v := .agg #[.int .i64 x, .int .i64 y]) (by simp [results, Tryz.results62, go_sem, q0, q1]) rfl ?_
      exact ⟨x, y, rfl, (hc2.below hb9 hpw).more (by omega), ((Turned.of_below hbW).trans htW).far hb9⟩
end Go.Proofs.YtbfhfjpfjkdcfaaGreatDoor
namespace Go.Proofs.YtbfhfjpfjkdcfaaGreatDoor
open Go.RowKit Go.ChangeShapes Go.WideShapes Go.Sort

theorem same_comm (x y u v : Int) : same x y u v = same u v x y := by unfold same; rw [Bool.eq_iff_iff]; simp; omega
/-- Every spot of the first list is one of the second. -/
def subB (n : Nat) (X Y : Nat → Int) (m : Nat) (X' Y' : Nat → Int) : Bool := allB (fun i => hasB (fun j => same (X i) (Y i) (X' j) (Y' j)) m) n
set_option maxHeartbeats 1000000 in
theorem chFind_any (v : Value) (n : Nat) (X Y : Nat → Int) (x y : Int) (hn : n ≤ 9223372036854775807) (w : World) (h : Spots w v n X Y) :
    Calls Tryz.prog 82 #[v, .agg #[.int .i64 x, .int .i64 y]] w (Ans w (.int .i64 (findV (fun i => same x y (X i) (Y i)) n))) := by
  obtain ⟨A, c, rfl, hnc, hrow⟩ := h
  obtain ⟨r, hr⟩ : ∃ r, r = findV (fun i => same x y (X i) (Y i)) n := ⟨_, rfl⟩
  rw [← hr]
  have HE := Lib.hid hr
  clear hr
  go_enter Tryz.func82, Tryz.ntmps82
  go_wp2_with fail
  have hnew := cell_new2 w (.int .i64 x) (.int .i64 y) 42
  generalize hW : World.alloc _ _ = W at *
  have hb0 : Below w.heap.size w W := by subst hW; (repeat (first | with_reducible exact Below.refl _ _ | with_reducible assumption | with_reducible refine up_alloc ?_ _ | with_reducible refine up_drew ?_ | with_reducible refine up_drewN ?_ _ | (with_reducible refine up_set ?_ ?hset _; case hset => first | (simp; done) | (simp; omega) | omega) | with_reducible refine up_trans ?_ (by with_reducible assumption)))
  have hs : w.heap.size < W.heap.size := by subst hW; simp
  clear hW
  obtain ⟨g0, g1⟩ := hnew
  go_loopw [9] (fun i wr => ∃ k : Nat, k ≤ n ∧ i = .int .i64 k ∧ Below W.heap.size W wr ∧ allB (fun i => !same x y (X i) (Y i)) k = true) (fun i _ => n - (intOf i).toNat)
  case atStart => exact ⟨0, by omega, rfl, Below.refl _ _, rfl⟩
  case round =>
    obtain ⟨k, hk, rfl, hb, ha⟩ := hrel
    have HA := Lib.hid ha
    clear ha
    by_cases hlt : k < n
    · obtain ⟨b, o, rfl, hr⟩ := hrow (by omega)
      have c1 := up_keep hb (up_keep hb0 (hr k hlt).1)
      have c2 := up_keep hb (up_keep hb0 (hr k hlt).2)
      have c3 := up_keep hb g0
      have c4 := up_keep hb g1
      have hz := Nat.lt_of_lt_of_le hs hb.size
      clear hr hrow
      cases hq : same x y (X k) (Y k) with
      | true =>
        have he : ∀ w, (binOp .eql 42 (.agg #[.int .i64 (X k), .int .i64 (Y k)]) (.agg #[.int .i64 x, .int .i64 y])).run Tryz.prog w = .ok (.bool true) w := fun w => by rw [eql_spot, same_comm, hq]
        have HQ := Lib.hid hq
        clear hq
        go_wp2_with fail
        go_ret
        exact Ans.int (by rw [HE.out, findV_at HA.out HQ.out hlt]) (up_trans hb0 (up_alloc hb _))
      | false =>
        have he : ∀ w, (binOp .eql 42 (.agg #[.int .i64 (X k), .int .i64 (Y k)]) (.agg #[.int .i64 x, .int .i64 y])).run Tryz.prog w = .ok (.bool false) w := fun w => by rw [eql_spot, same_comm, hq]
        have HQ := Lib.hid hq
        clear hq
        go_wp2_with fail
        go_roundw
        case rel => exact ⟨k + 1, by omega, by go_num, up_alloc hb _, allB_succ HA.out (by simp [HQ.out])⟩
        case measure => simp [intOf]; omega
    · have e : k = n := by omega
      subst e
      go_wp2_with fail
      go_ret
      exact Ans.int (by rw [HE.out, findV_none HA.out]) (up_trans hb0 hb)
/-- What both sides' SameForm hands back. -/
def sfR (n : Nat) (X Y : Nat → Int) (m : Nat) (X' Y' : Nat → Int) : Bool := chartB n X Y && chartB m X' Y' && ((n == m) && subB n X Y m X' Y')
def sfG (n : Nat) (X Y : Nat → Int) (m : Nat) (X' Y' : Nat → Int) : Bool := chartB n X Y && chartB m X' Y'
theorem Ans.bool2 {w : World} {a b a' b' : Bool} {w' : World} (h : a = a') (h' : b = b') (hb : Below w.heap.size w w') : Ans w (.tuple #[.bool a', .bool b']) (.returned (.tuple #[.bool a, .bool b])) w' := ⟨by rw [h, h'], hb⟩
end Go.Proofs.YtbfhfjpfjkdcfaaGreatDoor
