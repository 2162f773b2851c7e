/-
  CountLeast on both sides.
-/
import Derived.Test.YtadlemadnifohaaRows
import Derived.Test.YtadlemadnifohaaBase
import Derived.Test.YtadlemadnifohaaSpot
import Derived.Test.YtadlemadnifohaaSlice
import Derived.Test.YtadlemadnifohaaLawS
import Derived.Test.YtadlemadnifohaaMark
import Derived.Test.YtadlemadnifohaaAppend
import Derived.Test.YtadlemadnifohaaAppendE
import Derived.Test.YtadlemadnifohaaForm
import Derived.Test.YtadlemadnifohaaInts
import Derived.Test.YtadlemadnifohaaIntsL
import Derived.Test.YtadlemadnifohaaCopyI
import Derived.Test.YtadlemadnifohaaTurned
import Derived.Test.YtadlemadnifohaaTrans
import Derived.Test.YtadlemadnifohaaMatch
import Derived.Test.YtadlemadnifohaaRowsI
import Derived.Test.YtadlemadnifohaaCosts
import Derived.Test.YtadlemadnifohaaMatS
import Derived.Test.YtadlemadnifohaaMatchP
import Derived.Test.YtadlemadnifohaaMatchQ
import Derived.Test.YtadlemadnifohaaOnes
import Derived.Test.YtadlemadnifohaaTable
import Derived.Test.YtadlemadnifohaaLeast
import Derived.Test.YtadlemadnifohaaLeastM
import Derived.StillTailTactics
import Derived.BigQuiet
namespace Go.Proofs.Ytadlemadnifohaa
open Go.RowKit Go.ChangeShapes Go.WideShapes Go.Sort

def sumW (p : Nat → Bool) (g : Nat → Int) : Nat → Int
  | 0 => 0
  | k + 1 => if p k then sumW p g k + g k else sumW p g k
theorem sumW_congr {p : Nat → Bool} {g g' : Nat → Int} : ∀ m, (∀ k, k < m → p k = true → g k = g' k) → sumW p g m = sumW p g' m
  | 0, _ => rfl
  | m + 1, h => by
    simp only [sumW]
    rw [sumW_congr m (fun k hk => h k (by omega))]
    split
    · rename_i e; rw [h m (by omega) e]
    · rfl
theorem sumW_bd {p : Nat → Bool} {g : Nat → Int} {M : Int} (hM : 0 ≤ M) : ∀ m, (∀ k, k < m → 0 ≤ g k ∧ g k ≤ M) → 0 ≤ sumW p g m ∧ sumW p g m ≤ m * M
  | 0, _ => by simp [sumW]
  | m + 1, h => by
    have a := sumW_bd (p := p) hM m (fun k hk => h k (by omega))
    have b := h m (by omega)
    rw [Int.natCast_add, Int.add_mul]
    simp only [sumW]
    split <;> omega
/-- How many least ways there are from the columns u on. -/
def wayG (n : Nat) (F : Nat → Nat → Int) (Tab : Nat → Int) : Nat → Nat → Int
  | 0, _ => 1
  | d + 1, u => sumW (okM F Tab (n - (d + 1)) u) (fun k => wayG n F Tab d (u ||| 2 ^ k)) n
def wayU (n : Nat) (F : Nat → Nat → Int) (Tab : Nat → Int) (u : Nat) : Int := wayG n F Tab (freeN u n) u
theorem wayU_full {n : Nat} {F : Nat → Nat → Int} {Tab : Nat → Int} {u : Nat} (h : freeN u n = 0) : wayU n F Tab u = 1 := by unfold wayU; rw [h]; rfl
theorem okM_bit {F : Nat → Nat → Int} {Tab : Nat → Int} {r u k : Nat} (h : okM F Tab r u k = true) : u.testBit k = false := by
  unfold okM at h
  simp only [Bool.and_eq_true, Bool.not_eq_true'] at h
  exact h.1
theorem wayU_step {n : Nat} {F : Nat → Nat → Int} {Tab : Nat → Int} {u : Nat} (h : 0 < freeN u n) : wayU n F Tab u = sumW (okM F Tab (n - freeN u n) u) (fun k => wayU n F Tab (u ||| 2 ^ k)) n := by
  obtain ⟨d, hd⟩ : ∃ d, freeN u n = d + 1 := ⟨freeN u n - 1, by omega⟩
  unfold wayU
  rw [hd]
  show sumW _ _ _ = _
  refine sumW_congr n (fun k hk hp => ?_)
  have := freeN_set (okM_bit hp) n
  rw [if_pos hk] at this
  rw [show freeN (u ||| 2 ^ k) n = d by omega]
theorem wayG_bd {n : Nat} {F : Nat → Nat → Int} {Tab : Nat → Int} (h2 : n ≤ 12) : ∀ d u, 0 ≤ wayG n F Tab d u ∧ wayG n F Tab d u ≤ 12 ^ d
  | 0, _ => by simp [wayG]
  | d + 1, u => by
    have hp : (0 : Int) ≤ 12 ^ d := Int.pow_nonneg (by omega)
    have := sumW_bd (p := okM F Tab (n - (d + 1)) u) (g := fun k => wayG n F Tab d (u ||| 2 ^ k)) hp n (fun k _ => wayG_bd h2 d (u ||| 2 ^ k))
    have e : (n : Int) * 12 ^ d ≤ 12 * 12 ^ d := Int.mul_le_mul_of_nonneg_right (by omega) hp
    have e2 : (12 : Int) ^ (d + 1) = 12 * 12 ^ d := by rw [Int.pow_succ, Int.mul_comm]
    show 0 ≤ sumW _ _ _ ∧ sumW _ _ _ ≤ _
    rw [e2]
    omega
theorem pow12_le : ∀ d, d ≤ 12 → (12 : Int) ^ d ≤ 8916100448256 := by decide
theorem wayU_bd {n : Nat} {F : Nat → Nat → Int} {Tab : Nat → Int} (h2 : n ≤ 12) (u : Nat) : 0 ≤ wayU n F Tab u ∧ wayU n F Tab u ≤ 8916100448256 := by
  have a := wayG_bd (F := F) (Tab := Tab) h2 (freeN u n) u
  have b := pow12_le (freeN u n) (by have := freeN_le u n; omega)
  unfold wayU
  omega
theorem sumW_yes {p : Nat → Bool} {g : Nat → Int} {k : Nat} (h : p k = true) : sumW p g (k + 1) = sumW p g k + g k := by simp [sumW, h]
theorem sumW_no {p : Nat → Bool} {g : Nat → Int} {k : Nat} (h : p k = false) : sumW p g (k + 1) = sumW p g k := by simp [sumW, h]
def clV (n : Nat) (R : Nat → Nat) (F : Nat → Nat → Int) : Value := .tuple #[.int .i64 (if acB n R F then wayU n F (tabU (· + ·) 1000000000 n F) 0 else 0), .bool (acB n R F)]
set_option maxRecDepth 100000 in
set_option maxHeartbeats 2000000 in
theorem iCountLeast_g (v : Value) (n : Nat) (R : Nat → Nat) (F : Nat → Nat → Int) (w : World) (h : IRows w v n R F) (hn : n ≤ 1048576) (hR : ∀ i, i < n → R i ≤ 1048576) :
    Calls Try.prog 12 #[v] w (Ans w (clV n R F)) := by
  have HI := Lib.hid h
  have HA := Lib.hid (areCosts_g v n R F w h hn hR)
  cases e1 : acB n R F with
  | false =>
    rw [e1] at HA
    rw [show clV n R F = .tuple #[.int .i64 0, .bool false] by simp [clV, e1]]
    obtain ⟨A, c, rfl, _⟩ := h.shape
    clear h hR e1
    go_enter Try.func12, Try.ntmps12
    go_wp2_with (go_at_call 24; refine (HA.out).mono ?_; rintro e w1 ⟨rfl, hb1⟩)
    go_ret2
    exact ⟨rfl, hb1⟩
  | true =>
    rw [e1] at HA
    obtain ⟨⟨n1, n12⟩, _, hF⟩ := acB_iff e1
    rw [show clV n R F = .tuple #[.int .i64 (wayU n F (tabU (· + ·) 1000000000 n F) 0), .bool true] by simp [clV, e1]]
    obtain ⟨b, o, c, B, O, C, rfl, hM⟩ := mat_of h e1
    have HL := Lib.hid (fun W (hW : Below w.heap.size w W) => leastSums_m b o c n F B O C W (hM.up hW) n1 n12 (fun i k hi hk => by have := hF i k hi hk; omega))
    rw [tab_same n12 hF] at HL
    have HB := Lib.hid (tabU_rng (T := 1000000000) (by omega) (by omega) n12 hF)
    have HM := Lib.hid hM
    have HF := Lib.hid hF
    clear h hR e1 hF hM
    generalize hTab : tabU (· + ·) 1000000000 n F = Tab at *
    clear hTab
    have HWb := Lib.hid (fun u => wayU_bd (F := F) (Tab := Tab) n12 u)
    obtain ⟨N, hN⟩ : ∃ N, 2 ^ n = N := ⟨_, rfl⟩
    have hN2 := two_pow_n n1 n12
    have hsh := shl_n n12
    have HFull := Lib.hid (freeN_full n)
    rw [hN] at hN2 hsh HFull
    obtain ⟨N1, hN1'⟩ : ∃ N1, N1 + 1 = N := ⟨N - 1, by omega⟩
    have hN1 : (N : Int) - 1 = (N1 : Int) := by omega
    have hN1N : N1 < N := by omega
    obtain ⟨i0, hi0, hz0, hz1, hz2⟩ := info_parts info_int
    have hmk : ∀ W : World, (Instr.makeSlice 25 (.int .i64 (N : Int)) (.int .i64 (N : Int))).run Try.prog W = .ok (.slice (some ⟨W.heap.size, 0, none⟩) N N) (W.alloc (.cells (madeCells #[.int .i64 0] N) 3)) := fun W => by
      have := run_make_rowN (P := Try.prog) 25 3 i0 _ Try.underlying25 hi0 hz0 .i64 .i64 N N (Nat.le_refl _) (by rw [hz2]; omega) (by omega) W
      rw [this, hz1, Nat.mul_one]; rfl
    clear hi0 hz0 hz1 hz2 i0
    have HN := Lib.hid hN
    have HN1 := Lib.hid hN1'
    clear hN hN1'
    go_enter Try.func12, Try.ntmps12
    go_wp2_with (go_at_call 24; refine (HA.out).mono ?_; rintro e w1 ⟨rfl, hb1⟩)
    refine (HL.out _ hb1).mono ?_
    rintro e w2 ⟨v1, rfl, hv1, hb2⟩
    have hw2 := up_trans hb1 hb2
    obtain ⟨A1, c1, rfl, _, hr1⟩ := hv1
    obtain ⟨b1, o1, rfl, hbb1, _, hrq⟩ := hr1 (by rw [HN.out]; omega)
    rw [HN.out] at hrq
    have HT := Lib.hid hrq
    rw [HN.out]
    have hblt := hrq.lt (by omega)
    have x0 := (row1_made w2 3 N).at0 hN1N
    have f0 := free_made w2 (madeCells #[.int .i64 0] N) 3 N1
    have HWe := Lib.hid (show (w2.alloc (.cells (madeCells #[.int .i64 0] N) 3)).setCell ⟨w2.heap.size, N1, none⟩ (.int .i64 1) = w2.alloc (.cells ((madeCells #[.int .i64 0] N).setIfInBounds N1 (.int .i64 1)) 3) by simp [go_sem])
    clear hr1 hrq
    go_wp2_with fail
    clear x0 f0
    go_loopw [7] (fun i wr => ∃ (k : Nat) (X : Nat → Int), k + 1 ≤ N ∧ i = .int .i64 ((k : Int) - 1) ∧ Below w2.heap.size w2 wr ∧ w2.heap.size + 1 ≤ wr.heap.size ∧ Free wr w2.heap.size ∧ Row1 wr w2.heap.size 0 N X ∧
        (∀ u, k ≤ u → u < N → X u = wayU n F Tab u) ∧ ∀ u, u < k → X u = 0) (fun i _ => (intOf i + 1).toNat)
    case atStart =>
      rw [← HWe.out]
      refine ⟨N - 1, _, by omega, congrArg (Value.int .i64) (by omega), (below_alloc _ _).setCell (Nat.le_refl _) _, by rw [size_set]; simp, (free_made _ _ _).set _ _, (row1_made _ _ _).put0 hN1N _, fun u hu1 hu2 => ?_, fun u hu => ?_⟩
      · rw [if_pos (show u = N1 by have := HN1.out; omega), wayU_full (by rw [show u = N - 1 by omega]; exact HFull.out)]
      · rw [if_neg (show ¬ u = N1 by have := HN1.out; omega)]
    case round =>
      obtain ⟨k, X, hk, rfl, hb, hs, hf, hr, hx, hxz⟩ := hrel
      have HR := Lib.hid hr
      have HX := Lib.hid hx
      have HXz := Lib.hid hxz
      have HFr := Lib.hid hf
      clear hr hx hf hxz hN1
      rcases Nat.eq_zero_or_pos k with h0 | h0
      · subst h0
        have y0 := HR.out.at0 (show 0 < N by omega)
        rw [HX.out 0 (by omega) (by omega)] at y0
        have j0 : (0 : Int) < (N : Int) := by omega
        go_wp2_with fail
        go_ret2
        exact ⟨rfl, hw2.trans (hb.mono hw2.size)⟩
      · obtain ⟨U, rfl⟩ : ∃ U, k = U + 1 := ⟨k - 1, by omega⟩
        rw [show (((U + 1 : Nat) : Int) - 1) = (U : Int) by omega]
        have hUN : U < N := by omega
        have hU2 : U < 2 ^ n := by rw [HN.out]; exact hUN
        have hU12 := lt4096 n12 hU2
        have hfp := freeN_pos (n := n) (u := U) (by rw [HN.out]; omega)
        have hfl := freeN_le U n
        have HTs := Lib.hid (wayU_step (F := F) (Tab := Tab) hfp)
        obtain ⟨row, hrow⟩ : ∃ row, n - freeN U n = row := ⟨_, rfl⟩
        have hrn : row < n := by omega
        have HC := Lib.hid (fun W => onesCount_any U n n12 hU2 W)
        rw [hrow] at HTs HC
        clear hrow hfp hfl hU2
        go_wp2_with (go_at_call 41; refine (HC.out _).mono ?_; rintro e w3 ⟨rfl, rfl⟩)
        have HX1 := Lib.hid (fun u (hu1 : U < u) hu2 => HX.out u hu1 hu2)
        have hXU := HXz.out U (by omega)
        obtain ⟨w4, rfl⟩ : ∃ W : World, W = wr := ⟨_, rfl⟩
        go_loopw [9] (fun j wx => ∃ (m : Nat) (X' : Nat → Int), m ≤ n ∧ j = .int .i64 m ∧ Below w2.heap.size w2 wx ∧ w2.heap.size + 1 ≤ wx.heap.size ∧ Free wx w2.heap.size ∧ Row1 wx w2.heap.size 0 N X' ∧
          (∀ u, U < u → u < N → X' u = wayU n F Tab u) ∧ (∀ u, u < U → X' u = 0) ∧ X' U = sumW (okM F Tab row U) (fun k => wayU n F Tab (U ||| 2 ^ k)) m) (fun j _ => n - (intOf j).toNat)
        case atStart =>
          exact ⟨0, _, by omega, rfl, hb, hs, HFr.out, HR.out, HX1.out, fun u hu => HXz.out u (by omega), by rw [hXU]; rfl⟩
        case round =>
          obtain ⟨m, X', hm, rfl, hbx, hsx, hfx, hrx, hxx, hxz, hxU⟩ := hrel
          have HR' := Lib.hid hrx
          have HX' := Lib.hid hxx
          have HXz' := Lib.hid hxz
          have HF' := Lib.hid hfx
          have HU := Lib.hid hxU
          clear hrx hxx hfx hxU hxz hXU
          by_cases hlt : m < n
          · have hb0 := shr_bit0 (q := m) hU12
            cases hbit : U.testBit m with
            | true =>
              rw [hbit] at hb0
              simp only [Bool.not_true] at hb0
              have HK := Lib.hid (sumW_no (g := fun k => wayU n F Tab (U ||| 2 ^ k)) (show okM F Tab row U m = false by simp [okM, hbit]))
              clear hbit
              go_wp2_with fail
              go_quiet (fail)
              have hbd : Below wr.heap.size wr (wr.drewN nq) := up_drewN (Below.refl _ _) nq
              have HRd := Lib.hid (HR'.out.up hbd)
              have HFd := Lib.hid (HF'.out.up (by omega) hbd)
              have hbd1 := hbx.trans (hbd.mono hbx.size)
              have hsd := hbd.size
              clear hbd
              generalize wr.drewN nq = w5 at *
              go_wp2_with fail
              go_roundw
              case rel => exact ⟨m + 1, X', by omega, by go_num, hbd1, by omega, HFd.out, HRd.out, HX'.out, HXz'.out, by rw [HK.out]; exact HU.out⟩
              case measure => simp [intOf]; omega
            | false =>
              rw [hbit] at hb0
              simp only [Bool.not_false] at hb0
              have hgt := or_gt hbit
              have hU2lt : U ||| 2 ^ m < N := by rw [← HN.out]; exact or_lt (by rw [HN.out]; exact hUN) hlt
              have hor := or_bitU (q := m) hU12 (by omega)
              obtain ⟨U2, hU2⟩ : ∃ U2, U ||| 2 ^ m = U2 := ⟨_, rfl⟩
              rw [hU2] at hgt hU2lt hor
              have hwx := hw2.trans (hbx.mono hw2.size)
              have d0 := up_keep hwx (HM.out.row row hrn)
              have d1 := up_keep hwx (HM.out.at hrn hlt)
              have t1 := up_keep hbx (HT.out U2 hU2lt)
              have t2 := up_keep hbx (HT.out U hUN)
              have f1 := HF.out row m hrn hlt
              have g1 := HB.out U2
              have j1 : (U : Int) < (N : Int) := by omega
              have j2 : (U2 : Int) < (N : Int) := by omega
              have j3 : (row : Int) < (n : Int) := by omega
              have j4 : (m : Int) < (n : Int) := by omega
              have HU2 := Lib.hid hU2
              have hz0 : IntKind.i64.wrap (F row m + Tab U2) = F row m + Tab U2 := IntWalk.i64_in _ (by omega)
              by_cases hq : F row m + Tab U2 = Tab U
              · have hdec : (F row m + Tab U2 == Tab U) = true := by simpa using hq
                have HK := Lib.hid (sumW_yes (g := fun k => wayU n F Tab (U ||| 2 ^ k)) (show okM F Tab row U m = true by unfold okM; rw [hbit, hU2, hdec]; rfl))
                clear hbit hq hU2
                go_wp2_with fail
                go_quiet (fail)
                have hbd : Below wr.heap.size wr (wr.drewN nq) := up_drewN (Below.refl _ _) nq
                have HRd := Lib.hid (HR'.out.up hbd)
                have HFd := Lib.hid (HF'.out.up (by omega) hbd)
                have hbd1 := hbx.trans (hbd.mono hbx.size)
                have hsd := hbd.size
                clear hbd hz0 d0 d1 t1 t2
                generalize wr.drewN nq = w5 at *
                have x0 := HRd.out.at0 hUN
                have x1 := HRd.out.at0 hU2lt
                rw [HX'.out U2 hgt hU2lt] at x1
                have f0 := HFd.out U
                have g2 := HWb.out U2
                have g3 := sumW_bd (p := okM F Tab row U) (g := fun k => wayU n F Tab (U ||| 2 ^ k)) (M := 8916100448256) (by omega) m (fun k _ => HWb.out _)
                rw [← HU.out] at g3
                obtain ⟨xu, hxu⟩ : ∃ x, X' U = x := ⟨_, rfl⟩
                obtain ⟨y2, hy2⟩ : ∃ x, wayU n F Tab U2 = x := ⟨_, rfl⟩
                rw [hxu] at x0 g3
                rw [hy2] at x1 g2
                have HXu := Lib.hid hxu
                have HY2 := Lib.hid hy2
                have hz1 : IntKind.i64.wrap (xu + y2) = xu + y2 := IntWalk.i64_in _ (by omega)
                clear hxu hy2
                go_wp2_with fail
                refine wp_region_still_tail 13 (by kernel_rfl) (by kernel_rfl) ?_
                simp only [List.take_succ_cons, List.take_zero, List.drop_succ_cons, List.drop_zero]
                repeat still_step
                refine wpStill_nil ?_
                have hbe : Below w5.heap.size w5 w5.drew := up_drew (Below.refl _ _)
                have HRe := Lib.hid (HRd.out.up hbe)
                have HFe := Lib.hid (HFd.out.up (by omega) hbe)
                have hbe1 := hbd1.trans (hbe.mono hbd1.size)
                have hse := hbe.size
                change wpList _ _ _ _ _ w5.drew
                clear x0 x1 f0 hz1 hbe
                generalize w5.drew = w6 at *
                have x0 := HRe.out.at0 hUN
                have f0 := HFe.out U
                go_wp2_with fail
                go_roundw
                case rel =>
                  refine ⟨m + 1, _, by omega, by go_num, hbe1.setCell (Nat.le_refl _) _, by rw [size_set]; omega, HFe.out.set _ _, HRe.out.put0 hUN _, fun u hu1 hu2 => ?_, fun u hu => ?_, ?_⟩
                  · simp only [if_neg (show ¬ u = U by omega)]; exact HX'.out u hu1 hu2
                  · simp only [if_neg (show ¬ u = U by omega)]; exact HXz'.out u hu
                  · simp only [if_true]
                    rw [HK.out, ← HU.out, HU2.out, HXu.out, HY2.out]
                case measure => simp [intOf]; omega
              · have hdec : (F row m + Tab U2 == Tab U) = false := by simpa using hq
                have HK := Lib.hid (sumW_no (g := fun k => wayU n F Tab (U ||| 2 ^ k)) (show okM F Tab row U m = false by unfold okM; rw [hbit, hU2, hdec]; rfl))
                clear hbit hq hU2
                go_wp2_with fail
                go_quiet (fail)
                have hbd : Below wr.heap.size wr (wr.drewN nq) := up_drewN (Below.refl _ _) nq
                have HRd := Lib.hid (HR'.out.up hbd)
                have HFd := Lib.hid (HF'.out.up (by omega) hbd)
                have hbd1 := hbx.trans (hbd.mono hbx.size)
                have hsd := hbd.size
                clear hbd hz0 d0 d1 t1 t2
                generalize wr.drewN nq = w5 at *
                go_wp2_with fail
                go_roundw
                case rel => exact ⟨m + 1, X', by omega, by go_num, hbd1, by omega, HFd.out, HRd.out, HX'.out, HXz'.out, by rw [HK.out]; exact HU.out⟩
                case measure => simp [intOf]; omega
          · have e : m = n := by omega
            subst e
            go_wp2_with fail
            go_roundw
            case rel =>
              refine ⟨U, X', by omega, rfl, hbx, hsx, HF'.out, HR'.out, fun u hu1 hu2 => ?_, HXz'.out⟩
              by_cases e : u = U
              · subst e; rw [HU.out, HTs.out]
              · exact HX'.out u (by omega) hu2
            case measure => simp [intOf] <;> omega
theorem xor_or {s k : Nat} (h : s.testBit k = false) : s ^^^ 2 ^ k = s ||| 2 ^ k := Nat.eq_of_testBit_eq (fun i => by
  rw [Nat.testBit_xor, Nat.testBit_two_pow, bit_or]
  by_cases e : k = i
  · subst e; simp [h]
  · simp [e])
set_option maxRecDepth 100000 in
set_option maxHeartbeats 2000000 in
theorem sCountLeast_g (v : Value) (n : Nat) (R : Nat → Nat) (F : Nat → Nat → Int) (w : World) (h : IRows w v n R F) (hn : n ≤ 1048576) (hR : ∀ i, i < n → R i ≤ 1048576) :
    Calls Try.prog 13 #[v] w (Ans w (clV n R F)) := by
  have HI := Lib.hid h
  have HA := Lib.hid (maGood_g v n R F w h hn hR)
  cases e1 : acB n R F with
  | false =>
    rw [e1] at HA
    rw [show clV n R F = .tuple #[.int .i64 0, .bool false] by simp [clV, e1]]
    obtain ⟨A, c, rfl, _⟩ := h.shape
    clear h hR e1
    go_enter Try.func13, Try.ntmps13
    go_wp2_with (go_at_call 35; refine (HA.out).mono ?_; rintro e w1 ⟨rfl, hb1⟩)
    go_ret2
    exact ⟨rfl, hb1⟩
  | true =>
    rw [e1] at HA
    obtain ⟨⟨n1, n12⟩, _, hF⟩ := acB_iff e1
    rw [show clV n R F = .tuple #[.int .i64 (wayU n F (tabU (· + ·) 1000000000 n F) 0), .bool true] by simp [clV, e1]]
    obtain ⟨b, o, c, B, O, C, rfl, hM⟩ := mat_of h e1
    have HL := Lib.hid (fun W (hW : Below w.heap.size w W) => maTable_m b o c n F B O C W (hM.up hW) n1 n12 (fun i k hi hk => by have := hF i k hi hk; omega))
    have HB := Lib.hid (tabU_rng (T := 1000000000) (by omega) (by omega) n12 hF)
    have HM := Lib.hid hM
    have HF := Lib.hid hF
    clear h hR e1 hF hM
    generalize hTab : tabU (· + ·) 1000000000 n F = Tab at *
    clear hTab
    have HWb := Lib.hid (fun u => wayU_bd (F := F) (Tab := Tab) n12 u)
    obtain ⟨N, hN⟩ : ∃ N, 2 ^ n = N := ⟨_, rfl⟩
    have hN2 := two_pow_n n1 n12
    have HFull := Lib.hid (freeN_full n)
    rw [hN] at hN2 HFull
    obtain ⟨i0, hi0, hz0, hz1, hz2⟩ := info_parts info_int
    have hmk : ∀ W : World, (Instr.makeSlice 25 (.int .i64 (N : Int)) (.int .i64 (N : Int))).run Try.prog W = .ok (.slice (some ⟨W.heap.size, 0, none⟩) N N) (W.alloc (.cells (madeCells #[.int .i64 0] N) 3)) := fun W => by
      have := run_make_rowN (P := Try.prog) 25 3 i0 _ Try.underlying25 hi0 hz0 .i64 .i64 N N (Nat.le_refl _) (by rw [hz2]; omega) (by omega) W
      rw [this, hz1, Nat.mul_one]; rfl
    clear hi0 hz0 hz1 hz2 i0
    have HN := Lib.hid hN
    have h0N : 0 < N := by omega
    clear hN
    go_enter Try.func13, Try.ntmps13
    go_wp2_with (go_at_call 35; refine (HA.out).mono ?_; rintro e w1 ⟨rfl, hb1⟩)
    refine (HL.out _ hb1).mono ?_
    rintro e w2 ⟨v1, rfl, hv1, hb2⟩
    have hw2 := up_trans hb1 hb2
    obtain ⟨A1, c1, rfl, _, hr1⟩ := hv1
    obtain ⟨b1, o1, rfl, hbb1, _, hrq⟩ := hr1 (by rw [HN.out]; omega)
    rw [HN.out] at hrq
    have HT := Lib.hid (show ∀ s, s < N → w2.cell? ⟨b1, o1 + s, none⟩ = some (.int .i64 (Tab (compN n s))) from hrq)
    rw [HN.out]
    have hblt := hrq.lt (by omega)
    have x0 := (row1_made w2 3 N).at0 h0N
    have f0 := free_made w2 (madeCells #[.int .i64 0] N) 3 0
    have hj0 : (0 : Int) < (N : Int) := by omega
    have HWe := Lib.hid (show (w2.alloc (.cells (madeCells #[.int .i64 0] N) 3)).setCell ⟨w2.heap.size, 0, none⟩ (.int .i64 1) = w2.alloc (.cells ((madeCells #[.int .i64 0] N).setIfInBounds 0 (.int .i64 1)) 3) by simp [go_sem])
    clear hr1 hrq
    go_wp2_with fail
    clear x0 f0
    go_loopw [7] (fun i wr => ∃ (s : Nat) (X : Nat → Int), 1 ≤ s ∧ s ≤ N ∧ i = .int .i64 s ∧ Below w2.heap.size w2 wr ∧ w2.heap.size + 1 ≤ wr.heap.size ∧ Free wr w2.heap.size ∧ Row1 wr w2.heap.size 0 N X ∧
        (∀ u, u < s → X u = wayU n F Tab (compN n u)) ∧ ∀ u, s ≤ u → u < N → X u = 0) (fun i _ => N - (intOf i).toNat)
    case atStart =>
      rw [← HWe.out]
      refine ⟨1, _, by omega, by omega, rfl, (below_alloc _ _).setCell (Nat.le_refl _) _, by rw [size_set]; simp, (free_made _ _ _).set _ _, (row1_made _ _ _).put0 h0N _, fun u hu => ?_, fun u hu _ => ?_⟩
      · rw [if_pos (show u = 0 by omega), wayU_full (by rw [show u = 0 by omega]; unfold compN; rw [HN.out]; exact HFull.out)]
      · rw [if_neg (show ¬ u = 0 by omega)]
    case round =>
      obtain ⟨s, X, hs1, hsN, rfl, hb, hs, hf, hr, hx, hxz⟩ := hrel
      have HR := Lib.hid hr
      have HX := Lib.hid hx
      have HXz := Lib.hid hxz
      have HFr := Lib.hid hf
      clear hr hx hf hxz
      by_cases hlt0 : s < N
      · have hs2 : s < 2 ^ n := by rw [HN.out]; exact hlt0
        have hs12 := lt4096 n12 hs2
        have hj0 : (s : Int) < (N : Int) := by omega
        go_wp2_with fail
        go_loop [8, 9] (fun z j => ∃ m : Nat, m ≤ n ∧ j = .int .i64 m ∧ z = .int .i64 (m - freeN s m : Nat)) (fun _ j => n - (intOf j).toNat)
        case atStart => exact ⟨0, by omega, rfl, rfl⟩
        case round =>
          obtain ⟨m, hm, rfl, rfl⟩ := hrel
          have hfm := freeN_le s m
          by_cases hlt : m < n
          · have hv := shr_val (q := m) hs12
            cases hbit : s.testBit m with
            | true =>
              rw [hbit] at hv
              have HS := Lib.hid (show ((m + 1 - freeN s (m + 1) : Nat) : Int) = ((m - freeN s m : Nat) : Int) + 1 by simp [freeN, hbit]; omega)
              clear hbit
              simp only [if_true] at hv
              go_wp2_with fail
              go_round
              case rel => exact ⟨m + 1, by omega, by go_num, by rw [HS.out]⟩
              case measure => simp [intOf]; omega
            | false =>
              rw [hbit] at hv
              have HS := Lib.hid (show ((m + 1 - freeN s (m + 1) : Nat) : Int) = ((m - freeN s m : Nat) : Int) by simp [freeN, hbit])
              clear hbit
              simp only [Bool.false_eq_true, if_false] at hv
              go_wp2_with fail
              go_round
              case rel => exact ⟨m + 1, by omega, by go_num, by rw [HS.out]⟩
              case measure => simp [intOf]; omega
          · have e : m = n := by omega
            subst e
            have hcf := compN_free hs2 m (Nat.le_refl _)
            have hsp : freeN s m < m := by
              rcases Nat.lt_or_ge (freeN s m) m with h | h
              · exact h
              · exfalso
                have h0 : s = 0 := Nat.eq_of_testBit_eq (fun i => by
                  rw [Nat.zero_testBit]
                  by_cases hi : i < m
                  · have := freeN_none m (u := compN m s) (by omega) i hi
                    rw [compN_bit hs2 i hi] at this
                    simpa using this
                  · exact Nat.testBit_lt_two_pow (Nat.lt_of_lt_of_le hs2 (Nat.pow_le_pow_right (by omega) (by omega))))
                omega
            have hfp : 0 < freeN (compN m s) m := by omega
            have HTs := Lib.hid (wayU_step (F := F) (Tab := Tab) hfp)
            obtain ⟨row, hrow⟩ : ∃ row, m - freeN (compN m s) m = row := ⟨_, rfl⟩
            obtain ⟨z, hz⟩ : ∃ z, m - freeN s m = z := ⟨_, rfl⟩
            rw [hz]
            have hrn : row < m := by omega
            have hsub : (m : Int) - (z : Int) = (row : Int) := by omega
            have hzm : z ≤ m := by omega
            rw [hrow] at HTs
            have hwr := hw2.trans (hb.mono hw2.size)
            have d0 := up_keep hwr (HM.out.row row hrn)
            have jr : (row : Int) < (m : Int) := by omega
            clear hrow hfp hcf hsp hz hfm
            go_wp2_with fail
            have HX1 := Lib.hid (fun u (hu : u < s) => HX.out u hu)
            have hXs := HXz.out s (Nat.le_refl _) hlt0
            obtain ⟨w4, rfl⟩ : ∃ W : World, W = wr := ⟨_, rfl⟩
            clear d0 hwr
            go_loopw [50] (fun j wx => ∃ (k : Nat) (X' : Nat → Int), k ≤ m ∧ j = .int .i64 k ∧ Below w2.heap.size w2 wx ∧ w2.heap.size + 1 ≤ wx.heap.size ∧ Free wx w2.heap.size ∧ Row1 wx w2.heap.size 0 N X' ∧
              (∀ u, u < s → X' u = wayU m F Tab (compN m u)) ∧ (∀ u, s + 1 ≤ u → u < N → X' u = 0) ∧ X' s = sumW (okM F Tab row (compN m s)) (fun k => wayU m F Tab (compN m s ||| 2 ^ k)) k) (fun j _ => m - (intOf j).toNat)
            case atStart =>
              exact ⟨0, _, by omega, rfl, hb, hs, HFr.out, HR.out, HX1.out, fun u h1 h2 => HXz.out u (by omega) h2, by rw [hXs]; rfl⟩
            case round =>
              obtain ⟨k, X', hk, rfl, hbx, hsx, hfx, hrx, hxx, hxz, hxU⟩ := hrel
              have HR' := Lib.hid hrx
              have HX' := Lib.hid hxx
              have HXz' := Lib.hid hxz
              have HF' := Lib.hid hfx
              have HU := Lib.hid (show X' s = sumW (okM F Tab row (compN m s)) (fun k => wayU m F Tab (compN m s ||| 2 ^ k)) k from hxU)
              clear hrx hxx hfx hxU hxz hXs
              by_cases hlt : k < m
              · have hcb := compN_bit hs2 k hlt
                have hwx := hw2.trans (hbx.mono hw2.size)
                have d1 := up_keep hwx (HM.out.at hrn hlt)
                have j4 : (k : Int) < (m : Int) := by omega
                have hxor := xor_bit (q := k) hs12 (by omega)
                cases hbit : s.testBit k with
                | false =>
                  rw [hbit] at hcb
                  have HK := Lib.hid (sumW_no (g := fun k => wayU m F Tab (compN m s ||| 2 ^ k)) (show okM F Tab row (compN m s) k = false by simp [okM, hcb]))
                  have hgt := or_gt hbit
                  rw [← xor_or hbit] at hgt
                  obtain ⟨s2, hs2e⟩ : ∃ s2, s ^^^ 2 ^ k = s2 := ⟨_, rfl⟩
                  rw [hs2e] at hxor hgt
                  have hxor' := hxor
                  rw [IntWalk.i64_left] at hxor'
                  have hd0 : decide ((s2 : Int) < (s : Int)) = false := by simp; omega
                  have hd1 : decide (s2 < s) = false := by simp; omega
                  clear hbit hcb hs2e
                  go_wp2_with fail
                  go_quiet (fail)
                  have hbd : Below wr.heap.size wr (wr.drewN nq) := up_drewN (Below.refl _ _) nq
                  have HRd := Lib.hid (HR'.out.up hbd)
                  have HFd := Lib.hid (HF'.out.up (by omega) hbd)
                  have hbd1 := hbx.trans (hbd.mono hbx.size)
                  have hsd := hbd.size
                  clear hbd d1
                  generalize wr.drewN nq = w5 at *
                  go_wp2_with fail
                  go_roundw
                  case rel => exact ⟨k + 1, X', by omega, by go_num, hbd1, by omega, HFd.out, HRd.out, HX'.out, HXz'.out, by rw [HK.out]; exact HU.out⟩
                  case measure => simp [intOf]; omega
                | true =>
                  rw [hbit] at hcb
                  obtain ⟨hgt, hce⟩ := compN_xor hs2 hlt hbit
                  obtain ⟨s2, hs2e⟩ : ∃ s2, s ^^^ 2 ^ k = s2 := ⟨_, rfl⟩
                  rw [hs2e] at hxor hgt hce
                  have hxor' := hxor
                  rw [IntWalk.i64_left] at hxor'
                  have hs2N : s2 < N := by omega
                  have t1 := up_keep hbx (HT.out s2 hs2N)
                  have t2 := up_keep hbx (HT.out s hlt0)
                  rw [hce] at t1
                  obtain ⟨cs, hcs⟩ : ∃ c, compN m s = c := ⟨_, rfl⟩
                  obtain ⟨U2, hU2⟩ : ∃ U2, compN m s ||| 2 ^ k = U2 := ⟨_, rfl⟩
                  rw [hU2] at t1 hce
                  rw [hcs] at t2 hcb
                  have f1 := HF.out row k hrn hlt
                  have g1 := HB.out U2
                  have j2 : (s2 : Int) < (N : Int) := by omega
                  have hd0 : decide ((s2 : Int) < (s : Int)) = true := by simp; omega
                  have hd1 : decide (s2 < s) = true := by simp; omega
                  have HU2 := Lib.hid hU2
                  have HCs := Lib.hid hcs
                  have HCe := Lib.hid hce
                  have hz0 : IntKind.i64.wrap (F row k + Tab U2) = F row k + Tab U2 := IntWalk.i64_in _ (by omega)
                  by_cases hq : F row k + Tab U2 = Tab cs
                  · have hdec : (F row k + Tab U2 == Tab cs) = true := by simpa using hq
                    have HK := Lib.hid (sumW_yes (g := fun k => wayU m F Tab (compN m s ||| 2 ^ k)) (show okM F Tab row (compN m s) k = true by unfold okM; rw [hU2, hcs, hcb, hdec]; rfl))
                    clear hbit hq hU2 hcs hce hcb hs2e
                    go_wp2_with fail
                    go_quiet (fail)
                    have hbd : Below wr.heap.size wr (wr.drewN nq) := up_drewN (Below.refl _ _) nq
                    have HRd := Lib.hid (HR'.out.up hbd)
                    have HFd := Lib.hid (HF'.out.up (by omega) hbd)
                    have hbd1 := hbx.trans (hbd.mono hbx.size)
                    have hsd := hbd.size
                    clear hbd hz0 d1 t1 t2
                    generalize wr.drewN nq = w5 at *
                    have x0 := HRd.out.at0 hlt0
                    have x1 := HRd.out.at0 hs2N
                    rw [HX'.out s2 hgt, HCe.out] at x1
                    have f0 := HFd.out s
                    have g2 := HWb.out U2
                    have g3 := sumW_bd (p := okM F Tab row (compN m s)) (g := fun k => wayU m F Tab (compN m s ||| 2 ^ k)) (M := 8916100448256) (by omega) k (fun k _ => HWb.out _)
                    rw [← HU.out] at g3
                    obtain ⟨xu, hxu⟩ : ∃ x, X' s = x := ⟨_, rfl⟩
                    obtain ⟨y2, hy2⟩ : ∃ x, wayU m F Tab U2 = x := ⟨_, rfl⟩
                    rw [hxu] at x0 g3
                    rw [hy2] at x1 g2
                    have HXu := Lib.hid hxu
                    have HY2 := Lib.hid hy2
                    have hz1 : IntKind.i64.wrap (xu + y2) = xu + y2 := IntWalk.i64_in _ (by omega)
                    clear hxu hy2
                    go_wp2_with fail
                    refine wp_region_still_tail 10 (by kernel_rfl) (by kernel_rfl) ?_
                    simp only [List.take_succ_cons, List.take_zero, List.drop_succ_cons, List.drop_zero]
                    repeat still_step
                    refine wpStill_nil ?_
                    have hbe : Below w5.heap.size w5 w5.drew := up_drew (Below.refl _ _)
                    have HRe := Lib.hid (HRd.out.up hbe)
                    have HFe := Lib.hid (HFd.out.up (by omega) hbe)
                    have hbe1 := hbd1.trans (hbe.mono hbd1.size)
                    have hse := hbe.size
                    change wpList _ _ _ _ _ w5.drew
                    clear x0 x1 f0 hz1 hbe
                    generalize w5.drew = w6 at *
                    have x0 := HRe.out.at0 hlt0
                    have f0 := HFe.out s
                    go_wp2_with fail
                    go_roundw
                    case rel =>
                      refine ⟨k + 1, _, by omega, by go_num, hbe1.setCell (Nat.le_refl _) _, by rw [size_set]; omega, HFe.out.set _ _, HRe.out.put0 hlt0 _, fun u hu => ?_, fun u hu1 hu2 => ?_, ?_⟩
                      · simp only [if_neg (show ¬ u = s by omega)]; exact HX'.out u hu
                      · simp only [if_neg (show ¬ u = s by omega)]; exact HXz'.out u hu1 hu2
                      · simp only [if_true]
                        rw [HK.out, ← HU.out, HU2.out, HXu.out, HY2.out]
                    case measure => simp [intOf]; omega
                  · have hdec : (F row k + Tab U2 == Tab cs) = false := by simpa using hq
                    have HK := Lib.hid (sumW_no (g := fun k => wayU m F Tab (compN m s ||| 2 ^ k)) (show okM F Tab row (compN m s) k = false by unfold okM; rw [hU2, hcs, hcb, hdec]; rfl))
                    clear hbit hq hU2 hcs hce hcb hs2e
                    go_wp2_with fail
                    go_quiet (fail)
                    have hbd : Below wr.heap.size wr (wr.drewN nq) := up_drewN (Below.refl _ _) nq
                    have HRd := Lib.hid (HR'.out.up hbd)
                    have HFd := Lib.hid (HF'.out.up (by omega) hbd)
                    have hbd1 := hbx.trans (hbd.mono hbx.size)
                    have hsd := hbd.size
                    clear hbd hz0 d1 t1 t2
                    generalize wr.drewN nq = w5 at *
                    go_wp2_with fail
                    go_roundw
                    case rel => exact ⟨k + 1, X', by omega, by go_num, hbd1, by omega, HFd.out, HRd.out, HX'.out, HXz'.out, by rw [HK.out]; exact HU.out⟩
                    case measure => simp [intOf]; omega
              · have e : k = m := by omega
                subst e
                go_wp2_with fail
                go_roundw
                case rel =>
                  refine ⟨s + 1, X', by omega, by omega, by go_num, hbx, hsx, HF'.out, HR'.out, fun u hu => ?_, HXz'.out⟩
                  by_cases e : u = s
                  · subst e; rw [HU.out, HTs.out]
                  · exact HX'.out u (by omega)
                case measure => simp [intOf] <;> omega
      · have e : s = N := by omega
        subst e
        have y0 := HR.out.at0 (show compN n 0 < s by unfold compN; rw [HN.out]; omega)
        rw [HX.out (compN n 0) (by unfold compN; rw [HN.out]; omega), compN_compN (by rw [HN.out]; omega)] at y0
        have hN1 : (s : Int) - 1 = ((compN n 0 : Nat) : Int) := by unfold compN; rw [HN.out]; omega
        have j1 : ((compN n 0 : Nat) : Int) < (s : Int) := by omega
        go_wp2_with fail
        first
          | (go_ret2; exact ⟨rfl, hw2.trans (hb.mono hw2.size)⟩)
          | (have hz0 : IntKind.i64.wrap ((s : Int) - 1) = ((compN n 0 : Nat) : Int) := (by rw [hN1]; exact IntWalk.i64_in _ (by omega))
             go_quiet (fail)
             clear hz0
             go_wp2_with fail
             go_ret2
             exact ⟨rfl, hw2.trans ((up_drewN hb _).mono hw2.size)⟩)
end Go.Proofs.Ytadlemadnifohaa
