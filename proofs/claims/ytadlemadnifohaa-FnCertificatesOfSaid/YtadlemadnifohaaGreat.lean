/-
  LeastGreatest in the program.
-/
import Derived.Test.YtadlemadnifohaaRows
import Derived.Test.YtadlemadnifohaaBase
import Derived.Test.YtadlemadnifohaaSpot
import Derived.Test.YtadlemadnifohaaSlice
import Derived.Test.YtadlemadnifohaaLawS
import Derived.Test.YtadlemadnifohaaMark
import Derived.Test.YtadlemadnifohaaAppend
import Derived.Test.YtadlemadnifohaaAppendE
import Derived.Test.YtadlemadnifohaaForm
import Derived.Test.YtadlemadnifohaaInts
import Derived.Test.YtadlemadnifohaaIntsL
import Derived.Test.YtadlemadnifohaaCopyI
import Derived.Test.YtadlemadnifohaaTurned
import Derived.Test.YtadlemadnifohaaTrans
import Derived.Test.YtadlemadnifohaaMatch
import Derived.Test.YtadlemadnifohaaRowsI
import Derived.Test.YtadlemadnifohaaCosts
import Derived.Test.YtadlemadnifohaaMatS
import Derived.Test.YtadlemadnifohaaMatchP
import Derived.Test.YtadlemadnifohaaMatchQ
import Derived.Test.YtadlemadnifohaaOnes
import Derived.Test.YtadlemadnifohaaTable
import Derived.Test.YtadlemadnifohaaLeast
import Derived.Test.YtadlemadnifohaaLeastM
import Derived.Test.YtadlemadnifohaaGreatP
import Derived.StillTailTactics
import Derived.BigQuiet
namespace Go.Proofs.Ytadlemadnifohaa
open Go.RowKit Go.ChangeShapes Go.WideShapes Go.Sort

theorem bgU_step {n : Nat} {F : Nat → Nat → Int} {u : Nat} (h : 0 < freeN u n) : bgU n F u = minK 1099511627776 u (fun k => max (F (n - freeN u n) k) (bgU n F (u ||| 2 ^ k))) n := tabU_step max 1099511627776 n F u h
theorem bgU_full {n : Nat} {F : Nat → Nat → Int} {u : Nat} (h : freeN u n = 0) : bgU n F u = 0 := tabU_full max 1099511627776 n F u h
set_option maxRecDepth 100000 in
set_option maxHeartbeats 4000000 in
theorem iLeastGreatest_g (v : Value) (n : Nat) (R : Nat → Nat) (F : Nat → Nat → Int) (w : World) (h : IRows w v n R F) (hn : n ≤ 1048576) (hR : ∀ i, i < n → R i ≤ 1048576) :
    Calls Try.prog 30 #[v] w (AnsLM w (sel (acB n R F) n) (lgP n F) (if acB n R F then lgV n F else 0) (acB n R F)) := by
  have HA := Lib.hid (areCosts_g v n R F w h hn hR)
  cases e1 : acB n R F with
  | false =>
    rw [e1] at HA
    obtain ⟨A, c, rfl, _⟩ := h.shape
    clear h hR e1
    go_enter Try.func30, Try.ntmps30
    go_wp2_with (go_at_call 24; refine (HA.out).mono ?_; rintro e w1 ⟨rfl, hb1⟩)
    go_ret3
    exact AnsLM.nil hb1
  | true =>
    rw [e1] at HA
    obtain ⟨⟨n1, n12⟩, _, hF⟩ := acB_iff e1
    obtain ⟨b, o, c, B, O, C, rfl, hM⟩ := mat_of h e1
    simp only [if_true]
    have HAt := Lib.hid (fun r (hr : r < n) => lgAt (n := n) (F := F) n1 n12 hF hr)
    have HB := Lib.hid (fun u => bgU_rng (n := n) (F := F) n1 hF u)
    have HM := Lib.hid hM
    have HF := Lib.hid hF
    clear h hR e1 hF hM
    obtain ⟨N, hN⟩ : ∃ N, 2 ^ n = N := ⟨_, rfl⟩
    have hN2 := two_pow_n n1 n12
    have hsh := shl_n n12
    have HFull := Lib.hid (freeN_full n)
    rw [hN] at hN2 hsh HFull
    have hN1 : (N : Int) - 2 = ((N - 1 : Nat) : Int) - 1 := by omega
    obtain ⟨i0, hi0, hz0, hz1, hz2⟩ := info_parts info_int
    have hmk : ∀ W : World, (Instr.makeSlice 25 (.int .i64 (N : Int)) (.int .i64 (N : Int))).run Try.prog W = .ok (.slice (some ⟨W.heap.size, 0, none⟩) N N) (W.alloc (.cells (madeCells #[.int .i64 0] N) 3)) := fun W => by
      have := run_make_rowN (P := Try.prog) 25 3 i0 _ Try.underlying25 hi0 hz0 .i64 .i64 N N (Nat.le_refl _) (by rw [hz2]; omega) (by omega) W
      rw [this, hz1, Nat.mul_one]; rfl
    clear hi0 hz0 hz1 hz2 i0
    have HN := Lib.hid hN
    clear hN
    go_enter Try.func30, Try.ntmps30
    go_wp2_with (go_at_call 24; refine (HA.out).mono ?_; rintro e w1 ⟨rfl, hb1⟩)
    try go_wp2_with fail
    go_loopw [7] (fun i wr => ∃ (k : Nat) (X : Nat → Int), k + 1 ≤ N ∧ i = .int .i64 ((k : Int) - 1) ∧ Below w1.heap.size w1 wr ∧ w1.heap.size + 1 ≤ wr.heap.size ∧ Free wr w1.heap.size ∧ Row1 wr w1.heap.size 0 N X ∧
        ∀ u, k ≤ u → u < N → X u = bgU n F u) (fun i _ => (intOf i + 1).toNat)
    case atStart =>
      refine ⟨N - 1, _, by omega, congrArg (Value.int .i64) (by omega), below_alloc _ _, by simp, free_made _ _ _, row1_made _ _ _, fun u hu1 hu2 => ?_⟩
      rw [show u = N - 1 by omega, bgU_full (by exact HFull.out)]
    case round =>
      obtain ⟨k, X, hk, rfl, hb, hs, hf, hr, hx⟩ := hrel
      have HR := Lib.hid hr
      have HX := Lib.hid hx
      have HFr := Lib.hid hf
      clear hr hx hf hN1
      rcases Nat.eq_zero_or_pos k with h0 | h0
      · subst h0
        have hw4 := hb1.trans (hb.mono hb1.size)
        go_wp2_with fail
        obtain ⟨w4, rfl⟩ : ∃ W : World, W = wr := ⟨_, rfl⟩
        go_loopw [10, 11, 71] (fun u q i wr => ∃ r : Nat, r ≤ n ∧ i = .int .i64 r ∧ u = .int .i64 (lgU n F r : Nat) ∧ OwnN w4.heap.size wr q r (lgP n F) ∧ Below w4.heap.size w4 wr) (fun _ _ i _ => n - (intOf i).toNat)
        case atStart => exact ⟨0, by omega, rfl, rfl, OwnN.empty (Nat.le_refl _) _, below_alloc _ _⟩
        case round =>
          obtain ⟨r, hr, rfl, rfl, how, hbr⟩ := hrel
          by_cases hlt : r < n
          · have HP := Lib.hid (HAt.out r hlt)
            have HK0 := Lib.hid (lgP_lgN (n := n) (F := F) r)
            have HNx := Lib.hid (lgU_succ (n := n) (F := F) r)
            obtain ⟨k0, hk0⟩ : ∃ k, lgN n F r = k := ⟨_, rfl⟩
            obtain ⟨U, hU⟩ : ∃ U, lgU n F r = U := ⟨_, rfl⟩
            rw [hk0, hU] at HP HNx
            rw [hk0] at HK0
            rw [hU]
            have hUn := HP.out.un
            have hk0n := HP.out.kn
            rw [HN.out] at hUn
            have hU12 : U < 4096 := by omega
            have how2 := Lib.hid how
            clear hk0 hU how
            go_wp2_with fail
            obtain ⟨w5, rfl⟩ : ∃ W : World, W = wr := ⟨_, rfl⟩
            go_loopw [10, 11, 76] (fun u q i wi => ∃ k : Nat, k ≤ k0 ∧ i = .int .i64 k ∧ u = .int .i64 U ∧ OwnN w4.heap.size wi q r (lgP n F) ∧ Below w4.heap.size w4 wi) (fun _ _ i _ => n - (intOf i).toNat)
            case atStart => exact ⟨0, by omega, rfl, rfl, how2.out, hbr⟩
            case round =>
              obtain ⟨k, hk, rfl, rfl, how, hbi⟩ := hrel
              have hkn : k < n := by omega
              have j1 : (k : Int) < (n : Int) := by omega
              have j2 : (r : Int) < (n : Int) := by omega
              have j3 : (U : Int) < (N : Int) := by omega
              have hb0 := shr_bit0 (q := k) hU12
              cases hbit : U.testBit k with
              | true =>
                rw [hbit] at hb0
                have hne : k ≠ k0 := fun e => by subst e; rw [HP.out.bit] at hbit; cases hbit
                clear hbit
                go_wp2_with fail
                go_quiet (fail)
                go_wp2_with fail
                go_roundw
                case rel => exact ⟨k + 1, by omega, by go_num, rfl, OwnN.up how (by (repeat (first | with_reducible exact Below.refl _ _ | with_reducible assumption | with_reducible refine up_alloc ?_ _ | with_reducible refine up_drew ?_ | with_reducible refine up_drewN ?_ _ | (with_reducible refine up_set ?_ ?hset _; case hset => first | (simp; done) | (simp; omega) | omega) | with_reducible refine up_trans ?_ (by with_reducible assumption)))), by (repeat (first | with_reducible exact Below.refl _ _ | with_reducible assumption | with_reducible refine up_alloc ?_ _ | with_reducible refine up_drew ?_ | with_reducible refine up_drewN ?_ _ | (with_reducible refine up_set ?_ ?hset _; case hset => first | (simp; done) | (simp; omega) | omega) | with_reducible refine up_trans ?_ (by with_reducible assumption)))⟩
                case measure => simp [intOf]; omega
              | false =>
                rw [hbit] at hb0
                have hU2lt : U ||| 2 ^ k < N := by rw [← HN.out]; exact or_lt (by rw [HN.out]; exact hUn) hkn
                have hor := or_bitU (q := k) hU12 (by omega)
                obtain ⟨U2, hU2⟩ : ∃ U2, U ||| 2 ^ k = U2 := ⟨_, rfl⟩
                rw [hU2] at hU2lt hor
                have hor' := hor
                rw [IntWalk.i64_left] at hor'
                have hwi := hw4.trans (hbi.mono hw4.size)
                have d0 := up_keep hwi (HM.out.row r hlt)
                have d1 := up_keep hwi (HM.out.at hlt hkn)
                have t1 := up_keep hbi (HR.out.at0 hU2lt)
                have t0 := up_keep hbi (HR.out.at0 (show 0 < N by omega))
                rw [HX.out U2 (Nat.zero_le _) hU2lt] at t1
                rw [HX.out 0 (Nat.le_refl _) (by omega), show bgU n F 0 = lgV n F from rfl] at t0
                have j4 : (U2 : Int) < (N : Int) := by omega
                have j5 : (0 : Int) < (N : Int) := by omega
                have f1 := HF.out r k hlt hkn
                have g1 := HB.out U2
                have HU2 := Lib.hid hU2
                clear hU2
                obtain ⟨x, hx⟩ : ∃ x, (if F r k < bgU n F U2 then bgU n F U2 else F r k) = x := ⟨_, rfl⟩
                have hxm : x = max (F r k) (bgU n F U2) := by rw [← hx]; split <;> omega
                by_cases hq : x ≤ lgV n F
                · have hdec : decide (x ≤ lgV n F) = true := by simpa using hq
                  have hke : k = k0 := by
                    rcases Nat.lt_or_ge k k0 with h | h
                    · rcases HP.out.no k h with h' | h'
                      · rw [hbit] at h'; cases h'
                      · rw [HU2.out] at h'; exact absurd ⟨by omega, by omega⟩ h'
                    · omega
                  have HQ := Lib.hid (show lgP n F r = (k : Int) by rw [HK0.out, hke])
                  have HNx2 := Lib.hid (show lgU n F (r + 1) = U2 by rw [HNx.out, ← hke, HU2.out])
                  clear hq hbit hke hxm
                  go_wp2_with fail
                  go_quiet (fail)
                  clear hx d0 d1 t1 t0
                  have hbn : Below wr.heap.size wr (wr.drewN nq) := up_drewN (Below.refl _ _) nq
                  replace how := OwnN.up how hbn
                  replace hbi := hbi.trans (hbn.mono hbi.size)
                  clear hbn
                  generalize wr.drewN nq = w6 at *
                  go_wp2_with (at_builtin; refine wpList_app_int2 rfl (.tmp 105) (.tmp 107) rfl w4.heap.size _ r (lgP n F) rfl rfl HQ.out (by simp [go_sem]) (OwnN.up how (by (repeat (first | with_reducible exact Below.refl _ _ | with_reducible assumption | with_reducible refine up_alloc ?_ _ | with_reducible refine up_drew ?_ | with_reducible refine up_drewN ?_ _ | (with_reducible refine up_set ?_ ?hset _; case hset => first | (simp; done) | (simp; omega) | omega) | with_reducible refine up_trans ?_ (by with_reducible assumption))))) (show Below w4.heap.size w4 _ from (by (repeat (first | with_reducible exact Below.refl _ _ | with_reducible assumption | with_reducible refine up_alloc ?_ _ | with_reducible refine up_drew ?_ | with_reducible refine up_drewN ?_ _ | (with_reducible refine up_set ?_ ?hset _; case hset => first | (simp; done) | (simp; omega) | omega) | with_reducible refine up_trans ?_ (by with_reducible assumption))))).size (by omega) ?_; intro v2 w2 ho2 hb2 _ _; replace hb2 := (show Below w4.heap.size w4 _ from (by (repeat (first | with_reducible exact Below.refl _ _ | with_reducible assumption | with_reducible refine up_alloc ?_ _ | with_reducible refine up_drew ?_ | with_reducible refine up_drewN ?_ _ | (with_reducible refine up_set ?_ ?hset _; case hset => first | (simp; done) | (simp; omega) | omega) | with_reducible refine up_trans ?_ (by with_reducible assumption))))).trans hb2)
                  refine ⟨?_, ?measure⟩
                  (repeat apply Exists.intro)
                  refine ⟨?rel, rfl⟩
                  case rel => exact ⟨r + 1, by omega, by go_num, by rw [HNx2.out], ho2, hb2⟩
                  case measure => simp [intOf]; omega
                · have hdec : decide (x ≤ lgV n F) = false := by simpa using hq
                  have hne : k ≠ k0 := fun e => by
                    subst e
                    have := HP.out.le
                    rw [HU2.out] at this
                    exact hq (by omega)
                  clear hq hbit hxm
                  go_wp2_with fail
                  go_quiet (fail)
                  clear hx d0 d1 t1 t0
                  go_wp2_with fail
                  go_roundw
                  case rel => exact ⟨k + 1, by omega, by go_num, rfl, OwnN.up how (by (repeat (first | with_reducible exact Below.refl _ _ | with_reducible assumption | with_reducible refine up_alloc ?_ _ | with_reducible refine up_drew ?_ | with_reducible refine up_drewN ?_ _ | (with_reducible refine up_set ?_ ?hset _; case hset => first | (simp; done) | (simp; omega) | omega) | with_reducible refine up_trans ?_ (by with_reducible assumption)))), by (repeat (first | with_reducible exact Below.refl _ _ | with_reducible assumption | with_reducible refine up_alloc ?_ _ | with_reducible refine up_drew ?_ | with_reducible refine up_drewN ?_ _ | (with_reducible refine up_set ?_ ?hset _; case hset => first | (simp; done) | (simp; omega) | omega) | with_reducible refine up_trans ?_ (by with_reducible assumption)))⟩
                  case measure => simp [intOf]; omega
          · have e : r = n := by omega
            have how2 := how
            rw [e] at how2
            clear how
            have hk2 : ¬ (r : Int) < (n : Int) := by omega
            have t0 := up_keep hbr (HR.out.at0 (show 0 < N by omega))
            rw [HX.out 0 (Nat.le_refl _) (by omega), show bgU n F 0 = lgV n F from rfl] at t0
            have j5 : (0 : Int) < (N : Int) := by omega
            clear e hlt
            go_wp2_with fail
            go_quiet (fail)
            have hbn : Below wr.heap.size wr (wr.drewN nq) := up_drewN (Below.refl _ _) nq
            replace how2 := OwnN.up how2 hbn
            replace hbr := hbr.trans (hbn.mono hbr.size)
            go_wp2_with fail
            go_ret3
            exact ⟨_, rfl, how2.ownI.more hw4.size, hw4.trans (hbr.mono hw4.size)⟩
      · obtain ⟨U, rfl⟩ : ∃ U, k = U + 1 := ⟨k - 1, by omega⟩
        rw [show (((U + 1 : Nat) : Int) - 1) = (U : Int) by omega]
        have hUN : U < N := by omega
        have hU2 : U < 2 ^ n := by rw [HN.out]; exact hUN
        have hU12 := lt4096 n12 hU2
        have hfp := freeN_pos (n := n) (u := U) (by rw [HN.out]; omega)
        have hfl := freeN_le U n
        have HT := Lib.hid (bgU_step (F := F) hfp)
        obtain ⟨row, hrow⟩ : ∃ row, n - freeN U n = row := ⟨_, rfl⟩
        have hrn : row < n := by omega
        have HC := Lib.hid (fun W => onesCount_any U n n12 hU2 W)
        rw [hrow] at HT HC
        have x0 := HR.out.at0 hUN
        have f0 := HFr.out U
        clear hrow hfp hfl hU2
        go_wp2_with (go_at_call 41; refine (HC.out _).mono ?_; rintro e w3 ⟨rfl, rfl⟩)
        have HX1 := Lib.hid (fun u (hu1 : U < u) hu2 => HX.out u hu1 hu2)
        obtain ⟨w4, rfl⟩ : ∃ W : World, W = wr := ⟨_, rfl⟩
        go_loopw [9] (fun j wx => ∃ (m : Nat) (X' : Nat → Int), m ≤ n ∧ j = .int .i64 m ∧ Below w1.heap.size w1 wx ∧ w1.heap.size + 1 ≤ wx.heap.size ∧ Free wx w1.heap.size ∧ Row1 wx w1.heap.size 0 N X' ∧
          (∀ u, U < u → u < N → X' u = bgU n F u) ∧ X' U = minK 1099511627776 U (fun k => max (F row k) (bgU n F (U ||| 2 ^ k))) m) (fun j _ => n - (intOf j).toNat)
        case atStart =>
          exact ⟨0, _, by omega, rfl, hb.setCell (Nat.le_refl _) _, by rw [size_set]; exact hs, HFr.out.set _ _, HR.out.put0 hUN _, fun u hu1 hu2 => by
            simp only [if_neg (show ¬ u = U by omega)]; exact HX1.out u hu1 hu2, by simp [minK]⟩
        case round =>
          obtain ⟨m, X', hm, rfl, hbx, hsx, hfx, hrx, hxx, hxU⟩ := hrel
          have HR' := Lib.hid hrx
          have HX' := Lib.hid hxx
          have HF' := Lib.hid hfx
          have HU := Lib.hid hxU
          clear hrx hxx hfx hxU x0 f0
          by_cases hlt : m < n
          · have hb0 := shr_bit0 (q := m) hU12
            cases hbit : U.testBit m with
            | true =>
              rw [hbit] at hb0
              simp only [Bool.not_true] at hb0
              have HK := Lib.hid (minK_step0 (T := 1099511627776) (g := fun k => max (F row k) (bgU n F (U ||| 2 ^ k))) hbit)
              clear hbit
              go_wp2_with fail
              go_roundw
              case rel => exact ⟨m + 1, X', by omega, by go_num, hbx, hsx, HF'.out, HR'.out, HX'.out, by rw [HK.out]; exact HU.out⟩
              case measure => simp [intOf]; omega
            | false =>
              rw [hbit] at hb0
              simp only [Bool.not_false] at hb0
              have HK := Lib.hid (minK_step1 (T := 1099511627776) (g := fun k => max (F row k) (bgU n F (U ||| 2 ^ k))) hbit)
              have hgt := or_gt hbit
              have hU2lt : U ||| 2 ^ m < N := by rw [← HN.out]; exact or_lt (by rw [HN.out]; exact hUN) hlt
              have hor := or_bitU (q := m) hU12 (by omega)
              obtain ⟨U2, hU2⟩ : ∃ U2, U ||| 2 ^ m = U2 := ⟨_, rfl⟩
              rw [hU2] at hgt hU2lt hor
              have hwx := hb1.trans (hbx.mono hb1.size)
              have x0 := HR'.out.at0 hUN
              have x1 := HR'.out.at0 hU2lt
              rw [HX'.out U2 hgt hU2lt] at x1
              have f0 := HF'.out U
              have d0 := up_keep hwx (HM.out.row row hrn)
              have d1 := up_keep hwx (HM.out.at hrn hlt)
              have hF1 := HF.out row m hrn hlt
              have hT0 := HB.out U2
              have j1 : (U : Int) < (N : Int) := by omega
              have j2 : (U2 : Int) < (N : Int) := by omega
              have j3 : (row : Int) < (n : Int) := by omega
              have j4 : (m : Int) < (n : Int) := by omega
              have HU2 := Lib.hid hU2
              have HU' := Lib.hid (show X' U = minK 1099511627776 U (fun k => max (F row k) (bgU n F (U ||| 2 ^ k))) m from HU.out)
              clear hbit hU2
              go_wp2_with fail
              refine wp_region_still_tail 23 (by kernel_rfl) (by kernel_rfl) ?_
              simp only [List.take_succ_cons, List.take_zero, List.drop_succ_cons, List.drop_zero]
              repeat still_step
              refine wpStill_nil ?_
              have hbd : Below wr.heap.size wr wr.drew := up_drew (Below.refl _ _)
              have HRd := Lib.hid (HR'.out.up hbd)
              have HFd := Lib.hid (HF'.out.up (by omega) hbd)
              have hbd1 := hbx.trans (hbd.mono hbx.size)
              have hsd := hbd.size
              change wpList _ _ _ _ _ wr.drew
              clear x0 x1 d0 d1 f0 hbd hwx
              generalize wr.drew = w5 at *
              have x0 := HRd.out.at0 hUN
              have f0 := HFd.out U
              go_wp2_with fail
              go_roundw
              case rel =>
                refine ⟨m + 1, _, by omega, by go_num, hbd1.setCell (Nat.le_refl _) _, by rw [size_set]; omega, HFd.out.set _ _, HRd.out.put0 hUN _, fun u hu1 hu2 => ?_, ?_⟩
                · simp only [if_neg (show ¬ u = U by omega)]; exact HX'.out u hu1 hu2
                · simp only [if_true]
                  rw [HK.out, ← HU'.out, HU2.out]
                  first | rfl | omega | (split <;> omega)
              case measure => simp [intOf]; omega
          · have e : m = n := by omega
            subst e
            go_wp2_with fail
            go_roundw
            case rel =>
              refine ⟨U, X', by omega, rfl, hbx, hsx, HF'.out, HR'.out, fun u hu1 hu2 => ?_⟩
              by_cases e : u = U
              · subst e; rw [HU.out, HT.out]
              · exact HX'.out u (by omega) hu2
            case measure => simp [intOf] <;> omega
end Go.Proofs.Ytadlemadnifohaa
