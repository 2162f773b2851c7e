/-
  The program sorts performers: insertion.
-/
import Derived.Test.YtbfhfjpfjkdcfaaRows
import Derived.Test.YtbfhfjpfjkdcfaaBase
import Derived.Test.YtbfhfjpfjkdcfaaSpot
import Derived.Test.YtbfhfjpfjkdcfaaSlice
import Derived.Test.YtbfhfjpfjkdcfaaChart
import Derived.Test.YtbfhfjpfjkdcfaaLawS
import Derived.Test.YtbfhfjpfjkdcfaaMark
import Derived.Test.YtbfhfjpfjkdcfaaInts
import Derived.Test.YtbfhfjpfjkdcfaaIntsL
import Derived.Test.YtbfhfjpfjkdcfaaCopyI
import Derived.Test.YtbfhfjpfjkdcfaaAddI
import Derived.Test.YtbfhfjpfjkdcfaaOrdP
import Derived.Lib.Strings
import Derived.Lib.Slices
import Derived.Lib.Small
import Derived.Lib.Walk
import Derived.Lib.BitFns
import Derived.Test.YtbfhfjpfjkdcfaaPiece
import Derived.BigQuiet
import Derived.RegionTactic
import Derived.ChangeAlike
import Derived.Deep.QuietTactic
import Derived.Deep.CutRange
import Derived.Deep.DeepCutAuto
import Derived.Test.YtbfhfjpfjkdcfaaOrdI
namespace Go.Proofs.Ytbfhfjpfjkdcfaa
open Go.RowKit Go.ChangeShapes Go.WideShapes Go.Sort

/-- While i is put: what stands at q. -/
def insT (O : Nat → Int) (i t q : Nat) : Int := if q < t then O q else if q = t then (i : Int) else if q ≤ i then O (q - 1) else (q : Int)
def sortS (X Y : Nat → Int) (i q : Nat) : Int := if q < i then ordO X Y i q else (q : Int)
theorem insT_start (X Y : Nat → Int) (i q : Nat) : sortS X Y i q = insT (ordO X Y i) i i q := by
  unfold sortS insT
  split
  · rfl
  · split
    · rename_i h1 h2; rw [h2]
    · rw [if_neg (by omega)]
theorem insT_end {X Y : Nat → Int} {i t : Nat} (ht : t ≤ i) (hp : posO X Y (ordO X Y i) i i = t) (q : Nat) : insT (ordO X Y i) i t q = sortS X Y (i + 1) q := by
  unfold sortS insT
  by_cases hq : q < i + 1
  · rw [if_pos hq]
    show _ = putN (ordO X Y i) (posO X Y (ordO X Y i) i i) (i : Int) q
    rw [hp]
    unfold putN
    repeat' split
    all_goals first | rfl | omega
  · rw [if_neg hq, if_neg (by omega), if_neg (by omega), if_neg (by omega)]
theorem insT_step {O : Nat → Int} {i t : Nat} (ht : t + 1 ≤ i) (q : Nat) : (if q = t then (i : Int) else if q = t + 1 then O t else insT O i (t + 1) q) = insT O i t q := by
  unfold insT
  by_cases h1 : q = t
  · rw [if_pos h1, if_neg (by omega), if_pos h1]
  · rw [if_neg h1]
    by_cases h2 : q = t + 1
    · rw [if_pos h2, if_neg (by omega), if_neg (by omega), if_pos (by omega)]
      subst h2; rfl
    · rw [if_neg h2]
      by_cases h3 : q < t
      · rw [if_pos (by omega), if_pos h3]
      · rw [if_neg (by omega), if_neg h2, if_neg h3, if_neg h1]
theorem cellS_drew (w : World) (p : Addr) : w.drew.cell? p = w.cell? p := rfl
theorem frozenS_drew (w : World) (p : Addr) : w.drew.frozen? p = w.frozen? p := rfl
theorem rowS_drew {w : World} {b o n : Nat} {X : Nat → Int} (h : Row1 w b o n X) : Row1 w.drew b o n X := h
theorem freeS_drew {w : World} {b : Nat} (h : Free w b) : Free w.drew b := h
theorem turnS_drew {lo hi : Nat} {w w' : World} (h : Turned lo hi w w') : Turned lo hi w w'.drew := ⟨h.os, h.tape, h.output, h.size, h.block⟩
/-- The numbers in order in their own block d; nothing else has turned. -/
def AnsSort (w : World) (d od n : Nat) (X Y : Nat → Int) (e : Ending) (w' : World) : Prop := e = .returned (.tuple #[]) ∧ Row1 w' d od n (ordO X Y n) ∧ Free w' d ∧ Turned d (d + 1) w w'
set_option maxRecDepth 100000 in
set_option maxHeartbeats 8000000 in
theorem ins_any (bl b o n c d od cd : Nat) (X Y : Nat → Int) (w : World) (hl : w.cell? ⟨bl, 0, none⟩ = some (.slice (some ⟨b, o, none⟩) n c)) (hr : Row2 w b o n X Y) (hbd : bl ≠ d) (hbd2 : b ≠ d)
    (hb : ∀ j, j < n → (0 ≤ X j ∧ X j ≤ 1280) ∧ 0 ≤ Y j ∧ Y j ≤ 672) (hn1 : 1 ≤ n) (hn : n ≤ 12) (hd : Row1 w d od n (fun q => (q : Int))) (hf : Free w d) :
    Calls Try.prog 28 #[.slice (some ⟨d, od, none⟩) n cd, .int .i64 0, .int .i64 (n : Int), (.func (.func 18) #[] #[.pointer (some ⟨bl, 0, none⟩)])] w (AnsSort w d od n X Y) := by
  have HL := Lib.hid hl
  have HR := Lib.hid hr
  have HB := Lib.hid hb
  have hdw := hd.lt (by omega)
  have h0 : Row1 w d od n (sortS X Y 1) := hd.cong (fun q _ => by
    unfold sortS
    by_cases hq : q < 1
    · rw [if_pos hq]
      have : q = 0 := by omega
      subst this
      rfl
    · rw [if_neg hq])
  clear hl hr hb hd
  go_enter Try.func28, Try.ntmps28
  go_wp2_with fail
  go_loopw [8] (fun ii wr => ∃ i : Nat, 1 ≤ i ∧ i ≤ n ∧ ii = .int .i64 (i : Int) ∧ Row1 wr d od n (sortS X Y i) ∧ Free wr d ∧ Turned d (d + 1) w wr) (fun ii _ => n - (intOf ii).toNat)
  case atStart => exact ⟨1, by omega, by omega, rfl, h0, hf, Turned.refl _ _ _⟩
  case round =>
    clear h0 hf
    obtain ⟨i, hi1, hi, rfl, hrow, hfr, ht⟩ := hrel
    by_cases hlt : i < n
    · have j1 : (i : Int) < (n : Int) := by omega
      have HBD := Lib.hid (ordO_bd X Y i)
      have HST := Lib.hid (fun q => insT_start X Y i q)
      have HEN := Lib.hid (fun (t : Nat) (ht : t ≤ i) (hp : posO X Y (ordO X Y i) i i = t) (q : Nat) => insT_end ht hp q)
      have hrow2 : Row1 wr d od n (insT (ordO X Y i) i i) := hrow.cong (fun q _ => HST.out q)
      clear hrow
      generalize ordO X Y i = O at *
      obtain ⟨w4, rfl⟩ : ∃ W : World, W = wr := ⟨_, rfl⟩
      go_wp2_with fail
      go_loopw [9] (fun jj wq => ∃ t : Nat, t ≤ i ∧ jj = .int .i64 (t : Int) ∧ posO X Y O i t = posO X Y O i i ∧ Row1 wq d od n (insT O i t) ∧ Free wq d ∧ Turned d (d + 1) w wq) (fun jj _ => (intOf jj).toNat)
      case atStart => exact ⟨i, by omega, rfl, rfl, hrow2, hfr, ht⟩
      case round =>
        clear hrow2 hfr ht
        obtain ⟨t, htk, rfl, hpos, hrow, hfr, ht⟩ := hrel
        obtain ⟨q, hq⟩ : ∃ q, (decide (0 < t) && aft X Y (O (t - 1)).toNat i) = q := ⟨_, rfl⟩
        have HQ := Lib.hid hq
        have HPOS := Lib.hid hpos
        have HROW := Lib.hid hrow
        have HFR := Lib.hid hfr
        have hsz := ht.size
        go_upto_region 4 with fail
        go_cut [34] (fun s wx => s = .bool q ∧ Below wr.heap.size wr wx)
        case first =>
          by_cases hk0 : t = 0
          · subst hk0
            have q0 : q = false := by rw [← hq]; rfl
            subst q0
            clear hq hpos
            refine wp_region_up (by kernel_rfl) (by kernel_rfl) ?_
            repeat (go_big_quiet_step (fail))
            refine wpQuiet_nil ?_
            intro w1 hb0
            obtain ⟨hc0, hf0⟩ := bcell hb0
            go_wp2_with fail
            go_meet
            exact ⟨rfl, hb0⟩
          · obtain ⟨K, hK⟩ : ∃ K, t - 1 = K := ⟨_, rfl⟩
            rw [hK, decide_eq_true (show 0 < t by omega), Bool.true_and] at hq
            have hKi : K < i := by omega
            obtain ⟨o1, o2⟩ := HBD.out K hKi
            obtain ⟨V, hV⟩ : ∃ V : Nat, O K = V := ⟨(O K).toNat, by omega⟩
            rw [hV, Int.toNat_natCast] at hq
            have hVn : V < n := by omega
            have y0 := hrow t (by omega)
            have y1 := hrow K (by omega)
            rw [show insT O i t t = (i : Int) by simp [insT]] at y0
            rw [show insT O i t K = (V : Int) by rw [← hV]; unfold insT; rw [if_pos (by omega)]] at y1
            have y0' := cell_regrown y0
            have y1' := cell_regrown y1
            have HC := Lib.hid (fun W (hW : Below wr.heap.size wr W) => cmp_any bl b o n c X Y i V W (up_keep hW (ht.cell HL.out (by omega))) (fun j hj => ⟨up_keep hW (ht.cell (HR.out j hj).1 (by omega)), up_keep hW (ht.cell (HR.out j hj).2 (by omega))⟩) hlt hVn HB.out)
            have hca := cmp_aft X Y i V
            rw [hq] at hca
            obtain ⟨cv, hcv⟩ : ∃ z, cmpV X Y i V = z := ⟨_, rfl⟩
            rw [hcv] at HC hca
            have w1' : IntKind.i64.wrap ((t : Int) - 1) = (K : Int) := by rw [show (t : Int) - 1 = (K : Int) by omega]; exact IntWalk.i64_in _ (by omega)
            have jkn : 0 < t := by omega
            have jkb : decide (0 < t) = true := by simpa using jkn
            have jtn : (t : Int) < (n : Int) := by omega
            have jK : (K : Int) < (n : Int) := by omega
            have jK0 : (0 : Int) ≤ (K : Int) := by omega
            clear hV hK o1 o2 y0 y1 hpos hcv hq hrow hfr ht
            cases q with
            | true =>
              have c1 : cv < 0 := hca.2 rfl
              have c2 : decide (cv < 0) = true := by simpa using c1
              clear hca
              refine wp_region_up (by kernel_rfl) (by kernel_rfl) ?_
              repeat (go_big_quiet_step (exact up_of HC.out _ _))
              refine wpQuiet_nil ?_
              intro w1 hb0
              obtain ⟨hc0, hf0⟩ := bcell hb0
              go_wp2_with fail
              go_meet
              exact ⟨rfl, hb0⟩
            | false =>
              have c1 : ¬ cv < 0 := fun h => by simpa using hca.1 h
              have c2 : decide (cv < 0) = false := by simpa using c1
              clear hca
              refine wp_region_up (by kernel_rfl) (by kernel_rfl) ?_
              repeat (go_big_quiet_step (exact up_of HC.out _ _))
              refine wpQuiet_nil ?_
              intro w1 hb0
              obtain ⟨hc0, hf0⟩ := bcell hb0
              go_wp2_with fail
              go_meet
              exact ⟨rfl, hb0⟩
        case rest =>
        obtain ⟨rfl, hb9⟩ := hcut
        obtain ⟨w5, rfl⟩ : ∃ W : World, W = wc := ⟨_, rfl⟩
        have hR5 := HROW.out.up hb9
        have hF5 := HFR.out.up (by omega) hb9
        have ht5 : Turned d (d + 1) w w5 := ht.trans (Turned.of_below hb9)
        clear hq hpos hrow hfr ht hb9
        cases q with
        | true =>
          have hq := HQ.out
          rw [Bool.and_eq_true, decide_eq_true_iff] at hq
          obtain ⟨K, rfl⟩ : ∃ K, t = K + 1 := ⟨t - 1, by omega⟩
          have HNX := Lib.hid (show posO X Y O i K = posO X Y O i i from by
            rw [← HPOS.out]
            rw [Nat.add_sub_cancel] at hq
            exact (if_pos hq.2).symm)
          have hKn : K < n := by omega
          have hK1n : K + 1 < n := by omega
          have ci := hR5 (K + 1) hK1n
          have cj := hR5 K hKn
          rw [show insT O i (K + 1) (K + 1) = (i : Int) by simp [insT]] at ci
          rw [show insT O i (K + 1) K = O K by unfold insT; rw [if_pos (by omega)]] at cj
          have fi := hF5 (od + (K + 1))
          have fj := hF5 (od + K)
          have R1 := hR5.put hK1n (O K)
          have F1 := hF5.set ⟨d, od + (K + 1), none⟩ (.int .i64 (O K))
          have x1 := (cellS_drew _ _).trans (R1 K hKn)
          have x2 := (frozenS_drew _ _).trans (F1 (od + K))
          have R2 := Lib.hid (rowS_drew (R1.put hKn (i : Int)))
          have F2 := Lib.hid (freeS_drew (F1.set ⟨d, od + K, none⟩ (.int .i64 (i : Int))))
          have G2 := Lib.hid (turnS_drew ((ht5.trans (Turned.set (Nat.le_refl d) (Nat.lt_succ_self d) (o := od + (K + 1)) (.int .i64 (O K)))).trans (Turned.set (Nat.le_refl d) (Nat.lt_succ_self d) (o := od + K) (.int .i64 (i : Int)))))
          have jk1 : ((K + 1 : Nat) : Int) < (n : Int) := by omega
          have jK : (K : Int) < (n : Int) := by omega
          have jK0 : (0 : Int) ≤ (K : Int) := by omega
          have w1' : IntKind.i64.wrap (((K + 1 : Nat) : Int) - 1) = (K : Int) := by rw [show ((K + 1 : Nat) : Int) - 1 = (K : Int) by omega]; exact IntWalk.i64_in _ (by omega)
          have w2' : wrap64 (((K + 1 : Nat) : Int) - 1) = (K : Int) := by rw [show ((K + 1 : Nat) : Int) - 1 = (K : Int) by omega]; exact IntWalk.wrap64_in _ (by omega)
          clear R1 F1 hR5 hF5 hq ht5
          go_wp2_with fail
          go_region
          clear x1 x2
          generalize hW7 : World.drew (World.setCell (World.setCell w5 _ _) _ _) = W7 at *
          have R3 := Lib.hid (R2.out.cong (X' := insT O i K) (fun q _ => insT_step (by omega) q))
          clear hW7 R2 ci cj fi fj
          go_wp2_with fail
          go_roundw
          case rel => exact ⟨K, by omega, by first | rfl | go_num | (rw [show ((K : Int) + 1) - 1 = (K : Int) by omega]), HNX.out, R3.out, F2.out, G2.out⟩
          case measure => first | (simp [intOf]; done) | (simp [intOf]; omega)
        | false =>
          have htt : posO X Y O i i = t := by
            have hq := HQ.out
            rw [← HPOS.out]
            cases hh : t with
            | zero => rfl
            | succ K =>
              rw [hh] at hq
              simp only [Nat.add_sub_cancel, Nat.succ_pos, decide_true, Bool.true_and] at hq
              exact if_neg (by rw [hq]; simp)
          have hR6 := Lib.hid (hR5.cong (fun q _ => HEN.out t htk htt q))
          clear hR5
          go_wp2_with fail
          go_roundw
          case rel => exact ⟨i + 1, by omega, by omega, by go_num, hR6.out, hF5, ht5⟩
          case measure => simp [intOf]; omega
    · have e : i = n := by omega
      subst e
      have hrow2 : Row1 wr d od i (ordO X Y i) := hrow.cong (fun q hq => by unfold sortS; rw [if_pos hq])
      go_wp2_with fail
      go_end0
      exact ⟨rfl, hrow2, hfr, ht⟩
end Go.Proofs.Ytbfhfjpfjkdcfaa
