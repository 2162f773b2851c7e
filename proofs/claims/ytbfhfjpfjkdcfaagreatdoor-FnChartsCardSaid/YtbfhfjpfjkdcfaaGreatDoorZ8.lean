/- Words and contracts, part 8. -/
import Derived.Test.YtbfhfjpfjkdcfaaGreatDoorRows
import Derived.Deep.RegionHeld3
import Derived.Deep.RegionWith
import Derived.Deep.CutRange
import Derived.Deep.DeepCutAuto
import Derived.Test.YtbfhfjpfjkdcfaaGreatDoorZ7
namespace Go.Proofs.YtbfhfjpfjkdcfaaGreatDoor
open Go.RowKit Go.ChangeShapes Go.WideShapes Go.Sort Go.Proofs

theorem natB_bad {m : Nat} {q : List UInt8} {b : UInt8} (h : b ∈ q) (hb : isDig b = false) : natB m q = none := by
  unfold natB
  rw [if_neg]
  rintro ⟨_, _, hd⟩
  have := List.all_eq_true.1 hd b h
  rw [hb] at this
  cases this
theorem Strs.one {w : World} {v : Value} {p : List UInt8} (h : Strs w v [p]) : ∃ b o c, v = .slice (some ⟨b, o, none⟩) 1 c ∧ 1 ≤ c ∧ w.cell? ⟨b, o, none⟩ = some (.string (bS p)) := by
  obtain ⟨A, c, rfl, hc, hr⟩ := h
  obtain ⟨b, o, rfl, hx⟩ := hr (by simp)
  exact ⟨b, o, c, rfl, hc, hx 0 p rfl⟩
theorem Strs.two {w : World} {v : Value} {p q : List UInt8} (h : Strs w v [p, q]) : ∃ b o c, v = .slice (some ⟨b, o, none⟩) 2 c ∧ 2 ≤ c ∧ w.cell? ⟨b, o, none⟩ = some (.string (bS p)) ∧ w.cell? ⟨b, o + 1, none⟩ = some (.string (bS q)) := by
  obtain ⟨A, c, rfl, hc, hr⟩ := h
  obtain ⟨b, o, rfl, hx⟩ := hr (by simp)
  exact ⟨b, o, c, rfl, hc, hx 0 p rfl, hx 1 q rfl⟩
theorem Strs.more {w : World} {v : Value} {p : List UInt8} {t : List (List UInt8)} (h : Strs w v (p :: t)) : ∃ b o c, v = .slice (some ⟨b, o, none⟩) (t.length + 1) c ∧ t.length + 1 ≤ c ∧ w.cell? ⟨b, o, none⟩ = some (.string (bS p)) := by
  obtain ⟨A, c, rfl, hc, hr⟩ := h
  obtain ⟨b, o, rfl, hx⟩ := hr (by simp)
  exact ⟨b, o, c, rfl, hc, hx 0 p rfl⟩
theorem split_len {b : UInt8} {q : List UInt8} (h : b ∈ q) : 2 ≤ (splitL b q).length := by
  cases hc : cut1 b q with
  | none => exact absurd h (cut1_none.1 hc)
  | some z =>
    obtain ⟨p, r⟩ := z
    obtain ⟨rfl, h2⟩ := cut1_some.1 hc
    rw [splitL_hit h2]
    have := splitL_ne b r
    have : (splitL b r).length ≠ 0 := by simpa using this
    simp; omega
set_option maxRecDepth 100000 in
set_option maxHeartbeats 2000000 in
theorem stRead_s (l : List UInt8) (w : World) (hl : l.length ≤ 1048576) : Calls Tryz.prog 84 #[.string (bS l)] w (Ans w (.int .i64 (rdV (rdL 6 l)))) := by
  have HS := Lib.hid (l1Split_s l 43 w hl)
  cases hc : cut1 43 l with
  | none =>
    have HSP := Lib.hid (splitL_miss (cut1_none.1 hc))
    have HN := Lib.hid (fun W => l1Read_s l W hl)
    have hr : rdL 6 l = (natB 6 l).map (8 * ·) := by unfold rdL; rw [hc]
    cases hn : natB 6 l with
    | none =>
      have HD := Lib.hid (show rdV (rdL 6 l) = -1 by rw [hr, hn]; rfl)
      rw [hn, show rdV none = -1 from rfl] at HN
      clear hc hr hn
      go_enter Tryz.func84, Tryz.ntmps84
      go_wp2_with (go_at_call 60; refine (HS.out).mono ?_)
      rintro e w1 ⟨v, rfl, hs, hb1⟩
      rw [HSP.out] at hs
      obtain ⟨b, o, c, rfl, hc1, hx⟩ := hs.one
      clear hs
      go_wp2_with (go_at_call 98; (refine (HN.out _).mono ?_); rintro e w2 ⟨rfl, hb2⟩)
      go_ret
      rw [HD.out]
      exact ⟨rfl, by (repeat (first | with_reducible exact Below.refl _ _ | with_reducible assumption | with_reducible refine up_alloc ?_ _ | with_reducible refine up_drew ?_ | with_reducible refine up_drewN ?_ _ | (with_reducible refine up_set ?_ ?hset _; case hset => first | (simp; done) | (simp; omega) | omega) | with_reducible refine up_trans ?_ (by with_reducible assumption)))⟩
    | some n =>
      have hlt := (natB_dec hn).2
      have hb : (n : Int) ≤ 1000000 := by have : n < 10 ^ 6 := hlt; omega
      have hb0 : 0 ≤ (n : Int) := by omega
      have HD := Lib.hid (show rdV (rdL 6 l) = 8 * (n : Int) by rw [hr, hn]; show ((8 * n : Nat) : Int) = _; omega)
      rw [hn, show rdV (some n) = (n : Int) from rfl] at HN
      clear hc hr hn hlt
      go_enter Tryz.func84, Tryz.ntmps84
      go_wp2_with (go_at_call 60; refine (HS.out).mono ?_)
      rintro e w1 ⟨v, rfl, hs, hb1⟩
      rw [HSP.out] at hs
      obtain ⟨b, o, c, rfl, hc1, hx⟩ := hs.one
      clear hs
      go_wp2_with (go_at_call 98; (refine (HN.out _).mono ?_); rintro e w2 ⟨rfl, hb2⟩)
      go_ret
      rw [HD.out]
      exact ⟨rfl, by (repeat (first | with_reducible exact Below.refl _ _ | with_reducible assumption | with_reducible refine up_alloc ?_ _ | with_reducible refine up_drew ?_ | with_reducible refine up_drewN ?_ _ | (with_reducible refine up_set ?_ ?hset _; case hset => first | (simp; done) | (simp; omega) | omega) | with_reducible refine up_trans ?_ (by with_reducible assumption)))⟩
  | some z =>
    obtain ⟨p, q⟩ := z
    obtain ⟨hpq, hnp⟩ := cut1_some.1 hc
    have hll : p.length ≤ 1048576 ∧ q.length ≤ 1048576 := by
      have := congrArg List.length hpq
      simp at this
      omega
    have HSP := Lib.hid (show splitL 43 l = p :: splitL 43 q by rw [hpq, splitL_hit hnp])
    have HP := Lib.hid (fun W => l1Read_s p W hll.1)
    have HQ := Lib.hid (fun W => l1Read_s q W hll.2)
    have hr : rdL 6 l = match natB 6 p, natB 6 q with
      | some n, some k => if 1 ≤ k ∧ k ≤ 7 then some (8 * n + k) else none
      | _, _ => none := by unfold rdL; rw [hc]; rfl
    clear hc hpq hll hnp hl
    cases hp : natB 6 p with
    | none =>
      have HD := Lib.hid (show rdV (rdL 6 l) = -1 by rw [hr, hp]; rfl)
      rw [hp, show rdV none = -1 from rfl] at HP
      clear hr hp
      go_enter Tryz.func84, Tryz.ntmps84
      go_wp2_with (go_at_call 60; refine (HS.out).mono ?_)
      rintro e w1 ⟨v, rfl, hs, hb1⟩
      rw [HSP.out] at hs
      obtain ⟨b, o, c, rfl, hc1, hx⟩ := hs.more
      clear hs
      generalize hT : (splitL 43 q).length = T at *
      go_wp2_with (go_at_call 98; (refine (HP.out _).mono ?_); rintro e w2 ⟨rfl, hb2⟩)
      all_goals
        go_ret
        rw [HD.out]
        exact ⟨rfl, by (repeat (first | with_reducible exact Below.refl _ _ | with_reducible assumption | with_reducible refine up_alloc ?_ _ | with_reducible refine up_drew ?_ | with_reducible refine up_drewN ?_ _ | (with_reducible refine up_set ?_ ?hset _; case hset => first | (simp; done) | (simp; omega) | omega) | with_reducible refine up_trans ?_ (by with_reducible assumption)))⟩
    | some n =>
      have hlt := (natB_dec hp).2
      have hb : (n : Int) ≤ 1000000 := by have : n < 10 ^ 6 := hlt; omega
      have hb0 : 0 ≤ (n : Int) := by omega
      rw [hp, show rdV (some n) = (n : Int) from rfl] at HP
      rw [hp] at hr
      by_cases hm : 43 ∈ q
      · have hq := natB_bad (m := 6) hm (by decide)
        have HD := Lib.hid (show rdV (rdL 6 l) = -1 by rw [hr, hq]; rfl)
        have hj := split_len hm
        have hj2 : 2 < (((splitL 43 q).length : Nat) : Int) + 1 := by omega
        clear hr hp hq hm hj hlt
        go_enter Tryz.func84, Tryz.ntmps84
        go_wp2_with (go_at_call 60; refine (HS.out).mono ?_)
        rintro e w1 ⟨v, rfl, hs, hb1⟩
        rw [HSP.out] at hs
        obtain ⟨b, o, c, rfl, hc1, hx⟩ := hs.more
        clear hs
        generalize hT : (splitL 43 q).length = T at *
        go_wp2_with (go_at_call 98; (refine (HP.out _).mono ?_); rintro e w2 ⟨rfl, hb2⟩)
        all_goals
          go_ret
          rw [HD.out]
          exact ⟨rfl, by (repeat (first | with_reducible exact Below.refl _ _ | with_reducible assumption | with_reducible refine up_alloc ?_ _ | with_reducible refine up_drew ?_ | with_reducible refine up_drewN ?_ _ | (with_reducible refine up_set ?_ ?hset _; case hset => first | (simp; done) | (simp; omega) | omega) | with_reducible refine up_trans ?_ (by with_reducible assumption)))⟩
      · rw [splitL_miss hm] at HSP
        cases hq : natB 6 q with
        | none =>
          have HD := Lib.hid (show rdV (rdL 6 l) = -1 by rw [hr, hq]; rfl)
          rw [hq, show rdV none = -1 from rfl] at HQ
          have hin : inB (-1) 1 7 = false := by decide
          clear hr hp hq hm hlt
          go_enter Tryz.func84, Tryz.ntmps84
          go_wp2_with (go_at_call 60; refine (HS.out).mono ?_)
          rintro e w1 ⟨v, rfl, hs, hb1⟩
          rw [HSP.out] at hs
          obtain ⟨b, o, c, rfl, hc1, hx, hy⟩ := hs.two
          clear hs
          go_wp2_with (first | (go_at_call 98; (with_reducible show Calls Tryz.prog _ #[.string (bS p)] _ _); (refine (HP.out _).mono ?_); rintro e w2 ⟨rfl, hb2⟩; have hy2 := up_keep hb2 hy) | (go_at_call 98; (with_reducible show Calls Tryz.prog _ #[.string (bS q)] _ _); (refine (HQ.out _).mono ?_); rintro e w3 ⟨rfl, hb3⟩) | (go_at_call 49; refine (l1In_any _ _ _ _).mono ?_; rintro e w4 ⟨rfl, rfl⟩))
          go_ret
          rw [HD.out]
          exact ⟨rfl, by (repeat (first | with_reducible exact Below.refl _ _ | with_reducible assumption | with_reducible refine up_alloc ?_ _ | with_reducible refine up_drew ?_ | with_reducible refine up_drewN ?_ _ | (with_reducible refine up_set ?_ ?hset _; case hset => first | (simp; done) | (simp; omega) | omega) | with_reducible refine up_trans ?_ (by with_reducible assumption)))⟩
        | some k =>
          rw [hq, show rdV (some k) = (k : Int) from rfl] at HQ
          rw [hq] at hr
          simp only at hr
          by_cases h7 : 1 ≤ k ∧ k ≤ 7
          · rw [if_pos h7] at hr
            have hin : inB (k : Int) 1 7 = true := inB_iff.2 ⟨by omega, by omega⟩
            have HD := Lib.hid (show rdV (rdL 6 l) = 8 * (n : Int) + (k : Int) by rw [hr]; show ((8 * n + k : Nat) : Int) = _; omega)
            have k1 : 1 ≤ (k : Int) := by omega
            have k2 : (k : Int) ≤ 7 := by omega
            clear hr hp hq hm hlt h7
            go_enter Tryz.func84, Tryz.ntmps84
            go_wp2_with (go_at_call 60; refine (HS.out).mono ?_)
            rintro e w1 ⟨v, rfl, hs, hb1⟩
            rw [HSP.out] at hs
            obtain ⟨b, o, c, rfl, hc1, hx, hy⟩ := hs.two
            clear hs
            go_wp2_with (first | (go_at_call 98; (with_reducible show Calls Tryz.prog _ #[.string (bS p)] _ _); (refine (HP.out _).mono ?_); rintro e w2 ⟨rfl, hb2⟩; have hy2 := up_keep hb2 hy) | (go_at_call 98; (with_reducible show Calls Tryz.prog _ #[.string (bS q)] _ _); (refine (HQ.out _).mono ?_); rintro e w3 ⟨rfl, hb3⟩) | (go_at_call 49; refine (l1In_any _ _ _ _).mono ?_; rintro e w4 ⟨rfl, rfl⟩))
            go_ret
            rw [HD.out]
            exact ⟨rfl, by (repeat (first | with_reducible exact Below.refl _ _ | with_reducible assumption | with_reducible refine up_alloc ?_ _ | with_reducible refine up_drew ?_ | with_reducible refine up_drewN ?_ _ | (with_reducible refine up_set ?_ ?hset _; case hset => first | (simp; done) | (simp; omega) | omega) | with_reducible refine up_trans ?_ (by with_reducible assumption)))⟩
          · rw [if_neg h7] at hr
            have hin : inB (k : Int) 1 7 = false := by
              cases hc : inB (k : Int) 1 7 with
              | false => rfl
              | true => exact absurd (inB_iff.1 hc) (by omega)
            have HD := Lib.hid (show rdV (rdL 6 l) = -1 by rw [hr]; rfl)
            clear hr hp hq hm hlt h7
            go_enter Tryz.func84, Tryz.ntmps84
            go_wp2_with (go_at_call 60; refine (HS.out).mono ?_)
            rintro e w1 ⟨v, rfl, hs, hb1⟩
            rw [HSP.out] at hs
            obtain ⟨b, o, c, rfl, hc1, hx, hy⟩ := hs.two
            clear hs
            go_wp2_with (first | (go_at_call 98; (with_reducible show Calls Tryz.prog _ #[.string (bS p)] _ _); (refine (HP.out _).mono ?_); rintro e w2 ⟨rfl, hb2⟩; have hy2 := up_keep hb2 hy) | (go_at_call 98; (with_reducible show Calls Tryz.prog _ #[.string (bS q)] _ _); (refine (HQ.out _).mono ?_); rintro e w3 ⟨rfl, hb3⟩) | (go_at_call 49; refine (l1In_any _ _ _ _).mono ?_; rintro e w4 ⟨rfl, rfl⟩))
            go_ret
            rw [HD.out]
            exact ⟨rfl, by (repeat (first | with_reducible exact Below.refl _ _ | with_reducible assumption | with_reducible refine up_alloc ?_ _ | with_reducible refine up_drew ?_ | with_reducible refine up_drewN ?_ _ | (with_reducible refine up_set ?_ ?hset _; case hset => first | (simp; done) | (simp; omega) | omega) | with_reducible refine up_trans ?_ (by with_reducible assumption)))⟩
end Go.Proofs.YtbfhfjpfjkdcfaaGreatDoor
namespace Go.Proofs.YtbfhfjpfjkdcfaaGreatDoor
open Go.RowKit Go.ChangeShapes Go.WideShapes Go.Sort Go.Proofs

def ifV (x y : Int) : Value := if spotB x y = true then .tuple #[.agg #[.int .i64 x, .int .i64 y], .bool true] else .tuple #[.agg #[.int .i64 0, .int .i64 0], .bool false]
set_option maxRecDepth 100000 in
set_option maxHeartbeats 2000000 in
theorem stIf_s (x y : Int) (w : World) : Calls Tryz.prog 85 #[.int .i64 x, .int .i64 y] w (Ans w (ifV x y)) := by
  have HI := Lib.hid (stGood_any x y)
  cases hs : spotB x y with
  | true =>
    have HD := Lib.hid (show ifV x y = .tuple #[.agg #[.int .i64 x, .int .i64 y], .bool true] by unfold ifV; rw [hs]; rfl)
    rw [hs] at HI
    clear hs
    go_enter Tryz.func85, Tryz.ntmps85
    have g0 := (cell_new2 w (.int .i64 0) (.int .i64 0) 42).1
    have g1 := (cell_new2 w (.int .i64 0) (.int .i64 0) 42).2
    have g2 := up_keep (below_alloc (w.alloc (.cells #[.int .i64 0, .int .i64 0] 42)) (.cells #[.int .i64 x, .int .i64 y] 42)) g0
    have g3 := up_keep (below_alloc (w.alloc (.cells #[.int .i64 0, .int .i64 0] 42)) (.cells #[.int .i64 x, .int .i64 y] 42)) g1
    go_wp2_with ((go_at_call 48; refine (from0 (HI.out _) (by first | exact hb0 | exact up_alloc hb0 _ | exact up_drew hb0 | exact up_drewN hb0 _ | exact Below.refl _ _)).mono ?_; rintro e w1 ⟨rfl, hb0⟩; obtain ⟨hc0, hf0⟩ := bcell hb0; have hz0 := hb0.size; simp at hz0; have hz1 : w.heap.size < w1.heap.size := (by omega); try have hz2 : w.heap.size + 1 < w1.heap.size := (by omega)))
    have q0 := up_keep hb0 g2
    have q1 := up_keep hb0 g3
    have r0 : ((w1.setCell ⟨w.heap.size, 0, none⟩ (.int .i64 x)).setCell ⟨w.heap.size, 1, none⟩ (.int .i64 y)).cell? ⟨w.heap.size, 0, none⟩ = some (.int .i64 x) := by
      rw [cell_set_ne _ _ _ _ _ _ (.inr (by omega))]; exact cell_set_same _ _ _ _ _ q0
    have r1 : ((w1.setCell ⟨w.heap.size, 0, none⟩ (.int .i64 x)).setCell ⟨w.heap.size, 1, none⟩ (.int .i64 y)).cell? ⟨w.heap.size, 1, none⟩ = some (.int .i64 y) :=
      cell_set_same _ _ _ _ _ (by rw [cell_set_ne _ _ _ _ _ _ (.inr (by omega))]; exact q1)
    refine bodyPost_ret (v := .tuple #[.agg #[.int .i64 x, .int .i64 y], .bool true]) (by simp [results, Tryz.results85, go_sem, *]) rfl ?_
    rw [HD.out]
    exact ⟨rfl, by (repeat (first | with_reducible exact Below.refl _ _ | with_reducible assumption | with_reducible refine up_alloc ?_ _ | with_reducible refine up_drew ?_ | with_reducible refine up_drewN ?_ _ | (with_reducible refine up_set ?_ ?hset _; case hset => first | (simp; done) | (simp; omega) | omega) | with_reducible refine up_trans ?_ (by with_reducible assumption)))⟩
  | false =>
    have HD := Lib.hid (show ifV x y = .tuple #[.agg #[.int .i64 0, .int .i64 0], .bool false] by unfold ifV; rw [hs]; rfl)
    rw [hs] at HI
    clear hs
    go_enter Tryz.func85, Tryz.ntmps85
    have g0 := (cell_new2 w (.int .i64 0) (.int .i64 0) 42).1
    have g1 := (cell_new2 w (.int .i64 0) (.int .i64 0) 42).2
    have g2 := up_keep (below_alloc (w.alloc (.cells #[.int .i64 0, .int .i64 0] 42)) (.cells #[.int .i64 x, .int .i64 y] 42)) g0
    have g3 := up_keep (below_alloc (w.alloc (.cells #[.int .i64 0, .int .i64 0] 42)) (.cells #[.int .i64 x, .int .i64 y] 42)) g1
    go_wp2_with ((go_at_call 48; refine (from0 (HI.out _) (by first | exact hb0 | exact up_alloc hb0 _ | exact up_drew hb0 | exact up_drewN hb0 _ | exact Below.refl _ _)).mono ?_; rintro e w1 ⟨rfl, hb0⟩; obtain ⟨hc0, hf0⟩ := bcell hb0; have hz0 := hb0.size; simp at hz0; have hz1 : w.heap.size < w1.heap.size := (by omega); try have hz2 : w.heap.size + 1 < w1.heap.size := (by omega)))
    have q0 := up_keep hb0 g2
    have q1 := up_keep hb0 g3
    have r0 : ((w1.setCell ⟨w.heap.size, 0, none⟩ (.int .i64 0)).setCell ⟨w.heap.size, 1, none⟩ (.int .i64 0)).cell? ⟨w.heap.size, 0, none⟩ = some (.int .i64 0) := by
      rw [cell_set_ne _ _ _ _ _ _ (.inr (by omega))]; exact cell_set_same _ _ _ _ _ q0
    have r1 : ((w1.setCell ⟨w.heap.size, 0, none⟩ (.int .i64 0)).setCell ⟨w.heap.size, 1, none⟩ (.int .i64 0)).cell? ⟨w.heap.size, 1, none⟩ = some (.int .i64 0) :=
      cell_set_same _ _ _ _ _ (by rw [cell_set_ne _ _ _ _ _ _ (.inr (by omega))]; exact q1)
    refine bodyPost_ret (v := .tuple #[.agg #[.int .i64 0, .int .i64 0], .bool false]) (by simp [results, Tryz.results85, go_sem, *]) rfl ?_
    rw [HD.out]
    exact ⟨rfl, by (repeat (first | with_reducible exact Below.refl _ _ | with_reducible assumption | with_reducible refine up_alloc ?_ _ | with_reducible refine up_drew ?_ | with_reducible refine up_drewN ?_ _ | (with_reducible refine up_set ?_ ?hset _; case hset => first | (simp; done) | (simp; omega) | omega) | with_reducible refine up_trans ?_ (by with_reducible assumption)))⟩
end Go.Proofs.YtbfhfjpfjkdcfaaGreatDoor
namespace Go.Proofs.YtbfhfjpfjkdcfaaGreatDoor
open Go.RowKit Go.ChangeShapes Go.WideShapes Go.Sort Go.Proofs

def spW (o : Option (Nat × Nat)) : Value := match o with
  | some (x, y) => .tuple #[.agg #[.int .i64 (x : Int), .int .i64 (y : Int)], .bool true]
  | none => .tuple #[.agg #[.int .i64 0, .int .i64 0], .bool false]
/-- What a list that is no pair of pieces reads as. -/
theorem spP_len {m : Nat} {l : List UInt8} (h : (splitL 44 l).length ≠ 2) : spP m l = none := by
  unfold spP
  cases hc : cut1 44 l with
  | none => rfl
  | some z =>
    obtain ⟨p, q⟩ := z
    obtain ⟨rfl, h2⟩ := cut1_some.1 hc
    rw [splitL_hit h2] at h
    have hq : 44 ∈ q := by
      by_cases hq : 44 ∈ q
      · exact hq
      · rw [splitL_miss hq] at h; exact absurd rfl h
    have : rdL m q = none := by
      cases hr : rdL m q with
      | none => rfl
      | some n =>
        rw [(rdL_stp hr).1] at hq
        exact absurd hq (stp_ne (by decide) (by decide))
    simp only
    rw [this]
    cases rdL m p <;> rfl
theorem split_two {b : UInt8} {l : List UInt8} (h : (splitL b l).length = 2) : ∃ p q, splitL b l = [p, q] ∧ cut1 b l = some (p, q) ∧ l = p ++ b :: q := by
  cases hc : cut1 b l with
  | none => rw [splitL_miss (cut1_none.1 hc)] at h; simp at h
  | some z =>
    obtain ⟨p, q⟩ := z
    obtain ⟨hl, h2⟩ := cut1_some.1 hc
    have hs : splitL b l = p :: splitL b q := by rw [hl, splitL_hit h2]
    rw [hs] at h
    have hq : b ∉ q := fun hq => by
      have := split_len hq
      simp at h; omega
    exact ⟨p, q, by rw [hs, splitL_miss hq], rfl, hl⟩
end Go.Proofs.YtbfhfjpfjkdcfaaGreatDoor
namespace Go.Proofs.YtbfhfjpfjkdcfaaGreatDoor
open Go.RowKit Go.ChangeShapes Go.WideShapes Go.Sort Go.Proofs

set_option maxRecDepth 100000 in
set_option maxHeartbeats 2000000 in
theorem stParse_no (l : List UInt8) (w : World) (hl : l.length ≤ 1048576) (h2 : (splitL 44 l).length ≠ 2) : Calls Tryz.prog 61 #[.string (bS l)] w (Ans w (spW (spP 6 l))) := by
  have HS := Lib.hid (fun W => l1Split_s l 44 W hl)
  have HD := Lib.hid (show spW (spP 6 l) = .tuple #[.agg #[.int .i64 0, .int .i64 0], .bool false] by rw [spP_len h2]; rfl)
  obtain ⟨n, hn⟩ : ∃ n, n = (splitL 44 l).length := ⟨_, rfl⟩
  have HN := Lib.hid hn
  rw [← hn] at h2
  clear hn
  have j2 : ¬ (n : Int) = 2 := by omega
  go_enter Tryz.func61, Tryz.ntmps61
  have g0 := (cell_new2 w (.int .i64 0) (.int .i64 0) 42).1
  have g1 := (cell_new2 w (.int .i64 0) (.int .i64 0) 42).2
  go_wp2_with (go_at_call 60; refine (HS.out _).mono ?_)
  rintro e w1 ⟨v, rfl, hs, hb0⟩
  obtain ⟨A, c, rfl, hc, _⟩ := hs
  rw [← HN.out] at hc ⊢
  obtain ⟨hc0, hf0⟩ := bcell hb0
  have hz1 : w.heap.size < w1.heap.size := by have := hb0.size; simp at this; omega
  have q0 := up_keep hb0 g0
  have q1 := up_keep hb0 g1
  have r0 : ((w1.setCell ⟨w.heap.size, 0, none⟩ (.int .i64 0)).setCell ⟨w.heap.size, 1, none⟩ (.int .i64 0)).cell? ⟨w.heap.size, 0, none⟩ = some (.int .i64 0) := by
    rw [cell_set_ne _ _ _ _ _ _ (.inr (by omega))]; exact cell_set_same _ _ _ _ _ q0
  have r1 : ((w1.setCell ⟨w.heap.size, 0, none⟩ (.int .i64 0)).setCell ⟨w.heap.size, 1, none⟩ (.int .i64 0)).cell? ⟨w.heap.size, 1, none⟩ = some (.int .i64 0) :=
    cell_set_same _ _ _ _ _ (by rw [cell_set_ne _ _ _ _ _ _ (.inr (by omega))]; exact q1)
  go_wp2_with fail
  refine bodyPost_ret (v := .tuple #[.agg #[.int .i64 0, .int .i64 0], .bool false]) (by simp [results, Tryz.results61, go_sem, *]) rfl ?_
  rw [HD.out]
  exact ⟨rfl, by (repeat (first | with_reducible exact Below.refl _ _ | with_reducible assumption | with_reducible refine up_alloc ?_ _ | with_reducible refine up_drew ?_ | with_reducible refine up_drewN ?_ _ | (with_reducible refine up_set ?_ ?hset _; case hset => first | (simp; done) | (simp; omega) | omega) | with_reducible refine up_trans ?_ (by with_reducible assumption)))⟩
end Go.Proofs.YtbfhfjpfjkdcfaaGreatDoor
namespace Go.Proofs.YtbfhfjpfjkdcfaaGreatDoor
open Go.RowKit Go.ChangeShapes Go.WideShapes Go.Sort Go.Proofs

set_option maxRecDepth 100000 in
set_option maxHeartbeats 2000000 in
theorem stParse_bad1 (l p q : List UInt8) (w : World) (hl : l.length ≤ 1048576) (hs2 : splitL 44 l = [p, q]) (hc : cut1 44 l = some (p, q)) (hp : rdL 6 p = none) : Calls Tryz.prog 61 #[.string (bS l)] w (Ans w (spW (spP 6 l))) := by
  have hpl : p.length ≤ 1048576 := by
    have := congrArg List.length (cut1_some.1 hc).1
    simp at this
    omega
  have HS := Lib.hid (fun W => l1Split_s l 44 W hl)
  have HP := Lib.hid (fun W => stRead_s p W hpl)
  rw [hp, show rdV none = -1 from rfl] at HP
  have HD := Lib.hid (show spW (spP 6 l) = .tuple #[.agg #[.int .i64 0, .int .i64 0], .bool false] by unfold spP; rw [hc]; simp only; rw [hp]; rfl)
  have HN := Lib.hid hs2
  clear hs2 hc hp hpl
  go_enter Tryz.func61, Tryz.ntmps61
  have g0 := (cell_new2 w (.int .i64 0) (.int .i64 0) 42).1
  have g1 := (cell_new2 w (.int .i64 0) (.int .i64 0) 42).2
  go_wp2_with (go_at_call 60; refine (HS.out _).mono ?_)
  rintro e w1 ⟨v, rfl, hs, hb1⟩
  rw [HN.out] at hs
  obtain ⟨b, o, c, rfl, hc1, hx, hy⟩ := hs.two
  clear hs
  go_wp2_with (go_at_call 84; refine (HP.out _).mono ?_)
  rintro e w2 ⟨rfl, hb2⟩
  have hb0 := up_trans hb1 hb2
  obtain ⟨hc0, hf0⟩ := bcell hb0
  have hz1 : w.heap.size < w2.heap.size := by have := hb0.size; simp at this; omega
  have q0 := up_keep hb0 g0
  have q1 := up_keep hb0 g1
  have r0 : ((w2.setCell ⟨w.heap.size, 0, none⟩ (.int .i64 0)).setCell ⟨w.heap.size, 1, none⟩ (.int .i64 0)).cell? ⟨w.heap.size, 0, none⟩ = some (.int .i64 0) := by
    rw [cell_set_ne _ _ _ _ _ _ (.inr (by omega))]; exact cell_set_same _ _ _ _ _ q0
  have r1 : ((w2.setCell ⟨w.heap.size, 0, none⟩ (.int .i64 0)).setCell ⟨w.heap.size, 1, none⟩ (.int .i64 0)).cell? ⟨w.heap.size, 1, none⟩ = some (.int .i64 0) :=
    cell_set_same _ _ _ _ _ (by rw [cell_set_ne _ _ _ _ _ _ (.inr (by omega))]; exact q1)
  go_wp2_with fail
  refine bodyPost_ret (v := .tuple #[.agg #[.int .i64 0, .int .i64 0], .bool false]) (by simp [results, Tryz.results61, go_sem, *]) rfl ?_
  rw [HD.out]
  exact ⟨rfl, by (repeat (first | with_reducible exact Below.refl _ _ | with_reducible assumption | with_reducible refine up_alloc ?_ _ | with_reducible refine up_drew ?_ | with_reducible refine up_drewN ?_ _ | (with_reducible refine up_set ?_ ?hset _; case hset => first | (simp; done) | (simp; omega) | omega) | with_reducible refine up_trans ?_ (by with_reducible assumption)))⟩
set_option maxRecDepth 100000 in
set_option maxHeartbeats 2000000 in
theorem stParse_bad2 (l p q : List UInt8) (w : World) (hl : l.length ≤ 1048576) (hs2 : splitL 44 l = [p, q]) (hc : cut1 44 l = some (p, q)) (x : Nat) (hp : rdL 6 p = some x) (hq : rdL 6 q = none) : Calls Tryz.prog 61 #[.string (bS l)] w (Ans w (spW (spP 6 l))) := by
  have hll : p.length ≤ 1048576 ∧ q.length ≤ 1048576 := by
    have := congrArg List.length (cut1_some.1 hc).1
    simp at this
    omega
  have HS := Lib.hid (fun W => l1Split_s l 44 W hl)
  have HP := Lib.hid (fun W => stRead_s p W hll.1)
  have HQ := Lib.hid (fun W => stRead_s q W hll.2)
  rw [hp, show rdV (some x) = (x : Int) from rfl] at HP
  rw [hq, show rdV none = -1 from rfl] at HQ
  have jx : 0 ≤ (x : Int) := by omega
  have HD := Lib.hid (show spW (spP 6 l) = .tuple #[.agg #[.int .i64 0, .int .i64 0], .bool false] by unfold spP; rw [hc]; simp only; rw [hp, hq]; rfl)
  have HN := Lib.hid hs2
  clear hs2 hc hp hq hll
  go_enter Tryz.func61, Tryz.ntmps61
  have g0 := (cell_new2 w (.int .i64 0) (.int .i64 0) 42).1
  have g1 := (cell_new2 w (.int .i64 0) (.int .i64 0) 42).2
  go_wp2_with (go_at_call 60; refine (HS.out _).mono ?_)
  rintro e w1 ⟨v, rfl, hs, hb1⟩
  rw [HN.out] at hs
  obtain ⟨b, o, c, rfl, hc1, hx, hy⟩ := hs.two
  clear hs
  go_wp2_with (go_at_call 84; (with_reducible show Calls Tryz.prog _ #[.string (bS p)] _ _); refine (HP.out _).mono ?_)
  rintro e w3 ⟨rfl, hb3⟩
  have hy3 := up_keep hb3 hy
  go_wp2_with (go_at_call 84; (with_reducible show Calls Tryz.prog _ #[.string (bS q)] _ _); refine (HQ.out _).mono ?_)
  rintro e w2 ⟨rfl, hb2⟩
  have hb0 := up_trans (up_trans hb1 hb3) hb2
  obtain ⟨hc0, hf0⟩ := bcell hb0
  have hz1 : w.heap.size < w2.heap.size := by have := hb0.size; simp at this; omega
  have q0 := up_keep hb0 g0
  have q1 := up_keep hb0 g1
  have r0 : ((w2.setCell ⟨w.heap.size, 0, none⟩ (.int .i64 0)).setCell ⟨w.heap.size, 1, none⟩ (.int .i64 0)).cell? ⟨w.heap.size, 0, none⟩ = some (.int .i64 0) := by
    rw [cell_set_ne _ _ _ _ _ _ (.inr (by omega))]; exact cell_set_same _ _ _ _ _ q0
  have r1 : ((w2.setCell ⟨w.heap.size, 0, none⟩ (.int .i64 0)).setCell ⟨w.heap.size, 1, none⟩ (.int .i64 0)).cell? ⟨w.heap.size, 1, none⟩ = some (.int .i64 0) :=
    cell_set_same _ _ _ _ _ (by rw [cell_set_ne _ _ _ _ _ _ (.inr (by omega))]; exact q1)
  go_wp2_with fail
  refine bodyPost_ret (v := .tuple #[.agg #[.int .i64 0, .int .i64 0], .bool false]) (by simp [results, Tryz.results61, go_sem, *]) rfl ?_
  rw [HD.out]
  exact ⟨rfl, by (repeat (first | with_reducible exact Below.refl _ _ | with_reducible assumption | with_reducible refine up_alloc ?_ _ | with_reducible refine up_drew ?_ | with_reducible refine up_drewN ?_ _ | (with_reducible refine up_set ?_ ?hset _; case hset => first | (simp; done) | (simp; omega) | omega) | with_reducible refine up_trans ?_ (by with_reducible assumption)))⟩
end Go.Proofs.YtbfhfjpfjkdcfaaGreatDoor
namespace Go.Proofs.YtbfhfjpfjkdcfaaGreatDoor
open Go.RowKit Go.ChangeShapes Go.WideShapes Go.Sort Go.Proofs

theorem free_new (w : World) (a b : Value) (t : TypeId) : ∀ o, (w.alloc (.cells #[a, b] t)).frozen? ⟨w.heap.size, o, none⟩ = false := fun o => by simp [go_sem]
theorem free_up {w w' : World} {b : Nat} (h : ∀ o, w.frozen? ⟨b, o, none⟩ = false) {u : Value} {k : Nat} (hlt : w.cell? ⟨b, k, none⟩ = some u) (hb : Below w.heap.size w w') : ∀ o, w'.frozen? ⟨b, o, none⟩ = false :=
  Free.up (b := b) h (lt_of_cell hlt) hb
theorem new_drew {w w' : World} {a b : Value} {t : TypeId} (hb : Below (w.alloc (.cells #[a, b] t)).drew.heap.size (w.alloc (.cells #[a, b] t)).drew w') :
    w'.cell? ⟨w.heap.size, 0, none⟩ = some a ∧ w'.cell? ⟨w.heap.size, 1, none⟩ = some b ∧ ∀ o, w'.frozen? ⟨w.heap.size, o, none⟩ = false :=
  ⟨up_keep hb (cell_new2 w a b t).1, up_keep hb (cell_new2 w a b t).2, free_up (w := (w.alloc (.cells #[a, b] t)).drew) (free_new w a b t) (cell_new2 w a b t).1 hb⟩
theorem put_two {w : World} {g : Nat} {a b : Value} {c d : Value} (h0 : w.cell? ⟨g, 0, none⟩ = some a) (h1 : w.cell? ⟨g, 1, none⟩ = some b) :
    ((w.setCell ⟨g, 0, none⟩ c).setCell ⟨g, 1, none⟩ d).cell? ⟨g, 0, none⟩ = some c ∧ ((w.setCell ⟨g, 0, none⟩ c).setCell ⟨g, 1, none⟩ d).cell? ⟨g, 1, none⟩ = some d :=
  ⟨by rw [cell_set_ne _ _ _ _ _ _ (.inr (by omega))]; exact cell_set_same _ _ _ _ _ h0, cell_set_same _ _ _ _ _ (by rw [cell_set_ne _ _ _ _ _ _ (.inr (by omega))]; exact h1)⟩
set_option maxRecDepth 100000 in
set_option maxHeartbeats 4000000 in
theorem stParse_nospot (l p q : List UInt8) (w : World) (hl : l.length ≤ 1048576) (hs2 : splitL 44 l = [p, q]) (hc : cut1 44 l = some (p, q)) (x y : Nat) (hp : rdL 6 p = some x) (hq : rdL 6 q = some y) (hxy : ¬ (x ≤ 1280 ∧ y ≤ 672)) : Calls Tryz.prog 61 #[.string (bS l)] w (Ans w (spW (spP 6 l))) := by
  have hll : p.length ≤ 1048576 ∧ q.length ≤ 1048576 := by
    have := congrArg List.length (cut1_some.1 hc).1
    simp at this
    omega
  have HS := Lib.hid (fun W => l1Split_s l 44 W hl)
  have HP := Lib.hid (fun W => stRead_s p W hll.1)
  have HQ := Lib.hid (fun W => stRead_s q W hll.2)
  rw [hp, show rdV (some x) = (x : Int) from rfl] at HP
  rw [hq, show rdV (some y) = (y : Int) from rfl] at HQ
  have jx : 0 ≤ (x : Int) := by omega
  have jy : 0 ≤ (y : Int) := by omega
  have HD := Lib.hid (show spW (spP 6 l) = .tuple #[.agg #[.int .i64 0, .int .i64 0], .bool false] by unfold spP; rw [hc]; simp only; rw [hp, hq]; simp only; rw [if_neg hxy]; rfl)
  have HI := Lib.hid (fun W => stIf_s (x : Int) (y : Int) W)
  rw [show ifV (x : Int) (y : Int) = .tuple #[.agg #[.int .i64 0, .int .i64 0], .bool false] by
    unfold ifV
    rw [if_neg]
    intro h
    have := spotB_iff.1 h
    exact hxy (by omega)] at HI
  have HN := Lib.hid hs2
  clear hs2 hc hp hq hll hxy
  go_enter Tryz.func61, Tryz.ntmps61
  have g0 := (cell_new2 w (.int .i64 0) (.int .i64 0) 42).1
  have g1 := (cell_new2 w (.int .i64 0) (.int .i64 0) 42).2
  go_wp2_with (go_at_call 60; refine (HS.out _).mono ?_)
  rintro e w1 ⟨v, rfl, hs, hb1⟩
  rw [HN.out] at hs
  obtain ⟨b, o, c, rfl, hc1, hx, hy⟩ := hs.two
  clear hs
  go_wp2_with (go_at_call 84; (with_reducible show Calls Tryz.prog _ #[.string (bS p)] _ _); refine (HP.out _).mono ?_)
  rintro e w3 ⟨rfl, hb3⟩
  have hx3 := up_keep hb3 hx
  have hy3 := up_keep hb3 hy
  go_wp2_with (go_at_call 84; (with_reducible show Calls Tryz.prog _ #[.string (bS q)] _ _); refine (HQ.out _).mono ?_)
  rintro e w2 ⟨rfl, hb2⟩
  have hb0 := up_trans (up_trans hb1 hb3) hb2
  have hx2 := up_keep hb2 hx3
  have hy2 := up_keep hb2 hy3
  have q0 := up_keep hb0 g0
  have q1 := up_keep hb0 g1
  have hbw0 := hb0
  have hbw : Below w.heap.size w w2 := by (repeat (first | with_reducible exact Below.refl _ _ | with_reducible assumption | with_reducible refine up_alloc ?_ _ | with_reducible refine up_drew ?_ | with_reducible refine up_drewN ?_ _ | (with_reducible refine up_set ?_ ?hset _; case hset => first | (simp; done) | (simp; omega) | omega) | with_reducible refine up_trans ?_ (by with_reducible assumption)))
  clear hx hy hx3 hy3 hb1 hb2 hb3 hb0 g0 g1
  go_upto_region 4 with fail
  go_cut [5, 6] (fun s t wx => ∃ g : Nat, s = .pointer (some ⟨g, 0, none⟩) ∧ t = .bool false ∧ Below w2.heap.size w2 wx)
  case first =>
    go_region_held3 (fun w' => w'.cell? ⟨b, o, none⟩ = some (.string (bS p)) ∧ w'.cell? ⟨b, o + 1, none⟩ = some (.string (bS q))) (first | exact ⟨by assumption, by assumption⟩ | go_keep | exact ⟨up_keep (show Below w2.heap.size w2 _ from (by (repeat (first | with_reducible exact Below.refl _ _ | with_reducible assumption | with_reducible refine up_alloc ?_ _ | with_reducible refine up_drew ?_ | with_reducible refine up_drewN ?_ _ | (with_reducible refine up_set ?_ ?hset _; case hset => first | (simp; done) | (simp; omega) | omega) | with_reducible refine up_trans ?_ (by with_reducible assumption))))) hx2, up_keep (show Below w2.heap.size w2 _ from (by (repeat (first | with_reducible exact Below.refl _ _ | with_reducible assumption | with_reducible refine up_alloc ?_ _ | with_reducible refine up_drew ?_ | with_reducible refine up_drewN ?_ _ | (with_reducible refine up_set ?_ ?hset _; case hset => first | (simp; done) | (simp; omega) | omega) | with_reducible refine up_trans ?_ (by with_reducible assumption))))) hy2⟩) (first
      | (go_at_call 84; (with_reducible show Calls Tryz.prog _ #[.string (bS p)] _ _); (with_reducible refine (HP.out _).mono ?_); rintro e wa ⟨rfl, hba⟩; have hza := (show Below w2.heap.size w2 wa from (by (repeat (first | with_reducible exact Below.refl _ _ | with_reducible assumption | with_reducible refine up_alloc ?_ _ | with_reducible refine up_drew ?_ | with_reducible refine up_drewN ?_ _ | (with_reducible refine up_set ?_ ?hset _; case hset => first | (simp; done) | (simp; omega) | omega) | with_reducible refine up_trans ?_ (by with_reducible assumption))))).size; have ya0 := up_keep (show Below w2.heap.size w2 wa from (by (repeat (first | with_reducible exact Below.refl _ _ | with_reducible assumption | with_reducible refine up_alloc ?_ _ | with_reducible refine up_drew ?_ | with_reducible refine up_drewN ?_ _ | (with_reducible refine up_set ?_ ?hset _; case hset => first | (simp; done) | (simp; omega) | omega) | with_reducible refine up_trans ?_ (by with_reducible assumption))))) hx2; have ya1 := up_keep (show Below w2.heap.size w2 wa from (by (repeat (first | with_reducible exact Below.refl _ _ | with_reducible assumption | with_reducible refine up_alloc ?_ _ | with_reducible refine up_drew ?_ | with_reducible refine up_drewN ?_ _ | (with_reducible refine up_set ?_ ?hset _; case hset => first | (simp; done) | (simp; omega) | omega) | with_reducible refine up_trans ?_ (by with_reducible assumption))))) hy2; (try (have hnd := new_drew hba; have za0 := hnd.1; have za1 := hnd.2.1; have zaf := hnd.2.2)))
      | (go_at_call 84; (with_reducible show Calls Tryz.prog _ #[.string (bS q)] _ _); (with_reducible refine (HQ.out _).mono ?_); rintro e wb ⟨rfl, hbb⟩; have hzb := (show Below w2.heap.size w2 wb from (by (repeat (first | with_reducible exact Below.refl _ _ | with_reducible assumption | with_reducible refine up_alloc ?_ _ | with_reducible refine up_drew ?_ | with_reducible refine up_drewN ?_ _ | (with_reducible refine up_set ?_ ?hset _; case hset => first | (simp; done) | (simp; omega) | omega) | with_reducible refine up_trans ?_ (by with_reducible assumption))))).size; have yb0 := up_keep (show Below w2.heap.size w2 wb from (by (repeat (first | with_reducible exact Below.refl _ _ | with_reducible assumption | with_reducible refine up_alloc ?_ _ | with_reducible refine up_drew ?_ | with_reducible refine up_drewN ?_ _ | (with_reducible refine up_set ?_ ?hset _; case hset => first | (simp; done) | (simp; omega) | omega) | with_reducible refine up_trans ?_ (by with_reducible assumption))))) hx2; have yb1 := up_keep (show Below w2.heap.size w2 wb from (by (repeat (first | with_reducible exact Below.refl _ _ | with_reducible assumption | with_reducible refine up_alloc ?_ _ | with_reducible refine up_drew ?_ | with_reducible refine up_drewN ?_ _ | (with_reducible refine up_set ?_ ?hset _; case hset => first | (simp; done) | (simp; omega) | omega) | with_reducible refine up_trans ?_ (by with_reducible assumption))))) hy2; (try (have zb0 := up_keep hbb (cell_new2 wa (.int .i64 0) (.int .i64 0) 42).1; have zb1 := up_keep hbb (cell_new2 wa (.int .i64 0) (.int .i64 0) 42).2; have zbf := free_up (free_new wa (.int .i64 0) (.int .i64 0) 42) (cell_new2 wa (.int .i64 0) (.int .i64 0) 42).1 hbb)); (try (have zb0 := up_keep hbb za0; have zb1 := up_keep hbb za1; have zbf := free_up zaf za0 hbb)))
      | (go_at_call 85; (with_reducible refine (HI.out _).mono ?_); rintro e wd ⟨rfl, hbd⟩; have hzd := (show Below w2.heap.size w2 wd from (by (repeat (first | with_reducible exact Below.refl _ _ | with_reducible assumption | with_reducible refine up_alloc ?_ _ | with_reducible refine up_drew ?_ | with_reducible refine up_drewN ?_ _ | (with_reducible refine up_set ?_ ?hset _; case hset => first | (simp; done) | (simp; omega) | omega) | with_reducible refine up_trans ?_ (by with_reducible assumption))))).size; have yd0 := up_keep (show Below w2.heap.size w2 wd from (by (repeat (first | with_reducible exact Below.refl _ _ | with_reducible assumption | with_reducible refine up_alloc ?_ _ | with_reducible refine up_drew ?_ | with_reducible refine up_drewN ?_ _ | (with_reducible refine up_set ?_ ?hset _; case hset => first | (simp; done) | (simp; omega) | omega) | with_reducible refine up_trans ?_ (by with_reducible assumption))))) hx2; have yd1 := up_keep (show Below w2.heap.size w2 wd from (by (repeat (first | with_reducible exact Below.refl _ _ | with_reducible assumption | with_reducible refine up_alloc ?_ _ | with_reducible refine up_drew ?_ | with_reducible refine up_drewN ?_ _ | (with_reducible refine up_set ?_ ?hset _; case hset => first | (simp; done) | (simp; omega) | omega) | with_reducible refine up_trans ?_ (by with_reducible assumption))))) hy2; (try (have zd0 := up_keep hbd (cell_new2 wb (.int .i64 0) (.int .i64 0) 42).1; have zd1 := up_keep hbd (cell_new2 wb (.int .i64 0) (.int .i64 0) 42).2; have zdf := free_up (free_new wb (.int .i64 0) (.int .i64 0) 42) (cell_new2 wb (.int .i64 0) (.int .i64 0) 42).1 hbd)); (try (have zd0 := up_keep hbd zb0; have zd1 := up_keep hbd zb1; have zdf := free_up zbf zb0 hbd)))
      | fail)
    all_goals
      go_wp2_with fail
      go_meet
      exact ⟨_, rfl, rfl, by (repeat (first | with_reducible exact Below.refl _ _ | with_reducible assumption | with_reducible refine up_alloc ?_ _ | with_reducible refine up_drew ?_ | with_reducible refine up_drewN ?_ _ | (with_reducible refine up_set ?_ ?hset _; case hset => first | (simp; done) | (simp; omega) | omega) | with_reducible refine up_trans ?_ (by with_reducible assumption)))⟩
  case rest =>
    obtain ⟨g, rfl, rfl, hbc⟩ := hcut
    have hz1 := lt_of_cell q0
    have hz2 := hbc.size
    obtain ⟨hc0, hf0⟩ := bcell (up_trans hbw0 hbc)
    replace q0 := up_keep hbc q0
    replace q1 := up_keep hbc q1
    have hz3 : w.heap.size < wc.heap.size := by omega
    have r0 : ((wc.setCell ⟨w.heap.size, 0, none⟩ (.int .i64 0)).setCell ⟨w.heap.size, 1, none⟩ (.int .i64 0)).cell? ⟨w.heap.size, 0, none⟩ = some (.int .i64 0) := by
      rw [cell_set_ne _ _ _ _ _ _ (.inr (by omega))]; exact cell_set_same _ _ _ _ _ q0
    have r1 : ((wc.setCell ⟨w.heap.size, 0, none⟩ (.int .i64 0)).setCell ⟨w.heap.size, 1, none⟩ (.int .i64 0)).cell? ⟨w.heap.size, 1, none⟩ = some (.int .i64 0) :=
      cell_set_same _ _ _ _ _ (by rw [cell_set_ne _ _ _ _ _ _ (.inr (by omega))]; exact q1)
    go_wp2_with fail
    refine bodyPost_ret (v := .tuple #[.agg #[.int .i64 0, .int .i64 0], .bool false]) (by simp [results, Tryz.results61, go_sem, *]) rfl ?_
    rw [HD.out]
    exact ⟨rfl, by (repeat (first | with_reducible exact Below.refl _ _ | with_reducible assumption | with_reducible refine up_alloc ?_ _ | with_reducible refine up_drew ?_ | with_reducible refine up_drewN ?_ _ | (with_reducible refine up_set ?_ ?hset _; case hset => first | (simp; done) | (simp; omega) | omega) | with_reducible refine up_trans ?_ (by with_reducible assumption)))⟩
set_option maxRecDepth 100000 in
set_option maxHeartbeats 4000000 in
theorem stParse_spot (l p q : List UInt8) (w : World) (hl : l.length ≤ 1048576) (hs2 : splitL 44 l = [p, q]) (hc : cut1 44 l = some (p, q)) (x y : Nat) (hp : rdL 6 p = some x) (hq : rdL 6 q = some y) (hxy : x ≤ 1280 ∧ y ≤ 672) : Calls Tryz.prog 61 #[.string (bS l)] w (Ans w (spW (spP 6 l))) := by
  have hl6 : spP 6 l = some (x, y) := by unfold spP; rw [hc]; simp only; rw [hp, hq]; simp only; rw [if_pos hxy]
  obtain rfl : l = spL x y := ((spP_iff (by omega)).1 hl6).2
  have hll : p.length ≤ 1048576 ∧ q.length ≤ 1048576 := by
    have := congrArg List.length (cut1_some.1 hc).1
    simp at this
    omega
  have HS := Lib.hid (fun W => l1Split_s (spL x y) 44 W hl)
  have HP := Lib.hid (fun W => stRead_s p W hll.1)
  have HQ := Lib.hid (fun W => stRead_s q W hll.2)
  rw [hp, show rdV (some x) = (x : Int) from rfl] at HP
  rw [hq, show rdV (some y) = (y : Int) from rfl] at HQ
  have jx : 0 ≤ (x : Int) := by omega
  have jy : 0 ≤ (y : Int) := by omega
  have HT := Lib.hid (fun W => stText_s x y hxy.1 (by omega) W)
  have HD := Lib.hid (show spW (spP 6 (spL x y)) = .tuple #[.agg #[.int .i64 (x : Int), .int .i64 (y : Int)], .bool true] by rw [hl6]; rfl)
  clear hl6
  have HI := Lib.hid (fun W => stIf_s (x : Int) (y : Int) W)
  rw [show ifV (x : Int) (y : Int) = .tuple #[.agg #[.int .i64 (x : Int), .int .i64 (y : Int)], .bool true] by
    unfold ifV
    rw [if_pos]
    exact spotB_iff.2 ⟨⟨by omega, by omega⟩, by omega, by omega⟩] at HI
  have HN := Lib.hid hs2
  clear hs2 hc hp hq hll hxy
  go_enter Tryz.func61, Tryz.ntmps61
  have g0 := (cell_new2 w (.int .i64 0) (.int .i64 0) 42).1
  have g1 := (cell_new2 w (.int .i64 0) (.int .i64 0) 42).2
  go_wp2_with (go_at_call 60; refine (HS.out _).mono ?_)
  rintro e w1 ⟨v, rfl, hs, hb1⟩
  rw [HN.out] at hs
  obtain ⟨b, o, c, rfl, hc1, hx, hy⟩ := hs.two
  clear hs
  go_wp2_with (go_at_call 84; (with_reducible show Calls Tryz.prog _ #[.string (bS p)] _ _); refine (HP.out _).mono ?_)
  rintro e w3 ⟨rfl, hb3⟩
  have hx3 := up_keep hb3 hx
  have hy3 := up_keep hb3 hy
  go_wp2_with (go_at_call 84; (with_reducible show Calls Tryz.prog _ #[.string (bS q)] _ _); refine (HQ.out _).mono ?_)
  rintro e w2 ⟨rfl, hb2⟩
  have hb0 := up_trans (up_trans hb1 hb3) hb2
  have hx2 := up_keep hb2 hx3
  have hy2 := up_keep hb2 hy3
  have q0 := up_keep hb0 g0
  have q1 := up_keep hb0 g1
  have hbw0 := hb0
  have hbw : Below w.heap.size w w2 := by (repeat (first | with_reducible exact Below.refl _ _ | with_reducible assumption | with_reducible refine up_alloc ?_ _ | with_reducible refine up_drew ?_ | with_reducible refine up_drewN ?_ _ | (with_reducible refine up_set ?_ ?hset _; case hset => first | (simp; done) | (simp; omega) | omega) | with_reducible refine up_trans ?_ (by with_reducible assumption)))
  clear hx hy hx3 hy3 hb1 hb2 hb3 hb0 g0 g1
  go_upto_region 4 with fail
  go_cut [5, 6] (fun s t wx => ∃ g : Nat, s = .pointer (some ⟨g, 0, none⟩) ∧ t = .bool true ∧ w2.heap.size ≤ g ∧ wx.cell? ⟨g, 0, none⟩ = some (.int .i64 (x : Int)) ∧ wx.cell? ⟨g, 1, none⟩ = some (.int .i64 (y : Int)) ∧ Below w2.heap.size w2 wx)
  case first =>
    go_region_held3 (fun w' => w'.cell? ⟨b, o, none⟩ = some (.string (bS p)) ∧ w'.cell? ⟨b, o + 1, none⟩ = some (.string (bS q))) (first | exact ⟨by assumption, by assumption⟩ | go_keep | exact ⟨up_keep (show Below w2.heap.size w2 _ from (by (repeat (first | with_reducible exact Below.refl _ _ | with_reducible assumption | with_reducible refine up_alloc ?_ _ | with_reducible refine up_drew ?_ | with_reducible refine up_drewN ?_ _ | (with_reducible refine up_set ?_ ?hset _; case hset => first | (simp; done) | (simp; omega) | omega) | with_reducible refine up_trans ?_ (by with_reducible assumption))))) hx2, up_keep (show Below w2.heap.size w2 _ from (by (repeat (first | with_reducible exact Below.refl _ _ | with_reducible assumption | with_reducible refine up_alloc ?_ _ | with_reducible refine up_drew ?_ | with_reducible refine up_drewN ?_ _ | (with_reducible refine up_set ?_ ?hset _; case hset => first | (simp; done) | (simp; omega) | omega) | with_reducible refine up_trans ?_ (by with_reducible assumption))))) hy2⟩) (first
      | (go_at_call 84; (with_reducible show Calls Tryz.prog _ #[.string (bS p)] _ _); (with_reducible refine (HP.out _).mono ?_); rintro e wa ⟨rfl, hba⟩; have hza := (show Below w2.heap.size w2 wa from (by (repeat (first | with_reducible exact Below.refl _ _ | with_reducible assumption | with_reducible refine up_alloc ?_ _ | with_reducible refine up_drew ?_ | with_reducible refine up_drewN ?_ _ | (with_reducible refine up_set ?_ ?hset _; case hset => first | (simp; done) | (simp; omega) | omega) | with_reducible refine up_trans ?_ (by with_reducible assumption))))).size; have ya0 := up_keep (show Below w2.heap.size w2 wa from (by (repeat (first | with_reducible exact Below.refl _ _ | with_reducible assumption | with_reducible refine up_alloc ?_ _ | with_reducible refine up_drew ?_ | with_reducible refine up_drewN ?_ _ | (with_reducible refine up_set ?_ ?hset _; case hset => first | (simp; done) | (simp; omega) | omega) | with_reducible refine up_trans ?_ (by with_reducible assumption))))) hx2; have ya1 := up_keep (show Below w2.heap.size w2 wa from (by (repeat (first | with_reducible exact Below.refl _ _ | with_reducible assumption | with_reducible refine up_alloc ?_ _ | with_reducible refine up_drew ?_ | with_reducible refine up_drewN ?_ _ | (with_reducible refine up_set ?_ ?hset _; case hset => first | (simp; done) | (simp; omega) | omega) | with_reducible refine up_trans ?_ (by with_reducible assumption))))) hy2; (try (have hnd := new_drew hba; have za0 := hnd.1; have za1 := hnd.2.1; have zaf := hnd.2.2)))
      | (go_at_call 84; (with_reducible show Calls Tryz.prog _ #[.string (bS q)] _ _); (with_reducible refine (HQ.out _).mono ?_); rintro e wb ⟨rfl, hbb⟩; have hzb := (show Below w2.heap.size w2 wb from (by (repeat (first | with_reducible exact Below.refl _ _ | with_reducible assumption | with_reducible refine up_alloc ?_ _ | with_reducible refine up_drew ?_ | with_reducible refine up_drewN ?_ _ | (with_reducible refine up_set ?_ ?hset _; case hset => first | (simp; done) | (simp; omega) | omega) | with_reducible refine up_trans ?_ (by with_reducible assumption))))).size; have yb0 := up_keep (show Below w2.heap.size w2 wb from (by (repeat (first | with_reducible exact Below.refl _ _ | with_reducible assumption | with_reducible refine up_alloc ?_ _ | with_reducible refine up_drew ?_ | with_reducible refine up_drewN ?_ _ | (with_reducible refine up_set ?_ ?hset _; case hset => first | (simp; done) | (simp; omega) | omega) | with_reducible refine up_trans ?_ (by with_reducible assumption))))) hx2; have yb1 := up_keep (show Below w2.heap.size w2 wb from (by (repeat (first | with_reducible exact Below.refl _ _ | with_reducible assumption | with_reducible refine up_alloc ?_ _ | with_reducible refine up_drew ?_ | with_reducible refine up_drewN ?_ _ | (with_reducible refine up_set ?_ ?hset _; case hset => first | (simp; done) | (simp; omega) | omega) | with_reducible refine up_trans ?_ (by with_reducible assumption))))) hy2; (try (have zb0 := up_keep hbb (cell_new2 wa (.int .i64 0) (.int .i64 0) 42).1; have zb1 := up_keep hbb (cell_new2 wa (.int .i64 0) (.int .i64 0) 42).2; have zbf := free_up (free_new wa (.int .i64 0) (.int .i64 0) 42) (cell_new2 wa (.int .i64 0) (.int .i64 0) 42).1 hbb)); (try (have zb0 := up_keep hbb za0; have zb1 := up_keep hbb za1; have zbf := free_up zaf za0 hbb)))
      | (go_at_call 85; (with_reducible refine (HI.out _).mono ?_); rintro e wd ⟨rfl, hbd⟩; have hzd := (show Below w2.heap.size w2 wd from (by (repeat (first | with_reducible exact Below.refl _ _ | with_reducible assumption | with_reducible refine up_alloc ?_ _ | with_reducible refine up_drew ?_ | with_reducible refine up_drewN ?_ _ | (with_reducible refine up_set ?_ ?hset _; case hset => first | (simp; done) | (simp; omega) | omega) | with_reducible refine up_trans ?_ (by with_reducible assumption))))).size; have yd0 := up_keep (show Below w2.heap.size w2 wd from (by (repeat (first | with_reducible exact Below.refl _ _ | with_reducible assumption | with_reducible refine up_alloc ?_ _ | with_reducible refine up_drew ?_ | with_reducible refine up_drewN ?_ _ | (with_reducible refine up_set ?_ ?hset _; case hset => first | (simp; done) | (simp; omega) | omega) | with_reducible refine up_trans ?_ (by with_reducible assumption))))) hx2; have yd1 := up_keep (show Below w2.heap.size w2 wd from (by (repeat (first | with_reducible exact Below.refl _ _ | with_reducible assumption | with_reducible refine up_alloc ?_ _ | with_reducible refine up_drew ?_ | with_reducible refine up_drewN ?_ _ | (with_reducible refine up_set ?_ ?hset _; case hset => first | (simp; done) | (simp; omega) | omega) | with_reducible refine up_trans ?_ (by with_reducible assumption))))) hy2; (try (have zd0 := up_keep hbd (cell_new2 wb (.int .i64 0) (.int .i64 0) 42).1; have zd1 := up_keep hbd (cell_new2 wb (.int .i64 0) (.int .i64 0) 42).2; have zdf := free_up (free_new wb (.int .i64 0) (.int .i64 0) 42) (cell_new2 wb (.int .i64 0) (.int .i64 0) 42).1 hbd)); (try (have zd0 := up_keep hbd zb0; have zd1 := up_keep hbd zb1; have zdf := free_up zbf zb0 hbd)))
      | fail)
    all_goals
      go_wp2_with fail
      go_meet
      exact ⟨_, rfl, rfl, by first | omega | (simp; omega), by first | exact (put_two (by assumption) (by assumption)).1 | simp [go_sem], by first | exact (put_two (by assumption) (by assumption)).2 | simp [go_sem], by (repeat (first | with_reducible exact Below.refl _ _ | with_reducible assumption | with_reducible refine up_alloc ?_ _ | with_reducible refine up_drew ?_ | with_reducible refine up_drewN ?_ _ | (with_reducible refine up_set ?_ ?hset _; case hset => first | (simp; done) | (simp; omega) | omega) | with_reducible refine up_trans ?_ (by with_reducible assumption)))⟩
  case rest =>
    obtain ⟨g, rfl, rfl, hgz, e0, e1, hbc⟩ := hcut
    have hz1 := lt_of_cell q0
    have hz2 := hbc.size
    have hbw1 := up_trans hbw0 hbc
    replace q0 := up_keep hbc q0
    replace q1 := up_keep hbc q1
    have hz3 : w.heap.size < wc.heap.size := by omega
    clear hx2 hy2 hbw0
    go_wp2_with (go_at_call 50; refine (HT.out _).mono ?_)
    rintro e w4 ⟨rfl, hb4⟩
    replace e0 := up_keep hb4 e0
    replace e1 := up_keep hb4 e1
    replace q0 := up_keep hb4 q0
    replace q1 := up_keep hb4 q1
    have hb5 := up_trans hbw1 hb4
    obtain ⟨hc0, hf0⟩ := bcell hb5
    have hz4 : w.heap.size < w4.heap.size := by have := hb4.size; omega
    have r0 : ((w4.setCell ⟨w.heap.size, 0, none⟩ (.int .i64 (x : Int))).setCell ⟨w.heap.size, 1, none⟩ (.int .i64 (y : Int))).cell? ⟨w.heap.size, 0, none⟩ = some (.int .i64 (x : Int)) := by
      rw [cell_set_ne _ _ _ _ _ _ (.inr (by omega))]; exact cell_set_same _ _ _ _ _ q0
    have r1 : ((w4.setCell ⟨w.heap.size, 0, none⟩ (.int .i64 (x : Int))).setCell ⟨w.heap.size, 1, none⟩ (.int .i64 (y : Int))).cell? ⟨w.heap.size, 1, none⟩ = some (.int .i64 (y : Int)) :=
      cell_set_same _ _ _ _ _ (by rw [cell_set_ne _ _ _ _ _ _ (.inr (by omega))]; exact q1)
    go_wp2_with fail
    refine bodyPost_ret (v := .tuple #[.agg #[.int .i64 (x : Int), .int .i64 (y : Int)], .bool true]) (by simp [results, Tryz.results61, go_sem, *]) rfl ?_
    rw [HD.out]
    exact ⟨rfl, by (repeat (first | with_reducible exact Below.refl _ _ | with_reducible assumption | with_reducible refine up_alloc ?_ _ | with_reducible refine up_drew ?_ | with_reducible refine up_drewN ?_ _ | (with_reducible refine up_set ?_ ?hset _; case hset => first | (simp; done) | (simp; omega) | omega) | with_reducible refine up_trans ?_ (by with_reducible assumption)))⟩
/-- The reference reads a spot. -/
theorem stParse_s (l : List UInt8) (w : World) (hl : l.length ≤ 1048576) : Calls Tryz.prog 61 #[.string (bS l)] w (Ans w (spW (spP 6 l))) := by
  by_cases h2 : (splitL 44 l).length = 2
  · obtain ⟨p, q, hs, hc, _⟩ := split_two h2
    cases hp : rdL 6 p with
    | none => exact stParse_bad1 l p q w hl hs hc hp
    | some x =>
      cases hq : rdL 6 q with
      | none => exact stParse_bad2 l p q w hl hs hc x hp hq
      | some y =>
        by_cases hxy : x ≤ 1280 ∧ y ≤ 672
        · exact stParse_spot l p q w hl hs hc x y hp hq hxy
        · exact stParse_nospot l p q w hl hs hc x y hp hq hxy
  · exact stParse_no l w hl h2
end Go.Proofs.YtbfhfjpfjkdcfaaGreatDoor
