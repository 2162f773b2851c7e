/-
  The reference reads steps.
-/
import Derived.Test.YtbfhfjpfjkdcfaaDoorRows
import Derived.Test.YtbfhfjpfjkdcfaaDoorBase
import Derived.Test.YtbfhfjpfjkdcfaaDoorSpot
import Derived.Test.YtbfhfjpfjkdcfaaDoorTxtP
import Derived.Test.YtbfhfjpfjkdcfaaDoorPrsP
import Derived.Test.YtbfhfjpfjkdcfaaDoorPrsN
import Derived.Test.YtbfhfjpfjkdcfaaDoorPrsS
namespace Go.Proofs.YtbfhfjpfjkdcfaaDoor
open Go.RowKit Go.ChangeShapes Go.WideShapes Go.Sort Go.Proofs

theorem natB_bad {m : Nat} {q : List UInt8} {b : UInt8} (h : b ∈ q) (hb : isDig b = false) : natB m q = none := by
  unfold natB
  rw [if_neg]
  rintro ⟨_, _, hd⟩
  have := List.all_eq_true.1 hd b h
  rw [hb] at this
  cases this
theorem Strs.one {w : World} {v : Value} {p : List UInt8} (h : Strs w v [p]) : ∃ b o c, v = .slice (some ⟨b, o, none⟩) 1 c ∧ 1 ≤ c ∧ w.cell? ⟨b, o, none⟩ = some (.string (bS p)) := by
  obtain ⟨A, c, rfl, hc, hr⟩ := h
  obtain ⟨b, o, rfl, hx⟩ := hr (by simp)
  exact ⟨b, o, c, rfl, hc, hx 0 p rfl⟩
theorem Strs.two {w : World} {v : Value} {p q : List UInt8} (h : Strs w v [p, q]) : ∃ b o c, v = .slice (some ⟨b, o, none⟩) 2 c ∧ 2 ≤ c ∧ w.cell? ⟨b, o, none⟩ = some (.string (bS p)) ∧ w.cell? ⟨b, o + 1, none⟩ = some (.string (bS q)) := by
  obtain ⟨A, c, rfl, hc, hr⟩ := h
  obtain ⟨b, o, rfl, hx⟩ := hr (by simp)
  exact ⟨b, o, c, rfl, hc, hx 0 p rfl, hx 1 q rfl⟩
theorem Strs.more {w : World} {v : Value} {p : List UInt8} {t : List (List UInt8)} (h : Strs w v (p :: t)) : ∃ b o c, v = .slice (some ⟨b, o, none⟩) (t.length + 1) c ∧ t.length + 1 ≤ c ∧ w.cell? ⟨b, o, none⟩ = some (.string (bS p)) := by
  obtain ⟨A, c, rfl, hc, hr⟩ := h
  obtain ⟨b, o, rfl, hx⟩ := hr (by simp)
  exact ⟨b, o, c, rfl, hc, hx 0 p rfl⟩
theorem split_len {b : UInt8} {q : List UInt8} (h : b ∈ q) : 2 ≤ (splitL b q).length := by
  cases hc : cut1 b q with
  | none => exact absurd h (cut1_none.1 hc)
  | some z =>
    obtain ⟨p, r⟩ := z
    obtain ⟨rfl, h2⟩ := cut1_some.1 hc
    rw [splitL_hit h2]
    have := splitL_ne b r
    have : (splitL b r).length ≠ 0 := by simpa using this
    simp; omega
set_option maxRecDepth 100000 in
set_option maxHeartbeats 2000000 in
theorem stRead_s (l : List UInt8) (w : World) (hl : l.length ≤ 1048576) : Calls Tryd.prog 38 #[.string (bS l)] w (Ans w (.int .i64 (rdV (rdL 6 l)))) := by
  have HS := Lib.hid (l1Split_s l 43 w hl)
  cases hc : cut1 43 l with
  | none =>
    have HSP := Lib.hid (splitL_miss (cut1_none.1 hc))
    have HN := Lib.hid (fun W => l1Read_s l W hl)
    have hr : rdL 6 l = (natB 6 l).map (8 * ·) := by unfold rdL; rw [hc]
    cases hn : natB 6 l with
    | none =>
      have HD := Lib.hid (show rdV (rdL 6 l) = -1 by rw [hr, hn]; rfl)
      rw [hn, show rdV none = -1 from rfl] at HN
      clear hc hr hn
      go_enter Tryd.func38, Tryd.ntmps38
      go_wp2_with (go_at_call 24; refine (HS.out).mono ?_)
      rintro e w1 ⟨v, rfl, hs, hb1⟩
      rw [HSP.out] at hs
      obtain ⟨b, o, c, rfl, hc1, hx⟩ := hs.one
      clear hs
      go_wp2_with (go_at_call 47; (refine (HN.out _).mono ?_); rintro e w2 ⟨rfl, hb2⟩)
      go_ret
      rw [HD.out]
      exact ⟨rfl, by (repeat (first | with_reducible exact Below.refl _ _ | with_reducible assumption | with_reducible refine up_alloc ?_ _ | with_reducible refine up_drew ?_ | with_reducible refine up_drewN ?_ _ | (with_reducible refine up_set ?_ ?hset _; case hset => first | (simp; done) | (simp; omega) | omega) | with_reducible refine up_trans ?_ (by with_reducible assumption)))⟩
    | some n =>
      have hlt := (natB_dec hn).2
      have hb : (n : Int) ≤ 1000000 := by have : n < 10 ^ 6 := hlt; omega
      have hb0 : 0 ≤ (n : Int) := by omega
      have HD := Lib.hid (show rdV (rdL 6 l) = 8 * (n : Int) by rw [hr, hn]; show ((8 * n : Nat) : Int) = _; omega)
      rw [hn, show rdV (some n) = (n : Int) from rfl] at HN
      clear hc hr hn hlt
      go_enter Tryd.func38, Tryd.ntmps38
      go_wp2_with (go_at_call 24; refine (HS.out).mono ?_)
      rintro e w1 ⟨v, rfl, hs, hb1⟩
      rw [HSP.out] at hs
      obtain ⟨b, o, c, rfl, hc1, hx⟩ := hs.one
      clear hs
      go_wp2_with (go_at_call 47; (refine (HN.out _).mono ?_); rintro e w2 ⟨rfl, hb2⟩)
      go_ret
      rw [HD.out]
      exact ⟨rfl, by (repeat (first | with_reducible exact Below.refl _ _ | with_reducible assumption | with_reducible refine up_alloc ?_ _ | with_reducible refine up_drew ?_ | with_reducible refine up_drewN ?_ _ | (with_reducible refine up_set ?_ ?hset _; case hset => first | (simp; done) | (simp; omega) | omega) | with_reducible refine up_trans ?_ (by with_reducible assumption)))⟩
  | some z =>
    obtain ⟨p, q⟩ := z
    obtain ⟨hpq, hnp⟩ := cut1_some.1 hc
    have hll : p.length ≤ 1048576 ∧ q.length ≤ 1048576 := by
      have := congrArg List.length hpq
      simp at this
      omega
    have HSP := Lib.hid (show splitL 43 l = p :: splitL 43 q by rw [hpq, splitL_hit hnp])
    have HP := Lib.hid (fun W => l1Read_s p W hll.1)
    have HQ := Lib.hid (fun W => l1Read_s q W hll.2)
    have hr : rdL 6 l = match natB 6 p, natB 6 q with
      | some n, some k => if 1 ≤ k ∧ k ≤ 7 then some (8 * n + k) else none
      | _, _ => none := by unfold rdL; rw [hc]; rfl
    clear hc hpq hll hnp hl
    cases hp : natB 6 p with
    | none =>
      have HD := Lib.hid (show rdV (rdL 6 l) = -1 by rw [hr, hp]; rfl)
      rw [hp, show rdV none = -1 from rfl] at HP
      clear hr hp
      go_enter Tryd.func38, Tryd.ntmps38
      go_wp2_with (go_at_call 24; refine (HS.out).mono ?_)
      rintro e w1 ⟨v, rfl, hs, hb1⟩
      rw [HSP.out] at hs
      obtain ⟨b, o, c, rfl, hc1, hx⟩ := hs.more
      clear hs
      generalize hT : (splitL 43 q).length = T at *
      go_wp2_with (go_at_call 47; (refine (HP.out _).mono ?_); rintro e w2 ⟨rfl, hb2⟩)
      all_goals
        go_ret
        rw [HD.out]
        exact ⟨rfl, by (repeat (first | with_reducible exact Below.refl _ _ | with_reducible assumption | with_reducible refine up_alloc ?_ _ | with_reducible refine up_drew ?_ | with_reducible refine up_drewN ?_ _ | (with_reducible refine up_set ?_ ?hset _; case hset => first | (simp; done) | (simp; omega) | omega) | with_reducible refine up_trans ?_ (by with_reducible assumption)))⟩
    | some n =>
      have hlt := (natB_dec hp).2
      have hb : (n : Int) ≤ 1000000 := by have : n < 10 ^ 6 := hlt; omega
      have hb0 : 0 ≤ (n : Int) := by omega
      rw [hp, show rdV (some n) = (n : Int) from rfl] at HP
      rw [hp] at hr
      by_cases hm : 43 ∈ q
      · have hq := natB_bad (m := 6) hm (by decide)
        have HD := Lib.hid (show rdV (rdL 6 l) = -1 by rw [hr, hq]; rfl)
        have hj := split_len hm
        have hj2 : 2 < (((splitL 43 q).length : Nat) : Int) + 1 := by omega
        clear hr hp hq hm hj hlt
        go_enter Tryd.func38, Tryd.ntmps38
        go_wp2_with (go_at_call 24; refine (HS.out).mono ?_)
        rintro e w1 ⟨v, rfl, hs, hb1⟩
        rw [HSP.out] at hs
        obtain ⟨b, o, c, rfl, hc1, hx⟩ := hs.more
        clear hs
        generalize hT : (splitL 43 q).length = T at *
        go_wp2_with (go_at_call 47; (refine (HP.out _).mono ?_); rintro e w2 ⟨rfl, hb2⟩)
        all_goals
          go_ret
          rw [HD.out]
          exact ⟨rfl, by (repeat (first | with_reducible exact Below.refl _ _ | with_reducible assumption | with_reducible refine up_alloc ?_ _ | with_reducible refine up_drew ?_ | with_reducible refine up_drewN ?_ _ | (with_reducible refine up_set ?_ ?hset _; case hset => first | (simp; done) | (simp; omega) | omega) | with_reducible refine up_trans ?_ (by with_reducible assumption)))⟩
      · rw [splitL_miss hm] at HSP
        cases hq : natB 6 q with
        | none =>
          have HD := Lib.hid (show rdV (rdL 6 l) = -1 by rw [hr, hq]; rfl)
          rw [hq, show rdV none = -1 from rfl] at HQ
          have hin : inB (-1) 1 7 = false := by decide
          clear hr hp hq hm hlt
          go_enter Tryd.func38, Tryd.ntmps38
          go_wp2_with (go_at_call 24; refine (HS.out).mono ?_)
          rintro e w1 ⟨v, rfl, hs, hb1⟩
          rw [HSP.out] at hs
          obtain ⟨b, o, c, rfl, hc1, hx, hy⟩ := hs.two
          clear hs
          go_wp2_with (first | (go_at_call 47; (with_reducible show Calls Tryd.prog _ #[.string (bS p)] _ _); (refine (HP.out _).mono ?_); rintro e w2 ⟨rfl, hb2⟩; have hy2 := up_keep hb2 hy) | (go_at_call 47; (with_reducible show Calls Tryd.prog _ #[.string (bS q)] _ _); (refine (HQ.out _).mono ?_); rintro e w3 ⟨rfl, hb3⟩) | (go_at_call 31; refine (l1In_any _ _ _ _).mono ?_; rintro e w4 ⟨rfl, rfl⟩))
          go_ret
          rw [HD.out]
          exact ⟨rfl, by (repeat (first | with_reducible exact Below.refl _ _ | with_reducible assumption | with_reducible refine up_alloc ?_ _ | with_reducible refine up_drew ?_ | with_reducible refine up_drewN ?_ _ | (with_reducible refine up_set ?_ ?hset _; case hset => first | (simp; done) | (simp; omega) | omega) | with_reducible refine up_trans ?_ (by with_reducible assumption)))⟩
        | some k =>
          rw [hq, show rdV (some k) = (k : Int) from rfl] at HQ
          rw [hq] at hr
          simp only at hr
          by_cases h7 : 1 ≤ k ∧ k ≤ 7
          · rw [if_pos h7] at hr
            have hin : inB (k : Int) 1 7 = true := inB_iff.2 ⟨by omega, by omega⟩
            have HD := Lib.hid (show rdV (rdL 6 l) = 8 * (n : Int) + (k : Int) by rw [hr]; show ((8 * n + k : Nat) : Int) = _; omega)
            have k1 : 1 ≤ (k : Int) := by omega
            have k2 : (k : Int) ≤ 7 := by omega
            clear hr hp hq hm hlt h7
            go_enter Tryd.func38, Tryd.ntmps38
            go_wp2_with (go_at_call 24; refine (HS.out).mono ?_)
            rintro e w1 ⟨v, rfl, hs, hb1⟩
            rw [HSP.out] at hs
            obtain ⟨b, o, c, rfl, hc1, hx, hy⟩ := hs.two
            clear hs
            go_wp2_with (first | (go_at_call 47; (with_reducible show Calls Tryd.prog _ #[.string (bS p)] _ _); (refine (HP.out _).mono ?_); rintro e w2 ⟨rfl, hb2⟩; have hy2 := up_keep hb2 hy) | (go_at_call 47; (with_reducible show Calls Tryd.prog _ #[.string (bS q)] _ _); (refine (HQ.out _).mono ?_); rintro e w3 ⟨rfl, hb3⟩) | (go_at_call 31; refine (l1In_any _ _ _ _).mono ?_; rintro e w4 ⟨rfl, rfl⟩))
            go_ret
            rw [HD.out]
            exact ⟨rfl, by (repeat (first | with_reducible exact Below.refl _ _ | with_reducible assumption | with_reducible refine up_alloc ?_ _ | with_reducible refine up_drew ?_ | with_reducible refine up_drewN ?_ _ | (with_reducible refine up_set ?_ ?hset _; case hset => first | (simp; done) | (simp; omega) | omega) | with_reducible refine up_trans ?_ (by with_reducible assumption)))⟩
          · rw [if_neg h7] at hr
            have hin : inB (k : Int) 1 7 = false := by
              cases hc : inB (k : Int) 1 7 with
              | false => rfl
              | true => exact absurd (inB_iff.1 hc) (by omega)
            have HD := Lib.hid (show rdV (rdL 6 l) = -1 by rw [hr]; rfl)
            clear hr hp hq hm hlt h7
            go_enter Tryd.func38, Tryd.ntmps38
            go_wp2_with (go_at_call 24; refine (HS.out).mono ?_)
            rintro e w1 ⟨v, rfl, hs, hb1⟩
            rw [HSP.out] at hs
            obtain ⟨b, o, c, rfl, hc1, hx, hy⟩ := hs.two
            clear hs
            go_wp2_with (first | (go_at_call 47; (with_reducible show Calls Tryd.prog _ #[.string (bS p)] _ _); (refine (HP.out _).mono ?_); rintro e w2 ⟨rfl, hb2⟩; have hy2 := up_keep hb2 hy) | (go_at_call 47; (with_reducible show Calls Tryd.prog _ #[.string (bS q)] _ _); (refine (HQ.out _).mono ?_); rintro e w3 ⟨rfl, hb3⟩) | (go_at_call 31; refine (l1In_any _ _ _ _).mono ?_; rintro e w4 ⟨rfl, rfl⟩))
            go_ret
            rw [HD.out]
            exact ⟨rfl, by (repeat (first | with_reducible exact Below.refl _ _ | with_reducible assumption | with_reducible refine up_alloc ?_ _ | with_reducible refine up_drew ?_ | with_reducible refine up_drewN ?_ _ | (with_reducible refine up_set ?_ ?hset _; case hset => first | (simp; done) | (simp; omega) | omega) | with_reducible refine up_trans ?_ (by with_reducible assumption)))⟩
end Go.Proofs.YtbfhfjpfjkdcfaaDoor
