/-
  The program reads steps and a spot.
-/
import Derived.Test.YtbfhfjpfjkdcfaaDoorRows
import Derived.Test.YtbfhfjpfjkdcfaaDoorBase
import Derived.Test.YtbfhfjpfjkdcfaaDoorSpot
import Derived.Test.YtbfhfjpfjkdcfaaDoorSlice
import Derived.Test.YtbfhfjpfjkdcfaaDoorTxtP
import Derived.Test.YtbfhfjpfjkdcfaaDoorPrsP
import Derived.Test.YtbfhfjpfjkdcfaaDoorPrsN
import Derived.Test.YtbfhfjpfjkdcfaaDoorShelf
namespace Go.Proofs.YtbfhfjpfjkdcfaaDoor
open Go.RowKit Go.ChangeShapes Go.WideShapes Go.Sort Go.Proofs

theorem index_none {b : UInt8} : ∀ {l : List UInt8}, cut1 b l = none → Lib.index l [b] = -1
  | [], _ => rfl
  | c :: l, h => by
    have hc : ¬ c = b := fun e => by subst e; simp [cut1] at h
    have ht : cut1 b l = none := by simpa [cut1, hc] using h
    unfold Lib.index
    rw [index_none ht]
    simp [List.isPrefixOf, Ne.symm hc]
theorem index_some {b : UInt8} : ∀ {l p q : List UInt8}, cut1 b l = some (p, q) → Lib.index l [b] = (p.length : Int)
  | [], p, q, h => by simp [cut1] at h
  | c :: l, p, q, h => by
    unfold Lib.index
    by_cases hc : c = b
    · subst hc
      simp only [cut1, if_true, Option.some.injEq, Prod.mk.injEq] at h
      simp [List.isPrefixOf, ← h.1]
    · simp only [cut1, if_neg hc, Option.map_eq_some_iff, Prod.mk.injEq] at h
      obtain ⟨⟨p', q'⟩, h1, rfl, rfl⟩ := h
      rw [index_some h1]
      simp [List.isPrefixOf, Ne.symm hc]
theorem lib_cut_none {b : UInt8} {l : List UInt8} (h : cut1 b l = none) : Lib.cut l [b] = (l, [], false) := by
  unfold Lib.cut
  rw [index_none h]
  rfl
theorem lib_cut_some {b : UInt8} {l p q : List UInt8} (h : cut1 b l = some (p, q)) : Lib.cut l [b] = (p, q, true) := by
  unfold Lib.cut
  rw [index_some h, if_pos (by omega)]
  obtain ⟨rfl, _⟩ := cut1_some.1 h
  simp
/-- The count that the library's search asks for. -/
def MaxW (w : World) : Prop := ∃ m : Int, w.cell? ⟨0, 0, none⟩ = some (.int .i64 m)
theorem MaxW.up {w w' : World} (h : MaxW w) (hb : Below w.heap.size w w') : MaxW w' := by
  obtain ⟨m, hm⟩ := h
  exact ⟨m, up_keep hb hm⟩
theorem below_dN (w : World) (n : Nat) : Below w.heap.size w (w.drewN n) := up_drewN (Below.refl _ _) n
theorem cut_no (b : UInt8) (l : List UInt8) (w : World) (hl : l.length ≤ 1048576) (hm : MaxW w) (h : cut1 b l = none) :
    Calls Tryd.prog 27 #[.string (bS l), .string ⟨#[b]⟩] w (Ans w (.tuple #[.string (bS l), .string (bS []), .bool false])) := by
  obtain ⟨m, hm⟩ := hm
  refine (Tryd.strings_Cut (bS l) ⟨#[b]⟩ m w (by rw [bS_size]; omega) hm).mono ?_
  rintro e w' ⟨rfl, k, rfl⟩
  refine ⟨?_, below_dN w k⟩
  rw [show Lib.cut (bS l).data.toList (⟨#[b]⟩ : ByteArray).data.toList = (l, [], false) from lib_cut_none h]
  rfl
theorem cut_yes (b : UInt8) (l p q : List UInt8) (w : World) (hl : l.length ≤ 1048576) (hm : MaxW w) (h : cut1 b l = some (p, q)) :
    Calls Tryd.prog 27 #[.string (bS l), .string ⟨#[b]⟩] w (Ans w (.tuple #[.string (bS p), .string (bS q), .bool true])) := by
  obtain ⟨m, hm⟩ := hm
  refine (Tryd.strings_Cut (bS l) ⟨#[b]⟩ m w (by rw [bS_size]; omega) hm).mono ?_
  rintro e w' ⟨rfl, k, rfl⟩
  refine ⟨?_, below_dN w k⟩
  rw [show Lib.cut (bS l).data.toList (⟨#[b]⟩ : ByteArray).data.toList = (p, q, true) from lib_cut_some h]
  rfl
set_option maxRecDepth 100000 in
set_option maxHeartbeats 2000000 in
theorem readSteps_s (l : List UInt8) (w : World) (hl : l.length ≤ 1048576) (hm : MaxW w) : Calls Tryd.prog 28 #[.string (bS l)] w (Ans w (natV (rdL 9 l))) := by
  cases hc : cut1 43 l with
  | none =>
    have HC := Lib.hid (cut_no 43 l w hl hm hc)
    have HN := Lib.hid (fun W => natural_s l W hl)
    have hr : rdL 9 l = (natB 9 l).map (8 * ·) := by unfold rdL; rw [hc]
    cases hn : natB 9 l with
    | none =>
      have HD := Lib.hid (show natV (rdL 9 l) = .tuple #[.int .i64 0, .bool false] by rw [hr, hn]; rfl)
      rw [hn, show natV none = .tuple #[.int .i64 0, .bool false] from rfl] at HN
      clear hc hr hn hm
      go_enter Tryd.func28, Tryd.ntmps28
      go_wp2_with (first | (go_at_call 27; (refine (HC.out).mono ?_); rintro e w1 ⟨rfl, hb1⟩) | (go_at_call 42; (refine (HN.out _).mono ?_); rintro e w2 ⟨rfl, hb2⟩))
      go_ret2
      rw [HD.out]
      exact ⟨rfl, by (repeat (first | with_reducible exact Below.refl _ _ | with_reducible assumption | with_reducible refine up_alloc ?_ _ | with_reducible refine up_drew ?_ | with_reducible refine up_drewN ?_ _ | (with_reducible refine up_set ?_ ?hset _; case hset => first | (simp; done) | (simp; omega) | omega) | with_reducible refine up_trans ?_ (by with_reducible assumption)))⟩
    | some n =>
      have hlt := (natB_dec hn).2
      have hb : (n : Int) ≤ 1000000000 := by have : n < 10 ^ 9 := hlt; omega
      have HD := Lib.hid (show natV (rdL 9 l) = .tuple #[.int .i64 (8 * (n : Int)), .bool true] by rw [hr, hn]; show Value.tuple #[.int .i64 ((8 * n : Nat) : Int), .bool true] = _; rw [show ((8 * n : Nat) : Int) = 8 * (n : Int) by omega])
      rw [hn, show natV (some n) = .tuple #[.int .i64 (n : Int), .bool true] from rfl] at HN
      clear hc hr hn hm hlt
      go_enter Tryd.func28, Tryd.ntmps28
      go_wp2_with (first | (go_at_call 27; (refine (HC.out).mono ?_); rintro e w1 ⟨rfl, hb1⟩) | (go_at_call 42; (refine (HN.out _).mono ?_); rintro e w2 ⟨rfl, hb2⟩))
      go_ret2
      rw [HD.out]
      exact ⟨rfl, by (repeat (first | with_reducible exact Below.refl _ _ | with_reducible assumption | with_reducible refine up_alloc ?_ _ | with_reducible refine up_drew ?_ | with_reducible refine up_drewN ?_ _ | (with_reducible refine up_set ?_ ?hset _; case hset => first | (simp; done) | (simp; omega) | omega) | with_reducible refine up_trans ?_ (by with_reducible assumption)))⟩
  | some x =>
    obtain ⟨p, q⟩ := x
    obtain ⟨hpq, _⟩ := cut1_some.1 hc
    have hll : p.length ≤ 1048576 ∧ q.length ≤ 1048576 := by
      have := congrArg List.length hpq
      simp at this
      omega
    have HC := Lib.hid (cut_yes 43 l p q w hl hm hc)
    have HP := Lib.hid (fun W => natural_s p W hll.1)
    have HQ := Lib.hid (fun W => natural_s q W hll.2)
    have hr : rdL 9 l = match natB 9 p, natB 9 q with
      | some n, some k => if 1 ≤ k ∧ k ≤ 7 then some (8 * n + k) else none
      | _, _ => none := by unfold rdL; rw [hc]; rfl
    clear hc hpq hll hm hl
    cases hn : natB 9 p with
    | none =>
      have HD := Lib.hid (show natV (rdL 9 l) = .tuple #[.int .i64 0, .bool false] by rw [hr, hn]; rfl)
      rw [hn, show natV none = .tuple #[.int .i64 0, .bool false] from rfl] at HP
      clear hr hn
      go_enter Tryd.func28, Tryd.ntmps28
      go_wp2_with (first | (go_at_call 27; (refine (HC.out).mono ?_); rintro e w1 ⟨rfl, hb1⟩) | (go_at_call 42; (with_reducible show Calls Tryd.prog _ #[.string (bS p)] _ _); (refine (HP.out _).mono ?_); rintro e w2 ⟨rfl, hb2⟩) | (go_at_call 42; (with_reducible show Calls Tryd.prog _ #[.string (bS q)] _ _); (refine (HQ.out _).mono ?_); rintro e w3 ⟨rfl, hb3⟩) | (go_at_call 33; refine (within_any _ _ _ _).mono ?_; rintro e w4 ⟨rfl, rfl⟩))
      go_ret2
      rw [HD.out]
      exact ⟨rfl, by (repeat (first | with_reducible exact Below.refl _ _ | with_reducible assumption | with_reducible refine up_alloc ?_ _ | with_reducible refine up_drew ?_ | with_reducible refine up_drewN ?_ _ | (with_reducible refine up_set ?_ ?hset _; case hset => first | (simp; done) | (simp; omega) | omega) | with_reducible refine up_trans ?_ (by with_reducible assumption)))⟩
    | some n =>
      have hlt := (natB_dec hn).2
      have hb : (n : Int) ≤ 1000000000 := by have : n < 10 ^ 9 := hlt; omega
      rw [hn, show natV (some n) = .tuple #[.int .i64 (n : Int), .bool true] from rfl] at HP
      rw [hn] at hr
      cases hk : natB 9 q with
      | none =>
        have HD := Lib.hid (show natV (rdL 9 l) = .tuple #[.int .i64 0, .bool false] by rw [hr, hk]; rfl)
        rw [hk, show natV none = .tuple #[.int .i64 0, .bool false] from rfl] at HQ
        clear hr hn hk hlt
        go_enter Tryd.func28, Tryd.ntmps28
        go_wp2_with (first | (go_at_call 27; (refine (HC.out).mono ?_); rintro e w1 ⟨rfl, hb1⟩) | (go_at_call 42; (with_reducible show Calls Tryd.prog _ #[.string (bS p)] _ _); (refine (HP.out _).mono ?_); rintro e w2 ⟨rfl, hb2⟩) | (go_at_call 42; (with_reducible show Calls Tryd.prog _ #[.string (bS q)] _ _); (refine (HQ.out _).mono ?_); rintro e w3 ⟨rfl, hb3⟩) | (go_at_call 33; refine (within_any _ _ _ _).mono ?_; rintro e w4 ⟨rfl, rfl⟩))
        go_ret2
        rw [HD.out]
        exact ⟨rfl, by (repeat (first | with_reducible exact Below.refl _ _ | with_reducible assumption | with_reducible refine up_alloc ?_ _ | with_reducible refine up_drew ?_ | with_reducible refine up_drewN ?_ _ | (with_reducible refine up_set ?_ ?hset _; case hset => first | (simp; done) | (simp; omega) | omega) | with_reducible refine up_trans ?_ (by with_reducible assumption)))⟩
      | some k =>
        rw [hk, show natV (some k) = .tuple #[.int .i64 (k : Int), .bool true] from rfl] at HQ
        rw [hk] at hr
        simp only at hr
        by_cases h7 : 1 ≤ k ∧ k ≤ 7
        · rw [if_pos h7] at hr
          have hin : inB (k : Int) 1 7 = true := inB_iff.2 ⟨by omega, by omega⟩
          have HD := Lib.hid (show natV (rdL 9 l) = .tuple #[.int .i64 (8 * (n : Int) + (k : Int)), .bool true] by rw [hr]; show Value.tuple #[.int .i64 ((8 * n + k : Nat) : Int), .bool true] = _; rw [show ((8 * n + k : Nat) : Int) = 8 * (n : Int) + (k : Int) by omega])
          have k1 : 1 ≤ (k : Int) := by omega
          have k2 : (k : Int) ≤ 7 := by omega
          clear hr hn hk hlt h7
          go_enter Tryd.func28, Tryd.ntmps28
          go_wp2_with (first | (go_at_call 27; (refine (HC.out).mono ?_); rintro e w1 ⟨rfl, hb1⟩) | (go_at_call 42; (with_reducible show Calls Tryd.prog _ #[.string (bS p)] _ _); (refine (HP.out _).mono ?_); rintro e w2 ⟨rfl, hb2⟩) | (go_at_call 42; (with_reducible show Calls Tryd.prog _ #[.string (bS q)] _ _); (refine (HQ.out _).mono ?_); rintro e w3 ⟨rfl, hb3⟩) | (go_at_call 33; refine (within_any _ _ _ _).mono ?_; rintro e w4 ⟨rfl, rfl⟩))
          go_ret2
          rw [HD.out]
          exact ⟨rfl, by (repeat (first | with_reducible exact Below.refl _ _ | with_reducible assumption | with_reducible refine up_alloc ?_ _ | with_reducible refine up_drew ?_ | with_reducible refine up_drewN ?_ _ | (with_reducible refine up_set ?_ ?hset _; case hset => first | (simp; done) | (simp; omega) | omega) | with_reducible refine up_trans ?_ (by with_reducible assumption)))⟩
        · rw [if_neg h7] at hr
          have hin : inB (k : Int) 1 7 = false := by
            cases hc : inB (k : Int) 1 7 with
            | false => rfl
            | true => exact absurd (inB_iff.1 hc) (by omega)
          have HD := Lib.hid (show natV (rdL 9 l) = .tuple #[.int .i64 0, .bool false] by rw [hr]; rfl)
          clear hr hn hk hlt h7
          go_enter Tryd.func28, Tryd.ntmps28
          go_wp2_with (first | (go_at_call 27; (refine (HC.out).mono ?_); rintro e w1 ⟨rfl, hb1⟩) | (go_at_call 42; (with_reducible show Calls Tryd.prog _ #[.string (bS p)] _ _); (refine (HP.out _).mono ?_); rintro e w2 ⟨rfl, hb2⟩) | (go_at_call 42; (with_reducible show Calls Tryd.prog _ #[.string (bS q)] _ _); (refine (HQ.out _).mono ?_); rintro e w3 ⟨rfl, hb3⟩) | (go_at_call 33; refine (within_any _ _ _ _).mono ?_; rintro e w4 ⟨rfl, rfl⟩))
          go_ret2
          rw [HD.out]
          exact ⟨rfl, by (repeat (first | with_reducible exact Below.refl _ _ | with_reducible assumption | with_reducible refine up_alloc ?_ _ | with_reducible refine up_drew ?_ | with_reducible refine up_drewN ?_ _ | (with_reducible refine up_set ?_ ?hset _; case hset => first | (simp; done) | (simp; omega) | omega) | with_reducible refine up_trans ?_ (by with_reducible assumption)))⟩
end Go.Proofs.YtbfhfjpfjkdcfaaDoor
