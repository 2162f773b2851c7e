/- Words and contracts, part 5. -/
import Derived.Test.YtbfhfjpfjkdcfaaGreatDoorRows
import Derived.Maps.AppendAt
import Derived.BigQuiet
import Derived.Test.YtbfhfjpfjkdcfaaGreatDoorZ4
namespace Go.Proofs.YtbfhfjpfjkdcfaaGreatDoor
open Go.RowKit Go.ChangeShapes Go.WideShapes Go.Sort Go.Proofs

theorem index_none {b : UInt8} : ∀ {l : List UInt8}, cut1 b l = none → Lib.index l [b] = -1
  | [], _ => rfl
  | c :: l, h => by
    have hc : ¬ c = b := fun e => by subst e; simp [cut1] at h
    have ht : cut1 b l = none := by simpa [cut1, hc] using h
    unfold Lib.index
    rw [index_none ht]
    simp [List.isPrefixOf, Ne.symm hc]
theorem index_some {b : UInt8} : ∀ {l p q : List UInt8}, cut1 b l = some (p, q) → Lib.index l [b] = (p.length : Int)
  | [], p, q, h => by simp [cut1] at h
  | c :: l, p, q, h => by
    unfold Lib.index
    by_cases hc : c = b
    · subst hc
      simp only [cut1, if_true, Option.some.injEq, Prod.mk.injEq] at h
      simp [List.isPrefixOf, ← h.1]
    · simp only [cut1, if_neg hc, Option.map_eq_some_iff, Prod.mk.injEq] at h
      obtain ⟨⟨p', q'⟩, h1, rfl, rfl⟩ := h
      rw [index_some h1]
      simp [List.isPrefixOf, Ne.symm hc]
theorem lib_cut_none {b : UInt8} {l : List UInt8} (h : cut1 b l = none) : Lib.cut l [b] = (l, [], false) := by
  unfold Lib.cut
  rw [index_none h]
  rfl
theorem lib_cut_some {b : UInt8} {l p q : List UInt8} (h : cut1 b l = some (p, q)) : Lib.cut l [b] = (p, q, true) := by
  unfold Lib.cut
  rw [index_some h, if_pos (by omega)]
  obtain ⟨rfl, _⟩ := cut1_some.1 h
  simp
/-- The count that the library's search asks for. -/
def MaxW (w : World) : Prop := ∃ m : Int, w.cell? ⟨0, 0, none⟩ = some (.int .i64 m)
theorem MaxW.up {w w' : World} (h : MaxW w) (hb : Below w.heap.size w w') : MaxW w' := by
  obtain ⟨m, hm⟩ := h
  exact ⟨m, up_keep hb hm⟩
theorem below_dN (w : World) (n : Nat) : Below w.heap.size w (w.drewN n) := up_drewN (Below.refl _ _) n
theorem cut_no (b : UInt8) (l : List UInt8) (w : World) (hl : l.length ≤ 1048576) (hm : MaxW w) (h : cut1 b l = none) :
    Calls Tryz.prog 56 #[.string (bS l), .string ⟨#[b]⟩] w (Ans w (.tuple #[.string (bS l), .string (bS []), .bool false])) := by
  obtain ⟨m, hm⟩ := hm
  refine (Tryz.strings_Cut (bS l) ⟨#[b]⟩ m w (by rw [bS_size]; omega) hm).mono ?_
  rintro e w' ⟨rfl, k, rfl⟩
  refine ⟨?_, below_dN w k⟩
  rw [show Lib.cut (bS l).data.toList (⟨#[b]⟩ : ByteArray).data.toList = (l, [], false) from lib_cut_none h]
  rfl
theorem cut_yes (b : UInt8) (l p q : List UInt8) (w : World) (hl : l.length ≤ 1048576) (hm : MaxW w) (h : cut1 b l = some (p, q)) :
    Calls Tryz.prog 56 #[.string (bS l), .string ⟨#[b]⟩] w (Ans w (.tuple #[.string (bS p), .string (bS q), .bool true])) := by
  obtain ⟨m, hm⟩ := hm
  refine (Tryz.strings_Cut (bS l) ⟨#[b]⟩ m w (by rw [bS_size]; omega) hm).mono ?_
  rintro e w' ⟨rfl, k, rfl⟩
  refine ⟨?_, below_dN w k⟩
  rw [show Lib.cut (bS l).data.toList (⟨#[b]⟩ : ByteArray).data.toList = (p, q, true) from lib_cut_some h]
  rfl
set_option maxRecDepth 100000 in
set_option maxHeartbeats 2000000 in
theorem readSteps_s (l : List UInt8) (w : World) (hl : l.length ≤ 1048576) (hm : MaxW w) : Calls Tryz.prog 57 #[.string (bS l)] w (Ans w (natV (rdL 9 l))) := by
  cases hc : cut1 43 l with
  | none =>
    have HC := Lib.hid (cut_no 43 l w hl hm hc)
    have HN := Lib.hid (fun W => natural_s l W hl)
    have hr : rdL 9 l = (natB 9 l).map (8 * ·) := by unfold rdL; rw [hc]
    cases hn : natB 9 l with
    | none =>
      have HD := Lib.hid (show natV (rdL 9 l) = .tuple #[.int .i64 0, .bool false] by rw [hr, hn]; rfl)
      rw [hn, show natV none = .tuple #[.int .i64 0, .bool false] from rfl] at HN
      clear hc hr hn hm
      go_enter Tryz.func57, Tryz.ntmps57
      go_wp2_with (first | (go_at_call 56; (refine (HC.out).mono ?_); rintro e w1 ⟨rfl, hb1⟩) | (go_at_call 78; (refine (HN.out _).mono ?_); rintro e w2 ⟨rfl, hb2⟩))
      go_ret2
      rw [HD.out]
      exact ⟨rfl, by (repeat (first | with_reducible exact Below.refl _ _ | with_reducible assumption | with_reducible refine up_alloc ?_ _ | with_reducible refine up_drew ?_ | with_reducible refine up_drewN ?_ _ | (with_reducible refine up_set ?_ ?hset _; case hset => first | (simp; done) | (simp; omega) | omega) | with_reducible refine up_trans ?_ (by with_reducible assumption)))⟩
    | some n =>
      have hlt := (natB_dec hn).2
      have hb : (n : Int) ≤ 1000000000 := by have : n < 10 ^ 9 := hlt; omega
      have HD := Lib.hid (show natV (rdL 9 l) = .tuple #[.int .i64 (8 * (n : Int)), .bool true] by rw [hr, hn]; show Value.tuple #[.int .i64 ((8 * n : Nat) : Int), .bool true] = _; rw [show ((8 * n : Nat) : Int) = 8 * (n : Int) by omega])
      rw [hn, show natV (some n) = .tuple #[.int .i64 (n : Int), .bool true] from rfl] at HN
      clear hc hr hn hm hlt
      go_enter Tryz.func57, Tryz.ntmps57
      go_wp2_with (first | (go_at_call 56; (refine (HC.out).mono ?_); rintro e w1 ⟨rfl, hb1⟩) | (go_at_call 78; (refine (HN.out _).mono ?_); rintro e w2 ⟨rfl, hb2⟩))
      go_ret2
      rw [HD.out]
      exact ⟨rfl, by (repeat (first | with_reducible exact Below.refl _ _ | with_reducible assumption | with_reducible refine up_alloc ?_ _ | with_reducible refine up_drew ?_ | with_reducible refine up_drewN ?_ _ | (with_reducible refine up_set ?_ ?hset _; case hset => first | (simp; done) | (simp; omega) | omega) | with_reducible refine up_trans ?_ (by with_reducible assumption)))⟩
  | some x =>
    obtain ⟨p, q⟩ := x
    obtain ⟨hpq, _⟩ := cut1_some.1 hc
    have hll : p.length ≤ 1048576 ∧ q.length ≤ 1048576 := by
      have := congrArg List.length hpq
      simp at this
      omega
    have HC := Lib.hid (cut_yes 43 l p q w hl hm hc)
    have HP := Lib.hid (fun W => natural_s p W hll.1)
    have HQ := Lib.hid (fun W => natural_s q W hll.2)
    have hr : rdL 9 l = match natB 9 p, natB 9 q with
      | some n, some k => if 1 ≤ k ∧ k ≤ 7 then some (8 * n + k) else none
      | _, _ => none := by unfold rdL; rw [hc]; rfl
    clear hc hpq hll hm hl
    cases hn : natB 9 p with
    | none =>
      have HD := Lib.hid (show natV (rdL 9 l) = .tuple #[.int .i64 0, .bool false] by rw [hr, hn]; rfl)
      rw [hn, show natV none = .tuple #[.int .i64 0, .bool false] from rfl] at HP
      clear hr hn
      go_enter Tryz.func57, Tryz.ntmps57
      go_wp2_with (first | (go_at_call 56; (refine (HC.out).mono ?_); rintro e w1 ⟨rfl, hb1⟩) | (go_at_call 78; (with_reducible show Calls Tryz.prog _ #[.string (bS p)] _ _); (refine (HP.out _).mono ?_); rintro e w2 ⟨rfl, hb2⟩) | (go_at_call 78; (with_reducible show Calls Tryz.prog _ #[.string (bS q)] _ _); (refine (HQ.out _).mono ?_); rintro e w3 ⟨rfl, hb3⟩) | (go_at_call 34; refine (within_any _ _ _ _).mono ?_; rintro e w4 ⟨rfl, rfl⟩))
      go_ret2
      rw [HD.out]
      exact ⟨rfl, by (repeat (first | with_reducible exact Below.refl _ _ | with_reducible assumption | with_reducible refine up_alloc ?_ _ | with_reducible refine up_drew ?_ | with_reducible refine up_drewN ?_ _ | (with_reducible refine up_set ?_ ?hset _; case hset => first | (simp; done) | (simp; omega) | omega) | with_reducible refine up_trans ?_ (by with_reducible assumption)))⟩
    | some n =>
      have hlt := (natB_dec hn).2
      have hb : (n : Int) ≤ 1000000000 := by have : n < 10 ^ 9 := hlt; omega
      rw [hn, show natV (some n) = .tuple #[.int .i64 (n : Int), .bool true] from rfl] at HP
      rw [hn] at hr
      cases hk : natB 9 q with
      | none =>
        have HD := Lib.hid (show natV (rdL 9 l) = .tuple #[.int .i64 0, .bool false] by rw [hr, hk]; rfl)
        rw [hk, show natV none = .tuple #[.int .i64 0, .bool false] from rfl] at HQ
        clear hr hn hk hlt
        go_enter Tryz.func57, Tryz.ntmps57
        go_wp2_with (first | (go_at_call 56; (refine (HC.out).mono ?_); rintro e w1 ⟨rfl, hb1⟩) | (go_at_call 78; (with_reducible show Calls Tryz.prog _ #[.string (bS p)] _ _); (refine (HP.out _).mono ?_); rintro e w2 ⟨rfl, hb2⟩) | (go_at_call 78; (with_reducible show Calls Tryz.prog _ #[.string (bS q)] _ _); (refine (HQ.out _).mono ?_); rintro e w3 ⟨rfl, hb3⟩) | (go_at_call 34; refine (within_any _ _ _ _).mono ?_; rintro e w4 ⟨rfl, rfl⟩))
        go_ret2
        rw [HD.out]
        exact ⟨rfl, by (repeat (first | with_reducible exact Below.refl _ _ | with_reducible assumption | with_reducible refine up_alloc ?_ _ | with_reducible refine up_drew ?_ | with_reducible refine up_drewN ?_ _ | (with_reducible refine up_set ?_ ?hset _; case hset => first | (simp; done) | (simp; omega) | omega) | with_reducible refine up_trans ?_ (by with_reducible assumption)))⟩
      | some k =>
        rw [hk, show natV (some k) = .tuple #[.int .i64 (k : Int), .bool true] from rfl] at HQ
        rw [hk] at hr
        simp only at hr
        by_cases h7 : 1 ≤ k ∧ k ≤ 7
        · rw [if_pos h7] at hr
          have hin : inB (k : Int) 1 7 = true := inB_iff.2 ⟨by omega, by omega⟩
          have HD := Lib.hid (show natV (rdL 9 l) = .tuple #[.int .i64 (8 * (n : Int) + (k : Int)), .bool true] by rw [hr]; show Value.tuple #[.int .i64 ((8 * n + k : Nat) : Int), .bool true] = _; rw [show ((8 * n + k : Nat) : Int) = 8 * (n : Int) + (k : Int) by omega])
          have k1 : 1 ≤ (k : Int) := by omega
          have k2 : (k : Int) ≤ 7 := by omega
          clear hr hn hk hlt h7
          go_enter Tryz.func57, Tryz.ntmps57
          go_wp2_with (first | (go_at_call 56; (refine (HC.out).mono ?_); rintro e w1 ⟨rfl, hb1⟩) | (go_at_call 78; (with_reducible show Calls Tryz.prog _ #[.string (bS p)] _ _); (refine (HP.out _).mono ?_); rintro e w2 ⟨rfl, hb2⟩) | (go_at_call 78; (with_reducible show Calls Tryz.prog _ #[.string (bS q)] _ _); (refine (HQ.out _).mono ?_); rintro e w3 ⟨rfl, hb3⟩) | (go_at_call 34; refine (within_any _ _ _ _).mono ?_; rintro e w4 ⟨rfl, rfl⟩))
          go_ret2
          rw [HD.out]
          exact ⟨rfl, by (repeat (first | with_reducible exact Below.refl _ _ | with_reducible assumption | with_reducible refine up_alloc ?_ _ | with_reducible refine up_drew ?_ | with_reducible refine up_drewN ?_ _ | (with_reducible refine up_set ?_ ?hset _; case hset => first | (simp; done) | (simp; omega) | omega) | with_reducible refine up_trans ?_ (by with_reducible assumption)))⟩
        · rw [if_neg h7] at hr
          have hin : inB (k : Int) 1 7 = false := by
            cases hc : inB (k : Int) 1 7 with
            | false => rfl
            | true => exact absurd (inB_iff.1 hc) (by omega)
          have HD := Lib.hid (show natV (rdL 9 l) = .tuple #[.int .i64 0, .bool false] by rw [hr]; rfl)
          clear hr hn hk hlt h7
          go_enter Tryz.func57, Tryz.ntmps57
          go_wp2_with (first | (go_at_call 56; (refine (HC.out).mono ?_); rintro e w1 ⟨rfl, hb1⟩) | (go_at_call 78; (with_reducible show Calls Tryz.prog _ #[.string (bS p)] _ _); (refine (HP.out _).mono ?_); rintro e w2 ⟨rfl, hb2⟩) | (go_at_call 78; (with_reducible show Calls Tryz.prog _ #[.string (bS q)] _ _); (refine (HQ.out _).mono ?_); rintro e w3 ⟨rfl, hb3⟩) | (go_at_call 34; refine (within_any _ _ _ _).mono ?_; rintro e w4 ⟨rfl, rfl⟩))
          go_ret2
          rw [HD.out]
          exact ⟨rfl, by (repeat (first | with_reducible exact Below.refl _ _ | with_reducible assumption | with_reducible refine up_alloc ?_ _ | with_reducible refine up_drew ?_ | with_reducible refine up_drewN ?_ _ | (with_reducible refine up_set ?_ ?hset _; case hset => first | (simp; done) | (simp; omega) | omega) | with_reducible refine up_trans ?_ (by with_reducible assumption)))⟩
end Go.Proofs.YtbfhfjpfjkdcfaaGreatDoor
namespace Go.Proofs.YtbfhfjpfjkdcfaaGreatDoor
open Go.RowKit

/-- What is older than v's memory stays, while v is written. -/
theorem below_old {base : Nat} {w w' : World} {v : Value} {n : Nat} {X Y : Nat → Int} (hv : OwnS base w v n X Y) (hg : w.grownBy w' (if n = 0 then none else v.ownBlock)) (hb : base ≤ w.heap.size) : Below base w w' := by
  refine (Below.refl base w).grown hg hb (fun k hk => ?_)
  obtain ⟨A, c, rfl, hc, hr⟩ := hv
  split at hk
  · cases hk
  · obtain ⟨b, o, rfl, h1, _⟩ := hr (by omega)
    simp [Value.ownBlock] at hk
    omega

/-- What is younger than v's memory stays, while v is written. -/
theorem OwnS.young {base : Nat} {wx w w' : World} {u v : Value} {n m : Nat} {X Y X' Y' : Nat → Int} (hu : OwnS base w u m X' Y') (hx : Spots wx v n X Y) (hb : wx.heap.size ≤ base) (hg : w.grownBy w' (if n = 0 then none else v.ownBlock)) : OwnS base w' u m X' Y' := by
  obtain ⟨A, c, rfl, hc, hr⟩ := hu
  refine ⟨A, c, rfl, hc, fun hm => ?_⟩
  obtain ⟨b, o, rfl, h1, h2, h3⟩ := hr hm
  have hne : (if n = 0 then none else v.ownBlock) ≠ some b := by
    obtain ⟨A', c', rfl, hc', hr'⟩ := hx
    split
    · simp
    · obtain ⟨b', o', rfl, h'⟩ := hr' (by omega)
      have := h'.lt (by omega)
      simp [Value.ownBlock]
      omega
  exact ⟨b, o, rfl, h1, h2.only (h3.lt hm) hg hne, h3.only hg hne⟩
/-- What lay there in the world wb stays, while only later memory is written. -/
theorem Spots.old {wb w w' : World} {u : Value} {m : Nat} {X Y X' Y' : Nat → Int} (h0 : Spots wb u m X Y) (h : Spots w u m X' Y') (hB : Below wb.heap.size w w') : Spots w' u m X' Y' := by
  obtain ⟨A, c, rfl, hc, hr⟩ := h
  refine ⟨A, c, rfl, hc, fun hm => ?_⟩
  obtain ⟨b, o, rfl, h1⟩ := hr hm
  obtain ⟨A', c', he, _, hr0⟩ := h0
  obtain ⟨b', o', hA', h2⟩ := hr0 hm
  injection he with e1 e2 e3
  have hb : b < wb.heap.size := by
    have e4 := e1.trans hA'
    injection e4 with e5
    injection e5 with e6
    rw [e6]; exact h2.lt hm
  refine ⟨b, o, rfl, fun i hi => ?_⟩
  rw [hB.cell (p := ⟨b, _, none⟩) hb, hB.cell (p := ⟨b, _, none⟩) hb]
  exact h1 i hi
theorem cell_old {wb w w' : World} {b o : Nat} {v v0 : Value} (h0 : wb.cell? ⟨b, o, none⟩ = some v0) (h : w.cell? ⟨b, o, none⟩ = some v) (hB : Below wb.heap.size w w') : w'.cell? ⟨b, o, none⟩ = some v := by
  rw [hB.cell (p := ⟨b, o, none⟩) (lt_of_cell h0)]; exact h
theorem grown_set {a w : World} {g : Nat} (h : a.grownBy w (some g)) {p : Addr} (hp : p.block = g) (u : Value) : a.grownBy (w.setCell p u) (some g) :=
  ⟨h.os, h.tape, h.output, by rw [size_set]; exact h.size, fun i hi hne => (Below.heap_setCell w p u i (fun e => hne (by rw [e, hp]))).trans (h.block i hi hne)⟩
/-- Marked: v reads as the numbers from k0 on; nothing but v's own memory has turned. -/
def MarkAns (base : Nat) (v : Value) (n : Nat) (k0 : Int) (w : World) (e : Ending) (w' : World) : Prop :=
  e = .returned (.int .i64 (k0 + 2 * n)) ∧ w.grownBy w' (if n = 0 then none else v.ownBlock) ∧ OwnS base w' v n (fun i => k0 + 2 * i) (fun i => k0 + 2 * i + 1)
end Go.Proofs.YtbfhfjpfjkdcfaaGreatDoor
namespace Go.Proofs.YtbfhfjpfjkdcfaaGreatDoor
open Go.RowKit

/-- The n numbers from ⟨b, o⟩ on. -/
def Row1 (w : World) (b o n : Nat) (X : Nat → Int) : Prop := ∀ i, i < n → w.cell? ⟨b, o + i, none⟩ = some (.int .i64 (X i))
section
variable {w w' : World} {b o n : Nat} {X X' : Nat → Int}
theorem Row1.lt (h : Row1 w b o n X) (hn : 0 < n) : b < w.heap.size := lt_of_cell (h 0 hn)
theorem Row1.at0 (h : Row1 w b 0 n X) {k : Nat} (hk : k < n) : w.cell? ⟨b, k, none⟩ = some (.int .i64 (X k)) := by
  have := h k hk; rwa [Nat.zero_add] at this
theorem Row1.up (h : Row1 w b o n X) (hb : Below w.heap.size w w') : Row1 w' b o n X := fun i hi => up_keep hb (h i hi)
theorem Row1.cong (h : Row1 w b o n X) (hx : ∀ i, i < n → X i = X' i) : Row1 w b o n X' := fun i hi => by rw [← hx i hi]; exact h i hi
theorem Row1.only (h : Row1 w b o n X) {row : Option Nat} (hg : w.grownBy w' row) (hr : row ≠ some b) : Row1 w' b o n X := fun i hi => by
  have e : ∀ o', w'.cell? ⟨b, o', none⟩ = w.cell? ⟨b, o', none⟩ := fun o' => World.cell?_of_block (hg.block b (lt_of_cell (h i hi)) (Ne.symm hr))
  rw [e]; exact h i hi
theorem Row1.put (h : Row1 w b o n X) {k : Nat} (hk : k < n) (x : Int) : Row1 (w.setCell ⟨b, o + k, none⟩ (.int .i64 x)) b o n (fun i => if i = k then x else X i) := fun i hi => by
  dsimp only
  by_cases e : i = k
  · subst e
    rw [if_pos rfl]; exact cell_set_same _ _ _ _ _ (h i hi)
  · rw [if_neg e, cell_set_ne _ _ _ _ _ _ (by omega)]; exact h i hi
theorem Row1.put0 (h : Row1 w b 0 n X) {k : Nat} (hk : k < n) (x : Int) : Row1 (w.setCell ⟨b, k, none⟩ (.int .i64 x)) b 0 n (fun i => if i = k then x else X i) := by
  have := h.put hk x; rwa [Nat.zero_add] at this
end
/-- The slice value v reads as n numbers. -/
def Ints (w : World) (v : Value) (n : Nat) (X : Nat → Int) : Prop := ∃ A c, v = .slice A n c ∧ n ≤ c ∧ (0 < n → ∃ b o, A = some ⟨b, o, none⟩ ∧ Row1 w b o n X)
theorem Ints.up {w w' : World} {v : Value} {n : Nat} {X : Nat → Int} (h : Ints w v n X) (hb : Below w.heap.size w w') : Ints w' v n X := by
  obtain ⟨A, c, hv, hc, hr⟩ := h
  exact ⟨A, c, hv, hc, fun hn => by obtain ⟨b, o, ha, h⟩ := hr hn; exact ⟨b, o, ha, h.up hb⟩⟩
/-- .. in memory of its own. -/
def OwnI (base : Nat) (w : World) (v : Value) (n : Nat) (X : Nat → Int) : Prop := ∃ A c, v = .slice A n c ∧ n ≤ c ∧ (0 < n → ∃ b o, A = some ⟨b, o, none⟩ ∧ base ≤ b ∧ Free w b ∧ Row1 w b o n X)
section
variable {base : Nat} {w w' : World} {v : Value} {n : Nat} {X X' : Nat → Int}
theorem OwnI.ints (h : OwnI base w v n X) : Ints w v n X := by
  obtain ⟨A, c, hv, hc, hr⟩ := h
  exact ⟨A, c, hv, hc, fun hn => by obtain ⟨b, o, ha, _, _, h⟩ := hr hn; exact ⟨b, o, ha, h⟩⟩
theorem OwnI.up (h : OwnI base w v n X) (hb : Below w.heap.size w w') : OwnI base w' v n X := by
  obtain ⟨A, c, hv, hc, hr⟩ := h
  exact ⟨A, c, hv, hc, fun hn => by obtain ⟨b, o, ha, h1, h2, h⟩ := hr hn; exact ⟨b, o, ha, h1, h2.up (h.lt hn) hb, h.up hb⟩⟩
theorem OwnI.cong (h : OwnI base w v n X) (hx : ∀ i, i < n → X i = X' i) : OwnI base w v n X' := by
  obtain ⟨A, c, hv, hc, hr⟩ := h
  exact ⟨A, c, hv, hc, fun hn => by obtain ⟨b, o, ha, h1, h2, h⟩ := hr hn; exact ⟨b, o, ha, h1, h2, h.cong hx⟩⟩
theorem OwnI.more (h : OwnI base w v n X) {base' : Nat} (hb : base' ≤ base) : OwnI base' w v n X := by
  obtain ⟨A, c, hv, hc, hr⟩ := h
  exact ⟨A, c, hv, hc, fun hn => by obtain ⟨b, o, ha, h1, h2, h⟩ := hr hn; exact ⟨b, o, ha, by omega, h2, h⟩⟩
theorem OwnI.nil : OwnI base w (.slice none 0 0) 0 X := ⟨_, _, rfl, Nat.le_refl _, fun h => absurd h (by omega)⟩
end
/-- Returned: n numbers in new memory (and a Bool); nothing that was there has turned. -/
def AnsI (w : World) (n : Nat) (X : Nat → Int) (e : Ending) (w' : World) : Prop := ∃ v, e = .returned v ∧ OwnI w.heap.size w' v n X ∧ Below w.heap.size w w'
def AnsIB (w : World) (n : Nat) (X : Nat → Int) (q : Bool) (e : Ending) (w' : World) : Prop := ∃ v, e = .returned (.tuple #[v, .bool q]) ∧ OwnI w.heap.size w' v n X ∧ Below w.heap.size w w'
theorem AnsIB.nil {w w' : World} {X : Nat → Int} (hb : Below w.heap.size w w') : AnsIB w 0 X false (.returned (.tuple #[.slice none 0 0, .bool false])) w' := ⟨_, rfl, OwnI.nil, hb⟩

theorem info_int : (Tryz.prog.info? 3).map (fun i => (i.zero, i.size, i.bytes)) = some (some (.int .i64 0), 1, 8) := by kernel_rfl
theorem row1_made (w : World) (t : TypeId) (n : Nat) : Row1 (w.alloc (.cells (madeCells #[.int .i64 0] n) t)) w.heap.size 0 n (fun _ => 0) := fun i hi => by
  have hh : ∀ o, (w.alloc (.cells (madeCells #[.int .i64 0] n) t)).cell? ⟨w.heap.size, o, none⟩ = (madeCells #[.int .i64 0] n)[o]? := fun o => by
    unfold World.cell?; rw [heap_alloc_new]; rfl
  rw [hh, madeCells, Array.getElem?_map, Array.getElem?_range, if_pos (by omega)]
  simp [Nat.mod_one]

end Go.Proofs.YtbfhfjpfjkdcfaaGreatDoor
namespace Go.Proofs.YtbfhfjpfjkdcfaaGreatDoor
open Go.RowKit

/-- The cells of n spots. -/
def cells2 (X Y : Nat → Int) (n : Nat) : List Value := (List.range n).flatMap fun i => [.int .i64 (X i), .int .i64 (Y i)]
set_option maxRecDepth 100000 in
theorem cells2_succ (X Y : Nat → Int) (n : Nat) : cells2 X Y (n + 1) = cells2 X Y n ++ [.int .i64 (X n), .int .i64 (Y n)] := by simp [cells2, List.range_succ]
set_option maxRecDepth 100000 in
theorem cells2_len (X Y : Nat → Int) (n : Nat) : (cells2 X Y n).length = n * 2 := by
  induction n with
  | zero => rfl
  | succ n ih => rw [cells2_succ, List.length_append, ih]; simp; omega
set_option maxRecDepth 100000 in
theorem cells2_get (X Y : Nat → Int) (n i : Nat) (h : i < n) : (cells2 X Y n)[i * 2]? = some (.int .i64 (X i)) ∧ (cells2 X Y n)[i * 2 + 1]? = some (.int .i64 (Y i)) := by
  induction n with
  | zero => omega
  | succ n ih =>
    rw [cells2_succ]
    by_cases e : i = n
    · subst e
      rw [List.getElem?_append_right (by rw [cells2_len]; omega), List.getElem?_append_right (by rw [cells2_len]; omega), cells2_len]
      rw [show i * 2 - i * 2 = 0 by omega, show i * 2 + 1 - i * 2 = 1 by omega]
      exact ⟨rfl, rfl⟩
    · rw [List.getElem?_append_left (by rw [cells2_len]; omega), List.getElem?_append_left (by rw [cells2_len]; omega)]
      exact ih (by omega)
set_option maxRecDepth 100000 in
theorem cells2_cong {X Y X' Y' : Nat → Int} {n : Nat} (hx : ∀ i, i < n → X i = X' i) (hy : ∀ i, i < n → Y i = Y' i) : cells2 X Y n = cells2 X' Y' n := by
  induction n with
  | zero => rfl
  | succ n ih => rw [cells2_succ, cells2_succ, ih (fun i hi => hx i (by omega)) (fun i hi => hy i (by omega)), hx n (by omega), hy n (by omega)]
set_option maxRecDepth 100000 in
theorem cells2_one (X Y : Nat → Int) (n : Nat) : ∀ u ∈ cells2 X Y n, u.oneCell' = true := by
  intro u hu
  obtain ⟨i, _, hi⟩ := List.mem_flatMap.1 hu
  simp only [List.mem_cons, List.not_mem_nil, or_false] at hi
  rcases hi with rfl | rfl <;> rfl

/-- The slice value v is one of the call's own, with n spots, from block base on. -/
def OwnR (base : Nat) (w : World) (v : Value) (n : Nat) (X Y : Nat → Int) : Prop := w.ownsRow base 42 2 v n (cells2 X Y n)

set_option maxRecDepth 100000 in
theorem OwnR.ownS {base : Nat} {w : World} {v : Value} {n : Nat} {X Y : Nat → Int} (h : OwnR base w v n X Y) : OwnS base w v n X Y := by
  have h0 := h
  rcases h.2 with ⟨rfl, rfl⟩ | ⟨g, cap, cur, rfl, hb, hg, hnc, _⟩
  · exact ⟨_, _, rfl, Nat.le_refl _, fun hn => absurd hn (by omega)⟩
  · refine ⟨_, _, rfl, hnc, fun hn => ⟨g, 0, rfl, hb, fun o => World.ownsRow.frozenAt h0 o, fun i hi => ?_⟩⟩
    rw [Nat.zero_add, World.ownsRow.cellAt h0 _ (by omega), World.ownsRow.cellAt h0 _ (by omega)]
    exact cells2_get X Y n i hi

set_option maxRecDepth 100000 in
theorem OwnR.up {base : Nat} {w w' : World} {v : Value} {n : Nat} {X Y : Nat → Int} (h : OwnR base w v n X Y) (hb : Below w.heap.size w w') : OwnR base w' v n X Y :=
  World.ownsRow.kept (row := none) h ⟨hb.os, hb.tape, hb.output, hb.size, fun k hk _ => hb.block k hk⟩ (by cases v.ownBlock <;> simp)
set_option maxRecDepth 100000 in
theorem OwnR.nil (base : Nat) (w : World) (X Y : Nat → Int) : OwnR base w (.slice none 0 0) 0 X Y := World.ownsRow_nil _ _ _ _
set_option maxRecDepth 100000 in
theorem OwnR.empty {base : Nat} {w : World} (hb : base ≤ w.heap.size) (X Y : Nat → Int) : OwnR base (w.alloc (.cells #[] 42)) (.slice (some ⟨w.heap.size, 0, none⟩) 0 0) 0 X Y :=
  World.ownsRow_made w #[] 0 hb (by unfold maxLen; omega) rfl

set_option maxRecDepth 100000 in
theorem info_spotA : (Tryz.prog.info? 42).map (fun i => (i.zero, i.size, i.bytes)) = some (some (.agg #[.int .i64 0, .int .i64 0]), 2, 16) := by kernel_rfl

set_option maxRecDepth 100000 in
/-- 'out = append(out, Spot{x, y})': the one-element slice has just been laid. -/
theorem wpList_app_spot {ops : Array Oper} {rest : List Oper} {o : Oper} {a : Act} {Q : Exit → Act → World → Prop} {w : World} (hgd : o.guard = none) (s x : Operand)
    (ho : o.op = .call { callee := .builtin .append, args := #[s, x], argTypes := #[24, 24] })
    (base : Nat) (v : Value) (n : Nat) (X Y : Nat → Int) {g : Nat} (hs : a.eval s = v) (hx : a.eval x = .slice (some ⟨g, 0, none⟩) 1 1) (hg : g = w.heap.size) (hown : OwnR base w v n X Y) (hbase : base ≤ w.heap.size) (hn : n ≤ 1048576)
    (h : ∀ v' w', OwnR base w' v' (n + 1) X Y → Below base w w' → wpList Tryz.prog ops Q rest (a.put o.dst v') w') :
    wpList Tryz.prog ops Q (o :: rest) a (w.alloc (.cells #[.int .i64 (X n), .int .i64 (Y n)] 42)) := by
  subst hg
  obtain ⟨i0, hi0, hz0, hz1, hz2⟩ := info_parts info_spotA
  refine wpList_append_own _ hgd s x _ ho base 42 i0 _ 2 16 Tryz.underlying24 hi0 hz0 hz1 hz2 rfl (by omega) v n _ hs (World.ownsRow.alloc hown _) ⟨w.heap.size, 0, none⟩ 1 1 [.int .i64 (X n), .int .i64 (Y n)] hx rfl ?_ ?_ (by unfold maxLen; omega) (by omega) (by simp; omega) ?_
  · intro j u hu
    match j, hu with
    | 0, hu => simp only [List.getElem?_cons_zero, Option.some.injEq] at hu; subst hu; exact (cell_new2 w _ _ _).1
    | 1, hu => simp only [List.getElem?_cons_succ, List.getElem?_cons_zero, Option.some.injEq] at hu; subst hu; exact (cell_new2 w _ _ _).2
  · intro u hu
    simp only [List.mem_cons, List.not_mem_nil, or_false] at hu
    rcases hu with rfl | rfl <;> rfl
  · intro v' w' hown' hg _
    refine h v' w' ?_ ?_
    · unfold OwnR; rw [cells2_succ]; exact hown'
    · exact ((below_alloc w _).mono hbase).trans (below_grown hg (by simp; omega) (fun k hk => (World.ownsRow.lt hown k hk).1))

set_option maxRecDepth 100000 in
theorem cells2_cat (n m : Nat) (X Y X' Y' : Nat → Int) : cells2 (cat n X X') (cat n Y Y') (n + m) = cells2 X Y n ++ cells2 X' Y' m := by
  induction m with
  | zero =>
    rw [Nat.add_zero, show cells2 X' Y' 0 = [] from rfl, List.append_nil]
    exact cells2_cong (fun i hi => if_pos hi) (fun i hi => if_pos hi)
  | succ m ih =>
    rw [← Nat.add_assoc, cells2_succ, ih, cells2_succ, List.append_assoc]
    congr 2
    unfold cat
    rw [if_neg (by omega), if_neg (by omega), show n + m - n = m by omega]

set_option maxRecDepth 100000 in

set_option maxRecDepth 100000 in
theorem run_app_all {w : World} (ty : TypeId) (base : Nat) (v x : Value) (n m : Nat) (X Y X' Y' : Nat → Int) (hown : OwnR base w v n X Y) (hx : Spots w x m X' Y') (hbase : base ≤ w.heap.size) (hn : n + m ≤ 1048576) :
    ∃ v' w', (Builtin.append_ #[24, 24] ty #[v, x]).run Tryz.prog w = .ok v' w' ∧ OwnR base w' v' (n + m) (cat n X X') (cat n Y Y') ∧ Below base w w' := by
  obtain ⟨i0, hi0, hz0, hz1, hz2⟩ := info_parts info_spotA
  obtain ⟨A, c, rfl, hmc, hrow⟩ := hx
  have hex : ∀ ad, A = some ad → (∀ j u, (cells2 X' Y' m)[j]? = some u → w.cell? (ad.add j) = some u) →
      ∃ v' w', (Builtin.append_ #[24, 24] ty #[v, .slice A m c]).run Tryz.prog w = .ok v' w' ∧ OwnR base w' v' (n + m) (cat n X X') (cat n Y Y') ∧ Below base w w' := by
    intro ad hA hc
    subst hA
    obtain ⟨v', w', hr, h1, h2, _⟩ := run_append_own_at (P := Tryz.prog) w base 24 ty 42 i0 _ 2 16 Tryz.underlying24 hi0 hz0 hz1 hz2 rfl (by omega) v n _ hown ad m c (cells2 X' Y' m) (cells2_len _ _ _) hc (cells2_one _ _ _) (by unfold maxLen; omega) (by omega) hbase
    exact ⟨v', w', hr, by unfold OwnR; rw [cells2_cat]; exact h1, below_grown h2 hbase (fun k hk => (World.ownsRow.lt hown k hk).1)⟩
  rcases Nat.eq_zero_or_pos m with h0 | h0
  · subst h0
    cases A with
    | some ad => exact hex ad rfl (fun j u hu => by simp [cells2] at hu)
    | none =>
      refine ⟨v, w, ?_, ?_, Below.refl _ _⟩
      · rcases hown.2 with ⟨rfl, rfl⟩ | ⟨g, cap, cur, rfl, _, _, hnc, _⟩
        · simp [Builtin.append_, run_underlying Tryz.underlying24, sizeOf, typeInfo, hi0, Builtin.lenOf, Builtin.firstCells]
        · simp [Builtin.append_, run_underlying Tryz.underlying24, sizeOf, typeInfo, hi0, Builtin.lenOf, Builtin.firstCells, hnc, storeCells]
      · have := cells2_cat n 0 X Y X' Y'
        unfold OwnR
        rw [this, show cells2 X' Y' 0 = [] from rfl, List.append_nil]
        exact hown
  · obtain ⟨b, o, rfl, hr⟩ := hrow h0
    refine hex _ rfl (fun j u hu => ?_)
    have hj : j < m * 2 := by
      rcases Nat.lt_or_ge j (m * 2) with h | h
      · exact h
      · rw [List.getElem?_eq_none (by rw [cells2_len]; exact h)] at hu; cases hu
    rw [add_none]
    have hd := cells2_get X' Y' m (j / 2) (by omega)
    rcases (by omega : j = j / 2 * 2 ∨ j = j / 2 * 2 + 1) with e | e
    · rw [e] at hu ⊢
      rw [hd.1] at hu
      injection hu with hu
      rw [← hu]
      exact (hr _ (by omega)).1
    · rw [e] at hu ⊢
      rw [hd.2] at hu
      injection hu with hu
      rw [← hu, ← Nat.add_assoc]
      exact (hr _ (by omega)).2

set_option maxRecDepth 100000 in
/-- 'append(out, l...)'. -/
theorem wpList_app_all {ops : Array Oper} {rest : List Oper} {o : Oper} {a : Act} {Q : Exit → Act → World → Prop} {w : World} (hgd : o.guard = none) (s x : Operand)
    (ho : o.op = .call { callee := .builtin .append, args := #[s, x], argTypes := #[24, 24] })
    (base : Nat) (v u : Value) (n m : Nat) (X Y X' Y' : Nat → Int) (hs : a.eval s = v) (hx : a.eval x = u) (hown : OwnR base w v n X Y) (hsp : Spots w u m X' Y') (hbase : base ≤ w.heap.size) (hn : n + m ≤ 1048576)
    (h : ∀ v' w', OwnR base w' v' (n + m) (cat n X X') (cat n Y Y') → Below base w w' → wpList Tryz.prog ops Q rest (a.put o.dst v') w') : wpList Tryz.prog ops Q (o :: rest) a w := by
  obtain ⟨v', w', hr, h1, h2⟩ := run_app_all (w := w) o.type base v u n m X Y X' Y' hown hsp hbase hn
  refine wpList_plain hgd fun _ hK => ?_
  unfold Oper.wp execOp
  simp only [ho, resolve, invoke, builtin, Sem.run_bind, Sem.run_pure, Result.andThen_ok, List.map_toArray, List.map_cons, List.map_nil, hs, hx, hr]
  exact hK _ _ (h v' w' h1 h2)
set_option maxRecDepth 100000 in
/-- 'append([]Spot{}, l...)'. -/
theorem wpList_app_copy {ops : Array Oper} {rest : List Oper} {o : Oper} {a : Act} {Q : Exit → Act → World → Prop} {w : World} (hgd : o.guard = none) (s x : Operand)
    (ho : o.op = .call { callee := .builtin .append, args := #[s, x], argTypes := #[24, 24] })
    (base : Nat) (v u : Value) (m : Nat) (X' Y' : Nat → Int) (hs : a.eval s = v) (hx : a.eval x = u) (hown : OwnR base w v 0 X' Y') (hsp : Spots w u m X' Y') (hbase : base ≤ w.heap.size) (hn : m ≤ 1048576)
    (h : ∀ v' w', OwnR base w' v' m X' Y' → Below base w w' → wpList Tryz.prog ops Q rest (a.put o.dst v') w') : wpList Tryz.prog ops Q (o :: rest) a w := by
  refine wpList_app_all hgd s x ho base v u 0 m X' Y' X' Y' hs hx hown hsp hbase (by omega) (fun v' w' h1 h2 => h v' w' ?_ h2)
  rw [Nat.zero_add] at h1
  unfold OwnR at h1 ⊢
  rwa [cells2_cong (X' := X') (Y' := Y') (fun i hi => by unfold cat; rw [if_neg (by omega)]; rfl) (fun i hi => by unfold cat; rw [if_neg (by omega)]; rfl)] at h1

end Go.Proofs.YtbfhfjpfjkdcfaaGreatDoor
namespace Go.Proofs.YtbfhfjpfjkdcfaaGreatDoor
open Go.RowKit

set_option maxRecDepth 100000 in
theorem below_oldI {base : Nat} {w w' : World} {v : Value} {n : Nat} {X : Nat → Int} (hv : OwnI base w v n X) (hg : w.grownBy w' (if n = 0 then none else v.ownBlock)) (hb : base ≤ w.heap.size) : Below base w w' := by
  refine (Below.refl base w).grown hg hb (fun k hk => ?_)
  obtain ⟨A, c, rfl, hc, hr⟩ := hv
  split at hk
  · cases hk
  · obtain ⟨b, o, rfl, h1, _⟩ := hr (by omega)
    simp [Value.ownBlock] at hk
    omega
set_option maxRecDepth 100000 in
theorem OwnI.young {base : Nat} {wx w w' : World} {u v : Value} {n m : Nat} {X Y X' : Nat → Int} (hu : OwnI base w u m X') (hx : Spots wx v n X Y) (hb : wx.heap.size ≤ base) (hg : w.grownBy w' (if n = 0 then none else v.ownBlock)) : OwnI base w' u m X' := by
  obtain ⟨A, c, rfl, hc, hr⟩ := hu
  refine ⟨A, c, rfl, hc, fun hm => ?_⟩
  obtain ⟨b, o, rfl, h1, h2, h3⟩ := hr hm
  have hne : (if n = 0 then none else v.ownBlock) ≠ some b := by
    obtain ⟨A', c', rfl, hc', hr'⟩ := hx
    split
    · simp
    · obtain ⟨b', o', rfl, h'⟩ := hr' (by omega)
      have := h'.lt (by omega)
      simp [Value.ownBlock]
      omega
  exact ⟨b, o, rfl, h1, h2.only (h3.lt hm) hg hne, h3.only hg hne⟩
set_option maxRecDepth 100000 in
theorem OwnI.youngI {base : Nat} {wx w w' : World} {u v : Value} {n m : Nat} {X X' : Nat → Int} (hu : OwnI base w u m X') (hx : Ints wx v n X) (hb : wx.heap.size ≤ base) (hg : w.grownBy w' (if n = 0 then none else v.ownBlock)) : OwnI base w' u m X' := by
  obtain ⟨A, c, rfl, hc, hr⟩ := hu
  refine ⟨A, c, rfl, hc, fun hm => ?_⟩
  obtain ⟨b, o, rfl, h1, h2, h3⟩ := hr hm
  have hne : (if n = 0 then none else v.ownBlock) ≠ some b := by
    obtain ⟨A', c', rfl, hc', hr'⟩ := hx
    split
    · simp
    · obtain ⟨b', o', rfl, h'⟩ := hr' (by omega)
      have := h'.lt (by omega)
      simp [Value.ownBlock]
      omega
  exact ⟨b, o, rfl, h1, h2.only (h3.lt hm) hg hne, h3.only hg hne⟩
set_option maxRecDepth 100000 in
theorem Ints.old {wb w w' : World} {u : Value} {m : Nat} {X X' : Nat → Int} (h0 : Ints wb u m X) (h : Ints w u m X') (hB : Below wb.heap.size w w') : Ints w' u m X' := by
  obtain ⟨A, c, rfl, hc, hr⟩ := h
  refine ⟨A, c, rfl, hc, fun hm => ?_⟩
  obtain ⟨b, o, rfl, h1⟩ := hr hm
  obtain ⟨A', c', he, _, hr0⟩ := h0
  obtain ⟨b', o', hA', h2⟩ := hr0 hm
  injection he with e1 e2 e3
  have hb : b < wb.heap.size := by
    have e4 := e1.trans hA'
    injection e4 with e5
    injection e5 with e6
    rw [e6]; exact h2.lt hm
  refine ⟨b, o, rfl, fun i hi => ?_⟩
  rw [hB.cell (p := ⟨b, _, none⟩) hb]
  exact h1 i hi
/-- Marked: v reads as the numbers from k0 on; nothing but v's own memory has turned. -/
def MarkAnsI (base : Nat) (v : Value) (n : Nat) (k0 : Int) (w : World) (e : Ending) (w' : World) : Prop :=
  e = .returned (.int .i64 (k0 + n)) ∧ w.grownBy w' (if n = 0 then none else v.ownBlock) ∧ OwnI base w' v n (fun i => k0 + i)
/-- The slice value v is one of the call's own, with the numbers of l, from block base on. -/
def OwnL (base : Nat) (w : World) (v : Value) (l : List Int) : Prop := w.ownsRow base 3 1 v l.length (l.map (.int .i64))
set_option maxRecDepth 100000 in
theorem OwnL.ownI {base : Nat} {w : World} {v : Value} {l : List Int} (h : OwnL base w v l) : OwnI base w v l.length (fun i => l.getD i 0) := by
  have h0 := h
  rcases h.2 with ⟨rfl, hl⟩ | ⟨g, cap, cur, rfl, hb, hg, hnc, _⟩
  · exact ⟨none, 0, by rw [hl], by omega, fun hn => absurd hn (by omega)⟩
  · refine ⟨_, _, rfl, hnc, fun hn => ⟨g, 0, rfl, hb, fun o => World.ownsRow.frozenAt h0 o, fun i hi => ?_⟩⟩
    rw [Nat.zero_add, World.ownsRow.cellAt h0 _ (by omega)]
    simp [List.getD_eq_getElem?_getD, hi]
set_option maxRecDepth 100000 in
theorem OwnL.up {base : Nat} {w w' : World} {v : Value} {l : List Int} (h : OwnL base w v l) (hb : Below w.heap.size w w') : OwnL base w' v l :=
  World.ownsRow.kept (row := none) h ⟨hb.os, hb.tape, hb.output, hb.size, fun k hk _ => hb.block k hk⟩ (by cases v.ownBlock <;> simp)
set_option maxRecDepth 100000 in
theorem OwnL.nil (base : Nat) (w : World) : OwnL base w (.slice none 0 0) [] := World.ownsRow_nil _ _ _ _
set_option maxRecDepth 100000 in
theorem OwnL.empty {base : Nat} {w : World} (hb : base ≤ w.heap.size) : OwnL base (w.alloc (.cells #[] 3)) (.slice (some ⟨w.heap.size, 0, none⟩) 0 0) [] :=
  World.ownsRow_made w #[] 0 hb (by unfold maxLen; omega) rfl
set_option maxRecDepth 100000 in
theorem info_intA : (Tryz.prog.info? 3).map (fun i => (i.zero, i.size, i.bytes)) = some (some (.int .i64 0), 1, 8) := by kernel_rfl
set_option maxRecDepth 100000 in
/-- 'out = append(out, x)'. -/
theorem wpList_app_int {ops : Array Oper} {rest : List Oper} {o : Oper} {a : Act} {Q : Exit → Act → World → Prop} {w : World} (hgd : o.guard = none) (s x : Operand)
    (ho : o.op = .call { callee := .builtin .append, args := #[s, x], argTypes := #[30, 30] })
    (base : Nat) (v : Value) (l : List Int) {g : Nat} (hs : a.eval s = v) (hx : a.eval x = .slice (some ⟨g, 0, none⟩) 1 1) (hg : g = w.heap.size) (hown : OwnL base w v l) (hbase : base ≤ w.heap.size) (hn : l.length ≤ 1048576) {p : Int}
    (h : ∀ v' w', OwnL base w' v' (l ++ [p]) → Below base w w' → wpList Tryz.prog ops Q rest (a.put o.dst v') w') :
    wpList Tryz.prog ops Q (o :: rest) a (w.alloc (.cells #[.int .i64 p] 3)) := by
  subst hg
  obtain ⟨i0, hi0, hz0, hz1, hz2⟩ := info_parts info_intA
  refine wpList_append_own _ hgd s x _ ho base 3 i0 _ 1 8 Tryz.underlying30 hi0 hz0 hz1 hz2 rfl (by omega) v l.length _ hs (World.ownsRow.alloc hown _) ⟨w.heap.size, 0, none⟩ 1 1 [.int .i64 p] hx rfl ?_ ?_ (by unfold maxLen; omega) (by omega) (by simp; omega) ?_
  · intro j u hu
    match j, hu with
    | 0, hu => simp only [List.getElem?_cons_zero, Option.some.injEq] at hu; subst hu; rw [add_none]; simp [go_sem]
  · intro u hu
    simp only [List.mem_cons, List.not_mem_nil, or_false] at hu
    rcases hu with rfl; rfl
  · intro v' w' hown' hg _
    refine h v' w' ?_ ?_
    · unfold OwnL; rw [List.length_append, List.map_append]; exact hown'
    · exact ((below_alloc w _).mono hbase).trans (below_grown hg (by simp; omega) (fun k hk => (World.ownsRow.lt hown k hk).1))
end Go.Proofs.YtbfhfjpfjkdcfaaGreatDoor
namespace Go.Proofs.YtbfhfjpfjkdcfaaGreatDoor
open Go.RowKit

/-- From w to w' only blocks from lo to below hi have turned; new ones may have come. -/
structure Turned (lo hi : Nat) (w w' : World) : Prop where
  os : w'.os = w.os
  tape : w'.tape = w.tape
  output : w'.output = w.output
  size : w.heap.size ≤ w'.heap.size
  block : ∀ k, k < w.heap.size → (k < lo ∨ hi ≤ k) → w'.heap[k]? = w.heap[k]?
section
variable {lo hi : Nat} {w w' w'' : World}
theorem Turned.refl (lo hi : Nat) (w : World) : Turned lo hi w w := ⟨rfl, rfl, rfl, Nat.le_refl _, fun _ _ _ => rfl⟩
theorem Turned.trans (h : Turned lo hi w w') (h' : Turned lo hi w' w'') : Turned lo hi w w'' :=
  ⟨h'.os.trans h.os, h'.tape.trans h.tape, h'.output.trans h.output, Nat.le_trans h.size h'.size, fun k hk hr => (h'.block k (Nat.lt_of_lt_of_le hk h.size) hr).trans (h.block k hk hr)⟩
theorem Turned.of_below (h : Below w.heap.size w w') : Turned lo hi w w' := ⟨h.os, h.tape, h.output, h.size, fun k hk _ => h.block k hk⟩
theorem Turned.below (h : Turned lo hi w w') (hl : lo ≤ w.heap.size) : Below lo w w' := ⟨h.os, h.tape, h.output, h.size, fun k hk => h.block k (by omega) (.inl hk)⟩
theorem Turned.more (h : Turned lo hi w w') {lo' hi' : Nat} (h1 : lo' ≤ lo) (h2 : hi ≤ hi') : Turned lo' hi' w w' := ⟨h.os, h.tape, h.output, h.size, fun k hk hr => h.block k hk (by omega)⟩
theorem Turned.of_grown {row : Option Nat} (h : w.grownBy w' row) (hr : ∀ k, row = some k → lo ≤ k ∧ k < hi) : Turned lo hi w w' :=
  ⟨h.os, h.tape, h.output, h.size, fun k hk hk' => h.block k hk (fun e => by have := hr k e.symm; omega)⟩
theorem Turned.cell (h : Turned lo hi w w') {b o : Nat} {v : Value} (hc : w.cell? ⟨b, o, none⟩ = some v) (hb : b < lo ∨ hi ≤ b) : w'.cell? ⟨b, o, none⟩ = some v :=
  (World.cell?_of_block (a := ⟨b, o, none⟩) (h.block b (lt_of_cell hc) hb)).trans hc
theorem Turned.frozen (h : Turned lo hi w w') {b o : Nat} (hlt : b < w.heap.size) (hb : b < lo ∨ hi ≤ b) : w'.frozen? ⟨b, o, none⟩ = w.frozen? ⟨b, o, none⟩ :=
  World.frozen?_of_block (a := ⟨b, o, none⟩) (h.block b hlt hb)
theorem Turned.free (h : Turned lo hi w w') {b : Nat} (hf : Free w b) (hlt : b < w.heap.size) (hb : b < lo ∨ hi ≤ b) : Free w' b := fun o => (h.frozen hlt hb).trans (hf o)
end
section
variable {lo hi base : Nat} {w w' : World} {v : Value} {n : Nat} {X Y : Nat → Int}
theorem Row2.turn {b o : Nat} (h : Row2 w b o n X Y) (ht : Turned lo hi w w') (hb : b < lo ∨ hi ≤ b) : Row2 w' b o n X Y := fun i hi => ⟨ht.cell (h i hi).1 hb, ht.cell (h i hi).2 hb⟩
theorem Row1.turn {b o : Nat} (h : Row1 w b o n X) (ht : Turned lo hi w w') (hb : b < lo ∨ hi ≤ b) : Row1 w' b o n X := fun i hi => ht.cell (h i hi) hb
theorem OwnS.turn (h : OwnS base w v n X Y) (ht : Turned lo hi w w') (hb : hi ≤ base) : OwnS base w' v n X Y := by
  obtain ⟨A, c, hv, hc, hr⟩ := h
  exact ⟨A, c, hv, hc, fun hn => by obtain ⟨b, o, ha, h1, h2, h⟩ := hr hn; exact ⟨b, o, ha, h1, ht.free h2 (h.lt hn) (by omega), h.turn ht (by omega)⟩⟩
theorem OwnI.turn (h : OwnI base w v n X) (ht : Turned lo hi w w') (hb : hi ≤ base) : OwnI base w' v n X := by
  obtain ⟨A, c, hv, hc, hr⟩ := h
  exact ⟨A, c, hv, hc, fun hn => by obtain ⟨b, o, ha, h1, h2, h⟩ := hr hn; exact ⟨b, o, ha, h1, ht.free h2 (h.lt hn) (by omega), h.turn ht (by omega)⟩⟩
/-- A slice of its own that is marked: only blocks of its own time turn. -/
theorem markS_turned {wx : World} {X' Y' : Nat → Int} (hv : OwnS base w v n X Y) (hx : Spots wx v n X' Y') (hg : w.grownBy w' (if n = 0 then none else v.ownBlock)) : Turned base wx.heap.size w w' := by
  refine Turned.of_grown hg (fun k hk => ?_)
  split at hk
  · cases hk
  · rename_i hn0
    have hpos : 0 < n := Nat.pos_of_ne_zero hn0
    obtain ⟨A, c, rfl, hc, hr⟩ := hv
    obtain ⟨b, o, rfl, h1, _⟩ := hr hpos
    obtain ⟨A', c', e, hc', hr'⟩ := hx
    obtain ⟨b', o', e', h2⟩ := hr' hpos
    have := h2.lt hpos
    cases e
    cases e'
    simp [Value.ownBlock] at hk
    omega
theorem markI_turned {wx : World} {X' : Nat → Int} (hv : OwnI base w v n X) (hx : Ints wx v n X') (hg : w.grownBy w' (if n = 0 then none else v.ownBlock)) : Turned base wx.heap.size w w' := by
  refine Turned.of_grown hg (fun k hk => ?_)
  split at hk
  · cases hk
  · rename_i hn0
    have hpos : 0 < n := Nat.pos_of_ne_zero hn0
    obtain ⟨A, c, rfl, hc, hr⟩ := hv
    obtain ⟨b, o, rfl, h1, _⟩ := hr hpos
    obtain ⟨A', c', e, hc', hr'⟩ := hx
    obtain ⟨b', o', e', h2⟩ := hr' hpos
    have := h2.lt hpos
    cases e
    cases e'
    simp [Value.ownBlock] at hk
    omega
/-- What was there in the world wb reads as before. -/
theorem Spots.turn {wb : World} {X' Y' : Nat → Int} (h0 : Spots wb v n X' Y') (h : Spots w v n X Y) (ht : Turned lo hi w w') (hl : lo ≤ w.heap.size) (hb : wb.heap.size ≤ lo) : Spots w' v n X Y := Spots.old h0 h ((ht.below hl).mono hb)
theorem Ints.turn {wb : World} {X' : Nat → Int} (h0 : Ints wb v n X') (h : Ints w v n X) (ht : Turned lo hi w w') (hl : lo ≤ w.heap.size) (hb : wb.heap.size ≤ lo) : Ints w' v n X := Ints.old h0 h ((ht.below hl).mono hb)
end
end Go.Proofs.YtbfhfjpfjkdcfaaGreatDoor
namespace Go.Proofs.YtbfhfjpfjkdcfaaGreatDoor
open Go.RowKit Go.ChangeShapes Go.WideShapes Go.Sort

/-- What a transition reads as. -/
structure TrD where
  n : Nat
  m : Nat
  l : Nat
  X : Nat → Int
  Y : Nat → Int
  U : Nat → Int
  V : Nat → Int
  P : Nat → Int
  c : Int
def Trn (w : World) (v : Value) (d : TrD) : Prop := ∃ f t p, v = .agg #[f, t, .int .i64 d.c, p] ∧ Spots w f d.n d.X d.Y ∧ Spots w t d.m d.U d.V ∧ Ints w p d.l d.P
theorem Trn.up {w w' : World} {v : Value} {d : TrD} (h : Trn w v d) (hb : Below w.heap.size w w') : Trn w' v d := by
  obtain ⟨f, t, p, e, h1, h2, h3⟩ := h
  exact ⟨f, t, p, e, h1.up hb, h2.up hb, h3.up hb⟩
/-- .. in memory of its own, each slice in a block of its own. -/
def OwnT (base : Nat) (w : World) (v : Value) (d : TrD) : Prop := ∃ f t p, v = .agg #[f, t, .int .i64 d.c, p] ∧ OwnS base w f d.n d.X d.Y ∧ OwnS base w t d.m d.U d.V ∧ OwnI base w p d.l d.P ∧
  (0 < d.n → 0 < d.m → f.ownBlock ≠ t.ownBlock) ∧ (0 < d.n → 0 < d.l → f.ownBlock ≠ p.ownBlock) ∧ (0 < d.m → 0 < d.l → t.ownBlock ≠ p.ownBlock)
section
variable {base lo hi : Nat} {w w' : World} {v : Value} {d : TrD}
theorem OwnT.trn (h : OwnT base w v d) : Trn w v d := by
  obtain ⟨f, t, p, e, h1, h2, h3, _⟩ := h
  exact ⟨f, t, p, e, h1.spots, h2.spots, h3.ints⟩
theorem OwnT.up (h : OwnT base w v d) (hb : Below w.heap.size w w') : OwnT base w' v d := by
  obtain ⟨f, t, p, e, h1, h2, h3, h4⟩ := h
  exact ⟨f, t, p, e, h1.up hb, h2.up hb, h3.up hb, h4⟩
theorem OwnT.more (h : OwnT base w v d) {base' : Nat} (hb : base' ≤ base) : OwnT base' w v d := by
  obtain ⟨f, t, p, e, h1, h2, h3, h4⟩ := h
  exact ⟨f, t, p, e, h1.more hb, h2.more hb, h3.more hb, h4⟩
theorem OwnT.turn (h : OwnT base w v d) (ht : Turned lo hi w w') (hb : hi ≤ base) : OwnT base w' v d := by
  obtain ⟨f, t, p, e, h1, h2, h3, h4⟩ := h
  exact ⟨f, t, p, e, h1.turn ht hb, h2.turn ht hb, h3.turn ht hb, h4⟩
theorem Trn.turn {wb : World} {d0 : TrD} (h0 : Trn wb v d0) (hn : d0.n = d.n) (hm : d0.m = d.m) (hl : d0.l = d.l) (h : Trn w v d) (ht : Turned lo hi w w') (h1 : lo ≤ w.heap.size) (hb : wb.heap.size ≤ lo) : Trn w' v d := by
  obtain ⟨f, t, p, e, g1, g2, g3⟩ := h
  obtain ⟨f', t', p', e', k1, k2, k3⟩ := h0
  rw [e] at e'
  simp only [Value.agg.injEq, Array.mk.injEq, List.cons.injEq, and_true] at e'
  obtain ⟨rfl, rfl, _, rfl⟩ := e'
  rw [hn] at k1
  rw [hm] at k2
  rw [hl] at k3
  exact ⟨f, t, p, e, Spots.turn k1 g1 ht h1 hb, Spots.turn k2 g2 ht h1 hb, Ints.turn k3 g3 ht h1 hb⟩
end
theorem own_neS {base : Nat} {w1 w : World} {f t : Value} {n m : Nat} {X Y U V : Nat → Int} (hf : Spots w1 f n X Y) (ht : OwnS base w t m U V) (hb : w1.heap.size ≤ base) : 0 < n → 0 < m → f.ownBlock ≠ t.ownBlock := by
  intro hn hm
  obtain ⟨A, c, rfl, _, hr⟩ := hf
  obtain ⟨b, o, rfl, h1⟩ := hr hn
  obtain ⟨A', c', rfl, _, hr'⟩ := ht
  obtain ⟨b', o', rfl, h2, _⟩ := hr' hm
  have := h1.lt hn
  simp [Value.ownBlock]
  omega
theorem own_neI {base : Nat} {w1 w : World} {f t : Value} {n m : Nat} {X Y P : Nat → Int} (hf : Spots w1 f n X Y) (ht : OwnI base w t m P) (hb : w1.heap.size ≤ base) : 0 < n → 0 < m → f.ownBlock ≠ t.ownBlock := by
  intro hn hm
  obtain ⟨A, c, rfl, _, hr⟩ := hf
  obtain ⟨b, o, rfl, h1⟩ := hr hn
  obtain ⟨A', c', rfl, _, hr'⟩ := ht
  obtain ⟨b', o', rfl, h2, _⟩ := hr' hm
  have := h1.lt hn
  simp [Value.ownBlock]
  omega
theorem OwnS.shape {base : Nat} {w : World} {v : Value} {n : Nat} {X Y : Nat → Int} (h : OwnS base w v n X Y) : ∃ A c, v = .slice A n c ∧ n ≤ c := by
  obtain ⟨A, c, e, hc, _⟩ := h
  exact ⟨A, c, e, hc⟩
theorem OwnI.shape {base : Nat} {w : World} {v : Value} {n : Nat} {X : Nat → Int} (h : OwnI base w v n X) : ∃ A c, v = .slice A n c ∧ n ≤ c := by
  obtain ⟨A, c, e, hc, _⟩ := h
  exact ⟨A, c, e, hc⟩
theorem Spots.shape {w : World} {v : Value} {n : Nat} {X Y : Nat → Int} (h : Spots w v n X Y) : ∃ A c, v = .slice A n c ∧ n ≤ c := by
  obtain ⟨A, c, e, hc, _⟩ := h
  exact ⟨A, c, e, hc⟩
theorem Ints.shape {w : World} {v : Value} {n : Nat} {X : Nat → Int} (h : Ints w v n X) : ∃ A c, v = .slice A n c ∧ n ≤ c := by
  obtain ⟨A, c, e, hc, _⟩ := h
  exact ⟨A, c, e, hc⟩
/-- Returned: a transition in new memory (and a Bool); nothing that was there has turned. -/
def AnsT (w : World) (d : TrD) (e : Ending) (w' : World) : Prop := ∃ v, e = .returned v ∧ OwnT w.heap.size w' v d ∧ Below w.heap.size w w'
def AnsTB (w : World) (d : TrD) (q : Bool) (e : Ending) (w' : World) : Prop := ∃ v, e = .returned (.tuple #[v, .bool q]) ∧ OwnT w.heap.size w' v d ∧ Below w.heap.size w w'
def TrD.zero : TrD := ⟨0, 0, 0, fun _ => 0, fun _ => 0, fun _ => 0, fun _ => 0, fun _ => 0, 0⟩
theorem OwnT.zero {base : Nat} {w : World} : OwnT base w (.agg #[.slice none 0 0, .slice none 0 0, .int .i64 0, .slice none 0 0]) TrD.zero :=
  ⟨_, _, _, rfl, ⟨_, _, rfl, Nat.le_refl _, fun h => absurd h (by simp [TrD.zero])⟩, ⟨_, _, rfl, Nat.le_refl _, fun h => absurd h (by simp [TrD.zero])⟩, ⟨_, _, rfl, Nat.le_refl _, fun h => absurd h (by simp [TrD.zero])⟩,
    fun h => absurd h (by simp [TrD.zero]), fun h => absurd h (by simp [TrD.zero]), fun h => absurd h (by simp [TrD.zero])⟩
theorem Turned.set {lo hi : Nat} {w : World} {b o : Nat} (h1 : lo ≤ b) (h2 : b < hi) (v : Value) : Turned lo hi w (w.setCell ⟨b, o, none⟩ v) :=
  ⟨rfl, rfl, rfl, by rw [size_set]; exact Nat.le_refl _, fun k hk hr => Below.heap_setCell w ⟨b, o, none⟩ v k (fun e => by simp at e; omega)⟩
/-- A transition with the marks from k0 on. -/
def TrD.mark (d : TrD) (k0 : Int) : TrD := { d with X := fun i => k0 + 2 * i, Y := fun i => k0 + 2 * i + 1, U := fun i => k0 + 2 * d.n + 2 * i, V := fun i => k0 + 2 * d.n + 2 * i + 1, P := fun i => k0 + 2 * d.n + 2 * d.m + i }
def MarkAnsT (base : Nat) (v : Value) (d : TrD) (k0 : Int) (w : World) (e : Ending) (w' : World) : Prop :=
  e = .returned (.int .i64 (k0 + 2 * d.n + 2 * d.m + d.l)) ∧ OwnT base w' v (d.mark k0) ∧ ∀ wx dx, Trn wx v dx → dx.n = d.n → dx.m = d.m → dx.l = d.l → Turned base wx.heap.size w w'
theorem OwnS.only {base : Nat} {w w' : World} {t : Value} {m : Nat} {U V : Nat → Int} {row : Option Nat} (h : OwnS base w t m U V) (hg : w.grownBy w' row) (hr : 0 < m → row ≠ t.ownBlock) : OwnS base w' t m U V := by
  obtain ⟨A, c, rfl, hc, hrow⟩ := h
  refine ⟨A, c, rfl, hc, fun hm => ?_⟩
  obtain ⟨b, o, rfl, h1, h2, h3⟩ := hrow hm
  have := hr hm
  exact ⟨b, o, rfl, h1, h2.only (h3.lt hm) hg this, h3.only hg this⟩
theorem OwnI.only {base : Nat} {w w' : World} {t : Value} {m : Nat} {U : Nat → Int} {row : Option Nat} (h : OwnI base w t m U) (hg : w.grownBy w' row) (hr : 0 < m → row ≠ t.ownBlock) : OwnI base w' t m U := by
  obtain ⟨A, c, rfl, hc, hrow⟩ := h
  refine ⟨A, c, rfl, hc, fun hm => ?_⟩
  obtain ⟨b, o, rfl, h1, h2, h3⟩ := hrow hm
  have := hr hm
  exact ⟨b, o, rfl, h1, h2.only (h3.lt hm) hg this, h3.only hg this⟩
theorem own_someS {base : Nat} {w : World} {t : Value} {m : Nat} {U V : Nat → Int} (h : OwnS base w t m U V) (hm : 0 < m) : t.ownBlock ≠ none := by
  obtain ⟨A, c, rfl, hc, hrow⟩ := h
  obtain ⟨b, o, rfl, _⟩ := hrow hm
  simp [Value.ownBlock]
theorem own_someI {base : Nat} {w : World} {t : Value} {m : Nat} {U : Nat → Int} (h : OwnI base w t m U) (hm : 0 < m) : t.ownBlock ≠ none := by
  obtain ⟨A, c, rfl, hc, hrow⟩ := h
  obtain ⟨b, o, rfl, _⟩ := hrow hm
  simp [Value.ownBlock]
theorem row_ne {n m : Nat} {f t : Value} (h : 0 < n → 0 < m → f.ownBlock ≠ t.ownBlock) (ht : 0 < m → t.ownBlock ≠ none) : 0 < m → (if n = 0 then none else f.ownBlock) ≠ t.ownBlock := by
  intro hm
  split
  · exact fun e => ht hm e.symm
  · exact h (by omega) hm
end Go.Proofs.YtbfhfjpfjkdcfaaGreatDoor
namespace Go.Proofs.YtbfhfjpfjkdcfaaGreatDoor
open Go.RowKit Go.ChangeShapes Go.WideShapes Go.Sort

/-- A cursor's box at p: bytes that lie below p, a place from 0 to K, a seed. -/
structure CurAt (w : World) (p K : Nat) : Prop where
  ex : ∃ (A : Option Addr) (n c : Nat) (a : Nat) (s : Int), w.cell? ⟨p, 0, none⟩ = some (.slice A n c) ∧ w.cell? ⟨p, 1, none⟩ = some (.int .i64 a) ∧ w.cell? ⟨p, 2, none⟩ = some (.int .u64 s) ∧ a ≤ K ∧ n ≤ 9223372036854775807 ∧ n ≤ c ∧
    (0 < n → ∃ (b o : Nat) (Z : Nat → Int), A = some ⟨b, o, none⟩ ∧ b < p ∧ ∀ i, i < n → w.cell? ⟨b, o + i, none⟩ = some (.int .u8 (Z i)) ∧ 0 ≤ Z i ∧ Z i < 256)
  free : Free w p
  lt : p < w.heap.size
theorem CurAt.more {w : World} {p K K' : Nat} (h : CurAt w p K) (hk : K ≤ K') : CurAt w p K' := by
  obtain ⟨⟨A, n, c, a, s, h0, h1, h2, h3, h4⟩, hf, hl⟩ := h
  exact ⟨⟨A, n, c, a, s, h0, h1, h2, by omega, h4⟩, hf, hl⟩
theorem CurAt.up {w w' : World} {p K : Nat} (h : CurAt w p K) (hb : Below w.heap.size w w') : CurAt w' p K := by
  obtain ⟨⟨A, n, c, a, s, h0, h1, h2, h3, h4, h5, h6⟩, hf, hl⟩ := h
  refine ⟨⟨A, n, c, a, s, up_keep hb h0, up_keep hb h1, up_keep hb h2, h3, h4, h5, fun hn => ?_⟩, hf.up hl hb, by have := hb.size; omega⟩
  obtain ⟨b, o, Z, e, hbp, hz⟩ := h6 hn
  exact ⟨b, o, Z, e, hbp, fun i hi => ⟨up_keep hb (hz i hi).1, (hz i hi).2⟩⟩
/-- Returned: a number below N; only the cursor has turned. -/
def AnsCur (w : World) (p K N : Nat) (e : Ending) (w' : World) : Prop := ∃ x : Nat, e = .returned (.int .i64 x) ∧ x < N ∧ CurAt w' p K ∧ Turned p (p + 1) w w'
theorem and255 (s : Int) : ∃ x : Nat, bits .and .u64 s 255 = (x : Int) ∧ x < 256 := by
  refine ⟨(BitVec.ofInt 64 s &&& BitVec.ofInt 64 255).toNat, ?_, ?_⟩
  · show IntKind.u64.wrap ((BitVec.ofInt 64 s &&& BitVec.ofInt 64 255).toNat : Int) = _
    have := (BitVec.ofInt 64 s &&& BitVec.ofInt 64 255).isLt
    exact IntWalk.u64_in _ (by omega)
  · rw [BitVec.toNat_and]
    exact Nat.lt_of_le_of_lt Nat.and_le_right (by decide)
theorem CurAt.step {w : World} {p K : Nat} (hc : CurAt w p K) (a : Nat) (ha : a ≤ K) (s' : Int) {s : Int} (h1 : w.cell? ⟨p, 1, none⟩ = some (.int .i64 a)) (h2 : w.cell? ⟨p, 2, none⟩ = some (.int .u64 s)) :
    CurAt ((w.setCell ⟨p, 1, none⟩ (.int .i64 ((a : Int) + 1))).setCell ⟨p, 2, none⟩ (.int .u64 s')) p (K + 1) := by
  obtain ⟨⟨A, n, c, a0, s0, h0, _, _, _, h4, h5, h6⟩, hf, hl⟩ := hc
  refine ⟨⟨A, n, c, a + 1, s', ?_, ?_, ?_, by omega, h4, h5, fun hn => ?_⟩, (hf.set _ _).set _ _, by rw [size_set, size_set]; exact hl⟩
  · rw [cell_set_ne _ _ _ _ _ _ (by omega), cell_set_ne _ _ _ _ _ _ (by omega)]; exact h0
  · rw [cell_set_ne _ _ _ _ _ _ (by omega)]; exact cell_set_same _ _ _ _ _ h1
  · refine cell_set_same _ _ _ (.int .u64 s) _ ?_
    rw [cell_set_ne _ _ _ _ _ _ (by omega)]; exact h2
  · obtain ⟨b, o, Z, e, hbp, hz⟩ := h6 hn
    refine ⟨b, o, Z, e, hbp, fun i hi => ⟨?_, (hz i hi).2⟩⟩
    rw [cell_set_ne _ _ _ _ _ _ (by omega), cell_set_ne _ _ _ _ _ _ (by omega)]; exact (hz i hi).1
theorem Turned.two (w : World) (p : Nat) (u v : Value) : Turned p (p + 1) w ((w.setCell ⟨p, 1, none⟩ u).setCell ⟨p, 2, none⟩ v) :=
  (Turned.set (Nat.le_refl _) (by omega) u).trans (Turned.set (Nat.le_refl _) (by omega) v)
/-- The cells of a cursor's box, at a world that holds them. -/
structure CurC (w : World) (p : Nat) (A : Option Addr) (n c : Nat) (a : Int) (s : Int) : Prop where
  c0 : w.cell? ⟨p, 0, none⟩ = some (.slice A n c)
  c1 : w.cell? ⟨p, 1, none⟩ = some (.int .i64 a)
  c2 : w.cell? ⟨p, 2, none⟩ = some (.int .u64 s)
  f1 : w.frozen? ⟨p, 1, none⟩ = false
  f2 : w.frozen? ⟨p, 2, none⟩ = false
set_option maxRecDepth 100000 in
set_option maxHeartbeats 4000000 in
theorem cur_next (p K : Nat) (w : World) (h : CurAt w p K) (hK : K ≤ 1099511627776) :
    Calls Tryz.prog 83 #[.pointer (some ⟨p, 0, none⟩)] w (AnsCur w p (K + 1) 256) := by
  have HC := Lib.hid h
  obtain ⟨⟨A, n, c, a, s, h0, h1, h2, h3, h4, h5, h6⟩, hf, hl⟩ := h
  have f1 := hf 1
  have f2 := hf 2
  have HZ := Lib.hid h6
  clear h6
  by_cases hlt : a < n
  · obtain ⟨b, o, Z, rfl, hbp, hz⟩ := HZ.out (by omega)
    have c0 := (hz a hlt).1
    have c1 := (hz a hlt).2
    have HZ2 := Lib.hid hz
    clear hz
    have j1 : (a : Int) < (n : Int) := by omega
    go_enter Tryz.func83, Tryz.ntmps83
    go_wp2_with fail
    go_quiet (fail)
    have hb1 : Below w.heap.size w (w.drewN nq) := up_drewN (Below.refl _ _) nq
    replace h0 := up_keep hb1 h0
    replace h1 := up_keep hb1 h1
    replace h2 := up_keep hb1 h2
    replace c0 := up_keep hb1 c0
    have hf1 := hf.up hl hb1
    have HC1 := Lib.hid (HC.out.up hb1)
    have hl1 : p < (w.drewN nq).heap.size := by have := hb1.size; omega
    clear HC hf
    generalize w.drewN nq = w1 at *
    go_wp2_with fail
    go_quiet (fail)
    have hb2 : Below w1.heap.size w1 (w1.drewN nq) := up_drewN (Below.refl _ _) nq
    replace h0 := up_keep hb2 h0
    replace h1 := up_keep hb2 h1
    replace h2 := up_keep hb2 h2
    have hf2 := hf1.up hl1 hb2
    have hl2 : p < (w1.drewN nq).heap.size := by have := hb2.size; omega
    clear hf1 f1 f2
    generalize w1.drewN nq = w2 at *
    have f1 := hf2 1
    have f2 := hf2 2
    go_wp2_with fail
    have hs3 := CurAt.step (HC1.out.up hb2) a h3 (IntKind.u64.wrap (IntKind.u64.wrap (IntKind.u64.wrap (s * 6364136223846793005) + Z a) + 1442695040888963407)) h1 h2
    have ht3 := Turned.two w2 p (.int .i64 ((a : Int) + 1)) (.int .u64 (IntKind.u64.wrap (IntKind.u64.wrap (IntKind.u64.wrap (s * 6364136223846793005) + Z a) + 1442695040888963407)))
    have g0 := (cell_set_ne (w2.setCell ⟨p, 1, none⟩ (.int .i64 ((a : Int) + 1))) p 2 (.int .u64 (IntKind.u64.wrap (IntKind.u64.wrap (IntKind.u64.wrap (s * 6364136223846793005) + Z a) + 1442695040888963407))) p 0 (by omega)).trans ((cell_set_ne w2 p 1 (.int .i64 ((a : Int) + 1)) p 0 (by omega)).trans h0)
    have g1 := (cell_set_ne (w2.setCell ⟨p, 1, none⟩ (.int .i64 ((a : Int) + 1))) p 2 (.int .u64 (IntKind.u64.wrap (IntKind.u64.wrap (IntKind.u64.wrap (s * 6364136223846793005) + Z a) + 1442695040888963407))) p 1 (by omega)).trans (cell_set_same w2 p 1 _ (.int .i64 ((a : Int) + 1)) h1)
    have HF2 := Lib.hid hf2
    clear h0 h1 h2 f1 f2 hf2 hl2
    generalize World.setCell (World.setCell w2 _ _) _ _ = w3 at *
    have j2 : (a : Int) + 1 ≤ (n : Int) := by omega
    go_quiet (fail)
    have hb4 : Below w3.heap.size w3 (w3.drewN nq) := up_drewN (Below.refl _ _) nq
    have hs4 := hs3.up hb4
    generalize w3.drewN nq = w4 at *
    go_wp2_with fail
    go_ret
    refine ⟨(Z a).toNat, by rw [show (((Z a).toNat : Nat) : Int) = Z a by omega]; rfl, by omega, hs4, ?_⟩
    exact (((Turned.of_below hb1).trans (Turned.of_below hb2)).trans ht3).trans (Turned.of_below hb4)
  · have j1 : ¬ (a : Int) < (n : Int) := by omega
    go_enter Tryz.func83, Tryz.ntmps83
    go_wp2_with fail
    go_quiet (fail)
    have hb1 : Below w.heap.size w (w.drewN nq) := up_drewN (Below.refl _ _) nq
    replace h0 := up_keep hb1 h0
    replace h1 := up_keep hb1 h1
    replace h2 := up_keep hb1 h2
    have hf1 := hf.up hl hb1
    have HC1 := Lib.hid (HC.out.up hb1)
    have hl1 : p < (w.drewN nq).heap.size := by have := hb1.size; omega
    clear HC hf f1 f2
    generalize w.drewN nq = w2 at *
    have f1 := hf1 1
    have f2 := hf1 2
    go_wp2_with fail
    generalize IntKind.u64.wrap (IntKind.u64.wrap (IntKind.u64.wrap (s * 6364136223846793005)) + 1442695040888963407) = s2 at *
    have hs3 := CurAt.step HC1.out a h3 s2 h1 h2
    have ht3 := Turned.two w2 p (.int .i64 ((a : Int) + 1)) (.int .u64 s2)
    have g0 := (cell_set_ne (w2.setCell ⟨p, 1, none⟩ (.int .i64 ((a : Int) + 1))) p 2 (.int .u64 s2) p 0 (by omega)).trans ((cell_set_ne w2 p 1 (.int .i64 ((a : Int) + 1)) p 0 (by omega)).trans h0)
    have g1 := (cell_set_ne (w2.setCell ⟨p, 1, none⟩ (.int .i64 ((a : Int) + 1))) p 2 (.int .u64 s2) p 1 (by omega)).trans (cell_set_same w2 p 1 _ (.int .i64 ((a : Int) + 1)) h1)
    have g2 := cell_set_same (w2.setCell ⟨p, 1, none⟩ (.int .i64 ((a : Int) + 1))) p 2 (.int .u64 s) (.int .u64 s2) ((cell_set_ne w2 p 1 (.int .i64 ((a : Int) + 1)) p 2 (by omega)).trans h2)
    clear h0 h1 h2 f1 f2 hf1 hl1
    generalize World.setCell (World.setCell w2 _ _) _ _ = w3 at *
    have j2 : ¬ (a : Int) + 1 ≤ (n : Int) := by omega
    go_quiet (fail)
    have hb4 : Below w3.heap.size w3 (w3.drewN nq) := up_drewN (Below.refl _ _) nq
    have hs4 := hs3.up hb4
    replace g2 := up_keep hb4 g2
    clear g0 g1
    generalize w3.drewN nq = w4 at *
    obtain ⟨x, ex, hx⟩ := and255 (s2 / 1099511627776)
    go_wp2_with fail
    trace_state
    go_ret
    refine ⟨x, by rw [← ex]; rfl, hx, hs4, ?_⟩
    exact ((Turned.of_below hb1).trans ht3).trans (Turned.of_below hb4)
end Go.Proofs.YtbfhfjpfjkdcfaaGreatDoor
