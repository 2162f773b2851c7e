/-
  The laws' marks on slices of spots, and what stands beside them.
-/
import Derived.Test.YtbfhfjpfjkdcfaaDoorRows
import Derived.Test.YtbfhfjpfjkdcfaaDoorBase
import Derived.Test.YtbfhfjpfjkdcfaaDoorSlice
import Derived.Test.YtbfhfjpfjkdcfaaDoorLawS
namespace Go.Proofs.YtbfhfjpfjkdcfaaDoor
open Go.RowKit

/-- What is older than v's memory stays, while v is written. -/
theorem below_old {base : Nat} {w w' : World} {v : Value} {n : Nat} {X Y : Nat → Int} (hv : OwnS base w v n X Y) (hg : w.grownBy w' (if n = 0 then none else v.ownBlock)) (hb : base ≤ w.heap.size) : Below base w w' := by
  refine (Below.refl base w).grown hg hb (fun k hk => ?_)
  obtain ⟨A, c, rfl, hc, hr⟩ := hv
  split at hk
  · cases hk
  · obtain ⟨b, o, rfl, h1, _⟩ := hr (by omega)
    simp [Value.ownBlock] at hk
    omega

/-- What is younger than v's memory stays, while v is written. -/
theorem OwnS.young {base : Nat} {wx w w' : World} {u v : Value} {n m : Nat} {X Y X' Y' : Nat → Int} (hu : OwnS base w u m X' Y') (hx : Spots wx v n X Y) (hb : wx.heap.size ≤ base) (hg : w.grownBy w' (if n = 0 then none else v.ownBlock)) : OwnS base w' u m X' Y' := by
  obtain ⟨A, c, rfl, hc, hr⟩ := hu
  refine ⟨A, c, rfl, hc, fun hm => ?_⟩
  obtain ⟨b, o, rfl, h1, h2, h3⟩ := hr hm
  have hne : (if n = 0 then none else v.ownBlock) ≠ some b := by
    obtain ⟨A', c', rfl, hc', hr'⟩ := hx
    split
    · simp
    · obtain ⟨b', o', rfl, h'⟩ := hr' (by omega)
      have := h'.lt (by omega)
      simp [Value.ownBlock]
      omega
  exact ⟨b, o, rfl, h1, h2.only (h3.lt hm) hg hne, h3.only hg hne⟩
/-- What lay there in the world wb stays, while only later memory is written. -/
theorem Spots.old {wb w w' : World} {u : Value} {m : Nat} {X Y X' Y' : Nat → Int} (h0 : Spots wb u m X Y) (h : Spots w u m X' Y') (hB : Below wb.heap.size w w') : Spots w' u m X' Y' := by
  obtain ⟨A, c, rfl, hc, hr⟩ := h
  refine ⟨A, c, rfl, hc, fun hm => ?_⟩
  obtain ⟨b, o, rfl, h1⟩ := hr hm
  obtain ⟨A', c', he, _, hr0⟩ := h0
  obtain ⟨b', o', hA', h2⟩ := hr0 hm
  injection he with e1 e2 e3
  have hb : b < wb.heap.size := by
    have e4 := e1.trans hA'
    injection e4 with e5
    injection e5 with e6
    rw [e6]; exact h2.lt hm
  refine ⟨b, o, rfl, fun i hi => ?_⟩
  rw [hB.cell (p := ⟨b, _, none⟩) hb, hB.cell (p := ⟨b, _, none⟩) hb]
  exact h1 i hi
theorem cell_old {wb w w' : World} {b o : Nat} {v v0 : Value} (h0 : wb.cell? ⟨b, o, none⟩ = some v0) (h : w.cell? ⟨b, o, none⟩ = some v) (hB : Below wb.heap.size w w') : w'.cell? ⟨b, o, none⟩ = some v := by
  rw [hB.cell (p := ⟨b, o, none⟩) (lt_of_cell h0)]; exact h
theorem grown_set {a w : World} {g : Nat} (h : a.grownBy w (some g)) {p : Addr} (hp : p.block = g) (u : Value) : a.grownBy (w.setCell p u) (some g) :=
  ⟨h.os, h.tape, h.output, by rw [size_set]; exact h.size, fun i hi hne => (Below.heap_setCell w p u i (fun e => hne (by rw [e, hp]))).trans (h.block i hi hne)⟩
/-- Marked: v reads as the numbers from k0 on; nothing but v's own memory has turned. -/
def MarkAns (base : Nat) (v : Value) (n : Nat) (k0 : Int) (w : World) (e : Ending) (w' : World) : Prop :=
  e = .returned (.int .i64 (k0 + 2 * n)) ∧ w.grownBy w' (if n = 0 then none else v.ownBlock) ∧ OwnS base w' v n (fun i => k0 + 2 * i) (fun i => k0 + 2 * i + 1)
set_option maxHeartbeats 1000000 in
theorem markSpotS_any (base : Nat) (v : Value) (n : Nat) (X Y : Nat → Int) (k0 : Int) (w : World) (h : OwnS base w v n X Y) (hn : n ≤ 1048576) (hk0 : 0 ≤ k0) (hk1 : k0 ≤ 16777216) :
    Calls Tryd.prog 8 #[v, .int .i64 k0] w (MarkAns base v n k0 w) := by
  have HV := Lib.hid h
  obtain ⟨A, c, rfl, hnc, hrow⟩ := h
  by_cases hn0 : n = 0
  · subst hn0
    clear hrow
    go_enter Tryd.func8, Tryd.ntmps8
    go_wp2_with fail
    go_loopw [1, 5] (fun j i wr => i = .int .i64 0 ∧ j = .int .i64 k0 ∧ wr = w) (fun _ _ _ => 0)
    case atStart => exact ⟨rfl, rfl, rfl⟩
    case round =>
      obtain ⟨rfl, rfl, rfl⟩ := hrel
      go_wp2_with fail
      go_ret
      exact ⟨ret_int (by omega), World.grownBy.refl _ _, _, _, rfl, hnc, fun h => absurd h (by omega)⟩
  · obtain ⟨b, o, rfl, hbb, hf, hr⟩ := hrow (by omega)
    have HR := Lib.hid hr
    have HF := Lib.hid hf
    have hlt0 := hr.lt (by omega)
    clear hr hf hrow
    go_enter Tryd.func8, Tryd.ntmps8
    go_wp2_with fail
    go_loopw [1, 5] (fun j i wr => ∃ k : Nat, k ≤ n ∧ i = .int .i64 k ∧ j = .int .i64 (k0 + 2 * k) ∧ w.grownBy wr (some b) ∧ b < wr.heap.size ∧ Free wr b ∧ ∃ X' Y', Row2 wr b o n X' Y' ∧ (∀ i : Nat, i < k → X' i = k0 + 2 * i) ∧ (∀ i : Nat, i < k → Y' i = k0 + 2 * i + 1)) (fun _ i _ => n - (intOf i).toNat)
    case atStart => exact ⟨0, by omega, rfl, congrArg (Value.int .i64) (by omega), World.grownBy.refl _ _, hlt0, HF.out, _, _, HR.out, fun i hi => by omega, fun i hi => by omega⟩
    case round =>
      obtain ⟨k, hk, rfl, rfl, hg, hs, hf, X', Y', hr, hx, hy⟩ := hrel
      by_cases hlt : k < n
      · obtain ⟨d1, d2⟩ := hr k hlt
        have f1 := hf (o + k * 2)
        have f2 := hf (o + k * 2 + 1)
        have HR := Lib.hid hr
        have HX := Lib.hid hx
        have HY := Lib.hid hy
        have HF := Lib.hid hf
        have HG := Lib.hid hg
        clear hr hx hy hf hg
        go_wp2_with fail
        go_roundw
        case rel =>
          refine ⟨k + 1, by omega, by go_num, congrArg (Value.int .i64) (by omega), grown_set (grown_set HG.out rfl _) rfl _, by rw [size_set, size_set]; exact hs, (HF.out.set _ _).set _ _, _, _, HR.out.put hlt _ _, fun i hi => ?_, fun i hi => ?_⟩
          · split
            · rename_i e; rw [e]
            · exact HX.out i (by omega)
          · split
            · rename_i e; rw [e]
            · exact HY.out i (by omega)
        case measure => simp [intOf]; omega
      · have e : k = n := by omega
        subst e
        have HQ := Lib.hid (show wr.grownBy wr none from World.grownBy.refl _ _)
        go_wp2_with fail
        go_ret
        exact ⟨rfl, by rw [if_neg hn0]; exact hg, _, _, rfl, hnc, fun _ => ⟨_, _, rfl, hbb, hf, hr.cong hx hy⟩⟩
set_option maxHeartbeats 1000000 in
theorem heldSpotS_any (v : Value) (n : Nat) (k0 : Int) (w : World) (h : Spots w v n (fun i => k0 + 2 * i) (fun i => k0 + 2 * i + 1)) (hn : n ≤ 1048576) (hk0 : 0 ≤ k0) (hk1 : k0 ≤ 16777216) :
    Calls Tryd.prog 9 #[v, .int .i64 k0] w (Ans w (.int .i64 (k0 + 2 * n))) := by
  obtain ⟨A, c, rfl, hnc, hrow⟩ := h
  go_enter Tryd.func9, Tryd.ntmps9
  go_wp2_with fail
  go_loopw [1, 5] (fun j i wr => ∃ k : Nat, k ≤ n ∧ i = .int .i64 k ∧ j = .int .i64 (k0 + 2 * k) ∧ Below w.heap.size w wr) (fun _ i _ => n - (intOf i).toNat)
  case atStart => exact ⟨0, by omega, rfl, congrArg (Value.int .i64) (by omega), Below.refl _ _⟩
  case round =>
    obtain ⟨k, hk, rfl, rfl, hb⟩ := hrel
    by_cases hlt : k < n
    · obtain ⟨b, o, rfl, hr⟩ := hrow (by omega)
      have c1 := up_keep hb (hr k hlt).1
      have c2 := up_keep hb (hr k hlt).2
      clear hr hrow
      go_wp2_with fail
      go_roundw
      case rel => exact ⟨k + 1, by omega, by go_num, congrArg (Value.int .i64) (by omega), by (repeat (first | with_reducible exact Below.refl _ _ | with_reducible assumption | with_reducible refine up_alloc ?_ _ | with_reducible refine up_drew ?_ | with_reducible refine up_drewN ?_ _ | (with_reducible refine up_set ?_ ?hset _; case hset => first | (simp; done) | (simp; omega) | omega) | with_reducible refine up_trans ?_ (by with_reducible assumption)))⟩
      case measure => simp [intOf]; omega
    · have e : k = n := by omega
      subst e
      go_wp2_with fail
      go_ret
      exact Ans.int rfl (by (repeat (first | with_reducible exact Below.refl _ _ | with_reducible assumption | with_reducible refine up_alloc ?_ _ | with_reducible refine up_drew ?_ | with_reducible refine up_drewN ?_ _ | (with_reducible refine up_set ?_ ?hset _; case hset => first | (simp; done) | (simp; omega) | omega) | with_reducible refine up_trans ?_ (by with_reducible assumption))))
theorem markSpotS_g (base : Nat) (v : Value) (n : Nat) (X Y : Nat → Int) (k0 : Int) (w : World) (h : OwnS base w v n X Y) (hn : n ≤ 1048576) (hk0 : 0 ≤ k0) (hk1 : k0 ≤ 16777216) : Calls Tryd.prog 8 #[v, .int .i64 k0] w (MarkAns base v n k0 w) := markSpotS_any base v n X Y k0 w h hn hk0 hk1
theorem heldSpotS_g (v : Value) (n : Nat) (k0 : Int) (w : World) (h : Spots w v n (fun i => k0 + 2 * i) (fun i => k0 + 2 * i + 1)) (hn : n ≤ 1048576) (hk0 : 0 ≤ k0) (hk1 : k0 ≤ 16777216) : Calls Tryd.prog 9 #[v, .int .i64 k0] w (Ans w (.int .i64 (k0 + 2 * n))) := heldSpotS_any v n k0 w h hn hk0 hk1
end Go.Proofs.YtbfhfjpfjkdcfaaDoor
