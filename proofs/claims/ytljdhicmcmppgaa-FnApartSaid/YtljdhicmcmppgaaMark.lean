/-
  The laws' marks on slices of spots, and what stands beside them.
-/
import Derived.Test.YtljdhicmcmppgaaRows
import Derived.Test.YtljdhicmcmppgaaBase
import Derived.Test.YtljdhicmcmppgaaSlice
import Derived.Test.YtljdhicmcmppgaaLawS
namespace Go.Proofs.Ytljdhicmcmppgaa
open Go.RowKit

/-- What is older than v's memory stays, while v is written. -/
theorem below_old {base : Nat} {w w' : World} {v : Value} {n : Nat} {X Y : Nat → Int} (hv : OwnS base w v n X Y) (hg : w.grownBy w' (if n = 0 then none else v.ownBlock)) (hb : base ≤ w.heap.size) : Below base w w' := by
  refine (Below.refl base w).grown hg hb (fun k hk => ?_)
  obtain ⟨A, c, rfl, hc, hr⟩ := hv
  split at hk
  · cases hk
  · obtain ⟨b, o, rfl, h1, _⟩ := hr (by omega)
    simp [Value.ownBlock] at hk
    omega

/-- What is younger than v's memory stays, while v is written. -/
theorem OwnS.young {base : Nat} {wx w w' : World} {u v : Value} {n m : Nat} {X Y X' Y' : Nat → Int} (hu : OwnS base w u m X' Y') (hx : Spots wx v n X Y) (hb : wx.heap.size ≤ base) (hg : w.grownBy w' (if n = 0 then none else v.ownBlock)) : OwnS base w' u m X' Y' := by
  obtain ⟨A, c, rfl, hc, hr⟩ := hu
  refine ⟨A, c, rfl, hc, fun hm => ?_⟩
  obtain ⟨b, o, rfl, h1, h2, h3⟩ := hr hm
  have hne : (if n = 0 then none else v.ownBlock) ≠ some b := by
    obtain ⟨A', c', rfl, hc', hr'⟩ := hx
    split
    · simp
    · obtain ⟨b', o', rfl, h'⟩ := hr' (by omega)
      have := h'.lt (by omega)
      simp [Value.ownBlock]
      omega
  exact ⟨b, o, rfl, h1, h2.only (h3.lt hm) hg hne, h3.only hg hne⟩
/-- What lay there in the world wb stays, while only later memory is written. -/
theorem Spots.old {wb w w' : World} {u : Value} {m : Nat} {X Y X' Y' : Nat → Int} (h0 : Spots wb u m X Y) (h : Spots w u m X' Y') (hB : Below wb.heap.size w w') : Spots w' u m X' Y' := by
  obtain ⟨A, c, rfl, hc, hr⟩ := h
  refine ⟨A, c, rfl, hc, fun hm => ?_⟩
  obtain ⟨b, o, rfl, h1⟩ := hr hm
  obtain ⟨A', c', he, _, hr0⟩ := h0
  obtain ⟨b', o', hA', h2⟩ := hr0 hm
  injection he with e1 e2 e3
  have hb : b < wb.heap.size := by
    have e4 := e1.trans hA'
    injection e4 with e5
    injection e5 with e6
    rw [e6]; exact h2.lt hm
  refine ⟨b, o, rfl, fun i hi => ?_⟩
  rw [hB.cell (p := ⟨b, _, none⟩) hb, hB.cell (p := ⟨b, _, none⟩) hb]
  exact h1 i hi
theorem cell_old {wb w w' : World} {b o : Nat} {v v0 : Value} (h0 : wb.cell? ⟨b, o, none⟩ = some v0) (h : w.cell? ⟨b, o, none⟩ = some v) (hB : Below wb.heap.size w w') : w'.cell? ⟨b, o, none⟩ = some v := by
  rw [hB.cell (p := ⟨b, o, none⟩) (lt_of_cell h0)]; exact h
theorem grown_set {a w : World} {g : Nat} (h : a.grownBy w (some g)) {p : Addr} (hp : p.block = g) (u : Value) : a.grownBy (w.setCell p u) (some g) :=
  ⟨h.os, h.tape, h.output, by rw [size_set]; exact h.size, fun i hi hne => (Below.heap_setCell w p u i (fun e => hne (by rw [e, hp]))).trans (h.block i hi hne)⟩
/-- Marked: v reads as the numbers from k0 on; nothing but v's own memory has turned. -/
def MarkAns (base : Nat) (v : Value) (n : Nat) (k0 : Int) (w : World) (e : Ending) (w' : World) : Prop :=
  e = .returned (.int .i64 (k0 + 2 * n)) ∧ w.grownBy w' (if n = 0 then none else v.ownBlock) ∧ OwnS base w' v n (fun i => k0 + 2 * i) (fun i => k0 + 2 * i + 1)
end Go.Proofs.Ytljdhicmcmppgaa
