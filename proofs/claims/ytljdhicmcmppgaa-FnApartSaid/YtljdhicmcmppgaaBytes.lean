/-
  Bytes, and a cursor over them.
-/
import Derived.Test.YtljdhicmcmppgaaRows
import Derived.Test.YtljdhicmcmppgaaBase
import Derived.Test.YtljdhicmcmppgaaSpot
import Derived.Test.YtljdhicmcmppgaaSlice
import Derived.Test.YtljdhicmcmppgaaLawS
import Derived.Test.YtljdhicmcmppgaaMark
import Derived.Test.YtljdhicmcmppgaaInts
import Derived.Test.YtljdhicmcmppgaaIntsL
import Derived.Test.YtljdhicmcmppgaaTurned
import Derived.Test.YtljdhicmcmppgaaTrans
import Derived.BigQuiet
import Derived.Test.YtljdhicmcmppgaaCur
import Derived.Test.YtljdhicmcmppgaaDrawP
namespace Go.Proofs.Ytljdhicmcmppgaa
open Go.RowKit Go.ChangeShapes Go.WideShapes Go.Sort

/-- The slice value v reads as n bytes. -/
def Bytes (w : World) (v : Value) (n : Nat) : Prop := ∃ A c, v = .slice A n c ∧ n ≤ c ∧
  (0 < n → ∃ (b o : Nat) (Z : Nat → Int), A = some ⟨b, o, none⟩ ∧ b < w.heap.size ∧ ∀ i, i < n → w.cell? ⟨b, o + i, none⟩ = some (.int .u8 (Z i)) ∧ 0 ≤ Z i ∧ Z i < 256)
theorem Bytes.up {w w' : World} {v : Value} {n : Nat} (h : Bytes w v n) (hb : Below w.heap.size w w') : Bytes w' v n := by
  obtain ⟨A, c, e, hc, hr⟩ := h
  refine ⟨A, c, e, hc, fun hn => ?_⟩
  obtain ⟨b, o, Z, e, hlt, hz⟩ := hr hn
  exact ⟨b, o, Z, e, by have := hb.size; omega, fun i hi => ⟨up_keep hb (hz i hi).1, (hz i hi).2⟩⟩
/-- A cursor's new box. -/
theorem curAt_new {w : World} {A : Option Addr} {n c : Nat} (h : Bytes w (.slice A n c) n) (hn : n ≤ 9223372036854775807) (t : TypeId) : CurAt (w.alloc (.cells #[.slice A n c, .int .i64 0, .int .u64 0] t)) w.heap.size 0 := by
  obtain ⟨A', c', e, hc, hr⟩ := h
  injection e with e1 _ e2
  subst e1
  subst e2
  refine ⟨⟨A, n, c, 0, 0, by simp [go_sem], by simp [go_sem], by simp [go_sem], by omega, hn, hc, fun h0 => ?_⟩, fun o => by simp [go_sem], by simp⟩
  obtain ⟨b, o, Z, e, hlt, hz⟩ := hr h0
  exact ⟨b, o, Z, e, hlt, fun i hi => ⟨up_keep (below_alloc _ _) (hz i hi).1, (hz i hi).2⟩⟩
theorem cur_below {w w' : World} {o : Obj} (h : Turned w.heap.size (w.heap.size + 1) (w.alloc o) w') : Below w.heap.size w w' := (below_alloc w o).trans (h.below (by simp))
end Go.Proofs.Ytljdhicmcmppgaa
