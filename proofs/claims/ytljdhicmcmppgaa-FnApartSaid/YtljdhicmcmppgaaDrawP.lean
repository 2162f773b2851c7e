/-
  The reference's cursor: numbers picked, one of a list.
-/
import Derived.Test.YtljdhicmcmppgaaRows
import Derived.Test.YtljdhicmcmppgaaBase
import Derived.Test.YtljdhicmcmppgaaSpot
import Derived.Test.YtljdhicmcmppgaaSlice
import Derived.Test.YtljdhicmcmppgaaLawS
import Derived.Test.YtljdhicmcmppgaaMark
import Derived.Test.YtljdhicmcmppgaaInts
import Derived.Test.YtljdhicmcmppgaaIntsL
import Derived.Test.YtljdhicmcmppgaaTurned
import Derived.Test.YtljdhicmcmppgaaTrans
import Derived.BigQuiet
import Derived.Test.YtljdhicmcmppgaaCur
namespace Go.Proofs.Ytljdhicmcmppgaa
open Go.RowKit Go.ChangeShapes Go.WideShapes Go.Sort

/-- Returned: a number from lo to hi; only the cursor has turned. -/
def AnsRng (w : World) (p K : Nat) (lo hi : Int) (e : Ending) (w' : World) : Prop := ∃ x : Int, e = .returned (.int .i64 x) ∧ (lo ≤ x ∧ x ≤ hi) ∧ CurAt w' p K ∧ Turned p (p + 1) w w'
/-- Returned: a Bool; only the cursor has turned. -/
def AnsOne (w : World) (p K : Nat) (e : Ending) (w' : World) : Prop := ∃ x : Bool, e = .returned (.bool x) ∧ CurAt w' p K ∧ Turned p (p + 1) w w'
theorem Turned.far {lo hi : Nat} {w w1 w2 : World} (h : Turned lo hi w w1) (hb : Below w.heap.size w1 w2) : Turned lo hi w w2 :=
  ⟨hb.os.trans h.os, hb.tape.trans h.tape, hb.output.trans h.output, Nat.le_trans h.size hb.size, fun k hk hr => (hb.block k hk).trans (h.block k hk hr)⟩
theorem CurAt.below {w w' : World} {p K m : Nat} (h : CurAt w p K) (hb : Below m w w') (hm : p < m) : CurAt w' p K := by
  obtain ⟨⟨A, n, c, a, s, h0, h1, h2, h3, h4, h5, h6⟩, hf, hl⟩ := h
  refine ⟨⟨A, n, c, a, s, ?_, ?_, ?_, h3, h4, h5, fun hn => ?_⟩, fun o => ?_, by have := hb.size; omega⟩
  · rw [hb.cell (p := ⟨p, 0, none⟩) hm]; exact h0
  · rw [hb.cell (p := ⟨p, 1, none⟩) hm]; exact h1
  · rw [hb.cell (p := ⟨p, 2, none⟩) hm]; exact h2
  · obtain ⟨b, o, Z, e, hbp, hz⟩ := h6 hn
    exact ⟨b, o, Z, e, hbp, fun i hi => ⟨by rw [hb.cell (p := ⟨b, o + i, none⟩) (show b < m by omega)]; exact (hz i hi).1, (hz i hi).2⟩⟩
  · rw [hb.frozen (p := ⟨p, o, none⟩) hm]; exact hf o
theorem tmod_nat (x n : Nat) : Int.tmod (x : Int) (n : Int) = ((x % n : Nat) : Int) := rfl
set_option maxRecDepth 100000 in
set_option maxHeartbeats 2000000 in
theorem cur_pick (p K n : Nat) (w : World) (h : CurAt w p K) (hK : K ≤ 1000000000) (hn : n ≤ 1000000000) :
    Calls Try.prog 50 #[.pointer (some ⟨p, 0, none⟩), .int .i64 n] w (AnsCur w p (K + 2) (max n 1)) := by
  by_cases h1 : n ≤ 1
  · have j1 : (n : Int) ≤ 1 := by omega
    go_enter Try.func50, Try.ntmps50
    go_wp2_with fail
    go_ret
    exact ⟨0, rfl, by omega, h.more (by omega), Turned.refl _ _ _⟩
  · have j1 : ¬ (n : Int) ≤ 1 := by omega
    have j0 : ¬ (n : Int) = 0 := by omega
    by_cases h2 : n ≤ 200
    · have j2 : ¬ (n : Int) > 200 := by omega
      go_enter Try.func50, Try.ntmps50
      go_wp2_with fail
      refine (cur_next p K _ h (by omega)).mono ?_
      rintro e w1 ⟨x, rfl, hx, hc1, ht1⟩
      go_wp2_with fail
      go_ret
      exact ⟨x % n, rfl, by have := Nat.mod_lt x (show n > 0 by omega); omega, hc1.more (by omega), ht1⟩
    · have j2 : (n : Int) > 200 := by omega
      go_enter Try.func50, Try.ntmps50
      go_wp2_with fail
      refine (cur_next p K _ h (by omega)).mono ?_
      rintro e w1 ⟨x, rfl, hx, hc1, ht1⟩
      go_wp2_with fail
      refine (cur_next p (K + 1) _ hc1 (by omega)).mono ?_
      rintro e w2 ⟨y, rfl, hy, hc2, ht2⟩
      go_wp2_with fail
      go_ret
      exact ⟨(x * 256 + y) % n, rfl, by have := Nat.mod_lt (x * 256 + y) (show n > 0 by omega); omega, hc2, ht1.trans ht2⟩
set_option maxRecDepth 100000 in
theorem cur_one (p K n : Nat) (w : World) (h : CurAt w p K) (hK : K ≤ 1000000000) (hn : n ≤ 1000000000) :
    Calls Try.prog 65 #[.pointer (some ⟨p, 0, none⟩), .int .i64 n] w (AnsOne w p (K + 2)) := by
  go_enter Try.func65, Try.ntmps65
  go_wp2_with fail
  refine (cur_pick p K n _ h hK hn).mono ?_
  rintro e w1 ⟨x, rfl, hx, hc1, ht1⟩
  go_wp2_with fail
  go_ret
  exact ⟨_, rfl, hc1, ht1⟩
set_option maxRecDepth 100000 in
theorem cur_among (p K b m : Nat) (lo hi : Int) (w : World) (h : CurAt w p K) (hK : K ≤ 1000000000) (h1 : 1 ≤ m) (hm : m ≤ 1000000) (hpb : p < b)
    (hr : ∀ i, i < m → ∃ x : Int, w.cell? ⟨b, i, none⟩ = some (.int .i64 x) ∧ lo ≤ x ∧ x ≤ hi) :
    Calls Try.prog 49 #[.pointer (some ⟨p, 0, none⟩), .slice (some ⟨b, 0, none⟩) m m] w (AnsRng w p (K + 2) lo hi) := by
  have HR := Lib.hid hr
  clear hr
  go_enter Try.func49, Try.ntmps49
  go_wp2_with fail
  refine (cur_pick p K m _ h hK (by omega)).mono ?_
  rintro e w1 ⟨x, rfl, hx, hc1, ht1⟩
  have hxm : x < m := by omega
  obtain ⟨y, hy, hy1, hy2⟩ := HR.out x hxm
  have c1 := ht1.cell hy (by omega)
  have j1 : (x : Int) < (m : Int) := by omega
  clear hy
  go_wp2_with fail
  go_ret
  exact ⟨y, rfl, ⟨hy1, hy2⟩, hc1, ht1⟩
end Go.Proofs.Ytljdhicmcmppgaa
