/-
  The great laws' helpers: bytes as arguments, lists of numbers alike, sums.
-/
import Derived.Test.YtljdhicmcmppgaaRows
import Derived.Test.YtljdhicmcmppgaaBase
import Derived.Test.YtljdhicmcmppgaaSpot
import Derived.Test.YtljdhicmcmppgaaSlice
import Derived.Test.YtljdhicmcmppgaaLawS
import Derived.Test.YtljdhicmcmppgaaMark
import Derived.Test.YtljdhicmcmppgaaInts
import Derived.Test.YtljdhicmcmppgaaIntsL
import Derived.Test.YtljdhicmcmppgaaTurned
import Derived.Test.YtljdhicmcmppgaaTrans
import Derived.BigQuiet
import Derived.Test.YtljdhicmcmppgaaCur
import Derived.Test.YtljdhicmcmppgaaDrawP
import Derived.Test.YtljdhicmcmppgaaCopyI
import Derived.Deep.CutRange
import Derived.Deep.DeepCutAuto
import Derived.Test.YtljdhicmcmppgaaBytes
import Derived.Test.YtljdhicmcmppgaaOpenT
namespace Go.Proofs.Ytljdhicmcmppgaa
open Go.RowKit Go.ChangeShapes Go.WideShapes Go.Sort

section
variable {H : Type} {enc : TypeId × Value → H} {w : World} {base : Nat} {sp : Nat → Bool} {held : Bool} {r : _} {b0 : _} {v : Value} {d : DataW H} {p : List MemPlace}
set_option maxRecDepth 100000 in
theorem trod_bytes {f : Nat} {c0 : Value} {y : DataW H × List MemPlace} (hf : DataW.trod enc Try.prog w base sp held f 22 [c0] = some y) : ∃ n, Bytes w c0 n ∧ n ≤ 9223372036854775807 := by
  rcases Go.Deep.open_slice1 Try.underlying22 (by kernel_rfl) hf with ⟨hcs, _⟩ | ⟨a, len, cap, m, n, V, D, Pl, hcs, _, hl, hm, hmm, _, hi⟩
  · simp only [List.cons.injEq, and_true] at hcs
    subst hcs
    exact ⟨0, ⟨_, _, rfl, Nat.le_refl _, fun h => absurd h (by omega)⟩, by omega⟩
  · simp only [List.cons.injEq, and_true] at hcs
    subst hcs
    have hlm : len ≤ m := by rw [hmm]; split <;> omega
    have key : ∀ i, ∃ q : Int, i < len → w.cell? (a.add i) = some (.int .u8 q) ∧ 0 ≤ q ∧ q < 256 := fun i => by
      by_cases hil : i < len
      · obtain ⟨hc, ht⟩ := hi i (by omega)
        obtain ⟨x, e, _, hw⟩ := DataW.trod_int Try.underlying5 ht
        simp only [List.cons.injEq, and_true] at e
        exact ⟨x, fun _ => ⟨by rw [hc, e], by simp only [Lit.wf, Bool.and_eq_true, decide_eq_true_eq, show IntKind.u8.min = 0 from rfl, show IntKind.u8.max = 255 from rfl] at hw; omega⟩⟩
      · exact ⟨0, fun h => absurd h hil⟩
    obtain ⟨F, hF⟩ := Classical.axiomOfChoice key
    refine ⟨len, ⟨_, _, rfl, hl, fun hn => ⟨a.block, a.off, F, ?_, ?_, fun i hil => ⟨(cell_at (hF i hil).1).1, (hF i hil).2⟩⟩⟩, by unfold maxLen at hm; omega⟩
    · rw [← (cell_at (hF 0 hn).1).2 rfl]
    · exact lt_of_cell (cell_at (hF 0 hn).1).1
set_option maxRecDepth 100000 in
theorem open_bytes (hv : Value.okWide Try.prog w r b0 22 v) (h : DataW.Trod enc Try.prog w base sp held 22 v d p) : ∃ n, Bytes w v n ∧ n ≤ 9223372036854775807 := by
  obtain ⟨A, len, cap, rfl⟩ := okWide_slice Try.underlying22 hv
  obtain ⟨f, hf⟩ := h
  exact trod_bytes (show DataW.trod enc Try.prog w base sp held f 22 [.slice A len cap] = some (d, p) from hf)
end
set_option maxHeartbeats 1000000 in
theorem qInts_g (v v' : Value) (n : Nat) (X : Nat → Int) (w : World) (h : Ints w v n X) (h' : Ints w v' n X) (hn : n ≤ 1048576) :
    Calls Try.prog 18 #[v, v'] w (Ans w (.bool true)) := by
  obtain ⟨A, c, rfl, hnc, hrow⟩ := h
  obtain ⟨A', c', rfl, hnc', hrow'⟩ := h'
  go_enter Try.func18, Try.ntmps18
  go_wp2_with fail
  go_loopw [13] (fun i wr => ∃ k : Nat, k ≤ n ∧ i = .int .i64 k ∧ Below w.heap.size w wr) (fun i _ => n - (intOf i).toNat)
  case atStart => exact ⟨0, by omega, rfl, Below.refl _ _⟩
  case round =>
    obtain ⟨k, hk, rfl, hb⟩ := hrel
    by_cases hlt : k < n
    · obtain ⟨b, o, rfl, hr⟩ := hrow (by omega)
      obtain ⟨b', o', rfl, hr'⟩ := hrow' (by omega)
      have c1 := cell_regrown (up_keep hb (hr k hlt))
      have c3 := cell_regrown (up_keep hb (hr' k hlt))
      clear hr hr' hrow hrow'
      have hq' : (X k != X k) = false := by simp
      go_wp2_with fail
      refine wp_region_up (by kernel_rfl) (by kernel_rfl) ?_
      repeat (go_big_quiet_step (fail))
      refine wpQuiet_nil ?_
      intro w1 hb0
      obtain ⟨hc0, hf0⟩ := bcell hb0
      go_wp2_with fail
      go_roundw
      case rel => exact ⟨k + 1, by omega, by go_num, up_trans hb hb0⟩
      case measure => simp [intOf]; omega
    · have e : k = n := by omega
      subst e
      go_wp2_with fail
      go_ret
      exact Ans.bool rfl hb
end Go.Proofs.Ytljdhicmcmppgaa
