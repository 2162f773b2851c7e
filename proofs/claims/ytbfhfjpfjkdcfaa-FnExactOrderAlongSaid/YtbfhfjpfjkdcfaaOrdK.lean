/-
  The program sorts performers: the library's sort, at twelve or less.
-/
import Derived.Test.YtbfhfjpfjkdcfaaRows
import Derived.Test.YtbfhfjpfjkdcfaaBase
import Derived.Test.YtbfhfjpfjkdcfaaSpot
import Derived.Test.YtbfhfjpfjkdcfaaSlice
import Derived.Test.YtbfhfjpfjkdcfaaChart
import Derived.Test.YtbfhfjpfjkdcfaaLawS
import Derived.Test.YtbfhfjpfjkdcfaaMark
import Derived.Test.YtbfhfjpfjkdcfaaInts
import Derived.Test.YtbfhfjpfjkdcfaaIntsL
import Derived.Test.YtbfhfjpfjkdcfaaCopyI
import Derived.Test.YtbfhfjpfjkdcfaaAddI
import Derived.Test.YtbfhfjpfjkdcfaaOrdP
import Derived.Lib.Strings
import Derived.Lib.Slices
import Derived.Lib.Small
import Derived.Lib.Walk
import Derived.Lib.BitFns
import Derived.Test.YtbfhfjpfjkdcfaaPiece
import Derived.BigQuiet
import Derived.RegionTactic
import Derived.ChangeAlike
import Derived.Deep.QuietTactic
import Derived.Deep.CutRange
import Derived.Deep.DeepCutAuto
import Derived.Test.YtbfhfjpfjkdcfaaOrdJ
namespace Go.Proofs.Ytbfhfjpfjkdcfaa
open Go.RowKit Go.ChangeShapes Go.WideShapes Go.Sort

set_option maxRecDepth 100000 in
set_option maxHeartbeats 4000000 in
theorem pdq_any (bl b o n c d od cd : Nat) (X Y : Nat → Int) (lim : Int) (w : World) (hl : w.cell? ⟨bl, 0, none⟩ = some (.slice (some ⟨b, o, none⟩) n c)) (hr : Row2 w b o n X Y) (hbd : bl ≠ d) (hbd2 : b ≠ d)
    (hb : ∀ j, j < n → (0 ≤ X j ∧ X j ≤ 1280) ∧ 0 ≤ Y j ∧ Y j ≤ 672) (hn1 : 1 ≤ n) (hn : n ≤ 12) (hd : Row1 w d od n (fun q => (q : Int))) (hf : Free w d) :
    Calls Try.prog 25 #[.slice (some ⟨d, od, none⟩) n cd, .int .i64 0, .int .i64 (n : Int), .int .i64 lim, (.func (.func 18) #[] #[.pointer (some ⟨bl, 0, none⟩)])] w (AnsSort w d od n X Y) := by
  have HI := Lib.hid (ins_any bl b o n c d od cd X Y w hl hr hbd hbd2 hb hn1 hn hd hf)
  clear hl hr hb hd hf
  have jn : (n : Int) ≤ 12 := by omega
  go_enter Try.func25, Try.ntmps25
  go_wp2_with fail
  go_loopw [1, 2] (fun a b wr => a = .int .i64 0 ∧ b = .int .i64 (n : Int) ∧ wr = w) (fun _ _ _ => 0)
  case atStart => exact ⟨rfl, rfl, rfl⟩
  case round =>
    obtain ⟨rfl, rfl, rfl⟩ := hrel
    go_wp2_with fail
    refine HI.out.mono ?_
    rintro e w2 ⟨rfl, h1, h2, h3⟩
    go_wp2_with fail
    go_end0
    exact ⟨rfl, h1, h2, h3⟩
set_option maxRecDepth 100000 in
set_option maxHeartbeats 4000000 in
theorem sortFunc_any (bl b o n c d od cd : Nat) (X Y : Nat → Int) (w : World) (hl : w.cell? ⟨bl, 0, none⟩ = some (.slice (some ⟨b, o, none⟩) n c)) (hr : Row2 w b o n X Y) (hbd : bl ≠ d) (hbd2 : b ≠ d)
    (hb : ∀ j, j < n → (0 ≤ X j ∧ X j ≤ 1280) ∧ 0 ≤ Y j ∧ Y j ≤ 672) (hn1 : 1 ≤ n) (hn : n ≤ 12) (hd : Row1 w d od n (fun q => (q : Int))) (hf : Free w d) :
    Calls Try.prog 17 #[.slice (some ⟨d, od, none⟩) n cd, (.func (.func 18) #[] #[.pointer (some ⟨bl, 0, none⟩)])] w (AnsSort w d od n X Y) := by
  have HI := Lib.hid (fun lim => pdq_any bl b o n c d od cd X Y lim w hl hr hbd hbd2 hb hn1 hn hd hf)
  clear hl hr hb hd hf
  have w1' : IntKind.u64.wrap (n : Int) = (n : Int) := IntWalk.u64_in _ (by omega)
  go_enter Try.func17, Try.ntmps17
  go_wp2_with (go_at_call 26; refine (len_any (n : Int) _ (by omega) (by omega)).mono ?_; rintro e w1 ⟨⟨z, rfl⟩, rfl⟩)
  refine (HI.out _).mono ?_
  rintro e w2 ⟨rfl, h1, h2, h3⟩
  go_wp2_with fail
  go_end0
  exact ⟨rfl, h1, h2, h3⟩
end Go.Proofs.Ytbfhfjpfjkdcfaa
