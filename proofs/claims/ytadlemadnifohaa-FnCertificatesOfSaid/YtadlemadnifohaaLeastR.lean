/-
  The least matching of good costs, by their rows.
-/
import Derived.Test.YtadlemadnifohaaRows
import Derived.Test.YtadlemadnifohaaBase
import Derived.Test.YtadlemadnifohaaSpot
import Derived.Test.YtadlemadnifohaaSlice
import Derived.Test.YtadlemadnifohaaChart
import Derived.Test.YtadlemadnifohaaLawS
import Derived.Test.YtadlemadnifohaaMark
import Derived.Test.YtadlemadnifohaaOpen
import Derived.Test.YtadlemadnifohaaTrod
import Derived.Test.YtadlemadnifohaaInts
import Derived.Test.YtadlemadnifohaaIntsL
import Derived.Test.YtadlemadnifohaaTurned
import Derived.Test.YtadlemadnifohaaTrans
import Derived.Test.YtadlemadnifohaaAppend
import Derived.Test.YtadlemadnifohaaAppendE
import Derived.Test.YtadlemadnifohaaForm
import Derived.Test.YtadlemadnifohaaCopyI
import Derived.Test.YtadlemadnifohaaMatch
import Derived.Test.YtadlemadnifohaaRowsI
import Derived.Test.YtadlemadnifohaaCosts
import Derived.Test.YtadlemadnifohaaMatS
import Derived.Test.YtadlemadnifohaaMatchP
import Derived.Test.YtadlemadnifohaaMatchQ
import Derived.Test.YtadlemadnifohaaOnes
import Derived.Test.YtadlemadnifohaaTable
import Derived.Test.YtadlemadnifohaaLeast
import Derived.Test.YtadlemadnifohaaLeastM
namespace Go.Proofs.Ytadlemadnifohaa
open Go.RowKit Go.ChangeShapes Go.WideShapes Go.Sort
theorem leastMatching_r (v : Value) (n : Nat) (R : Nat → Nat) (F : Nat → Nat → Int) (w : World) (h : IRows w v n R F) (e : acB n R F = true) : Calls Try.prog 33 #[v] w (AnsI w n (lmP n F)) := by
  obtain ⟨⟨n1, n12⟩, _, hF⟩ := acB_iff e
  obtain ⟨b, o, c', B, O, C, rfl, hM⟩ := mat_of h e
  have := leastMatching_m b o c' n F B O C w hM n1 n12 (fun i k hi hk => by have := hF i k hi hk; omega) (tab_low (by omega) n12 hF 0)
  rw [tab_same n12 hF] at this
  exact this
theorem maLeast_r (v : Value) (n : Nat) (R : Nat → Nat) (F : Nat → Nat → Int) (w : World) (h : IRows w v n R F) (e : acB n R F = true) : Calls Try.prog 36 #[v] w (AnsII w n (lmP n F) (lmS n F)) := by
  obtain ⟨⟨n1, n12⟩, _, hF⟩ := acB_iff e
  obtain ⟨b, o, c', B, O, C, rfl, hM⟩ := mat_of h e
  exact maLeast_m b o c' n F B O C w hM n1 n12 (fun i k hi hk => by have := hF i k hi hk; omega) (tab_low (by omega) n12 hF 0)
end Go.Proofs.Ytadlemadnifohaa
