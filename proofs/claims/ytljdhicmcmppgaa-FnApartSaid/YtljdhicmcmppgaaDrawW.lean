/-
  The reference's draws of charts.
-/
import Derived.Test.YtljdhicmcmppgaaRows
import Derived.Test.YtljdhicmcmppgaaBase
import Derived.Test.YtljdhicmcmppgaaSpot
import Derived.Test.YtljdhicmcmppgaaSlice
import Derived.Test.YtljdhicmcmppgaaLawS
import Derived.Test.YtljdhicmcmppgaaMark
import Derived.Test.YtljdhicmcmppgaaInts
import Derived.Test.YtljdhicmcmppgaaIntsL
import Derived.Test.YtljdhicmcmppgaaTurned
import Derived.Test.YtljdhicmcmppgaaTrans
import Derived.BigQuiet
import Derived.Test.YtljdhicmcmppgaaCur
import Derived.Test.YtljdhicmcmppgaaDrawP
import Derived.Test.YtljdhicmcmppgaaOpen
import Derived.Test.YtljdhicmcmppgaaDrawV
import Derived.Test.YtljdhicmcmppgaaAppend
import Derived.Test.YtljdhicmcmppgaaAppendE
import Derived.Test.YtljdhicmcmppgaaSameForm
import Derived.Deep.LoopGhost
import Derived.Deep.Onto
import Derived.Deep.CutRange
import Derived.Deep.DeepCutAuto
import Derived.Deep.RegionHeld3
namespace Go.Proofs.Ytljdhicmcmppgaa
open Go.RowKit Go.ChangeShapes Go.WideShapes Go.Sort
theorem litc0 (W : World) (arr : Array Value) (t : TypeId) (i : Nat) (v : Value) (h : arr[i]? = some v) : (W.alloc (.cells arr t)).cell? ⟨W.heap.size, i, none⟩ = some v := by
  unfold World.cell?; rw [heap_alloc_new]; exact h
theorem litc1 (W : World) (o : Obj) (arr : Array Value) (t : TypeId) (i : Nat) (v : Value) (h : arr[i]? = some v) : ((W.alloc o).alloc (.cells arr t)).cell? ⟨W.heap.size + 1, i, none⟩ = some v := by
  have := litc0 (W.alloc o) arr t i v h
  rwa [World.size_alloc] at this
theorem litc2 (W : World) (o : Obj) (arr : Array Value) (t : TypeId) (i : Nat) (v : Value) (h : arr[i]? = some v) : ((W.alloc (.cells arr t)).alloc o).cell? ⟨W.heap.size, i, none⟩ = some v :=
  up_keep (below_alloc _ _) (litc0 W arr t i v h)
end Go.Proofs.Ytljdhicmcmppgaa
