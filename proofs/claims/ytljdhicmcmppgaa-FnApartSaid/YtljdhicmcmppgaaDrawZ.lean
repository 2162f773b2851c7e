/-
  The reference's draws of charts, mostly valid ones.
-/
import Derived.Test.YtljdhicmcmppgaaRows
import Derived.Test.YtljdhicmcmppgaaBase
import Derived.Test.YtljdhicmcmppgaaSpot
import Derived.Test.YtljdhicmcmppgaaSlice
import Derived.Test.YtljdhicmcmppgaaLawS
import Derived.Test.YtljdhicmcmppgaaMark
import Derived.Test.YtljdhicmcmppgaaInts
import Derived.Test.YtljdhicmcmppgaaIntsL
import Derived.Test.YtljdhicmcmppgaaTurned
import Derived.Test.YtljdhicmcmppgaaTrans
import Derived.BigQuiet
import Derived.Test.YtljdhicmcmppgaaCur
import Derived.Test.YtljdhicmcmppgaaDrawP
import Derived.Test.YtljdhicmcmppgaaOpen
import Derived.Test.YtljdhicmcmppgaaDrawV
import Derived.Test.YtljdhicmcmppgaaAppend
import Derived.Test.YtljdhicmcmppgaaAppendE
import Derived.Test.YtljdhicmcmppgaaSameForm
import Derived.Deep.LoopGhost
import Derived.Deep.Onto
import Derived.Deep.CutRange
import Derived.Deep.DeepCutAuto
import Derived.Deep.RegionHeld3
import Derived.Test.YtljdhicmcmppgaaDrawW
namespace Go.Proofs.Ytljdhicmcmppgaa
open Go.RowKit Go.ChangeShapes Go.WideShapes Go.Sort
end Go.Proofs.Ytljdhicmcmppgaa
