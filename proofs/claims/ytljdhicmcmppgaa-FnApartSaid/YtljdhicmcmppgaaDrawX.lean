/-
  The reference's draws of counts, gaps and performers.
-/
import Derived.Test.YtljdhicmcmppgaaRows
import Derived.Test.YtljdhicmcmppgaaBase
import Derived.Test.YtljdhicmcmppgaaSpot
import Derived.Test.YtljdhicmcmppgaaSlice
import Derived.Test.YtljdhicmcmppgaaLawS
import Derived.Test.YtljdhicmcmppgaaMark
import Derived.Test.YtljdhicmcmppgaaInts
import Derived.Test.YtljdhicmcmppgaaIntsL
import Derived.Test.YtljdhicmcmppgaaTurned
import Derived.Test.YtljdhicmcmppgaaTrans
import Derived.BigQuiet
import Derived.Test.YtljdhicmcmppgaaCur
import Derived.Test.YtljdhicmcmppgaaDrawP
namespace Go.Proofs.Ytljdhicmcmppgaa
open Go.RowKit Go.ChangeShapes Go.WideShapes Go.Sort

end Go.Proofs.Ytljdhicmcmppgaa
