/-
  What the laws' own helpers on slices of spots hand back: copies, comparisons, sizes, marks.
-/
import Derived.Test.YtljdhicmcmppgaaRows
import Derived.Test.YtljdhicmcmppgaaBase
import Derived.Test.YtljdhicmcmppgaaSpot
import Derived.Test.YtljdhicmcmppgaaSlice
import Derived.Deep.RegionHeld3
namespace Go.Proofs.Ytljdhicmcmppgaa
open Go.RowKit

end Go.Proofs.Ytljdhicmcmppgaa
