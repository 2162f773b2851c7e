/-
  What the laws' own helpers on slices of spots hand back: copies, comparisons, sizes, marks.
-/
import Derived.Test.YtljbcfgecbonnaaRows
import Derived.Test.YtljbcfgecbonnaaBase
import Derived.Test.YtljbcfgecbonnaaSpot
import Derived.Test.YtljbcfgecbonnaaSlice
import Derived.Deep.RegionHeld3
namespace Go.Proofs.Ytljbcfgecbonnaa
open Go.RowKit

end Go.Proofs.Ytljbcfgecbonnaa
