/-
  What the laws' own helpers on slices of spots hand back: copies, comparisons, sizes, marks.
-/
import Derived.Test.YtadlemadnifohaaRows
import Derived.Test.YtadlemadnifohaaBase
import Derived.Test.YtadlemadnifohaaSpot
import Derived.Test.YtadlemadnifohaaSlice
import Derived.Deep.RegionHeld3
namespace Go.Proofs.Ytadlemadnifohaa
open Go.RowKit

end Go.Proofs.Ytadlemadnifohaa
