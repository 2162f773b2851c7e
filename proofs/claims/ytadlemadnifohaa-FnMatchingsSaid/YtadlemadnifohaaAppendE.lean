/- Nothing here. -/
import Derived.Test.YtadlemadnifohaaRows
import Derived.Test.YtadlemadnifohaaBase
import Derived.Test.YtadlemadnifohaaSlice
import Derived.Test.YtadlemadnifohaaGrow
import Derived.Test.YtadlemadnifohaaAppend
