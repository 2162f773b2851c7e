/-
  Pieces of a function's code.
-/
import Derived.Test.YtljbcfgecbonnaaRows
import Derived.Test.YtljbcfgecbonnaaBase
namespace Go.Proofs.Ytljbcfgecbonnaa

/-- The region with number n in a code. -/
def findRegion (n : Nat) : Code → Option Code
  | .region id l b => if id = n then some (.region id l b) else none
  | .seq a b => match findRegion n a with
    | some c => some c
    | none => findRegion n b
  | .cond _ a b => match findRegion n a with
    | some c => some c
    | none => findRegion n b
  | .loop c => findRegion n c
  | .block _ c => findRegion n c
  | .scope c => findRegion n c
  | _ => none
end Go.Proofs.Ytljbcfgecbonnaa
