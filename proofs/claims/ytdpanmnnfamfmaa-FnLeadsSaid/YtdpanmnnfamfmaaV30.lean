/- What a walk over a range over a function wants. -/
import Derived.RangeFuncNested
import Derived.RangeFuncBound
import Derived.RangeFuncCalls
import Derived.RangeFuncLeaves
import Derived.Shelf.Abstract
import Derived.Shelf.RegionOpen
import Derived.WalkKit
import Derived.OwnWalkIn
import Derived.TacticsInMore
import Derived.LoopNIn
import Derived.LoopIn
import Derived.Test.YtdpanmnnfamfmaaV20
import Derived.Test.YtdpanmnnfamfmaaD3
set_option linter.all false
namespace Go.V
open Go Go.RowKit
theorem cells_of_rows {α : Type} {enc : α → List PV} {S : Nat → Prop} {w : World} {b o rs k : Nat} {xs : List α} {x : α} (h : RelRows S w b rs o (xs.map enc)) (hx : xs[k]? = some x) : (enc x).length = rs ∧ RelAt S w b (o + k * rs) (enc x) :=
  relRows_getElem o _ k _ h (by rw [List.getElem?_map, hx]; rfl)
end Go.V
