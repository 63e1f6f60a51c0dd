/- Contracts of SegmentsMeet and SideOf, both sides. -/
import Derived.Test.YtmgbbkglafnibaaSegD
namespace Go.Proofs.Ytmgbbkglafnibaa
open Go.RowKit
def smB (a b c d e f g h : Int) : Bool := okSg a b c d && okSg e f g h && meetB a b c d e f g h
def soN (a b c d x y : Int) : Int := if (okSg a b c d && okPt x y) = true then sgI (crs a b c d x y) else 0
def soE (a b c d x y : Int) : Int := if (okSg a b c d && okPt x y) = true then 0 else 1
end Go.Proofs.Ytmgbbkglafnibaa
