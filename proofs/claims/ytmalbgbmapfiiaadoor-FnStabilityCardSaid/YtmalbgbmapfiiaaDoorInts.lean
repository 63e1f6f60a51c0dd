/- The laws' functions on slices of integers: sizes, copies, comparisons. -/
import Derived.Test.YtmalbgbmapfiiaaDoorTabW
namespace Go.Proofs.YtmalbgbmapfiiaaDoor
open Go.RowKit
end Go.Proofs.YtmalbgbmapfiiaaDoor
