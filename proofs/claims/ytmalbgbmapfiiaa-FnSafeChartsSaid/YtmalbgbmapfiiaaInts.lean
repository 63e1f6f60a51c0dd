/- The laws' functions on slices of integers: sizes, copies, comparisons. -/
import Derived.Test.YtmalbgbmapfiiaaTabW
namespace Go.Proofs.Ytmalbgbmapfiiaa
open Go.RowKit
end Go.Proofs.Ytmalbgbmapfiiaa
