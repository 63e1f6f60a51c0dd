/- The laws' functions on slices of integers: sizes, copies, comparisons. -/
import Derived.Test.YtbdhmadgflmhmaaDoorTabW
namespace Go.Proofs.YtbdhmadgflmhmaaDoor
open Go.RowKit
end Go.Proofs.YtbdhmadgflmhmaaDoor
