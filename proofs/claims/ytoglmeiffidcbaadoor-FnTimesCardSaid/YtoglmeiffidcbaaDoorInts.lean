/- The laws' functions on slices of integers: sizes, copies, comparisons. -/
import Derived.Test.YtoglmeiffidcbaaDoorTabW
namespace Go.Proofs.YtoglmeiffidcbaaDoor
open Go.RowKit
end Go.Proofs.YtoglmeiffidcbaaDoor
