import Derived.Shelf.Small.Strs
import Derived.Shelf.Strings.Search1
import Derived.Test.YtahbbnfmbohmmaaDoorProg
namespace Go.Proofs
open Go.Shelf
end Go.Proofs
