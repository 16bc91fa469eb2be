import Derived.Shelf.LaysM
import Derived.Shelf.Strconv.Itoa3
import Derived.Test.YtamejbkifpjhiaaGreatDoorProg
namespace Go.Proofs
open Go.Shelf
end Go.Proofs
