import Derived.ProofKit
/- Blocks that the program's text lays, and nobody writes to. -/
import Derived.Lib.ItoaNum
namespace Go.Ab
def tables : Nat → Option (Array Value) := fun b => if b = 3 then some (Lib.pow10Tab.map fun z => Value.int .u64 z).toArray else none
end Go.Ab
