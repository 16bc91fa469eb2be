import Derived.ProofKit
/- Blocks that the program's text lays, and nobody writes to. -/
namespace Go.Ab
def tables : Nat → Option (Array Value) := fun _ => none
end Go.Ab
