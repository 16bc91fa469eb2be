import Derived.ProofKit
namespace Go.Ab
def Wc : Nat → Option (Array Value) := fun _ => none
end Go.Ab
