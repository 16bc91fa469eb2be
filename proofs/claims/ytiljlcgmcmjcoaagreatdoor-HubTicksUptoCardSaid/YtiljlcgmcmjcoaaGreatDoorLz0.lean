import Derived.ProofKit
namespace Go.Ab
def Wa : Nat → Option (Array Value) := fun _ => none
end Go.Ab
