import Derived.ProofKit
namespace Go.Ab
def qag:Nat → Option (Array Value):=fun _=>none
end Go.Ab
