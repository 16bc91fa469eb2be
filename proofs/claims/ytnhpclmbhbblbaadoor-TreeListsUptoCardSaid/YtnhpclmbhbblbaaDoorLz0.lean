import Derived.ProofKit
namespace Go.Ab
def XK:Nat → Option (Array Value):=fun _=>none
end Go.Ab
