import Derived.ProofKit
import Derived.Lib.ItoaNum
namespace Go.Ab
def wG:Nat → Option (Array Value):=fun b=>if b = 1 then some (Lib.pow10Tab.map fun z=>Value.int .u64 z).toArray else none
end Go.Ab
