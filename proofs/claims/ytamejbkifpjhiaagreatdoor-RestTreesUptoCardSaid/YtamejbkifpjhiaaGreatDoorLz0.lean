import Derived.ProofKit
import Derived.Lib.ItoaNum
namespace Go.Ab
def v8 (cs:Array Value):Prop := ∃ t u,cs = #[.iface t u]
def qgA:Nat → Option (Array Value → Prop):=fun b=>if b = 3 then some (fun cs=>cs = (Lib.pow10Tab.map fun z=>Value.int .u64 z).toArray) else none
def qhm:Nat → Option (Array Value → Prop):=qgA
def KN:Nat → Option (Array Value → Prop):=qhm
end Go.Ab
