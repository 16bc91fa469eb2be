import Derived.ProofKit
import Derived.Lib.ItoaNum
namespace Go.Ab
def J7 (cs:Array Value):Prop := ∃ t u,cs = #[.iface t u]
def VK:Nat → Option (Array Value → Prop):=fun b=>if b = 3 then some (fun cs=>cs = (Lib.pow10Tab.map fun z=>Value.int .u64 z).toArray) else none
def XX:Nat → Option (Array Value → Prop):=fun b=>if b = 1 ∨ b = 2 then some J7 else VK b
def yC:Nat → Option (Array Value → Prop):=XX
end Go.Ab
