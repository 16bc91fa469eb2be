import Derived.ProofKit
import Derived.Lib.ItoaNum
namespace Go.Ab
def Jr (cs:Array Value):Prop := ∃ t u,cs = #[.iface t u]
def XS:Nat → Option (Array Value → Prop):=fun b=>if b = 3 then some (fun cs=>cs = (Lib.pow10Tab.map fun z=>Value.int .u64 z).toArray) else none
def Xb:Nat → Option (Array Value → Prop):=fun b=>if b = 1 ∨ b = 2 then some Jr else XS b
def yb:Nat → Option (Array Value → Prop):=Xb
end Go.Ab
