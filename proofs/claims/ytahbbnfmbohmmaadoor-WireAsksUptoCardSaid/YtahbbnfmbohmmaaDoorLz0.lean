import Derived.ProofKit
import Derived.Lib.ItoaNum
namespace Go.Ab
def Jt (cs:Array Value):Prop := ∃ t u,cs = #[.iface t u]
def XU:Nat → Option (Array Value → Prop):=fun b=>if b = 3 then some (fun cs=>cs = (Lib.pow10Tab.map fun z=>Value.int .u64 z).toArray) else none
def Xd:Nat → Option (Array Value → Prop):=fun b=>if b = 1 ∨ b = 2 then some Jt else XU b
def yd:Nat → Option (Array Value → Prop):=Xd
end Go.Ab
