import Derived.ProofKit
import Derived.Lib.ItoaNum
namespace Go.Ab
def QA (cs:Array Value):Prop := ∃ t u,cs = #[.iface t u]
def WB:Nat → Option (Array Value → Prop):=fun b=>if b = 3 then some (fun cs=>cs = (Lib.pow10Tab.map fun z=>Value.int .u64 z).toArray) else none
def KJ:Nat → Option (Array Value → Prop):=fun b=>if b = 1 ∨ b = 2 then some QA else WB b
def yZ:Nat → Option (Array Value → Prop):=KJ
end Go.Ab
