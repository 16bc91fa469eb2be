import Derived.ProofKit
import Derived.Lib.ItoaNum
namespace Go.Ab
def J1 (cs:Array Value):Prop := ∃ t u,cs = #[.iface t u]
def qbI:Nat → Option (Array Value → Prop):=fun b=>if b = 1 then some (fun cs=>cs = (Lib.pow10Tab.map fun z=>Value.int .u64 z).toArray) else none
def qcr:Nat → Option (Array Value → Prop):=qbI
def XX:Nat → Option (Array Value → Prop):=qcr
end Go.Ab
