import Derived.ProofKit
import Derived.Lib.ItoaNum
namespace Go.Ab
def QE (cs:Array Value):Prop := ∃ t u,cs = #[.iface t u]
def qnr:Nat → Option (Array Value → Prop):=fun b=>if b = 3 then some (fun cs=>cs = (Lib.pow10Tab.map fun z=>Value.int .u64 z).toArray) else none
def qlM:Nat → Option (Array Value → Prop):=fun b=>if b = 1 ∨ b = 2 then some QE else qnr b
def vY:Nat → Option (Array Value → Prop):=qlM
end Go.Ab
