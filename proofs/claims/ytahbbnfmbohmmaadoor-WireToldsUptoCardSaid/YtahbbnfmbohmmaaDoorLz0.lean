import Derived.ProofKit
import Derived.Lib.ItoaNum
namespace Go.Ab
def QT (cs:Array Value):Prop := ∃ t u,cs = #[.iface t u]
def qae:Nat → Option (Array Value → Prop):=fun b=>if b = 3 then some (fun cs=>cs = (Lib.pow10Tab.map fun z=>Value.int .u64 z).toArray) else none
def Wk:Nat → Option (Array Value → Prop):=fun b=>if b = 1 ∨ b = 2 then some QT else qae b
def xk:Nat → Option (Array Value → Prop):=Wk
end Go.Ab
