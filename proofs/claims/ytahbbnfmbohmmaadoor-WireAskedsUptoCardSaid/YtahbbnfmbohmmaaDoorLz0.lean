import Derived.ProofKit
import Derived.Lib.ItoaNum
namespace Go.Ab
def wK (cs:Array Value):Prop := ∃ t u,cs = #[.iface t u]
def Z5:Nat → Option (Array Value → Prop):=fun b=>if b = 3 then some (fun cs=>cs = (Lib.pow10Tab.map fun z=>Value.int .u64 z).toArray) else none
def Zl:Nat → Option (Array Value → Prop):=fun b=>if b = 1 ∨ b = 2 then some wK else Z5 b
def yw:Nat → Option (Array Value → Prop):=Zl
end Go.Ab
