import Derived.Test.YtahbbnfmbohmmaaDoorMz2
import Derived.RangeFuncNested
set_option linter.unusedSimpArgs false
set_option linter.unnecessarySimpa false
set_option linter.unusedVariables false
namespace Go.Ab
open Go.RowKit
structure RoundKeeps (S:Nat) (W W' : World):Prop where
 size:W.heap.size ≤ W'.heap.size
 same : ∀ k,k < W.heap.size → S ≤ k → W'.heap[k]? = W.heap[k]?
end Go.Ab
