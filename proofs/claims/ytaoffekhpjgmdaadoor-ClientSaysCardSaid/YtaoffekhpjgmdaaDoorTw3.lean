/- Deltas: SameChanges, Patch; the laws DeltaDiffs and DeltaPatches, walked. -/
import Derived.Test.YtaoffekhpjgmdaaDoorTw2
import Derived.Test.YtaoffekhpjgmdaaDoorSc
import Derived.Test.YtaoffekhpjgmdaaDoorTv1
set_option linter.unusedSimpArgs false
set_option linter.unnecessarySimpa false
set_option linter.unusedVariables false
set_option maxHeartbeats 1000000
namespace Go.Proofs.YtaoffekhpjgmdaaDoor
open Go.Ab Go.RowKit
set_option maxRecDepth 10000
attribute [local irreducible] Awp Ops OpsX Wanted Red ExOk Go.Ab.Fin ACall Rz RzL RzRows Enters ResOk RenV RenVL ArgV ArgVL

theorem raw_len {a b : List Ent} (ha : Right a) (hb : Right b) : (rawD a b).length ≤ 120 := by
  have h1 := gones_len a b
  have h2 : (b.filter fun x => !stays a x).length ≤ b.length := List.length_filter_le ..
  have := ha.len
  have := hb.len
  simp only [rawD, List.length_append, List.length_map]; omega
/-- Changes, one after the other, each checked. -/
def patchR (v : Int) : List Ent → List Chg → List Ent × Int
  | t, [] => (t, 0)
  | t, c :: l => if applyE t c v = 0 then patchR v (doneL t c v) l else ([], applyE t c v)
def patchT (v : Int) (t : List Ent) (l : List Chg) : List Ent × Int := if ¬ treeErr t = 0 then ([], treeErr t) else if 120 < l.length then ([], 2) else patchR v t l
theorem patch_drop {v : Int} {t : List Ent} {l : List Chg} {i : Nat} (h : i < l.length) : patchR v t (l.drop i) = if applyE t l[i] v = 0 then patchR v (doneL t l[i] v) (l.drop (i + 1)) else ([], applyE t l[i] v) := by
  rw [List.drop_eq_getElem_cons h]; rfl
def resP (r : List Ent × Int) : AV := .tup [entAV r.1, .v (.int .i64 r.2)]
end Go.Proofs.YtaoffekhpjgmdaaDoor
