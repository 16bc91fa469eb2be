import Derived.Test.YtkkfilkmkdnboaaDoorMz26
import Derived.Test.YtkkfilkmkdnboaaDoorMz27
import Derived.Test.YtkkfilkmkdnboaaDoorMz29
/- Journals in the abstract layer, 13: laws JournalResets, JournalComes. -/
set_option linter.unusedSimpArgs false
set_option linter.unnecessarySimpa false
set_option linter.unusedVariables false
set_option maxHeartbeats 1000000
namespace Go.Proofs.YtkkfilkmkdnboaaDoor
open Go.Ab Go.RowKit
set_option maxRecDepth 10000
attribute [local irreducible] Awp Ops OpsX Wanted Red ExOk Go.Ab.Fin ACall Rz RzL RzRows Enters ResOk RenV RenVL ArgV ArgVL

theorem chooseN_lt (c : Int) {n : Nat} (h : 0 < n) : chooseN c n < n := Nat.mod_lt _ h
end Go.Proofs.YtkkfilkmkdnboaaDoor

/- Journals in the abstract layer, 14: laws, of what is handed in. -/
set_option linter.unusedSimpArgs false
set_option linter.unnecessarySimpa false
set_option linter.unusedVariables false
namespace Go.Proofs.YtkkfilkmkdnboaaDoor
open Go.Ab Go.RowKit

theorem law_jonce_all (ys : List AV) (h : TyAllW C.tab 140737488355328 [25, 9, 26, 26] ys) : AFn C.P 5 ys (.v (.bool true)) := by
  obtain ⟨_, _, rfl, h0, _, _, rfl, h1, _, _, rfl, h2, _, _, rfl, h3, rfl⟩ := h
  obtain ⟨j, rfl, hj⟩ := tyv_jou h0
  obtain ⟨s, rfl, hs⟩ := tyv_str h1
  obtain ⟨l, rfl, hl⟩ := tyv_chgs h2
  obtain ⟨m, rfl, hm⟩ := tyv_chgs h3
  exact law_jonce j s l m hj hl hm hs
end Go.Proofs.YtkkfilkmkdnboaaDoor
