import Derived.Test.YtnhpclmbhbblbaaGreatDoorMz23
import Derived.Test.YtnhpclmbhbblbaaGreatDoorMz9
import Derived.Test.YtnhpclmbhbblbaaGreatDoorMz5
import Derived.Test.YtnhpclmbhbblbaaGreatDoorMz24
set_option linter.unusedSimpArgs false
set_option linter.unusedVariables false
namespace Go.Proofs.YtnhpclmbhbblbaaGreatDoor
open Go.Ab Go.RowKit
theorem KP:Tryz.prog.globalNamed "internal/strconv.uint64pow10" = some 1:=by kernel_rfl
theorem XW {laid:List (String × DataW Unit)} {W:World} (h:laidMet Tryz.prog laid W) (hm:("internal/strconv.uint64pow10",Lib.tabData .u64 Lib.pow10Tab) ∈ laid) : ∀ b p,qbI b = some p → ∃ cs e fr,p cs ∧ W.heap[b]? = some (.cells cs e fr):=by
 intro b cs hb
 unfold qbI at hb
 split at hb
 ·rename_i he
  subst he
  injection hb with hb
  subst hb
  exact ⟨_,(V2 KP (t:=194) (e:=172) (n:=20) (by kernel_rfl) (by kernel_rfl) (by kernel_rfl) (by kernel_rfl) (by kernel_rfl) h hm).imp fun e h=>h.imp fun fr h=>⟨rfl,h⟩⟩
 ·cases hb
theorem XY {laid:List (String × DataW Unit)} {W:World} (h:laidMet Tryz.prog laid W) (hm:("internal/strconv.uint64pow10",Lib.tabData .u64 Lib.pow10Tab) ∈ laid) : ∀ b p,XX b = some p → ∃ cs e fr,p cs ∧ W.heap[b]? = some (.cells cs e fr):=XW h hm
end Go.Proofs.YtnhpclmbhbblbaaGreatDoor
