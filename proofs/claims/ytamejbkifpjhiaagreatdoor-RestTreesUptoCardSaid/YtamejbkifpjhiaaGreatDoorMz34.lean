import Derived.Test.YtamejbkifpjhiaaGreatDoorMz32
import Derived.Test.YtamejbkifpjhiaaGreatDoorMz7
import Derived.Test.YtamejbkifpjhiaaGreatDoorMz6
import Derived.Test.YtamejbkifpjhiaaGreatDoorMz33
set_option linter.unusedSimpArgs false
set_option linter.unusedVariables false
namespace Go.Proofs.YtamejbkifpjhiaaGreatDoor
open Go.Ab Go.RowKit
theorem qcT:Tryz.prog.globalNamed "internal/strconv.uint64pow10" = some 3:=by kernel_rfl
theorem KM {laid:List (String × DataW Unit)} {W:World} (h:laidMet Tryz.prog laid W) (hm:("internal/strconv.uint64pow10",Lib.tabData .u64 Lib.pow10Tab) ∈ laid) : ∀ b p,qgA b = some p → ∃ cs e fr,p cs ∧ W.heap[b]? = some (.cells cs e fr):=by
 intro b cs hb
 unfold qgA at hb
 split at hb
 ·rename_i he
  subst he
  injection hb with hb
  subst hb
  exact ⟨_,(qan qcT (t:=254) (e:=218) (n:=20) (by kernel_rfl) (by kernel_rfl) (by kernel_rfl) (by kernel_rfl) (by kernel_rfl) h hm).imp fun e h=>h.imp fun fr h=>⟨rfl,h⟩⟩
 ·cases hb
theorem KO {laid:List (String × DataW Unit)} {W:World} (h:laidMet Tryz.prog laid W) (hm:("internal/strconv.uint64pow10",Lib.tabData .u64 Lib.pow10Tab) ∈ laid) : ∀ b p,KN b = some p → ∃ cs e fr,p cs ∧ W.heap[b]? = some (.cells cs e fr):=KM h hm
end Go.Proofs.YtamejbkifpjhiaaGreatDoor
