import Derived.Test.YtnhpclmbhbblbaaGreatDoorMz31
import Derived.Test.YtnhpclmbhbblbaaGreatDoorMz9
import Derived.Test.YtnhpclmbhbblbaaGreatDoorMz5
import Derived.Test.YtnhpclmbhbblbaaGreatDoorMz32
set_option linter.unusedSimpArgs false
set_option linter.unusedVariables false
namespace Go.Proofs.YtnhpclmbhbblbaaGreatDoor
open Go.Ab Go.RowKit
theorem KT:Tryz.prog.globalNamed "internal/strconv.uint64pow10" = some 1:=by kernel_rfl
theorem XB {laid:List (String × DataW Unit)} {W:World} (h:laidMet Tryz.prog laid W) (hm:("internal/strconv.uint64pow10",Lib.tabData .u64 Lib.pow10Tab) ∈ laid) : ∀ b cs,JZ b = some cs → ∃ e fr,W.heap[b]? = some (.cells cs e fr):=by
 intro b cs hb
 unfold JZ at hb
 split at hb
 ·rename_i he
  subst he
  injection hb with hb
  subst hb
  exact X6 KT (t:=194) (e:=172) (n:=20) (by kernel_rfl) (by kernel_rfl) (by kernel_rfl) (by kernel_rfl) (by kernel_rfl) h hm
 ·cases hb
end Go.Proofs.YtnhpclmbhbblbaaGreatDoor
