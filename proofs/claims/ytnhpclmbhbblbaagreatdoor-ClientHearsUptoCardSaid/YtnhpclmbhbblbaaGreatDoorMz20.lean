import Derived.Test.YtnhpclmbhbblbaaGreatDoorMz18
import Derived.Test.YtnhpclmbhbblbaaGreatDoorMz7
import Derived.Test.YtnhpclmbhbblbaaGreatDoorMz6
import Derived.Test.YtnhpclmbhbblbaaGreatDoorMz19
set_option linter.unusedSimpArgs false
set_option linter.unusedVariables false
namespace Go.Proofs.YtnhpclmbhbblbaaGreatDoor
open Go.Ab Go.RowKit
theorem qbs:wG 1 = some (Lib.pow10Tab.map fun z=>Value.int .u64 z).toArray:=by simp [wG]
theorem Kb:Tryz.prog.globalNamed "internal/strconv.uint64pow10" = some 1:=by kernel_rfl
theorem qgl (n:Int) (h0 : -9223372036854775808 ≤ n) (h1:n ≤ 9223372036854775807):yO C.P 81 [.v (.int .i64 n)] (.v (str (Lib.itoa n))):=by
 refine ZG (by simp [AV.pure,AV.pure.pureL]) rfl fun F w vs hF hT hm=>?_
 obtain ⟨v,rfl⟩ : ∃ v,vs = [v]:=by
  match vs,hm.1 with
  | [v],_=>exact ⟨v,rfl⟩
 have hv:=(hm.2 0 v (.v (.int .i64 n)) rfl rfl).v_inv.1
 subst hv
 refine (Tryz.strconv_Itoa n h0 h1 w (X4 Kb qbs hF hT)).mono fun e w' ⟨he,k,os,hw⟩=>⟨he,?_⟩
 subst hw
 exact ⟨rfl,rfl,rfl,(by show w.heap.size ≤ (w.heap ++ os).size;simp),fun j hj=>(by show (w.heap ++ os)[j]? = w.heap[j]?;exact Array.getElem?_append_left hj)⟩
theorem K0 {laid:List (String × DataW Unit)} {W:World} (h:laidMet Tryz.prog laid W) (hm:("internal/strconv.uint64pow10",Lib.tabData .u64 Lib.pow10Tab) ∈ laid) : ∀ b cs,wG b = some cs → ∃ e fr,W.heap[b]? = some (.cells cs e fr):=by
 intro b cs hb
 unfold wG at hb
 split at hb
 ·rename_i he
  subst he
  injection hb with hb
  subst hb
  exact qax Kb (t:=194) (e:=172) (n:=20) (by kernel_rfl) (by kernel_rfl) (by kernel_rfl) (by kernel_rfl) (by kernel_rfl) h hm
 ·cases hb
end Go.Proofs.YtnhpclmbhbblbaaGreatDoor
