import Derived.Test.YtgcncinnlmjgdaaGreatDoorMz33
import Derived.Test.YtgcncinnlmjgdaaGreatDoorMz8
import Derived.Test.YtgcncinnlmjgdaaGreatDoorMz7
import Derived.Test.YtgcncinnlmjgdaaGreatDoorMz34
set_option linter.unusedSimpArgs false
set_option linter.unusedVariables false
namespace Go.Proofs.YtgcncinnlmjgdaaGreatDoor
open Go.Ab Go.RowKit
theorem qgL:vY 3 = some fun cs=>cs = (Lib.pow10Tab.map fun z=>Value.int .u64 z).toArray:=by simp [vY,qlM,qnr]
theorem qbC:Tryz.prog.globalNamed "internal/strconv.uint64pow10" = some 3:=by kernel_rfl
theorem Yu (n:Int) (h0 : -9223372036854775808 ≤ n) (h1:n ≤ 9223372036854775807):jN C.P 93 [.v (.int .i64 n)] (.v (str (Lib.itoa n))):=by
 refine qa5 (by simp [AV.pure,AV.pure.pureL]) rfl fun F w vs hF hT hm=>?_
 obtain ⟨v,rfl⟩ : ∃ v,vs = [v]:=by
  match vs,hm.1 with
  | [v],_=>exact ⟨v,rfl⟩
 have hv:=(hm.2 0 v (.v (.int .i64 n)) rfl rfl).v_inv.1;subst hv
 refine (Tryz.strconv_Itoa n h0 h1 w (KG qbC qgL hF hT)).mono fun e w' ⟨he,k,os,hw⟩=>⟨he,?_⟩
 subst hw;exact ⟨rfl,rfl,rfl,(by show w.heap.size ≤ (w.heap ++ os).size;simp),fun j hj=>(by show (w.heap ++ os)[j]? = w.heap[j]?;exact Array.getElem?_append_left hj)⟩
theorem qcW {laid:List (String × DataW Unit)} {W:World} (h:laidMet Tryz.prog laid W) (hm:("internal/strconv.uint64pow10",Lib.tabData .u64 Lib.pow10Tab) ∈ laid) : ∀ b p,qnr b = some p → ∃ cs e fr,p cs ∧ W.heap[b]? = some (.cells cs e fr):=by
 intro b cs hb;unfold qnr at hb;split at hb
 ·rename_i he;subst he;injection hb with hb;subst hb;exact ⟨_,(qeT qbC (t:=270) (e:=252) (n:=20) (by kernel_rfl) (by kernel_rfl) (by kernel_rfl) (by kernel_rfl) (by kernel_rfl) h hm).imp fun e h=>h.imp fun fr h=>⟨rfl,h⟩⟩
 ·cases hb
theorem qcX {laid:List (String × DataW Unit)} {W:World} (h:laidMet Tryz.prog laid W) (hm:("internal/strconv.uint64pow10",Lib.tabData .u64 Lib.pow10Tab) ∈ laid) {u1 u2:String} {d1 d2:DataW Unit} (h1:("strconv.ErrSyntax",.iface u1 d1) ∈ laid) (h2:("strconv.ErrRange",.iface u2 d2) ∈ laid) : ∀ b p,vY b = some p → ∃ cs e fr,p cs ∧ W.heap[b]? = some (.cells cs e fr):=by
 intro b cs hb;unfold vY qlM at hb;split at hb
 ·rename_i he;injection hb with hb;subst hb;rcases he with rfl|rfl
  ·exact Kk (name := "strconv.ErrSyntax") (t:=161) (by kernel_rfl) (by kernel_rfl) Tryz.underlying161 h h1
  ·exact Kk (name := "strconv.ErrRange") (t:=161) (by kernel_rfl) (by kernel_rfl) Tryz.underlying161 h h2
 ·exact qcW h hm b cs hb
end Go.Proofs.YtgcncinnlmjgdaaGreatDoor
