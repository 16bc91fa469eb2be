import Derived.Test.YtahbbnfmbohmmaaDoorMz18
import Derived.Test.YtahbbnfmbohmmaaDoorMz13
import Derived.Test.YtahbbnfmbohmmaaDoorMz5
import Derived.Test.YtahbbnfmbohmmaaDoorMz19
set_option linter.unusedSimpArgs false
set_option linter.unusedVariables false
namespace Go.Proofs.YtahbbnfmbohmmaaDoor
open Go.Ab Go.RowKit
theorem X9:yZ 3 = some fun cs=>cs = (Lib.pow10Tab.map fun z=>Value.int .u64 z).toArray:=by simp [yZ,KJ,WB]
theorem Jt:Tryd.prog.globalNamed "internal/strconv.uint64pow10" = some 3:=by kernel_rfl
theorem zl (n:Int) (h0 : -9223372036854775808 ≤ n) (h1:n ≤ 9223372036854775807):zb C.P 53 [.v (.int .i64 n)] (.v (str (Lib.itoa n))):=by
 refine VS (by simp [AV.pure,AV.pure.pureL]) rfl fun F w vs hF hT hm=>?_
 obtain ⟨v,rfl⟩ : ∃ v,vs = [v]:=by
  match vs,hm.1 with
  | [v],_=>exact ⟨v,rfl⟩
 have hv:=(hm.2 0 v (.v (.int .i64 n)) rfl rfl).v_inv.1
 subst hv
 refine (Tryd.strconv_Itoa n h0 h1 w (wM Jt X9 hF hT)).mono fun e w' ⟨he,k,os,hw⟩=>⟨he,?_⟩
 subst hw
 exact ⟨rfl,rfl,rfl,(by show w.heap.size ≤ (w.heap ++ os).size;simp),fun j hj=>(by show (w.heap ++ os)[j]? = w.heap[j]?;exact Array.getElem?_append_left hj)⟩
theorem Ym {laid:List (String × DataW Unit)} {W:World} (h:laidMet Tryd.prog laid W) (hm:("internal/strconv.uint64pow10",Lib.tabData .u64 Lib.pow10Tab) ∈ laid) : ∀ b p,WB b = some p → ∃ cs e fr,p cs ∧ W.heap[b]? = some (.cells cs e fr):=by
 intro b cs hb
 unfold WB at hb
 split at hb
 ·rename_i he
  subst he
  injection hb with hb
  subst hb
  exact ⟨_,(Xi Jt (t:=137) (e:=123) (n:=20) (by kernel_rfl) (by kernel_rfl) (by kernel_rfl) (by kernel_rfl) (by kernel_rfl) h hm).imp fun e h=>h.imp fun fr h=>⟨rfl,h⟩⟩
 ·cases hb
theorem Yn {laid:List (String × DataW Unit)} {W:World} (h:laidMet Tryd.prog laid W) (hm:("internal/strconv.uint64pow10",Lib.tabData .u64 Lib.pow10Tab) ∈ laid) {u1 u2:String} {d1 d2:DataW Unit} (h1:("strconv.ErrSyntax",.iface u1 d1) ∈ laid) (h2:("strconv.ErrRange",.iface u2 d2) ∈ laid) : ∀ b p,yZ b = some p → ∃ cs e fr,p cs ∧ W.heap[b]? = some (.cells cs e fr):=by
 intro b cs hb
 unfold yZ KJ at hb
 split at hb
 ·rename_i he
  injection hb with hb
  subst hb
  rcases he with rfl|rfl
  ·exact wv (name := "strconv.ErrSyntax") (t:=90) (by kernel_rfl) (by kernel_rfl) Tryd.underlying90 h h1
  ·exact wv (name := "strconv.ErrRange") (t:=90) (by kernel_rfl) (by kernel_rfl) Tryd.underlying90 h h2
 ·exact Ym h hm b cs hb
end Go.Proofs.YtahbbnfmbohmmaaDoor
