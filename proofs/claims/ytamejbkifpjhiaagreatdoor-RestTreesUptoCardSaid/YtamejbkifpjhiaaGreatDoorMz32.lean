import Derived.Test.YtamejbkifpjhiaaGreatDoorLz1
import Derived.Lib.LaidTab
set_option linter.unusedSimpArgs false
set_option linter.unusedVariables false
namespace Go.Ab
theorem WD {P:Program} {W:World} : ∀ {laid:List (String × DataW Unit)} {ps:List MemPlace},DataW.LaidVars P W laid ps → ∀ {name:String} {d:DataW Unit},(name,d) ∈ laid →
  ∃ g t cs fuel p,P.globalNamed name = some g ∧ (P.globals[g]?).map (·.type) = some t ∧ W.var? P name = some cs ∧ DataW.trod (fun _=>()) P W 0 (fun _=>true) false fuel t cs.toList = some (d,p)
 | [],_,_,_,_,hm=>by cases hm
 | (n,d0) :: r,ps,h,name,d,hm=>by
   obtain ⟨g,t,cs,fuel,p,q,h1,h2,h3,h4,h5,_⟩:=h
   rcases List.mem_cons.1 hm with e|hm
   ·injection e with e1 e2
    subst e1;subst e2
    exact ⟨g,t,cs,fuel,p,h1,h2,h3,h4⟩
   ·exact WD h5 hm
theorem qan {P:Program} {W:World} {laid:List (String × DataW Unit)} {name:String} {k:IntKind} {zs:List Int} {g:Nat} {t e:TypeId} {n:Nat}
  (hg:P.globalNamed name = some g) (hty:(P.globals[g]?).map (·.type) = some t) (ht:P.underlying t = some (.array n e)) (he:P.underlying e = some (.int k)) (hce:P.cellsOf e = 1) (hct:P.cellsOf t = n)
  (h:laidMet P laid W) (hm:(name,Lib.tabData k zs) ∈ laid) : ∃ e fr,W.heap[g]? = some (.cells (zs.map fun z=>Value.int k z).toArray e fr):=by
 obtain ⟨ps,h,_⟩:=h
 obtain ⟨g',t',cs,fuel,p,hg',ht',hvar,hd⟩:=WD h hm
 obtain rfl:=Option.some.inj (hg.symm.trans hg')
 obtain rfl:=Option.some.inj (hty.symm.trans ht')
 have hcs:=Lib.cells_of_tab ht he hce hct hd
 unfold World.var? at hvar
 rw [hg'] at hvar
 simp only [Option.bind_some] at hvar
 split at hvar
 ·rename_i cs' e' fr' heq
  injection hvar with hvar
  subst hvar
  refine ⟨e',fr',?_⟩
  rw [heq, ← hcs]
 ·cases hvar
end Go.Ab
