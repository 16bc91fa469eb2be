import Derived.Test.YtgcncinnlmjgdaaGreatDoorLz1
import Derived.Lib.LaidTab
set_option linter.unusedSimpArgs false
set_option linter.unusedVariables false
namespace Go.Ab
theorem WU {P:Program} {W:World} : ∀ {laid:List (String × DataW Unit)} {ps:List MemPlace},DataW.LaidVars P W laid ps → ∀ {name:String} {d:DataW Unit},(name,d) ∈ laid →
  ∃ g t cs fuel p,P.globalNamed name = some g ∧ (P.globals[g]?).map (·.type) = some t ∧ W.var? P name = some cs ∧ DataW.trod (fun _=>()) P W 0 (fun _=>true) false fuel t cs.toList = some (d,p)
 | [],_,_,_,_,hm=>by cases hm
 | (n,d0) :: r,ps,h,name,d,hm=>by
   obtain ⟨g,t,cs,fuel,p,q,h1,h2,h3,h4,h5,_⟩:=h;rcases List.mem_cons.1 hm with e|hm
   ·injection e with e1 e2;subst e1;subst e2;exact ⟨g,t,cs,fuel,p,h1,h2,h3,h4⟩
   ·exact WU h5 hm
theorem qeT {P:Program} {W:World} {laid:List (String × DataW Unit)} {name:String} {k:IntKind} {zs:List Int} {g:Nat} {t e:TypeId} {n:Nat}
  (hg:P.globalNamed name = some g) (hty:(P.globals[g]?).map (·.type) = some t) (ht:P.underlying t = some (.array n e)) (he:P.underlying e = some (.int k)) (hce:P.cellsOf e = 1) (hct:P.cellsOf t = n)
  (h:laidMet P laid W) (hm:(name,Lib.tabData k zs) ∈ laid) : ∃ e fr,W.heap[g]? = some (.cells (zs.map fun z=>Value.int k z).toArray e fr):=by
 obtain ⟨ps,h,_⟩:=h;obtain ⟨g',t',cs,fuel,p,hg',ht',hvar,hd⟩:=WU h hm;obtain rfl:=Option.some.inj (hg.symm.trans hg');obtain rfl:=Option.some.inj (hty.symm.trans ht');have hcs:=Lib.cells_of_tab ht he hce hct hd;unfold World.var? at hvar;rw [hg'] at hvar;simp only [Option.bind_some] at hvar;split at hvar
 ·rename_i cs' e' fr' heq;injection hvar with hvar;subst hvar;refine ⟨e',fr',?_⟩;rw [heq, ← hcs]
 ·cases hvar
theorem KG {P:Program} {W:World} {F:Still} {name:String} {k:IntKind} {zs:List Int} {g:Nat} (hg:P.globalNamed name = some g) (ht:vY g = some fun cs=>cs = (zs.map fun z=>Value.int k z).toArray)
  (hF : ∀ b o,F b = some o → W.heap[b]? = some o) (hT : ∀ b p,vY b = some p → ∃ cs e fr,p cs ∧ F b = some (.cells cs e fr)):Lib.TabIs P W name k zs:=by
 obtain ⟨cs,e,fr,rfl,h⟩:=hT g _ ht;unfold Lib.TabIs World.var?;rw [hg];simp only [Option.bind_some];rw [hF g _ h]
theorem Kk {P:Program} {W:World} {laid:List (String × DataW Unit)} {name u:String} {d:DataW Unit} {g:Nat} {t:TypeId} {m:_} (hg:P.globalNamed name = some g) (hty:(P.globals[g]?).map (·.type) = some t) (ht:P.underlying t = some (.interface m))
  (h:laidMet P laid W) (hm:(name,DataW.iface u d) ∈ laid) : ∃ cs e fr,QE cs ∧ W.heap[g]? = some (.cells cs e fr):=by
 obtain ⟨ps,h,_⟩:=h;obtain ⟨g',t',cs,fuel,p,hg',ht',hvar,hd⟩:=WU h hm;obtain rfl:=Option.some.inj (hg.symm.trans hg');obtain rfl:=Option.some.inj (hty.symm.trans ht')
 have hcs:QE cs:=by
  cases fuel with
  | zero=>cases hd
  | succ fuel =>
    unfold DataW.trod at hd;rw [ht] at hd
    split at hd<;>first
     | (cases hd;done)
     | (rename_i h1 _;injection h1 with h1;cases h1;done)
     | (rename_i h1;injection h1 with h1;cases h1;done)
     | skip
    all_goals (rename_i h1 h2;exact ⟨_,_,by rw [← Array.toArray_toList (xs:=cs),h2]⟩)
 unfold World.var? at hvar;rw [hg'] at hvar;simp only [Option.bind_some] at hvar;split at hvar
 ·rename_i cs' e' fr' heq;injection hvar with hvar;subst hvar;exact ⟨_,e',fr',hcs,heq⟩
 ·cases hvar
end Go.Ab
