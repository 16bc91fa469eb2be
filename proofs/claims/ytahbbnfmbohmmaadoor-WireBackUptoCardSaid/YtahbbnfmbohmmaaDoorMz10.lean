import Derived.Test.YtahbbnfmbohmmaaDoorMz6
import Derived.Test.YtahbbnfmbohmmaaDoorMz5
import Derived.Maps.OwnRows
import Derived.Maps.Ext
import Derived.Sort.KeysCollected
import Derived.Sort.OwnSorted
import Derived.Lib.SlMapMerge
import Derived.Test.YtahbbnfmbohmmaaDoorMz9
set_option linter.unusedSimpArgs false
set_option linter.unusedVariables false
namespace Go.Ab
open Go.RowKit Go.Maps Go.WideElems Go.WideShapes
open Go.WideMaps (keyOf_string_mk)
def YS (v:Value):Option (DataW Value × List MemPlace):=some (.held v,[])
def qaM (P:Program) (k:TypeId) (es:Array MapEntry):DataW Value := .map ((es.toList.map (rg P k YS)).foldr DataW.insert [])
section
variable {P:Program} {k:TypeId} {F:Still} {ρ:Places} {es:Array MapEntry} {clock:Nat} {l:List (List UInt8 × AV)}
theorem MapIn.of_mem (h:MapIn F ρ es clock l) {e:MapEntry} (he:e ∈ es.toList) : ∃ x,x ∈ l ∧ e.key = .string ⟨x.1.toArray⟩ ∧ M F ρ e.val x.2:=by
 obtain ⟨i,hi,rfl⟩:=List.getElem_of_mem he
 have hi' : i < es.size:=by simpa using hi
 have hx:=List.getElem?_eq_getElem (l:=l) (i:=i) (by rw [← h.len];exact hi')
 have:=h.ents i _ _ (Array.getElem?_eq_getElem hi') hx
 rw [Array.getElem_toList]
 exact ⟨_,List.getElem_mem _,this⟩
theorem Wu (hk:P.underlying k = some .string) {e:MapEntry} {s:List UInt8} (he:e.key = .string ⟨s.toArray⟩) (hs:s.length ≤ maxLen):rd P k YS e = some (.string s,.held e.val):=by
 have h1:=keyOf_string_mk (P:=P) hk (s:=⟨s.toArray⟩) (by show s.toArray.size ≤ maxLen;simpa using hs)
 unfold Go.WideElems.rd
 rw [he]
 rw [show keyOf P k (.string ⟨s.toArray⟩) = some (.string s) from h1]
 rfl
theorem MapIn.fit (hk:P.underlying k = some .string) (h:MapIn F ρ es clock l) (hl:l.length ≤ maxLen) (hks : ∀ x,x ∈ l → x.1.length ≤ maxLen):Fit P k YS es clock :=
 ⟨by rw [h.len];exact hl,h.stamp,fun e he=>by
  obtain ⟨x,hx,h1,_⟩:=h.of_mem he
  exact ⟨_,Wu hk h1 (hks x hx)⟩⟩
theorem MapIn.size (hk:P.underlying k = some .string) (h:MapIn F ρ es clock l):Maps.size (qaM P k es) = l.length:=by
 have h1:=(sorted_perm (es.toList.map (rg P k YS))).length_eq
 show ((es.toList.map (rg P k YS)).foldr DataW.insert []).length = _
 rw [h1,List.length_map,Array.length_toList,h.len]
end
def jk (ks:List (List UInt8)):List (List UInt8 × AV):=ks.map fun s=>(s,.junk)
theorem wS (ks:List (List UInt8)) : ∀ e,e ∈ jk ks → e.2.pure = true:=fun e he=>by
 obtain ⟨x,_,rfl⟩:=List.mem_map.1 he;rfl
section
variable {P:Program} {k:TypeId} {F:Still} {ρ:Places} {es:Array MapEntry} {clock:Nat} {l:List (List UInt8 × AV)}
end
end Go.Ab
set_option linter.unusedSimpArgs false
set_option linter.unusedVariables false
namespace Go.Ab
open Go.RowKit
section keeps8
variable {L:List (Nat × Nat)} {nh:Nat} {σ:St} {i:Nat}
end keeps8
end Go.Ab
set_option linter.unusedSimpArgs false
set_option linter.unusedVariables false
namespace Go.Ab
open Go.RowKit
theorem KC {L:List (Nat × Nat)} {nh:Nat} {rows:List (List AV)}:jl L nh (.sl true rows) (.sl false rows):=fun F ρ ρ' v _ hm=>by
 have hm:=hm.moved ρ' rfl
 cases hm with
 | sl0 _ a cap ex he hn=>exact .sl0 _ a cap false (fun e=>by cases e) hn
 | sl _ b off cap c e fr ex k rows hb hc he hs hk h=>exact .sl _ b off cap c e fr false k rows hb hc (fun e=>by cases e) hs hk h
theorem W6 {L:List (Nat × Nat)} {nh:Nat} {σ:St} {i:Nat} {rows:List (List AV)} {l:List (Nat × AV)} (hl:yv L nh σ l) (hx:qn σ.ts i = .sl true rows:=by rfl):yv L nh σ ((i,.sl false rows) :: l):=xV hx KC hl
section ops
variable {C:Cx} {N d:Nat} {ty:TypeId} {pos:String} {af:Array Edge} {gd:Option (Nat × Bool)} {t:Nat → AV} {h:Nat → HB}
end ops
end Go.Ab
