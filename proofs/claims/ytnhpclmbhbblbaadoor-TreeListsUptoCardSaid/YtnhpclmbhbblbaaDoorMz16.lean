import Derived.Test.YtnhpclmbhbblbaaDoorMz15
import Derived.Test.YtnhpclmbhbblbaaDoorMz6
import Derived.Maps.OwnRows
import Derived.Maps.Ext
import Derived.Sort.KeysCollected
import Derived.Sort.OwnSorted
import Derived.Lib.SlMapMerge
set_option linter.unusedSimpArgs false
set_option linter.unusedVariables false
namespace Go.Ab
open Go.RowKit Go.Maps Go.WideElems Go.WideShapes
open Go.WideMaps (keyOf_string_mk)
def ww (v:Value):Option (DataW Value × List MemPlace):=some (.held v,[])
def j1 (s:List UInt8):List AV:=[.v (str s)]
def YA (P:Program) (k:TypeId) (es:Array MapEntry):DataW Value := .map ((es.toList.map (rg P k ww)).foldr DataW.insert [])
section
variable {P:Program} {k:TypeId} {F:Still} {ρ:Places} {es:Array MapEntry} {clock:Nat} {l:List (List UInt8 × AV)}
theorem MapIn.of_mem (h:MapIn F ρ es clock l) {e:MapEntry} (he:e ∈ es.toList) : ∃ x,x ∈ l ∧ e.key = .string ⟨x.1.toArray⟩ ∧ M F ρ e.val x.2:=by
 obtain ⟨i,hi,rfl⟩:=List.getElem_of_mem he
 have hi' : i < es.size:=by simpa using hi
 have hx:=List.getElem?_eq_getElem (l:=l) (i:=i) (by rw [← h.len];exact hi')
 have:=h.ents i _ _ (Array.getElem?_eq_getElem hi') hx
 rw [Array.getElem_toList]
 exact ⟨_,List.getElem_mem _,this⟩
theorem X0 (hk:P.underlying k = some .string) {e:MapEntry} {s:List UInt8} (he:e.key = .string ⟨s.toArray⟩) (hs:s.length ≤ maxLen):rd P k ww e = some (.string s,.held e.val):=by
 have h1:=keyOf_string_mk (P:=P) hk (s:=⟨s.toArray⟩) (by show s.toArray.size ≤ maxLen;simpa using hs)
 unfold Go.WideElems.rd
 rw [he]
 rw [show keyOf P k (.string ⟨s.toArray⟩) = some (.string s) from h1]
 rfl
theorem MapIn.size (hk:P.underlying k = some .string) (h:MapIn F ρ es clock l):Maps.size (YA P k es) = l.length:=by
 have h1:=(sorted_perm (es.toList.map (rg P k ww))).length_eq
 show ((es.toList.map (rg P k ww)).foldr DataW.insert []).length = _
 rw [h1,List.length_map,Array.length_toList,h.len]
end
section
variable {P:Program} {k:TypeId} {F:Still} {ρ:Places} {es:Array MapEntry} {clock:Nat} {l:List (List UInt8 × AV)}
theorem MapIn.elem (hk:P.underlying k = some .string) (h:MapIn F ρ es clock l) (hks : ∀ x,x ∈ l → x.1.length ≤ maxLen) {kl:Lit} {v:Value} (hat : ∀ z,(YA P k es).atKey kl z = .held v) : ∃ x,x ∈ l ∧ M F ρ v x.2:=by
 have h1:=hat (.nil)
 have h2:((es.toList.map (rg P k ww)).foldr DataW.insert []).find? (fun p=>p.1.sameKey kl) ≠ none:=fun hn=>by
  have:(YA P k es).atKey kl .nil = .nil:=by
   unfold YA DataW.atKey
   simp only [hn]
  rw [this] at h1;cases h1
 cases hf:((es.toList.map (rg P k ww)).foldr DataW.insert []).find? (fun p=>p.1.sameKey kl) with
 | none=>exact absurd hf h2
 | some p =>
   have h3:(YA P k es).atKey kl .nil = p.2:=by
    unfold YA DataW.atKey
    simp only [hf]
   rw [h1] at h3
   have hp:=(sorted_perm _).mem_iff.1 (List.mem_of_find?_eq_some hf)
   obtain ⟨e,he,rfl⟩:=List.mem_map.1 hp
   obtain ⟨x,hx,hkx,hmx⟩:=h.of_mem he
   have:=rg_of (X0 (P:=P) hk hkx (hks x hx))
   rw [this] at h3
   injection h3 with h3
   exact ⟨x,hx,h3 ▸ hmx⟩
end
end Go.Ab
