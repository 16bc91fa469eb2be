import Derived.Test.YtiljlcgmcmjcoaaGreatDoorMz25
import Derived.Test.YtiljlcgmcmjcoaaGreatDoorMz6
import Derived.Maps.OwnRows
import Derived.Maps.Ext
import Derived.Sort.KeysCollected
import Derived.Sort.OwnSorted
import Derived.Lib.SlMapMerge
import Derived.Test.YtiljlcgmcmjcoaaGreatDoorMz21
set_option linter.unusedSimpArgs false
set_option linter.unusedVariables false
namespace Go.Ab
open Go.RowKit Go.Maps Go.WideElems Go.WideShapes
open Go.WideMaps (keyOf_string_mk)
def QL (v:Value):Option (DataW Value × List MemPlace):=some (.held v,[])
def qcy (P:Program) (k:TypeId) (es:Array MapEntry):DataW Value := .map ((es.toList.map (rg P k QL)).foldr DataW.insert [])
section
variable {P:Program} {k:TypeId} {F:Still} {ρ:Places} {es:Array MapEntry} {clock:Nat} {l:List (List UInt8 × AV)}
theorem MapIn.entry (h:MapIn F ρ es clock l) {i:Nat} (hi:i < l.length) : ∃ e,es[i]? = some e ∧ e.key = .string ⟨l[i].1.toArray⟩ ∧ M F ρ e.val l[i].2:=by
 have hsz:=h.len
 have he:=Array.getElem?_eq_getElem (xs:=es) (i:=i) (by omega)
 exact ⟨_,he,h.ents i _ _ he (List.getElem?_eq_getElem hi)⟩
theorem MapIn.of_mem (h:MapIn F ρ es clock l) {e:MapEntry} (he:e ∈ es.toList) : ∃ x,x ∈ l ∧ e.key = .string ⟨x.1.toArray⟩ ∧ M F ρ e.val x.2:=by
 obtain ⟨i,hi,rfl⟩:=List.getElem_of_mem he
 have hi' : i < es.size:=by simpa using hi
 have hx:=List.getElem?_eq_getElem (l:=l) (i:=i) (by rw [← h.len];exact hi')
 have:=h.ents i _ _ (Array.getElem?_eq_getElem hi') hx
 rw [Array.getElem_toList]
 exact ⟨_,List.getElem_mem _,this⟩
theorem qdW (hk:P.underlying k = some .string) {e:MapEntry} {s:List UInt8} (he:e.key = .string ⟨s.toArray⟩) (hs:s.length ≤ maxLen):rd P k QL e = some (.string s,.held e.val):=by
 have h1:=keyOf_string_mk (P:=P) hk (s:=⟨s.toArray⟩) (by show s.toArray.size ≤ maxLen;simpa using hs)
 unfold Go.WideElems.rd
 rw [he]
 rw [show keyOf P k (.string ⟨s.toArray⟩) = some (.string s) from h1]
 rfl
theorem MapIn.keys (hk:P.underlying k = some .string) (h:MapIn F ρ es clock l) (hks : ∀ x,x ∈ l → x.1.length ≤ maxLen):es.toList.map (rg P k QL) = es.toList.map (fun e=>(rg P k QL e)):=rfl
theorem MapIn.rgs (hk:P.underlying k = some .string) (h:MapIn F ρ es clock l) (hks : ∀ x,x ∈ l → x.1.length ≤ maxLen):(es.toList.map (rg P k QL)).map (·.1) = l.map (fun x=>Lit.string x.1):=by
 rw [List.map_map]
 apply List.ext_getElem?
 intro i
 rw [List.getElem?_map,List.getElem?_map]
 by_cases hi:i < l.length
 ·obtain ⟨e,h1,h2,_⟩:=h.entry hi
  rw [List.getElem?_eq_getElem hi,Array.getElem?_toList,h1]
  have:=rg_of (qdW (P:=P) hk h2 (hks _ (List.getElem_mem _)))
  simp [this]
 ·rw [List.getElem?_eq_none (by rw [Array.length_toList,h.len];omega),List.getElem?_eq_none (by omega)];rfl
theorem MapIn.size (hk:P.underlying k = some .string) (h:MapIn F ρ es clock l):Maps.size (qcy P k es) = l.length:=by
 have h1:=(sorted_perm (es.toList.map (rg P k QL))).length_eq
 show ((es.toList.map (rg P k QL)).foldr DataW.insert []).length = _
 rw [h1,List.length_map,Array.length_toList,h.len]
end
def jk (ks:List (List UInt8)):List (List UInt8 × AV):=ks.map fun s=>(s,.junk)
theorem jE (ks:List (List UInt8)) : ∀ e,e ∈ jk ks → e.2.pure = true:=fun e he=>by
 obtain ⟨x,_,rfl⟩:=List.mem_map.1 he;rfl
section
variable {P:Program} {k:TypeId} {F:Still} {ρ:Places} {es:Array MapEntry} {clock:Nat} {l:List (List UInt8 × AV)}
theorem MapIn.has (hk:P.underlying k = some .string) (h:MapIn F ρ es clock l) (hks : ∀ x,x ∈ l → x.1.length ≤ maxLen) (s:List UInt8):Maps.has (qcy P k es) (.string s) = true ↔ s ∈ l.map (·.1):=by
 have h1:=h.rgs hk hks
 show ((es.toList.map (rg P k QL)).foldr DataW.insert []).any (fun p=>p.1.sameKey (.string s)) = true ↔ _
 rw [(sorted_perm (es.toList.map (rg P k QL))).any_eq,List.any_eq_true]
 constructor
 ·rintro ⟨p,hp,hs⟩
  have hm:p.1 ∈ (es.toList.map (rg P k QL)).map (·.1):=List.mem_map.2 ⟨p,hp,rfl⟩
  rw [h1] at hm
  obtain ⟨x,hx,he⟩:=List.mem_map.1 hm
  rw [← he] at hs
  have:=WideAt.sameKey_eq hs
  injection this with this
  exact List.mem_map.2 ⟨x,hx,this⟩
 ·intro hm
  obtain ⟨x,hx,rfl⟩:=List.mem_map.1 hm
  have hm:Lit.string x.1 ∈ (es.toList.map (rg P k QL)).map (·.1):=by rw [h1];exact List.mem_map.2 ⟨x,hx,rfl⟩
  obtain ⟨p,hp,he⟩:=List.mem_map.1 hm
  exact ⟨p,hp,by rw [he];simp [Lit.sameKey]⟩
theorem MapIn.elem (hk:P.underlying k = some .string) (h:MapIn F ρ es clock l) (hks : ∀ x,x ∈ l → x.1.length ≤ maxLen) {kl:Lit} {v:Value} (hat : ∀ z,(qcy P k es).atKey kl z = .held v) : ∃ x,x ∈ l ∧ M F ρ v x.2:=by
 have h1:=hat (.nil)
 have h2:((es.toList.map (rg P k QL)).foldr DataW.insert []).find? (fun p=>p.1.sameKey kl) ≠ none:=fun hn=>by
  have:(qcy P k es).atKey kl .nil = .nil:=by
   unfold qcy DataW.atKey
   simp only [hn]
  rw [this] at h1;cases h1
 cases hf:((es.toList.map (rg P k QL)).foldr DataW.insert []).find? (fun p=>p.1.sameKey kl) with
 | none=>exact absurd hf h2
 | some p =>
   have h3:(qcy P k es).atKey kl .nil = p.2:=by
    unfold qcy DataW.atKey
    simp only [hf]
   rw [h1] at h3
   have hp:=(sorted_perm _).mem_iff.1 (List.mem_of_find?_eq_some hf)
   obtain ⟨e,he,rfl⟩:=List.mem_map.1 hp
   obtain ⟨x,hx,hkx,hmx⟩:=h.of_mem he
   have:=rg_of (qdW (P:=P) hk hkx (hks x hx))
   rw [this] at h3
   injection h3 with h3
   exact ⟨x,hx,h3 ▸ hmx⟩
def Y6 (e:MapEntry):List UInt8:=match e.key with | .string b=>b.data.toList|_ => []
end
end Go.Ab
set_option linter.unusedSimpArgs false
set_option linter.unusedVariables false
namespace Go.Ab
open Go.RowKit
section keeps8
variable {L:List (Nat × Nat)} {nh:Nat} {σ:St} {i:Nat}
theorem qdZ {n n' a b:Nat} {l:List (Nat × AV)} (hl:zg L nh σ l) (hx:qu σ.ts i = .op n a b:=by rfl) (hm:Maps L nh n n':=by (refine .inr ?_;(repeat (first|exact List.mem_cons_self ..|apply List.mem_cons_of_mem)))):zg L nh σ ((i,.op n' a b) :: l):=J7 hx hm hl
theorem WC {n n' off len len' : Nat} {l:List (Nat × AV)} (hl:zg L nh σ l) (hx:qu σ.ts i = .os n off len:=by rfl) (hm:Maps L nh n n':=by (refine .inr ?_;(repeat (first|exact List.mem_cons_self ..|apply List.mem_cons_of_mem)))) (he:len = len':=by first|with_reducible rfl|omega):zg L nh σ ((i,.os n' off len') :: l):=Xv hx hm he hl
theorem WL {n n' off len len' : Nat} {l:List (Nat × AV)} (hl:zg L nh σ l) (he:len = len') (hx:qu σ.ts i = .os n off len:=by rfl) (hm:Maps L nh n n':=by (refine .inr ?_;(repeat (first|exact List.mem_cons_self ..|apply List.mem_cons_of_mem)))):zg L nh σ ((i,.os n' off len') :: l):=Xv hx hm he hl
theorem qdv {n n' : Nat} {l:List (Nat × AV)} (hl:zg L nh σ l) (hx:qu σ.ts i = .mp n:=by rfl) (hm:Maps L nh n n':=by (refine .inr ?_;(repeat (first|exact List.mem_cons_self ..|apply List.mem_cons_of_mem)))):zg L nh σ ((i,.mp n') :: l):=JZ hx hm hl
theorem qdU {n n' : Nat} {m m' : List (List UInt8 × AV)} {l:List (Nat × HB)} (hl:vN L nh σ l) (hr:m.Perm m') (hp : ∀ e,e ∈ m' → e.2.pure = true) (hm:Maps L nh n n':=by (refine .inr ?_;(repeat (first|exact List.mem_cons_self ..|apply List.mem_cons_of_mem)))) (hx:ja σ.hs n = .mp m:=by rfl):vN L nh σ ((n',.mp m') :: l):=qdJ hx hm hr hp hl
theorem W0 {n n' : Nat} {ex ex' : Bool} {k:Nat} {row row' : List AV} {l:List (Nat × HB)} (hr:je L nh row row') (hl:vN L nh σ l) (hm:Maps L nh n n':=by (refine .inr ?_;(repeat (first|exact List.mem_cons_self ..|apply List.mem_cons_of_mem)))) (hx:ja σ.hs n = .own ex k [row]:=by rfl) (he:ex' = true → ex = true:=by first|exact id|exact nofun):vN L nh σ ((n',.own ex' k [row']) :: l):=JA hm hx he (ky hr wd) hl
theorem qhc {n n' : Nat} {ex ex' : Bool} {k:Nat} {rows rows' : List (List AV)} {l:List (Nat × HB)} (hl:vN L nh σ l) (hm:Maps L nh n n':=by (refine .inr ?_;(repeat (first|exact List.mem_cons_self ..|apply List.mem_cons_of_mem)))) (hx:ja σ.hs n = .own ex k rows:=by rfl) (he:ex' = true → ex = true:=by first|exact id|exact nofun) (hp : ∀ row,row ∈ rows' → AV.pure.pureL row = true:=by first|assumption|exact yO rfl|exact jq fun _=>rfl) (hr:rows = rows':=by with_reducible rfl):vN L nh σ ((n',.own ex' k rows') :: l):=Y4 hx hm he hr hp hl
theorem Ws {n n' : Nat} {ex ex' : Bool} {k:Nat} {rows rows' : List (List AV)} {l:List (Nat × HB)} (hl:vN L nh σ l) (hr:rows = rows') (hm:Maps L nh n n':=by (refine .inr ?_;(repeat (first|exact List.mem_cons_self ..|apply List.mem_cons_of_mem)))) (hx:ja σ.hs n = .own ex k rows:=by rfl) (he:ex' = true → ex = true:=by first|exact id|exact nofun) (hp : ∀ row,row ∈ rows' → AV.pure.pureL row = true:=by first|assumption|exact yO rfl|exact jq fun _=>rfl):vN L nh σ ((n',.own ex' k rows') :: l):=Y4 hx hm he hr hp hl
end keeps8
end Go.Ab
