import Derived.Test.YtgcncinnlmjgdaaGreatDoorMz24
import Derived.Test.YtgcncinnlmjgdaaGreatDoorMz7
import Derived.Maps.OwnRows
import Derived.Maps.Ext
import Derived.Sort.KeysCollected
import Derived.Sort.OwnSorted
import Derived.Lib.SlMapMerge
import Derived.Test.YtgcncinnlmjgdaaGreatDoorMz21
set_option linter.unusedSimpArgs false
set_option linter.unusedVariables false
namespace Go.Ab
open Go.RowKit Go.Maps Go.WideElems Go.WideShapes
open Go.WideMaps (keyOf_string_mk)
def Q7 (v:Value):Option (DataW Value × List MemPlace):=some (.held v,[])
def qfY (P:Program) (k:TypeId) (es:Array MapEntry):DataW Value := .map ((es.toList.map (rg P k Q7)).foldr DataW.insert [])
section
variable {P:Program} {k:TypeId} {F:Still} {ρ:Places} {es:Array MapEntry} {clock:Nat} {l:List (List UInt8 × AV)}
theorem MapIn.entry (h:MapIn F ρ es clock l) {i:Nat} (hi:i < l.length) : ∃ e,es[i]? = some e ∧ e.key = .string ⟨l[i].1.toArray⟩ ∧ M F ρ e.val l[i].2:=by
 have hsz:=h.len;have he:=Array.getElem?_eq_getElem (xs:=es) (i:=i) (by omega);exact ⟨_,he,h.ents i _ _ he (List.getElem?_eq_getElem hi)⟩
theorem MapIn.of_mem (h:MapIn F ρ es clock l) {e:MapEntry} (he:e ∈ es.toList) : ∃ x,x ∈ l ∧ e.key = .string ⟨x.1.toArray⟩ ∧ M F ρ e.val x.2:=by
 obtain ⟨i,hi,rfl⟩:=List.getElem_of_mem he;have hi' : i < es.size:=by simpa using hi
 have hx:=List.getElem?_eq_getElem (l:=l) (i:=i) (by rw [← h.len];exact hi');have:=h.ents i _ _ (Array.getElem?_eq_getElem hi') hx;rw [Array.getElem_toList];exact ⟨_,List.getElem_mem _,this⟩
theorem qcM (hk:P.underlying k = some .string) {e:MapEntry} {s:List UInt8} (he:e.key = .string ⟨s.toArray⟩) (hs:s.length ≤ maxLen):rd P k Q7 e = some (.string s,.held e.val):=by
 have h1:=keyOf_string_mk (P:=P) hk (s:=⟨s.toArray⟩) (by show s.toArray.size ≤ maxLen;simpa using hs);unfold Go.WideElems.rd;rw [he];rw [show keyOf P k (.string ⟨s.toArray⟩) = some (.string s) from h1];rfl
theorem MapIn.fit (hk:P.underlying k = some .string) (h:MapIn F ρ es clock l) (hl:l.length ≤ maxLen) (hks : ∀ x,x ∈ l → x.1.length ≤ maxLen):Fit P k Q7 es clock :=
 ⟨by rw [h.len];exact hl,h.stamp,fun e he=>by
  obtain ⟨x,hx,h1,_⟩:=h.of_mem he
  exact ⟨_,qcM hk h1 (hks x hx)⟩⟩
theorem MapIn.keys (hk:P.underlying k = some .string) (h:MapIn F ρ es clock l) (hks : ∀ x,x ∈ l → x.1.length ≤ maxLen):es.toList.map (rg P k Q7) = es.toList.map (fun e=>(rg P k Q7 e)):=rfl
theorem MapIn.rgs (hk:P.underlying k = some .string) (h:MapIn F ρ es clock l) (hks : ∀ x,x ∈ l → x.1.length ≤ maxLen):(es.toList.map (rg P k Q7)).map (·.1) = l.map (fun x=>Lit.string x.1):=by
 rw [List.map_map];apply List.ext_getElem?;intro i;rw [List.getElem?_map,List.getElem?_map];by_cases hi:i < l.length
 ·obtain ⟨e,h1,h2,_⟩:=h.entry hi;rw [List.getElem?_eq_getElem hi,Array.getElem?_toList,h1];have:=rg_of (qcM (P:=P) hk h2 (hks _ (List.getElem_mem _)));simp [this]
 ·rw [List.getElem?_eq_none (by rw [Array.length_toList,h.len];omega),List.getElem?_eq_none (by omega)];rfl
theorem MapIn.size (hk:P.underlying k = some .string) (h:MapIn F ρ es clock l):Maps.size (qfY P k es) = l.length:=by
 have h1:=(sorted_perm (es.toList.map (rg P k Q7))).length_eq;show ((es.toList.map (rg P k Q7)).foldr DataW.insert []).length = _;rw [h1,List.length_map,Array.length_toList,h.len]
end
def jk (ks:List (List UInt8)):List (List UInt8 × AV):=ks.map fun s=>(s,.junk)
theorem VL (ks:List (List UInt8)) : ∀ e,e ∈ jk ks → e.2.pure = true:=fun e he=>by
 obtain ⟨x,_,rfl⟩:=List.mem_map.1 he;rfl
section
variable {P:Program} {k:TypeId} {F:Still} {ρ:Places} {es:Array MapEntry} {clock:Nat} {l:List (List UInt8 × AV)}
theorem MapIn.has (hk:P.underlying k = some .string) (h:MapIn F ρ es clock l) (hks : ∀ x,x ∈ l → x.1.length ≤ maxLen) (s:List UInt8):Maps.has (qfY P k es) (.string s) = true ↔ s ∈ l.map (·.1):=by
 have h1:=h.rgs hk hks;show ((es.toList.map (rg P k Q7)).foldr DataW.insert []).any (fun p=>p.1.sameKey (.string s)) = true ↔ _;rw [(sorted_perm (es.toList.map (rg P k Q7))).any_eq,List.any_eq_true];constructor
 ·rintro ⟨p,hp,hs⟩;have hm:p.1 ∈ (es.toList.map (rg P k Q7)).map (·.1):=List.mem_map.2 ⟨p,hp,rfl⟩;rw [h1] at hm;obtain ⟨x,hx,he⟩:=List.mem_map.1 hm;rw [← he] at hs;have:=WideAt.sameKey_eq hs;injection this with this;exact List.mem_map.2 ⟨x,hx,this⟩
 ·intro hm;obtain ⟨x,hx,rfl⟩:=List.mem_map.1 hm;have hm:Lit.string x.1 ∈ (es.toList.map (rg P k Q7)).map (·.1):=by rw [h1];exact List.mem_map.2 ⟨x,hx,rfl⟩
  obtain ⟨p,hp,he⟩:=List.mem_map.1 hm;exact ⟨p,hp,by rw [he];simp [Lit.sameKey]⟩
theorem MapIn.elem (hk:P.underlying k = some .string) (h:MapIn F ρ es clock l) (hks : ∀ x,x ∈ l → x.1.length ≤ maxLen) {kl:Lit} {v:Value} (hat : ∀ z,(qfY P k es).atKey kl z = .held v) : ∃ x,x ∈ l ∧ M F ρ v x.2:=by
 have h1:=hat (.nil)
 have h2:((es.toList.map (rg P k Q7)).foldr DataW.insert []).find? (fun p=>p.1.sameKey kl) ≠ none:=fun hn=>by
  have:(qfY P k es).atKey kl .nil = .nil:=by
   unfold qfY DataW.atKey;simp only [hn]
  rw [this] at h1;cases h1
 cases hf:((es.toList.map (rg P k Q7)).foldr DataW.insert []).find? (fun p=>p.1.sameKey kl) with
 | none=>exact absurd hf h2
 | some p =>
   have h3:(qfY P k es).atKey kl .nil = p.2:=by
    unfold qfY DataW.atKey;simp only [hf]
   rw [h1] at h3;have hp:=(sorted_perm _).mem_iff.1 (List.mem_of_find?_eq_some hf);obtain ⟨e,he,rfl⟩:=List.mem_map.1 hp;obtain ⟨x,hx,hkx,hmx⟩:=h.of_mem he;have:=rg_of (qcM (P:=P) hk hkx (hks x hx));rw [this] at h3;injection h3 with h3;exact ⟨x,hx,h3 ▸ hmx⟩
def qfS (e:MapEntry):List UInt8:=match e.key with | .string b=>b.data.toList|_ => []
end
end Go.Ab
namespace Go.Ab
open Go.RowKit
section keeps8
variable {L:List (Nat × Nat)} {nh:Nat} {σ:St} {i:Nat}
theorem qhG {n n' a b:Nat} {l:List (Nat × AV)} (hl:y7 L nh σ l) (hx:qm σ.ts i = .op n a b:=by rfl) (hm:Maps L nh n n':=by (refine .inr ?_;(repeat (first|exact List.mem_cons_self ..|apply List.mem_cons_of_mem)))):y7 L nh σ ((i,.op n' a b) :: l):=K5 hx hm hl
theorem qcC {n n' off len len' : Nat} {l:List (Nat × AV)} (hl:y7 L nh σ l) (hx:qm σ.ts i = .os n off len:=by rfl) (hm:Maps L nh n n':=by (refine .inr ?_;(repeat (first|exact List.mem_cons_self ..|apply List.mem_cons_of_mem)))) (he:len = len':=by first|with_reducible rfl|omega):y7 L nh σ ((i,.os n' off len') :: l):=Zm hx hm he hl
theorem qcD {n n' off len len' : Nat} {l:List (Nat × AV)} (hl:y7 L nh σ l) (he:len = len') (hx:qm σ.ts i = .os n off len:=by rfl) (hm:Maps L nh n n':=by (refine .inr ?_;(repeat (first|exact List.mem_cons_self ..|apply List.mem_cons_of_mem)))):y7 L nh σ ((i,.os n' off len') :: l):=Zm hx hm he hl
theorem qhF {n n' : Nat} {l:List (Nat × AV)} (hl:y7 L nh σ l) (hx:qm σ.ts i = .mp n:=by rfl) (hm:Maps L nh n n':=by (refine .inr ?_;(repeat (first|exact List.mem_cons_self ..|apply List.mem_cons_of_mem)))):y7 L nh σ ((i,.mp n') :: l):=K4 hx hm hl
theorem qhL {n n' : Nat} {m m' : List (List UInt8 × AV)} {l:List (Nat × HB)} (hl:yd L nh σ l) (hr:m.Perm m') (hp : ∀ e,e ∈ m' → e.2.pure = true) (hm:Maps L nh n n':=by (refine .inr ?_;(repeat (first|exact List.mem_cons_self ..|apply List.mem_cons_of_mem)))) (hx:qh σ.hs n = .mp m:=by rfl):yd L nh σ ((n',.mp m') :: l):=qht hx hm hr hp hl
theorem qcK {n n' : Nat} {ex ex' : Bool} {k:Nat} {row row' : List AV} {l:List (Nat × HB)} (hr:j1 L nh row row') (hl:yd L nh σ l) (hm:Maps L nh n n':=by (refine .inr ?_;(repeat (first|exact List.mem_cons_self ..|apply List.mem_cons_of_mem)))) (hx:qh σ.hs n = .own ex k [row]:=by rfl) (he:ex' = true → ex = true:=by first|exact id|exact nofun):yd L nh σ ((n',.own ex' k [row']) :: l):=VH hm hx he (yL hr xg) hl
theorem qne {n n' : Nat} {ex ex' : Bool} {k:Nat} {rows rows' : List (List AV)} {l:List (Nat × HB)} (hl:yd L nh σ l) (hm:Maps L nh n n':=by (refine .inr ?_;(repeat (first|exact List.mem_cons_self ..|apply List.mem_cons_of_mem)))) (hx:qh σ.hs n = .own ex k rows:=by rfl) (he:ex' = true → ex = true:=by first|exact id|exact nofun) (hp : ∀ row,row ∈ rows' → AV.pure.pureL row = true:=by first|assumption|exact xl rfl|exact js fun _=>rfl) (hr:rows = rows':=by with_reducible rfl):yd L nh σ ((n',.own ex' k rows') :: l):=VG hx hm he hr hp hl
theorem qcJ {n n' : Nat} {ex ex' : Bool} {k:Nat} {rows rows' : List (List AV)} {l:List (Nat × HB)} (hl:yd L nh σ l) (hr:rows = rows') (hm:Maps L nh n n':=by (refine .inr ?_;(repeat (first|exact List.mem_cons_self ..|apply List.mem_cons_of_mem)))) (hx:qh σ.hs n = .own ex k rows:=by rfl) (he:ex' = true → ex = true:=by first|exact id|exact nofun) (hp : ∀ row,row ∈ rows' → AV.pure.pureL row = true:=by first|assumption|exact xl rfl|exact js fun _=>rfl):yd L nh σ ((n',.own ex' k rows') :: l):=VG hx hm he hr hp hl
end keeps8
theorem qbH {p:List AV → Bool} {l l' : List (List AV)} (h:l.all p = true) (hs : ∀ x,x ∈ l' → x ∈ l):l'.all p = true:=List.all_eq_true.2 fun x hx=>List.all_eq_true.1 h x (hs x hx)
theorem qlw {L:List (Nat × Nat)} {nh:Nat} {rows:List (List AV)}:yA L nh (.sl true rows) (.sl false rows):=fun F ρ ρ' v _ hm=>by
 have hm:=hm.moved ρ' rfl
 cases hm with
 | sl0 _ a cap ex he hn=>exact .sl0 _ a cap false (fun e=>by cases e) hn
 | sl _ b off cap c e fr ex k rows hb hc he hs hk h=>exact .sl _ b off cap c e fr false k rows hb hc (fun e=>by cases e) hs hk h
theorem qov {L:List (Nat × Nat)} {nh:Nat} {σ:St} {i:Nat} {rows:List (List AV)} {l:List (Nat × AV)} (hl:y7 L nh σ l) (hx:qm σ.ts i = .sl true rows:=by rfl):y7 L nh σ ((i,.sl false rows) :: l):=Qp hx qlw hl
section ops
variable {C:Cx} {N d:Nat} {ty:TypeId} {pos:String} {af:Array Edge} {gd:Option (Nat × Bool)} {t:Nat → AV} {h:Nat → HB}
end ops
end Go.Ab
