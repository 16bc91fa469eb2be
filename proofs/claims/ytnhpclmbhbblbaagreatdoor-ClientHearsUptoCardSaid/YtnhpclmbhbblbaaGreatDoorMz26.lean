import Derived.Test.YtnhpclmbhbblbaaGreatDoorMz25
import Derived.Test.YtnhpclmbhbblbaaGreatDoorMz6
import Derived.Maps.OwnRows
import Derived.Maps.Ext
import Derived.Sort.KeysCollected
import Derived.Sort.OwnSorted
import Derived.Lib.SlMapMerge
import Derived.Test.YtnhpclmbhbblbaaGreatDoorMz22
set_option linter.unusedSimpArgs false
set_option linter.unusedVariables false
namespace Go.Ab
open Go.RowKit Go.Maps Go.WideElems Go.WideShapes
open Go.WideMaps (keyOf_string_mk)
def vb (v:Value):Option (DataW Value × List MemPlace):=some (.held v,[])
def jo (s:List UInt8):List AV:=[.v (str s)]
def Zy (P:Program) (k:TypeId) (es:Array MapEntry):DataW Value := .map ((es.toList.map (rg P k vb)).foldr DataW.insert [])
section
variable {P:Program} {k:TypeId} {F:Still} {ρ:Places} {es:Array MapEntry} {clock:Nat} {l:List (List UInt8 × AV)}
theorem MapIn.entry (h:MapIn F ρ es clock l) {i:Nat} (hi:i < l.length) : ∃ e,es[i]? = some e ∧ e.key = .string ⟨l[i].1.toArray⟩ ∧ M F ρ e.val l[i].2:=by
 have hsz:=h.len
 have he:=Array.getElem?_eq_getElem (xs:=es) (i:=i) (by omega)
 exact ⟨_,he,h.ents i _ _ he (List.getElem?_eq_getElem hi)⟩
theorem MapIn.of_mem (h:MapIn F ρ es clock l) {e:MapEntry} (he:e ∈ es.toList) : ∃ x,x ∈ l ∧ e.key = .string ⟨x.1.toArray⟩ ∧ M F ρ e.val x.2:=by
 obtain ⟨i,hi,rfl⟩:=List.getElem_of_mem he
 have hi' : i < es.size:=by simpa using hi
 have hx:=List.getElem?_eq_getElem (l:=l) (i:=i) (by rw [← h.len];exact hi')
 have:=h.ents i _ _ (Array.getElem?_eq_getElem hi') hx
 rw [Array.getElem_toList]
 exact ⟨_,List.getElem_mem _,this⟩
theorem KS (hk:P.underlying k = some .string) {e:MapEntry} {s:List UInt8} (he:e.key = .string ⟨s.toArray⟩) (hs:s.length ≤ maxLen):rd P k vb e = some (.string s,.held e.val):=by
 have h1:=keyOf_string_mk (P:=P) hk (s:=⟨s.toArray⟩) (by show s.toArray.size ≤ maxLen;simpa using hs)
 unfold Go.WideElems.rd
 rw [he]
 rw [show keyOf P k (.string ⟨s.toArray⟩) = some (.string s) from h1]
 rfl
theorem MapIn.fit (hk:P.underlying k = some .string) (h:MapIn F ρ es clock l) (hl:l.length ≤ maxLen) (hks : ∀ x,x ∈ l → x.1.length ≤ maxLen):Fit P k vb es clock :=
 ⟨by rw [h.len];exact hl,h.stamp,fun e he=>by
  obtain ⟨x,hx,h1,_⟩:=h.of_mem he
  exact ⟨_,KS hk h1 (hks x hx)⟩⟩
theorem MapIn.owns (hk:P.underlying k = some .string) (h:MapIn F ρ es clock l) (hl:l.length ≤ maxLen) (hks : ∀ x,x ∈ l → x.1.length ≤ maxLen) {w:World} {b:Nat} (hb:w.heap[b]? = some (.map es clock)):w.ownsMap P k vb b l.length (Zy P k es) :=
 ⟨es,clock,hb,h.fit hk hl hks,by rw [h.len];exact Nat.le_refl _,rfl⟩
theorem MapIn.keys (hk:P.underlying k = some .string) (h:MapIn F ρ es clock l) (hks : ∀ x,x ∈ l → x.1.length ≤ maxLen):es.toList.map (rg P k vb) = es.toList.map (fun e=>(rg P k vb e)):=rfl
theorem MapIn.rgs (hk:P.underlying k = some .string) (h:MapIn F ρ es clock l) (hks : ∀ x,x ∈ l → x.1.length ≤ maxLen):(es.toList.map (rg P k vb)).map (·.1) = l.map (fun x=>Lit.string x.1):=by
 rw [List.map_map]
 apply List.ext_getElem?
 intro i
 rw [List.getElem?_map,List.getElem?_map]
 by_cases hi:i < l.length
 ·obtain ⟨e,h1,h2,_⟩:=h.entry hi
  rw [List.getElem?_eq_getElem hi,Array.getElem?_toList,h1]
  have:=rg_of (KS (P:=P) hk h2 (hks _ (List.getElem_mem _)))
  simp [this]
 ·rw [List.getElem?_eq_none (by rw [Array.length_toList,h.len];omega),List.getElem?_eq_none (by omega)];rfl
theorem MapIn.strKeys (hk:P.underlying k = some .string) (h:MapIn F ρ es clock l) (hks : ∀ x,x ∈ l → x.1.length ≤ maxLen):(strKeys (Zy P k es)).Perm (l.map (·.1)):=by
 have h1:=sorted_perm (es.toList.map (rg P k vb))
 have h2:=(h1.map (fun p=>strOf p.1))
 have h3:(es.toList.map (rg P k vb)).map (fun p=>strOf p.1) = l.map (·.1):=by
  have:=congrArg (List.map strOf) (h.rgs hk hks)
  simp only [List.map_map] at this
  rw [List.map_map]
  exact this
 rw [h3] at h2
 exact h2
theorem MapIn.size (hk:P.underlying k = some .string) (h:MapIn F ρ es clock l):Maps.size (Zy P k es) = l.length:=by
 have h1:=(sorted_perm (es.toList.map (rg P k vb))).length_eq
 show ((es.toList.map (rg P k vb)).foldr DataW.insert []).length = _
 rw [h1,List.length_map,Array.length_toList,h.len]
end
theorem qgB {B:Base} {H:List HB} {F:Still} {ρ:Places} {w w' : World} {v:Value} {n:Nat} {e:TypeId} {cs:List Value} (hp:Hp B (· < H.length) (fun n=>H.getD n .dead) F ρ w) (hb:Below w.heap.size w w') (hr:w'.ownsRow w.heap.size e 1 v n cs) (hcs : ∀ c,c ∈ cs → w8 c = true) :
  Ga { B with N:=1 } (fun _=>True) (one (.os H.length 0 n)) (fun i=>(H ++ [HB.own false 1 (cs.map fun c => [AV.v c])]).getD i .dead) ⟨#[v],[]⟩ w':=by
 obtain ⟨hlen,hr⟩:=hr
 rw [Nat.mul_one] at hlen
 have hnone : ∀ i, ¬ i < H.length → ρ i = none:=fun i hi=>by
  cases h:ρ i with
  | none=>rfl
  | some c=>exact absurd (hp.dom i (by rw [h];simp)) hi
 have main : ∀ (pl:Option (Nat × Nat × Nat)),(∀ b c,pl = some (b,c) → w.heap.size ≤ b) → M F (fun i=>if i = H.length then some pl else ρ i) v (.os H.length 0 n) →
   OwnAt F (fun i=>if i = H.length then some pl else ρ i) w' H.length (.own false 1 (cs.map fun c => [.v c])) →
   Ga { B with N:=1 } (fun _=>True) (one (.os H.length 0 n)) (fun i=>(H ++ [HB.own false 1 (cs.map fun c => [AV.v c])]).getD i .dead) ⟨#[v],[]⟩ w':=by
  intro pl hpl hM hO
  have hle:ρ.le (fun i=>if i = H.length then some pl else ρ i):=fun i c hi=>by
   by_cases e:i = H.length
   ·rw [hnone i (by omega)] at hi;cases hi
   ·simp only [e,if_false];exact hi
  have hget : ∀ i,(H ++ [HB.own false 1 (cs.map fun c => [.v c])]).getD i .dead = if i = H.length then HB.own false 1 (cs.map fun c => [.v c]) else H.getD i .dead:=fun i=>by
   rw [List.getD_eq_getElem?_getD,List.getElem?_append]
   by_cases e:i = H.length
   ·subst e;simp
   ·rw [if_neg e]
    split
    ·rw [List.getD_eq_getElem?_getD]
    ·rename_i hi
     rw [List.getElem?_eq_none (by simp;omega),List.getD_eq_getElem?_getD,List.getElem?_eq_none (by omega)]
  have hblk:=fun b hb'=>hb.block b hb'
  have hfF : ∀ b,w.heap.size ≤ b → F b = none:=fun b hb'=>by
   cases h:F b with
   | none=>rfl
   | some o=>have:=(Array.getElem?_eq_some_iff.1 (hp.agree b o h)).1;omega
  refine ⟨rfl,rfl,F,(fun i=>if i = H.length then some pl else ρ i),?_,fun i=>?_⟩
  ·refine { kept:=⟨hb.os.trans hp.kept.os,hb.tape.trans hp.kept.tape,hb.output.trans hp.kept.output,Nat.le_trans hp.kept.size hb.size,fun b hlt ho=>?_⟩,agree:=fun b o hF=>?_,grow:=hp.grow,fresh:=hp.fresh,names:=fun i c hi=>hle i c (hp.names i c hi),dom:=fun _ _=>trivial,own:=fun i=>?_,new:=fun i b c ho hn=>?_,sep:=fun i j b c c' hne ho ho' hn hn'=>?_ }
   ·rw [hblk b (Nat.lt_of_lt_of_le hlt hp.kept.size)];exact hp.kept.block b hlt ho
   ·rw [hblk b (Array.getElem?_eq_some_iff.1 (hp.agree b o hF)).1];exact hp.agree b o hF
   ·show OwnAt F _ w' i ((H ++ [HB.own false 1 (cs.map fun c => [.v c])]).getD i .dead)
    rw [hget]
    by_cases e:i = H.length
    ·rw [if_pos e,e];exact hO
    ·rw [if_neg e]
     have h0:=hp.own i
     cases e1:H.getD i .dead with
     | dead=>trivial
     | fz rows' =>
       rw [e1] at h0
       rcases h0 with ⟨h1,h2⟩|⟨b,k',cap,c,e',fr,h1,h2,h3⟩
       ·exact .inl ⟨hle _ _ h1,h2⟩
       ·exact .inr ⟨b,k',cap,c,e',fr,hle _ _ h1,h2,h3⟩
     | mp l =>
       rw [e1] at h0
       obtain ⟨b,o,u,h1,h2,h3⟩:=h0
       exact ⟨b,o,u,hle _ _ h1,by rw [hblk b (Array.getElem?_eq_some_iff.1 h2).1];exact h2,h3.mono (Still.le_refl _) hle⟩
     | own ex' k' rows' =>
       rw [e1] at h0
       rcases h0 with ⟨h1,h2⟩|⟨b,cap,c,e',h1,h2,h3,h4,h5,h6⟩
       ·exact .inl ⟨hle _ _ h1,h2⟩
       ·exact .inr ⟨b,cap,c,e',hle _ _ h1,by rw [hblk b (Array.getElem?_eq_some_iff.1 h2).1];exact h2,h3,h4,h5,h6.mono (Still.le_refl _) hle⟩
   ·have ho:((H ++ [HB.own false 1 (cs.map fun c => [.v c])]).getD i .dead).isOwn = true:=ho
    rw [hget] at ho
    by_cases e:i = H.length
    ·simp only [e,if_true,Option.some.injEq] at hn
     have:=hpl b c hn
     exact ⟨hfF b this,.inl (Nat.le_trans hp.kept.size this)⟩
    ·simp only [e,if_false] at hn ho
     exact hp.new i b c ho hn
   ·have ho:((H ++ [HB.own false 1 (cs.map fun c => [.v c])]).getD i .dead).isOwn = true:=ho
    have ho' : ((H ++ [HB.own false 1 (cs.map fun c => [.v c])]).getD j .dead).isOwn = true:=ho'
    rw [hget] at ho ho'
    by_cases e:i = H.length
    ·by_cases e' : j = H.length
     ·exact hne (e.trans e'.symm)
     ·simp only [e,if_true,Option.some.injEq] at hn
      simp only [e',if_false] at hn' ho'
      have:=hpl b c hn
      have:=hp.blk (n:=j) ho' hn'
      omega
    ·by_cases e' : j = H.length
     ·simp only [e',if_true,Option.some.injEq] at hn'
      simp only [e,if_false] at hn ho
      have:=hpl b c' hn'
      have:=hp.blk (n:=i) ho hn
      omega
     ·simp only [e,e',if_false] at hn hn' ho ho'
      exact hp.sep i j b c c' hne ho ho' hn hn'
  ·by_cases hi:i = 0
   ·subst hi;exact hM
   ·unfold one;rw [if_neg hi];exact .junk _ _
 rcases hr with ⟨rfl,hn⟩|⟨g,cap,cur,rfl,h1,h2,h3,h4,h5,h6⟩
 ·have hc:cs = []:=List.eq_nil_of_length_eq_zero (by omega)
  subst hc
  subst hn
  exact main none (fun b c h=>by cases h) (.osn _ _ none (by simp)) (.inl ⟨by simp,rfl⟩)
 ·rw [Nat.mul_one] at h5 h6
  refine main (some (g,1,cap)) (fun b c h=>by simp only [Option.some.injEq,Prod.mk.injEq] at h;omega) ?_ ?_
  ·have:=M.os (F:=F) (fun i=>if i = H.length then some (some (g,1,cap)) else ρ i) H.length g 1 cap 0 n ⟨g,0,none⟩ (by simp) (by omega) (fun _=>by simp)
   simpa using this
  ·refine .inr ⟨g,cap,cur,e,by simp,h2,by omega,by rw [List.length_map];omega,(fun h=>by cases h),fun row hrow=>?_,fun i j row x u hi hx hu=>?_⟩
   ·obtain ⟨c,_,rfl⟩:=List.mem_map.1 hrow;rfl
   ·rw [List.getElem?_map] at hi
    obtain ⟨c,hc,rfl⟩:=Option.map_eq_some_iff.1 hi
    cases j with
    | succ j=>simp at hx
    | zero =>
      simp at hx
      subst hx
      have hil:i < n:=by have:=(List.getElem?_eq_some_iff.1 hc).1;omega
      have:cur[i]? = some c:=by
       rw [← h6,List.getElem?_take,if_pos hil,Array.getElem?_toList] at hc
       exact hc
      rw [Nat.mul_one,Nat.add_zero,this] at hu
      injection hu with hu
      subst hu
      exact .v _ _ (hcs c (List.mem_of_getElem? hc))
theorem qaK {P:Program} {f:FuncId} {k:TypeId} (hk:P.underlying k = some .string) {l:List (List UInt8 × AV)} (hl:l.length ≤ 1000000) (hks : ∀ x,x ∈ l → x.1.length ≤ 1000000)
  (hc : ∀ (b nn:Nat) (D0:DataW Value) (w:World),w.ownsMap P k vb b nn D0 → Maps.size D0 ≤ maxLen → Maps.size D0 * 16 ≤ 140737488355328 →
   Calls P f #[.map (some b)] w fun e w' => ∃ (v:Value) (ss:List (List UInt8)),e = .returned v ∧ ss.Perm (strKeys D0) ∧ w'.ownsRow w.heap.size k 1 v ss.length ((ss.mergeSort (fun x y=>decide (x ≤ y))).map Go.Proofs.encStr) ∧ (v = .slice none 0 0 ↔ ss = []) ∧ Below w.heap.size w w') :
  qW P f [.mp 0] [.mp l] (.os 1 0 l.length) [.mp l,.own false 1 (((l.map (·.1)).mergeSort leB).map jo)]:=by
 intro B vs w hvs hN g
 obtain ⟨_,_,F,ρ,hp,g4⟩:=g
 have hm:=g4 0
 have ho:=hp.own 0
 obtain ⟨v0,rfl⟩ : ∃ v,vs = [v]:=by
  match vs,hvs with
  | [v],_=>exact ⟨v,rfl⟩
 have hm:M F ρ v0 (.mp 0):=hm
 have ho:OwnAt F ρ w 0 (.mp l):=ho
 obtain ⟨b,rfl,hρ⟩:=hm.mp_inv
 obtain ⟨b',_,_,h5,h6,es,clock,rfl,l0,hperm,h78⟩:=ho
 rw [hρ] at h5;simp only [Option.some.injEq,Prod.mk.injEq] at h5
 obtain ⟨rfl,_⟩:=h5
 have hlen:=hperm.length_eq
 have hml:(1000000:Nat) ≤ maxLen:=by unfold maxLen;omega
 have hks0 : ∀ x,x ∈ l0 → x.1.length ≤ maxLen:=fun x hx=>Nat.le_trans (hks x (hperm.mem_iff.1 hx)) hml
 have hsz:=h78.size hk
 refine (hc b l0.length (Zy P k es) w (h78.owns hk (by omega) hks0 h6) (by omega) (by omega)).mono ?_
 rintro e w' ⟨v,ss,rfl,h1,h2, -,h3⟩
 refine ⟨v,rfl,?_⟩
 have hss:ss.Perm (l.map (·.1)):=(h1.trans (h78.strKeys hk hks0)).trans (hperm.map _)
 have hn:ss.length = l.length:=by rw [hss.length_eq,List.length_map]
 have hms:ss.mergeSort (fun x y=>decide (x ≤ y)) = (l.map (·.1)).mergeSort leB:=mergeSort_of_perm hss
 rw [hms,hn] at h2
 have:=qgB (H:=[.mp l]) hp h3 h2 (fun c hc=>by obtain ⟨s,_,rfl⟩:=List.mem_map.1 hc;rfl)
 rw [List.map_map] at this
 exact this
def jk (ks:List (List UInt8)):List (List UInt8 × AV):=ks.map fun s=>(s,.junk)
theorem qU (ks:List (List UInt8)) : ∀ e,e ∈ jk ks → e.2.pure = true:=fun e he=>by
 obtain ⟨x,_,rfl⟩:=List.mem_map.1 he;rfl
theorem KF (ks:List (List UInt8)):(jk ks).map (·.1) = ks:=by
 unfold jk;rw [List.map_map];exact List.map_id ks
section
variable {P:Program} {k:TypeId} {F:Still} {ρ:Places} {es:Array MapEntry} {clock:Nat} {l:List (List UInt8 × AV)}
theorem MapIn.has (hk:P.underlying k = some .string) (h:MapIn F ρ es clock l) (hks : ∀ x,x ∈ l → x.1.length ≤ maxLen) (s:List UInt8):Maps.has (Zy P k es) (.string s) = true ↔ s ∈ l.map (·.1):=by
 have h1:=h.rgs hk hks
 show ((es.toList.map (rg P k vb)).foldr DataW.insert []).any (fun p=>p.1.sameKey (.string s)) = true ↔ _
 rw [(sorted_perm (es.toList.map (rg P k vb))).any_eq,List.any_eq_true]
 constructor
 ·rintro ⟨p,hp,hs⟩
  have hm:p.1 ∈ (es.toList.map (rg P k vb)).map (·.1):=List.mem_map.2 ⟨p,hp,rfl⟩
  rw [h1] at hm
  obtain ⟨x,hx,he⟩:=List.mem_map.1 hm
  rw [← he] at hs
  have:=WideAt.sameKey_eq hs
  injection this with this
  exact List.mem_map.2 ⟨x,hx,this⟩
 ·intro hm
  obtain ⟨x,hx,rfl⟩:=List.mem_map.1 hm
  have hm:Lit.string x.1 ∈ (es.toList.map (rg P k vb)).map (·.1):=by rw [h1];exact List.mem_map.2 ⟨x,hx,rfl⟩
  obtain ⟨p,hp,he⟩:=List.mem_map.1 hm
  exact ⟨p,hp,by rw [he];simp [Lit.sameKey]⟩
theorem MapIn.elem (hk:P.underlying k = some .string) (h:MapIn F ρ es clock l) (hks : ∀ x,x ∈ l → x.1.length ≤ maxLen) {kl:Lit} {v:Value} (hat : ∀ z,(Zy P k es).atKey kl z = .held v) : ∃ x,x ∈ l ∧ M F ρ v x.2:=by
 have h1:=hat (.nil)
 have h2:((es.toList.map (rg P k vb)).foldr DataW.insert []).find? (fun p=>p.1.sameKey kl) ≠ none:=fun hn=>by
  have:(Zy P k es).atKey kl .nil = .nil:=by
   unfold Zy DataW.atKey
   simp only [hn]
  rw [this] at h1;cases h1
 cases hf:((es.toList.map (rg P k vb)).foldr DataW.insert []).find? (fun p=>p.1.sameKey kl) with
 | none=>exact absurd hf h2
 | some p =>
   have h3:(Zy P k es).atKey kl .nil = p.2:=by
    unfold Zy DataW.atKey
    simp only [hf]
   rw [h1] at h3
   have hp:=(sorted_perm _).mem_iff.1 (List.mem_of_find?_eq_some hf)
   obtain ⟨e,he,rfl⟩:=List.mem_map.1 hp
   obtain ⟨x,hx,hkx,hmx⟩:=h.of_mem he
   have:=rg_of (KS (P:=P) hk hkx (hks x hx))
   rw [this] at h3
   injection h3 with h3
   exact ⟨x,hx,h3 ▸ hmx⟩
def kY (e:MapEntry):List UInt8:=match e.key with | .string b=>b.data.toList|_ => []
theorem qa5 (hk:P.underlying k = some .string) {w:World} {b n:Nat} {D:DataW Value} (h:w.ownsMap P k vb b n D) {ks:List (List UInt8)} (hnd:ks.Nodup) (hm : ∀ x,x ∈ ks ↔ Maps.has D (.string x) = true) :
  ∃ es clock,w.heap[b]? = some (.map es clock) ∧ MapAt F ρ es clock (jk ks):=by
 have K:Keyed P k:=string_keyed hk
 obtain ⟨en,hD,hpw,_⟩:=h.entries K
 obtain ⟨en',hD',hko⟩:=h.keysOf
 obtain rfl:en = en':=by rw [hD] at hD';simpa using hD'
 obtain ⟨es,clock,hb,hF,hs,hDe⟩:=h
 have hps:ks.Perm (strKeys D):=by
  rw [hD]
  rw [hD] at hm
  exact perm_strKeys hpw (fun p hp=>by obtain ⟨v,hv⟩:=hko p hp;obtain ⟨x,_,hx,_⟩:=Maps.keyOf_str hk hv;exact ⟨x,hx⟩) hnd hm
 have hkey : ∀ e,e ∈ es.toList → e.key = .string ⟨(kY e).toArray⟩ ∧ (rg P k vb e).1 = .string (kY e):=fun e he=>by
  obtain ⟨y,hy⟩:=hF.reads e he
  obtain ⟨x,hx1,hx2,_⟩:=Maps.keyOf_str hk (rd_key hy)
  have hkb:kY e = x:=by unfold kY;rw [hx1]
  rw [hkb,rg_of hy,hx2]
  exact ⟨hx1,rfl⟩
 have hsk:(strKeys D).Perm (es.toList.map kY):=by
  have h1:=(sorted_perm (es.toList.map (rg P k vb))).map (fun p=>strOf p.1)
  have h2:(es.toList.map (rg P k vb)).map (fun p=>strOf p.1) = es.toList.map kY:=by
   rw [List.map_map]
   refine List.map_congr_left fun e he=>?_
   show strOf (rg P k vb e).1 = kY e
   rw [(hkey e he).2];rfl
  rw [h2] at h1
  rw [hDe]
  exact h1
 have hp2:=hps.trans hsk
 have hjk:(es.toList.map fun e=>(kY e,AV.junk)) = jk (es.toList.map kY):=by unfold jk;rw [List.map_map];rfl
 refine ⟨es,clock,hb,(es.toList.map fun e=>(kY e,AV.junk)),?_,by simp,?_,hF.stamped,fun i e x he hx=>?_⟩
 ·rw [hjk];exact (hp2.map _).symm
 ·rw [hjk,KF];exact hp2.nodup_iff.1 hnd
 ·rw [List.getElem?_map,Array.getElem?_toList,he] at hx
  simp at hx
  subst hx
  exact ⟨(hkey e (by simpa using Array.mem_of_getElem? he)).1,.junk _ _⟩
end
end Go.Ab
set_option linter.unusedSimpArgs false
set_option linter.unusedVariables false
namespace Go.Ab
open Go.RowKit
section keeps8
variable {L:List (Nat × Nat)} {nh:Nat} {σ:St} {i:Nat}
theorem vu {n n' a b:Nat} {l:List (Nat × AV)} (hl:vx L nh σ l) (hx:qR σ.ts i = .op n a b:=by rfl) (hm:Maps L nh n n':=by (refine .inr ?_;(repeat (first|exact List.mem_cons_self ..|apply List.mem_cons_of_mem)))):vx L nh σ ((i,.op n' a b) :: l):=qbZ hx hm hl
theorem xu {n n' off len len' : Nat} {l:List (Nat × AV)} (hl:vx L nh σ l) (hx:qR σ.ts i = .os n off len:=by rfl) (hm:Maps L nh n n':=by (refine .inr ?_;(repeat (first|exact List.mem_cons_self ..|apply List.mem_cons_of_mem)))) (he:len = len':=by first|with_reducible rfl|omega):vx L nh σ ((i,.os n' off len') :: l):=Xa hx hm he hl
theorem xx {n n' off len len' : Nat} {l:List (Nat × AV)} (hl:vx L nh σ l) (he:len = len') (hx:qR σ.ts i = .os n off len:=by rfl) (hm:Maps L nh n n':=by (refine .inr ?_;(repeat (first|exact List.mem_cons_self ..|apply List.mem_cons_of_mem)))):vx L nh σ ((i,.os n' off len') :: l):=Xa hx hm he hl
theorem qgb {n n' : Nat} {l:List (Nat × AV)} (hl:vx L nh σ l) (hx:qR σ.ts i = .mp n:=by rfl) (hm:Maps L nh n n':=by (refine .inr ?_;(repeat (first|exact List.mem_cons_self ..|apply List.mem_cons_of_mem)))):vx L nh σ ((i,.mp n') :: l):=qbY hx hm hl
theorem qgc {n n' : Nat} {m m' : List (List UInt8 × AV)} {l:List (Nat × HB)} (hl:vp L nh σ l) (hr:m.Perm m') (hp : ∀ e,e ∈ m' → e.2.pure = true) (hm:Maps L nh n n':=by (refine .inr ?_;(repeat (first|exact List.mem_cons_self ..|apply List.mem_cons_of_mem)))) (hx:ja σ.hs n = .mp m:=by rfl):vp L nh σ ((n',.mp m') :: l):=qbL hx hm hr hp hl
theorem xA {n n' : Nat} {ex ex' : Bool} {k:Nat} {row row' : List AV} {l:List (Nat × HB)} (hr:jz L nh row row') (hl:vp L nh σ l) (hm:Maps L nh n n':=by (refine .inr ?_;(repeat (first|exact List.mem_cons_self ..|apply List.mem_cons_of_mem)))) (hx:ja σ.hs n = .own ex k [row]:=by rfl) (he:ex' = true → ex = true:=by first|exact id|exact nofun):vp L nh σ ((n',.own ex' k [row']) :: l):=Qf hm hx he (vv hr zT) hl
theorem kj {n n' : Nat} {ex ex' : Bool} {k:Nat} {rows rows' : List (List AV)} {l:List (Nat × HB)} (hl:vp L nh σ l) (hm:Maps L nh n n':=by (refine .inr ?_;(repeat (first|exact List.mem_cons_self ..|apply List.mem_cons_of_mem)))) (hx:ja σ.hs n = .own ex k rows:=by rfl) (he:ex' = true → ex = true:=by first|exact id|exact nofun) (hp : ∀ row,row ∈ rows' → AV.pure.pureL row = true:=by first|assumption|exact jX rfl|exact qE fun _=>rfl) (hr:rows = rows':=by with_reducible rfl):vp L nh σ ((n',.own ex' k rows') :: l):=YI hx hm he hr hp hl
theorem xz {n n' : Nat} {ex ex' : Bool} {k:Nat} {rows rows' : List (List AV)} {l:List (Nat × HB)} (hl:vp L nh σ l) (hr:rows = rows') (hm:Maps L nh n n':=by (refine .inr ?_;(repeat (first|exact List.mem_cons_self ..|apply List.mem_cons_of_mem)))) (hx:ja σ.hs n = .own ex k rows:=by rfl) (he:ex' = true → ex = true:=by first|exact id|exact nofun) (hp : ∀ row,row ∈ rows' → AV.pure.pureL row = true:=by first|assumption|exact jX rfl|exact qE fun _=>rfl):vp L nh σ ((n',.own ex' k rows') :: l):=YI hx hm he hr hp hl
end keeps8
end Go.Ab
set_option linter.unusedSimpArgs false
set_option linter.unusedVariables false
namespace Go.Ab
open Go.RowKit
theorem Kg {p:List AV → Bool} {l l' : List (List AV)} (h:l.all p = true) (hs : ∀ x,x ∈ l' → x ∈ l):l'.all p = true:=List.all_eq_true.2 fun x hx=>List.all_eq_true.1 h x (hs x hx)
theorem Qn {l:List (List AV)} {a b:Nat} : ∀ x,x ∈ (l.take b).drop a → x ∈ l:=fun _ h=>List.mem_of_mem_take (List.mem_of_mem_drop h)
theorem qgJ {L:List (Nat × Nat)} {nh:Nat} {rows:List (List AV)}:jV L nh (.sl true rows) (.sl false rows):=fun F ρ ρ' v _ hm=>by
 have hm:=hm.moved ρ' rfl
 cases hm with
 | sl0 _ a cap ex he hn=>exact .sl0 _ a cap false (fun e=>by cases e) hn
 | sl _ b off cap c e fr ex k rows hb hc he hs hk h=>exact .sl _ b off cap c e fr false k rows hb hc (fun e=>by cases e) hs hk h
theorem qhc {L:List (Nat × Nat)} {nh:Nat} {σ:St} {i:Nat} {rows:List (List AV)} {l:List (Nat × AV)} (hl:vx L nh σ l) (hx:qR σ.ts i = .sl true rows:=by rfl):vx L nh σ ((i,.sl false rows) :: l):=Qq hx qgJ hl
theorem yI {L:List (Nat × Nat)} {nh:Nat} {fn:Fn} {n n' i j:Nat} (hm:Maps L nh n n'):jV L nh (.clo fn [] [.op n i j]) (.clo fn [] [.op n' i j]):=by
 have h:=Zg L nh [(n,n')] (fun a b h=>by simp at h;obtain ⟨rfl,rfl⟩:=h;exact hm) (.clo fn [] [.op n i j])
 simpa [AV.ren,AV.ren.renL,jD] using h
theorem qev {L:List (Nat × Nat)} {nh:Nat} {fn:Fn} {xs ys xs' ys' : List AV} (h1:jz L nh xs xs') (h2:jz L nh ys ys'):jV L nh (.clo fn xs ys) (.clo fn xs' ys'):=fun F ρ ρ' v hp hm=>by
 cases hm with
 | clo _ fn vs us xs ys hl hm' a1 a2 =>
   refine .clo _ fn vs us xs' ys' (by rw [hl,h1.1]) (by rw [hm',h2.1]) (fun i u y hu hy=>?_) (fun i u y hu hy=>?_)
   ·have hi:i < xs.length:=by rw [h1.1];exact (List.getElem?_eq_some_iff.1 hy).1
    have hx:=List.getElem?_eq_getElem hi
    exact h1.2 i _ y hx hy F ρ ρ' u hp (a1 i u _ hu hx)
   ·have hi:i < ys.length:=by rw [h2.1];exact (List.getElem?_eq_some_iff.1 hy).1
    have hx:=List.getElem?_eq_getElem hi
    exact h2.2 i _ y hx hy F ρ ρ' u hp (a2 i u _ hu hx)
theorem xM {L:List (Nat × Nat)} {nh:Nat} {σ:St} {i:Nat} {fn:Fn} {r1 r2:List (List AV)} {a b c a' b' c' : Nat} {l:List (Nat × AV)} (hl:vx L nh σ l) (hx:qR σ.ts i = .clo fn [] [.fp r1 0 0,.fp r2 0 0,.op a 0 0,.op b 0 0,.op c 0 0]:=by rfl) (ha:Maps L nh a a':=by (refine .inr ?_;(repeat (first|exact List.mem_cons_self ..|apply List.mem_cons_of_mem)))) (hb:Maps L nh b b':=by (refine .inr ?_;(repeat (first|exact List.mem_cons_self ..|apply List.mem_cons_of_mem)))) (hc:Maps L nh c c':=by (refine .inr ?_;(repeat (first|exact List.mem_cons_self ..|apply List.mem_cons_of_mem)))):vx L nh σ ((i,.clo fn [] [.fp r1 0 0,.fp r2 0 0,.op a' 0 0,.op b' 0 0,.op c' 0 0]) :: l) :=
 Qq hx (qev ql (qh (qk rfl) (qh (qk rfl) (qh (qI ha) (qh (qI hb) (qh (qI hc) ql)))))) hl
theorem jh {L:List (Nat × Nat)} {nh n n' off len len' : Nat} (h:len = len') (hn:Maps L nh n n':=by (refine .inr ?_;(repeat (first|exact List.mem_cons_self ..|apply List.mem_cons_of_mem)))):jV L nh (.os n off len) (.os n' off len'):=h ▸ qF hn
theorem yi {L:List (Nat × Nat)} {nh:Nat} {fn:Fn} {n n' i j:Nat} (ht:True) (hm:Maps L nh n n':=by (refine .inr ?_;(repeat (first|exact List.mem_cons_self ..|apply List.mem_cons_of_mem)))):jV L nh (.clo fn [] [.op n i j]) (.clo fn [] [.op n' i j]):=yI hm
section ops
variable {C:Cx} {N d:Nat} {ty:TypeId} {pos:String} {af:Array Edge} {gd:Option (Nat × Bool)} {t:Nat → AV} {h:Nat → HB}
theorem Qz (T ty' e:Nat) (x y:Operand) (m:Nat) (rows0 rows:List (List AV)) (rh:List Nat) (r re:TRec) (hx:evA t x = .sl true rows0) (hT:q7 C.tab T = some r) (he:r.kind = .slice e) (hE:q7 C.tab e = some re) (hz:re.zero.length = re.size)
  (hk0 : ∀ row,row ∈ rows0 → row.length = re.size) (hc0 : ∀ row,row ∈ rows0 → row.all yc = true) (hsrc:SrcA t h y re.size rows rh) (hne:0 < rows.length) (hsz:(rows0.length + rows.length) * re.bytes ≤ 140737488355328) (hlen:rows0.length + rows.length ≤ 9223372036854775807) (hN:d < N) :
  qX C.P N ⟨some d,.call ⟨.builtin .append, #[x,y], #[T,T]⟩,ty',pos,af,gd⟩ t h ⟨yh x ++ yh y,rh,some d,.os m 0 (rows0.length + rows.length),[(m,.own false re.size (rows0 ++ rows))],[m]⟩:=by
 refine wv (ks:=[]) _ _ m false re.size (rows0 ++ rows) [m] (fun d' hd'=>by injection hd' with e;exact e ▸ hN) (.inl rfl) (by simp) ?_
 intro B A h' F ρ a w hp hm hh hfr
 have h1:=qu (x:=x) hm (fun j hj=>List.mem_append_left _ hj)
 have h2:=qu (x:=y) hm (fun j hj=>List.mem_append_right _ hj)
 have hsx:SrcA t h x re.size rows0 []:=⟨hk0,hc0,.inl ⟨true,hx⟩⟩
 obtain ⟨olds,holds,hol,_,hoR⟩:=hsx.src (P:=C.P) hp.agree h1 (fun n hn=>(by cases hn))
 rw [hx] at h1
 have hρ:ρ m = none:=hfr m (by simp)
 have hu:=j7 (C.ok T r hT) he
 obtain ⟨dd,inf,z,_,hi,hz0,_,_,hsize,hbytes,hzc⟩:=yq (C.ok e re hE)
 obtain ⟨news,hnews,hnl,hn1,hnR⟩:=hsrc.src (P:=C.P) hp.agree h2 (fun n hn=>(hh n hn) ▸ hp.own n)
 obtain ⟨ad,hv⟩ : ∃ ad,a.eval x = .slice ad rows0.length rows0.length:=by
  rcases h1.sl_inv with ⟨h3,ad,cap,hv,hc,_⟩|⟨b,o,cap,c,e',fr,kk,hb,h3,hc,_,_,_,hv⟩
  ·have hc0:cap = rows0.length:=by rw [hc rfl,h3];rfl
   subst hc0;exact ⟨ad,by rw [hv,h3];rfl⟩
  ·have hc0:cap = rows0.length:=hc rfl
   subst hc0;exact ⟨_,hv⟩
 have hex : ∀ (v:Value) (w2:World),(Builtin.append_ #[T,T] ty' #[.slice ad rows0.length rows0.length,a.eval y]).run C.P w = .ok v w2 → (execOp a.eval ⟨some d,.call ⟨.builtin .append, #[x,y], #[T,T]⟩,ty',pos,af,gd⟩).run C.P w = .ok (.value v) w2:=fun v w2 hr=>by
  simp [execOp,resolve,invoke,builtin,hv,hr]
 have hr:=kN (P:=C.P) (w:=w) T ty' e inf z hu hi hz0 ad rows0.length rows0.length rows.length (a.eval y) olds news (fun w' hw'=>by rw [hsize];exact hnews w' hw') (fun w' hw'=>by have:=(holds w' hw').2;rw [hv] at this;rw [hsize];exact this) (by omega) (by unfold maxLen;omega) (by rw [hbytes];exact hsz)
 have hge:=grownCap_ge w (rows0.length + rows.length) rows0.length e
 refine ⟨.value _,_,some (w.heap.size,re.size,grownCap w (rows0.length + rows.length) rows0.length e),none,hex _ _ hr,.inr ⟨_,rfl,?_⟩,.inl hρ,hp.kept.drew.alloc _,(fun b hb=>by cases hb),fun b hb _=>(by show (w.heap.push _)[b]? = _;rw [Array.getElem?_push,if_neg (Nat.ne_of_lt hb)]),(fun b c hb=>by simp only [Option.some.injEq,Prod.mk.injEq] at hb;exact .inr (by omega)),.inr ⟨w.heap.size,grownCap w (rows0.length + rows.length) rows0.length e,_,e,by simp,Array.getElem?_push_size,?_,by rw [List.length_append];exact hge,(fun h=>by cases h),?_⟩,(fun h=>by cases h)⟩
 ·have:=M.os (F:=F) (fun n=>if n = m then some (some (w.heap.size,re.size,grownCap w (rows0.length + rows.length) rows0.length e)) else ρ n) m w.heap.size re.size (grownCap w (rows0.length + rows.length) rows0.length e) 0 (rows0.length + rows.length) ⟨w.heap.size,0,none⟩ (by simp) (by omega) (fun _=>by simp)
  simpa using this
 ·exact QF (by rw [hzc];simpa using hz) hol hnl hge
 ·have hle2:ρ.le (fun n=>if n = m then some (some (w.heap.size,re.size,grownCap w (rows0.length + rows.length) rows0.length e)) else ρ n):=fun n c hn=>by
   by_cases hnm:n = m
   ·subst hnm;rw [hρ] at hn;cases hn
   ·simpa [hnm] using hn
  exact (RowsAt.grown hoR hnR hol hnl).mono (Still.le_refl F) hle2
theorem Zu (T ty' e:Nat) (x y:Operand) (ex:Bool) (rows0:List (List AV)) (r re:TRec) (hx:evA t x = .sl ex rows0) (hT:q7 C.tab T = some r) (he:r.kind = .slice e) (hE:q7 C.tab e = some re)
  (ey:Bool) (rows1:List (List AV)) (hy:evA t y = .sl ey rows1) (h0:rows1 = []) (hN:d < N) :
  qX C.P N ⟨some d,.call ⟨.builtin .append, #[x,y], #[T,T]⟩,ty',pos,af,gd⟩ t h ⟨yh x ++ yh y,[],some d,.sl ex rows0,[],[]⟩ :=
 jO _ _ rfl hN fun F ρ a w hag hs _=>by
  have h1:=qu (x:=x) hs (fun j hj=>List.mem_append_left _ hj)
  have h2:=qu (x:=y) hs (fun j hj=>List.mem_append_right _ hj)
  have hu:=j7 (C.ok T r hT) he
  obtain ⟨dd,inf,z,_,hi,hz0,_,_,hsize,hbytes,hzc⟩:=yq (C.ok e re hE)
  rw [hx] at h1
  rw [hy,h0] at h2
  obtain ⟨ad2,cap2,hv2⟩ : ∃ ad cap,a.eval y = .slice ad 0 cap:=by
   rcases h2.sl_inv with ⟨_,ad,cap,hv,_,_⟩|⟨b,o,cap,c,e',fr,kk,hb,h3,hc,_,_,_,hv⟩
   ·exact ⟨_,_,hv⟩
   ·exact ⟨_,_,hv⟩
  obtain ⟨ad,cap,hv,hlc⟩ : ∃ ad cap,a.eval x = .slice ad rows0.length cap ∧ rows0.length ≤ cap:=by
   rcases h1.sl_inv with ⟨h3,ad,cap,hv,hc,_⟩|⟨b,o,cap,c,e',fr,kk,hb,h3,hc,_,_,_,hv⟩
   ·exact ⟨ad,cap,by rw [hv,h3];rfl,by rw [h3];exact Nat.zero_le _⟩
   ·exact ⟨_,_,hv,h3⟩
  refine ⟨a.eval x,?_,h1⟩
  rw [hv]
  have e2 : ∀ w' : World,(Builtin.firstCells inf.size 0 (.slice ad2 0 cap2)).run C.P w' = .ok #[] w':=fun w'=>by cases ad2<;>simp [Builtin.firstCells,loadCells,loadCellsFrom]
  cases ad<;>simp [execOp,resolve,invoke,builtin,hv,hv2,Builtin.append_,run_underlying hu,sizeOf,typeInfo,hi,Builtin.lenOf,hlc,e2,storeCells]
end ops
end Go.Ab
