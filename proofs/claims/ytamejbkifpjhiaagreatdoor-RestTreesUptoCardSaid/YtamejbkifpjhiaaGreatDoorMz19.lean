import Derived.Test.YtamejbkifpjhiaaGreatDoorMz16
import Derived.Test.YtamejbkifpjhiaaGreatDoorMz6
import Derived.Maps.OwnRows
import Derived.Maps.Ext
import Derived.Sort.KeysCollected
import Derived.Sort.OwnSorted
import Derived.Lib.SlMapMerge
set_option linter.unusedSimpArgs false
set_option linter.unusedVariables false
namespace Go.Ab
open Go.RowKit Go.Maps Go.WideElems Go.WideShapes
open Go.WideMaps (keyOf_string_mk)
def vi (v:Value):Option (DataW Value × List MemPlace):=some (.held v,[])
def jn (s:List UInt8):List AV:=[.v (str s)]
def Zt (P:Program) (k:TypeId) (es:Array MapEntry):DataW Value := .map ((es.toList.map (rg P k vi)).foldr DataW.insert [])
section
variable {P:Program} {k:TypeId} {F:Still} {ρ:Places} {es:Array MapEntry} {clock:Nat} {l:List (List UInt8 × AV)}
theorem MapIn.entry (h:MapIn F ρ es clock l) {i:Nat} (hi:i < l.length) : ∃ e,es[i]? = some e ∧ e.key = .string ⟨l[i].1.toArray⟩ ∧ M F ρ e.val l[i].2:=by
 have hsz:=h.len
 have he:=Array.getElem?_eq_getElem (xs:=es) (i:=i) (by omega)
 exact ⟨_,he,h.ents i _ _ he (List.getElem?_eq_getElem hi)⟩
theorem MapIn.of_mem (h:MapIn F ρ es clock l) {e:MapEntry} (he:e ∈ es.toList) : ∃ x,x ∈ l ∧ e.key = .string ⟨x.1.toArray⟩ ∧ M F ρ e.val x.2:=by
 obtain ⟨i,hi,rfl⟩:=List.getElem_of_mem he
 have hi' : i < es.size:=by simpa using hi
 have hx:=List.getElem?_eq_getElem (l:=l) (i:=i) (by rw [← h.len];exact hi')
 have:=h.ents i _ _ (Array.getElem?_eq_getElem hi') hx
 rw [Array.getElem_toList]
 exact ⟨_,List.getElem_mem _,this⟩
theorem KF (hk:P.underlying k = some .string) {e:MapEntry} {s:List UInt8} (he:e.key = .string ⟨s.toArray⟩) (hs:s.length ≤ maxLen):rd P k vi e = some (.string s,.held e.val):=by
 have h1:=keyOf_string_mk (P:=P) hk (s:=⟨s.toArray⟩) (by show s.toArray.size ≤ maxLen;simpa using hs)
 unfold Go.WideElems.rd
 rw [he]
 rw [show keyOf P k (.string ⟨s.toArray⟩) = some (.string s) from h1]
 rfl
theorem MapIn.fit (hk:P.underlying k = some .string) (h:MapIn F ρ es clock l) (hl:l.length ≤ maxLen) (hks : ∀ x,x ∈ l → x.1.length ≤ maxLen):Fit P k vi es clock :=
 ⟨by rw [h.len];exact hl,h.stamp,fun e he=>by
  obtain ⟨x,hx,h1,_⟩:=h.of_mem he
  exact ⟨_,KF hk h1 (hks x hx)⟩⟩
theorem MapIn.owns (hk:P.underlying k = some .string) (h:MapIn F ρ es clock l) (hl:l.length ≤ maxLen) (hks : ∀ x,x ∈ l → x.1.length ≤ maxLen) {w:World} {b:Nat} (hb:w.heap[b]? = some (.map es clock)):w.ownsMap P k vi b l.length (Zt P k es) :=
 ⟨es,clock,hb,h.fit hk hl hks,by rw [h.len];exact Nat.le_refl _,rfl⟩
theorem MapIn.rgs (hk:P.underlying k = some .string) (h:MapIn F ρ es clock l) (hks : ∀ x,x ∈ l → x.1.length ≤ maxLen):(es.toList.map (rg P k vi)).map (·.1) = l.map (fun x=>Lit.string x.1):=by
 rw [List.map_map]
 apply List.ext_getElem?
 intro i
 rw [List.getElem?_map,List.getElem?_map]
 by_cases hi:i < l.length
 ·obtain ⟨e,h1,h2,_⟩:=h.entry hi
  rw [List.getElem?_eq_getElem hi,Array.getElem?_toList,h1]
  have:=rg_of (KF (P:=P) hk h2 (hks _ (List.getElem_mem _)))
  simp [this]
 ·rw [List.getElem?_eq_none (by rw [Array.length_toList,h.len];omega),List.getElem?_eq_none (by omega)];rfl
theorem MapIn.strKeys (hk:P.underlying k = some .string) (h:MapIn F ρ es clock l) (hks : ∀ x,x ∈ l → x.1.length ≤ maxLen):(strKeys (Zt P k es)).Perm (l.map (·.1)):=by
 have h1:=sorted_perm (es.toList.map (rg P k vi))
 have h2:=(h1.map (fun p=>strOf p.1))
 have h3:(es.toList.map (rg P k vi)).map (fun p=>strOf p.1) = l.map (·.1):=by
  have:=congrArg (List.map strOf) (h.rgs hk hks)
  simp only [List.map_map] at this
  rw [List.map_map]
  exact this
 rw [h3] at h2
 exact h2
theorem MapIn.size (hk:P.underlying k = some .string) (h:MapIn F ρ es clock l):Maps.size (Zt P k es) = l.length:=by
 have h1:=(sorted_perm (es.toList.map (rg P k vi))).length_eq
 show ((es.toList.map (rg P k vi)).foldr DataW.insert []).length = _
 rw [h1,List.length_map,Array.length_toList,h.len]
end
theorem qgk {B:Base} {H:List HB} {F:Still} {ρ:Places} {w w' : World} {v:Value} {n:Nat} {e:TypeId} {cs:List Value} (hds:([]:List Deferred) = B.ds) (hp:Hp B (· < H.length) (fun n=>H.getD n .dead) F ρ w) (hb:Below w.heap.size w w') (hr:w'.ownsRow w.heap.size e 1 v n cs) (hcs : ∀ c,c ∈ cs → QO c = true) :
  Ga { B with N:=1 } (fun _=>True) (one (.os H.length 0 n)) (fun i=>(H ++ [HB.own false 1 (cs.map fun c => [AV.v c])]).getD i .dead) ⟨#[v],[]⟩ w':=by
 obtain ⟨hlen,hr⟩:=hr
 rw [Nat.mul_one] at hlen
 have hnone : ∀ i, ¬ i < H.length → ρ i = none:=fun i hi=>by
  cases h:ρ i with
  | none=>rfl
  | some c=>exact absurd (hp.dom i (by rw [h];simp)) hi
 have main : ∀ (pl:Option (Nat × Nat × Nat)),(∀ b c,pl = some (b,c) → w.heap.size ≤ b) → M F (fun i=>if i = H.length then some pl else ρ i) v (.os H.length 0 n) →
   OwnAt F (fun i=>if i = H.length then some pl else ρ i) w' H.length (.own false 1 (cs.map fun c => [.v c])) →
   Ga { B with N:=1 } (fun _=>True) (one (.os H.length 0 n)) (fun i=>(H ++ [HB.own false 1 (cs.map fun c => [AV.v c])]).getD i .dead) ⟨#[v],[]⟩ w':=by
  intro pl hpl hM hO
  have hle:ρ.le (fun i=>if i = H.length then some pl else ρ i):=fun i c hi=>by
   by_cases e:i = H.length
   ·rw [hnone i (by omega)] at hi;cases hi
   ·simp only [e,if_false];exact hi
  have hget : ∀ i,(H ++ [HB.own false 1 (cs.map fun c => [.v c])]).getD i .dead = if i = H.length then HB.own false 1 (cs.map fun c => [.v c]) else H.getD i .dead:=fun i=>by
   rw [List.getD_eq_getElem?_getD,List.getElem?_append]
   by_cases e:i = H.length
   ·subst e;simp
   ·rw [if_neg e]
    split
    ·rw [List.getD_eq_getElem?_getD]
    ·rename_i hi
     rw [List.getElem?_eq_none (by simp;omega),List.getD_eq_getElem?_getD,List.getElem?_eq_none (by omega)]
  have hblk:=fun b hb'=>hb.block b hb'
  have hfF : ∀ b,w.heap.size ≤ b → F b = none:=fun b hb'=>by
   cases h:F b with
   | none=>rfl
   | some o=>have:=(Array.getElem?_eq_some_iff.1 (hp.agree b o h)).1;omega
  refine ⟨hds,rfl,F,(fun i=>if i = H.length then some pl else ρ i),?_,fun i=>?_⟩
  ·refine { kept:=⟨hb.os.trans hp.kept.os,hb.tape.trans hp.kept.tape,hb.output.trans hp.kept.output,Nat.le_trans hp.kept.size hb.size,fun b hlt ho=>?_⟩,agree:=fun b o hF=>?_,grow:=hp.grow,fresh:=hp.fresh,names:=fun i c hi=>hle i c (hp.names i c hi),dom:=fun _ _=>trivial,own:=fun i=>?_,new:=fun i b c ho hn=>?_,sep:=fun i j b c c' hne ho ho' hn hn'=>?_ }
   ·rw [hblk b (Nat.lt_of_lt_of_le hlt hp.kept.size)];exact hp.kept.block b hlt ho
   ·rw [hblk b (Array.getElem?_eq_some_iff.1 (hp.agree b o hF)).1];exact hp.agree b o hF
   ·show OwnAt F _ w' i ((H ++ [HB.own false 1 (cs.map fun c => [.v c])]).getD i .dead)
    rw [hget]
    by_cases e:i = H.length
    ·rw [if_pos e,e];exact hO
    ·rw [if_neg e]
     have h0:=hp.own i
     cases e1:H.getD i .dead with
     | dead=>trivial
     | fz rows' =>
       rw [e1] at h0
       rcases h0 with ⟨h1,h2⟩|⟨b,k',cap,c,e',fr,h1,h2,h3⟩
       ·exact .inl ⟨hle _ _ h1,h2⟩
       ·exact .inr ⟨b,k',cap,c,e',fr,hle _ _ h1,h2,h3⟩
     | mp l =>
       rw [e1] at h0
       obtain ⟨b,o,u,h1,h2,h3⟩:=h0
       exact ⟨b,o,u,hle _ _ h1,by rw [hblk b (Array.getElem?_eq_some_iff.1 h2).1];exact h2,h3.mono (Still.le_refl _) hle⟩
     | own ex' k' rows' =>
       rw [e1] at h0
       rcases h0 with ⟨h1,h2⟩|⟨b,cap,c,e',h1,h2,h3,h4,h5,h6⟩
       ·exact .inl ⟨hle _ _ h1,h2⟩
       ·exact .inr ⟨b,cap,c,e',hle _ _ h1,by rw [hblk b (Array.getElem?_eq_some_iff.1 h2).1];exact h2,h3,h4,h5,h6.mono (Still.le_refl _) hle⟩
   ·have ho:((H ++ [HB.own false 1 (cs.map fun c => [.v c])]).getD i .dead).isOwn = true:=ho
    rw [hget] at ho
    by_cases e:i = H.length
    ·simp only [e,if_true,Option.some.injEq] at hn
     have:=hpl b c hn
     exact ⟨hfF b this,.inl (Nat.le_trans hp.kept.size this)⟩
    ·simp only [e,if_false] at hn ho
     exact hp.new i b c ho hn
   ·have ho:((H ++ [HB.own false 1 (cs.map fun c => [.v c])]).getD i .dead).isOwn = true:=ho
    have ho' : ((H ++ [HB.own false 1 (cs.map fun c => [.v c])]).getD j .dead).isOwn = true:=ho'
    rw [hget] at ho ho'
    by_cases e:i = H.length
    ·by_cases e' : j = H.length
     ·exact hne (e.trans e'.symm)
     ·simp only [e,if_true,Option.some.injEq] at hn
      simp only [e',if_false] at hn' ho'
      have:=hpl b c hn
      have:=hp.blk (n:=j) ho' hn'
      omega
    ·by_cases e' : j = H.length
     ·simp only [e',if_true,Option.some.injEq] at hn'
      simp only [e,if_false] at hn ho
      have:=hpl b c' hn'
      have:=hp.blk (n:=i) ho hn
      omega
     ·simp only [e,e',if_false] at hn hn' ho ho'
      exact hp.sep i j b c c' hne ho ho' hn hn'
  ·by_cases hi:i = 0
   ·subst hi;exact hM
   ·unfold one;rw [if_neg hi];exact .junk _ _
 rcases hr with ⟨rfl,hn⟩|⟨g,cap,cur,rfl,h1,h2,h3,h4,h5,h6⟩
 ·have hc:cs = []:=List.eq_nil_of_length_eq_zero (by omega)
  subst hc
  subst hn
  exact main none (fun b c h=>by cases h) (.osn _ _ none (by simp)) (.inl ⟨by simp,rfl⟩)
 ·rw [Nat.mul_one] at h5 h6
  refine main (some (g,1,cap)) (fun b c h=>by simp only [Option.some.injEq,Prod.mk.injEq] at h;omega) ?_ ?_
  ·have:=M.os (F:=F) (fun i=>if i = H.length then some (some (g,1,cap)) else ρ i) H.length g 1 cap 0 n ⟨g,0,none⟩ (by simp) (by omega) (fun _=>by simp)
   simpa using this
  ·refine .inr ⟨g,cap,cur,e,by simp,h2,by omega,by rw [List.length_map];omega,(fun h=>by cases h),fun row hrow=>?_,fun i j row x u hi hx hu=>?_⟩
   ·obtain ⟨c,_,rfl⟩:=List.mem_map.1 hrow;rfl
   ·rw [List.getElem?_map] at hi
    obtain ⟨c,hc,rfl⟩:=Option.map_eq_some_iff.1 hi
    cases j with
    | succ j=>simp at hx
    | zero =>
      simp at hx
      subst hx
      have hil:i < n:=by have:=(List.getElem?_eq_some_iff.1 hc).1;omega
      have:cur[i]? = some c:=by
       rw [← h6,List.getElem?_take,if_pos hil,Array.getElem?_toList] at hc
       exact hc
      rw [Nat.mul_one,Nat.add_zero,this] at hu
      injection hu with hu
      subst hu
      exact .v _ _ (hcs c (List.mem_of_getElem? hc))
theorem qay {P:Program} {f:FuncId} {k:TypeId} (hk:P.underlying k = some .string) {l:List (List UInt8 × AV)} (hl:l.length ≤ 1000000) (hks : ∀ x,x ∈ l → x.1.length ≤ 1000000)
  (hc : ∀ (b nn:Nat) (D0:DataW Value) (w:World),w.ownsMap P k vi b nn D0 → Maps.size D0 ≤ maxLen → Maps.size D0 * 16 ≤ 140737488355328 →
   Calls P f #[.map (some b)] w fun e w' => ∃ (v:Value) (ss:List (List UInt8)),e = .returned v ∧ ss.Perm (strKeys D0) ∧ w'.ownsRow w.heap.size k 1 v ss.length ((ss.mergeSort (fun x y=>decide (x ≤ y))).map Go.Proofs.encStr) ∧ (v = .slice none 0 0 ↔ ss = []) ∧ Below w.heap.size w w') :
  qZ P f [.mp 0] [.mp l] (.os 1 0 l.length) [.mp l,.own false 1 (((l.map (·.1)).mergeSort leB).map jn)]:=by
 intro B vs w hvs hN g
 obtain ⟨g1,_,F,ρ,hp,g4⟩:=g
 have hm:=g4 0
 have ho:=hp.own 0
 obtain ⟨v0,rfl⟩ : ∃ v,vs = [v]:=by
  match vs,hvs with
  | [v],_=>exact ⟨v,rfl⟩
 have hm:M F ρ v0 (.mp 0):=hm
 have ho:OwnAt F ρ w 0 (.mp l):=ho
 obtain ⟨b,rfl,hρ⟩:=hm.mp_inv
 obtain ⟨b',_,_,h5,h6,es,clock,rfl,l0,hperm,h78⟩:=ho
 rw [hρ] at h5;simp only [Option.some.injEq,Prod.mk.injEq] at h5
 obtain ⟨rfl,_⟩:=h5
 have hlen:=hperm.length_eq
 have hml:(1000000:Nat) ≤ maxLen:=by unfold maxLen;omega
 have hks0 : ∀ x,x ∈ l0 → x.1.length ≤ maxLen:=fun x hx=>Nat.le_trans (hks x (hperm.mem_iff.1 hx)) hml
 have hsz:=h78.size hk
 refine (hc b l0.length (Zt P k es) w (h78.owns hk (by omega) hks0 h6) (by omega) (by omega)).mono ?_
 rintro e w' ⟨v,ss,rfl,h1,h2, -,h3⟩
 refine ⟨v,rfl,?_⟩
 have hss:ss.Perm (l.map (·.1)):=(h1.trans (h78.strKeys hk hks0)).trans (hperm.map _)
 have hn:ss.length = l.length:=by rw [hss.length_eq,List.length_map]
 have hms:ss.mergeSort (fun x y=>decide (x ≤ y)) = (l.map (·.1)).mergeSort leB:=mergeSort_of_perm hss
 rw [hms,hn] at h2
 have:=qgk (H:=[.mp l]) g1 hp h3 h2 (fun c hc=>by obtain ⟨s,_,rfl⟩:=List.mem_map.1 hc;rfl)
 rw [List.map_map] at this
 exact this
def jk (ks:List (List UInt8)):List (List UInt8 × AV):=ks.map fun s=>(s,.junk)
theorem qL (ks:List (List UInt8)) : ∀ e,e ∈ jk ks → e.2.pure = true:=fun e he=>by
 obtain ⟨x,_,rfl⟩:=List.mem_map.1 he;rfl
theorem Kq (ks:List (List UInt8)):(jk ks).map (·.1) = ks:=by
 unfold jk;rw [List.map_map];exact List.map_id ks
section
variable {P:Program} {k:TypeId} {F:Still} {ρ:Places} {es:Array MapEntry} {clock:Nat} {l:List (List UInt8 × AV)}
theorem MapIn.has (hk:P.underlying k = some .string) (h:MapIn F ρ es clock l) (hks : ∀ x,x ∈ l → x.1.length ≤ maxLen) (s:List UInt8):Maps.has (Zt P k es) (.string s) = true ↔ s ∈ l.map (·.1):=by
 have h1:=h.rgs hk hks
 show ((es.toList.map (rg P k vi)).foldr DataW.insert []).any (fun p=>p.1.sameKey (.string s)) = true ↔ _
 rw [(sorted_perm (es.toList.map (rg P k vi))).any_eq,List.any_eq_true]
 constructor
 ·rintro ⟨p,hp,hs⟩
  have hm:p.1 ∈ (es.toList.map (rg P k vi)).map (·.1):=List.mem_map.2 ⟨p,hp,rfl⟩
  rw [h1] at hm
  obtain ⟨x,hx,he⟩:=List.mem_map.1 hm
  rw [← he] at hs
  have:=WideAt.sameKey_eq hs
  injection this with this
  exact List.mem_map.2 ⟨x,hx,this⟩
 ·intro hm
  obtain ⟨x,hx,rfl⟩:=List.mem_map.1 hm
  have hm:Lit.string x.1 ∈ (es.toList.map (rg P k vi)).map (·.1):=by rw [h1];exact List.mem_map.2 ⟨x,hx,rfl⟩
  obtain ⟨p,hp,he⟩:=List.mem_map.1 hm
  exact ⟨p,hp,by rw [he];simp [Lit.sameKey]⟩
theorem MapIn.elem (hk:P.underlying k = some .string) (h:MapIn F ρ es clock l) (hks : ∀ x,x ∈ l → x.1.length ≤ maxLen) {kl:Lit} {v:Value} (hat : ∀ z,(Zt P k es).atKey kl z = .held v) : ∃ x,x ∈ l ∧ M F ρ v x.2:=by
 have h1:=hat (.nil)
 have h2:((es.toList.map (rg P k vi)).foldr DataW.insert []).find? (fun p=>p.1.sameKey kl) ≠ none:=fun hn=>by
  have:(Zt P k es).atKey kl .nil = .nil:=by
   unfold Zt DataW.atKey
   simp only [hn]
  rw [this] at h1;cases h1
 cases hf:((es.toList.map (rg P k vi)).foldr DataW.insert []).find? (fun p=>p.1.sameKey kl) with
 | none=>exact absurd hf h2
 | some p =>
   have h3:(Zt P k es).atKey kl .nil = p.2:=by
    unfold Zt DataW.atKey
    simp only [hf]
   rw [h1] at h3
   have hp:=(sorted_perm _).mem_iff.1 (List.mem_of_find?_eq_some hf)
   obtain ⟨e,he,rfl⟩:=List.mem_map.1 hp
   obtain ⟨x,hx,hkx,hmx⟩:=h.of_mem he
   have:=rg_of (KF (P:=P) hk hkx (hks x hx))
   rw [this] at h3
   injection h3 with h3
   exact ⟨x,hx,h3 ▸ hmx⟩
def Zr (e:MapEntry):List UInt8:=match e.key with | .string b=>b.data.toList|_ => []
theorem qaS (hk:P.underlying k = some .string) {w:World} {b n:Nat} {D:DataW Value} (h:w.ownsMap P k vi b n D) {ks:List (List UInt8)} (hnd:ks.Nodup) (hm : ∀ x,x ∈ ks ↔ Maps.has D (.string x) = true) :
  ∃ es clock,w.heap[b]? = some (.map es clock) ∧ MapAt F ρ es clock (jk ks):=by
 have K:Keyed P k:=string_keyed hk
 obtain ⟨en,hD,hpw,_⟩:=h.entries K
 obtain ⟨en',hD',hko⟩:=h.keysOf
 obtain rfl:en = en':=by rw [hD] at hD';simpa using hD'
 obtain ⟨es,clock,hb,hF,hs,hDe⟩:=h
 have hps:ks.Perm (strKeys D):=by
  rw [hD]
  rw [hD] at hm
  exact perm_strKeys hpw (fun p hp=>by obtain ⟨v,hv⟩:=hko p hp;obtain ⟨x,_,hx,_⟩:=Maps.keyOf_str hk hv;exact ⟨x,hx⟩) hnd hm
 have hkey : ∀ e,e ∈ es.toList → e.key = .string ⟨(Zr e).toArray⟩ ∧ (rg P k vi e).1 = .string (Zr e):=fun e he=>by
  obtain ⟨y,hy⟩:=hF.reads e he
  obtain ⟨x,hx1,hx2,_⟩:=Maps.keyOf_str hk (rd_key hy)
  have hkb:Zr e = x:=by unfold Zr;rw [hx1]
  rw [hkb,rg_of hy,hx2]
  exact ⟨hx1,rfl⟩
 have hsk:(strKeys D).Perm (es.toList.map Zr):=by
  have h1:=(sorted_perm (es.toList.map (rg P k vi))).map (fun p=>strOf p.1)
  have h2:(es.toList.map (rg P k vi)).map (fun p=>strOf p.1) = es.toList.map Zr:=by
   rw [List.map_map]
   refine List.map_congr_left fun e he=>?_
   show strOf (rg P k vi e).1 = Zr e
   rw [(hkey e he).2];rfl
  rw [h2] at h1
  rw [hDe]
  exact h1
 have hp2:=hps.trans hsk
 have hjk:(es.toList.map fun e=>(Zr e,AV.junk)) = jk (es.toList.map Zr):=by unfold jk;rw [List.map_map];rfl
 refine ⟨es,clock,hb,(es.toList.map fun e=>(Zr e,AV.junk)),?_,by simp,?_,hF.stamped,fun i e x he hx=>?_⟩
 ·rw [hjk];exact (hp2.map _).symm
 ·rw [hjk,Kq];exact hp2.nodup_iff.1 hnd
 ·rw [List.getElem?_map,Array.getElem?_toList,he] at hx
  simp at hx
  subst hx
  exact ⟨(hkey e (by simpa using Array.mem_of_getElem? he)).1,.junk _ _⟩
end
end Go.Ab
