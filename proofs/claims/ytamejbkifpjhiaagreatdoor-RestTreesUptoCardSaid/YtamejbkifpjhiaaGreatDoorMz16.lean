import Derived.Test.YtamejbkifpjhiaaGreatDoorMz0
import Derived.Laws.RangeString
set_option linter.unusedSimpArgs false
set_option linter.unusedVariables false
namespace Go.Ab
open Go.RowKit
section ops
variable {C:Cx} {N d:Nat} {ty:TypeId} {pos:String} {af:Array Edge} {gd:Option (Nat × Bool)} {t:Nat → AV} {h:Nat → HB}
theorem qdY {o:Oper} {x:AV} (n:Nat) (X:MB) (rt:List Nat) (hN : ∀ d',o.dst = some d' → d' < N) (hx:x.pure = true)
  (hrun : ∀ B A h' F ρ (a:Act) (w:World),Hp B A h' F ρ w → (∀ j,j ∈ rt → M F ρ (a.tmps.getD j undef) (t j)) → h' n = h n →
   ∃ v b ob ob' kc,(execOp a.eval o).run C.P w = .ok v { w with heap:=w.heap.setIfInBounds b ob' } ∧ (v = .skip ∧ o.dst = none ∨ ∃ u,v = .value u ∧ M F ρ u x) ∧ ρ n = some (some (b,kc)) ∧ (h n).isOwn = true ∧ w.heap[b]? = some ob ∧ MbAt F ρ kc ob' X) :
  ja C.P N o t h ⟨rt,[n],o.dst,x,[(n,.mp X)],[]⟩:=by
 refine wX (ks:=[]) rt [n] n (.mp X) [] hN (.inr rfl) (by simp) ?_
 intro B A h' F ρ a w hp hmm hh _
 have hn' : h' n = h n:=hh n (by simp)
 obtain ⟨v,b,ob,ob',kc,hrun',hres,hρ,hio,hb,hX⟩:=hrun B A h' F ρ a w hp hmm hn'
 have hpl:(fun m=>if m = n then some (some (b,kc)) else ρ m) = ρ:=by
  funext m;by_cases hmn:m = n
  ·subst hmn;simp [hρ]
  ·simp [hmn]
 have hnew:=(hp.new n b _ (by rw [hn'];exact hio) hρ)
 obtain ⟨hs1,hs2⟩:=Go.MapKept.heap_set (o':=ob') hb
 refine ⟨v, { w with heap:=w.heap.setIfInBounds b ob' },some (b,kc),some b,hrun',?_,.inr hρ,?_,?_,?_,?_,?_,fun _=>by rw [hρ];simp⟩
 ·rw [hpl];exact hres
 ·refine ⟨hp.kept.os,hp.kept.tape,hp.kept.output,by simpa using hp.kept.size,fun b' hb' ho'=>?_⟩
  rw [hs2 b' (by rintro rfl;rcases hnew.2 with hq|hq; · omega
                 ·exact ho' hq)]
  exact hp.kept.block b' hb' ho'
 ·intro b' hb'
  simp only [Option.some.injEq] at hb'
  subst hb'
  exact ⟨n,_,.inl rfl,by rw [hn'];exact hio,hρ⟩
 ·intro b' _ hb'
  exact hs2 b' (fun e=>hb' (by rw [e]))
 ·intro b' c'' he
  simp only [Option.some.injEq,Prod.mk.injEq] at he
  exact .inl (by rw [he.1])
 ·rw [hpl]
  exact ⟨b,ob',_,hρ,hs1,hX⟩
theorem XT {l l' : List (List UInt8 × AV)} (s:List UInt8) (h:l.Perm l'):(xJ l s).Perm (xJ l' s):=h.filter _
theorem qgN {l:List (List UInt8 × AV)} {s:List UInt8} {j:Nat} (hn:(l.map (·.1)).Nodup) (hj:j < l.length) (hs:l[j].1 = s):xJ l s = l.eraseIdx j:=by
 induction l generalizing j with
 | nil=>simp at hj
 | cons e l ih =>
   rw [List.map_cons,List.nodup_cons] at hn
   cases j with
   | zero =>
     simp only [List.getElem_cons_zero] at hs
     unfold xJ
     rw [List.filter_cons_of_neg (by simpa using hs),List.eraseIdx_cons_zero]
     exact kE (hs ▸ hn.1)
   | succ j =>
     simp only [List.getElem_cons_succ] at hs
     have he:¬ e.1 = s:=fun h=>hn.1 (by rw [h, ← hs];exact List.mem_map.2 ⟨_,List.getElem_mem _,rfl⟩)
     have h2:=ih hn.2 (by simpa using hj) hs
     rw [List.eraseIdx_cons_succ, ← h2]
     unfold xJ
     rw [List.filter_cons_of_pos (by simpa using he)]
theorem MapIn.del {F:Still} {ρ:Places} {es:Array MapEntry} {clock:Nat} {l:List (List UInt8 × AV)} (h:MapIn F ρ es clock l) {j:Nat} (hj:j < l.length):MapIn F ρ (es.eraseIdxIfInBounds j) clock (l.eraseIdx j):=by
 have hsz:=h.len
 have hes:es.eraseIdxIfInBounds j = es.eraseIdx j (by omega):=by unfold Array.eraseIdxIfInBounds;rw [dif_pos (by omega)]
 have hget : ∀ i:Nat,(es.eraseIdx j (by omega))[i]? = if i < j then es[i]? else es[i + 1]?:=fun i=>by rw [Array.getElem?_eraseIdx]
 refine ⟨by rw [hes];simp [hsz,List.length_eraseIdx,hj],?_,Go.MapKept.stamped_erase h.stamp j,?_⟩
 ·exact h.nodup.sublist ((List.eraseIdx_sublist ..).map _)
 ·intro i e x h1 h2
  rw [hes,hget] at h1
  rw [List.getElem?_eraseIdx] at h2
  split at h1
  ·rename_i hi;rw [if_pos hi] at h2;exact h.ents _ _ _ h1 h2
  ·rename_i hi;rw [if_neg hi] at h2;exact h.ents _ _ _ h1 h2
theorem ZE (T kT e:Nat) (xm xk:Operand) (n:Nat) (l:List (List UInt8 × AV)) (s:List UInt8) (tys:Array TypeId) (r rk:TRec) (hm:evA t xm = .mp n) (hn:h n = .mp l) (hk:evA t xk = .v (str s)) (htys:tys[0]? = some T) (hT:qW C.tab T = some r) (he:r.kind = .map kT e) (hK:qW C.tab kT = some rk) (hks:rk.kind = .string) :
  ja C.P N ⟨none,.call ⟨.builtin .delete, #[xm,xk],tys⟩,ty,pos,af,gd⟩ t h ⟨yr xm ++ yr xk,[n],none,.junk,[(n,.mp (xJ l s))],[]⟩:=by
 refine qdY n (xJ l s) _ (fun d' hd'=>by cases hd') rfl ?_
 intro B A h' F ρ a w hp hmm hn'
 have h1:=qE (x:=xm) hmm (fun j hj=>List.mem_append_left _ hj)
 have h2:=qE (x:=xk) hmm (fun j hj=>List.mem_append_right _ hj)
 rw [hm] at h1;rw [hk] at h2
 obtain ⟨h2,_⟩:=h2.v_inv
 have h2' : a.eval xk = .string ⟨s.toArray⟩:=h2
 obtain ⟨b,hv,hρ⟩:=h1.mp_inv
 have ho:=hp.own n
 rw [hn'.trans hn] at ho
 obtain ⟨b',_,_,h5,h6,es,clock,rfl,l0,hperm,h78⟩:=ho
 rw [hρ] at h5;simp only [Option.some.injEq,Prod.mk.injEq] at h5
 obtain ⟨rfl,_⟩:=h5
 have hu:=YI (C.ok _ r hT) he
 have hku:=vS (C.ok _ rk hK) hks
 have hkey:=Go.MapKept.run_checkKey (P:=C.P) (w:=w) hku (k := .string ⟨s.toArray⟩) trivial es.isEmpty 9999
 have hio:(h n).isOwn = true:=by rw [hn];rfl
 rcases Jz s es.toList l0 0 (by simpa using h78.len) (fun j e' x' h1 h2=>(h78.ents j e' x' (by simpa using h1) h2).1) with ⟨h9,h10⟩|⟨j,e0,h9,h10,h11,h12⟩
 ·refine ⟨.value (.tuple #[]),b,_,.map es clock,_,?_,.inr ⟨_,rfl,.junk _ _⟩,hρ,hio,h6,es,clock,rfl,l0,?_,h78⟩
  ·simp [execOp,resolve,invoke,builtin,Builtin.delete_,hv,h2',htys,run_underlying hu,Go.MapKept.run_getObj_map h6,hkey,Go.MapKept.run_findKey hku h10,Go.MapKept.run_setObj_map _ h6]
  ·have hno:s ∉ l0.map (·.1):=fun hm=>by
    obtain ⟨e1,he1,he2⟩:=List.mem_map.1 hm
    have:=List.findIdx?_eq_none_iff.1 h9 e1 he1
    rw [he2] at this
    simp at this
   have:=XT s hperm
   rwa [kE hno] at this
 ·rw [Nat.zero_add] at h12
  have hj:es[j]? = some e0:=by simpa using h10
  have hjl:j < l0.length:=by rw [← h78.len];exact (Array.getElem?_eq_some_iff.1 hj).1
  have hkx:=h78.ents j e0 _ hj (List.getElem?_eq_getElem hjl)
  have hk0:l0[j].1 = s:=by
   have h1:=hkx.1
   rw [h11,Y1] at h1
   exact h1.symm
  refine ⟨.value (.tuple #[]),b,_,.map (es.eraseIdxIfInBounds j) clock,_,?_,.inr ⟨_,rfl,.junk _ _⟩,hρ,hio,h6,_,clock,rfl,l0.eraseIdx j,?_,h78.del hjl⟩
  ·simp [execOp,resolve,invoke,builtin,Builtin.delete_,hv,h2',htys,run_underlying hu,Go.MapKept.run_getObj_map h6,hkey,Go.MapKept.run_findKey hku h12,Go.MapKept.run_setObj_map _ h6]
  ·rw [← qgN h78.nodup hjl hk0]
   exact XT s hperm
theorem Kk (T:Nat) (x:Operand) (m:Nat) (s:List UInt8) (r:TRec) (hx:evA t x = .v (str s)) (hT:qW C.tab T = some r) (hs:r.kind = .string) (hN:d < N) :
  ja C.P N ⟨some d,.range T x,ty,pos,af,gd⟩ t h ⟨yr x,[],some d,.op m 0 0,[(m,.mp (.sit s 0))],[m]⟩:=by
 refine wX (ks:=[]) (yr x) [] m (.mp (.sit s 0)) [m] (fun d' hd'=>by injection hd' with e;exact e ▸ hN) (.inl rfl) (by simp) ?_
 intro B A h' F ρ a w hp hm hh hfr
 have hρ:ρ m = none:=hfr m (by simp)
 have h1:=qE (x:=x) hm (fun j hj=>hj)
 rw [hx] at h1
 obtain ⟨h1,_⟩:=h1.v_inv
 have h1' : a.eval x = .string ⟨s.toArray⟩:=h1
 have hu:=vS (C.ok _ r hT) hs
 refine ⟨.value (.pointer (some ⟨w.heap.size,0,none⟩)),w.alloc (.stringIter ⟨s.toArray⟩ 0),some (w.heap.size,0,0),none,?_,.inr ⟨_,rfl,(by simpa using M.op (F:=F) (fun n=>if n = m then some (some (w.heap.size,0,0)) else ρ n) m w.heap.size 0 0 0 0 (by simp))⟩,.inl hρ,hp.kept.alloc _,(fun b hb=>by cases hb),fun b hb _=>heap_alloc_old w _ b hb,(fun b c hb=>by simp only [Option.some.injEq,Prod.mk.injEq] at hb;exact .inr (by omega)),⟨w.heap.size,_,(0,0),by simp,heap_alloc_new w _,rfl⟩,(fun h=>by cases h)⟩
 have:=run_range_string (P:=C.P) w T ⟨s.toArray⟩ hu
 simp [execOp,h1',this,World.iter]
theorem XM (it:Operand) (m:Nat) (s:List UInt8) (p:Nat) (hi:evA t it = .op m 0 0) (hm:h m = .mp (.sit s p)) (hp:p < s.length) (ha:s[p].toNat < 128) (hN:d < N) :
  ja C.P N ⟨some d,.next it true,ty,pos,af,gd⟩ t h ⟨yr it,[m],some d,.tup [.v (.bool true),.v (.int .i64 (p:Int)),.v (.int .i32 (s[p].toNat:Int))],[(m,.mp (.sit s (p + 1)))],[]⟩:=by
 refine qdY m (.sit s (p + 1)) _ (fun d' hd'=>by injection hd' with e;exact e ▸ hN) rfl ?_
 intro B A h' F ρ a w hpp hmm hn'
 have h1:=qE (x:=it) hmm (fun j hj=>hj)
 rw [hi] at h1
 have ho:=hpp.own m
 rw [hn'.trans hm] at ho
 obtain ⟨b,_,_,h5,h6,rfl⟩:=ho
 generalize hv:a.eval it = v at h1
 cases h1 with
 | op _ _ b' k cap _ _ hρ =>
   rw [hρ] at h5;simp only [Option.some.injEq,Prod.mk.injEq] at h5
   obtain ⟨rfl,rfl,rfl⟩:=h5
   have hsz:p < (⟨s.toArray⟩ : ByteArray).size:=by show p < s.toArray.size;simpa using hp
   have hget:(⟨s.toArray⟩ : ByteArray)[p]'hsz = s[p]:=by
    show s.toArray[p]'_ = _
    simp
   have hd:=decode_ascii ⟨s.toArray⟩ p hsz (by rw [hget];exact ha)
   rw [hget] at hd
   refine ⟨.value (.tuple #[.bool true,.int .i64 (p:Int),.int .i32 (s[p].toNat:Int)]),b',_,.stringIter ⟨s.toArray⟩ (p + 1),_,?_,.inr ⟨_,rfl,?_⟩,hρ,by rw [hm];rfl,h6,rfl⟩
   ·simp only [Nat.zero_mul,Nat.mul_zero,Nat.zero_add,Nat.add_zero] at hv
    simp [execOp,hv,Instr.next,getObj,setObj,Sem.run,h6,hsz,hd,goInt]
   ·refine .tup _ [.bool true,.int .i64 (p:Int),.int .i32 (s[p].toNat:Int)] _ rfl fun i u y hu hy=>?_
    match i with
    | 0=>simp at hu hy;subst hu;subst hy;exact .v _ _ rfl
    | 1=>simp at hu hy;subst hu;subst hy;exact .v _ _ rfl
    | 2=>simp at hu hy;subst hu;subst hy;exact .v _ _ rfl
    | i + 3=>simp at hu
theorem Wr (it:Operand) (m:Nat) (s:List UInt8) (p:Nat) (hi:evA t it = .op m 0 0) (hm:h m = .mp (.sit s p)) (hp:s.length ≤ p) (hN:d < N) :
  ja C.P N ⟨some d,.next it true,ty,pos,af,gd⟩ t h ⟨yr it,[m],some d,.tup [.v (.bool false)],[],[]⟩ :=
 jV _ _ rfl hN fun F ρ a w _ hs hh=>by
  have h1:=qE (x:=it) hs (fun j hj=>hj)
  rw [hi] at h1
  have ho:=hh m (by simp)
  rw [hm] at ho
  obtain ⟨b,_,_,h5,h6,rfl⟩:=ho
  generalize hv:a.eval it = v at h1
  cases h1 with
  | op _ _ b' k cap _ _ hρ =>
    rw [hρ] at h5;simp only [Option.some.injEq,Prod.mk.injEq] at h5
    obtain ⟨rfl,rfl,rfl⟩:=h5
    have hsz:¬ p < (⟨s.toArray⟩ : ByteArray).size:=by show ¬ p < s.toArray.size;simp;omega
    refine ⟨.tuple #[.bool false],?_,.tup _ [.bool false] _ rfl fun i u y hu hy=>?_⟩
    ·simp only [Nat.zero_mul,Nat.mul_zero,Nat.zero_add,Nat.add_zero] at hv
     simp [execOp,hv,Instr.next,getObj,Sem.run,h6,hsz]
    ·match i with
     | 0=>simp at hu hy;subst hu;subst hy;exact .v _ _ rfl
     | i + 1=>simp at hu
end ops
theorem ve {L:List (Nat × Nat)} {nh:Nat} {σ:St} {n n' : Nat} {s:List UInt8} {p p' : Nat} {l:List (Nat × HB)} (hl:vp L nh σ l) (hp:p = p') (hm:Maps L nh n n':=by (first|exact qN rfl|exact .inr (List.mem_cons_self ..)|exact .inr (List.mem_cons_of_mem _ (List.mem_cons_self ..))|exact .inr (List.mem_cons_of_mem _ (List.mem_cons_of_mem _ (List.mem_cons_self ..)))|exact .inr (List.mem_cons_of_mem _ (List.mem_cons_of_mem _ (List.mem_cons_of_mem _ (List.mem_cons_self ..)))))) (hx:jg σ.hs n = .mp (.sit s p):=by rfl):vp L nh σ ((n',.mp (.sit s p')) :: l):=⟨⟨n,hm,by rw [hx];exact ⟨rfl,hp⟩⟩,hl⟩
end Go.Ab
