import Derived.Test.YtahbbnfmbohmmaaDoorLz6
set_option linter.unusedSimpArgs false
set_option linter.unusedVariables false
namespace Go.Ab
open Go.RowKit
def ResOk (C:Cx) (σ:St):List ResultVar → List AV → Prop
 | [],[]=>True
 | .tmp i :: rs,x :: xs=>qn σ.ts i = x ∧ ResOk C σ rs xs
 | .cell a T :: rs,x :: xs=>(∃ n i j ex k rows r row,qn σ.ts a = .op n i j ∧ qm σ.hs n = .own ex k rows ∧ ju C.tab T = some r ∧ rows[i]? = some row ∧ ZH r row j = some x) ∧ ResOk C σ rs xs
 | _,_=>False
theorem qw {C:Cx} {σ:St}:ResOk C σ [] []:=trivial
theorem qx {C:Cx} {σ:St} {i:Nat} {rs:List ResultVar} {x:AV} {xs:List AV} (hx:qn σ.ts i = x) (h:ResOk C σ rs xs):ResOk C σ (.tmp i :: rs) (x :: xs):=⟨hx,h⟩
theorem qu {C:Cx} {σ:St} {a T n i j:Nat} {ex:Bool} {k:Nat} {rows:List (List AV)} {r:TRec} {row:List AV} {rs:List ResultVar} {x:AV} {xs:List AV} (h1:qn σ.ts a = .op n i j) (h2:qm σ.hs n = .own ex k rows)
  (h3:ju C.tab T = some r) (h4:rows[i]? = some row) (h5:ZH r row j = some x) (h:ResOk C σ rs xs):ResOk C σ (.cell a T :: rs) (x :: xs):=⟨⟨n,i,j,ex,k,rows,r,row,h1,h2,h3,h4,h5⟩,h⟩
theorem Xe {α β:Type} {P:Program} {w:World} (f:α → Sem β) (Q:α → β → Prop) : ∀ (l:List α),(∀ x,x ∈ l → ∃ v,(f x).run P w = .ok v w ∧ Q x v) → ∃ vs:List β,(l.mapM f).run P w = .ok vs w ∧ vs.length = l.length ∧ ∀ (i:Nat) x v,l[i]? = some x → vs[i]? = some v → Q x v
 | [],_=>⟨[],by simp,rfl,fun i x v h=>by cases i<;>cases h⟩
 | x :: l,h=>by
   obtain ⟨v,hv,hq⟩:=h x (List.mem_cons_self ..)
   obtain ⟨vs,hvs,hl,hqs⟩:=Xe f Q l fun y hy=>h y (List.mem_cons_of_mem _ hy)
   refine ⟨v :: vs,by simp [List.mapM_cons,hv,hvs],by simp [hl],fun i y u hy hu=>?_⟩
   cases i with
   | zero=>simp at hy hu;subst hy;subst hu;exact hq
   | succ i=>exact hqs i y u (by simpa using hy) (by simpa using hu)
theorem ResOk.get {C:Cx} {σ:St} : ∀ {rs:List ResultVar} {xs:List AV},ResOk C σ rs xs → rs.length = xs.length ∧ ∀ (i:Nat) rv x,rs[i]? = some rv → xs[i]? = some x → ResOk C σ [rv] [x]
 | [],[],_=>⟨rfl,fun i rv x h=>by cases i<;>cases h⟩
 | .tmp i :: rs,x :: xs,h=>by
   obtain ⟨hl,hg⟩:=ResOk.get h.2
   refine ⟨by simp [hl],fun j rv y hr hy=>?_⟩
   cases j with
   | zero=>simp at hr hy;subst hr;subst hy;exact ⟨h.1,trivial⟩
   | succ j=>exact hg j rv y (by simpa using hr) (by simpa using hy)
 | .cell a T :: rs,x :: xs,h=>by
   obtain ⟨hl,hg⟩:=ResOk.get h.2
   refine ⟨by simp [hl],fun j rv y hr hy=>?_⟩
   cases j with
   | zero=>simp at hr hy;subst hr;subst hy;exact ⟨h.1,trivial⟩
   | succ j=>exact hg j rv y (by simpa using hr) (by simpa using hy)
 | [],_ :: _,h=>h.elim
 | .tmp _ :: _,[],h=>h.elim
 | .cell _ _ :: _,[],h=>h.elim
def jQ:List AV → AV
 | [x]=>x
 | xs => .tup xs
theorem wI {C:Cx} {σ:St} {B:Base} {A:Nat → Prop} {F:Still} {ρ:Places} {a:Act} {w:World} {fn:Func} {rs:List ResultVar} {xs:List AV} (hrs:fn.results = rs.toArray) (hp:Hp B A (qm σ.hs) F ρ w) (ht : ∀ i,M F ρ (a.tmps.getD i undef) (qn σ.ts i))
  (hr:ResOk C σ rs xs) : ∃ v,(results fn a.tmps).run C.P w = .ok v w ∧ M F ρ v (jQ xs):=by
 obtain ⟨hl,hg⟩:=hr.get
 obtain ⟨vs,h1,h2,h3⟩:=Xe (P:=C.P) (w:=w) (fun rv:ResultVar=>match rv with
  | .tmp t=>(pure (a.tmps.getD t undef):Sem Value)
  | .cell ad t=>do loadVar t (← asAddr (a.tmps.getD ad undef))) (fun rv v => ∀ x,ResOk C σ [rv] [x] → M F ρ v x) rs (by
    intro rv hrv
    obtain ⟨i,hi⟩:=List.mem_iff_getElem?.1 hrv
    have hix:i < xs.length:=by rw [← hl];exact (List.getElem?_eq_some_iff.1 hi).1
    have h0:=hg i rv _ hi (List.getElem?_eq_getElem hix)
    cases rv with
    | tmp t=>exact ⟨a.tmps.getD t undef,rfl,fun x hx=>hx.1 ▸ ht t⟩
    | cell ad T =>
      obtain ⟨⟨n,i',j,ex,k,rows,r,row,e1,e2,e3,e4,e5⟩,_⟩:=h0
      have hm:=ht ad
      rw [e1] at hm
      obtain ⟨b,k',cap,hρ,hv⟩:=hm.op_inv
      have ho:=hp.own n
      rw [e2] at ho
      obtain ⟨rfl,c,e,hb,hsz,hle,_,hR⟩:=xf ho hρ
      have hi' : i' < rows.length:=(List.getElem?_eq_some_iff.1 e4).1
      have hk:row.length = k':=hR.1 row (List.mem_of_getElem? e4)
      obtain ⟨v,hrun,hm'⟩:=zF (F:=F) (ρ:=ρ) hb (C.ok T r e3) (base:=i' * k') (j:=j) (row:=row) (by rw [hk,hsz];exact yI hi' hle) (fun j x v hj hc=>hR.2 i' j row x v e4 hj hc) e5
      refine ⟨v,by simp only [hv,asAddr,Sem.run_bind,Sem.run_pure,Result.andThen_ok,hrun],?_⟩
      intro x ⟨⟨n2,i2,j2,ex2,k2,rows2,r2,row2,f1,f2,f3,f4,f5⟩,_⟩
      rw [e1] at f1;injection f1 with g1 g2 g3
      subst g1;subst g2;subst g3
      rw [e2] at f2;injection f2 with g1 g2 g3
      subst g3
      rw [e3] at f3;injection f3 with g1;subst g1
      rw [e4] at f4;injection f4 with g1;subst g1
      rw [e5] at f5;injection f5 with g1;subst g1
      exact hm')
 have hm : ∀ (i:Nat) v x,vs[i]? = some v → xs[i]? = some x → M F ρ v x:=by
  intro i v x hv hx
  have hir:i < rs.length:=by rw [hl];exact (List.getElem?_eq_some_iff.1 hx).1
  have hr:=List.getElem?_eq_getElem hir
  exact h3 i _ v hr hv x (hg i _ x hr hx)
 have hres:(results fn a.tmps).run C.P w = .ok (if h:vs.toArray.size = 1 then vs.toArray[0] else .tuple vs.toArray) w:=by
  unfold results
  rw [Sem.run_bind,hrs,Array.mapM_eq_mapM_toList,Sem.run_map]
  refine (congrArg (fun r:Result (List Value)=>((r.andThen fun a w'=>Result.ok a.toArray w').andThen fun vs w'=>Sem.run C.P (pure (if h:vs.size = 1 then vs[0] else Value.tuple vs)) w')) h1).trans ?_
  rfl
 refine ⟨_,hres,?_⟩
 have hvx:vs.length = xs.length:=by rw [h2,hl]
 match xs,hvx,hm with
 | [x],hvx,hm =>
   match vs,hvx,hm with
   | [v],_,hm=>exact hm 0 v x rfl rfl
 | [],hvx,hm =>
   have:vs = []:=List.eq_nil_of_length_eq_zero hvx
   subst this
   exact .tup _ [] [] rfl (fun i v x h=>by cases i<;>cases h)
 | x :: y :: l,hvx,hm =>
   rw [dif_neg (by simp at hvx ⊢;omega)]
   exact .tup _ vs _ hvx hm
theorem kE {C:Cx} {rs:List ResultVar} {nh:Nat} {σ:St} {xs:List AV} {r:AV} (hr:ResOk C σ rs xs) (hz:Rz (qm σ.hs) (jQ xs) r):Fin C rs.toArray nh r [] σ:=by
 intro fn B a w hrs hρ0 hds ⟨g1,g2,F,ρ,hp,g4⟩
 obtain ⟨v,hrun,hm⟩:=wI hrs hp g4 hr
 refine ⟨v,hrun,hds.symm,rfl,QP F ρ (qm σ.hs) w,ρ,?_,fun i=>?_⟩
 ·refine { kept:=⟨hp.kept.os,hp.kept.tape,hp.kept.output,hp.kept.size,hp.kept.block⟩,agree := ?_,grow:=fun b o hb=>wZ F ρ _ w b o (hp.grow b o hb),fresh := ?_,names:=hp.names,dom:=fun _ _=>trivial,own:=fun n=>?_,new := ?_,sep := ?_ }
  ·intro b o hb
   unfold QP at hb
   cases hF:F b with
   | some o'=>rw [hF] at hb;simp only at hb;rw [← hb];exact hp.agree b o' hF
   | none =>
     rw [hF] at hb
     simp only at hb
     split at hb
     ·exact hb
     ·cases hb
  ·intro b hb
   unfold QP at hb
   cases hF:F b with
   | some o'=>exact hp.fresh b (by rw [hF];simp)
   | none =>
     rw [hF] at hb
     simp only at hb
     split at hb
     ·rename_i hex
      obtain ⟨n,c,hn,hρ⟩:=hex
      exact .inr (hp.new n b c hn hρ).2
     ·exact absurd rfl hb
  ·have:(List.getD ([]:List HB) n .dead) = .dead:=by simp
   rw [this];trivial
  ·intro n b c hn
   simp [HB.isOwn] at hn
  ·intro n m b c c' _ hn
   simp [HB.isOwn] at hn
 ·by_cases hi:i = 0
  ·subst hi
   exact ((hz F ρ w v hp.own (fun n b c h1 h2=>(hp.new n b c h1 h2).1) hm).mono (Still.le_refl _) (vt ρ))
  ·unfold one;rw [if_neg hi];exact .junk _ _
def XD:AV → Bool
 | .v _=>true
 | .tup cs=>cs.all fun x=>match x with | .v _=>true|_=>false
 | _=>false
theorem XE {F G:Still} {ρ σ:Places} {v:Value} {x:AV} (hm:M F ρ v x) (hx:XD x = true):M G σ v x:=by
 cases hm with
 | v _ _ h=>exact .v _ _ h
 | tup _ vs xs hl h =>
   refine .tup _ vs xs hl fun i u y hu hy=>?_
   have:=List.all_eq_true.1 (by simpa [XD] using hx) y (List.mem_of_getElem? hy)
   have hm:=h i u y hu hy
   cases y<;>simp at this
   obtain ⟨e,hs⟩:=hm.v_inv
   subst e
   exact .v _ _ hs
 | _=>simp [XD] at hx
def zc (rh:List Nat) (h:Nat → HB):Nat → HB:=fun n=>if n ∈ rh then h n else .dead
theorem JM {P:Program} {f:FuncId} {fn:Func} (hf:P.funcs[f]? = some fn) (hb:fn.body.isNone = false) (hn:(fn.name == "runtime.NumGoroutine") = false) (args:Array Value) (w:World):(callFunc f args).run P w = .ok (.enter f args) w:=by
 unfold callFunc
 simp only [Sem.run_bind,program,Sem.run,hf,hn,hb,Bool.false_eq_true,if_false,Sem.run_pure,Result.andThen]
structure IsFn (P:Program) (f:FuncId):Prop where
 ex : ∃ fn,P.funcs[f]? = some fn ∧ fn.body.isNone = false ∧ (fn.name == "runtime.NumGoroutine") = false
theorem Kf {F:Still} {ρ:Places} {t:Nat → AV} {a:Act} {rt:List Nat} (hs : ∀ j,j ∈ rt → M F ρ (a.tmps.getD j undef) (t j)) : ∀ (l:List Operand),(∀ j,j ∈ l.flatMap ji → j ∈ rt) → ∀ (i:Nat) v x,(l.map a.eval)[i]? = some v → (l.map (evA t))[i]? = some x → M F ρ v x:=by
 intro l hin i v x hv hx
 rw [List.getElem?_map] at hv hx
 cases hl:l[i]? with
 | none=>simp [hl] at hv
 | some o =>
   simp only [hl,Option.map_some,Option.some.injEq] at hv hx
   subst hv;subst hx
   exact qg hs fun j hj=>hin j (List.mem_flatMap.2 ⟨o,List.mem_of_getElem? hl,hj⟩)
def qE (P:Program) (o:Oper) (t:Nat → AV) (rt:List Nat) (f:FuncId) (xs:List AV):Prop :=
 ∀ (F:Still) (ρ:Places) (a:Act) (w:World),(∀ j,j ∈ rt → M F ρ (a.tmps.getD j undef) (t j)) →
   ∃ vs:List Value,(execOp a.eval o).run P w = .ok (.enter f vs.toArray) w ∧ vs.length = xs.length ∧ ∀ (i:Nat) v x,vs[i]? = some v → xs[i]? = some x → M F ρ v x
section calls
variable {C:Cx} {N d:Nat} {ty:TypeId} {pos:String} {af:Array Edge} {gd:Option (Nat × Bool)} {t:Nat → AV} {h:Nat → HB}
theorem xa (f:FuncId) (hf:IsFn C.P f) (c:Operand) (args:List Operand) (tys:Array TypeId) (first cap:List AV) (hc:evA t c = .clo (.func f) first cap) :
  qE C.P ⟨some d,.call ⟨.value c,args.toArray,tys⟩,ty,pos,af,gd⟩ t (ji c ++ args.flatMap ji) f (first ++ args.map (evA t) ++ cap):=by
 intro F ρ a w hs
 have h1:=qg (x:=c) hs (fun j hj=>List.mem_append_left _ hj)
 rw [hc] at h1
 generalize hac:a.eval c = ac at h1
 cases h1 with
 | clo _ fn vs us xs ys hl hm a1 a2 =>
   refine ⟨vs ++ args.map a.eval ++ us,?_,by simp [hl,hm],?_⟩
   ·obtain ⟨fn',hf1,hf2,hf3⟩:=hf.ex
    simp only [execOp,resolve,hac,Deferred.ofValue,Sem.run_bind,Sem.run_pure,Result.andThen_ok,invoke]
    rw [show (vs.toArray ++ args.toArray.map a.eval ++ us.toArray) = (vs ++ args.map a.eval ++ us).toArray from by simp]
    exact JM hf1 hf2 hf3 _ w
   ·intro i v x hv hx
    rw [List.getElem?_append] at hv hx
    have e1:(vs ++ args.map a.eval).length = (first ++ args.map (evA t)).length:=by simp [hl]
    rw [e1] at hv
    split at hv
    ·rename_i hi
     rw [if_pos hi] at hx
     rw [List.getElem?_append] at hv hx
     rw [hl] at hv
     split at hv
     ·rename_i hi2
      rw [if_pos hi2] at hx
      exact a1 i v x hv hx
     ·rename_i hi2
      rw [if_neg hi2] at hx
      exact Kf hs args (fun j hj=>List.mem_append_right _ hj) _ v x hv hx
    ·rename_i hi
     rw [if_neg hi] at hx
     exact a2 _ v x hv hx
theorem QZ {P:Program} {o:Oper} {a:Act} {w w1:World} {f:FuncId} {vs:Array Value} {K:Act → World → Prop} {Q:Exit → Act → World → Prop} (he:(execOp a.eval o).run P w = .ok (.enter f vs) w1) {R:Ending → World → Prop} (hc:Calls P f vs w1 R)
  (hk : ∀ e w',R e w' → ∃ v,e = .returned v ∧ K (a.put o.dst v) w'):o.wp P a w K Q:=by
 unfold Oper.wp
 rw [he,Oper.upon_enter]
 refine hc.mono fun e w' hr=>?_
 obtain ⟨v,rfl,hk'⟩:=hk e w' hr
 exact hk'
theorem JT {o:Oper} {f:FuncId} {xs ys:List AV} {r:AV} (rt rh:List Nat) (hd:o.dst = some d) (hN:d < N) (he:qE C.P o t rt f xs) (hz:yL (zc rh h) xs ys) (hc:qp C.P f ys [] r []) (hfl:XD r = true) :
  qA C.P N o t h ⟨rt,rh,some d,r,[],[]⟩:=by
 intro B A t' h' a w Q K hBN g hrt hrh _ hK
 obtain ⟨g1,g2,F,ρ,hp,g4⟩:=g
 obtain ⟨vs,hrun,hl,hm⟩:=he F ρ a w (fun j hj=>(hrt j hj) ▸ g4 j)
 have heq:zc rh h' = zc rh h:=by
  funext n;unfold zc;split
  ·rename_i hn;exact hrh n hn
  ·rfl
 have hown : ∀ n,OwnAt F ρ w n (zc rh h n):=fun n=>by
  rw [← heq];unfold zc;split
  ·exact hp.own n
  ·trivial
 have hnone : ∀ n b c,(zc rh h n).isOwn = true → ρ n = some (some (b,c)) → F b = none:=fun n b c hn hρ=>by
  rw [← heq] at hn;unfold zc at hn;split at hn
  ·exact (hp.new n b c hn hρ).1
  ·cases hn
 let F1:=QP F ρ (zc rh h) w
 let B' : Base := { w0:=w,F0:=F1,ρ0:=noPlaces,O0:=fun _=>False,N:=vs.length,tab:=fun b p h=>(B.tab b p h).imp fun cs h=>h.imp fun e h=>h.imp fun fr h=>⟨h.1,wZ F ρ _ w b _ (hp.grow b _ h.2)⟩ }
 have hag : ∀ b o,F1 b = some o → w.heap[b]? = some o:=by
  intro b o hb
  simp only [F1,QP] at hb
  cases hF:F b with
  | some o'=>rw [hF] at hb;simp only at hb;rw [← hb];exact hp.agree b o' hF
  | none =>
    rw [hF] at hb
    simp only at hb
    split at hb
    ·exact hb
    ·cases hb
 have hGa:Ga B' (· < ([]:List HB).length) (fun i=>ys.getD i .junk) (fun n=>([]:List HB).getD n .dead) ⟨vs.toArray,[]⟩ w:=by
  refine ⟨rfl,by simp [B'],F1,noPlaces,?_,fun i=>?_⟩
  ·exact { kept:=⟨rfl,rfl,rfl,Nat.le_refl _,fun _ _ _=>rfl⟩,agree:=hag,grow:=Still.le_refl _,fresh:=fun b hb => .inl hb,names:=Places.le_refl _,dom:=fun n hn=>absurd rfl hn,own:=fun n=>by simp [OwnAt],new:=fun n b c hn=>by simp [HB.isOwn] at hn,sep:=fun n m b c c' _ hn=>by simp [HB.isOwn] at hn }
  ·show M F1 noPlaces _ (ys.getD i .junk)
   cases hy:ys[i]? with
   | none=>rw [List.getD_eq_getElem?_getD,hy];exact .junk _ _
   | some y =>
     rw [List.getD_eq_getElem?_getD,hy]
     have hi:i < xs.length:=by rw [hz.1];exact (List.getElem?_eq_some_iff.1 hy).1
     have hx:xs[i]? = some xs[i]:=List.getElem?_eq_getElem hi
     have hv:vs[i]? = some (vs[i]'(by omega)):=List.getElem?_eq_getElem (by omega)
     simp only [Array.getD_eq_getD_getElem?,List.getElem?_toArray,hv,Option.getD_some]
     exact hz.2 i _ y hx hy F ρ w _ hown hnone (hm i _ _ hv hx)
 refine QZ hrun (hc B' vs w (by rw [hl,hz.1]) rfl hGa) ?_
 intro e w' ⟨v,hev,_,_,F',ρ',hp',hm'⟩
 refine ⟨v,hev,hK _ _ ⟨?_,by rw [yU];exact g2,F,ρ,?_,fun i=>?_⟩⟩
 ·simpa [Act.put,hd] using g1
 ·have hblk : ∀ b,b < w.heap.size → w'.heap[b]? = w.heap[b]?:=fun b hb=>hp'.kept.block b hb (fun h=>h)
  refine { kept:=⟨hp'.kept.os.trans hp.kept.os,hp'.kept.tape.trans hp.kept.tape,hp'.kept.output.trans hp.kept.output,Nat.le_trans hp.kept.size hp'.kept.size,fun b hb ho=>?_⟩,agree:=fun b o hb=>?_,grow:=hp.grow,fresh:=hp.fresh,names:=hp.names,dom:=fun n hn => .inl (hp.dom n hn),own:=fun n=>?_,new := ?_,sep := ?_ }
  ·rw [hblk b (Nat.lt_of_lt_of_le hb hp.kept.size)];exact hp.kept.block b hb ho
  ·rw [hblk b (Array.getElem?_eq_some_iff.1 (hp.agree b o hb)).1];exact hp.agree b o hb
  ·have h1:=hp.own n
   show OwnAt F ρ w' n (h' n)
   cases hh:h' n with
   | dead=>trivial
   | fz rows=>rw [hh] at h1;exact h1
   | mp l =>
     rw [hh] at h1
     obtain ⟨b,es,clock,h1,h2,h3⟩:=h1
     exact ⟨b,es,clock,h1,by rw [hblk b (Array.getElem?_eq_some_iff.1 h2).1];exact h2,h3⟩
   | own ex k rows =>
     rw [hh] at h1
     rcases h1 with h1|⟨b,cap,c,e,h1,h2,h3,h4,h5,h6⟩
     ·exact .inl h1
     ·exact .inr ⟨b,cap,c,e,h1,by rw [hblk b (Array.getElem?_eq_some_iff.1 h2).1];exact h2,h3,h4,h5,h6⟩
  ·exact hp.new
  ·exact hp.sep
 ·rw [hd,vi _ _ _ _ (by omega)]
  unfold Eff.t Eff.wT
  by_cases hi:d = i
  ·subst hi
   have h0:=hm' 0
   simp only [one,if_true] at h0
   have:M F ρ v r:=XE (by simpa using h0) hfl
   simpa using this
  ·simpa [hi] using g4 i
end calls
end Go.Ab
namespace Go.Ab
def ZI (P:Program):List (Nat × TRec) → Prop
 | []=>True
 | (T,r) :: l=>kq P T = some r ∧ ZI P l
theorem QW {P:Program} : ∀ {l:List (Nat × TRec)},ZI P l → ∀ T r,ju l T = some r → kq P T = some r
 | [],_,T,r,h=>by cases h
 | (U,s) :: l,hl,T,r,h=>by
   unfold ju at h
   split at h
   ·rename_i e;injection h with h;exact e ▸ h ▸ hl.1
   ·exact QW hl.2 T r h
end Go.Ab
set_option linter.unusedSimpArgs false
set_option linter.unusedVariables false
namespace Go.Ab
def Maps (L:List (Nat × Nat)) (nh n n' : Nat):Prop:=(n < nh ∧ n' = n) ∨ (n,n') ∈ L
def jl (L:List (Nat × Nat)) (nh:Nat) (x y:AV):Prop :=
 ∀ (F:Still) (ρ ρ' : Places) (v:Value),(∀ n n',Maps L nh n n' → ∀ c,ρ n = some c → ρ' n' = some c) → M F ρ v x → M F ρ' v y
def qL (L:List (Nat × Nat)) (nh:Nat) (xs ys:List AV):Prop:=xs.length = ys.length ∧ ∀ (i:Nat) x y,xs[i]? = some x → ys[i]? = some y → jl L nh x y
def xi (L:List (Nat × Nat)) (nh:Nat) (xs ys:List (List AV)):Prop:=xs.length = ys.length ∧ ∀ (i:Nat) x y,xs[i]? = some x → ys[i]? = some y → qL L nh x y
section
variable {L:List (Nat × Nat)} {nh:Nat}
theorem KD {x:AV}:jl L nh x .junk:=fun F ρ ρ' v _ _ => .junk _ v
theorem qI {x:AV} (hx:x.pure = true):jl L nh x x:=fun F ρ ρ' v _ hm=>hm.moved ρ' hx
theorem jn {n n' off len:Nat} (hn:Maps L nh n n'):jl L nh (.os n off len) (.os n' off len):=fun F ρ ρ' v h hm=>by
 cases hm with
 | os _ n b k cap off len a hρ hl ha=>exact .os _ n' b k cap off len a (h n n' hn _ hρ) hl ha
 | osn _ n a hρ=>exact .osn _ n' a (h n n' hn _ hρ)
theorem qT {n n' i j:Nat} (hn:Maps L nh n n'):jl L nh (.op n i j) (.op n' i j):=fun F ρ ρ' v h hm=>by
 cases hm with|op _ n b k cap i j hρ=>exact .op _ n' b k cap i j (h n n' hn _ hρ)
theorem qU:qL L nh [] []:=⟨rfl,fun i x y hx=>by cases i<;>cases hx⟩
theorem qi {x y:AV} {xs ys:List AV} (hx:jl L nh x y) (hl:qL L nh xs ys):qL L nh (x :: xs) (y :: ys):=by
 refine ⟨by simp [hl.1],fun i a b ha hb=>?_⟩
 cases i with
 | zero=>simp at ha hb;subst ha;subst hb;exact hx
 | succ i=>exact hl.2 i a b (by simpa using ha) (by simpa using hb)
theorem jf {xs:List AV} (hx:AV.pure.pureL xs = true):qL L nh xs xs :=
 ⟨rfl,fun i x y h1 h2=>by rw [h1] at h2;injection h2 with h2;subst h2;exact qI (yp hx h1)⟩
theorem xN {rows:List (List AV)} (hr : ∀ row,row ∈ rows → AV.pure.pureL row = true):xi L nh rows rows :=
 ⟨rfl,fun i x y h1 h2=>by rw [h1] at h2;injection h2 with h2;subst h2;exact jf (hr x (List.mem_of_getElem? h1))⟩
theorem zE {α:Type} {f:α → List AV} {l:List α} (hf : ∀ a,AV.pure.pureL (f a) = true):xi L nh (l.map f) (l.map f) :=
 xN fun row hr=>by obtain ⟨a,_,rfl⟩:=List.mem_map.1 hr;exact hf a
theorem yC:xi L nh [] []:=⟨rfl,fun i x y hx=>by cases i<;>cases hx⟩
theorem yl {x y:List AV} {xs ys:List (List AV)} (hx:qL L nh x y) (hl:xi L nh xs ys):xi L nh (x :: xs) (y :: ys):=by
 refine ⟨by simp [hl.1],fun i a b ha hb=>?_⟩
 cases i with
 | zero=>simp at ha hb;subst ha;subst hb;exact hx
 | succ i=>exact hl.2 i a b (by simpa using ha) (by simpa using hb)
end
def WH (L:List (Nat × Nat)) (nh:Nat):MB → MB → Prop
 | .map l,.map l' => ∃ l2,l.Perm l2 ∧ l2.length = l'.length ∧ ∀ (i:Nat) x y,l2[i]? = some x → l'[i]? = some y → x.1 = y.1 ∧ jl L nh x.2 y.2
 | .sit s p,.sit s' p'=>s = s' ∧ p = p'
 | .typ e k rows,.typ e' k' rows'=>e = e' ∧ k = k' ∧ xi L nh rows rows'
 | _,_=>False
def yQ (L:List (Nat × Nat)) (nh:Nat):HB → HB → Prop
 | .own ex k rows,.own ex' k' rows'=>(ex' = true → ex = true) ∧ k = k' ∧ xi L nh rows rows'
 | .fz rows,.fz rows'=>rows = rows'
 | .mp l,.mp l'=>WH L nh l l'
 | _,.dead=>True
 | _,_=>False
theorem Ky {α β:Type} {R:α → β → Prop} {l0 l:List α} (h:l0.Perm l) : ∀ {l2:List β},l.length = l2.length → (∀ (i:Nat) x y,l[i]? = some x → l2[i]? = some y → R x y) → ∃ l3:List β,l3.Perm l2 ∧ l0.length = l3.length ∧ ∀ (i:Nat) x y,l0[i]? = some x → l3[i]? = some y → R x y:=by
 induction h with
 | nil=>intro l2 hl hr;exact ⟨l2,.refl _,hl,hr⟩
 | cons a _ ih =>
   intro l2 hl hr
   cases l2 with
   | nil=>simp at hl
   | cons b l2 =>
     obtain ⟨l3,h1,h2,h3⟩:=ih (l2:=l2) (by simpa using hl) (fun i x y hx hy=>hr (i + 1) x y (by simpa using hx) (by simpa using hy))
     refine ⟨b :: l3,h1.cons b,by simp [h2],fun i x y hx hy=>?_⟩
     cases i with
     | zero=>exact hr 0 x y (by simpa using hx) (by simpa using hy)
     | succ i=>exact h3 i x y (by simpa using hx) (by simpa using hy)
 | swap a b l =>
   intro l2 hl hr
   match l2,hl,hr with
   | c :: d :: l2,hl,hr =>
     refine ⟨d :: c :: l2,.swap _ _ _,by simpa using hl,fun i x y hx hy=>?_⟩
     match i with
     | 0=>exact hr 1 x y (by simpa using hx) (by simpa using hy)
     | 1=>exact hr 0 x y (by simpa using hx) (by simpa using hy)
     | i + 2=>exact hr (i + 2) x y (by simpa using hx) (by simpa using hy)
   | [_],hl,_=>simp at hl
   | [],hl,_=>simp at hl
 | trans _ _ ih1 ih2 =>
   intro l2 hl hr
   obtain ⟨l3,h1,h2,h3⟩:=ih2 hl hr
   obtain ⟨l4,h4,h5,h6⟩:=ih1 h2 h3
   exact ⟨l4,h4.trans h1,h5,h6⟩
theorem Wk {l l' : List (List UInt8 × AV)} (hl:l.length = l'.length) (hr : ∀ (i:Nat) x y,l[i]? = some x → l'[i]? = some y → x.1 = y.1):l.map (·.1) = l'.map (·.1):=by
 apply List.ext_getElem?
 intro i
 rw [List.getElem?_map,List.getElem?_map]
 by_cases hi:i < l.length
 ·have h1:=List.getElem?_eq_getElem hi
  have h2:=List.getElem?_eq_getElem (l:=l') (show i < l'.length by omega)
  rw [h1,h2]
  exact congrArg some (hr i _ _ h1 h2)
 ·rw [List.getElem?_eq_none (by omega),List.getElem?_eq_none (by omega)]
theorem MapAt.ren {F:Still} {ρ ρ' : Places} {L:List (Nat × Nat)} {nh:Nat} {es:Array MapEntry} {clock:Nat} {l l' : List (List UInt8 × AV)} (hsub : ∀ n n',Maps L nh n n' → ∀ c,ρ n = some c → ρ' n' = some c) (h:MapAt F ρ es clock l) (hl:l.length = l'.length)
  (hr : ∀ (i:Nat) x y,l[i]? = some x → l'[i]? = some y → x.1 = y.1 ∧ jl L nh x.2 y.2):MapAt F ρ' es clock l':=by
 obtain ⟨l0,hp,h⟩:=h
 obtain ⟨l3,hp3,hl3,hr3⟩:=Ky (R:=fun x y:List UInt8 × AV=>x.1 = y.1 ∧ jl L nh x.2 y.2) hp hl hr
 refine ⟨l3,hp3,h.len.trans hl3,?_,h.stamp,fun i e y he hy=>?_⟩
 ·rw [← Wk hl3 fun i x y hx hy=>(hr3 i x y hx hy).1];exact h.nodup
 ·have hi:i < l0.length:=by rw [hl3];exact (List.getElem?_eq_some_iff.1 hy).1
  have hx:=List.getElem?_eq_getElem hi
  obtain ⟨h1,h2⟩:=h.ents i e _ he hx
  obtain ⟨h3,h4⟩:=hr3 i _ y hx hy
  exact ⟨by rw [← h3];exact h1,h4 F ρ ρ' _ hsub h2⟩
theorem MbAt.ren {F:Still} {ρ ρ' : Places} {L:List (Nat × Nat)} {nh:Nat} {kc:Nat × Nat} {o:Obj} {l l' : MB} (hsub : ∀ n n',Maps L nh n n' → ∀ c,ρ n = some c → ρ' n' = some c) (h:MbAt F ρ kc o l) (hr:WH L nh l l'):MbAt F ρ' kc o l':=by
 cases l with
 | map l =>
   cases l' with
   | map l' =>
     obtain ⟨es,clock,h1,l0,h2,h3⟩:=h
     obtain ⟨l2,h4,h5,h6⟩:=hr
     exact ⟨es,clock,h1,MapAt.ren hsub ⟨l0,h2.trans h4,h3⟩ h5 h6⟩
   | sit _ _=>exact hr.elim
   | typ _ _ _=>exact hr.elim
 | sit s p =>
   cases l' with
   | map l'=>exact hr.elim
   | sit s' p' =>
     obtain ⟨rfl,rfl⟩:=hr
     exact h
   | typ _ _ _=>exact hr.elim
 | typ e k rows =>
   cases l' with
   | map l'=>exact hr.elim
   | sit _ _=>exact hr.elim
   | typ e' k' rows' =>
     obtain ⟨rfl,rfl,hr⟩:=hr
     obtain ⟨c,h1,h2,h3,h4,h5⟩:=h
     refine ⟨c,h1,h2,h3,by rw [← hr.1];exact h4,fun row' hrow'=>?_,fun i j row' y v hi hj hv=>?_⟩
     ·obtain ⟨i,hi,he⟩:=List.getElem_of_mem hrow'
      have hi' : i < rows.length:=by rw [hr.1];exact hi
      have:=(hr.2 i _ row' (List.getElem?_eq_getElem hi') (by rw [List.getElem?_eq_getElem hi,he])).1
      rw [← this]
      exact h5.1 _ (List.getElem_mem hi')
     ·have hi' : i < rows.length:=by rw [hr.1];exact (List.getElem?_eq_some_iff.1 hi).1
      have hrow:=hr.2 i _ row' (List.getElem?_eq_getElem hi') hi
      have hj' : j < (rows[i]).length:=by rw [hrow.1];exact (List.getElem?_eq_some_iff.1 hj).1
      exact hrow.2 j _ y (List.getElem?_eq_getElem hj') hj F ρ ρ' v hsub (h5.2 i j _ _ v (List.getElem?_eq_getElem hi') (List.getElem?_eq_getElem hj') hv)
def yv (L:List (Nat × Nat)) (nh:Nat) (σ:St):List (Nat × AV) → Prop
 | []=>True
 | (i,y) :: l=>jl L nh (qn σ.ts i) y ∧ yv L nh σ l
def j4 (L:List (Nat × Nat)) (nh:Nat) (σ:St):List (Nat × HB) → Prop
 | []=>True
 | (n',y) :: l=>(∃ n,Maps L nh n n' ∧ yQ L nh (qm σ.hs n) y) ∧ j4 L nh σ l
def vx (nh nx:Nat):List (Nat × Nat) → Bool
 | []=>decide (nh ≤ nx)
 | (n,n') :: l=>decide (nh ≤ n) && decide (nh ≤ n') && decide (n' < nx) && l.all (fun x=>x.1 != n && x.2 != n') && vx nh nx l
theorem wy {nh nx:Nat} : ∀ {l:List (Nat × Nat)},vx nh nx l = true → nh ≤ nx ∧ (∀ n n',(n,n') ∈ l → nh ≤ n ∧ nh ≤ n' ∧ n' < nx) ∧ (∀ n m n' m',(n,n') ∈ l → (m,m') ∈ l → (n = m ↔ n' = m'))
 | [],h=>⟨by simpa [vx] using h,(fun n n' h=>by cases h),(fun n m n' m' h=>by cases h)⟩
 | (a,a') :: l,h=>by
   simp only [vx,Bool.and_eq_true,decide_eq_true_eq] at h
   obtain ⟨⟨⟨⟨h1,h2⟩,h3⟩,h4⟩,h5⟩:=h
   obtain ⟨i1,i2,i3⟩:=wy h5
   have ne : ∀ n n',(n,n') ∈ l → n ≠ a ∧ n' ≠ a':=fun n n' hm=>by
    have:=List.all_eq_true.1 h4 (n,n') hm
    simpa using this
   refine ⟨i1,fun n n' hm=>?_,fun n m n' m' hn hm=>?_⟩
   ·rcases List.mem_cons.1 hm with e|hm
    ·injection e with e1 e2;subst e1;subst e2;exact ⟨h1,h2,h3⟩
    ·exact i2 n n' hm
   ·rcases List.mem_cons.1 hn with e|hn2
    ·rcases List.mem_cons.1 hm with f|hm2
     ·injection e with e1 e2;injection f with f1 f2;subst e1;subst e2;subst f1;subst f2;simp
     ·injection e with e1 e2;subst e1;subst e2
      have:=ne m m' hm2
      exact ⟨fun h=>absurd h.symm this.1,fun h=>absurd h.symm this.2⟩
    ·rcases List.mem_cons.1 hm with f|hm2
     ·injection f with f1 f2;subst f1;subst f2
      have:=ne n n' hn2
      exact ⟨fun h=>absurd h this.1,fun h=>absurd h this.2⟩
     ·exact i3 n m n' m' hn2 hm2
theorem Jl (j:Nat) (y:AV) (l:List (Nat × AV)) (i:Nat):qn ((j,y) :: l) i = if j = i then y else qn l i:=rfl
theorem zK (j:Nat) (y:HB) (l:List (Nat × HB)) (i:Nat):qm ((j,y) :: l) i = if j = i then y else qm l i:=by
 show (if j = i then some y else jy l i).getD .dead = _
 split<;>rfl
theorem Xj {L:List (Nat × Nat)} {nh:Nat} {σ:St} : ∀ {l:List (Nat × AV)},yv L nh σ l → ∀ i,jl L nh (qn σ.ts i) (qn l i)
 | [],_,i=>KD
 | (j,y) :: l,h,i=>by
   rw [Jl]
   by_cases e:j = i
   ·rw [if_pos e];exact e ▸ h.1
   ·rw [if_neg e];exact Xj h.2 i
theorem Qx {L:List (Nat × Nat)} {nh:Nat} {σ:St} : ∀ {l:List (Nat × HB)},j4 L nh σ l → ∀ n',qm l n' = .dead ∨ ∃ n,Maps L nh n n' ∧ yQ L nh (qm σ.hs n) (qm l n')
 | [],_,n' => .inl rfl
 | (m,y) :: l,h,n'=>by
   have:=Qx h.2 n'
   rw [zK]
   by_cases e:m = n'
   ·rw [if_pos e];exact .inr (e ▸ h.1)
   ·rw [if_neg e];exact this
theorem Km {C:Cx} {σ τ:St} {B:Base} {w:World} {F:Still} {ρ:Places} (L:List (Nat × Nat)) (hL:vx C.nh τ.nx L = true) (hh:j4 L C.nh σ τ.hs) (hB : ∀ n,B.ρ0 n ≠ none → n < C.nh) (hp:Hp B (· < σ.nx) (qm σ.hs) F ρ w) :
  ∃ ρ',Hp B (· < τ.nx) (qm τ.hs) F ρ' w ∧ ∀ n n',Maps L C.nh n n' → ∀ c,ρ n = some c → ρ' n' = some c:=by
 obtain ⟨k1,k2,k3⟩:=wy hL
 classical
 let ρ' : Places:=fun n'=>if n' < C.nh then ρ n' else if h : ∃ n,(n,n') ∈ L then ρ (Classical.choose h) else none
 have hmap : ∀ n n',Maps L C.nh n n' → ρ' n' = ρ n:=by
  intro n n' hm
  rcases hm with ⟨h1,rfl⟩|h1
  ·simp only [ρ',h1,if_true]
  ·obtain ⟨_,h2,_⟩:=k2 n n' h1
   have hex : ∃ n,(n,n') ∈ L:=⟨n,h1⟩
   simp only [ρ',show ¬ n' < C.nh from by omega,if_false]
   rw [dif_pos hex,(k3 _ n n' n' (Classical.choose_spec hex) h1).2 rfl]
 have hsub : ∀ n n',Maps L C.nh n n' → ∀ c,ρ n = some c → ρ' n' = some c:=fun n n' hm c hc=>(hmap n n' hm).trans hc
 have hinj : ∀ n n' m',Maps L C.nh n n' → Maps L C.nh n m' → n' = m':=by
  intro n n' m' h1 h2
  rcases h1 with ⟨a1,rfl⟩|a1<;>rcases h2 with ⟨b1,rfl⟩|b1
  ·rfl
  ·have:=(k2 _ _ b1).1;omega
  ·have:=(k2 _ _ a1).1;omega
  ·exact (k3 n n n' m' a1 b1).1 rfl
 have hrows : ∀ {c:Array Value} {k:Nat} {rows rows' : List (List AV)},RowsAt F ρ c k rows → xi L C.nh rows rows' → RowsAt F ρ' c k rows':=by
  intro c k rows rows' hR hr
  have hget : ∀ (i:Nat) row',rows'[i]? = some row' → ∃ row,rows[i]? = some row ∧ qL L C.nh row row':=fun i row' hi=>by
   have hil:i < rows.length:=by rw [hr.1];exact (List.getElem?_eq_some_iff.1 hi).1
   exact ⟨_,List.getElem?_eq_getElem hil,hr.2 i _ _ (List.getElem?_eq_getElem hil) hi⟩
  refine ⟨fun row' hrow'=>?_,fun i j row' y v hi hj hv=>?_⟩
  ·obtain ⟨i,hi⟩:=List.mem_iff_getElem?.1 hrow'
   obtain ⟨row,h1,h2⟩:=hget i row' hi
   rw [← h2.1];exact hR.1 row (List.mem_of_getElem? h1)
  ·obtain ⟨row,h1,h2⟩:=hget i row' hi
   have hj' : j < row.length:=by rw [h2.1];exact (List.getElem?_eq_some_iff.1 hj).1
   have hx:row[j]? = some row[j]:=List.getElem?_eq_getElem hj'
   exact h2.2 j _ y hx hj F ρ ρ' v hsub (hR.2 i j row _ v h1 hx hv)
 have hfrom : ∀ n',(qm τ.hs n').isOwn = true → ∃ n,Maps L C.nh n n' ∧ (qm σ.hs n).isOwn = true:=by
  intro n' ho
  rcases Qx hh n' with h1|⟨n,h1,h2⟩
  ·rw [h1] at ho;cases ho
  ·refine ⟨n,h1,?_⟩
   cases e1:qm τ.hs n' with
   | own ex k rows =>
     rw [e1] at h2
     cases e2:qm σ.hs n with
     | own _ _ _=>rfl
     | dead=>rw [e2] at h2;exact h2.elim
     | fz _=>rw [e2] at h2;exact h2.elim
     | mp _=>rw [e2] at h2;exact h2.elim
   | mp l =>
     rw [e1] at h2
     cases e2:qm σ.hs n with
     | mp _=>rfl
     | own _ _ _=>rw [e2] at h2;exact h2.elim
     | dead=>rw [e2] at h2;exact h2.elim
     | fz _=>rw [e2] at h2;exact h2.elim
   | dead=>rw [e1] at ho;cases ho
   | fz _=>rw [e1] at ho;cases ho
 refine ⟨ρ',?_,hsub⟩
 refine { kept:=hp.kept,agree:=hp.agree,grow:=hp.grow,fresh:=hp.fresh,names:=fun n c hn=>?_,dom:=fun n' hn=>?_,own:=fun n'=>?_,new:=fun n' b c ho hn=>?_,sep:=fun n' m' b c c' hne ho ho' hn hn'=>?_ }
 ·have:=hB n (by rw [hn];simp)
  simp only [ρ',this,if_true]
  exact hp.names n c hn
 ·show n' < τ.nx
  simp only [ρ'] at hn
  split at hn
  ·omega
  ·split at hn
   ·rename_i hex
    obtain ⟨n,hm⟩:=hex
    exact (k2 n n' hm).2.2
   ·exact absurd rfl hn
 ·rcases Qx hh n' with h1|⟨n,h1,h2⟩
  ·rw [h1];trivial
  ·have h3:=hp.own n
   cases e1:qm τ.hs n' with
   | dead=>trivial
   | own ex k rows =>
     rw [e1] at h2
     cases e2:qm σ.hs n with
     | own ex' k' rows' =>
       rw [e2] at h2 h3
       obtain ⟨hex,rfl,hr⟩:=h2
       rcases h3 with ⟨h4,h5⟩|⟨b,cap,c,e,h4,h5,h6,h7,h8,h9⟩
       ·refine .inl ⟨by rw [hmap n n' h1];exact h4,?_⟩
        subst h5
        exact List.eq_nil_of_length_eq_zero (by rw [← hr.1];rfl)
       ·exact .inr ⟨b,cap,c,e,by rw [hmap n n' h1];exact h4,h5,h6,by rw [← hr.1];exact h7,fun h=>by rw [← hr.1];exact h8 (hex h),hrows h9 hr⟩
     | dead=>rw [e2] at h2;exact h2.elim
     | fz _=>rw [e2] at h2;exact h2.elim
     | mp _=>rw [e2] at h2;exact h2.elim
   | mp l =>
     rw [e1] at h2
     cases e2:qm σ.hs n with
     | mp l0 =>
       rw [e2] at h2 h3
       obtain ⟨b,es,clock,h4,h5,h6⟩:=h3
       exact ⟨b,es,clock,by rw [hmap n n' h1];exact h4,h5,h6.ren hsub h2⟩
     | dead=>rw [e2] at h2;exact h2.elim
     | fz _=>rw [e2] at h2;exact h2.elim
     | own _ _ _=>rw [e2] at h2;exact h2.elim
   | fz rows =>
     rw [e1] at h2
     cases e2:qm σ.hs n with
     | fz rows' =>
       rw [e2] at h2 h3
       have h2:rows' = rows:=h2
       subst h2
       rcases h3 with ⟨h4,h5⟩|⟨b,k,cap,c,e,fr,h4,h5⟩
       ·exact .inl ⟨by rw [hmap n n' h1];exact h4,h5⟩
       ·exact .inr ⟨b,k,cap,c,e,fr,by rw [hmap n n' h1];exact h4,h5⟩
     | dead=>rw [e2] at h2;exact h2.elim
     | own _ _ _=>rw [e2] at h2;exact h2.elim
     | mp _=>rw [e2] at h2;exact h2.elim
 ·obtain ⟨n,h1,h2⟩:=hfrom n' ho
  rw [hmap n n' h1] at hn
  exact hp.new n b c h2 hn
 ·obtain ⟨n,h1,h2⟩:=hfrom n' ho
  obtain ⟨m,h3,h4⟩:=hfrom m' ho'
  rw [hmap n n' h1] at hn
  rw [hmap m m' h3] at hn'
  exact hp.sep n m b c c' (fun e=>hne (hinj n n' m' h1 (e ▸ h3))) h2 h4 hn hn'
theorem qS {C:Cx} {σ τ:St} (L:List (Nat × Nat)) (hL:vx C.nh τ.nx L = true) (ht:yv L C.nh σ τ.ts) (hh:j4 L C.nh σ τ.hs):Red C σ τ:=by
 intro B a w hB ⟨g1,g2,F,ρ,hp,g4⟩
 obtain ⟨ρ',hp',hsub⟩:=Km L hL hh hB hp
 exact ⟨g1,g2,F,ρ',hp',fun i=>Xj ht i F ρ ρ' _ hsub (g4 i)⟩
theorem vH {C:Cx} {σ:St} {ts:List (Nat × AV)} (ht:yv [] C.nh σ ts):Red C σ ⟨ts,[],C.nh⟩:=qS [] (by simp [vx]) ht trivial
theorem km {C:Cx} {ts:List (Nat × AV)} {hs:List (Nat × HB)} {nx:Nat} (n:Nat) {ex:Bool} {k:Nat} {rows:List (List AV)} (hn:qm hs n = .own ex k rows) (hr : ∀ row,row ∈ rows → AV.pure.pureL row = true):Red C ⟨ts,hs,nx⟩ ⟨ts,(n,.fz rows) :: hs,nx⟩:=by
 intro B a w hB ⟨g1,g2,F,ρ,hp,g4⟩
 classical
 let F' : Still:=fun b=>if ∃ c,ρ n = some (some (b,c)) then w.heap[b]? else F b
 have ho:=hp.own n
 have hn' : (qm hs n).isOwn = true:=by rw [hn];rfl
 have hle:F.le F':=fun b o hb=>by
  simp only [F']
  split
  ·rename_i hex
   obtain ⟨c,hc⟩:=hex
   rw [(hp.new n b c hn' hc).1] at hb;cases hb
  ·exact hb
 refine ⟨g1,g2,F',ρ,?_,fun i=>(g4 i).mono hle (Places.le_refl ρ)⟩
 refine { kept:=hp.kept,agree:=fun b o hb=>?_,grow:=fun b o hb=>hle b o (hp.grow b o hb),fresh:=fun b hb=>?_,names:=hp.names,dom:=hp.dom,own:=fun m=>?_,new:=fun m b c hm hρ=>?_,sep:=fun m m' b c c' hne hm hm' h1 h2=>?_ }
 ·simp only [F'] at hb
  split at hb
  ·exact hb
  ·exact hp.agree b o hb
 ·simp only [F'] at hb
  split at hb
  ·rename_i hex
   obtain ⟨c,hc⟩:=hex
   exact .inr (hp.new n b c hn' hc).2
  ·exact hp.fresh b hb
 ·show OwnAt F' ρ w m (qm ((n,.fz rows) :: hs) m)
  rw [zK]
  by_cases hnm:n = m
  ·subst hnm
   rw [if_pos rfl]
   rw [hn] at ho
   rcases ho with ho|⟨b,cap,c,e,h1,h2,h3,h4,h5,h6⟩
   ·exact .inl ho
   ·refine .inr ⟨b,k,cap,c,e,(0,0),h1,?_,by rw [h3];exact Nat.mul_le_mul_right _ h4,h4,h6.1,fun i j row x v a1 a2 a3=>((h6.2 i j row x v a1 a2 a3).moved _ (yp (hr row (List.mem_of_getElem? a1)) a2)).mono hle (Places.le_refl _)⟩
    simp only [F']
    rw [if_pos ⟨_,h1⟩];exact h2
  ·rw [if_neg hnm]
   have h0:=hp.own m
   show OwnAt F' ρ w m (qm hs m)
   have h0:OwnAt F ρ w m (qm hs m):=h0
   cases e:qm hs m with
   | dead=>trivial
   | fz rows' =>
     rw [e] at h0
     rcases h0 with h1|⟨b,k',cap,c,e',fr,h1,h2,h3,h4,h5⟩
     ·exact .inl h1
     ·exact .inr ⟨b,k',cap,c,e',fr,h1,hle _ _ h2,h3,h4,h5.mono hle (Places.le_refl _)⟩
   | mp l =>
     rw [e] at h0
     obtain ⟨b,es,clock,h1,h2,h3⟩:=h0
     exact ⟨b,es,clock,h1,h2,h3.mono hle (Places.le_refl _)⟩
   | own ex' k' rows' =>
     rw [e] at h0
     rcases h0 with h1|⟨b,cap,c,e',h1,h2,h3,h4,h5,h6⟩
     ·exact .inl h1
     ·exact .inr ⟨b,cap,c,e',h1,h2,h3,h4,h5,h6.mono hle (Places.le_refl _)⟩
 ·have hm:(qm ((n,.fz rows) :: hs) m).isOwn = true:=hm
  rw [zK] at hm
  by_cases hnm:n = m
  ·rw [if_pos hnm] at hm;cases hm
  ·rw [if_neg hnm] at hm
   have h1:=hp.new m b c hm hρ
   refine ⟨?_,h1.2⟩
   simp only [F']
   rw [if_neg (fun ⟨c',hc'⟩=>hp.sep n m b c' c hnm hn' hm hc' hρ)]
   exact h1.1
 ·have hm:(qm ((n,.fz rows) :: hs) m).isOwn = true:=hm
  have hm' : (qm ((n,.fz rows) :: hs) m').isOwn = true:=hm'
  rw [zK] at hm hm'
  by_cases hnm:n = m
  ·rw [if_pos hnm] at hm;cases hm
  ·by_cases hnm' : n = m'
   ·rw [if_pos hnm'] at hm';cases hm'
   ·rw [if_neg hnm] at hm;rw [if_neg hnm'] at hm'
    exact hp.sep m m' b c c' hne hm hm' h1 h2
theorem Wg {C:Cx} {rs:List ResultVar} {σ:St} {xs:List AV} {r:AV} {H' : List HB} (L:List (Nat × Nat)) (nx:Nat) (hr:ResOk C σ rs xs) (hL:vx C.nh nx L = true) (hh:j4 L C.nh σ (xK 0 H')) (hz:jl L C.nh (jQ xs) r):Fin C rs.toArray C.nh r H' σ:=by
 intro fn B a w hrs hρ0 hds ⟨g1,g2,F,ρ,hp,g4⟩
 obtain ⟨v,hrun,hm⟩:=wI hrs hp g4 hr
 obtain ⟨ρ',hp',hsub⟩:=Km (τ:=⟨[],xK 0 H',nx⟩) L hL hh hρ0 hp
 refine ⟨v,hrun,hds.symm,rfl,F,ρ',?_,fun i=>?_⟩
 ·have he:(fun n=>H'.getD n .dead) = qm (xK 0 H'):=by
   funext n
   have:=Qw H' 0 n
   rw [Nat.zero_add] at this
   exact this.symm
  rw [he]
  exact { hp' with dom:=fun _ _=>trivial,kept:=⟨hp'.kept.os,hp'.kept.tape,hp'.kept.output,hp'.kept.size,hp'.kept.block⟩ }
 ·by_cases hi:i = 0
  ·subst hi;exact hz F ρ ρ' v hsub hm
  ·unfold one;rw [if_neg hi];exact .junk _ _
theorem ql {L:List (Nat × Nat)} {nh:Nat} {σ:St}:yv L nh σ []:=trivial
theorem xV {L:List (Nat × Nat)} {nh:Nat} {σ:St} {i:Nat} {x y:AV} {l:List (Nat × AV)} (hx:qn σ.ts i = x) (h:jl L nh x y) (hl:yv L nh σ l):yv L nh σ ((i,y) :: l):=⟨by rw [hx];exact h,hl⟩
theorem Jy {L:List (Nat × Nat)} {nh:Nat} {σ:St} {i:Nat} {x:AV} {l:List (Nat × AV)} (hx:qn σ.ts i = x) (hp:x.pure = true) (hl:yv L nh σ l):yv L nh σ ((i,x) :: l):=⟨by rw [hx];exact qI hp,hl⟩
theorem WD {L:List (Nat × Nat)} {nh:Nat} {σ:St} {i:Nat} {x y:AV} {l:List (Nat × AV)} (hx:qn σ.ts i = x) (hxy:x = y) (hp:y.pure = true) (hl:yv L nh σ l):yv L nh σ ((i,y) :: l):=Jy (hx.trans hxy) hp hl
theorem qh {L:List (Nat × Nat)} {nh:Nat} {σ:St}:j4 L nh σ []:=trivial
theorem Kn {L:List (Nat × Nat)} {nh:Nat} {σ:St} {n n' : Nat} {ex ex' : Bool} {k:Nat} {rows rows' : List (List AV)} {l:List (Nat × HB)} (hm:Maps L nh n n') (hx:qm σ.hs n = .own ex k rows) (he:ex' = true → ex = true) (hr:xi L nh rows rows') (hl:j4 L nh σ l) :
  j4 L nh σ ((n',.own ex' k rows') :: l):=⟨⟨n,hm,by rw [hx];exact ⟨he,rfl,hr⟩⟩,hl⟩
end Go.Ab
