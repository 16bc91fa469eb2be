import Derived.Test.YtamejbkifpjhiaaGreatDoorLz6
set_option linter.unusedSimpArgs false
set_option linter.unusedVariables false
namespace Go.Ab
open Go.RowKit
def ResOk (C:Cx) (σ:St):List ResultVar → List AV → Prop
 | [],[]=>True
 | .tmp i :: rs,x :: xs=>qS σ.ts i = x ∧ ResOk C σ rs xs
 | .cell a T :: rs,x :: xs=>(∃ n i j ex k rows r row,qS σ.ts a = .op n i j ∧ jg σ.hs n = .own ex k rows ∧ qW C.tab T = some r ∧ rows[i]? = some row ∧ cut r row j = some x) ∧ ResOk C σ rs xs
 | _,_=>False
theorem js {C:Cx} {σ:St}:ResOk C σ [] []:=trivial
theorem jt {C:Cx} {σ:St} {i:Nat} {rs:List ResultVar} {x:AV} {xs:List AV} (hx:qS σ.ts i = x) (h:ResOk C σ rs xs):ResOk C σ (.tmp i :: rs) (x :: xs):=⟨hx,h⟩
theorem jl {C:Cx} {σ:St} {a T n i j:Nat} {ex:Bool} {k:Nat} {rows:List (List AV)} {r:TRec} {row:List AV} {rs:List ResultVar} {x:AV} {xs:List AV} (h1:qS σ.ts a = .op n i j) (h2:jg σ.hs n = .own ex k rows)
  (h3:qW C.tab T = some r) (h4:rows[i]? = some row) (h5:cut r row j = some x) (h:ResOk C σ rs xs):ResOk C σ (.cell a T :: rs) (x :: xs):=⟨⟨n,i,j,ex,k,rows,r,row,h1,h2,h3,h4,h5⟩,h⟩
theorem qag {α β:Type} {P:Program} {w:World} (f:α → Sem β) (Q:α → β → Prop) : ∀ (l:List α),(∀ x,x ∈ l → ∃ v,(f x).run P w = .ok v w ∧ Q x v) → ∃ vs:List β,(l.mapM f).run P w = .ok vs w ∧ vs.length = l.length ∧ ∀ (i:Nat) x v,l[i]? = some x → vs[i]? = some v → Q x v
 | [],_=>⟨[],by simp,rfl,fun i x v h=>by cases i<;>cases h⟩
 | x :: l,h=>by
   obtain ⟨v,hv,hq⟩:=h x (List.mem_cons_self ..)
   obtain ⟨vs,hvs,hl,hqs⟩:=qag f Q l fun y hy=>h y (List.mem_cons_of_mem _ hy)
   refine ⟨v :: vs,by simp [List.mapM_cons,hv,hvs],by simp [hl],fun i y u hy hu=>?_⟩
   cases i with
   | zero=>simp at hy hu;subst hy;subst hu;exact hq
   | succ i=>exact hqs i y u (by simpa using hy) (by simpa using hu)
theorem ResOk.get {C:Cx} {σ:St} : ∀ {rs:List ResultVar} {xs:List AV},ResOk C σ rs xs → rs.length = xs.length ∧ ∀ (i:Nat) rv x,rs[i]? = some rv → xs[i]? = some x → ResOk C σ [rv] [x]
 | [],[],_=>⟨rfl,fun i rv x h=>by cases i<;>cases h⟩
 | .tmp i :: rs,x :: xs,h=>by
   obtain ⟨hl,hg⟩:=ResOk.get h.2
   refine ⟨by simp [hl],fun j rv y hr hy=>?_⟩
   cases j with
   | zero=>simp at hr hy;subst hr;subst hy;exact ⟨h.1,trivial⟩
   | succ j=>exact hg j rv y (by simpa using hr) (by simpa using hy)
 | .cell a T :: rs,x :: xs,h=>by
   obtain ⟨hl,hg⟩:=ResOk.get h.2
   refine ⟨by simp [hl],fun j rv y hr hy=>?_⟩
   cases j with
   | zero=>simp at hr hy;subst hr;subst hy;exact ⟨h.1,trivial⟩
   | succ j=>exact hg j rv y (by simpa using hr) (by simpa using hy)
 | [],_ :: _,h=>h.elim
 | .tmp _ :: _,[],h=>h.elim
 | .cell _ _ :: _,[],h=>h.elim
def yh:List AV → AV
 | [x]=>x
 | xs => .tup xs
theorem XZ {C:Cx} {σ:St} {B:Base} {A:Nat → Prop} {F:Still} {ρ:Places} {a:Act} {w:World} {fn:Func} {rs:List ResultVar} {xs:List AV} (hrs:fn.results = rs.toArray) (hp:Hp B A (jg σ.hs) F ρ w) (ht : ∀ i,M F ρ (a.tmps.getD i undef) (qS σ.ts i))
  (hr:ResOk C σ rs xs) : ∃ v,(results fn a.tmps).run C.P w = .ok v w ∧ M F ρ v (yh xs):=by
 obtain ⟨hl,hg⟩:=hr.get
 obtain ⟨vs,h1,h2,h3⟩:=qag (P:=C.P) (w:=w) (fun rv:ResultVar=>match rv with
  | .tmp t=>(pure (a.tmps.getD t undef):Sem Value)
  | .cell ad t=>do loadVar t (← asAddr (a.tmps.getD ad undef))) (fun rv v => ∀ x,ResOk C σ [rv] [x] → M F ρ v x) rs (by
    intro rv hrv
    obtain ⟨i,hi⟩:=List.mem_iff_getElem?.1 hrv
    have hix:i < xs.length:=by rw [← hl];exact (List.getElem?_eq_some_iff.1 hi).1
    have h0:=hg i rv _ hi (List.getElem?_eq_getElem hix)
    cases rv with
    | tmp t=>exact ⟨a.tmps.getD t undef,rfl,fun x hx=>hx.1 ▸ ht t⟩
    | cell ad T =>
      obtain ⟨⟨n,i',j,ex,k,rows,r,row,e1,e2,e3,e4,e5⟩,_⟩:=h0
      have hm:=ht ad
      rw [e1] at hm
      obtain ⟨b,k',cap,hρ,hv⟩:=hm.op_inv
      have ho:=hp.own n
      rw [e2] at ho
      obtain ⟨rfl,c,e,hb,hsz,hle,_,hR⟩:=y8 ho hρ
      have hi' : i' < rows.length:=(List.getElem?_eq_some_iff.1 e4).1
      have hk:row.length = k':=hR.1 row (List.mem_of_getElem? e4)
      obtain ⟨v,hrun,hm'⟩:=YV (F:=F) (ρ:=ρ) hb (C.ok T r e3) (base:=i' * k') (j:=j) (row:=row) (by rw [hk,hsz];exact kU hi' hle) (fun j x v hj hc=>hR.2 i' j row x v e4 hj hc) e5
      refine ⟨v,by simp only [hv,asAddr,Sem.run_bind,Sem.run_pure,Result.andThen_ok,hrun],?_⟩
      intro x ⟨⟨n2,i2,j2,ex2,k2,rows2,r2,row2,f1,f2,f3,f4,f5⟩,_⟩
      rw [e1] at f1;injection f1 with g1 g2 g3
      subst g1;subst g2;subst g3
      rw [e2] at f2;injection f2 with g1 g2 g3
      subst g3
      rw [e3] at f3;injection f3 with g1;subst g1
      rw [e4] at f4;injection f4 with g1;subst g1
      rw [e5] at f5;injection f5 with g1;subst g1
      exact hm')
 have hm : ∀ (i:Nat) v x,vs[i]? = some v → xs[i]? = some x → M F ρ v x:=by
  intro i v x hv hx
  have hir:i < rs.length:=by rw [hl];exact (List.getElem?_eq_some_iff.1 hx).1
  have hr:=List.getElem?_eq_getElem hir
  exact h3 i _ v hr hv x (hg i _ x hr hx)
 have hres:(results fn a.tmps).run C.P w = .ok (if h:vs.toArray.size = 1 then vs.toArray[0] else .tuple vs.toArray) w:=by
  unfold results
  rw [Sem.run_bind,hrs,Array.mapM_eq_mapM_toList,Sem.run_map]
  refine (congrArg (fun r:Result (List Value)=>((r.andThen fun a w'=>Result.ok a.toArray w').andThen fun vs w'=>Sem.run C.P (pure (if h:vs.size = 1 then vs[0] else Value.tuple vs)) w')) h1).trans ?_
  rfl
 refine ⟨_,hres,?_⟩
 have hvx:vs.length = xs.length:=by rw [h2,hl]
 match xs,hvx,hm with
 | [x],hvx,hm =>
   match vs,hvx,hm with
   | [v],_,hm=>exact hm 0 v x rfl rfl
 | [],hvx,hm =>
   have:vs = []:=List.eq_nil_of_length_eq_zero hvx
   subst this
   exact .tup _ [] [] rfl (fun i v x h=>by cases i<;>cases h)
 | x :: y :: l,hvx,hm =>
   rw [dif_neg (by simp at hvx ⊢;omega)]
   exact .tup _ vs _ hvx hm
theorem YA {C:Cx} {rs:List ResultVar} {nh:Nat} {σ:St} {xs:List AV} {r:AV} (hr:ResOk C σ rs xs) (hz:Rz (jg σ.hs) (yh xs) r):Fin C rs.toArray nh r [] σ:=by
 intro fn B a w hrs hρ0 hds ⟨g1,g2,F,ρ,hp,g4⟩
 obtain ⟨v,hrun,hm⟩:=XZ hrs hp g4 hr
 refine ⟨v,hrun,hds.symm,rfl,Jh F ρ (jg σ.hs) w,ρ,?_,fun i=>?_⟩
 ·refine { kept:=⟨hp.kept.os,hp.kept.tape,hp.kept.output,hp.kept.size,hp.kept.block⟩,agree := ?_,grow:=fun b o hb=>QF F ρ _ w b o (hp.grow b o hb),fresh := ?_,names:=hp.names,dom:=fun _ _=>trivial,own:=fun n=>?_,new := ?_,sep := ?_ }
  ·intro b o hb
   unfold Jh at hb
   cases hF:F b with
   | some o'=>rw [hF] at hb;simp only at hb;rw [← hb];exact hp.agree b o' hF
   | none =>
     rw [hF] at hb
     simp only at hb
     split at hb
     ·exact hb
     ·cases hb
  ·intro b hb
   unfold Jh at hb
   cases hF:F b with
   | some o'=>exact hp.fresh b (by rw [hF];simp)
   | none =>
     rw [hF] at hb
     simp only at hb
     split at hb
     ·rename_i hex
      obtain ⟨n,c,hn,hρ⟩:=hex
      exact .inr (hp.new n b c hn hρ).2
     ·exact absurd rfl hb
  ·have:(List.getD ([]:List HB) n .dead) = .dead:=by simp
   rw [this];trivial
  ·intro n b c hn
   simp [HB.isOwn] at hn
  ·intro n m b c c' _ hn
   simp [HB.isOwn] at hn
 ·by_cases hi:i = 0
  ·subst hi
   exact ((hz F ρ w v hp.own (fun n b c h1 h2=>(hp.new n b c h1 h2).1) hm).mono (Still.le_refl _) (wL ρ))
  ·unfold one;rw [if_neg hi];exact .junk _ _
def Km:AV → Bool
 | .v _=>true
 | .tup cs=>cs.all fun x=>match x with | .v _=>true|_=>false
 | _=>false
theorem qaL {F G:Still} {ρ σ:Places} {v:Value} {x:AV} (hm:M F ρ v x) (hx:Km x = true):M G σ v x:=by
 cases hm with
 | v _ _ h=>exact .v _ _ h
 | tup _ vs xs hl h =>
   refine .tup _ vs xs hl fun i u y hu hy=>?_
   have:=List.all_eq_true.1 (by simpa [Km] using hx) y (List.mem_of_getElem? hy)
   have hm:=h i u y hu hy
   cases y<;>simp at this
   obtain ⟨e,hs⟩:=hm.v_inv
   subst e
   exact .v _ _ hs
 | _=>simp [Km] at hx
def zl (rh:List Nat) (h:Nat → HB):Nat → HB:=fun n=>if n ∈ rh then h n else .dead
theorem Kf {P:Program} {f:FuncId} {fn:Func} (hf:P.funcs[f]? = some fn) (hb:fn.body.isNone = false) (hn:(fn.name == "runtime.NumGoroutine") = false) (args:Array Value) (w:World):(callFunc f args).run P w = .ok (.enter f args) w:=by
 unfold callFunc
 simp only [Sem.run_bind,program,Sem.run,hf,hn,hb,Bool.false_eq_true,if_false,Sem.run_pure,Result.andThen]
structure IsFn (P:Program) (f:FuncId):Prop where
 ex : ∃ fn,P.funcs[f]? = some fn ∧ fn.body.isNone = false ∧ (fn.name == "runtime.NumGoroutine") = false
theorem qdR {F:Still} {ρ:Places} {t:Nat → AV} {a:Act} {rt:List Nat} (hs : ∀ j,j ∈ rt → M F ρ (a.tmps.getD j undef) (t j)) : ∀ (l:List Operand),(∀ j,j ∈ l.flatMap yr → j ∈ rt) → ∀ (i:Nat) v x,(l.map a.eval)[i]? = some v → (l.map (evA t))[i]? = some x → M F ρ v x:=by
 intro l hin i v x hv hx
 rw [List.getElem?_map] at hv hx
 cases hl:l[i]? with
 | none=>simp [hl] at hv
 | some o =>
   simp only [hl,Option.map_some,Option.some.injEq] at hv hx
   subst hv;subst hx
   exact qE hs fun j hj=>hin j (List.mem_flatMap.2 ⟨o,List.mem_of_getElem? hl,hj⟩)
def jp (P:Program) (o:Oper) (t:Nat → AV) (rt:List Nat) (f:FuncId) (xs:List AV):Prop :=
 ∀ (F:Still) (ρ:Places) (a:Act) (w:World),(∀ j,j ∈ rt → M F ρ (a.tmps.getD j undef) (t j)) →
   ∃ vs:List Value,(execOp a.eval o).run P w = .ok (.enter f vs.toArray) w ∧ vs.length = xs.length ∧ ∀ (i:Nat) v x,vs[i]? = some v → xs[i]? = some x → M F ρ v x
section calls
variable {C:Cx} {N d:Nat} {ty:TypeId} {pos:String} {af:Array Edge} {gd:Option (Nat × Bool)} {t:Nat → AV} {h:Nat → HB}
theorem vO (f:FuncId) (hf:IsFn C.P f) (c:Operand) (args:List Operand) (tys:Array TypeId) (first cap:List AV) (hc:evA t c = .clo (.func f) first cap) :
  jp C.P ⟨some d,.call ⟨.value c,args.toArray,tys⟩,ty,pos,af,gd⟩ t (yr c ++ args.flatMap yr) f (first ++ args.map (evA t) ++ cap):=by
 intro F ρ a w hs
 have h1:=qE (x:=c) hs (fun j hj=>List.mem_append_left _ hj)
 rw [hc] at h1
 generalize hac:a.eval c = ac at h1
 cases h1 with
 | clo _ fn vs us xs ys hl hm a1 a2 =>
   refine ⟨vs ++ args.map a.eval ++ us,?_,by simp [hl,hm],?_⟩
   ·obtain ⟨fn',hf1,hf2,hf3⟩:=hf.ex
    simp only [execOp,resolve,hac,Deferred.ofValue,Sem.run_bind,Sem.run_pure,Result.andThen_ok,invoke]
    rw [show (vs.toArray ++ args.toArray.map a.eval ++ us.toArray) = (vs ++ args.map a.eval ++ us).toArray from by simp]
    exact Kf hf1 hf2 hf3 _ w
   ·intro i v x hv hx
    rw [List.getElem?_append] at hv hx
    have e1:(vs ++ args.map a.eval).length = (first ++ args.map (evA t)).length:=by simp [hl]
    rw [e1] at hv
    split at hv
    ·rename_i hi
     rw [if_pos hi] at hx
     rw [List.getElem?_append] at hv hx
     rw [hl] at hv
     split at hv
     ·rename_i hi2
      rw [if_pos hi2] at hx
      exact a1 i v x hv hx
     ·rename_i hi2
      rw [if_neg hi2] at hx
      exact qdR hs args (fun j hj=>List.mem_append_right _ hj) _ v x hv hx
    ·rename_i hi
     rw [if_neg hi] at hx
     exact a2 _ v x hv hx
theorem Yd {P:Program} {o:Oper} {a:Act} {w w1:World} {f:FuncId} {vs:Array Value} {K:Act → World → Prop} {Q:Exit → Act → World → Prop} (he:(execOp a.eval o).run P w = .ok (.enter f vs) w1) {R:Ending → World → Prop} (hc:Calls P f vs w1 R)
  (hk : ∀ e w',R e w' → ∃ v,e = .returned v ∧ K (a.put o.dst v) w'):o.wp P a w K Q:=by
 unfold Oper.wp
 rw [he,Oper.upon_enter]
 refine hc.mono fun e w' hr=>?_
 obtain ⟨v,rfl,hk'⟩:=hk e w' hr
 exact hk'
theorem Yt {o:Oper} {f:FuncId} {xs ys:List AV} {r:AV} (rt rh:List Nat) (hd:o.dst = some d) (hN:d < N) (he:jp C.P o t rt f xs) (hz:vn (zl rh h) xs ys) (hc:qZ C.P f ys [] r []) (hfl:Km r = true) :
  ja C.P N o t h ⟨rt,rh,some d,r,[],[]⟩:=by
 intro B A t' h' a w Q K hBN g hrt hrh _ hK
 obtain ⟨g1,g2,F,ρ,hp,g4⟩:=g
 obtain ⟨vs,hrun,hl,hm⟩:=he F ρ a w (fun j hj=>(hrt j hj) ▸ g4 j)
 have heq:zl rh h' = zl rh h:=by
  funext n;unfold zl;split
  ·rename_i hn;exact hrh n hn
  ·rfl
 have hown : ∀ n,OwnAt F ρ w n (zl rh h n):=fun n=>by
  rw [← heq];unfold zl;split
  ·exact hp.own n
  ·trivial
 have hnone : ∀ n b c,(zl rh h n).isOwn = true → ρ n = some (some (b,c)) → F b = none:=fun n b c hn hρ=>by
  rw [← heq] at hn;unfold zl at hn;split at hn
  ·exact (hp.new n b c hn hρ).1
  ·cases hn
 let F1:=Jh F ρ (zl rh h) w
 let B' : Base := { w0:=w,F0:=F1,ρ0:=noPlaces,O0:=fun _=>False,N:=vs.length,tab:=fun b p h=>(B.tab b p h).imp fun cs h=>h.imp fun e h=>h.imp fun fr h=>⟨h.1,QF F ρ _ w b _ (hp.grow b _ h.2)⟩ }
 have hag : ∀ b o,F1 b = some o → w.heap[b]? = some o:=by
  intro b o hb
  simp only [F1,Jh] at hb
  cases hF:F b with
  | some o'=>rw [hF] at hb;simp only at hb;rw [← hb];exact hp.agree b o' hF
  | none =>
    rw [hF] at hb
    simp only at hb
    split at hb
    ·exact hb
    ·cases hb
 have hGa:Ga B' (· < ([]:List HB).length) (fun i=>ys.getD i .junk) (fun n=>([]:List HB).getD n .dead) ⟨vs.toArray,[]⟩ w:=by
  refine ⟨rfl,by simp [B'],F1,noPlaces,?_,fun i=>?_⟩
  ·exact { kept:=⟨rfl,rfl,rfl,Nat.le_refl _,fun _ _ _=>rfl⟩,agree:=hag,grow:=Still.le_refl _,fresh:=fun b hb => .inl hb,names:=Places.le_refl _,dom:=fun n hn=>absurd rfl hn,own:=fun n=>by simp [OwnAt],new:=fun n b c hn=>by simp [HB.isOwn] at hn,sep:=fun n m b c c' _ hn=>by simp [HB.isOwn] at hn }
  ·show M F1 noPlaces _ (ys.getD i .junk)
   cases hy:ys[i]? with
   | none=>rw [List.getD_eq_getElem?_getD,hy];exact .junk _ _
   | some y =>
     rw [List.getD_eq_getElem?_getD,hy]
     have hi:i < xs.length:=by rw [hz.1];exact (List.getElem?_eq_some_iff.1 hy).1
     have hx:xs[i]? = some xs[i]:=List.getElem?_eq_getElem hi
     have hv:vs[i]? = some (vs[i]'(by omega)):=List.getElem?_eq_getElem (by omega)
     simp only [Array.getD_eq_getD_getElem?,List.getElem?_toArray,hv,Option.getD_some]
     exact hz.2 i _ y hx hy F ρ w _ hown hnone (hm i _ _ hv hx)
 refine Yd hrun (hc B' vs w (by rw [hl,hz.1]) rfl hGa) ?_
 intro e w' ⟨v,hev,_,_,F',ρ',hp',hm'⟩
 refine ⟨v,hev,hK _ _ ⟨?_,by rw [zo];exact g2,F,ρ,?_,fun i=>?_⟩⟩
 ·simpa [Act.put,hd] using g1
 ·have hblk : ∀ b,b < w.heap.size → w'.heap[b]? = w.heap[b]?:=fun b hb=>hp'.kept.block b hb (fun h=>h)
  refine { kept:=⟨hp'.kept.os.trans hp.kept.os,hp'.kept.tape.trans hp.kept.tape,hp'.kept.output.trans hp.kept.output,Nat.le_trans hp.kept.size hp'.kept.size,fun b hb ho=>?_⟩,agree:=fun b o hb=>?_,grow:=hp.grow,fresh:=hp.fresh,names:=hp.names,dom:=fun n hn => .inl (hp.dom n hn),own:=fun n=>?_,new := ?_,sep := ?_ }
  ·rw [hblk b (Nat.lt_of_lt_of_le hb hp.kept.size)];exact hp.kept.block b hb ho
  ·rw [hblk b (Array.getElem?_eq_some_iff.1 (hp.agree b o hb)).1];exact hp.agree b o hb
  ·have h1:=hp.own n
   show OwnAt F ρ w' n (h' n)
   cases hh:h' n with
   | dead=>trivial
   | fz rows=>rw [hh] at h1;exact h1
   | mp l =>
     rw [hh] at h1
     obtain ⟨b,es,clock,h1,h2,h3⟩:=h1
     exact ⟨b,es,clock,h1,by rw [hblk b (Array.getElem?_eq_some_iff.1 h2).1];exact h2,h3⟩
   | own ex k rows =>
     rw [hh] at h1
     rcases h1 with h1|⟨b,cap,c,e,h1,h2,h3,h4,h5,h6⟩
     ·exact .inl h1
     ·exact .inr ⟨b,cap,c,e,h1,by rw [hblk b (Array.getElem?_eq_some_iff.1 h2).1];exact h2,h3,h4,h5,h6⟩
  ·exact hp.new
  ·exact hp.sep
 ·rw [hd,kg _ _ _ _ (by omega)]
  unfold Eff.t Eff.wT
  by_cases hi:d = i
  ·subst hi
   have h0:=hm' 0
   simp only [one,if_true] at h0
   have:M F ρ v r:=qaL (by simpa using h0) hfl
   simpa using this
  ·simpa [hi] using g4 i
end calls
end Go.Ab
namespace Go.Ab
def qbx (P:Program):List (Nat × TRec) → Prop
 | []=>True
 | (T,r) :: l=>QQ P T = some r ∧ qbx P l
theorem Yb {P:Program} : ∀ {l:List (Nat × TRec)},qbx P l → ∀ T r,qW l T = some r → QQ P T = some r
 | [],_,T,r,h=>by cases h
 | (U,s) :: l,hl,T,r,h=>by
   unfold qW at h
   split at h
   ·rename_i e;injection h with h;exact e ▸ h ▸ hl.1
   ·exact Yb hl.2 T r h
end Go.Ab
set_option linter.unusedSimpArgs false
set_option linter.unusedVariables false
namespace Go.Ab
def Maps (L:List (Nat × Nat)) (nh n n' : Nat):Prop:=(n < nh ∧ n' = n) ∨ (n,n') ∈ L
def j3 (L:List (Nat × Nat)) (nh:Nat) (x y:AV):Prop :=
 ∀ (F:Still) (ρ ρ' : Places) (v:Value),(∀ n n',Maps L nh n n' → ∀ c,ρ n = some c → ρ' n' = some c) → M F ρ v x → M F ρ' v y
def jC (L:List (Nat × Nat)) (nh:Nat) (xs ys:List AV):Prop:=xs.length = ys.length ∧ ∀ (i:Nat) x y,xs[i]? = some x → ys[i]? = some y → j3 L nh x y
def kt (L:List (Nat × Nat)) (nh:Nat) (xs ys:List (List AV)):Prop:=xs.length = ys.length ∧ ∀ (i:Nat) x y,xs[i]? = some x → ys[i]? = some y → jC L nh x y
section
variable {L:List (Nat × Nat)} {nh:Nat}
theorem qey {x:AV}:j3 L nh x .junk:=fun F ρ ρ' v _ _ => .junk _ v
theorem qk {x:AV} (hx:x.pure = true):j3 L nh x x:=fun F ρ ρ' v _ hm=>hm.moved ρ' hx
theorem qz {n n' off len:Nat} (hn:Maps L nh n n'):j3 L nh (.os n off len) (.os n' off len):=fun F ρ ρ' v h hm=>by
 cases hm with
 | os _ n b k cap off len a hρ hl ha=>exact .os _ n' b k cap off len a (h n n' hn _ hρ) hl ha
 | osn _ n a hρ=>exact .osn _ n' a (h n n' hn _ hρ)
theorem qD {n n' i j:Nat} (hn:Maps L nh n n'):j3 L nh (.op n i j) (.op n' i j):=fun F ρ ρ' v h hm=>by
 cases hm with|op _ n b k cap i j hρ=>exact .op _ n' b k cap i j (h n n' hn _ hρ)
theorem ql:jC L nh [] []:=⟨rfl,fun i x y hx=>by cases i<;>cases hx⟩
theorem qd {x y:AV} {xs ys:List AV} (hx:j3 L nh x y) (hl:jC L nh xs ys):jC L nh (x :: xs) (y :: ys):=by
 refine ⟨by simp [hl.1],fun i a b ha hb=>?_⟩
 cases i with
 | zero=>simp at ha hb;subst ha;subst hb;exact hx
 | succ i=>exact hl.2 i a b (by simpa using ha) (by simpa using hb)
theorem qcX {xs:List AV} (hx:AV.pure.pureL xs = true):jC L nh xs xs :=
 ⟨rfl,fun i x y h1 h2=>by rw [h1] at h2;injection h2 with h2;subst h2;exact qk (zT hx h1)⟩
theorem QL {rows:List (List AV)} (hr : ∀ row,row ∈ rows → AV.pure.pureL row = true):kt L nh rows rows :=
 ⟨rfl,fun i x y h1 h2=>by rw [h1] at h2;injection h2 with h2;subst h2;exact qcX (hr x (List.mem_of_getElem? h1))⟩
theorem W8 {α:Type} {f:α → List AV} {l:List α} (hf : ∀ a,AV.pure.pureL (f a) = true):kt L nh (l.map f) (l.map f) :=
 QL fun row hr=>by obtain ⟨a,_,rfl⟩:=List.mem_map.1 hr;exact hf a
theorem zU:kt L nh [] []:=⟨rfl,fun i x y hx=>by cases i<;>cases hx⟩
theorem vx {x y:List AV} {xs ys:List (List AV)} (hx:jC L nh x y) (hl:kt L nh xs ys):kt L nh (x :: xs) (y :: ys):=by
 refine ⟨by simp [hl.1],fun i a b ha hb=>?_⟩
 cases i with
 | zero=>simp at ha hb;subst ha;subst hb;exact hx
 | succ i=>exact hl.2 i a b (by simpa using ha) (by simpa using hb)
end
def qfS (L:List (Nat × Nat)) (nh:Nat):MB → MB → Prop
 | .map l,.map l' => ∃ l2,l.Perm l2 ∧ l2.length = l'.length ∧ ∀ (i:Nat) x y,l2[i]? = some x → l'[i]? = some y → x.1 = y.1 ∧ j3 L nh x.2 y.2
 | .sit s p,.sit s' p'=>s = s' ∧ p = p'
 | .typ e k rows,.typ e' k' rows'=>e = e' ∧ k = k' ∧ kt L nh rows rows'
 | _,_=>False
def vq (L:List (Nat × Nat)) (nh:Nat):HB → HB → Prop
 | .own ex k rows,.own ex' k' rows'=>(ex' = true → ex = true) ∧ k = k' ∧ kt L nh rows rows'
 | .fz rows,.fz rows'=>rows = rows'
 | .mp l,.mp l'=>qfS L nh l l'
 | _,.dead=>True
 | _,_=>False
theorem qer {α β:Type} {R:α → β → Prop} {l0 l:List α} (h:l0.Perm l) : ∀ {l2:List β},l.length = l2.length → (∀ (i:Nat) x y,l[i]? = some x → l2[i]? = some y → R x y) → ∃ l3:List β,l3.Perm l2 ∧ l0.length = l3.length ∧ ∀ (i:Nat) x y,l0[i]? = some x → l3[i]? = some y → R x y:=by
 induction h with
 | nil=>intro l2 hl hr;exact ⟨l2,.refl _,hl,hr⟩
 | cons a _ ih =>
   intro l2 hl hr
   cases l2 with
   | nil=>simp at hl
   | cons b l2 =>
     obtain ⟨l3,h1,h2,h3⟩:=ih (l2:=l2) (by simpa using hl) (fun i x y hx hy=>hr (i + 1) x y (by simpa using hx) (by simpa using hy))
     refine ⟨b :: l3,h1.cons b,by simp [h2],fun i x y hx hy=>?_⟩
     cases i with
     | zero=>exact hr 0 x y (by simpa using hx) (by simpa using hy)
     | succ i=>exact h3 i x y (by simpa using hx) (by simpa using hy)
 | swap a b l =>
   intro l2 hl hr
   match l2,hl,hr with
   | c :: d :: l2,hl,hr =>
     refine ⟨d :: c :: l2,.swap _ _ _,by simpa using hl,fun i x y hx hy=>?_⟩
     match i with
     | 0=>exact hr 1 x y (by simpa using hx) (by simpa using hy)
     | 1=>exact hr 0 x y (by simpa using hx) (by simpa using hy)
     | i + 2=>exact hr (i + 2) x y (by simpa using hx) (by simpa using hy)
   | [_],hl,_=>simp at hl
   | [],hl,_=>simp at hl
 | trans _ _ ih1 ih2 =>
   intro l2 hl hr
   obtain ⟨l3,h1,h2,h3⟩:=ih2 hl hr
   obtain ⟨l4,h4,h5,h6⟩:=ih1 h2 h3
   exact ⟨l4,h4.trans h1,h5,h6⟩
theorem qfi {l l' : List (List UInt8 × AV)} (hl:l.length = l'.length) (hr : ∀ (i:Nat) x y,l[i]? = some x → l'[i]? = some y → x.1 = y.1):l.map (·.1) = l'.map (·.1):=by
 apply List.ext_getElem?
 intro i
 rw [List.getElem?_map,List.getElem?_map]
 by_cases hi:i < l.length
 ·have h1:=List.getElem?_eq_getElem hi
  have h2:=List.getElem?_eq_getElem (l:=l') (show i < l'.length by omega)
  rw [h1,h2]
  exact congrArg some (hr i _ _ h1 h2)
 ·rw [List.getElem?_eq_none (by omega),List.getElem?_eq_none (by omega)]
theorem MapAt.ren {F:Still} {ρ ρ' : Places} {L:List (Nat × Nat)} {nh:Nat} {es:Array MapEntry} {clock:Nat} {l l' : List (List UInt8 × AV)} (hsub : ∀ n n',Maps L nh n n' → ∀ c,ρ n = some c → ρ' n' = some c) (h:MapAt F ρ es clock l) (hl:l.length = l'.length)
  (hr : ∀ (i:Nat) x y,l[i]? = some x → l'[i]? = some y → x.1 = y.1 ∧ j3 L nh x.2 y.2):MapAt F ρ' es clock l':=by
 obtain ⟨l0,hp,h⟩:=h
 obtain ⟨l3,hp3,hl3,hr3⟩:=qer (R:=fun x y:List UInt8 × AV=>x.1 = y.1 ∧ j3 L nh x.2 y.2) hp hl hr
 refine ⟨l3,hp3,h.len.trans hl3,?_,h.stamp,fun i e y he hy=>?_⟩
 ·rw [← qfi hl3 fun i x y hx hy=>(hr3 i x y hx hy).1];exact h.nodup
 ·have hi:i < l0.length:=by rw [hl3];exact (List.getElem?_eq_some_iff.1 hy).1
  have hx:=List.getElem?_eq_getElem hi
  obtain ⟨h1,h2⟩:=h.ents i e _ he hx
  obtain ⟨h3,h4⟩:=hr3 i _ y hx hy
  exact ⟨by rw [← h3];exact h1,h4 F ρ ρ' _ hsub h2⟩
theorem MbAt.ren {F:Still} {ρ ρ' : Places} {L:List (Nat × Nat)} {nh:Nat} {kc:Nat × Nat} {o:Obj} {l l' : MB} (hsub : ∀ n n',Maps L nh n n' → ∀ c,ρ n = some c → ρ' n' = some c) (h:MbAt F ρ kc o l) (hr:qfS L nh l l'):MbAt F ρ' kc o l':=by
 cases l with
 | map l =>
   cases l' with
   | map l' =>
     obtain ⟨es,clock,h1,l0,h2,h3⟩:=h
     obtain ⟨l2,h4,h5,h6⟩:=hr
     exact ⟨es,clock,h1,MapAt.ren hsub ⟨l0,h2.trans h4,h3⟩ h5 h6⟩
   | sit _ _=>exact hr.elim
   | typ _ _ _=>exact hr.elim
 | sit s p =>
   cases l' with
   | map l'=>exact hr.elim
   | sit s' p' =>
     obtain ⟨rfl,rfl⟩:=hr
     exact h
   | typ _ _ _=>exact hr.elim
 | typ e k rows =>
   cases l' with
   | map l'=>exact hr.elim
   | sit _ _=>exact hr.elim
   | typ e' k' rows' =>
     obtain ⟨rfl,rfl,hr⟩:=hr
     obtain ⟨c,h1,h2,h3,h4,h5⟩:=h
     refine ⟨c,h1,h2,h3,by rw [← hr.1];exact h4,fun row' hrow'=>?_,fun i j row' y v hi hj hv=>?_⟩
     ·obtain ⟨i,hi,he⟩:=List.getElem_of_mem hrow'
      have hi' : i < rows.length:=by rw [hr.1];exact hi
      have:=(hr.2 i _ row' (List.getElem?_eq_getElem hi') (by rw [List.getElem?_eq_getElem hi,he])).1
      rw [← this]
      exact h5.1 _ (List.getElem_mem hi')
     ·have hi' : i < rows.length:=by rw [hr.1];exact (List.getElem?_eq_some_iff.1 hi).1
      have hrow:=hr.2 i _ row' (List.getElem?_eq_getElem hi') hi
      have hj' : j < (rows[i]).length:=by rw [hrow.1];exact (List.getElem?_eq_some_iff.1 hj).1
      exact hrow.2 j _ y (List.getElem?_eq_getElem hj') hj F ρ ρ' v hsub (h5.2 i j _ _ v (List.getElem?_eq_getElem hi') (List.getElem?_eq_getElem hj') hv)
def vA (L:List (Nat × Nat)) (nh:Nat) (σ:St):List (Nat × AV) → Prop
 | []=>True
 | (i,y) :: l=>j3 L nh (qS σ.ts i) y ∧ vA L nh σ l
def vp (L:List (Nat × Nat)) (nh:Nat) (σ:St):List (Nat × HB) → Prop
 | []=>True
 | (n',y) :: l=>(∃ n,Maps L nh n n' ∧ vq L nh (jg σ.hs n) y) ∧ vp L nh σ l
def wP (nh nx:Nat):List (Nat × Nat) → Bool
 | []=>decide (nh ≤ nx)
 | (n,n') :: l=>decide (nh ≤ n) && decide (nh ≤ n') && decide (n' < nx) && l.all (fun x=>x.1 != n && x.2 != n') && wP nh nx l
theorem XR {nh nx:Nat} : ∀ {l:List (Nat × Nat)},wP nh nx l = true → nh ≤ nx ∧ (∀ n n',(n,n') ∈ l → nh ≤ n ∧ nh ≤ n' ∧ n' < nx) ∧ (∀ n m n' m',(n,n') ∈ l → (m,m') ∈ l → (n = m ↔ n' = m'))
 | [],h=>⟨by simpa [wP] using h,(fun n n' h=>by cases h),(fun n m n' m' h=>by cases h)⟩
 | (a,a') :: l,h=>by
   simp only [wP,Bool.and_eq_true,decide_eq_true_eq] at h
   obtain ⟨⟨⟨⟨h1,h2⟩,h3⟩,h4⟩,h5⟩:=h
   obtain ⟨i1,i2,i3⟩:=XR h5
   have ne : ∀ n n',(n,n') ∈ l → n ≠ a ∧ n' ≠ a':=fun n n' hm=>by
    have:=List.all_eq_true.1 h4 (n,n') hm
    simpa using this
   refine ⟨i1,fun n n' hm=>?_,fun n m n' m' hn hm=>?_⟩
   ·rcases List.mem_cons.1 hm with e|hm
    ·injection e with e1 e2;subst e1;subst e2;exact ⟨h1,h2,h3⟩
    ·exact i2 n n' hm
   ·rcases List.mem_cons.1 hn with e|hn2
    ·rcases List.mem_cons.1 hm with f|hm2
     ·injection e with e1 e2;injection f with f1 f2;subst e1;subst e2;subst f1;subst f2;simp
     ·injection e with e1 e2;subst e1;subst e2
      have:=ne m m' hm2
      exact ⟨fun h=>absurd h.symm this.1,fun h=>absurd h.symm this.2⟩
    ·rcases List.mem_cons.1 hm with f|hm2
     ·injection f with f1 f2;subst f1;subst f2
      have:=ne n n' hn2
      exact ⟨fun h=>absurd h this.1,fun h=>absurd h this.2⟩
     ·exact i3 n m n' m' hn2 hm2
theorem wZ (j:Nat) (y:AV) (l:List (Nat × AV)) (i:Nat):qS ((j,y) :: l) i = if j = i then y else qS l i:=rfl
theorem xF (j:Nat) (y:HB) (l:List (Nat × HB)) (i:Nat):jg ((j,y) :: l) i = if j = i then y else jg l i:=by
 show (if j = i then some y else y6 l i).getD .dead = _
 split<;>rfl
theorem qao {L:List (Nat × Nat)} {nh:Nat} {σ:St} : ∀ {l:List (Nat × AV)},vA L nh σ l → ∀ i,j3 L nh (qS σ.ts i) (qS l i)
 | [],_,i=>qey
 | (j,y) :: l,h,i=>by
   rw [wZ]
   by_cases e:j = i
   ·rw [if_pos e];exact e ▸ h.1
   ·rw [if_neg e];exact qao h.2 i
theorem VL {L:List (Nat × Nat)} {nh:Nat} {σ:St} : ∀ {l:List (Nat × HB)},vp L nh σ l → ∀ n',jg l n' = .dead ∨ ∃ n,Maps L nh n n' ∧ vq L nh (jg σ.hs n) (jg l n')
 | [],_,n' => .inl rfl
 | (m,y) :: l,h,n'=>by
   have:=VL h.2 n'
   rw [xF]
   by_cases e:m = n'
   ·rw [if_pos e];exact .inr (e ▸ h.1)
   ·rw [if_neg e];exact this
theorem qd9 {C:Cx} {σ τ:St} {B:Base} {w:World} {F:Still} {ρ:Places} (L:List (Nat × Nat)) (hL:wP C.nh τ.nx L = true) (hh:vp L C.nh σ τ.hs) (hB : ∀ n,B.ρ0 n ≠ none → n < C.nh) (hp:Hp B (· < σ.nx) (jg σ.hs) F ρ w) :
  ∃ ρ',Hp B (· < τ.nx) (jg τ.hs) F ρ' w ∧ ∀ n n',Maps L C.nh n n' → ∀ c,ρ n = some c → ρ' n' = some c:=by
 obtain ⟨k1,k2,k3⟩:=XR hL
 classical
 let ρ' : Places:=fun n'=>if n' < C.nh then ρ n' else if h : ∃ n,(n,n') ∈ L then ρ (Classical.choose h) else none
 have hmap : ∀ n n',Maps L C.nh n n' → ρ' n' = ρ n:=by
  intro n n' hm
  rcases hm with ⟨h1,rfl⟩|h1
  ·simp only [ρ',h1,if_true]
  ·obtain ⟨_,h2,_⟩:=k2 n n' h1
   have hex : ∃ n,(n,n') ∈ L:=⟨n,h1⟩
   simp only [ρ',show ¬ n' < C.nh from by omega,if_false]
   rw [dif_pos hex,(k3 _ n n' n' (Classical.choose_spec hex) h1).2 rfl]
 have hsub : ∀ n n',Maps L C.nh n n' → ∀ c,ρ n = some c → ρ' n' = some c:=fun n n' hm c hc=>(hmap n n' hm).trans hc
 have hinj : ∀ n n' m',Maps L C.nh n n' → Maps L C.nh n m' → n' = m':=by
  intro n n' m' h1 h2
  rcases h1 with ⟨a1,rfl⟩|a1<;>rcases h2 with ⟨b1,rfl⟩|b1
  ·rfl
  ·have:=(k2 _ _ b1).1;omega
  ·have:=(k2 _ _ a1).1;omega
  ·exact (k3 n n n' m' a1 b1).1 rfl
 have hrows : ∀ {c:Array Value} {k:Nat} {rows rows' : List (List AV)},RowsAt F ρ c k rows → kt L C.nh rows rows' → RowsAt F ρ' c k rows':=by
  intro c k rows rows' hR hr
  have hget : ∀ (i:Nat) row',rows'[i]? = some row' → ∃ row,rows[i]? = some row ∧ jC L C.nh row row':=fun i row' hi=>by
   have hil:i < rows.length:=by rw [hr.1];exact (List.getElem?_eq_some_iff.1 hi).1
   exact ⟨_,List.getElem?_eq_getElem hil,hr.2 i _ _ (List.getElem?_eq_getElem hil) hi⟩
  refine ⟨fun row' hrow'=>?_,fun i j row' y v hi hj hv=>?_⟩
  ·obtain ⟨i,hi⟩:=List.mem_iff_getElem?.1 hrow'
   obtain ⟨row,h1,h2⟩:=hget i row' hi
   rw [← h2.1];exact hR.1 row (List.mem_of_getElem? h1)
  ·obtain ⟨row,h1,h2⟩:=hget i row' hi
   have hj' : j < row.length:=by rw [h2.1];exact (List.getElem?_eq_some_iff.1 hj).1
   have hx:row[j]? = some row[j]:=List.getElem?_eq_getElem hj'
   exact h2.2 j _ y hx hj F ρ ρ' v hsub (hR.2 i j row _ v h1 hx hv)
 have hfrom : ∀ n',(jg τ.hs n').isOwn = true → ∃ n,Maps L C.nh n n' ∧ (jg σ.hs n).isOwn = true:=by
  intro n' ho
  rcases VL hh n' with h1|⟨n,h1,h2⟩
  ·rw [h1] at ho;cases ho
  ·refine ⟨n,h1,?_⟩
   cases e1:jg τ.hs n' with
   | own ex k rows =>
     rw [e1] at h2
     cases e2:jg σ.hs n with
     | own _ _ _=>rfl
     | dead=>rw [e2] at h2;exact h2.elim
     | fz _=>rw [e2] at h2;exact h2.elim
     | mp _=>rw [e2] at h2;exact h2.elim
   | mp l =>
     rw [e1] at h2
     cases e2:jg σ.hs n with
     | mp _=>rfl
     | own _ _ _=>rw [e2] at h2;exact h2.elim
     | dead=>rw [e2] at h2;exact h2.elim
     | fz _=>rw [e2] at h2;exact h2.elim
   | dead=>rw [e1] at ho;cases ho
   | fz _=>rw [e1] at ho;cases ho
 refine ⟨ρ',?_,hsub⟩
 refine { kept:=hp.kept,agree:=hp.agree,grow:=hp.grow,fresh:=hp.fresh,names:=fun n c hn=>?_,dom:=fun n' hn=>?_,own:=fun n'=>?_,new:=fun n' b c ho hn=>?_,sep:=fun n' m' b c c' hne ho ho' hn hn'=>?_ }
 ·have:=hB n (by rw [hn];simp)
  simp only [ρ',this,if_true]
  exact hp.names n c hn
 ·show n' < τ.nx
  simp only [ρ'] at hn
  split at hn
  ·omega
  ·split at hn
   ·rename_i hex
    obtain ⟨n,hm⟩:=hex
    exact (k2 n n' hm).2.2
   ·exact absurd rfl hn
 ·rcases VL hh n' with h1|⟨n,h1,h2⟩
  ·rw [h1];trivial
  ·have h3:=hp.own n
   cases e1:jg τ.hs n' with
   | dead=>trivial
   | own ex k rows =>
     rw [e1] at h2
     cases e2:jg σ.hs n with
     | own ex' k' rows' =>
       rw [e2] at h2 h3
       obtain ⟨hex,rfl,hr⟩:=h2
       rcases h3 with ⟨h4,h5⟩|⟨b,cap,c,e,h4,h5,h6,h7,h8,h9⟩
       ·refine .inl ⟨by rw [hmap n n' h1];exact h4,?_⟩
        subst h5
        exact List.eq_nil_of_length_eq_zero (by rw [← hr.1];rfl)
       ·exact .inr ⟨b,cap,c,e,by rw [hmap n n' h1];exact h4,h5,h6,by rw [← hr.1];exact h7,fun h=>by rw [← hr.1];exact h8 (hex h),hrows h9 hr⟩
     | dead=>rw [e2] at h2;exact h2.elim
     | fz _=>rw [e2] at h2;exact h2.elim
     | mp _=>rw [e2] at h2;exact h2.elim
   | mp l =>
     rw [e1] at h2
     cases e2:jg σ.hs n with
     | mp l0 =>
       rw [e2] at h2 h3
       obtain ⟨b,es,clock,h4,h5,h6⟩:=h3
       exact ⟨b,es,clock,by rw [hmap n n' h1];exact h4,h5,h6.ren hsub h2⟩
     | dead=>rw [e2] at h2;exact h2.elim
     | fz _=>rw [e2] at h2;exact h2.elim
     | own _ _ _=>rw [e2] at h2;exact h2.elim
   | fz rows =>
     rw [e1] at h2
     cases e2:jg σ.hs n with
     | fz rows' =>
       rw [e2] at h2 h3
       have h2:rows' = rows:=h2
       subst h2
       rcases h3 with ⟨h4,h5⟩|⟨b,k,cap,c,e,fr,h4,h5⟩
       ·exact .inl ⟨by rw [hmap n n' h1];exact h4,h5⟩
       ·exact .inr ⟨b,k,cap,c,e,fr,by rw [hmap n n' h1];exact h4,h5⟩
     | dead=>rw [e2] at h2;exact h2.elim
     | own _ _ _=>rw [e2] at h2;exact h2.elim
     | mp _=>rw [e2] at h2;exact h2.elim
 ·obtain ⟨n,h1,h2⟩:=hfrom n' ho
  rw [hmap n n' h1] at hn
  exact hp.new n b c h2 hn
 ·obtain ⟨n,h1,h2⟩:=hfrom n' ho
  obtain ⟨m,h3,h4⟩:=hfrom m' ho'
  rw [hmap n n' h1] at hn
  rw [hmap m m' h3] at hn'
  exact hp.sep n m b c c' (fun e=>hne (hinj n n' m' h1 (e ▸ h3))) h2 h4 hn hn'
theorem qB {C:Cx} {σ τ:St} (L:List (Nat × Nat)) (hL:wP C.nh τ.nx L = true) (ht:vA L C.nh σ τ.ts) (hh:vp L C.nh σ τ.hs):Red C σ τ:=by
 intro B a w hB ⟨g1,g2,F,ρ,hp,g4⟩
 obtain ⟨ρ',hp',hsub⟩:=qd9 L hL hh hB hp
 exact ⟨g1,g2,F,ρ',hp',fun i=>qao ht i F ρ ρ' _ hsub (g4 i)⟩
theorem qI {C:Cx} {σ:St} {ts:List (Nat × AV)} (ht:vA [] C.nh σ ts):Red C σ ⟨ts,[],C.nh⟩:=qB [] (by simp [wP]) ht trivial
theorem QK {C:Cx} {ts:List (Nat × AV)} {hs:List (Nat × HB)} {nx:Nat} (n:Nat) {ex:Bool} {k:Nat} {rows:List (List AV)} (hn:jg hs n = .own ex k rows) (hr : ∀ row,row ∈ rows → AV.pure.pureL row = true):Red C ⟨ts,hs,nx⟩ ⟨ts,(n,.fz rows) :: hs,nx⟩:=by
 intro B a w hB ⟨g1,g2,F,ρ,hp,g4⟩
 classical
 let F' : Still:=fun b=>if ∃ c,ρ n = some (some (b,c)) then w.heap[b]? else F b
 have ho:=hp.own n
 have hn' : (jg hs n).isOwn = true:=by rw [hn];rfl
 have hle:F.le F':=fun b o hb=>by
  simp only [F']
  split
  ·rename_i hex
   obtain ⟨c,hc⟩:=hex
   rw [(hp.new n b c hn' hc).1] at hb;cases hb
  ·exact hb
 refine ⟨g1,g2,F',ρ,?_,fun i=>(g4 i).mono hle (Places.le_refl ρ)⟩
 refine { kept:=hp.kept,agree:=fun b o hb=>?_,grow:=fun b o hb=>hle b o (hp.grow b o hb),fresh:=fun b hb=>?_,names:=hp.names,dom:=hp.dom,own:=fun m=>?_,new:=fun m b c hm hρ=>?_,sep:=fun m m' b c c' hne hm hm' h1 h2=>?_ }
 ·simp only [F'] at hb
  split at hb
  ·exact hb
  ·exact hp.agree b o hb
 ·simp only [F'] at hb
  split at hb
  ·rename_i hex
   obtain ⟨c,hc⟩:=hex
   exact .inr (hp.new n b c hn' hc).2
  ·exact hp.fresh b hb
 ·show OwnAt F' ρ w m (jg ((n,.fz rows) :: hs) m)
  rw [xF]
  by_cases hnm:n = m
  ·subst hnm
   rw [if_pos rfl]
   rw [hn] at ho
   rcases ho with ho|⟨b,cap,c,e,h1,h2,h3,h4,h5,h6⟩
   ·exact .inl ho
   ·refine .inr ⟨b,k,cap,c,e,(0,0),h1,?_,by rw [h3];exact Nat.mul_le_mul_right _ h4,h4,h6.1,fun i j row x v a1 a2 a3=>((h6.2 i j row x v a1 a2 a3).moved _ (zT (hr row (List.mem_of_getElem? a1)) a2)).mono hle (Places.le_refl _)⟩
    simp only [F']
    rw [if_pos ⟨_,h1⟩];exact h2
  ·rw [if_neg hnm]
   have h0:=hp.own m
   show OwnAt F' ρ w m (jg hs m)
   have h0:OwnAt F ρ w m (jg hs m):=h0
   cases e:jg hs m with
   | dead=>trivial
   | fz rows' =>
     rw [e] at h0
     rcases h0 with h1|⟨b,k',cap,c,e',fr,h1,h2,h3,h4,h5⟩
     ·exact .inl h1
     ·exact .inr ⟨b,k',cap,c,e',fr,h1,hle _ _ h2,h3,h4,h5.mono hle (Places.le_refl _)⟩
   | mp l =>
     rw [e] at h0
     obtain ⟨b,es,clock,h1,h2,h3⟩:=h0
     exact ⟨b,es,clock,h1,h2,h3.mono hle (Places.le_refl _)⟩
   | own ex' k' rows' =>
     rw [e] at h0
     rcases h0 with h1|⟨b,cap,c,e',h1,h2,h3,h4,h5,h6⟩
     ·exact .inl h1
     ·exact .inr ⟨b,cap,c,e',h1,h2,h3,h4,h5,h6.mono hle (Places.le_refl _)⟩
 ·have hm:(jg ((n,.fz rows) :: hs) m).isOwn = true:=hm
  rw [xF] at hm
  by_cases hnm:n = m
  ·rw [if_pos hnm] at hm;cases hm
  ·rw [if_neg hnm] at hm
   have h1:=hp.new m b c hm hρ
   refine ⟨?_,h1.2⟩
   simp only [F']
   rw [if_neg (fun ⟨c',hc'⟩=>hp.sep n m b c' c hnm hn' hm hc' hρ)]
   exact h1.1
 ·have hm:(jg ((n,.fz rows) :: hs) m).isOwn = true:=hm
  have hm' : (jg ((n,.fz rows) :: hs) m').isOwn = true:=hm'
  rw [xF] at hm hm'
  by_cases hnm:n = m
  ·rw [if_pos hnm] at hm;cases hm
  ·by_cases hnm' : n = m'
   ·rw [if_pos hnm'] at hm';cases hm'
   ·rw [if_neg hnm] at hm;rw [if_neg hnm'] at hm'
    exact hp.sep m m' b c c' hne hm hm' h1 h2
theorem ye {C:Cx} {ts:List (Nat × AV)} {hs:List (Nat × HB)} {nx:Nat} (i:Nat) (k:Nat) (hi:qS ts i = .sl true []) (hnx:C.nh ≤ nx):Red C ⟨ts,hs,nx⟩ ⟨(i,.os nx 0 0) :: ts,(nx,.own true k []) :: hs,nx + 1⟩:=by
 intro B a w hB ⟨g1,g2,F,ρ,hp,g4⟩
 let ρ' : Places:=fun n=>if n = nx then some none else ρ n
 have hnone:ρ nx = none:=by
  cases h:ρ nx with
  | none=>rfl
  | some c=>exact absurd (hp.dom nx (by rw [h];simp)) (Nat.lt_irrefl _)
 have hle:ρ.le ρ':=fun n c hn=>by
  simp only [ρ']
  by_cases e:n = nx
  ·subst e;rw [hnone] at hn;cases hn
  ·rw [if_neg e];exact hn
 refine ⟨g1,g2,F,ρ',?_,fun j=>?_⟩
 ·refine { kept:=hp.kept,agree:=hp.agree,grow:=hp.grow,fresh:=hp.fresh,names:=fun n c hn=>hle n c (hp.names n c hn),dom:=fun n hn=>?_,own:=fun n=>?_,new:=fun n b c ho hn=>?_,sep:=fun n m b c c' hne ho ho' hn hn'=>?_ }
  ·simp only [ρ'] at hn
   show n < nx + 1
   by_cases e:n = nx
   ·omega
   ·rw [if_neg e] at hn;have:n < nx:=hp.dom n hn;omega
  ·show OwnAt F ρ' w n (jg ((nx,.own true k []) :: hs) n)
   rw [xF]
   by_cases e:nx = n
   ·rw [if_pos e];subst e;exact .inl ⟨by simp [ρ'],rfl⟩
   ·rw [if_neg e]
    have h0:OwnAt F ρ w n (jg hs n):=hp.own n
    cases e1:jg hs n with
    | dead=>trivial
    | fz rows' =>
      rw [e1] at h0
      rcases h0 with ⟨h1,h2⟩|⟨b,k',cap,c,e',fr,h1,h2,h3⟩
      ·exact .inl ⟨hle _ _ h1,h2⟩
      ·exact .inr ⟨b,k',cap,c,e',fr,hle _ _ h1,h2,h3⟩
    | mp l =>
      rw [e1] at h0
      obtain ⟨b,es,clock,h1,h2,h3⟩:=h0
      exact ⟨b,es,clock,hle _ _ h1,h2,h3.mono (Still.le_refl _) hle⟩
    | own ex' k' rows' =>
      rw [e1] at h0
      rcases h0 with ⟨h1,h2⟩|⟨b,cap,c,e',h1,h2,h3,h4,h5,h6⟩
      ·exact .inl ⟨hle _ _ h1,h2⟩
      ·exact .inr ⟨b,cap,c,e',hle _ _ h1,h2,h3,h4,h5,h6.mono (Still.le_refl _) hle⟩
  ·have ho:(jg ((nx,.own true k []) :: hs) n).isOwn = true:=ho
   rw [xF] at ho
   simp only [ρ'] at hn
   by_cases e:n = nx
   ·rw [if_pos e] at hn;cases hn
   ·rw [if_neg e] at hn;rw [if_neg (fun h=>e h.symm)] at ho;exact hp.new n b c ho hn
  ·have ho:(jg ((nx,.own true k []) :: hs) n).isOwn = true:=ho
   have ho' : (jg ((nx,.own true k []) :: hs) m).isOwn = true:=ho'
   rw [xF] at ho ho'
   simp only [ρ'] at hn hn'
   by_cases e:n = nx
   ·rw [if_pos e] at hn;cases hn
   ·by_cases e' : m = nx
    ·rw [if_pos e'] at hn';cases hn'
    ·rw [if_neg e] at hn;rw [if_neg e'] at hn'
     rw [if_neg (fun h=>e h.symm)] at ho;rw [if_neg (fun h=>e' h.symm)] at ho'
     exact hp.sep n m b c c' hne ho ho' hn hn'
 ·show M F ρ' _ (qS ((i,_) :: ts) j)
  rw [wZ]
  by_cases e:i = j
  ·subst e
   rw [if_pos rfl]
   have h1:M F ρ _ (qS ts i):=g4 i
   rw [hi] at h1
   rcases h1.sl_inv with ⟨_,ad,cap,hv,hc,_⟩|⟨b,o,cap,c,e',fr,kk,hb,_,hc,_,_,_,hv⟩
   ·have hc0:cap = 0:=hc rfl
    subst hc0;rw [hv];exact .osn _ nx ad (by simp [ρ'])
   ·have hc0:cap = 0:=hc rfl
    subst hc0;rw [hv];exact .osn _ nx _ (by simp [ρ'])
  ·rw [if_neg e];exact (g4 j).mono (Still.le_refl _) hle
theorem qfc {C:Cx} {rs:List ResultVar} {σ:St} {xs:List AV} {r:AV} {H' : List HB} (L:List (Nat × Nat)) (nx:Nat) (hr:ResOk C σ rs xs) (hL:wP C.nh nx L = true) (hh:vp L C.nh σ (zQ 0 H')) (hz:j3 L C.nh (yh xs) r):Fin C rs.toArray C.nh r H' σ:=by
 intro fn B a w hrs hρ0 hds ⟨g1,g2,F,ρ,hp,g4⟩
 obtain ⟨v,hrun,hm⟩:=XZ hrs hp g4 hr
 obtain ⟨ρ',hp',hsub⟩:=qd9 (τ:=⟨[],zQ 0 H',nx⟩) L hL hh hρ0 hp
 refine ⟨v,hrun,hds.symm,rfl,F,ρ',?_,fun i=>?_⟩
 ·have he:(fun n=>H'.getD n .dead) = jg (zQ 0 H'):=by
   funext n
   have:=VG H' 0 n
   rw [Nat.zero_add] at this
   exact this.symm
  rw [he]
  exact { hp' with dom:=fun _ _=>trivial,kept:=⟨hp'.kept.os,hp'.kept.tape,hp'.kept.output,hp'.kept.size,hp'.kept.block⟩ }
 ·by_cases hi:i = 0
  ·subst hi;exact hz F ρ ρ' v hsub hm
  ·unfold one;rw [if_neg hi];exact .junk _ _
theorem qg {L:List (Nat × Nat)} {nh:Nat} {σ:St}:vA L nh σ []:=trivial
theorem Qe {L:List (Nat × Nat)} {nh:Nat} {σ:St} {i:Nat} {x y:AV} {l:List (Nat × AV)} (hx:qS σ.ts i = x) (h:j3 L nh x y) (hl:vA L nh σ l):vA L nh σ ((i,y) :: l):=⟨by rw [hx];exact h,hl⟩
theorem Z2 {L:List (Nat × Nat)} {nh:Nat} {σ:St} {i:Nat} {x:AV} {l:List (Nat × AV)} (hx:qS σ.ts i = x) (hp:x.pure = true) (hl:vA L nh σ l):vA L nh σ ((i,x) :: l):=⟨by rw [hx];exact qk hp,hl⟩
theorem qfK {L:List (Nat × Nat)} {nh:Nat} {σ:St} {i:Nat} {x y:AV} {l:List (Nat × AV)} (hx:qS σ.ts i = x) (hxy:x = y) (hp:y.pure = true) (hl:vA L nh σ l):vA L nh σ ((i,y) :: l):=Z2 (hx.trans hxy) hp hl
theorem qj {L:List (Nat × Nat)} {nh:Nat} {σ:St}:vp L nh σ []:=trivial
theorem w3 {L:List (Nat × Nat)} {nh:Nat} {σ:St} {n n' : Nat} {ex ex' : Bool} {k:Nat} {rows rows' : List (List AV)} {l:List (Nat × HB)} (hm:Maps L nh n n') (hx:jg σ.hs n = .own ex k rows) (he:ex' = true → ex = true) (hr:kt L nh rows rows') (hl:vp L nh σ l) :
  vp L nh σ ((n',.own ex' k rows') :: l):=⟨⟨n,hm,by rw [hx];exact ⟨he,rfl,hr⟩⟩,hl⟩
theorem qgt {C:Cx} {ts:List (Nat × AV)} {hs:List (Nat × HB)} {nx:Nat} (i n:Nat) {r j:Nat} {rows:List (List AV)} (hi:qS ts i = .op n r j) (hn:jg hs n = .fz rows) (hr:r < rows.length):Red C ⟨ts,hs,nx⟩ ⟨(i,.fp rows r j) :: ts,hs,nx⟩:=by
 intro B a w hB ⟨g1,g2,F,ρ,hp,g4⟩
 refine ⟨g1,g2,F,ρ, { kept:=hp.kept,agree:=hp.agree,grow:=hp.grow,fresh:=hp.fresh,names:=hp.names,dom:=hp.dom,own:=hp.own,new:=hp.new,sep:=hp.sep },fun m=>?_⟩
 show M F ρ _ (qS ((i,_) :: ts) m)
 rw [wZ]
 by_cases him:i = m
 ·subst him
  rw [if_pos rfl]
  have h1:=g4 i
  have h1:M F ρ _ (qS ts i):=h1
  rw [hi] at h1
  have h2:=hp.own n
  have h2:OwnAt F ρ w n (jg hs n):=h2
  rw [hn] at h2
  rcases h2 with ⟨_,h3⟩|⟨b',k,cap',c,e,fr,h3,hb,hsz,hle,hR⟩
  ·rw [h3] at hr;simp at hr
  ·obtain ⟨b,k',cap,hρ,hv⟩:=h1.op_inv
   rw [hρ] at h3
   simp only [Option.some.injEq,Prod.mk.injEq] at h3
   obtain ⟨rfl,rfl,rfl⟩:=h3
   rw [hv]
   have:=M.fp (F:=F) ρ b 0 c e fr k' rows r j hb hr (by rw [Nat.zero_add];exact hsz) hR.1 (fun i j row x v a1 a2 a3=>hR.2 i j row x v a1 a2 (by rw [Nat.zero_add] at a3;exact a3))
   rw [Nat.zero_add] at this
   exact this
 ·rw [if_neg him]
  exact g4 m
end Go.Ab
set_option linter.unusedSimpArgs false
set_option linter.unusedVariables false
namespace Go.Ab
open Go.RowKit
def yC (L:List (Nat × Nat)) (rh:List Nat) (h:Nat → HB) (x y:AV):Prop :=
 ∀ (F:Still) (ρ ρ' : Places) (w:World) (v:Value),(∀ n,n ∈ rh → OwnAt F ρ w n (h n)) → (∀ n n',Maps L 0 n n' → ∀ c,ρ n = some c → ρ' n' = some c) → M F ρ v x → M F ρ' v y
def jA (L:List (Nat × Nat)) (rh:List Nat) (h:Nat → HB) (xs ys:List AV):Prop:=xs.length = ys.length ∧ ∀ (i:Nat) x y,xs[i]? = some x → ys[i]? = some y → yC L rh h x y
section
variable {L:List (Nat × Nat)} {rh:List Nat} {h:Nat → HB}
theorem qm {x y:AV} (hr:j3 L 0 x y):yC L rh h x y:=fun F ρ ρ' w v _ hm=>hr F ρ ρ' v hm
theorem q8 {x:AV} (hx:x.pure = true):yC L rh h x x:=qm (qk hx)
theorem jy {rows:List (List AV)}:yC L rh h (.sl true rows) (.sl false rows):=fun F ρ ρ' w v _ _ hm=>by
 have hm:=hm.moved ρ' rfl
 cases hm with
 | sl0 _ a cap ex he hn=>exact .sl0 _ a cap false (fun e=>by cases e) hn
 | sl _ b off cap c e fr ex k rows hb hc he hs hk h=>exact .sl _ b off cap c e fr false k rows hb hc (fun e=>by cases e) hs hk h
theorem q9:jA L rh h [] []:=⟨rfl,fun i x y hx=>by cases i<;>cases hx⟩
theorem qR {x y:AV} {xs ys:List AV} (hx:yC L rh h x y) (hl:jA L rh h xs ys):jA L rh h (x :: xs) (y :: ys):=by
 refine ⟨by simp [hl.1],fun i a b ha hb=>?_⟩
 cases i with
 | zero=>simp at ha hb;subst ha;subst hb;exact hx
 | succ i=>exact hl.2 i a b (by simpa using ha) (by simpa using hb)
theorem wd {n i j:Nat} {rows:List (List AV)} (hn:h n = .fz rows) (hr:n ∈ rh) (hi:i < rows.length):yC L rh h (.op n i j) (.fp rows i j):=fun F ρ ρ' w v ho _ hm=>by
 have h1:=ho n hr
 rw [hn] at h1
 obtain ⟨b,k,cap,hρ,rfl⟩:=hm.op_inv
 rcases h1 with ⟨h2,_⟩|⟨b',k',cap',c,e,fr,h2,h3,h4,h5,h6⟩
 ·rw [hρ] at h2;cases h2
 ·rw [hρ] at h2
  simp only [Option.some.injEq,Prod.mk.injEq] at h2
  obtain ⟨rfl,rfl,rfl⟩:=h2
  have:=M.fp (F:=F) ρ' b 0 c e fr k rows i j h3 hi (by omega) h6.1 (fun i j row x v a1 a2 a3=>h6.2 i j row x v a1 a2 (by rw [Nat.zero_add] at a3;exact a3))
  rw [Nat.zero_add] at this
  exact this
theorem qaA {n off len:Nat} {rows:List (List AV)} (hn:h n = .fz rows) (hr:n ∈ rh) (hl:off + len ≤ rows.length):yC L rh h (.os n off len) (.sl false ((rows.drop off).take len)):=fun F ρ ρ' w v ho _ hm=>by
 have h1:=ho n hr
 rw [hn] at h1
 have hlen:((rows.drop off).take len).length = len:=by simp;omega
 rcases hm.os_inv with ⟨h2,rfl,rfl,ad,rfl⟩|⟨b,k,cap,a,hρ,rfl,hcap,ha⟩
 ·exact .sl0 _ ad 0 false (fun e=>by cases e) (fun _=>rfl)
 ·rcases h1 with ⟨h2,_⟩|⟨b',k',cap',c,e,fr,h2,h3,h4,h5,h6⟩
  ·rw [hρ] at h2;cases h2
  ·rw [hρ] at h2
   simp only [Option.some.injEq,Prod.mk.injEq] at h2
   obtain ⟨rfl,rfl,rfl⟩:=h2
   by_cases h0:len = 0
   ·subst h0
    rw [List.take_zero]
    exact .sl0 _ (some a) _ false (fun e=>by cases e) (fun e=>by cases e)
   ·have ha':=ha (by omega)
    subst ha'
    have hmul:off * k + len * k ≤ rows.length * k:=by rw [← Nat.add_mul];exact Nat.mul_le_mul_right _ hl
    have:=M.sl (F:=F) ρ' b (off * k) (cap - off) c e fr false k ((rows.drop off).take len) h3 (by rw [hlen];omega) (fun e=>by cases e) (by rw [hlen];omega) (fun row hrow=>h6.1 row (List.mem_of_mem_drop (List.mem_of_mem_take hrow)))
     (fun i j row x v a1 a2 a3=>by
      have hi:i < len:=by have:=(List.getElem?_eq_some_iff.1 a1).1;omega
      rw [getElem?_drop_take _ _ _ _ hi] at a1
      exact h6.2 (off + i) j row x v a1 a2 (by rw [Nat.add_mul];exact a3))
    rw [hlen] at this
    exact this
theorem je {fn:Fn} {xs ys xs' ys' : List AV} (h1:jA L rh h xs xs') (h2:jA L rh h ys ys'):yC L rh h (.clo fn xs ys) (.clo fn xs' ys'):=fun F ρ ρ' w v ho hp hm=>by
 cases hm with
 | clo _ fn vs us xs ys hl hm' a1 a2 =>
   refine .clo _ fn vs us xs' ys' (by rw [hl,h1.1]) (by rw [hm',h2.1]) (fun i u y hu hy=>?_) (fun i u y hu hy=>?_)
   ·have hi:i < xs.length:=by rw [h1.1];exact (List.getElem?_eq_some_iff.1 hy).1
    have hx:=List.getElem?_eq_getElem hi
    exact h1.2 i _ y hx hy F ρ ρ' w u ho hp (a1 i u _ hu hx)
   ·have hi:i < ys.length:=by rw [h2.1];exact (List.getElem?_eq_some_iff.1 hy).1
    have hx:=List.getElem?_eq_getElem hi
    exact h2.2 i _ y hx hy F ρ ρ' w u ho hp (a2 i u _ hu hx)
theorem jd {xs ys:List AV} (hl:jA L rh h xs ys):yC L rh h (.agg xs) (.agg ys):=fun F ρ ρ' w v ho hp hm=>by
 obtain ⟨vs,rfl,h1,h2⟩:=hm.agg_inv
 refine .agg _ vs ys (by rw [h1,hl.1]) fun i u y hu hy=>?_
 have hi:i < xs.length:=by rw [hl.1];exact (List.getElem?_eq_some_iff.1 hy).1
 have hx:xs[i]? = some xs[i]:=List.getElem?_eq_getElem hi
 exact hl.2 i _ y hx hy F ρ ρ' w u ho hp (h2 i u _ hu hx)
end
def ke:Nat → List Nat → List (Nat × Nat)
 | _,[] => []
 | i,n :: l=>(n,i) :: ke (i + 1) l
def Yo (l:List (Nat × Nat)):List (Nat × Nat):=l.map fun x=>(x.2,x.1)
theorem w6 : ∀ (l:List Nat) (i n j:Nat),(n,j) ∈ ke i l ↔ i ≤ j ∧ l[j - i]? = some n
 | [],i,n,j=>by simp [ke]
 | m :: l,i,n,j=>by
   simp only [ke,List.mem_cons,Prod.mk.injEq,w6 l (i + 1) n j]
   constructor
   ·rintro (⟨rfl,rfl⟩|⟨h1,h2⟩)
    ·exact ⟨Nat.le_refl _,by simp⟩
    ·exact ⟨by omega,by rw [show j - i = j - (i + 1) + 1 from by omega];simpa using h2⟩
   ·rintro ⟨h1,h2⟩
    by_cases hij:i = j
    ·subst hij;simp at h2;exact .inl ⟨h2.symm,rfl⟩
    ·exact .inr ⟨by omega,by rw [show j - i = j - (i + 1) + 1 from by omega] at h2;simpa using h2⟩
theorem RowsAt.ren {F:Still} {ρ ρ' : Places} {L:List (Nat × Nat)} {c:Array Value} {k:Nat} {rows rows' : List (List AV)} (hsub : ∀ n n',Maps L 0 n n' → ∀ c,ρ n = some c → ρ' n' = some c) (hR:RowsAt F ρ c k rows) (hr:kt L 0 rows rows'):RowsAt F ρ' c k rows':=by
 have hget : ∀ (i:Nat) row',rows'[i]? = some row' → ∃ row,rows[i]? = some row ∧ jC L 0 row row':=fun i row' hi=>by
  have hil:i < rows.length:=by rw [hr.1];exact (List.getElem?_eq_some_iff.1 hi).1
  exact ⟨_,List.getElem?_eq_getElem hil,hr.2 i _ _ (List.getElem?_eq_getElem hil) hi⟩
 refine ⟨fun row' hrow'=>?_,fun i j row' y v hi hj hv=>?_⟩
 ·obtain ⟨i,hi⟩:=List.mem_iff_getElem?.1 hrow'
  obtain ⟨row,h1,h2⟩:=hget i row' hi
  rw [← h2.1];exact hR.1 row (List.mem_of_getElem? h1)
 ·obtain ⟨row,h1,h2⟩:=hget i row' hi
  have hj' : j < row.length:=by rw [h2.1];exact (List.getElem?_eq_some_iff.1 hj).1
  have hx:row[j]? = some row[j]:=List.getElem?_eq_getElem hj'
  exact h2.2 j _ y hx hj F ρ ρ' v hsub (hR.2 i j row _ v h1 hx hv)
theorem OwnAt.ren {F:Still} {ρ ρ' : Places} {L:List (Nat × Nat)} {w:World} {n n' : Nat} {x y:HB} (hsub : ∀ n n',Maps L 0 n n' → ∀ c,ρ n = some c → ρ' n' = some c) (hm:Maps L 0 n n') (ho:OwnAt F ρ w n x) (hr:vq L 0 x y):OwnAt F ρ' w n' y:=by
 cases y with
 | dead=>trivial
 | own ex k rows =>
   cases x with
   | own ex' k' rows' =>
     obtain ⟨hex,rfl,hr⟩:=hr
     rcases ho with ⟨h4,h5⟩|⟨b,cap,c,e,h4,h5,h6,h7,h8,h9⟩
     ·refine .inl ⟨hsub n n' hm _ h4,?_⟩
      subst h5
      exact List.eq_nil_of_length_eq_zero (by rw [← hr.1];rfl)
     ·exact .inr ⟨b,cap,c,e,hsub n n' hm _ h4,h5,h6,by rw [← hr.1];exact h7,fun h=>by rw [← hr.1];exact h8 (hex h),h9.ren hsub hr⟩
   | dead=>exact hr.elim
   | fz _=>exact hr.elim
   | mp _=>exact hr.elim
 | mp l =>
   cases x with
   | mp l0 =>
     obtain ⟨b,es,clock,h4,h5,h6⟩:=ho
     exact ⟨b,es,clock,hsub n n' hm _ h4,h5,h6.ren hsub hr⟩
   | dead=>exact hr.elim
   | fz _=>exact hr.elim
   | own _ _ _=>exact hr.elim
 | fz rows =>
   cases x with
   | fz rows' =>
     have h2:rows' = rows:=hr
     subst h2
     rcases ho with ⟨h4,h5⟩|⟨b,k,cap,c,e,fr,h4,h5⟩
     ·exact .inl ⟨hsub n n' hm _ h4,h5⟩
     ·exact .inr ⟨b,k,cap,c,e,fr,hsub n n' hm _ h4,h5⟩
   | dead=>exact hr.elim
   | own _ _ _=>exact hr.elim
   | mp _=>exact hr.elim
theorem Xt : ∀ {l:List Nat},l.Nodup → ∀ (i j n:Nat),l[i]? = some n → l[j]? = some n → i = j
 | [],_,i,j,n,h,_=>by simp at h
 | a :: l,hn,i,j,n,h,k=>by
   rw [List.nodup_cons] at hn
   cases i with
   | zero =>
     cases j with
     | zero=>rfl
     | succ j=>simp at h k;subst h;exact absurd (List.mem_of_getElem? k) hn.1
   | succ i =>
     cases j with
     | zero=>simp at h k;subst k;exact absurd (List.mem_of_getElem? h) hn.1
     | succ j=>simp at h k;exact congrArg (· + 1) (Xt hn.2 i j n h k)
section calls
variable {C:Cx} {N d:Nat} {t:Nat → AV} {h:Nat → HB}
theorem qdB {o:Oper} {f:FuncId} {xs ys:List AV} {H:List HB} (rt rh L fr:List Nat) (hd:o.dst = some d) (hN:d < N) (he:jp C.P o t rt f xs)
  (hfr:L.drop H.length = fr) (hHZ:H.length ≤ L.length) (hnd:L.Nodup) (hrh : ∀ n,n ∈ L.take H.length → n ∈ rh)
  (hargs:jA (ke 0 (L.take H.length)) rh h xs ys)
  (hH : ∀ (i:Nat) n hb,(L.take H.length)[i]? = some n → H[i]? = some hb → (h n).isOwn = true ∧ vq (ke 0 (L.take H.length)) 0 (h n) hb)
  (B:Base) (A:Nat → Prop) (t' : Nat → AV) (h' : Nat → HB) (a:Act) (w:World) (hBN:B.N = N) (g:Ga B A t' h' a w) (hrt : ∀ j,j ∈ rt → t' j = t j) (hrhh : ∀ n,n ∈ rh → h' n = h n) (hfrA : ∀ n,n ∈ fr → ¬ A n) :
  ∃ (vs:List Value) (B' : Base),(execOp a.eval o).run C.P w = .ok (.enter f vs.toArray) w ∧ vs.length = ys.length ∧ B'.N = vs.length ∧ Ga B' (· < H.length) (fun i=>ys.getD i .junk) (fun n=>H.getD n .dead) ⟨vs.toArray,[]⟩ w ∧
    ∀ (v:Value) (w' : World) (r r' : AV) (H' : List HB) (Z:List (Nat × HB)),Z.map (·.1) = L → (∀ (i:Nat) n hb,Z[i]? = some (n,hb) → vq (Yo (ke 0 L)) 0 (H'.getD i .dead) hb) → j3 (Yo (ke 0 L)) 0 r r' →
      Ga { B' with N:=1 } (fun _=>True) (one r) (fun n=>H'.getD n .dead) ⟨#[v],[]⟩ w' → Ga B (fun n=>A n ∨ n ∈ fr) (Eff.t ⟨rt,rh,some d,r',Z,fr⟩ t') (Eff.h ⟨rt,rh,some d,r',Z,fr⟩ h') (a.put o.dst v) w':=by
 obtain ⟨g1,g2,F,ρ,hp,g4⟩:=g
 obtain ⟨vs,hrun,hl,hm⟩:=he F ρ a w (fun j hj=>(hrt j hj) ▸ g4 j)
 have hh' : ∀ n,n ∈ rh → h' n = h n:=fun n hn=>hrhh n hn
 have hidx : ∀ (i:Nat),i < H.length → ∃ n:Nat,(L.take H.length)[i]? = some n ∧ L[i]? = some n:=fun i hi=>by
  have:L[i]? = some (L[i]'(by omega)):=List.getElem?_eq_getElem (by omega)
  exact ⟨_,by rw [List.getElem?_take,if_pos hi];exact this,this⟩
 have hinj : ∀ (i j n:Nat),L[i]? = some n → L[j]? = some n → i = j:=Xt hnd
 let ρc:Places:=fun i=>match (L.take H.length)[i]? with|some n=>ρ n|none=>none
 have hρc : ∀ (i n:Nat),(L.take H.length)[i]? = some n → ρc i = ρ n:=fun i n hi=>by simp only [ρc];rw [hi]
 have hsubc : ∀ n n',Maps (ke 0 (L.take H.length)) 0 n n' → ∀ c,ρ n = some c → ρc n' = some c:=by
  intro n n' hm c hcn
  rcases hm with ⟨h1,_⟩|h1
  ·omega
  ·have:=((w6 _ _ _ _).1 h1).2
   rw [Nat.sub_zero] at this
   rw [hρc n' n this];exact hcn
 have htk : ∀ (i n:Nat),(L.take H.length)[i]? = some n → i < H.length ∧ L[i]? = some n:=fun i n hi=>by
  have h1:=(List.getElem?_eq_some_iff.1 hi).1
  simp at h1
  exact ⟨by omega,by rw [List.getElem?_take,if_pos (by omega)] at hi;exact hi⟩
 have hown0 : ∀ (i n:Nat),(L.take H.length)[i]? = some n → (h' n).isOwn = true:=fun i n hi=>by
  obtain ⟨h1,_⟩:=htk i n hi
  rw [hh' n (hrh n (List.mem_of_getElem? hi))]
  exact (hH i n _ hi (List.getElem?_eq_getElem h1)).1
 let O0:Nat → Prop:=fun b => ∃ (i n:Nat) (c:Nat × Nat),(L.take H.length)[i]? = some n ∧ ρ n = some (some (b,c))
 let B' : Base := { w0:=w,F0:=F,ρ0:=ρc,O0:=O0,N:=vs.length,tab:=fun b p h=>(B.tab b p h).imp fun cs h=>h.imp fun e h=>h.imp fun fr h=>⟨h.1,hp.grow b _ h.2⟩ }
 have hO : ∀ b,O0 b → F b = none ∧ B.new b ∧ b < w.heap.size:=by
  rintro b ⟨i,n,c,h1,h2⟩
  have h3:=hp.new n b c (hown0 i n h1) h2
  refine ⟨h3.1,h3.2,?_⟩
  have h4:=hp.own n
  have h5:=hown0 i n h1
  cases e:h' n with
  | own ex k rows =>
    rw [e] at h4
    obtain ⟨_,cc,_,h6,_⟩:=y8 (k':=c.1) (cap':=c.2) h4 h2
    exact (Array.getElem?_eq_some_iff.1 h6).1
  | dead=>rw [e] at h5;cases h5
  | fz _=>rw [e] at h5;cases h5
  | mp _=>exact hp.blk h5 h2
 have hGa:Ga B' (· < H.length) (fun i=>ys.getD i .junk) (fun n=>H.getD n .dead) ⟨vs.toArray,[]⟩ w:=by
  refine ⟨rfl,by simp [B'],F,ρc,?_,fun i=>?_⟩
  ·refine { kept:=⟨rfl,rfl,rfl,Nat.le_refl _,fun _ _ _=>rfl⟩,agree:=hp.agree,grow:=Still.le_refl _,fresh:=fun b hb => .inl hb,names:=Places.le_refl _,dom:=fun n hn=>?_,own:=fun i=>?_,new:=fun i b c ho hn=>?_,sep:=fun i j b c c' hne ho ho' hn hn'=>?_ }
   ·simp only [ρc] at hn
    split at hn
    ·rename_i n hi;exact (htk _ _ hi).1
    ·exact absurd rfl hn
   ·by_cases hi:i < H.length
    ·obtain ⟨n,h1,h2⟩:=hidx i hi
     have hHi:H[i]? = some H[i]:=List.getElem?_eq_getElem hi
     rw [List.getD_eq_getElem?_getD,hHi,Option.getD_some]
     have h3:=hp.own n
     rw [hh' n (hrh n (List.mem_of_getElem? h1))] at h3
     exact h3.ren hsubc (.inr ((w6 _ _ _ _).2 ⟨Nat.zero_le _,by rw [Nat.sub_zero];exact h1⟩)) (hH i n _ h1 hHi).2
    ·rw [List.getD_eq_getElem?_getD,List.getElem?_eq_none (by omega)];trivial
   ·simp only [ρc] at hn
    split at hn
    ·rename_i n hi
     have:=hp.new n b c (hown0 i n hi) hn
     exact ⟨this.1,.inr ⟨i,n,c,hi,hn⟩⟩
    ·cases hn
   ·simp only [ρc] at hn hn'
    split at hn
    ·rename_i n hi
     split at hn'
     ·rename_i m hj
      refine hp.sep n m b c c' (fun e=>hne ?_) (hown0 i n hi) (hown0 j m hj) hn hn'
      exact hinj i j n (htk _ _ hi).2 (e ▸ (htk _ _ hj).2)
     ·cases hn'
    ·cases hn
  ·show M F ρc _ (ys.getD i .junk)
   cases hy:ys[i]? with
   | none=>rw [List.getD_eq_getElem?_getD,hy];exact .junk _ _
   | some y =>
     rw [List.getD_eq_getElem?_getD,hy]
     have hi:i < xs.length:=by rw [hargs.1];exact (List.getElem?_eq_some_iff.1 hy).1
     have hx:xs[i]? = some xs[i]:=List.getElem?_eq_getElem hi
     have hv:vs[i]? = some (vs[i]'(by omega)):=List.getElem?_eq_getElem (by omega)
     simp only [Array.getD_eq_getD_getElem?,List.getElem?_toArray,hv,Option.getD_some]
     exact hargs.2 i _ y hx hy F ρ ρc w _ (fun n hn=>(hh' n hn) ▸ hp.own n) hsubc (hm i _ _ hv hx)
 refine ⟨vs,B',hrun,by rw [hl,hargs.1],rfl,hGa,?_⟩
 intro v w' r r' H' Z hLdef hZ hr ⟨_,_,F',ρ',hp',hm'⟩
 have hLlen:L.length = Z.length:=by rw [← hLdef];simp
 have hFF:F.le F':=hp'.grow
 have hkept : ∀ b,b < w.heap.size → ¬ O0 b → w'.heap[b]? = w.heap[b]?:=hp'.kept.block
 have hnewB : ∀ b,B'.new b → B.new b:=fun b hb=>by
  rcases hb with hb|hb
  ·exact .inl (Nat.le_trans hp.kept.size hb)
  ·exact (hO b hb).2.1
 classical
 let ρn:Places:=fun n=>if hex : ∃ i:Nat,L[i]? = some n then ρ' (Classical.choose hex) else ρ n
 have hρn : ∀ (i n:Nat),L[i]? = some n → ρn n = ρ' i:=fun i n hi=>by
  have hex : ∃ i:Nat,L[i]? = some n:=⟨i,hi⟩
  simp only [ρn]
  rw [dif_pos hex,hinj _ i n (Classical.choose_spec hex) hi]
 have hρo : ∀ (n:Nat),(∀ (i:Nat),L[i]? ≠ some n) → ρn n = ρ n:=fun n hn=>by
  simp only [ρn]
  rw [dif_neg (fun ⟨i,hi⟩=>hn i hi)]
 have hρle:ρ.le ρn:=by
  intro n c hnc
  by_cases hex : ∃ i:Nat,L[i]? = some n
  ·obtain ⟨i,hi⟩:=hex
   rw [hρn i n hi]
   by_cases hiH:i < H.length
   ·obtain ⟨m,h1,h2⟩:=hidx i hiH
    rw [hi] at h2;injection h2 with h2;subst h2
    exact hp'.names i c (by show ρc i = some c;rw [hρc i n h1];exact hnc)
   ·exfalso
    have:n ∈ fr:=by
     rw [← hfr]
     refine List.mem_iff_getElem?.2 ⟨i - H.length,?_⟩
     rw [List.getElem?_drop,show H.length + (i - H.length) = i from by omega];exact hi
    exact hfrA n this (hp.dom n (by rw [hnc];simp))
  ·rw [hρo n (fun i hi=>hex ⟨i,hi⟩)];exact hnc
 have hsubn : ∀ n n',Maps (Yo (ke 0 L)) 0 n n' → ∀ c,ρ' n = some c → ρn n' = some c:=by
  intro n n' hm c hcn
  rcases hm with ⟨h1,_⟩|h1
  ·omega
  ·obtain ⟨⟨a1,a2⟩,h2,h3⟩:=List.mem_map.1 h1
   simp only [Prod.mk.injEq] at h3
   obtain ⟨rfl,rfl⟩:=h3
   have:=((w6 _ _ _ _).1 h2).2
   rw [Nat.sub_zero] at this
   rw [hρn _ _ this];exact hcn
 have hWH : ∀ n,(Eff.h ⟨rt,rh,some d,r',Z,fr⟩ h') n = match y6 Z n with|some x=>x|none=>h' n:=fun n=>by
  unfold Eff.h Eff.wH
  cases y6 Z n<;>rfl
 have hfind : ∀ (n:Nat),(∃ (i:Nat) (hb:HB),L[i]? = some n ∧ Z[i]? = some (n,hb) ∧ y6 Z n = some hb) ∨ ((∀ (i:Nat),L[i]? ≠ some n) ∧ y6 Z n = none):=by
  intro n
  have key : ∀ (Z:List (Nat × HB)),(∃ (i:Nat) (hb:HB),(Z.map (·.1))[i]? = some n ∧ Z[i]? = some (n,hb) ∧ y6 Z n = some hb) ∨ ((∀ (i:Nat),(Z.map (·.1))[i]? ≠ some n) ∧ y6 Z n = none):=by
   intro Z
   induction Z with
   | nil=>exact .inr ⟨fun i h=>by simp at h,rfl⟩
   | cons z Z ih =>
     obtain ⟨m,x⟩:=z
     by_cases hmn:m = n
     ·subst hmn;exact .inl ⟨0,x,rfl,rfl,by simp [y6]⟩
     ·rcases ih with ⟨i,hb,h1,h2,h3⟩|⟨h1,h2⟩
      ·exact .inl ⟨i + 1,hb,by simpa using h1,by simpa using h2,by simp [y6,hmn,h3]⟩
      ·refine .inr ⟨fun i hi=>?_,by simp [y6,hmn,h2]⟩
       cases i with
       | zero=>simp at hi;exact hmn hi
       | succ i=>exact h1 i (by simpa using hi)
  rw [← hLdef];exact key Z
 have hHi : ∀ (i:Nat) n hb,L[i]? = some n → Z[i]? = some (n,hb) → OwnAt F' ρn w' n hb:=by
  intro i n hb h1 h2
  refine (hp'.own i).ren hsubn (.inr ?_) (hZ i n hb h2)
  exact List.mem_map.2 ⟨(n,i),(w6 _ _ _ _).2 ⟨Nat.zero_le _,by rw [Nat.sub_zero];exact h1⟩,rfl⟩
 have hisOwn : ∀ (i:Nat) n hb,Z[i]? = some (n,hb) → hb.isOwn = true → (H'.getD i .dead).isOwn = true:=by
  intro i n hb h2 ho
  have:=hZ i n hb h2
  cases e1:H'.getD i .dead with
  | own _ _ _=>rfl
  | mp _=>rfl
  | dead=>rw [e1] at this;cases hb<;>first|exact this.elim|cases ho
  | fz _=>rw [e1] at this;cases hb<;>first|exact this.elim|cases ho
 have hother : ∀ (n b:Nat) (c:Nat × Nat),(∀ (i:Nat),L[i]? ≠ some n) → (h' n).isOwn = true → ρ n = some (some (b,c)) → b < w.heap.size ∧ ¬ O0 b:=by
  intro n b c hn ho hρ
  refine ⟨?_,fun ⟨i,m,c',h1,h2⟩=>?_⟩
  ·have h4:=hp.own n
   cases e:h' n with
   | own ex k rows =>
     rw [e] at h4
     obtain ⟨_,cc,_,h6,_⟩:=y8 (k':=c.1) (cap':=c.2) h4 hρ
     exact (Array.getElem?_eq_some_iff.1 h6).1
   | dead=>rw [e] at ho;cases ho
   | fz _=>rw [e] at ho;cases ho
   | mp _=>exact hp.blk ho hρ
  ·refine hp.sep n m b c c' (fun e=>hn i (e ▸ (htk i m h1).2)) ho (hown0 i m h1) hρ h2
 refine ⟨by simpa [Act.put,hd] using g1,by rw [zo];exact g2,F',ρn,?_,fun i=>?_⟩
 ·refine { kept:=⟨hp'.kept.os.trans hp.kept.os,hp'.kept.tape.trans hp.kept.tape,hp'.kept.output.trans hp.kept.output,Nat.le_trans hp.kept.size hp'.kept.size,fun b hb ho=>?_⟩,agree:=hp'.agree,grow:=fun b o hb=>hFF b o (hp.grow b o hb),fresh:=fun b hb=>?_,names:=fun n c hn=>hρle n c (hp.names n c hn),dom:=fun n hn=>?_,own:=fun n=>?_,new:=fun n b c ho hn=>?_,sep:=fun n m b c c' hne ho ho' hn hn'=>?_ }
  ·rw [hkept b (Nat.lt_of_lt_of_le hb hp.kept.size) (fun hO0=>by
    rcases (hO b hO0).2.1 with h1|h1
    ·omega
    ·exact ho h1)]
   exact hp.kept.block b hb ho
  ·rcases hp'.fresh b hb with h1|h1
   ·exact hp.fresh b h1
   ·exact .inr (hnewB b h1)
  ·by_cases hex : ∃ i:Nat,L[i]? = some n
   ·obtain ⟨i,hi⟩:=hex
    by_cases hiH:i < H.length
    ·obtain ⟨m,h1,h2⟩:=hidx i hiH
     rw [hi] at h2;injection h2 with h2;subst h2
     left
     have h3:=hown0 i n h1
     refine hp.dom n (fun hnone=>?_)
     have h4:=hp.own n
     cases e:h' n with
     | own ex k rows =>
       rw [e] at h4
       rcases h4 with ⟨h5,_⟩|⟨_,_,_,_,h5,_⟩<;>(rw [hnone] at h5;cases h5)
     | dead=>rw [e] at h3;cases h3
     | fz _=>rw [e] at h3;cases h3
     | mp _ =>
       rw [e] at h4
       obtain ⟨_,_,_,h5,_⟩:=h4
       rw [hnone] at h5;cases h5
    ·right
     rw [← hfr]
     refine List.mem_iff_getElem?.2 ⟨i - H.length,?_⟩
     rw [List.getElem?_drop,show H.length + (i - H.length) = i from by omega];exact hi
   ·rw [hρo n (fun i hi=>hex ⟨i,hi⟩)] at hn
    exact .inl (hp.dom n hn)
  ·rw [hWH]
   rcases hfind n with ⟨i,hb,h1,h2,h3⟩|⟨h1,h2⟩
   ·rw [h3];exact hHi i n hb h1 h2
   ·rw [h2]
    have h4:=hp.own n
    show OwnAt F' ρn w' n (h' n)
    cases e:h' n with
    | dead=>trivial
    | fz rows =>
      rw [e] at h4
      rcases h4 with ⟨h5,h6⟩|⟨b,k,cap,c,e',fr',h5,h6,h7,h8,h9⟩
      ·exact .inl ⟨hρle n _ h5,h6⟩
      ·exact .inr ⟨b,k,cap,c,e',fr',hρle n _ h5,hFF _ _ h6,h7,h8,h9.mono hFF (Places.le_refl _)⟩
    | mp l =>
      rw [e] at h4
      obtain ⟨b,es,clock,h5,h6,h7⟩:=h4
      obtain ⟨o1,o2⟩:=hother n b _ h1 (by rw [e];rfl) h5
      exact ⟨b,es,clock,hρle n _ h5,by rw [hkept b o1 o2];exact h6,h7.mono hFF hρle⟩
    | own ex k rows =>
      rw [e] at h4
      rcases h4 with ⟨h5,h6⟩|⟨b,cap,c,e',h5,h6,h7,h8,h9,h10⟩
      ·exact .inl ⟨hρle n _ h5,h6⟩
      ·obtain ⟨o1,o2⟩:=hother n b _ h1 (by rw [e];rfl) h5
       exact .inr ⟨b,cap,c,e',hρle n _ h5,by rw [hkept b o1 o2];exact h6,h7,h8,h9,h10.mono hFF hρle⟩
  ·rw [hWH] at ho
   rcases hfind n with ⟨i,hb,h1,h2,h3⟩|⟨h1,h2⟩
   ·rw [h3] at ho
    rw [hρn i n h1] at hn
    have:=hp'.new i b c (hisOwn i n hb h2 ho) hn
    exact ⟨this.1,hnewB b this.2⟩
   ·rw [h2] at ho
    rw [hρo n h1] at hn
    obtain ⟨o1,o2⟩:=hother n b c h1 ho hn
    have h3:=hp.new n b c ho hn
    refine ⟨?_,h3.2⟩
    cases hF:F' b with
    | none=>rfl
    | some ob =>
      rcases hp'.fresh b (by rw [hF];simp) with h4|h4|h4
      ·exact absurd h3.1 h4
      ·have h4:w.heap.size ≤ b:=h4;omega
      ·exact absurd h4 o2
  ·rw [hWH] at ho ho'
   rcases hfind n with ⟨i,hb,h1,h2,h3⟩|⟨h1,h2⟩<;>rcases hfind m with ⟨j,hb',k1,k2,k3⟩|⟨k1,k2⟩
   ·rw [h3] at ho;rw [k3] at ho'
    rw [hρn i n h1] at hn;rw [hρn j m k1] at hn'
    refine hp'.sep i j b c c' (fun e=>hne ?_) (hisOwn i n hb h2 ho) (hisOwn j m hb' k2 ho') hn hn'
    subst e;rw [h1] at k1;injection k1
   ·rw [h3] at ho;rw [k2] at ho'
    rw [hρn i n h1] at hn;rw [hρo m k1] at hn'
    obtain ⟨o1,o2⟩:=hother m b c' k1 ho' hn'
    rcases (hp'.new i b c (hisOwn i n hb h2 ho) hn).2 with h4|h4
    ·have h4:w.heap.size ≤ b:=h4;omega
    ·exact o2 h4
   ·rw [h2] at ho;rw [k3] at ho'
    rw [hρo n h1] at hn;rw [hρn j m k1] at hn'
    obtain ⟨o1,o2⟩:=hother n b c h1 ho hn
    rcases (hp'.new j b c' (hisOwn j m hb' k2 ho') hn').2 with h4|h4
    ·have h4:w.heap.size ≤ b:=h4;omega
    ·exact o2 h4
   ·rw [h2] at ho;rw [k2] at ho'
    rw [hρo n h1] at hn;rw [hρo m k1] at hn'
    exact hp.sep n m b c c' hne ho ho' hn hn'
 ·rw [hd,kg _ _ _ _ (by omega)]
  unfold Eff.t Eff.wT
  by_cases hi:d = i
  ·subst hi
   have h0:=hm' 0
   simp only [one,if_true] at h0
   have:M F' ρn v r':=hr F' ρ' ρn v hsubn (by simpa using h0)
   simpa using this
  ·simpa [hi] using (g4 i).mono hFF hρle
theorem ky {o:Oper} {f:FuncId} {xs ys:List AV} {H H' : List HB} {r r' : AV} (rt rh:List Nat) (Z:List (Nat × HB)) (fr:List Nat) (hd:o.dst = some d) (hN:d < N) (he:jp C.P o t rt f xs)
  (hfr:(Z.map (·.1)).drop H.length = fr) (hHZ:H.length ≤ Z.length) (hnd:(Z.map (·.1)).Nodup) (hrh : ∀ n,n ∈ (Z.map (·.1)).take H.length → n ∈ rh)
  (hargs:jA (ke 0 ((Z.map (·.1)).take H.length)) rh h xs ys) (hc:qZ C.P f ys H r H')
  (hH : ∀ (i:Nat) n hb,((Z.map (·.1)).take H.length)[i]? = some n → H[i]? = some hb → (h n).isOwn = true ∧ vq (ke 0 ((Z.map (·.1)).take H.length)) 0 (h n) hb)
  (hZ : ∀ (i:Nat) n hb,Z[i]? = some (n,hb) → vq (Yo (ke 0 (Z.map (·.1)))) 0 (H'.getD i .dead) hb) (hr:j3 (Yo (ke 0 (Z.map (·.1)))) 0 r r') :
  ja C.P N o t h ⟨rt,rh,some d,r',Z,fr⟩:=by
 intro B A t' h' a w Q K hBN g hrt hrhh hfrA hK
 obtain ⟨vs,B',hrun,e1,e2,hGa,hend⟩:=qdB (C:=C) (N:=N) (h:=h) rt rh (Z.map (·.1)) fr hd hN he hfr (by rw [List.length_map];exact hHZ) hnd hrh hargs hH B A t' h' a w hBN g hrt hrhh hfrA
 refine Yd hrun (hc B' vs w e1 e2 hGa) ?_
 intro e w' ⟨v,hev,hg⟩
 exact ⟨v,hev,hK _ _ (hend v w' r r' H' Z rfl hZ hr hg)⟩
end calls
end Go.Ab
namespace Go.Ab
open Go.RowKit
theorem qai {h:Nat → HB} {x y:AV} (hr:Rz h x y):Rz h (yh [x]) y:=hr
theorem jY {C:Cx} {nh:Nat} {σ:St} {i:Nat} {k:IntKind} {a b:Int} (hx:qS σ.ts i = .v (.int k a)) (he:a = b):Go.Ab.Fin C #[.tmp i] nh (.v (.int k b)) [] σ :=
 YA (rs:=[.tmp i]) (jt hx js) (he ▸ qai (q4 rfl))
theorem j6 {C:Cx} {nh:Nat} {σ:St} {i:Nat} {a b:Bool} (hx:qS σ.ts i = .v (.bool a)) (he:a = b):Go.Ab.Fin C #[.tmp i] nh (.v (.bool b)) [] σ :=
 YA (rs:=[.tmp i]) (jt hx js) (he ▸ qai (q4 rfl))
theorem jB {α:Type} {f:α → List AV} {l:List α} {i:Nat} (h:i < l.length):(l.map f)[i]? = some (f l[i]):=by simp [h]
theorem jW {P:Program} {f:FuncId} {fn:Func} (hf:P.funcs[f]? = some fn) (hb:fn.body.isNone = false) (hn:(fn.name == "runtime.NumGoroutine") = false):IsFn P f:=⟨⟨fn,hf,hb,hn⟩⟩
theorem j9 {C:Cx} {N d:Nat} {ty:TypeId} {pos:String} {af:Array Edge} {gd:Option (Nat × Bool)} {t:Nat → AV} {h:Nat → HB} {f:FuncId} {args:List Operand} {tys:Array TypeId} {ys:List AV} {r:AV} (rh:List Nat)
  (hf:IsFn C.P f) (hc:qZ C.P f ys [] r []) (hz:vn (zl rh h) (args.map (evA t)) ys) (hfl:Km r = true) (hN:d < N) :
  ja C.P N ⟨some d,.call ⟨.value (.func f),args.toArray,tys⟩,ty,pos,af,gd⟩ t h ⟨yr (.func f) ++ args.flatMap yr,rh,some d,r,[],[]⟩ :=
 Yt _ rh rfl hN (vO f hf (.func f) args tys [] [] rfl) (by rw [List.nil_append,List.append_nil];exact hz) hc hfl
theorem Kb {P:Program} {f:FuncId} {xs:List Value} {r:Value} (hr:QO r = true) (h : ∀ w,Calls P f xs.toArray w fun e w'=>e = .returned r ∧ w = w'):xH P f (xs.map .v) (.v r):=by
 intro B vs w hl hN ⟨g1,g2,F,ρ,hp,g4⟩
 have hvs:vs = xs:=by
  refine List.ext_getElem? fun i=>?_
  by_cases hi:i < vs.length
  ·have hx:i < xs.length:=by have:=hl;simp at this;omega
   have:=g4 i
   simp only [Array.getD_eq_getD_getElem?,List.getElem?_toArray,List.getElem?_eq_getElem hi,Option.getD_some,List.getD_eq_getElem?_getD,List.getElem?_map,List.getElem?_eq_getElem hx,Option.map_some] at this
   rw [List.getElem?_eq_getElem hi,List.getElem?_eq_getElem hx,this.v_inv.1]
  ·rw [List.getElem?_eq_none (by omega),List.getElem?_eq_none (by simp at hl;omega)]
 subst hvs
 refine (h w).mono fun e w' ⟨he,hw⟩=>⟨r,he,g1,rfl,F,ρ,?_,fun i=>?_⟩
 ·subst hw
  exact { kept:=⟨hp.kept.os,hp.kept.tape,hp.kept.output,hp.kept.size,hp.kept.block⟩,agree:=hp.agree,grow:=hp.grow,fresh:=hp.fresh,names:=hp.names,dom:=fun _ _=>trivial,own:=fun n=>by simp [OwnAt],new:=fun n b c hn=>by simp [HB.isOwn] at hn,sep:=fun n m b c c' _ hn=>by simp [HB.isOwn] at hn }
 ·by_cases hi:i = 0
  ·subst hi;exact .v _ _ hr
  ·unfold one;rw [if_neg hi];exact .junk _ _
end Go.Ab
