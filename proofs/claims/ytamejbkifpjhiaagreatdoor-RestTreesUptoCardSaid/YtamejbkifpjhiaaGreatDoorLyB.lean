import Derived.Test.YtamejbkifpjhiaaGreatDoorLz7
import Derived.ProofKit
import Derived.OpenShut
import Derived.ChangeSame
import Derived.ChangeOld
import Derived.SizedLaws
import Derived.Carry
set_option linter.unusedSimpArgs false
set_option linter.unusedVariables false
namespace Go.Ab
open Go.RowKit Go.ChangeShapes
def X1 (tab:List (Nat × TRec)):Nat → List (Nat × Nat) → Option Nat
 | p,[]=>some p
 | p,(off,t) :: fs=>match qW tab t with
   | some r=>if off = p then X1 tab (p + r.size) fs else none
   | none=>none
def qde (T:Nat → List AV → Prop):List (Nat × Nat) → List AV → Prop
 | [],xs=>xs = []
 | (_,t) :: fs,xs => ∃ a b,xs = a ++ b ∧ T t a ∧ qde T fs b
def AllM (F:Still) (ρ:Places) (vs:List Value) (xs:List AV):Prop:=vs.length = xs.length ∧ ∀ (i:Nat) v x,vs[i]? = some v → xs[i]? = some x → M F ρ v x
theorem AllM.nil {F:Still} {ρ:Places}:AllM F ρ [] []:=⟨rfl,fun i v x h=>by cases i<;>cases h⟩
theorem AllM.cons {F:Still} {ρ:Places} {v:Value} {x:AV} {vs:List Value} {xs:List AV} (h:M F ρ v x) (hl:AllM F ρ vs xs):AllM F ρ (v :: vs) (x :: xs):=by
 refine ⟨by simp [hl.1],fun i u y hu hy=>?_⟩
 cases i with
 | zero=>simp at hu hy;subst hu;subst hy;exact h
 | succ i=>exact hl.2 i u y (by simpa using hu) (by simpa using hy)
theorem AllM.app {F:Still} {ρ:Places} : ∀ {vs:List Value} {xs:List AV} {us:List Value} {ys:List AV},AllM F ρ vs xs → AllM F ρ us ys → AllM F ρ (vs ++ us) (xs ++ ys)
 | [],[],_,_,_,h=>h
 | v :: vs,x :: xs,us,ys,h,k=>by
   refine AllM.cons (h.2 0 v x rfl rfl) (AllM.app ⟨by simpa using h.1,fun i u y hu hy=>h.2 (i + 1) u y (by simpa using hu) (by simpa using hy)⟩ k)
 | [],_ :: _,_,_,h,_=>by have:=h.1;simp at this
 | _ :: _,[],_,_,h,_=>by have:=h.1;simp at this
theorem Zx (F:Still) (ρ:Places) : ∀ (vs:List Value),AllM F ρ vs (vs.map fun _ => .junk)
 | []=>AllM.nil
 | v :: vs=>AllM.cons (.junk _ v) (Zx F ρ vs)
def QU (w:World):Still:=fun b=>w.heap[b]?
theorem Qj {P:Program} {t:Nat} {r:TRec} (h:QQ P t = some r):P.cellsOf t = r.size:=by
 obtain ⟨d,i,z,_,hi,_,_,_,hs,_⟩:=yG h
 simp [Program.cellsOf,hi,hs]
theorem Ke {P:Program} {t:Nat} {r:TRec} (h:QQ P t = some r):P.bytesOf t = r.bytes:=by
 obtain ⟨d,i,z,_,hi,_,_,_,_,hs,_⟩:=yG h
 simp [Program.bytesOf,hi,hs]
theorem qaH {w:World} {b o:Nat} {u:Value} {s:Option Nat} (h:w.cell? ⟨b,o,none⟩ = some u) : ∃ c e fr,w.heap[b]? = some (.cells c e fr) ∧ c[o]? = some u:=by
 unfold World.cell? at h
 split at h
 ·rename_i c e fr hb
  exact ⟨c,e,fr,hb,by simpa using h⟩
 ·cases h
theorem Jr {H:Type} {P:Program} {e:TypeId} {d:DataW H} {m:Nat} : ∀ {l:List (DataW H)},d ∈ l → m ∈ d.weights P e → m ∈ DataW.weightsAll P e l
 | x :: l,h,hm=>by
   simp only [DataW.weightsAll,List.mem_append]
   rcases List.mem_cons.1 h with rfl|h
   ·exact .inl hm
   ·exact .inr (Jr h hm)
section
variable {H:Type} {enc:TypeId × Value → H} {w:World} {sp:Nat → Bool} {held:Bool}
end
end Go.Ab
set_option linter.unusedSimpArgs false
set_option linter.unusedVariables false
namespace Go.Ab
open Go.RowKit Go.ChangeShapes
section
variable {H:Type} {enc:TypeId × Value → H} {w:World} {sp:Nat → Bool} {held:Bool}
theorem Zi {P:Program} {w' : World} (hl:laidOutB P = true) (hb:Below w.heap.size w w') : ∀ (ts:List TypeId) (vs:List Value) (ds:List (DataW H)) (ps:List MemPlace),ts.all (fun t=>P.readableRec t && decide (t < P.types.size)) = true →
  DataW.TrodAll enc P w 0 (fun _=>true) true ts vs ds ps → DataW.TrodAll enc P w' 0 (fun b=>decide (b < w.heap.size)) true ts vs ds ps
 | [],vs,ds,ps,_,h=>by
   obtain ⟨rfl,rfl,rfl⟩:=trodAll_nil h
   exact trodAll_mk0
 | t :: ts,vs,ds,ps,hr,h=>by
   obtain ⟨v,vs',d,ds',p,q,rfl,rfl,rfl,h0,hrest⟩:=trodAll_cons h
   simp only [List.all_cons,Bool.and_eq_true,decide_eq_true_eq] at hr
   have h1:=Below.trod hl hr.1.1 hr.1.2 h0 hb (fun x hx=>by obtain ⟨m,hm⟩:=h0;exact DataW.trod_lt m _ _ _ hm x hx)
   exact trodAll_cons_mk h1 (Zi hl hb ts vs' ds' q hr.2 hrest)
end
end Go.Ab
set_option linter.unusedSimpArgs false
set_option linter.unusedVariables false
namespace Go.Ab
open Go.RowKit
def jF:List (Nat × Nat) → Nat → Option Nat
 | [],_=>none
 | (a,b) :: l,n=>if a = n then some b else jF l n
theorem w5 : ∀ {l:List (Nat × Nat)} {n m:Nat},jF l n = some m → (n,m) ∈ l
 | (a,b) :: l,n,m,h=>by
   unfold jF at h
   split at h
   ·rename_i e;subst e;injection h with h;subst h;exact List.mem_cons_self ..
   ·exact List.mem_cons_of_mem _ (w5 h)
def AV.ren (L:List (Nat × Nat)):AV → AV
 | .os n off len=>match jF L n with|some m => .os m off len|none => .junk
 | .op n i j=>match jF L n with|some m => .op m i j|none => .junk
 | .mp n=>match jF L n with|some m => .mp m|none => .junk
 | .agg cs => .agg (renL L cs)
 | .tup cs => .tup (renL L cs)
 | .clo fn xs ys => .clo fn (renL L xs) (renL L ys)
 | .v x => .v x
 | .sl ex rows => .sl ex rows
 | .fp rows i j => .fp rows i j
 | .anyb => .anyb
 | .errv => .errv
 | .junk => .junk
where
 renL (L:List (Nat × Nat)):List AV → List AV
  | [] => []
  | x :: l=>x.ren L :: renL L l
theorem Jk (L:List (Nat × Nat)) : ∀ (l:List AV) (i:Nat),(AV.ren.renL L l)[i]? = (l[i]?).map (AV.ren L)
 | [],i=>by simp [AV.ren.renL]
 | x :: l,i=>by
   cases i with
   | zero=>simp [AV.ren.renL]
   | succ i=>simpa [AV.ren.renL] using Jk L l i
theorem Jl (L:List (Nat × Nat)) : ∀ (l:List AV),(AV.ren.renL L l).length = l.length
 | []=>rfl
 | x :: l=>by simp [AV.ren.renL,Jl L l]
theorem V6 (L0:List (Nat × Nat)) (nh:Nat) (L:List (Nat × Nat)) (hL : ∀ n m,(n,m) ∈ L → Maps L0 nh n m) (x:AV):j3 L0 nh x (x.ren L):=by
 intro F ρ ρ' v hsub hm
 induction hm generalizing ρ' with
 | v ρ x h=>exact .v _ x h
 | agg ρ vs xs hl _ ih =>
   refine .agg _ vs _ (by rw [hl,Jl]) fun i u y hu hy=>?_
   rw [Jk] at hy
   cases hx:xs[i]? with
   | none=>rw [hx] at hy;cases hy
   | some z=>rw [hx] at hy;simp only [Option.map_some,Option.some.injEq] at hy;subst hy;exact ih i u z hu hx ρ' hsub
 | tup ρ vs xs hl _ ih =>
   refine .tup _ vs _ (by rw [hl,Jl]) fun i u y hu hy=>?_
   rw [Jk] at hy
   cases hx:xs[i]? with
   | none=>rw [hx] at hy;cases hy
   | some z=>rw [hx] at hy;simp only [Option.map_some,Option.some.injEq] at hy;subst hy;exact ih i u z hu hx ρ' hsub
 | sl0 ρ a cap ex he hn=>exact .sl0 _ a cap ex he hn
 | sl ρ b off cap c e fr ex k rows hb hc he hs hk h _=>exact .sl _ b off cap c e fr ex k rows hb hc he hs hk h
 | fp ρ b off c e fr k rows i j hb hi hs hk h _=>exact .fp _ b off c e fr k rows i j hb hi hs hk h
 | os ρ n b k cap off len a hn hl ha =>
   simp only [AV.ren]
   split
   ·rename_i m hm;exact .os _ m b k cap off len a (hsub n m (hL _ _ (w5 hm)) _ hn) hl ha
   ·exact .junk _ _
 | osn ρ n a hn =>
   simp only [AV.ren]
   split
   ·rename_i m hm;exact .osn _ m a (hsub n m (hL _ _ (w5 hm)) _ hn)
   ·exact .junk _ _
 | op ρ n b k cap i j hn =>
   simp only [AV.ren]
   split
   ·rename_i m hm;exact .op _ m b k cap i j (hsub n m (hL _ _ (w5 hm)) _ hn)
   ·exact .junk _ _
 | clo ρ fn vs us xs ys hl hm _ _ ih ih' =>
   refine .clo _ fn vs us _ _ (by rw [hl,Jl]) (by rw [hm,Jl]) (fun i u y hu hy=>?_) (fun i u y hu hy=>?_)
   ·rw [Jk] at hy
    cases hx:xs[i]? with
    | none=>rw [hx] at hy;cases hy
    | some z=>rw [hx] at hy;simp only [Option.map_some,Option.some.injEq] at hy;subst hy;exact ih i u z hu hx ρ' hsub
   ·rw [Jk] at hy
    cases hx:ys[i]? with
    | none=>rw [hx] at hy;cases hy
    | some z=>rw [hx] at hy;simp only [Option.map_some,Option.some.injEq] at hy;subst hy;exact ih' i u z hu hx ρ' hsub
 | mp ρ n b hn =>
   simp only [AV.ren]
   split
   ·rename_i m hm;exact .mp _ m b (hL _ _ (w5 hm) |> fun h=>hsub n m h _ hn)
   ·exact .junk _ _
 | anyb ρ b=>exact .anyb _ b
 | errv ρ t u=>exact .errv _ t u
 | junk ρ v=>exact .junk _ v
theorem YU (L:List (Nat × Nat)) (nh:Nat) (x:AV):j3 L nh x (x.ren L):=V6 L nh L (fun _ _ h => .inr h) x
section calls
variable {C:Cx} {N d:Nat} {ty:TypeId} {pos:String} {af:Array Edge} {gd:Option (Nat × Bool)} {t:Nat → AV} {h:Nat → HB}
theorem Wo {f:FuncId} {args:List Operand} {tys:Array TypeId} {ys:List AV} {r:AV} (rh:List Nat)
  (hf:IsFn C.P f) (hc:qZ C.P f ys [] r []) (hz:jA [] rh h (args.map (evA t)) ys) (hr:r.pure = true) (hN:d < N) :
  ja C.P N ⟨some d,.call ⟨.value (.func f),args.toArray,tys⟩,ty,pos,af,gd⟩ t h ⟨yr (.func f) ++ args.flatMap yr,rh,some d,r,[],[]⟩ :=
 ky (H:=[]) (H':=[]) (xs:=[] ++ args.map (evA t) ++ []) (ys:=ys) _ rh [] [] rfl hN (vO f hf (.func f) args tys [] [] rfl) rfl (Nat.le_refl _) List.nodup_nil (fun n hn=>by simp at hn)
  (by rw [List.nil_append,List.append_nil];exact hz) hc (fun i n hb hi=>by simp at hi) (fun i n hb hi=>by simp at hi) (qk hr)
theorem Q0 {f:FuncId} {x:Operand} {first cap:List AV} {args:List Operand} {tys:Array TypeId} {ys:List AV} {r:AV} (rh:List Nat) (hx:evA t x = .clo (.func f) first cap)
  (hf:IsFn C.P f) (hc:qZ C.P f ys [] r []) (hz:vn (zl rh h) (first ++ args.map (evA t) ++ cap) ys) (hfl:Km r = true) (hN:d < N) :
  ja C.P N ⟨some d,.call ⟨.value x,args.toArray,tys⟩,ty,pos,af,gd⟩ t h ⟨yr x ++ args.flatMap yr,rh,some d,r,[],[]⟩ :=
 Yt _ rh rfl hN (vO f hf x args tys first cap hx) hz hc hfl
theorem qdU {f:FuncId} {args:List Operand} {tys:Array TypeId} {ys:List AV} {r r' : AV} {hb:HB} (rh:List Nat) (m:Nat)
  (hf:IsFn C.P f) (hc:qZ C.P f ys [] r [hb]) (hz:jA [] rh h (args.map (evA t)) ys) (hr:r.ren [(0,m)] = r') (hbp:vq [(0,m)] 0 hb hb) (hN:d < N) :
  ja C.P N ⟨some d,.call ⟨.value (.func f),args.toArray,tys⟩,ty,pos,af,gd⟩ t h ⟨yr (.func f) ++ args.flatMap yr,rh,some d,r',[(m,hb)],[m]⟩ :=
 ky (H:=[]) (H':=[hb]) (xs:=[] ++ args.map (evA t) ++ []) (ys:=ys) _ rh [(m,hb)] [m] rfl hN (vO f hf (.func f) args tys [] [] rfl) rfl (Nat.zero_le _) (by simp) (fun n hn=>by simp at hn)
  (by rw [List.nil_append,List.append_nil];exact hz) hc (fun i n hb hi=>by simp at hi) (fun i n hb' hi=>by
   cases i with
   | zero=>simp at hi;obtain ⟨rfl,rfl⟩:=hi;exact hbp
   | succ i=>simp at hi) (hr ▸ YU _ _ _)
theorem qdT {f:FuncId} {args:List Operand} {tys:Array TypeId} {ys:List AV} {r r' : AV} {hb hb' : HB} (rh:List Nat) (n:Nat) (hn:h n = hb) (ho:hb.isOwn = true) (hnr:n ∈ rh)
  (hf:IsFn C.P f) (hc:qZ C.P f ys [hb] r [hb']) (hz:jA [(n,0)] rh h (args.map (evA t)) ys) (hr:r.ren [(0,n)] = r') (hbp:vq [(n,0)] 0 hb hb) (hbp' : vq [(0,n)] 0 hb' hb') (hN:d < N) :
  ja C.P N ⟨some d,.call ⟨.value (.func f),args.toArray,tys⟩,ty,pos,af,gd⟩ t h ⟨yr (.func f) ++ args.flatMap yr,rh,some d,r',[(n,hb')],[]⟩ :=
 ky (H:=[hb]) (H':=[hb']) (xs:=[] ++ args.map (evA t) ++ []) (ys:=ys) _ rh [(n,hb')] [] rfl hN (vO f hf (.func f) args tys [] [] rfl) rfl (Nat.le_refl _) (by simp) (fun m hm=>by simp at hm;subst hm;exact hnr)
  (by rw [List.nil_append,List.append_nil];exact hz) hc (fun i m hb1 hi hj=>by
   cases i with
   | zero=>simp at hi hj;subst hi;subst hj;rw [hn];exact ⟨ho,hbp⟩
   | succ i=>simp at hi) (fun i m hb1 hi=>by
   cases i with
   | zero=>simp at hi;obtain ⟨rfl,rfl⟩:=hi;exact hbp'
   | succ i=>simp at hi) (hr ▸ YU _ _ _)
theorem jc {L:List (Nat × Nat)} {nh:Nat} {ex:Bool} {k:Nat} {rows:List (List AV)} (hr : ∀ row,row ∈ rows → AV.pure.pureL row = true):vq L nh (.own ex k rows) (.own ex k rows):=⟨id,rfl,QL hr⟩
theorem qv {L:List (Nat × Nat)} {nh:Nat} {ex:Bool} {k:Nat} {α:Type} {f:α → List AV} {l:List α} (hf : ∀ a,AV.pure.pureL (f a) = true):vq L nh (.own ex k (l.map f)) (.own ex k (l.map f)):=⟨id,rfl,W8 hf⟩
theorem Yj {n n' off len:Nat} {L:List (Nat × Nat)} {rh:List Nat} (hn:(n,n') ∈ L):yC L rh h (.os n off len) (.os n' off len):=qm (qz (.inr hn))
end calls
section ops
variable {C:Cx} {N:Nat} {all:Array Oper} {es:List Eff} {K:List Eff → St → Prop} {os:List Oper} {o:Oper}
theorem Jd {ts:List (Nat × AV)} {hs:List (Nat × HB)} {nx:Nat} {gd rt rh:List Nat} {d:Nat} {x:AV} {hb:HB} {m:Nat} (hE:ja C.P N o (qS ts) (jg hs) ⟨rt,rh,some d,x,[(m,hb)],[]⟩)
  (h:yH C N all (⟨gd ++ rt,rh,some d,x,[(m,hb)],[]⟩ :: es) ⟨(d,x) :: ts,(m,hb) :: hs,nx⟩ os K):jH C N all gd es ⟨ts,hs,nx⟩ o os K:=by
 refine wq (τ:=⟨(d,x) :: ts,(m,hb) :: hs,nx⟩) hE ?_ ?_ rfl (by simp) (Nat.le_refl _) h
 ·funext i;simp only [Eff.t,Eff.wT,Option.some.injEq,qS];split<;>rfl
 ·funext n
  simp only [Eff.h,Eff.wH,y6,jg]
  split<;>rfl
end ops
theorem qaz {P:Program} {f:FuncId} {args:List AV} {r r' : AV} {H' : List HB} (h:qZ P f args [] r H') (hz:Rz (fun n=>H'.getD n .dead) r r'):xH P f args r':=by
 intro B vs w hl hN g
 refine (h B vs w hl hN g).mono fun e w' ⟨v,he,g1,g2,F,ρ,hp,ht⟩=>⟨v,he,g1,rfl,Jh F ρ (fun n=>H'.getD n .dead) w',ρ,?_,fun i=>?_⟩
 ·refine { kept:=hp.kept,agree := ?_,grow:=fun b o hb=>QF F ρ _ w' b o (hp.grow b o hb),fresh := ?_,names:=hp.names,dom:=fun _ _=>trivial,own:=fun n=>?_,new := ?_,sep := ?_ }
  ·intro b o hb
   unfold Jh at hb
   cases hF:F b with
   | some o'=>rw [hF] at hb;simp only at hb;rw [← hb];exact hp.agree b o' hF
   | none =>
     rw [hF] at hb
     simp only at hb
     split at hb
     ·exact hb
     ·cases hb
  ·intro b hb
   unfold Jh at hb
   cases hF:F b with
   | some o'=>exact hp.fresh b (by rw [hF];simp)
   | none =>
     rw [hF] at hb
     simp only at hb
     split at hb
     ·rename_i hex
      obtain ⟨n,c,hn,hρ⟩:=hex
      exact .inr (hp.new n b c hn hρ).2
     ·exact absurd rfl hb
  ·have:(List.getD ([]:List HB) n .dead) = .dead:=by simp
   rw [this];trivial
  ·intro n b c hn
   simp [HB.isOwn] at hn
  ·intro n m b c c' _ hn
   simp [HB.isOwn] at hn
 ·by_cases hi:i = 0
  ·subst hi
   have h0:=ht 0
   simp only [one,if_true] at h0 ⊢
   exact ((hz F ρ w' _ hp.own (fun n b c h1 h2=>(hp.new n b c h1 h2).1) h0).mono (Still.le_refl _) (wL ρ))
  ·unfold one;rw [if_neg hi];exact .junk _ _
theorem qN {L:List (Nat × Nat)} {nh n:Nat} (h:Nat.ble (n + 1) nh = true):Maps L nh n n := .inl ⟨Nat.le_of_ble_eq_true h,rfl⟩
theorem qb3 {L:List (Nat × Nat)} {nh:Nat} {σ:St} {i n n' a b:Nat} {l:List (Nat × AV)} (hx:qS σ.ts i = .op n a b) (hm:Maps L nh n n') (hl:vA L nh σ l):vA L nh σ ((i,.op n' a b) :: l):=Qe hx (qD hm) hl
theorem Y3 {L:List (Nat × Nat)} {nh:Nat} {σ:St} {i n n' off len len' : Nat} {l:List (Nat × AV)} (hx:qS σ.ts i = .os n off len) (hm:Maps L nh n n') (he:len = len') (hl:vA L nh σ l):vA L nh σ ((i,.os n' off len') :: l):=Qe hx (he ▸ qz hm) hl
theorem YE {L:List (Nat × Nat)} {nh:Nat} {σ:St} {n n' : Nat} {ex ex' : Bool} {k:Nat} {rows rows' : List (List AV)} {l:List (Nat × HB)} (hx:jg σ.hs n = .own ex k rows) (hm:Maps L nh n n') (he:ex' = true → ex = true) (hr:rows = rows') (hp : ∀ row,row ∈ rows' → AV.pure.pureL row = true) (hl:vp L nh σ l) :
  vp L nh σ ((n',.own ex' k rows') :: l):=by subst hr;exact w3 hm hx he (QL hp) hl
theorem qK {α:Type} {f:α → List AV} {l:List α} (hf : ∀ a,AV.pure.pureL (f a) = true) : ∀ row,row ∈ l.map f → AV.pure.pureL row = true:=fun row hr=>by obtain ⟨a,_,rfl⟩:=List.mem_map.1 hr;exact hf a
theorem jZ {rows:List (List AV)} (h:rows.all AV.pure.pureL = true) : ∀ row,row ∈ rows → AV.pure.pureL row = true:=fun row hr=>List.all_eq_true.1 h row hr
theorem jU {h:Nat → HB} {n len:Nat} {ex:Bool} {k:Nat} {rows:List (List AV)} (hn:h n = .own ex k rows) (hl:len = rows.length) (hp : ∀ row,row ∈ rows → AV.pure.pureL row = true):Rz h (.os n 0 len) (.sl false rows):=by
 subst hl
 refine qf1 hn (by simp) ?_
 rw [List.drop_zero,List.take_length]
 exact vR hp
section
variable {t:Nat → AV} {h:Nat → HB}
theorem v6 {x:Operand} {k:Nat} {ex:Bool} {rows:List (List AV)} (hx:evA t x = .sl ex rows) (hr:rows.all (fun row=>row.length == k && row.all yo) = true):SrcA t h x k rows []:=by
 have h1 : ∀ row,row ∈ rows → row.length = k ∧ row.all yo = true:=fun row hrow=>by
  have:=List.all_eq_true.1 hr row hrow
  simpa using this
 exact ⟨fun row hrow=>(h1 row hrow).1,fun row hrow=>(h1 row hrow).2,.inl ⟨ex,hx⟩⟩
theorem Jo {x:Operand} {k:Nat} {ex:Bool} {α:Type} {f:α → List AV} {l:List α} (hx:evA t x = .sl ex (l.map f)) (hf : ∀ a,((f a).length == k && (f a).all yo) = true):SrcA t h x k (l.map f) [] :=
 v6 hx (List.all_eq_true.2 fun row hr=>by obtain ⟨a,_,rfl⟩:=List.mem_map.1 hr;exact hf a)
theorem QP {x:Operand} {k n off len:Nat} {ex:Bool} {rs rows:List (List AV)} (hx:evA t x = .os n off len) (hn:h n = .own ex k rs) (hl:off + len ≤ rs.length) (he:(rs.drop off).take len = rows) (hr:rs.all (fun row=>row.length == k && row.all yo) = true):SrcA t h x k rows [n]:=by
 have h1 : ∀ row,row ∈ rows → row.length = k ∧ row.all yo = true:=fun row hrow=>by
  rw [← he] at hrow
  have:=List.all_eq_true.1 hr row (List.mem_of_mem_drop (List.mem_of_mem_take hrow))
  simpa using this
 exact ⟨fun row hrow=>(h1 row hrow).1,fun row hrow=>(h1 row hrow).2,.inr ⟨n,off,len,ex,rs,hx,List.mem_cons_self ..,hn,hl,he.symm⟩⟩
theorem xw {α:Type} {f:α → List AV} {l:List α} {k:Nat} (hf : ∀ a,((f a).length == k && (f a).all yo) = true):(l.map f).all (fun row=>row.length == k && row.all yo) = true :=
 List.all_eq_true.2 fun row hr=>by obtain ⟨a,_,rfl⟩:=List.mem_map.1 hr;exact hf a
end
theorem yZ {α β:Type} {f:α → β} {l:List α}:(l.map f).take l.length = l.map f:=List.take_of_length_le (by simp)
theorem Ys {C:Cx} {N d:Nat} {ty:TypeId} {pos:String} {af:Array Edge} {gd:Option (Nat × Bool)} {t:Nat → AV} {h:Nat → HB} (T e:Nat) (r re:TRec) (hT:qW C.tab T = some r) (hk:r.kind = .slice e) (hE:qW C.tab e = some re) (hN:d < N) :
  ja C.P N ⟨some d,.buildSlice T 0 #[],ty,pos,af,gd⟩ t h ⟨[],[],some d,.sl true [],[],[]⟩ :=
 kp T e 0 [] r re [] hT hk hE rfl rfl rfl rfl (by omega) hN
theorem y3 {h:Nat → HB} {k:IntKind} {a b:Int} (he:a = b):Rz h (.v (.int k a)) (.v (.int k b)):=he ▸ q4 rfl
theorem yz {h:Nat → HB} {a b:Bool} (he:a = b):Rz h (.v (.bool a)) (.v (.bool b)):=he ▸ q4 rfl
theorem y4 {h:Nat → HB} {a b:List UInt8} (he:a = b):Rz h (.v (str a)) (.v (str b)):=he ▸ q4 rfl
theorem x8 {h:Nat → HB} {ex:Bool} {a b:List (List AV)} (he:a = b):Rz h (.sl ex a) (.sl false b):=by
 subst he
 cases ex
 ·exact q4 rfl
 ·exact yE
theorem YX {h:Nat → HB} {n len:Nat} {ex:Bool} {k:Nat} {rows rows' : List (List AV)} (hn:h n = .own ex k rows) (hl:len = rows.length) (he:rows = rows') (hp : ∀ row,row ∈ rows' → AV.pure.pureL row = true):Rz h (.os n 0 len) (.sl false rows'):=by
 subst he;exact jU hn hl hp
theorem YZ {h:Nat → HB} {xs:List AV} (hp:AV.pure.pureL xs = true):vn h xs xs:=(vR (rows:=[xs]) (fun row hr=>by simp at hr;subst hr;exact hp)).2 0 xs xs rfl rfl
theorem xy {C:Cx} {rs:Array ResultVar} {r:AV} {H' : List HB} {σ τ:St} (hr:Red C σ τ) (h:Fin C rs C.nh r H' τ):Fin C rs C.nh r H' σ:=fun fn B a w h1 h2 h3 g=>h fn B a w h1 h2 h3 (hr B a w h2 g)
theorem jM {C:Cx} {rs:List ResultVar} {σ:St} {xs:List AV} {r:AV} {H' : List HB} {ids:List (Nat × Nat)} (L:List (Nat × Nat)) (nx:Nat) (hr:ResOk C σ rs xs) (hL:wP C.nh nx L = true) (hh:vp L C.nh σ (zQ 0 H')) (hi:(List.range C.nh).map (fun n=>(n,n)) = ids) (hz:(yh xs).ren (ids ++ L) = r):Fin C rs.toArray C.nh r H' σ:=by
 subst hi
 exact qfc L nx hr hL hh (hz ▸ V6 L C.nh _ (fun n m h=>by
  rcases List.mem_append.1 h with h|h
  ·obtain ⟨q,hq,he⟩:=List.mem_map.1 h
   injection he with e1 e2
   subst e1;subst e2
   exact .inl ⟨List.mem_range.1 hq,rfl⟩
  ·exact .inr h) (yh xs))
theorem Yv {C:Cx} {N d:Nat} {ty:TypeId} {pos:String} {af:Array Edge} {gd:Option (Nat × Bool)} {t:Nat → AV} {h:Nat → HB} (T:TypeId) (x y:Operand) (kd:IntKind) (i n len:Nat) (ex:Bool) (rows:List (List AV)) (e:Nat) (r re:TRec) (hx:evA t x = .os n 0 len) (hy:evA t y = .v (.int kd (i:Int))) (hT:qW C.tab T = some r) (he:r.kind = .slice e)
  (hE:qW C.tab e = some re) (hn:h n = .own ex re.size rows) (hi:i < len) (hN:d < N) :
  ja C.P N ⟨some d,.indexAddr T x y,ty,pos,af,gd⟩ t h ⟨yr x ++ yr y,[n],some d,.op n i 0,[],[]⟩:=by
 have:=Y9 (C:=C) (N:=N) (ty:=ty) (pos:=pos) (af:=af) (gd:=gd) T x y kd i n 0 len ex rows e r re hx hy hT he hE hn hi hN
 rwa [Nat.zero_add] at this
theorem qdG {fn:Fn} {cap:List AV} (hcap:AV.pure.pureL cap = true):(AV.clo fn [] cap).pure = true:=by simp [AV.pure,AV.pure.pureL,hcap]
theorem wM {h:Nat → HB} {fn:Fn} {cap:List AV} (hcap:AV.pure.pureL cap = true):Rz h (.clo fn [] cap) (.clo fn [] cap):=q4 (qdG hcap)
theorem jj {α:Type} {l:List α} {i:Nat} {x y:α} (h:l[i]? = some y):(l.set i x)[i]? = some x:=List.getElem?_set_self (List.getElem?_eq_some_iff.1 h).1
theorem nle {a b:Nat} (h:Nat.ble a b = true):a ≤ b:=Nat.le_of_ble_eq_true h
end Go.Ab
