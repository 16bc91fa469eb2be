import Derived.Test.YtnhpclmbhbblbaaGreatDoorLz7
import Derived.ProofKit
import Derived.OpenShut
import Derived.ChangeSame
import Derived.ChangeOld
import Derived.SizedLaws
import Derived.Carry
set_option linter.unusedSimpArgs false
set_option linter.unusedVariables false
namespace Go.Ab
open Go.RowKit Go.ChangeShapes
def Ys (tab:List (Nat × TRec)):Nat → List (Nat × Nat) → Option Nat
 | p,[]=>some p
 | p,(off,t) :: fs=>match qG tab t with
   | some r=>if off = p then Ys tab (p + r.size) fs else none
   | none=>none
def qag (T:Nat → List AV → Prop):List (Nat × Nat) → List AV → Prop
 | [],xs=>xs = []
 | (_,t) :: fs,xs => ∃ a b,xs = a ++ b ∧ T t a ∧ qag T fs b
def AllM (F:Still) (ρ:Places) (vs:List Value) (xs:List AV):Prop:=vs.length = xs.length ∧ ∀ (i:Nat) v x,vs[i]? = some v → xs[i]? = some x → M F ρ v x
theorem AllM.nil {F:Still} {ρ:Places}:AllM F ρ [] []:=⟨rfl,fun i v x h=>by cases i<;>cases h⟩
theorem AllM.cons {F:Still} {ρ:Places} {v:Value} {x:AV} {vs:List Value} {xs:List AV} (h:M F ρ v x) (hl:AllM F ρ vs xs):AllM F ρ (v :: vs) (x :: xs):=by
 refine ⟨by simp [hl.1],fun i u y hu hy=>?_⟩
 cases i with
 | zero=>simp at hu hy;subst hu;subst hy;exact h
 | succ i=>exact hl.2 i u y (by simpa using hu) (by simpa using hy)
theorem AllM.app {F:Still} {ρ:Places} : ∀ {vs:List Value} {xs:List AV} {us:List Value} {ys:List AV},AllM F ρ vs xs → AllM F ρ us ys → AllM F ρ (vs ++ us) (xs ++ ys)
 | [],[],_,_,_,h=>h
 | v :: vs,x :: xs,us,ys,h,k=>by
   refine AllM.cons (h.2 0 v x rfl rfl) (AllM.app ⟨by simpa using h.1,fun i u y hu hy=>h.2 (i + 1) u y (by simpa using hu) (by simpa using hy)⟩ k)
 | [],_ :: _,_,_,h,_=>by have:=h.1;simp at this
 | _ :: _,[],_,_,h,_=>by have:=h.1;simp at this
theorem YK (F:Still) (ρ:Places) : ∀ (vs:List Value),AllM F ρ vs (vs.map fun _ => .junk)
 | []=>AllM.nil
 | v :: vs=>AllM.cons (.junk _ v) (YK F ρ vs)
def kt (w:World):Still:=fun b=>w.heap[b]?
theorem zW {P:Program} {t:Nat} {r:TRec} (h:kw P t = some r):P.cellsOf t = r.size:=by
 obtain ⟨d,i,z,_,hi,_,_,_,hs,_⟩:=jK h
 simp [Program.cellsOf,hi,hs]
theorem Xj {P:Program} {t:Nat} {r:TRec} (h:kw P t = some r):P.bytesOf t = r.bytes:=by
 obtain ⟨d,i,z,_,hi,_,_,_,_,hs,_⟩:=jK h
 simp [Program.bytesOf,hi,hs]
theorem Zi {w:World} {b o:Nat} {u:Value} {s:Option Nat} (h:w.cell? ⟨b,o,none⟩ = some u) : ∃ c e fr,w.heap[b]? = some (.cells c e fr) ∧ c[o]? = some u:=by
 unfold World.cell? at h
 split at h
 ·rename_i c e fr hb
  exact ⟨c,e,fr,hb,by simpa using h⟩
 ·cases h
theorem k9 {H:Type} {P:Program} {e:TypeId} {d:DataW H} {m:Nat} : ∀ {l:List (DataW H)},d ∈ l → m ∈ d.weights P e → m ∈ DataW.weightsAll P e l
 | x :: l,h,hm=>by
   simp only [DataW.weightsAll,List.mem_append]
   rcases List.mem_cons.1 h with rfl|h
   ·exact .inl hm
   ·exact .inr (k9 h hm)
section
variable {H:Type} {enc:TypeId × Value → H} {w:World} {sp:Nat → Bool} {held:Bool}
end
end Go.Ab
set_option linter.unusedSimpArgs false
set_option linter.unusedVariables false
namespace Go.Ab
open Go.RowKit Go.ChangeShapes
section
variable {H:Type} {enc:TypeId × Value → H} {w:World} {sp:Nat → Bool} {held:Bool}
theorem Yt {P:Program} {w' : World} (hl:laidOutB P = true) (hb:Below w.heap.size w w') : ∀ (ts:List TypeId) (vs:List Value) (ds:List (DataW H)) (ps:List MemPlace),ts.all (fun t=>P.readableRec t && decide (t < P.types.size)) = true →
  DataW.TrodAll enc P w 0 (fun _=>true) true ts vs ds ps → DataW.TrodAll enc P w' 0 (fun b=>decide (b < w.heap.size)) true ts vs ds ps
 | [],vs,ds,ps,_,h=>by
   obtain ⟨rfl,rfl,rfl⟩:=trodAll_nil h
   exact trodAll_mk0
 | t :: ts,vs,ds,ps,hr,h=>by
   obtain ⟨v,vs',d,ds',p,q,rfl,rfl,rfl,h0,hrest⟩:=trodAll_cons h
   simp only [List.all_cons,Bool.and_eq_true,decide_eq_true_eq] at hr
   have h1:=Below.trod hl hr.1.1 hr.1.2 h0 hb (fun x hx=>by obtain ⟨m,hm⟩:=h0;exact DataW.trod_lt m _ _ _ hm x hx)
   exact trodAll_cons_mk h1 (Yt hl hb ts vs' ds' q hr.2 hrest)
end
end Go.Ab
set_option linter.unusedSimpArgs false
set_option linter.unusedVariables false
namespace Go.Ab
open Go.RowKit
def q4:List (Nat × Nat) → Nat → Option Nat
 | [],_=>none
 | (a,b) :: l,n=>if a = n then some b else q4 l n
theorem zL : ∀ {l:List (Nat × Nat)} {n m:Nat},q4 l n = some m → (n,m) ∈ l
 | (a,b) :: l,n,m,h=>by
   unfold q4 at h
   split at h
   ·rename_i e;subst e;injection h with h;subst h;exact List.mem_cons_self ..
   ·exact List.mem_cons_of_mem _ (zL h)
def AV.ren (L:List (Nat × Nat)):AV → AV
 | .os n off len=>match q4 L n with|some m => .os m off len|none => .junk
 | .op n i j=>match q4 L n with|some m => .op m i j|none => .junk
 | .mp n=>match q4 L n with|some m => .mp m|none => .junk
 | .agg cs => .agg (renL L cs)
 | .tup cs => .tup (renL L cs)
 | .clo fn xs ys => .clo fn (renL L xs) (renL L ys)
 | .v x => .v x
 | .sl ex rows => .sl ex rows
 | .fp rows i j => .fp rows i j
 | .anyb => .anyb
 | .errv => .errv
 | .junk => .junk
where
 renL (L:List (Nat × Nat)):List AV → List AV
  | [] => []
  | x :: l=>x.ren L :: renL L l
theorem kS (L:List (Nat × Nat)) : ∀ (l:List AV) (i:Nat),(AV.ren.renL L l)[i]? = (l[i]?).map (AV.ren L)
 | [],i=>by simp [AV.ren.renL]
 | x :: l,i=>by
   cases i with
   | zero=>simp [AV.ren.renL]
   | succ i=>simpa [AV.ren.renL] using kS L l i
theorem kU (L:List (Nat × Nat)) : ∀ (l:List AV),(AV.ren.renL L l).length = l.length
 | []=>rfl
 | x :: l=>by simp [AV.ren.renL,kU L l]
theorem VQ (L0:List (Nat × Nat)) (nh:Nat) (L:List (Nat × Nat)) (hL : ∀ n m,(n,m) ∈ L → Maps L0 nh n m) (x:AV):jQ L0 nh x (x.ren L):=by
 intro F ρ ρ' v hsub hm
 induction hm generalizing ρ' with
 | v ρ x h=>exact .v _ x h
 | agg ρ vs xs hl _ ih =>
   refine .agg _ vs _ (by rw [hl,kU]) fun i u y hu hy=>?_
   rw [kS] at hy
   cases hx:xs[i]? with
   | none=>rw [hx] at hy;cases hy
   | some z=>rw [hx] at hy;simp only [Option.map_some,Option.some.injEq] at hy;subst hy;exact ih i u z hu hx ρ' hsub
 | tup ρ vs xs hl _ ih =>
   refine .tup _ vs _ (by rw [hl,kU]) fun i u y hu hy=>?_
   rw [kS] at hy
   cases hx:xs[i]? with
   | none=>rw [hx] at hy;cases hy
   | some z=>rw [hx] at hy;simp only [Option.map_some,Option.some.injEq] at hy;subst hy;exact ih i u z hu hx ρ' hsub
 | sl0 ρ a cap ex he hn=>exact .sl0 _ a cap ex he hn
 | sl ρ b off cap c e fr ex k rows hb hc he hs hk h _=>exact .sl _ b off cap c e fr ex k rows hb hc he hs hk h
 | fp ρ b off c e fr k rows i j hb hi hs hk h _=>exact .fp _ b off c e fr k rows i j hb hi hs hk h
 | os ρ n b k cap off len a hn hl ha =>
   simp only [AV.ren]
   split
   ·rename_i m hm;exact .os _ m b k cap off len a (hsub n m (hL _ _ (zL hm)) _ hn) hl ha
   ·exact .junk _ _
 | osn ρ n a hn =>
   simp only [AV.ren]
   split
   ·rename_i m hm;exact .osn _ m a (hsub n m (hL _ _ (zL hm)) _ hn)
   ·exact .junk _ _
 | op ρ n b k cap i j hn =>
   simp only [AV.ren]
   split
   ·rename_i m hm;exact .op _ m b k cap i j (hsub n m (hL _ _ (zL hm)) _ hn)
   ·exact .junk _ _
 | clo ρ fn vs us xs ys hl hm _ _ ih ih' =>
   refine .clo _ fn vs us _ _ (by rw [hl,kU]) (by rw [hm,kU]) (fun i u y hu hy=>?_) (fun i u y hu hy=>?_)
   ·rw [kS] at hy
    cases hx:xs[i]? with
    | none=>rw [hx] at hy;cases hy
    | some z=>rw [hx] at hy;simp only [Option.map_some,Option.some.injEq] at hy;subst hy;exact ih i u z hu hx ρ' hsub
   ·rw [kS] at hy
    cases hx:ys[i]? with
    | none=>rw [hx] at hy;cases hy
    | some z=>rw [hx] at hy;simp only [Option.map_some,Option.some.injEq] at hy;subst hy;exact ih' i u z hu hx ρ' hsub
 | mp ρ n b hn =>
   simp only [AV.ren]
   split
   ·rename_i m hm;exact .mp _ m b (hL _ _ (zL hm) |> fun h=>hsub n m h _ hn)
   ·exact .junk _ _
 | anyb ρ b=>exact .anyb _ b
 | errv ρ t u=>exact .errv _ t u
 | junk ρ v=>exact .junk _ v
theorem Ju (L:List (Nat × Nat)) (nh:Nat) (x:AV):jQ L nh x (x.ren L):=VQ L nh L (fun _ _ h => .inr h) x
section calls
variable {C:Cx} {N d:Nat} {ty:TypeId} {pos:String} {af:Array Edge} {gd:Option (Nat × Bool)} {t:Nat → AV} {h:Nat → HB}
theorem Vh {f:FuncId} {args:List Operand} {tys:Array TypeId} {ys:List AV} {r:AV} (rh:List Nat)
  (hf:IsFn C.P f) (hc:qI C.P f ys [] r []) (hz:jg [] rh h (args.map (evA t)) ys) (hr:r.pure = true) (hN:d < N) :
  qD C.P N ⟨some d,.call ⟨.value (.func f),args.toArray,tys⟩,ty,pos,af,gd⟩ t h ⟨jC (.func f) ++ args.flatMap jC,rh,some d,r,[],[]⟩ :=
 vu (H:=[]) (H':=[]) (xs:=[] ++ args.map (evA t) ++ []) (ys:=ys) _ rh [] [] rfl hN (xF f hf (.func f) args tys [] [] rfl) rfl (Nat.le_refl _) List.nodup_nil (fun n hn=>by simp at hn)
  (by rw [List.nil_append,List.append_nil];exact hz) hc (fun i n hb hi=>by simp at hi) (fun i n hb hi=>by simp at hi) (ql hr)
theorem wW {f:FuncId} {x:Operand} {first cap:List AV} {args:List Operand} {tys:Array TypeId} {ys:List AV} {r:AV} (rh:List Nat) (hx:evA t x = .clo (.func f) first cap)
  (hf:IsFn C.P f) (hc:qI C.P f ys [] r []) (hz:x4 (zq rh h) (first ++ args.map (evA t) ++ cap) ys) (hfl:Xt r = true) (hN:d < N) :
  qD C.P N ⟨some d,.call ⟨.value x,args.toArray,tys⟩,ty,pos,af,gd⟩ t h ⟨jC x ++ args.flatMap jC,rh,some d,r,[],[]⟩ :=
 wV _ rh rfl hN (xF f hf x args tys first cap hx) hz hc hfl
theorem Wv {f:FuncId} {args:List Operand} {tys:Array TypeId} {ys:List AV} {r r' : AV} {hb:HB} (rh:List Nat) (m:Nat)
  (hf:IsFn C.P f) (hc:qI C.P f ys [] r [hb]) (hz:jg [] rh h (args.map (evA t)) ys) (hr:r.ren [(0,m)] = r') (hbp:yQ [(0,m)] 0 hb hb) (hN:d < N) :
  qD C.P N ⟨some d,.call ⟨.value (.func f),args.toArray,tys⟩,ty,pos,af,gd⟩ t h ⟨jC (.func f) ++ args.flatMap jC,rh,some d,r',[(m,hb)],[m]⟩ :=
 vu (H:=[]) (H':=[hb]) (xs:=[] ++ args.map (evA t) ++ []) (ys:=ys) _ rh [(m,hb)] [m] rfl hN (xF f hf (.func f) args tys [] [] rfl) rfl (Nat.zero_le _) (by simp) (fun n hn=>by simp at hn)
  (by rw [List.nil_append,List.append_nil];exact hz) hc (fun i n hb hi=>by simp at hi) (fun i n hb' hi=>by
   cases i with
   | zero=>simp at hi;obtain ⟨rfl,rfl⟩:=hi;exact hbp
   | succ i=>simp at hi) (hr ▸ Ju _ _ _)
theorem Wt {f:FuncId} {args:List Operand} {tys:Array TypeId} {ys:List AV} {r r' : AV} {hb hb' : HB} (rh:List Nat) (n:Nat) (hn:h n = hb) (ho:hb.isOwn = true) (hnr:n ∈ rh)
  (hf:IsFn C.P f) (hc:qI C.P f ys [hb] r [hb']) (hz:jg [(n,0)] rh h (args.map (evA t)) ys) (hr:r.ren [(0,n)] = r') (hbp:yQ [(n,0)] 0 hb hb) (hbp' : yQ [(0,n)] 0 hb' hb') (hN:d < N) :
  qD C.P N ⟨some d,.call ⟨.value (.func f),args.toArray,tys⟩,ty,pos,af,gd⟩ t h ⟨jC (.func f) ++ args.flatMap jC,rh,some d,r',[(n,hb')],[]⟩ :=
 vu (H:=[hb]) (H':=[hb']) (xs:=[] ++ args.map (evA t) ++ []) (ys:=ys) _ rh [(n,hb')] [] rfl hN (xF f hf (.func f) args tys [] [] rfl) rfl (Nat.le_refl _) (by simp) (fun m hm=>by simp at hm;subst hm;exact hnr)
  (by rw [List.nil_append,List.append_nil];exact hz) hc (fun i m hb1 hi hj=>by
   cases i with
   | zero=>simp at hi hj;subst hi;subst hj;rw [hn];exact ⟨ho,hbp⟩
   | succ i=>simp at hi) (fun i m hb1 hi=>by
   cases i with
   | zero=>simp at hi;obtain ⟨rfl,rfl⟩:=hi;exact hbp'
   | succ i=>simp at hi) (hr ▸ Ju _ _ _)
theorem za {L:List (Nat × Nat)} {nh:Nat} {ex:Bool} {k:Nat} {rows:List (List AV)} (hr : ∀ row,row ∈ rows → AV.pure.pureL row = true):yQ L nh (.own ex k rows) (.own ex k rows):=⟨id,rfl,vM hr⟩
theorem qH {L:List (Nat × Nat)} {nh:Nat} {ex:Bool} {k:Nat} {α:Type} {f:α → List AV} {l:List α} (hf : ∀ a,AV.pure.pureL (f a) = true):yQ L nh (.own ex k (l.map f)) (.own ex k (l.map f)):=⟨id,rfl,VR hf⟩
theorem wO {n n' off len:Nat} {L:List (Nat × Nat)} {rh:List Nat} (hn:(n,n') ∈ L):yl L rh h (.os n off len) (.os n' off len):=qw (qO (.inr hn))
end calls
section ops
variable {C:Cx} {N:Nat} {all:Array Oper} {es:List Eff} {K:List Eff → St → Prop} {os:List Oper} {o:Oper}
theorem kK {ts:List (Nat × AV)} {hs:List (Nat × HB)} {nx:Nat} {gd rt rh:List Nat} {d:Nat} {x:AV} {hb:HB} {m:Nat} (hE:qD C.P N o (qr ts) (qB hs) ⟨rt,rh,some d,x,[(m,hb)],[]⟩)
  (h:jW C N all (⟨gd ++ rt,rh,some d,x,[(m,hb)],[]⟩ :: es) ⟨(d,x) :: ts,(m,hb) :: hs,nx⟩ os K):jh C N all gd es ⟨ts,hs,nx⟩ o os K:=by
 refine v6 (τ:=⟨(d,x) :: ts,(m,hb) :: hs,nx⟩) hE ?_ ?_ rfl (by simp) (Nat.le_refl _) h
 ·funext i;simp only [Eff.t,Eff.wT,Option.some.injEq,qr];split<;>rfl
 ·funext n
  simp only [Eff.h,Eff.wH,yn,qB]
  split<;>rfl
end ops
theorem qq {L:List (Nat × Nat)} {nh n:Nat} (h:Nat.ble (n + 1) nh = true):Maps L nh n n := .inl ⟨Nat.le_of_ble_eq_true h,rfl⟩
theorem Z6 {L:List (Nat × Nat)} {nh:Nat} {σ:St} {i n n' a b:Nat} {l:List (Nat × AV)} (hx:qr σ.ts i = .op n a b) (hm:Maps L nh n n') (hl:y7 L nh σ l):y7 L nh σ ((i,.op n' a b) :: l):=QO hx (qU hm) hl
theorem Qw {L:List (Nat × Nat)} {nh:Nat} {σ:St} {i n n' off len len' : Nat} {l:List (Nat × AV)} (hx:qr σ.ts i = .os n off len) (hm:Maps L nh n n') (he:len = len') (hl:y7 L nh σ l):y7 L nh σ ((i,.os n' off len') :: l):=QO hx (he ▸ qO hm) hl
theorem w8 {L:List (Nat × Nat)} {nh:Nat} {σ:St} {n n' : Nat} {ex ex' : Bool} {k:Nat} {rows rows' : List (List AV)} {l:List (Nat × HB)} (hx:qB σ.hs n = .own ex k rows) (hm:Maps L nh n n') (he:ex' = true → ex = true) (hr:rows = rows') (hp : ∀ row,row ∈ rows' → AV.pure.pureL row = true) (hl:yO L nh σ l) :
  yO L nh σ ((n',.own ex' k rows') :: l):=by subst hr;exact zI hm hx he (vM hp) hl
theorem jY {α:Type} {f:α → List AV} {l:List α} (hf : ∀ a,AV.pure.pureL (f a) = true) : ∀ row,row ∈ l.map f → AV.pure.pureL row = true:=fun row hr=>by obtain ⟨a,_,rfl⟩:=List.mem_map.1 hr;exact hf a
theorem ye {rows:List (List AV)} (h:rows.all AV.pure.pureL = true) : ∀ row,row ∈ rows → AV.pure.pureL row = true:=fun row hr=>List.all_eq_true.1 h row hr
theorem x1 {h:Nat → HB} {n len:Nat} {ex:Bool} {k:Nat} {rows:List (List AV)} (hn:h n = .own ex k rows) (hl:len = rows.length) (hp : ∀ row,row ∈ rows → AV.pure.pureL row = true):Rz h (.os n 0 len) (.sl false rows):=by
 subst hl
 refine qb1 hn (by simp) ?_
 rw [List.drop_zero,List.take_length]
 exact vB hp
section
variable {t:Nat → AV} {h:Nat → HB}
theorem Jv {x:Operand} {k:Nat} {ex:Bool} {rows:List (List AV)} (hx:evA t x = .sl ex rows) (hr:rows.all (fun row=>row.length == k && row.all jw) = true):SrcA t h x k rows []:=by
 have h1 : ∀ row,row ∈ rows → row.length = k ∧ row.all jw = true:=fun row hrow=>by
  have:=List.all_eq_true.1 hr row hrow
  simpa using this
 exact ⟨fun row hrow=>(h1 row hrow).1,fun row hrow=>(h1 row hrow).2,.inl ⟨ex,hx⟩⟩
theorem VZ {x:Operand} {k:Nat} {ex:Bool} {α:Type} {f:α → List AV} {l:List α} (hx:evA t x = .sl ex (l.map f)) (hf : ∀ a,((f a).length == k && (f a).all jw) = true):SrcA t h x k (l.map f) [] :=
 Jv hx (List.all_eq_true.2 fun row hr=>by obtain ⟨a,_,rfl⟩:=List.mem_map.1 hr;exact hf a)
theorem Z4 {x:Operand} {k n off len:Nat} {ex:Bool} {rs rows:List (List AV)} (hx:evA t x = .os n off len) (hn:h n = .own ex k rs) (hl:off + len ≤ rs.length) (he:(rs.drop off).take len = rows) (hr:rs.all (fun row=>row.length == k && row.all jw) = true):SrcA t h x k rows [n]:=by
 have h1 : ∀ row,row ∈ rows → row.length = k ∧ row.all jw = true:=fun row hrow=>by
  rw [← he] at hrow
  have:=List.all_eq_true.1 hr row (List.mem_of_mem_drop (List.mem_of_mem_take hrow))
  simpa using this
 exact ⟨fun row hrow=>(h1 row hrow).1,fun row hrow=>(h1 row hrow).2,.inr ⟨n,off,len,ex,rs,hx,List.mem_cons_self ..,hn,hl,he.symm⟩⟩
theorem ws {α:Type} {f:α → List AV} {l:List α} {k:Nat} (hf : ∀ a,((f a).length == k && (f a).all jw) = true):(l.map f).all (fun row=>row.length == k && row.all jw) = true :=
 List.all_eq_true.2 fun row hr=>by obtain ⟨a,_,rfl⟩:=List.mem_map.1 hr;exact hf a
end
theorem jJ {α β:Type} {f:α → β} {l:List α}:(l.map f).take l.length = l.map f:=List.take_of_length_le (by simp)
theorem wU {C:Cx} {N d:Nat} {ty:TypeId} {pos:String} {af:Array Edge} {gd:Option (Nat × Bool)} {t:Nat → AV} {h:Nat → HB} (T e:Nat) (r re:TRec) (hT:qG C.tab T = some r) (hk:r.kind = .slice e) (hE:qG C.tab e = some re) (hN:d < N) :
  qD C.P N ⟨some d,.buildSlice T 0 #[],ty,pos,af,gd⟩ t h ⟨[],[],some d,.sl true [],[],[]⟩ :=
 vo T e 0 [] r re [] hT hk hE rfl rfl rfl rfl (by omega) hN
theorem xy {h:Nat → HB} {k:IntKind} {a b:Int} (he:a = b):Rz h (.v (.int k a)) (.v (.int k b)):=he ▸ je rfl
theorem yL {h:Nat → HB} {a b:Bool} (he:a = b):Rz h (.v (.bool a)) (.v (.bool b)):=he ▸ je rfl
theorem xz {h:Nat → HB} {a b:List UInt8} (he:a = b):Rz h (.v (str a)) (.v (str b)):=he ▸ je rfl
theorem vn {h:Nat → HB} {ex:Bool} {a b:List (List AV)} (he:a = b):Rz h (.sl ex a) (.sl false b):=by
 subst he
 cases ex
 ·exact je rfl
 ·exact xq
theorem W7 {h:Nat → HB} {n len:Nat} {ex:Bool} {k:Nat} {rows rows' : List (List AV)} (hn:h n = .own ex k rows) (hl:len = rows.length) (he:rows = rows') (hp : ∀ row,row ∈ rows' → AV.pure.pureL row = true):Rz h (.os n 0 len) (.sl false rows'):=by
 subst he;exact x1 hn hl hp
theorem Yn {h:Nat → HB} {xs:List AV} (hp:AV.pure.pureL xs = true):x4 h xs xs:=(vB (rows:=[xs]) (fun row hr=>by simp at hr;subst hr;exact hp)).2 0 xs xs rfl rfl
theorem Xs {C:Cx} {rs:Array ResultVar} {r:AV} {H' : List HB} {σ τ:St} (hr:Red C σ τ) (h:Fin C rs C.nh r H' τ):Fin C rs C.nh r H' σ:=fun fn B a w h1 h2 h3 g=>h fn B a w h1 h2 h3 (hr B a w h2 g)
theorem jb {C:Cx} {rs:List ResultVar} {σ:St} {xs:List AV} {r:AV} {H' : List HB} {ids:List (Nat × Nat)} (L:List (Nat × Nat)) (nx:Nat) (hr:ResOk C σ rs xs) (hL:zy C.nh nx L = true) (hh:yO L C.nh σ (zi 0 H')) (hi:(List.range C.nh).map (fun n=>(n,n)) = ids) (hz:(jx xs).ren (ids ++ L) = r):Fin C rs.toArray C.nh r H' σ:=by
 subst hi
 exact qaG L nx hr hL hh (hz ▸ VQ L C.nh _ (fun n m h=>by
  rcases List.mem_append.1 h with h|h
  ·obtain ⟨q,hq,he⟩:=List.mem_map.1 h
   injection he with e1 e2
   subst e1;subst e2
   exact .inl ⟨List.mem_range.1 hq,rfl⟩
  ·exact .inr h) (jx xs))
theorem wY {C:Cx} {N d:Nat} {ty:TypeId} {pos:String} {af:Array Edge} {gd:Option (Nat × Bool)} {t:Nat → AV} {h:Nat → HB} (T:TypeId) (x y:Operand) (kd:IntKind) (i n len:Nat) (ex:Bool) (rows:List (List AV)) (e:Nat) (r re:TRec) (hx:evA t x = .os n 0 len) (hy:evA t y = .v (.int kd (i:Int))) (hT:qG C.tab T = some r) (he:r.kind = .slice e)
  (hE:qG C.tab e = some re) (hn:h n = .own ex re.size rows) (hi:i < len) (hN:d < N) :
  qD C.P N ⟨some d,.indexAddr T x y,ty,pos,af,gd⟩ t h ⟨jC x ++ jC y,[n],some d,.op n i 0,[],[]⟩:=by
 have:=QC (C:=C) (N:=N) (ty:=ty) (pos:=pos) (af:=af) (gd:=gd) T x y kd i n 0 len ex rows e r re hx hy hT he hE hn hi hN
 rwa [Nat.zero_add] at this
theorem Wk {fn:Fn} {cap:List AV} (hcap:AV.pure.pureL cap = true):(AV.clo fn [] cap).pure = true:=by simp [AV.pure,AV.pure.pureL,hcap]
theorem kW {h:Nat → HB} {fn:Fn} {cap:List AV} (hcap:AV.pure.pureL cap = true):Rz h (.clo fn [] cap) (.clo fn [] cap):=je (Wk hcap)
theorem qC {α:Type} {l:List α} {i:Nat} {x y:α} (h:l[i]? = some y):(l.set i x)[i]? = some x:=List.getElem?_set_self (List.getElem?_eq_some_iff.1 h).1
theorem nle {a b:Nat} (h:Nat.ble a b = true):a ≤ b:=Nat.le_of_ble_eq_true h
end Go.Ab
