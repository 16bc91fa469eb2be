import Derived.Test.YtahbbnfmbohmmaaDoorMz4
import Derived.Lib.Bytealg
import Derived.Test.YtahbbnfmbohmmaaDoorMz0
set_option linter.unusedSimpArgs false
set_option linter.unnecessarySimpa false
set_option linter.unusedVariables false
namespace Go.Ab
open Go.RowKit
section ops
variable {C:Cx} {N d:Nat} {ty:TypeId} {pos:String} {af:Array Edge} {gd:Option (Nat × Bool)} {t:Nat → AV} {h:Nat → HB}
theorem WP (f:FuncId) (fn:Func) (tys:Array TypeId) (x y:Operand) (a b r:Value) (e:Array Value → Sem Value) (hf:C.P.funcs[f]? = some fn) (hname:(fn.name == "runtime.NumGoroutine") = false)
  (hb:fn.body.isNone = true) (hnx:Extern.findNext fn = none) (hex:Extern.find fn = some e) (hx:evA t x = .v a) (hy:evA t y = .v b) (hrun : ∀ w,(e #[a,b]).run C.P w = .ok r w) (hr:kE r = true) (hN:d < N) :
  qD C.P N ⟨some d,.call ⟨.value (.func f), #[x,y],tys⟩,ty,pos,af,gd⟩ t h ⟨jp x ++ jp y,[],some d,.v r,[],[]⟩ :=
 jc _ _ rfl hN fun F ρ act w _ hs _=>by
  have h1:=qk (x:=x) hs (fun j hj=>List.mem_append_left _ hj)
  have h2:=qk (x:=y) hs (fun j hj=>List.mem_append_right _ hj)
  rw [hx] at h1;rw [hy] at h2
  obtain ⟨h1,_⟩:=h1.v_inv
  obtain ⟨h2,_⟩:=h2.v_inv
  refine ⟨r,?_,.v _ _ hr⟩
  have hcall:=run_callFunc_extern hf hname hb hnx hex #[act.eval x,act.eval y] w
  rw [h1,h2,hrun] at hcall
  have hcall' : Sem.run C.P (callFunc f #[act.eval x,act.eval y]) w = Result.ok (.value r) w:=by rw [h1,h2];exact hcall
  have he' : act.eval (.func f) = .func (.func f) #[] #[]:=rfl
  simp [execOp,resolve,invoke,he',Deferred.ofValue,hcall']
end ops
end Go.Ab
set_option linter.unusedSimpArgs false
set_option linter.unnecessarySimpa false
set_option linter.unusedVariables false
namespace Go.Ab
open Go.RowKit
theorem xO {x y:Int} (h:x = y):AV.v (.int .i64 x) = AV.v (.int .i64 y):=by rw [h]
section ops
variable {C:Cx} {N d:Nat} {ty:TypeId} {pos:String} {af:Array Edge} {gd:Option (Nat × Bool)} {t:Nat → AV} {h:Nat → HB}
theorem KL (T:TypeId) (x y:Operand) (yT:TypeId) (a b:Nat) (hx:evA t x = .v (.int .i64 (a:Int))) (hy:evA t y = .v (.int .i64 (b:Int))) (hb:0 < b) (hN:d < N) :
  qD C.P N ⟨some d,.binOp .rem T x y yT,ty,pos,af,gd⟩ t h ⟨jp x ++ jp y,[],some d,.v (.int .i64 ((a % b:Nat):Int)),[],[]⟩ :=
 wm .rem T x y yT .i64 a b _ hx hy rfl (fun w=>by
  have h0:¬ (b:Int) = 0:=by omega
  have h1:((a:Int).tmod (b:Int)) = ((a % b:Nat):Int):=by rw [Int.tmod_eq_emod_of_nonneg (by omega)];rfl
  simp only [binOp,Op.intDiv,h0,h1,if_false]
  rfl) hN
theorem KK (T:TypeId) (x y:Operand) (yT:TypeId) (a b:Nat) (hx:evA t x = .v (.int .i64 (a:Int))) (hy:evA t y = .v (.int .i64 (b:Int))) (hb:0 < b) (ha:a ≤ 9223372036854775807) (hN:d < N) :
  qD C.P N ⟨some d,.binOp .quo T x y yT,ty,pos,af,gd⟩ t h ⟨jp x ++ jp y,[],some d,.v (.int .i64 ((a / b:Nat):Int)),[],[]⟩ :=
 wm .quo T x y yT .i64 a b _ hx hy rfl (fun w=>by
  have h0:¬ (b:Int) = 0:=by omega
  have h1:((a:Int).tdiv (b:Int)) = ((a / b:Nat):Int):=by rw [Int.tdiv_eq_ediv_of_nonneg (by omega)];rfl
  have h2:a / b ≤ a:=Nat.div_le_self a b
  have h3:IntKind.i64.wrap ((a / b:Nat):Int) = ((a / b:Nat):Int):=IntWalk.i64_in _ ⟨Int.le_trans (by decide) (Int.natCast_nonneg (a / b)),Int.ofNat_le.2 (Nat.le_trans h2 ha)⟩
  simp only [binOp,Op.intDiv,h0,h1,h3,if_false]
  rfl) hN
theorem Y8 (src dst e:TypeId) (x:Operand) (ex:Bool) (n:Int) (rs r re:TRec) (hx:evA t x = .sl ex [[.v (.int .u8 n)]]) (hs:jw C.tab src = some rs) (hs' : rs.kind = .slice e) (hE:jw C.tab e = some re) (he' : re.kind = .int .u8) (hT:jw C.tab dst = some r) (he:r.kind = .string) (hN:d < N) :
  qD C.P N ⟨some d,.convert src dst x,ty,pos,af,gd⟩ t h ⟨jp x,[],some d,.v (str [UInt8.ofNat n.toNat]),[],[]⟩ :=
 jc _ _ rfl hN fun F ρ a w hag hs1 _=>by
  have h1:=qk (x:=x) hs1 (fun j hj=>hj)
  rw [hx] at h1
  have hu:=xt (C.ok _ r hT) he
  have hu2:=yE (C.ok _ rs hs) hs'
  have hu3:=QS (C.ok _ re hE) he'
  refine ⟨str [UInt8.ofNat n.toNat],?_,.v _ _ rfl⟩
  rcases h1.sl_inv with ⟨h0,_⟩|⟨b,o,cap,c,e',fr,kk,hb,_,_,hsz,hkk,hR,hv⟩
  ·cases h0
  ·have hk:kk = 1:=(hkk _ (List.mem_singleton.2 rfl)).symm
   subst hk
   have hbw:=hag b _ hb
   have hlt:o < c.size:=by simp at hsz;omega
   have hcv:c[o]? = some c[o]:=Array.getElem?_eq_getElem hlt
   have hcell:=(hR 0 0 _ _ c[o] rfl rfl (by simp)).v_inv.1
   have hld:=run_loadCells_list (P:=C.P) w ⟨b,o,none⟩ [.int .u8 n] (fun i v hiv=>by
    cases i with
    | zero =>
      simp only [List.getElem?_cons_zero,Option.some.injEq] at hiv
      subst hiv
      have:(⟨b,o,none⟩ : Addr).add 0 = ⟨b,o,none⟩:=by unfold Addr.add;split<;>simp_all
      rw [this]
      simp [World.cell?,hbw,hcv,hcell]
    | succ i=>simp at hiv)
   simp only [List.length_singleton] at hld
   simp [execOp,hv,convert,run_underlying hu,run_underlying hu2,run_underlying hu3,Conv.bytesToString,hld,str]
   rfl
end ops
end Go.Ab
set_option linter.unusedSimpArgs false
set_option linter.unnecessarySimpa false
set_option linter.unusedVariables false
namespace Go.Ab
open Go.RowKit
section steps
variable {C:Cx} {N:Nat} {all:Array Oper} {es:List Eff} {o:Oper} {os:List Oper} {K:List Eff → St → Prop} {ts:List (Nat × AV)} {hs:List (Nat × HB)} {nx:Nat} {gd:List Nat}
theorem ya {rt rh:List Nat} {d:Nat} {x:AV} {ty:TypeId} {pos:String} {af:Array Edge} {gg:Option (Nat × Bool)} {T len:Nat} {ps:_} (k:jU C N all (⟨gd ++ rt,rh,some d,x,[],[]⟩ :: es) ⟨(d,x) :: ts,hs,nx⟩ os K) (hE:qD C.P N ⟨some d,.buildSlice T len ps,ty,pos,af,gg⟩ (qr ts) (qq hs) ⟨rt,rh,some d,x,[],[]⟩:=by (first|(apply kQ;rfl;rfl;rfl;exact nle rfl)|(apply kv;rfl;rfl;rfl;rfl;exact ⟨rfl,rfl⟩;rfl;exact nle rfl;exact nle rfl)|(apply vy;(conv=>lhs;whnf);rfl;rfl;rfl;exact ⟨rfl,rfl⟩;rfl;exact nle rfl;exact nle rfl)|(apply xB;rfl;rfl;rfl;rfl;rfl;rfl;rfl;exact nle rfl;exact nle rfl))):jl C N all gd es ⟨ts,hs,nx⟩ ⟨some d,.buildSlice T len ps,ty,pos,af,gg⟩ os K:=qp hE k
theorem KY {rt rh:List Nat} {d:Nat} {x:AV} {ty:TypeId} {pos:String} {af:Array Edge} {gg:Option (Nat × Bool)} {T:TypeId} {X:Operand} {lo hi mx:_} (k:jU C N all (⟨gd ++ rt,rh,some d,x,[],[]⟩ :: es) ⟨(d,x) :: ts,hs,nx⟩ os K) (hE:qD C.P N ⟨some d,.slice T X lo hi mx,ty,pos,af,gg⟩ (qr ts) (qq hs) ⟨rt,rh,some d,x,[],[]⟩:=by (apply xZ;(case hx=>rfl);(case hT=>rfl);(case he=>rfl);(case ha=>first|exact ⟨_,rfl⟩|rfl);(case hb=>first|exact ⟨_,rfl⟩|rfl);(case hab=>(first|omega|(simp<;>fail)|(simp only [List.length_cons,List.length_nil,List.length_map];omega)|(simp;omega)));(case hbl=>(first|omega|(simp<;>fail)|(simp only [List.length_cons,List.length_nil,List.length_map];omega)|(simp;omega)));(case hN=>exact nle rfl))):jl C N all gd es ⟨ts,hs,nx⟩ ⟨some d,.slice T X lo hi mx,ty,pos,af,gg⟩ os K:=qp hE k
theorem qbr {rt rh:List Nat} {d:Nat} {x:AV} {ty:TypeId} {pos:String} {af:Array Edge} {gg:Option (Nat × Bool)} {op:BinOp} {T:TypeId} {X Y:Operand} {yT:TypeId} (k:jU C N all (⟨gd ++ rt,rh,some d,x,[],[]⟩ :: es) ⟨(d,x) :: ts,hs,nx⟩ os K) (hE:qD C.P N ⟨some d,.binOp op T X Y yT,ty,pos,af,gg⟩ (qr ts) (qq hs) ⟨rt,rh,some d,x,[],[]⟩:=by (apply WO;rfl;rfl;rfl;rfl;(first|exact .inl ⟨rfl,rfl⟩|exact .inr ⟨rfl,rfl⟩);exact nle rfl)):jl C N all gd es ⟨ts,hs,nx⟩ ⟨some d,.binOp op T X Y yT,ty,pos,af,gg⟩ os K:=qp hE k
theorem kB {rt rh:List Nat} {d:Nat} {x:AV} {ty:TypeId} {pos:String} {af:Array Edge} {gg:Option (Nat × Bool)} {hb:HB} {as:Array Operand} {tys:Array TypeId} (k:jU C N all (⟨gd ++ rt,rh,some d,x,[(nx,hb)],[nx]⟩ :: es) ⟨(d,x) :: ts,(nx,hb) :: hs,nx + 1⟩ os K) (hE:qD C.P N ⟨some d,.call ⟨.builtin .append,as,tys⟩,ty,pos,af,gg⟩ (qr ts) (qq hs) ⟨rt,rh,some d,x,[(nx,hb)],[nx]⟩:=by (apply Jt;(case hx=>rfl);(case hT=>rfl);(case he=>rfl);(case hE=>rfl);(case hz=>rfl);(case hsrc=>(first|(apply YJ;rfl;rfl)|(apply XD;rfl;intro a;rfl)|(apply Za;rfl;rfl;first|omega|(simp<;>fail)|(simp;omega);rfl;first|rfl|exact kg fun _=>rfl)));(case hsz=>(first|omega|(simp<;>fail)|(simp only [List.length_cons,List.length_nil,List.length_map];omega)|(simp;omega)));(case hlen=>(first|omega|(simp<;>fail)|(simp only [List.length_cons,List.length_nil,List.length_map];omega)|(simp;omega)));(case hN=>exact nle rfl))):jl C N all gd es ⟨ts,hs,nx⟩ ⟨some d,.call ⟨.builtin .append,as,tys⟩,ty,pos,af,gg⟩ os K:=yw hE k
theorem zd {rt rh:List Nat} {d:Nat} {x:AV} {ty:TypeId} {pos:String} {af:Array Edge} {gg:Option (Nat × Bool)} {hb hb' : HB} {m:Nat} {as:Array Operand} {tys:Array TypeId} (k:jU C N all (⟨gd ++ rt,rh,some d,x,[(nx,hb),(m,hb')],[nx]⟩ :: es) ⟨(d,x) :: ts,(nx,hb) :: (m,hb') :: hs,nx + 1⟩ os K) (hE:qD C.P N ⟨some d,.call ⟨.builtin .append,as,tys⟩,ty,pos,af,gg⟩ (qr ts) (qq hs) ⟨rt,rh,some d,x,[(nx,hb),(m,hb')],[nx]⟩:=by (apply Ju;(case hx=>rfl);(case hT=>rfl);(case he=>rfl);(case hE=>rfl);(case hn=>rfl);(case hl=>(first|omega|(simp<;>fail)|(simp only [List.length_cons,List.length_nil,List.length_map];omega)|(simp;omega)));(case hz=>rfl);(case hsrc=>(first|(apply YJ;rfl;rfl)|(apply XD;rfl;intro a;rfl)|(apply Za;rfl;rfl;first|omega|(simp<;>fail)|(simp;omega);rfl;first|rfl|exact kg fun _=>rfl)));(case hsz=>(first|omega|(simp<;>fail)|(simp only [List.length_cons,List.length_nil,List.length_map];omega)|(simp;omega)));(case hlen=>(first|omega|(simp<;>fail)|(simp only [List.length_cons,List.length_nil,List.length_map];omega)|(simp;omega)));(case hmn=>exact Nat.ne_of_beq_eq_false rfl);(case hN=>exact nle rfl))):jl C N all gd es ⟨ts,hs,nx⟩ ⟨some d,.call ⟨.builtin .append,as,tys⟩,ty,pos,af,gg⟩ os K:=Xn hE k
def vw (C:Cx) (N:Nat) (all:Array Oper) (gd:List Nat) (es:List Eff) (σ:St) (f:FuncId) (args:List Operand) (d:Nat) (tys:Array TypeId) (ty:TypeId) (pos:String) (af:Array Edge) (gg:Option (Nat × Bool)) (os:List Oper) (K:List Eff → St → Prop):Prop :=
 jl C N all gd es σ ⟨some d,.call ⟨.value (.func f),args.toArray,tys⟩,ty,pos,af,gg⟩ os K
theorem qc {σ:St} {d:Nat} {ty:TypeId} {pos:String} {af:Array Edge} {gg:Option (Nat × Bool)} {f:FuncId} {fn:Func} {args:List Operand} {tys:Array TypeId} (hf:C.P.funcs[f]? = some fn) (hb0:fn.body.isNone = false) (hn0:(fn.name == "runtime.NumGoroutine") = false) (k:IsFn C.P f → vw C N all gd es σ f args d tys ty pos af gg os K) :
  jl C N all gd es σ ⟨some d,.call ⟨.value (.func f),args.toArray,tys⟩,ty,pos,af,gg⟩ os K:=k (qM hf hb0 hn0)
theorem qbI {d:Nat} {ty:TypeId} {pos:String} {af:Array Edge} {gg:Option (Nat × Bool)} {f:FuncId} {args:List Operand} {tys:Array TypeId} {ys:List AV} {r:AV} (hf:IsFn C.P f) (hc:qt C.P f ys [] r []) (k:jU C N all (⟨gd ++ (jp (.func f) ++ args.flatMap jp),[],some d,r,[],[]⟩ :: es) ⟨(d,r) :: ts,hs,nx⟩ os K)
  (hz:yZ (zi [] (qq hs)) (args.map (evA (qr ts))) ys:=by ((repeat' (first|exact jv|apply jh|exact jg rfl|exact yl|apply jQ|apply jR))<;>fail)) (hfl:XW r = true:=by rfl) (hN:d < N:=by exact nle rfl):vw C N all gd es ⟨ts,hs,nx⟩ f args d tys ty pos af gg os K :=
 qp (VV [] hf hc hz hfl hN) k
theorem qbJ {d:Nat} {ty:TypeId} {pos:String} {af:Array Edge} {gg:Option (Nat × Bool)} {f:FuncId} {args:List Operand} {tys:Array TypeId} {ys:List AV} {r:AV} (hf:IsFn C.P f) (hc:qt C.P f ys [] r []) (k:jU C N all (⟨gd ++ (jp (.func f) ++ args.flatMap jp),[],some d,r,[],[]⟩ :: es) ⟨(d,r) :: ts,hs,nx⟩ os K)
  (hz:qG [] [] (qq hs) (args.map (evA (qr ts))) ys:=by ((repeat' (first|exact jr|apply jj|exact jq rfl|exact jY|(apply Qy;rfl;exact List.mem_cons_self ..;exact nle rfl)|(apply VG;exact List.mem_cons_self ..)|apply jF|apply jG))<;>fail)) (hr:r.pure = true:=by rfl) (hN:d < N:=by exact nle rfl):vw C N all gd es ⟨ts,hs,nx⟩ f args d tys ty pos af gg os K :=
 qp (Xa [] hf hc hz hr hN) k
end steps
section guards
variable {C:Cx} {N:Nat} {all:Array Oper} {es:List Eff} {os:List Oper} {K:List Eff → St → Prop} {ts:List (Nat × AV)} {hs:List (Nat × HB)} {nx:Nat} {j d d' : Nat} {op:Op} {ty:TypeId} {pos:String} {af:Array Edge}
end guards
section conds
variable {C:Cx} {N:Nat} {Q:Exit → St → Prop} {σ:St} {c:Operand} {x y:Code}
end conds
section keeps
variable {L:List (Nat × Nat)} {nh:Nat} {σ:St} {i:Nat}
theorem qA {x:AV} {l:List (Nat × AV)} (hl:yM L nh σ l) (hx:qr σ.ts i = x:=by rfl) (hp:x.pure = true:=by first|rfl|(simp [AV.pure,AV.pure.pureL, *]<;>fail)):yM L nh σ ((i,x) :: l):=JX hx hp hl
theorem jy {x y:AV} {l:List (Nat × AV)} (hl:yM L nh σ l) (hxy:x = y) (hx:qr σ.ts i = x:=by (conv=>lhs;whnf)) (hp:y.pure = true:=by rfl):yM L nh σ ((i,y) :: l):=qag hx hxy hp hl
theorem jI {n n' a b:Nat} {l:List (Nat × AV)} (hl:yM L nh σ l) (hx:qr σ.ts i = .op n a b:=by rfl) (hm:Maps L nh n n':=by (first|exact yj rfl|exact .inr (List.mem_cons_self ..)|exact .inr (List.mem_cons_of_mem _ (List.mem_cons_self ..))|exact .inr (List.mem_cons_of_mem _ (List.mem_cons_of_mem _ (List.mem_cons_self ..)))|exact .inr (List.mem_cons_of_mem _ (List.mem_cons_of_mem _ (List.mem_cons_of_mem _ (List.mem_cons_self ..)))))):yM L nh σ ((i,.op n' a b) :: l):=qai hx hm hl
theorem je {n n' off len len' : Nat} {l:List (Nat × AV)} (hl:yM L nh σ l) (he:len = len') (hx:qr σ.ts i = .os n off len:=by rfl) (hm:Maps L nh n n':=by (first|exact yj rfl|exact .inr (List.mem_cons_self ..)|exact .inr (List.mem_cons_of_mem _ (List.mem_cons_self ..))|exact .inr (List.mem_cons_of_mem _ (List.mem_cons_of_mem _ (List.mem_cons_self ..)))|exact .inr (List.mem_cons_of_mem _ (List.mem_cons_of_mem _ (List.mem_cons_of_mem _ (List.mem_cons_self ..)))))):yM L nh σ ((i,.os n' off len') :: l):=Ze hx hm he hl
theorem jd {n n' off len len' : Nat} {l:List (Nat × AV)} (hl:yM L nh σ l) (hx:qr σ.ts i = .os n off len:=by rfl) (hm:Maps L nh n n':=by (first|exact yj rfl|exact .inr (List.mem_cons_self ..)|exact .inr (List.mem_cons_of_mem _ (List.mem_cons_self ..))|exact .inr (List.mem_cons_of_mem _ (List.mem_cons_of_mem _ (List.mem_cons_self ..)))|exact .inr (List.mem_cons_of_mem _ (List.mem_cons_of_mem _ (List.mem_cons_of_mem _ (List.mem_cons_self ..)))))) (he:len = len':=by first|with_reducible rfl|omega):yM L nh σ ((i,.os n' off len') :: l):=Ze hx hm he hl
theorem q_r {n n' : Nat} {ex ex' : Bool} {k:Nat} {rows rows' : List (List AV)} {l:List (Nat × HB)} (hl:jZ L nh σ l) (hm:Maps L nh n n':=by (first|exact yj rfl|exact .inr (List.mem_cons_self ..)|exact .inr (List.mem_cons_of_mem _ (List.mem_cons_self ..))|exact .inr (List.mem_cons_of_mem _ (List.mem_cons_of_mem _ (List.mem_cons_self ..)))|exact .inr (List.mem_cons_of_mem _ (List.mem_cons_of_mem _ (List.mem_cons_of_mem _ (List.mem_cons_self ..)))))) (hx:qq σ.hs n = .own ex k rows:=by rfl) (he:ex' = true → ex = true:=by first|exact id|exact nofun) (hp : ∀ row,row ∈ rows' → AV.pure.pureL row = true:=by first|assumption|exact wL rfl|exact wM fun _=>rfl) (hr:rows = rows':=by with_reducible rfl):jZ L nh σ ((n',.own ex' k rows') :: l):=WU hx hm he hr hp hl
end keeps
theorem j1 {C:Cx} {rs:List ResultVar} {nh:Nat} {σ:St} {xs:List AV} {r:AV} (hz:Rz (qq σ.hs) (ju xs) r) (hr:ResOk C σ rs xs:=by ((repeat (first|exact qm|(apply qn;rfl)|(apply qj;rfl;rfl;rfl;rfl;rfl)))<;>fail)):Fin C rs.toArray nh r [] σ:=kT hr hz
theorem xA {h:Nat → HB} {n len:Nat} {ex:Bool} {k:Nat} {rows:List (List AV)} (hn:h n = .own ex k rows:=by rfl) (hl:len = rows.length:=by first|with_reducible rfl|(simp<;>fail)|(simp [*]<;>fail)|omega) (hp : ∀ row,row ∈ rows → AV.pure.pureL row = true:=by (first|assumption|exact wL rfl|exact wM fun _=>rfl)):Rz h (.os n 0 len) (.sl false rows):=Jh hn hl hp
theorem xz {h:Nat → HB} {n len:Nat} {ex:Bool} {k:Nat} {rows rows' : List (List AV)} (he:rows = rows') (hn:h n = .own ex k rows:=by rfl) (hl:len = rows.length:=by first|with_reducible rfl|(simp<;>fail)|(simp [*]<;>fail)|omega) (hp : ∀ row,row ∈ rows' → AV.pure.pureL row = true:=by (first|assumption|exact wL rfl|exact wM fun _=>rfl)):Rz h (.os n 0 len) (.sl false rows'):=Wg hn hl he hp
structure Hold (G:Prop):Prop where
 out:G
theorem vF {G G' : Prop} (k:G') (h:Hold G' → G:=by intro key;(first|(apply qp;first|(apply Yk;(conv=>lhs;whnf);exact nle rfl)|(apply wl;(conv=>lhs;whnf);exact nle rfl)|(apply xY;rfl;(conv=>lhs;whnf);exact nle rfl)|(apply xF;rfl;(conv=>lhs;whnf);exact nle rfl)|(apply Yj;rfl;rfl;rfl;exact nle rfl)|(apply xC;rfl;rfl;rfl;rfl;exact nofun;exact nle rfl)|(apply xQ;rfl;rfl;rfl;rfl;exact nofun;exact nle rfl)|(apply xS;rfl;rfl;rfl;(first|rfl|assumption|(apply qg;assumption)|(apply qg;apply qg;assumption));rfl;rfl;exact nle rfl)|(apply vl;rfl;rfl;(first|rfl|assumption|(apply qg;assumption)|(apply qg;apply qg;assumption));rfl;rfl;exact nle rfl)|(apply vm;rfl;rfl;rfl;rfl;rfl;rfl;exact nle rfl)|(apply jb;rfl;rfl;rfl;(first|rfl|assumption|(apply qg;assumption)|(apply qg;apply qg;assumption));(conv=>lhs;whnf);exact nle rfl)|(apply vX;rfl;rfl;(first|rfl|assumption|(apply qg;assumption)|(apply qg;apply qg;assumption));(conv=>lhs;whnf);exact nle rfl)|(apply Yn;rfl;rfl;rfl;exact nle rfl)|(apply wn;rfl;rfl;rfl;exact nle rfl)|(apply ky;rfl;rfl;rfl;exact nle rfl)|(apply kx;rfl;rfl;rfl;exact nle rfl)|(apply xR;rfl;rfl;rfl;rfl;rfl;(first|rfl|assumption|(apply qg;assumption)|(apply qg;apply qg;assumption));rfl;exact nle rfl)|(apply j3;rfl;rfl;rfl;rfl;(first|rfl|assumption|(apply qg;assumption)|(apply qg;apply qg;assumption));exact nle rfl)|(apply Yq;rfl;rfl;omega;exact nle rfl)|(apply Yl;rfl;rfl;omega;exact nle rfl)|(apply Ye;rfl;rfl;omega;omega;exact nle rfl)|(apply Yp;rfl;rfl;omega;omega;exact nle rfl)|(apply XV;rfl;exact nle rfl)|(apply kw;rfl;(conv=>lhs;whnf);exact nle rfl)|(apply QM;rfl;rfl;rfl;rfl;(conv=>lhs;whnf);exact nle rfl)|(apply zT (b':=true);rfl;assumption;(conv=>lhs;whnf);exact nle rfl)|(apply zT (b':=false);rfl;assumption;(conv=>lhs;whnf);exact nle rfl)|(apply Yi;exact nle rfl)|(apply vo;rfl;exact nle rfl)|(apply vn;rfl;exact nle rfl)|(apply yr;rfl;rfl;rfl;(conv=>lhs;whnf);exact nle rfl)|(apply vY;rfl;rfl;rfl;rfl;(conv=>lhs;whnf);exact nle rfl)|(apply Ym;rfl;rfl;(first|omega|(simp<;>fail)|(simp only [List.length_cons,List.length_nil,List.length_map];omega)|(simp;omega));exact nle rfl))|(apply yw;first|(apply kP;rfl;exact nle rfl)|(apply XT;rfl;exact nle rfl))|(apply qZ;apply zC;rfl;rfl;rfl;(first|rfl|assumption|(apply qg;assumption)|(apply qg;apply qg;assumption));rfl;rfl;exact nle rfl)|apply jL|(apply qH;exact nle rfl;refine ⟨?_,?_⟩;first|exact fun h=>absurd h Bool.false_ne_true|(intro _;kernel_rfl))|(apply Q7;rfl;rfl;exact nle rfl)|(apply Q6;rfl;rfl;exact nle rfl)|(apply wK;rfl;rfl;exact nle rfl)|(apply wJ;rfl;rfl;exact nle rfl)|(apply ze;rfl;rfl;exact nle rfl)|(apply Yz;rfl;rfl;assumption;exact nle rfl)|(apply Q5;rfl;rfl;assumption;exact nle rfl)|(apply Q4;rfl;rfl;assumption;exact nle rfl)|apply J5|refine kp ?_|(apply vV;rfl)|(apply vU;rfl)|(apply ko;rfl;assumption)|(apply kn;rfl;assumption)|apply wi|apply QC|apply QB|apply J4);(repeat (first|(apply qp;first|(apply Yk;(conv=>lhs;whnf);exact nle rfl)|(apply wl;(conv=>lhs;whnf);exact nle rfl)|(apply xY;rfl;(conv=>lhs;whnf);exact nle rfl)|(apply xF;rfl;(conv=>lhs;whnf);exact nle rfl)|(apply Yj;rfl;rfl;rfl;exact nle rfl)|(apply xC;rfl;rfl;rfl;rfl;exact nofun;exact nle rfl)|(apply xQ;rfl;rfl;rfl;rfl;exact nofun;exact nle rfl)|(apply xS;rfl;rfl;rfl;(first|rfl|assumption|(apply qg;assumption)|(apply qg;apply qg;assumption));rfl;rfl;exact nle rfl)|(apply vl;rfl;rfl;(first|rfl|assumption|(apply qg;assumption)|(apply qg;apply qg;assumption));rfl;rfl;exact nle rfl)|(apply vm;rfl;rfl;rfl;rfl;rfl;rfl;exact nle rfl)|(apply jb;rfl;rfl;rfl;(first|rfl|assumption|(apply qg;assumption)|(apply qg;apply qg;assumption));(conv=>lhs;whnf);exact nle rfl)|(apply vX;rfl;rfl;(first|rfl|assumption|(apply qg;assumption)|(apply qg;apply qg;assumption));(conv=>lhs;whnf);exact nle rfl)|(apply Yn;rfl;rfl;rfl;exact nle rfl)|(apply wn;rfl;rfl;rfl;exact nle rfl)|(apply ky;rfl;rfl;rfl;exact nle rfl)|(apply kx;rfl;rfl;rfl;exact nle rfl)|(apply xR;rfl;rfl;rfl;rfl;rfl;(first|rfl|assumption|(apply qg;assumption)|(apply qg;apply qg;assumption));rfl;exact nle rfl)|(apply j3;rfl;rfl;rfl;rfl;(first|rfl|assumption|(apply qg;assumption)|(apply qg;apply qg;assumption));exact nle rfl)|(apply Yq;rfl;rfl;omega;exact nle rfl)|(apply Yl;rfl;rfl;omega;exact nle rfl)|(apply Ye;rfl;rfl;omega;omega;exact nle rfl)|(apply Yp;rfl;rfl;omega;omega;exact nle rfl)|(apply XV;rfl;exact nle rfl)|(apply kw;rfl;(conv=>lhs;whnf);exact nle rfl)|(apply QM;rfl;rfl;rfl;rfl;(conv=>lhs;whnf);exact nle rfl)|(apply zT (b':=true);rfl;assumption;(conv=>lhs;whnf);exact nle rfl)|(apply zT (b':=false);rfl;assumption;(conv=>lhs;whnf);exact nle rfl)|(apply Yi;exact nle rfl)|(apply vo;rfl;exact nle rfl)|(apply vn;rfl;exact nle rfl)|(apply yr;rfl;rfl;rfl;(conv=>lhs;whnf);exact nle rfl)|(apply vY;rfl;rfl;rfl;rfl;(conv=>lhs;whnf);exact nle rfl)|(apply Ym;rfl;rfl;(first|omega|(simp<;>fail)|(simp only [List.length_cons,List.length_nil,List.length_map];omega)|(simp;omega));exact nle rfl))|(apply yw;first|(apply kP;rfl;exact nle rfl)|(apply XT;rfl;exact nle rfl))|(apply qZ;apply zC;rfl;rfl;rfl;(first|rfl|assumption|(apply qg;assumption)|(apply qg;apply qg;assumption));rfl;rfl;exact nle rfl)|apply jL|(apply qH;exact nle rfl;refine ⟨?_,?_⟩;first|exact fun h=>absurd h Bool.false_ne_true|(intro _;kernel_rfl))|(apply Q7;rfl;rfl;exact nle rfl)|(apply Q6;rfl;rfl;exact nle rfl)|(apply wK;rfl;rfl;exact nle rfl)|(apply wJ;rfl;rfl;exact nle rfl)|(apply ze;rfl;rfl;exact nle rfl)|(apply Yz;rfl;rfl;assumption;exact nle rfl)|(apply Q5;rfl;rfl;assumption;exact nle rfl)|(apply Q4;rfl;rfl;assumption;exact nle rfl)|apply J5|refine kp ?_|(apply vV;rfl)|(apply vU;rfl)|(apply ko;rfl;assumption)|(apply kn;rfl;assumption)|apply wi|apply QC|apply QB|apply J4));exact key.out):G:=h ⟨k⟩
section xs
variable {C:Cx} {N:Nat}
theorem xsC {c:Operand} {x y:Code} {b:Bool} {Q:Exit → St → Prop} {σ:St} (ht:b = true → Awp C N x Q σ) (hf:b = false → Awp C N y Q σ) (hc:evA (qr σ.ts) c = .v (.bool b):=by rfl):Awp C N (.cond c x y) Q σ:=Km hc ht hf
theorem qS {c:Operand} {x y:Code} {Q:Exit → St → Prop} {σ:St} (ht:Awp C N x Q σ) (hf:Awp C N y Q σ) (hc:evA (qr σ.ts) c = .anyb:=by rfl):Awp C N (.cond c x y) Q σ:=J3 hc ht hf
theorem xsP {rs:List ResultVar} {nh:Nat} {σ:St} {xs:List AV} {r:AV} (hr:ResOk C σ rs xs:=by ((repeat (first|exact qm|(apply qn;rfl)|(apply qj;rfl;rfl;rfl;rfl;rfl)))<;>fail)) (hz:Rz (qq σ.hs) (ju xs) r:=by (repeat' (first|exact jv|apply jh|exact jg rfl|exact yl|exact xA|apply jQ|apply jX|apply jR|apply jV|apply jB|apply jW|refine xz ?_|apply yv))<;>fail):Fin C rs.toArray nh r [] σ:=kT hr hz
theorem xsO {rs:List ResultVar} {σ:St} {xs:List AV} {r:AV} {H' : List HB} {ids:List (Nat × Nat)} (L:List (Nat × Nat)) (nx:Nat) (hh:jZ L C.nh σ (xX 0 H')) (hr:ResOk C σ rs xs:=by ((repeat (first|exact qm|(apply qn;rfl)|(apply qj;rfl;rfl;rfl;rfl;rfl)))<;>fail)) (hL:vE C.nh nx L = true:=by rfl) (hi:(List.range C.nh).map (fun n=>(n,n)) = ids:=by first|exact (rfl:_ = ([]:List (Nat × Nat)))|exact (rfl:_ = [((0:Nat),(0:Nat))])|exact (rfl:_ = [((0:Nat),(0:Nat)),(1,1)])) (hz:(ju xs).ren (ids ++ L) = r:=by first|rfl|(simp [ju,AV.ren,AV.ren.renL,qP,qr,qL]<;>fail)|(simp [ju,AV.ren,AV.ren.renL,qP,qr,qL, *]<;>fail)):Fin C rs.toArray C.nh r H' σ:=qu L nx hr hL hh hi hz
theorem xsZ {c:Code} {Q:Exit → St → Prop} {ts:List (Nat × AV)} {hs:List (Nat × HB)} {nx:Nat} (i n:Nat) {ex:Bool} {k j:Nat} {row:List AV} (h:Awp C N c Q ⟨(i,.fp [row] 0 j) :: ts,(n,.fz [row]) :: hs,nx⟩) (hn:qq hs n = .own ex k [row]:=by rfl) (hr:AV.pure.pureL row = true:=by rfl) (hi:qr ts i = .op n 0 j:=by rfl):Awp C N c Q ⟨ts,hs,nx⟩:=Awp.red (xj n hn (fun r h=>by rw [List.mem_singleton.1 h];exact hr)) (Awp.red (qaU (rows:=[row]) i n hi (by rw [xo,if_pos rfl]) Nat.one_pos) h)
end xs
section xc
variable {C:Cx} {N:Nat} {all:Array Oper} {es:List Eff} {os:List Oper} {K:List Eff → St → Prop} {ts:List (Nat × AV)} {hs:List (Nat × HB)} {nx:Nat} {gd:List Nat}
theorem xsF {d:Nat} {ty:TypeId} {pos:String} {af:Array Edge} {gg:Option (Nat × Bool)} {f:FuncId} {fn:Func} {args:List Operand} {tys:Array TypeId} {ys:List AV} {r:AV} (hf:C.P.funcs[f]? = some fn) (hc:qt C.P f ys [] r []) (k:jU C N all (⟨gd ++ (jp (.func f) ++ args.flatMap jp),[],some d,r,[],[]⟩ :: es) ⟨(d,r) :: ts,hs,nx⟩ os K)
  (hb0:fn.body.isNone = false:=by rfl) (hn0:(fn.name == "runtime.NumGoroutine") = false:=by rfl) (hz:yZ (zi [] (qq hs)) (args.map (evA (qr ts))) ys:=by ((repeat' (first|exact jv|apply jh|exact jg rfl|exact yl|apply jQ|apply jR))<;>fail)) (hfl:XW r = true:=by rfl) (hN:d < N:=by exact nle rfl):jl C N all gd es ⟨ts,hs,nx⟩ ⟨some d,.call ⟨.value (.func f),args.toArray,tys⟩,ty,pos,af,gg⟩ os K :=
 qp (VV [] (qM hf hb0 hn0) hc hz hfl hN) k
theorem xsQ {d:Nat} {ty:TypeId} {pos:String} {af:Array Edge} {gg:Option (Nat × Bool)} {f:FuncId} {fn:Func} {args:List Operand} {tys:Array TypeId} {ys:List AV} {r:AV} (hf:C.P.funcs[f]? = some fn) (hc:qt C.P f ys [] r []) (k:jU C N all (⟨gd ++ (jp (.func f) ++ args.flatMap jp),[],some d,r,[],[]⟩ :: es) ⟨(d,r) :: ts,hs,nx⟩ os K)
  (hb0:fn.body.isNone = false:=by rfl) (hn0:(fn.name == "runtime.NumGoroutine") = false:=by rfl) (hz:qG [] [] (qq hs) (args.map (evA (qr ts))) ys:=by ((repeat' (first|exact jr|apply jj|exact jq rfl|exact jY|(apply Qy;rfl;exact List.mem_cons_self ..;exact nle rfl)|(apply VG;exact List.mem_cons_self ..)|apply jF|apply jG))<;>fail)) (hr:r.pure = true:=by rfl) (hN:d < N:=by exact nle rfl):jl C N all gd es ⟨ts,hs,nx⟩ ⟨some d,.call ⟨.value (.func f),args.toArray,tys⟩,ty,pos,af,gg⟩ os K :=
 qp (Xa [] (qM hf hb0 hn0) hc hz hr hN) k
end xc
end Go.Ab
set_option linter.unusedSimpArgs false
set_option linter.unusedVariables false
namespace Go.Ab
open Go.RowKit
theorem Zm {P:Program} {f:FuncId} {ys:List AV} {r:Value} (hp:AV.pure.pureL ys = true) (hr:kE r = true)
  (h : ∀ (F:Still) w vs,(∀ b o,F b = some o → w.heap[b]? = some o) → (∀ b p,xk b = some p → ∃ cs e fr,p cs ∧ F b = some (.cells cs e fr)) → AllM F noPlaces vs ys → Calls P f vs.toArray w fun e w'=>e = .returned r ∧ Below w.heap.size w w'):zm P f ys (.v r):=by
 intro B vs w hl hN ⟨g1,g2,F,ρ,hh,g4⟩
 have hm:AllM F noPlaces vs ys:=by
  refine ⟨hl,fun i v y hv hy=>?_⟩
  have hi:i < vs.length:=(List.getElem?_eq_some_iff.1 hv).1
  have:=g4 i
  simp only [Array.getD_eq_getD_getElem?,List.getElem?_toArray,hv,Option.getD_some,List.getD_eq_getElem?_getD,hy] at this
  exact this.moved _ (yH hp hy)
 refine (h F w vs hh.agree (fun b p hb=>(B.tab b p hb).imp fun cs h=>h.imp fun e h=>h.imp fun fr h=>⟨h.1,hh.grow b _ h.2⟩) hm).mono fun e w' ⟨he,hb⟩=>⟨r,he,g1,rfl,F,ρ,?_,fun i=>?_⟩
 ·refine { kept:=⟨hb.os.trans hh.kept.os,hb.tape.trans hh.kept.tape,hb.output.trans hh.kept.output,Nat.le_trans hh.kept.size hb.size,fun b hlt ho=>?_⟩,agree:=fun b o hF=>?_,grow:=hh.grow,fresh:=hh.fresh,names:=hh.names,dom:=fun _ _=>trivial,own:=fun n=>by simp [OwnAt],new:=fun n b c hn=>by simp [HB.isOwn] at hn,sep:=fun n m b c c' _ hn=>by simp [HB.isOwn] at hn }
  ·rw [hb.block b (Nat.lt_of_lt_of_le hlt hh.kept.size)];exact hh.kept.block b hlt ho
  ·have h0:=hh.agree b o hF
   rw [hb.block b (Array.getElem?_eq_some_iff.1 h0).1];exact h0
 ·by_cases hi:i = 0
  ·subst hi;exact .v _ _ hr
  ·unfold one;rw [if_neg hi];exact .junk _ _
end Go.Ab
set_option linter.unusedSimpArgs false
set_option linter.unnecessarySimpa false
set_option linter.unusedVariables false
namespace Go.Ab
open Go.RowKit
end Go.Ab
