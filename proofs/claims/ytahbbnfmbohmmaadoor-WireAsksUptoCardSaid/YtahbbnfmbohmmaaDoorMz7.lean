import Derived.Test.YtahbbnfmbohmmaaDoorMz6
import Derived.Lib.Bytealg
import Derived.Test.YtahbbnfmbohmmaaDoorMz1
set_option linter.unusedSimpArgs false
set_option linter.unnecessarySimpa false
set_option linter.unusedVariables false
namespace Go.Ab
open Go.RowKit
section ops
variable {C:Cx} {N d:Nat} {ty:TypeId} {pos:String} {af:Array Edge} {gd:Option (Nat × Bool)} {t:Nat → AV} {h:Nat → HB}
theorem Xy (f:FuncId) (fn:Func) (tys:Array TypeId) (x y:Operand) (a b r:Value) (e:Array Value → Sem Value) (hf:C.P.funcs[f]? = some fn) (hname:(fn.name == "runtime.NumGoroutine") = false)
  (hb:fn.body.isNone = true) (hnx:Extern.findNext fn = none) (hex:Extern.find fn = some e) (hx:evA t x = .v a) (hy:evA t y = .v b) (hrun : ∀ w,(e #[a,b]).run C.P w = .ok r w) (hr:vI r = true) (hN:d < N) :
  qv C.P N ⟨some d,.call ⟨.value (.func f), #[x,y],tys⟩,ty,pos,af,gd⟩ t h ⟨qM x ++ qM y,[],some d,.v r,[],[]⟩ :=
 qz _ _ rfl hN fun F ρ act w _ hs _=>by
  have h1:=qd (x:=x) hs (fun j hj=>List.mem_append_left _ hj)
  have h2:=qd (x:=y) hs (fun j hj=>List.mem_append_right _ hj)
  rw [hx] at h1;rw [hy] at h2
  obtain ⟨h1,_⟩:=h1.v_inv
  obtain ⟨h2,_⟩:=h2.v_inv
  refine ⟨r,?_,.v _ _ hr⟩
  have hcall:=run_callFunc_extern hf hname hb hnx hex #[act.eval x,act.eval y] w
  rw [h1,h2,hrun] at hcall
  have hcall' : Sem.run C.P (callFunc f #[act.eval x,act.eval y]) w = Result.ok (.value r) w:=by rw [h1,h2];exact hcall
  have he' : act.eval (.func f) = .func (.func f) #[] #[]:=rfl
  simp [execOp,resolve,invoke,he',Deferred.ofValue,hcall']
end ops
end Go.Ab
set_option linter.unusedSimpArgs false
set_option linter.unnecessarySimpa false
set_option linter.unusedVariables false
namespace Go.Ab
open Go.RowKit
section ops
variable {C:Cx} {N d:Nat} {ty:TypeId} {pos:String} {af:Array Edge} {gd:Option (Nat × Bool)} {t:Nat → AV} {h:Nat → HB}
theorem YK (T:TypeId) (x y:Operand) (yT:TypeId) (a b:Nat) (hx:evA t x = .v (.int .i64 (a:Int))) (hy:evA t y = .v (.int .i64 (b:Int))) (hb:0 < b) (hN:d < N) :
  qv C.P N ⟨some d,.binOp .rem T x y yT,ty,pos,af,gd⟩ t h ⟨qM x ++ qM y,[],some d,.v (.int .i64 ((a % b:Nat):Int)),[],[]⟩ :=
 z6 .rem T x y yT .i64 a b _ hx hy rfl (fun w=>by
  have h0:¬ (b:Int) = 0:=by omega
  have h1:((a:Int).tmod (b:Int)) = ((a % b:Nat):Int):=by rw [Int.tmod_eq_emod_of_nonneg (by omega)];rfl
  simp only [binOp,Op.intDiv,h0,h1,if_false]
  rfl) hN
theorem YJ (T:TypeId) (x y:Operand) (yT:TypeId) (a b:Nat) (hx:evA t x = .v (.int .i64 (a:Int))) (hy:evA t y = .v (.int .i64 (b:Int))) (hb:0 < b) (ha:a ≤ 9223372036854775807) (hN:d < N) :
  qv C.P N ⟨some d,.binOp .quo T x y yT,ty,pos,af,gd⟩ t h ⟨qM x ++ qM y,[],some d,.v (.int .i64 ((a / b:Nat):Int)),[],[]⟩ :=
 z6 .quo T x y yT .i64 a b _ hx hy rfl (fun w=>by
  have h0:¬ (b:Int) = 0:=by omega
  have h1:((a:Int).tdiv (b:Int)) = ((a / b:Nat):Int):=by rw [Int.tdiv_eq_ediv_of_nonneg (by omega)];rfl
  have h2:a / b ≤ a:=Nat.div_le_self a b
  have h3:IntKind.i64.wrap ((a / b:Nat):Int) = ((a / b:Nat):Int):=IntWalk.i64_in _ ⟨Int.le_trans (by decide) (Int.natCast_nonneg (a / b)),Int.ofNat_le.2 (Nat.le_trans h2 ha)⟩
  simp only [binOp,Op.intDiv,h0,h1,h3,if_false]
  rfl) hN
theorem Qc (src dst e:TypeId) (x:Operand) (ex:Bool) (n:Int) (rs r re:TRec) (hx:evA t x = .sl ex [[.v (.int .u8 n)]]) (hs:qO C.tab src = some rs) (hs' : rs.kind = .slice e) (hE:qO C.tab e = some re) (he' : re.kind = .int .u8) (hT:qO C.tab dst = some r) (he:r.kind = .string) (hN:d < N) :
  qv C.P N ⟨some d,.convert src dst x,ty,pos,af,gd⟩ t h ⟨qM x,[],some d,.v (str [UInt8.ofNat n.toNat]),[],[]⟩ :=
 qz _ _ rfl hN fun F ρ a w hag hs1 _=>by
  have h1:=qd (x:=x) hs1 (fun j hj=>hj)
  rw [hx] at h1
  have hu:=yj (C.ok _ r hT) he
  have hu2:=jS (C.ok _ rs hs) hs'
  have hu3:=ki (C.ok _ re hE) he'
  refine ⟨str [UInt8.ofNat n.toNat],?_,.v _ _ rfl⟩
  rcases h1.sl_inv with ⟨h0,_⟩|⟨b,o,cap,c,e',fr,kk,hb,_,_,hsz,hkk,hR,hv⟩
  ·cases h0
  ·have hk:kk = 1:=(hkk _ (List.mem_singleton.2 rfl)).symm
   subst hk
   have hbw:=hag b _ hb
   have hlt:o < c.size:=by simp at hsz;omega
   have hcv:c[o]? = some c[o]:=Array.getElem?_eq_getElem hlt
   have hcell:=(hR 0 0 _ _ c[o] rfl rfl (by simp)).v_inv.1
   have hld:=run_loadCells_list (P:=C.P) w ⟨b,o,none⟩ [.int .u8 n] (fun i v hiv=>by
    cases i with
    | zero =>
      simp only [List.getElem?_cons_zero,Option.some.injEq] at hiv
      subst hiv
      have:(⟨b,o,none⟩ : Addr).add 0 = ⟨b,o,none⟩:=by unfold Addr.add;split<;>simp_all
      rw [this]
      simp [World.cell?,hbw,hcv,hcell]
    | succ i=>simp at hiv)
   simp only [List.length_singleton] at hld
   simp [execOp,hv,convert,run_underlying hu,run_underlying hu2,run_underlying hu3,Conv.bytesToString,hld,str]
   rfl
end ops
end Go.Ab
set_option linter.unusedSimpArgs false
set_option linter.unnecessarySimpa false
set_option linter.unusedVariables false
namespace Go.Ab
open Go.RowKit
section steps
variable {C:Cx} {N:Nat} {all:Array Oper} {es:List Eff} {o:Oper} {os:List Oper} {K:List Eff → St → Prop} {ts:List (Nat × AV)} {hs:List (Nat × HB)} {nx:Nat} {gd:List Nat}
theorem xH {rt rh:List Nat} {d:Nat} {x:AV} {ty:TypeId} {pos:String} {af:Array Edge} {gg:Option (Nat × Bool)} {T len:Nat} {ps:_} (k:jW C N all (⟨gd ++ rt,rh,some d,x,[],[]⟩ :: es) ⟨(d,x) :: ts,hs,nx⟩ os K) (hE:qv C.P N ⟨some d,.buildSlice T len ps,ty,pos,af,gg⟩ (qg ts) (qh hs) ⟨rt,rh,some d,x,[],[]⟩:=by (first|(apply vN;rfl;rfl;rfl;exact nle rfl)|(apply vB;rfl;rfl;rfl;rfl;exact ⟨rfl,rfl⟩;rfl;exact nle rfl;exact nle rfl)|(apply xa;(conv=>lhs;whnf);rfl;rfl;rfl;exact ⟨rfl,rfl⟩;rfl;exact nle rfl;exact nle rfl)|(apply yu;rfl;rfl;rfl;rfl;rfl;rfl;rfl;exact nle rfl;exact nle rfl))):jq C N all gd es ⟨ts,hs,nx⟩ ⟨some d,.buildSlice T len ps,ty,pos,af,gg⟩ os K:=qt hE k
theorem YW {rt rh:List Nat} {d:Nat} {x:AV} {ty:TypeId} {pos:String} {af:Array Edge} {gg:Option (Nat × Bool)} {T:TypeId} {X:Operand} {lo hi mx:_} (k:jW C N all (⟨gd ++ rt,rh,some d,x,[],[]⟩ :: es) ⟨(d,x) :: ts,hs,nx⟩ os K) (hE:qv C.P N ⟨some d,.slice T X lo hi mx,ty,pos,af,gg⟩ (qg ts) (qh hs) ⟨rt,rh,some d,x,[],[]⟩:=by (apply wu;(case hx=>rfl);(case hT=>rfl);(case he=>rfl);(case ha=>first|exact ⟨_,rfl⟩|rfl);(case hb=>first|exact ⟨_,rfl⟩|rfl);(case hab=>(first|omega|(simp<;>fail)|(simp only [List.length_cons,List.length_nil,List.length_map];omega)|(simp;omega)));(case hbl=>(first|omega|(simp<;>fail)|(simp only [List.length_cons,List.length_nil,List.length_map];omega)|(simp;omega)));(case hN=>exact nle rfl))):jq C N all gd es ⟨ts,hs,nx⟩ ⟨some d,.slice T X lo hi mx,ty,pos,af,gg⟩ os K:=qt hE k
theorem YU {rt rh:List Nat} {d:Nat} {x:AV} {ty:TypeId} {pos:String} {af:Array Edge} {gg:Option (Nat × Bool)} {hb:HB} {as:Array Operand} {tys:Array TypeId} (k:jW C N all (⟨gd ++ rt,rh,some d,x,[(nx,hb)],[nx]⟩ :: es) ⟨(d,x) :: ts,(nx,hb) :: hs,nx + 1⟩ os K) (hE:qv C.P N ⟨some d,.call ⟨.builtin .append,as,tys⟩,ty,pos,af,gg⟩ (qg ts) (qh hs) ⟨rt,rh,some d,x,[(nx,hb)],[nx]⟩:=by (apply kD;(case hx=>rfl);(case hT=>rfl);(case he=>rfl);(case hE=>rfl);(case hz=>rfl);(case hsrc=>(first|(apply wL;rfl;rfl)|(apply QC;rfl;intro a;rfl)|(apply JC;rfl;rfl;first|omega|(simp<;>fail)|(simp;omega);rfl;first|rfl|exact vq fun _=>rfl)));(case hsz=>(first|omega|(simp<;>fail)|(simp only [List.length_cons,List.length_nil,List.length_map];omega)|(simp;omega)));(case hlen=>(first|omega|(simp<;>fail)|(simp only [List.length_cons,List.length_nil,List.length_map];omega)|(simp;omega)));(case hN=>exact nle rfl))):jq C N all gd es ⟨ts,hs,nx⟩ ⟨some d,.call ⟨.builtin .append,as,tys⟩,ty,pos,af,gg⟩ os K:=y0 hE k
theorem YV {rt rh:List Nat} {d:Nat} {x:AV} {ty:TypeId} {pos:String} {af:Array Edge} {gg:Option (Nat × Bool)} {hb hb' : HB} {m:Nat} {as:Array Operand} {tys:Array TypeId} (k:jW C N all (⟨gd ++ rt,rh,some d,x,[(nx,hb),(m,hb')],[nx]⟩ :: es) ⟨(d,x) :: ts,(nx,hb) :: (m,hb') :: hs,nx + 1⟩ os K) (hE:qv C.P N ⟨some d,.call ⟨.builtin .append,as,tys⟩,ty,pos,af,gg⟩ (qg ts) (qh hs) ⟨rt,rh,some d,x,[(nx,hb),(m,hb')],[nx]⟩:=by (apply kE;(case hx=>rfl);(case hT=>rfl);(case he=>rfl);(case hE=>rfl);(case hn=>rfl);(case hl=>(first|omega|(simp<;>fail)|(simp only [List.length_cons,List.length_nil,List.length_map];omega)|(simp;omega)));(case hz=>rfl);(case hsrc=>(first|(apply wL;rfl;rfl)|(apply QC;rfl;intro a;rfl)|(apply JC;rfl;rfl;first|omega|(simp<;>fail)|(simp;omega);rfl;first|rfl|exact vq fun _=>rfl)));(case hsz=>(first|omega|(simp<;>fail)|(simp only [List.length_cons,List.length_nil,List.length_map];omega)|(simp;omega)));(case hlen=>(first|omega|(simp<;>fail)|(simp only [List.length_cons,List.length_nil,List.length_map];omega)|(simp;omega)));(case hmn=>exact Nat.ne_of_beq_eq_false rfl);(case hN=>exact nle rfl))):jq C N all gd es ⟨ts,hs,nx⟩ ⟨some d,.call ⟨.builtin .append,as,tys⟩,ty,pos,af,gg⟩ os K:=Qp hE k
def xM (C:Cx) (N:Nat) (all:Array Oper) (gd:List Nat) (es:List Eff) (σ:St) (f:FuncId) (args:List Operand) (d:Nat) (tys:Array TypeId) (ty:TypeId) (pos:String) (af:Array Edge) (gg:Option (Nat × Bool)) (os:List Oper) (K:List Eff → St → Prop):Prop :=
 jq C N all gd es σ ⟨some d,.call ⟨.value (.func f),args.toArray,tys⟩,ty,pos,af,gg⟩ os K
theorem qc {σ:St} {d:Nat} {ty:TypeId} {pos:String} {af:Array Edge} {gg:Option (Nat × Bool)} {f:FuncId} {fn:Func} {args:List Operand} {tys:Array TypeId} (hf:C.P.funcs[f]? = some fn) (hb0:fn.body.isNone = false) (hn0:(fn.name == "runtime.NumGoroutine") = false) (k:IsFn C.P f → xM C N all gd es σ f args d tys ty pos af gg os K) :
  jq C N all gd es σ ⟨some d,.call ⟨.value (.func f),args.toArray,tys⟩,ty,pos,af,gg⟩ os K:=k (qW hf hb0 hn0)
theorem VM {d:Nat} {ty:TypeId} {pos:String} {af:Array Edge} {gg:Option (Nat × Bool)} {f:FuncId} {args:List Operand} {tys:Array TypeId} {ys:List AV} {r:AV} (hf:IsFn C.P f) (hc:qu C.P f ys [] r []) (k:jW C N all (⟨gd ++ (qM (.func f) ++ args.flatMap qM),[],some d,r,[],[]⟩ :: es) ⟨(d,r) :: ts,hs,nx⟩ os K)
  (hz:vn (xI [] (qh hs)) (args.map (evA (qg ts))) ys:=by ((repeat' (first|exact jf|apply qS|exact qN rfl|exact jZ|apply jx|apply jy))<;>fail)) (hfl:QP r = true:=by rfl) (hN:d < N:=by exact nle rfl):xM C N all gd es ⟨ts,hs,nx⟩ f args d tys ty pos af gg os K :=
 qt (Jp [] hf hc hz hfl hN) k
theorem VN {d:Nat} {ty:TypeId} {pos:String} {af:Array Edge} {gg:Option (Nat × Bool)} {f:FuncId} {args:List Operand} {tys:Array TypeId} {ys:List AV} {r:AV} (hf:IsFn C.P f) (hc:qu C.P f ys [] r []) (k:jW C N all (⟨gd ++ (qM (.func f) ++ args.flatMap qM),[],some d,r,[],[]⟩ :: es) ⟨(d,r) :: ts,hs,nx⟩ os K)
  (hz:qP [] [] (qh hs) (args.map (evA (qg ts))) ys:=by ((repeat' (first|exact jd|apply qT|exact jc rfl|exact jF|(apply zO;rfl;exact List.mem_cons_self ..;exact nle rfl)|(apply Jj;exact List.mem_cons_self ..)|apply jo|apply jp))<;>fail)) (hr:r.pure = true:=by rfl) (hN:d < N:=by exact nle rfl):xM C N all gd es ⟨ts,hs,nx⟩ f args d tys ty pos af gg os K :=
 qt (Qe [] hf hc hz hr hN) k
end steps
section guards
variable {C:Cx} {N:Nat} {all:Array Oper} {es:List Eff} {os:List Oper} {K:List Eff → St → Prop} {ts:List (Nat × AV)} {hs:List (Nat × HB)} {nx:Nat} {j d d' : Nat} {op:Op} {ty:TypeId} {pos:String} {af:Array Edge}
end guards
section conds
variable {C:Cx} {N:Nat} {Q:Exit → St → Prop} {σ:St} {c:Operand} {x y:Code}
end conds
section keeps
variable {L:List (Nat × Nat)} {nh:Nat} {σ:St} {i:Nat}
theorem jt {x:AV} {l:List (Nat × AV)} (hl:jX L nh σ l) (hx:qg σ.ts i = x:=by rfl) (hp:x.pure = true:=by first|rfl|(simp [AV.pure,AV.pure.pureL, *]<;>fail)):jX L nh σ ((i,x) :: l):=kY hx hp hl
theorem y5 {x y:AV} {l:List (Nat × AV)} (hl:jX L nh σ l) (hxy:x = y) (hx:qg σ.ts i = x:=by (conv=>lhs;whnf)) (hp:y.pure = true:=by rfl):jX L nh σ ((i,y) :: l):=XV hx hxy hp hl
theorem y6 {n n' a b:Nat} {l:List (Nat × AV)} (hl:jX L nh σ l) (hx:qg σ.ts i = .op n a b:=by rfl) (hm:Maps L nh n n':=by (first|exact js rfl|exact .inr (List.mem_cons_self ..)|exact .inr (List.mem_cons_of_mem _ (List.mem_cons_self ..))|exact .inr (List.mem_cons_of_mem _ (List.mem_cons_of_mem _ (List.mem_cons_self ..)))|exact .inr (List.mem_cons_of_mem _ (List.mem_cons_of_mem _ (List.mem_cons_of_mem _ (List.mem_cons_self ..)))))):jX L nh σ ((i,.op n' a b) :: l):=XX hx hm hl
theorem yg {n n' off len len' : Nat} {l:List (Nat × AV)} (hl:jX L nh σ l) (he:len = len') (hx:qg σ.ts i = .os n off len:=by rfl) (hm:Maps L nh n n':=by (first|exact js rfl|exact .inr (List.mem_cons_self ..)|exact .inr (List.mem_cons_of_mem _ (List.mem_cons_self ..))|exact .inr (List.mem_cons_of_mem _ (List.mem_cons_of_mem _ (List.mem_cons_self ..)))|exact .inr (List.mem_cons_of_mem _ (List.mem_cons_of_mem _ (List.mem_cons_of_mem _ (List.mem_cons_self ..)))))):jX L nh σ ((i,.os n' off len') :: l):=JF hx hm he hl
theorem yf {n n' off len len' : Nat} {l:List (Nat × AV)} (hl:jX L nh σ l) (hx:qg σ.ts i = .os n off len:=by rfl) (hm:Maps L nh n n':=by (first|exact js rfl|exact .inr (List.mem_cons_self ..)|exact .inr (List.mem_cons_of_mem _ (List.mem_cons_self ..))|exact .inr (List.mem_cons_of_mem _ (List.mem_cons_of_mem _ (List.mem_cons_self ..)))|exact .inr (List.mem_cons_of_mem _ (List.mem_cons_of_mem _ (List.mem_cons_of_mem _ (List.mem_cons_self ..)))))) (he:len = len':=by first|with_reducible rfl|omega):jX L nh σ ((i,.os n' off len') :: l):=JF hx hm he hl
theorem VE {n n' : Nat} {ex ex' : Bool} {k:Nat} {rows rows' : List (List AV)} {l:List (Nat × HB)} (hl:jO L nh σ l) (hm:Maps L nh n n':=by (first|exact js rfl|exact .inr (List.mem_cons_self ..)|exact .inr (List.mem_cons_of_mem _ (List.mem_cons_self ..))|exact .inr (List.mem_cons_of_mem _ (List.mem_cons_of_mem _ (List.mem_cons_self ..)))|exact .inr (List.mem_cons_of_mem _ (List.mem_cons_of_mem _ (List.mem_cons_of_mem _ (List.mem_cons_self ..)))))) (hx:qh σ.hs n = .own ex k rows:=by rfl) (he:ex' = true → ex = true:=by first|exact id|exact nofun) (hp : ∀ row,row ∈ rows' → AV.pure.pureL row = true:=by first|assumption|exact zo rfl|exact zp fun _=>rfl) (hr:rows = rows':=by with_reducible rfl):jO L nh σ ((n',.own ex' k rows') :: l):=XC hx hm he hr hp hl
end keeps
theorem jP {C:Cx} {rs:List ResultVar} {nh:Nat} {σ:St} {xs:List AV} {r:AV} (hz:Rz (qh σ.hs) (jE xs) r) (hr:ResOk C σ rs xs:=by ((repeat (first|exact qq|(apply qr;rfl)|(apply qm;rfl;rfl;rfl;rfl;rfl)))<;>fail)):Fin C rs.toArray nh r [] σ:=ka hr hz
theorem xp {h:Nat → HB} {n len:Nat} {ex:Bool} {k:Nat} {rows:List (List AV)} (hn:h n = .own ex k rows:=by rfl) (hl:len = rows.length:=by first|with_reducible rfl|(simp<;>fail)|(simp [*]<;>fail)|omega) (hp : ∀ row,row ∈ rows → AV.pure.pureL row = true:=by (first|assumption|exact zo rfl|exact zp fun _=>rfl)):Rz h (.os n 0 len) (.sl false rows):=ky hn hl hp
theorem xo {h:Nat → HB} {n len:Nat} {ex:Bool} {k:Nat} {rows rows' : List (List AV)} (he:rows = rows') (hn:h n = .own ex k rows:=by rfl) (hl:len = rows.length:=by first|with_reducible rfl|(simp<;>fail)|(simp [*]<;>fail)|omega) (hp : ∀ row,row ∈ rows' → AV.pure.pureL row = true:=by (first|assumption|exact zo rfl|exact zp fun _=>rfl)):Rz h (.os n 0 len) (.sl false rows'):=Xb hn hl he hp
structure Hold (G:Prop):Prop where
 out:G
theorem kL {G G' : Prop} (k:G') (h:Hold G' → G:=by intro key;(first|(apply qt;first|(apply wn;(conv=>lhs;whnf);exact nle rfl)|(apply zb;(conv=>lhs;whnf);exact nle rfl)|(apply yM;rfl;(conv=>lhs;whnf);exact nle rfl)|(apply yz;rfl;(conv=>lhs;whnf);exact nle rfl)|(apply wm;rfl;rfl;rfl;exact nle rfl)|(apply yv;rfl;rfl;rfl;rfl;exact nofun;exact nle rfl)|(apply yH;rfl;rfl;rfl;rfl;exact nofun;exact nle rfl)|(apply yJ;rfl;rfl;rfl;(first|rfl|assumption|(apply ql;assumption)|(apply ql;apply ql;assumption));rfl;rfl;exact nle rfl)|(apply yW;rfl;rfl;(first|rfl|assumption|(apply ql;assumption)|(apply ql;apply ql;assumption));rfl;rfl;exact nle rfl)|(apply yX;rfl;rfl;rfl;rfl;rfl;rfl;exact nle rfl)|(apply xb;rfl;rfl;rfl;(first|rfl|assumption|(apply ql;assumption)|(apply ql;apply ql;assumption));(conv=>lhs;whnf);exact nle rfl)|(apply xw;rfl;rfl;(first|rfl|assumption|(apply ql;assumption)|(apply ql;apply ql;assumption));(conv=>lhs;whnf);exact nle rfl)|(apply wr;rfl;rfl;rfl;exact nle rfl)|(apply zc;rfl;rfl;rfl;exact nle rfl)|(apply vE;rfl;rfl;rfl;exact nle rfl)|(apply vD;rfl;rfl;rfl;exact nle rfl)|(apply yI;rfl;rfl;rfl;rfl;rfl;(first|rfl|assumption|(apply ql;assumption)|(apply ql;apply ql;assumption));rfl;exact nle rfl)|(apply xv;rfl;rfl;rfl;rfl;(first|rfl|assumption|(apply ql;assumption)|(apply ql;apply ql;assumption));exact nle rfl)|(apply wx;rfl;rfl;omega;exact nle rfl)|(apply wo;rfl;rfl;omega;exact nle rfl)|(apply wi;rfl;rfl;omega;omega;exact nle rfl)|(apply ww;rfl;rfl;omega;omega;exact nle rfl)|(apply QO;rfl;exact nle rfl)|(apply vC;rfl;(conv=>lhs;whnf);exact nle rfl)|(apply z1;rfl;rfl;rfl;rfl;(conv=>lhs;whnf);exact nle rfl)|(apply ve (b':=true);rfl;assumption;(conv=>lhs;whnf);exact nle rfl)|(apply ve (b':=false);rfl;assumption;(conv=>lhs;whnf);exact nle rfl)|(apply wl;exact nle rfl)|(apply yZ;rfl;exact nle rfl)|(apply yY;rfl;exact nle rfl)|(apply xS;rfl;rfl;rfl;(conv=>lhs;whnf);exact nle rfl)|(apply xx;rfl;rfl;rfl;rfl;(conv=>lhs;whnf);exact nle rfl)|(apply wq;rfl;rfl;(first|omega|(simp<;>fail)|(simp only [List.length_cons,List.length_nil,List.length_map];omega)|(simp;omega));exact nle rfl))|(apply y0;first|(apply zX;rfl;exact nle rfl)|(apply QM;rfl;exact nle rfl))|(apply xC;apply z7;rfl;rfl;rfl;(first|rfl|assumption|(apply ql;assumption)|(apply ql;apply ql;assumption));rfl;rfl;exact nle rfl)|apply km|(apply qI;exact nle rfl;refine ⟨?_,?_⟩;first|exact fun h=>absurd h Bool.false_ne_true|(intro _;kernel_rfl))|(apply kq;rfl;rfl;exact nle rfl)|(apply kp;rfl;rfl;exact nle rfl)|(apply zn;rfl;rfl;exact nle rfl)|(apply zm;rfl;rfl;exact nle rfl)|(apply xB;rfl;rfl;exact nle rfl)|(apply wG;rfl;rfl;assumption;exact nle rfl)|(apply ko;rfl;rfl;assumption;exact nle rfl)|(apply kn;rfl;rfl;assumption;exact nle rfl)|apply wa|refine vw ?_|(apply xt;rfl)|(apply xr;rfl)|(apply vv;rfl;assumption)|(apply vu;rfl;assumption)|apply vZ|apply zR|apply zQ|apply k9);(repeat (first|(apply qt;first|(apply wn;(conv=>lhs;whnf);exact nle rfl)|(apply zb;(conv=>lhs;whnf);exact nle rfl)|(apply yM;rfl;(conv=>lhs;whnf);exact nle rfl)|(apply yz;rfl;(conv=>lhs;whnf);exact nle rfl)|(apply wm;rfl;rfl;rfl;exact nle rfl)|(apply yv;rfl;rfl;rfl;rfl;exact nofun;exact nle rfl)|(apply yH;rfl;rfl;rfl;rfl;exact nofun;exact nle rfl)|(apply yJ;rfl;rfl;rfl;(first|rfl|assumption|(apply ql;assumption)|(apply ql;apply ql;assumption));rfl;rfl;exact nle rfl)|(apply yW;rfl;rfl;(first|rfl|assumption|(apply ql;assumption)|(apply ql;apply ql;assumption));rfl;rfl;exact nle rfl)|(apply yX;rfl;rfl;rfl;rfl;rfl;rfl;exact nle rfl)|(apply xb;rfl;rfl;rfl;(first|rfl|assumption|(apply ql;assumption)|(apply ql;apply ql;assumption));(conv=>lhs;whnf);exact nle rfl)|(apply xw;rfl;rfl;(first|rfl|assumption|(apply ql;assumption)|(apply ql;apply ql;assumption));(conv=>lhs;whnf);exact nle rfl)|(apply wr;rfl;rfl;rfl;exact nle rfl)|(apply zc;rfl;rfl;rfl;exact nle rfl)|(apply vE;rfl;rfl;rfl;exact nle rfl)|(apply vD;rfl;rfl;rfl;exact nle rfl)|(apply yI;rfl;rfl;rfl;rfl;rfl;(first|rfl|assumption|(apply ql;assumption)|(apply ql;apply ql;assumption));rfl;exact nle rfl)|(apply xv;rfl;rfl;rfl;rfl;(first|rfl|assumption|(apply ql;assumption)|(apply ql;apply ql;assumption));exact nle rfl)|(apply wx;rfl;rfl;omega;exact nle rfl)|(apply wo;rfl;rfl;omega;exact nle rfl)|(apply wi;rfl;rfl;omega;omega;exact nle rfl)|(apply ww;rfl;rfl;omega;omega;exact nle rfl)|(apply QO;rfl;exact nle rfl)|(apply vC;rfl;(conv=>lhs;whnf);exact nle rfl)|(apply z1;rfl;rfl;rfl;rfl;(conv=>lhs;whnf);exact nle rfl)|(apply ve (b':=true);rfl;assumption;(conv=>lhs;whnf);exact nle rfl)|(apply ve (b':=false);rfl;assumption;(conv=>lhs;whnf);exact nle rfl)|(apply wl;exact nle rfl)|(apply yZ;rfl;exact nle rfl)|(apply yY;rfl;exact nle rfl)|(apply xS;rfl;rfl;rfl;(conv=>lhs;whnf);exact nle rfl)|(apply xx;rfl;rfl;rfl;rfl;(conv=>lhs;whnf);exact nle rfl)|(apply wq;rfl;rfl;(first|omega|(simp<;>fail)|(simp only [List.length_cons,List.length_nil,List.length_map];omega)|(simp;omega));exact nle rfl))|(apply y0;first|(apply zX;rfl;exact nle rfl)|(apply QM;rfl;exact nle rfl))|(apply xC;apply z7;rfl;rfl;rfl;(first|rfl|assumption|(apply ql;assumption)|(apply ql;apply ql;assumption));rfl;rfl;exact nle rfl)|apply km|(apply qI;exact nle rfl;refine ⟨?_,?_⟩;first|exact fun h=>absurd h Bool.false_ne_true|(intro _;kernel_rfl))|(apply kq;rfl;rfl;exact nle rfl)|(apply kp;rfl;rfl;exact nle rfl)|(apply zn;rfl;rfl;exact nle rfl)|(apply zm;rfl;rfl;exact nle rfl)|(apply xB;rfl;rfl;exact nle rfl)|(apply wG;rfl;rfl;assumption;exact nle rfl)|(apply ko;rfl;rfl;assumption;exact nle rfl)|(apply kn;rfl;rfl;assumption;exact nle rfl)|apply wa|refine vw ?_|(apply xt;rfl)|(apply xr;rfl)|(apply vv;rfl;assumption)|(apply vu;rfl;assumption)|apply vZ|apply zR|apply zQ|apply k9));exact key.out):G:=h ⟨k⟩
section xs
variable {C:Cx} {N:Nat}
theorem xsC {c:Operand} {x y:Code} {b:Bool} {Q:Exit → St → Prop} {σ:St} (ht:b = true → Awp C N x Q σ) (hf:b = false → Awp C N y Q σ) (hc:evA (qg σ.ts) c = .v (.bool b):=by rfl):Awp C N (.cond c x y) Q σ:=Yw hc ht hf
theorem jn {c:Operand} {x y:Code} {Q:Exit → St → Prop} {σ:St} (ht:Awp C N x Q σ) (hf:Awp C N y Q σ) (hc:evA (qg σ.ts) c = .anyb:=by rfl):Awp C N (.cond c x y) Q σ:=k8 hc ht hf
theorem V7 {rs:List ResultVar} {nh:Nat} {σ:St} {xs:List AV} {r:AV} (hr:ResOk C σ rs xs:=by ((repeat (first|exact qq|(apply qr;rfl)|(apply qm;rfl;rfl;rfl;rfl;rfl)))<;>fail)) (hz:Rz (qh σ.hs) (jE xs) r:=by (repeat' (first|exact jf|apply qS|exact qN rfl|exact jZ|exact xp|apply jx|apply jM|apply jy|apply jK|apply jl|apply jL|refine xo ?_|apply yi))<;>fail):Fin C rs.toArray nh r [] σ:=ka hr hz
theorem V6 {rs:List ResultVar} {σ:St} {xs:List AV} {r:AV} {H' : List HB} {ids:List (Nat × Nat)} (L:List (Nat × Nat)) (nx:Nat) (hh:jO L C.nh σ (yL 0 H')) (hr:ResOk C σ rs xs:=by ((repeat (first|exact qq|(apply qr;rfl)|(apply qm;rfl;rfl;rfl;rfl;rfl)))<;>fail)) (hL:xh C.nh nx L = true:=by rfl) (hi:(List.range C.nh).map (fun n=>(n,n)) = ids:=by first|exact (rfl:_ = ([]:List (Nat × Nat)))|exact (rfl:_ = [((0:Nat),(0:Nat))])|exact (rfl:_ = [((0:Nat),(0:Nat)),(1,1)])) (hz:(jE xs).ren (ids ++ L) = r:=by first|rfl|(simp [jE,AV.ren,AV.ren.renL,ja,qg,qV]<;>fail)|(simp [jE,AV.ren,AV.ren.renL,ja,qg,qV, *]<;>fail)):Fin C rs.toArray C.nh r H' σ:=qx L nx hr hL hh hi hz
end xs
section xc
variable {C:Cx} {N:Nat} {all:Array Oper} {es:List Eff} {os:List Oper} {K:List Eff → St → Prop} {ts:List (Nat × AV)} {hs:List (Nat × HB)} {nx:Nat} {gd:List Nat}
theorem xsF {d:Nat} {ty:TypeId} {pos:String} {af:Array Edge} {gg:Option (Nat × Bool)} {f:FuncId} {fn:Func} {args:List Operand} {tys:Array TypeId} {ys:List AV} {r:AV} (hf:C.P.funcs[f]? = some fn) (hc:qu C.P f ys [] r []) (k:jW C N all (⟨gd ++ (qM (.func f) ++ args.flatMap qM),[],some d,r,[],[]⟩ :: es) ⟨(d,r) :: ts,hs,nx⟩ os K)
  (hb0:fn.body.isNone = false:=by rfl) (hn0:(fn.name == "runtime.NumGoroutine") = false:=by rfl) (hz:vn (xI [] (qh hs)) (args.map (evA (qg ts))) ys:=by ((repeat' (first|exact jf|apply qS|exact qN rfl|exact jZ|apply jx|apply jy))<;>fail)) (hfl:QP r = true:=by rfl) (hN:d < N:=by exact nle rfl):jq C N all gd es ⟨ts,hs,nx⟩ ⟨some d,.call ⟨.value (.func f),args.toArray,tys⟩,ty,pos,af,gg⟩ os K :=
 qt (Jp [] (qW hf hb0 hn0) hc hz hfl hN) k
theorem VP {d:Nat} {ty:TypeId} {pos:String} {af:Array Edge} {gg:Option (Nat × Bool)} {f:FuncId} {fn:Func} {args:List Operand} {tys:Array TypeId} {ys:List AV} {r:AV} (hf:C.P.funcs[f]? = some fn) (hc:qu C.P f ys [] r []) (k:jW C N all (⟨gd ++ (qM (.func f) ++ args.flatMap qM),[],some d,r,[],[]⟩ :: es) ⟨(d,r) :: ts,hs,nx⟩ os K)
  (hb0:fn.body.isNone = false:=by rfl) (hn0:(fn.name == "runtime.NumGoroutine") = false:=by rfl) (hz:qP [] [] (qh hs) (args.map (evA (qg ts))) ys:=by ((repeat' (first|exact jd|apply qT|exact jc rfl|exact jF|(apply zO;rfl;exact List.mem_cons_self ..;exact nle rfl)|(apply Jj;exact List.mem_cons_self ..)|apply jo|apply jp))<;>fail)) (hr:r.pure = true:=by rfl) (hN:d < N:=by exact nle rfl):jq C N all gd es ⟨ts,hs,nx⟩ ⟨some d,.call ⟨.value (.func f),args.toArray,tys⟩,ty,pos,af,gg⟩ os K :=
 qt (Qe [] (qW hf hb0 hn0) hc hz hr hN) k
end xc
end Go.Ab
set_option linter.unusedSimpArgs false
set_option linter.unusedVariables false
namespace Go.Ab
open Go.RowKit
theorem JK {P:Program} {f:FuncId} {ys:List AV} {r:Value} (hp:AV.pure.pureL ys = true) (hr:vI r = true)
  (h : ∀ (F:Still) w vs,(∀ b o,F b = some o → w.heap[b]? = some o) → (∀ b p,yd b = some p → ∃ cs e fr,p cs ∧ F b = some (.cells cs e fr)) → AllM F noPlaces vs ys → Calls P f vs.toArray w fun e w'=>e = .returned r ∧ Below w.heap.size w w'):zr P f ys (.v r):=by
 intro B vs w hl hN ⟨g1,g2,F,ρ,hh,g4⟩
 have hm:AllM F noPlaces vs ys:=by
  refine ⟨hl,fun i v y hv hy=>?_⟩
  have hi:i < vs.length:=(List.getElem?_eq_some_iff.1 hv).1
  have:=g4 i
  simp only [Array.getD_eq_getD_getElem?,List.getElem?_toArray,hv,Option.getD_some,List.getD_eq_getElem?_getD,hy] at this
  exact this.moved _ (jV hp hy)
 refine (h F w vs hh.agree (fun b p hb=>(B.tab b p hb).imp fun cs h=>h.imp fun e h=>h.imp fun fr h=>⟨h.1,hh.grow b _ h.2⟩) hm).mono fun e w' ⟨he,hb⟩=>⟨r,he,g1,rfl,F,ρ,?_,fun i=>?_⟩
 ·refine { kept:=⟨hb.os.trans hh.kept.os,hb.tape.trans hh.kept.tape,hb.output.trans hh.kept.output,Nat.le_trans hh.kept.size hb.size,fun b hlt ho=>?_⟩,agree:=fun b o hF=>?_,grow:=hh.grow,fresh:=hh.fresh,names:=hh.names,dom:=fun _ _=>trivial,own:=fun n=>by simp [OwnAt],new:=fun n b c hn=>by simp [HB.isOwn] at hn,sep:=fun n m b c c' _ hn=>by simp [HB.isOwn] at hn }
  ·rw [hb.block b (Nat.lt_of_lt_of_le hlt hh.kept.size)];exact hh.kept.block b hlt ho
  ·have h0:=hh.agree b o hF
   rw [hb.block b (Array.getElem?_eq_some_iff.1 h0).1];exact h0
 ·by_cases hi:i = 0
  ·subst hi;exact .v _ _ hr
  ·unfold one;rw [if_neg hi];exact .junk _ _
end Go.Ab
set_option linter.unusedSimpArgs false
set_option linter.unnecessarySimpa false
set_option linter.unusedVariables false
namespace Go.Ab
open Go.RowKit
end Go.Ab
