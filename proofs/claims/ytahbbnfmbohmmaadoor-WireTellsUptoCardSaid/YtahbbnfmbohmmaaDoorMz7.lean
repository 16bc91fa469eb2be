import Derived.Test.YtahbbnfmbohmmaaDoorMz6
import Derived.Lib.Bytealg
import Derived.Test.YtahbbnfmbohmmaaDoorMz1
set_option linter.unusedSimpArgs false
set_option linter.unnecessarySimpa false
set_option linter.unusedVariables false
namespace Go.Ab
open Go.RowKit
section ops
variable {C:Cx} {N d:Nat} {ty:TypeId} {pos:String} {af:Array Edge} {gd:Option (Nat × Bool)} {t:Nat → AV} {h:Nat → HB}
theorem Vo (f:FuncId) (fn:Func) (tys:Array TypeId) (x y:Operand) (a b r:Value) (e:Array Value → Sem Value) (hf:C.P.funcs[f]? = some fn) (hname:(fn.name == "runtime.NumGoroutine") = false)
  (hb:fn.body.isNone = true) (hnx:Extern.findNext fn = none) (hex:Extern.find fn = some e) (hx:evA t x = .v a) (hy:evA t y = .v b) (hrun : ∀ w,(e #[a,b]).run C.P w = .ok r w) (hr:zc r = true) (hN:d < N) :
  qz C.P N ⟨some d,.call ⟨.value (.func f), #[x,y],tys⟩,ty,pos,af,gd⟩ t h ⟨qW x ++ qW y,[],some d,.v r,[],[]⟩ :=
 qC _ _ rfl hN fun F ρ act w _ hs _=>by
  have h1:=qf (x:=x) hs (fun j hj=>List.mem_append_left _ hj)
  have h2:=qf (x:=y) hs (fun j hj=>List.mem_append_right _ hj)
  rw [hx] at h1;rw [hy] at h2
  obtain ⟨h1,_⟩:=h1.v_inv
  obtain ⟨h2,_⟩:=h2.v_inv
  refine ⟨r,?_,.v _ _ hr⟩
  have hcall:=run_callFunc_extern hf hname hb hnx hex #[act.eval x,act.eval y] w
  rw [h1,h2,hrun] at hcall
  have hcall' : Sem.run C.P (callFunc f #[act.eval x,act.eval y]) w = Result.ok (.value r) w:=by rw [h1,h2];exact hcall
  have he' : act.eval (.func f) = .func (.func f) #[] #[]:=rfl
  simp [execOp,resolve,invoke,he',Deferred.ofValue,hcall']
end ops
end Go.Ab
set_option linter.unusedSimpArgs false
set_option linter.unnecessarySimpa false
set_option linter.unusedVariables false
namespace Go.Ab
open Go.RowKit
section ops
variable {C:Cx} {N d:Nat} {ty:TypeId} {pos:String} {af:Array Edge} {gd:Option (Nat × Bool)} {t:Nat → AV} {h:Nat → HB}
theorem Xr (T:TypeId) (x y:Operand) (yT:TypeId) (a b:Nat) (hx:evA t x = .v (.int .i64 (a:Int))) (hy:evA t y = .v (.int .i64 (b:Int))) (hb:0 < b) (hN:d < N) :
  qz C.P N ⟨some d,.binOp .rem T x y yT,ty,pos,af,gd⟩ t h ⟨qW x ++ qW y,[],some d,.v (.int .i64 ((a % b:Nat):Int)),[],[]⟩ :=
 kz .rem T x y yT .i64 a b _ hx hy rfl (fun w=>by
  have h0:¬ (b:Int) = 0:=by omega
  have h1:((a:Int).tmod (b:Int)) = ((a % b:Nat):Int):=by rw [Int.tmod_eq_emod_of_nonneg (by omega)];rfl
  simp only [binOp,Op.intDiv,h0,h1,if_false]
  rfl) hN
theorem Xq (T:TypeId) (x y:Operand) (yT:TypeId) (a b:Nat) (hx:evA t x = .v (.int .i64 (a:Int))) (hy:evA t y = .v (.int .i64 (b:Int))) (hb:0 < b) (ha:a ≤ 9223372036854775807) (hN:d < N) :
  qz C.P N ⟨some d,.binOp .quo T x y yT,ty,pos,af,gd⟩ t h ⟨qW x ++ qW y,[],some d,.v (.int .i64 ((a / b:Nat):Int)),[],[]⟩ :=
 kz .quo T x y yT .i64 a b _ hx hy rfl (fun w=>by
  have h0:¬ (b:Int) = 0:=by omega
  have h1:((a:Int).tdiv (b:Int)) = ((a / b:Nat):Int):=by rw [Int.tdiv_eq_ediv_of_nonneg (by omega)];rfl
  have h2:a / b ≤ a:=Nat.div_le_self a b
  have h3:IntKind.i64.wrap ((a / b:Nat):Int) = ((a / b:Nat):Int):=IntWalk.i64_in _ ⟨Int.le_trans (by decide) (Int.natCast_nonneg (a / b)),Int.ofNat_le.2 (Nat.le_trans h2 ha)⟩
  simp only [binOp,Op.intDiv,h0,h1,h3,if_false]
  rfl) hN
theorem QO (src dst e:TypeId) (x:Operand) (ex:Bool) (n:Int) (rs r re:TRec) (hx:evA t x = .sl ex [[.v (.int .u8 n)]]) (hs:qX C.tab src = some rs) (hs' : rs.kind = .slice e) (hE:qX C.tab e = some re) (he' : re.kind = .int .u8) (hT:qX C.tab dst = some r) (he:r.kind = .string) (hN:d < N) :
  qz C.P N ⟨some d,.convert src dst x,ty,pos,af,gd⟩ t h ⟨qW x,[],some d,.v (str [UInt8.ofNat n.toNat]),[],[]⟩ :=
 qC _ _ rfl hN fun F ρ a w hag hs1 _=>by
  have h1:=qf (x:=x) hs1 (fun j hj=>hj)
  rw [hx] at h1
  have hu:=yG (C.ok _ r hT) he
  have hu2:=j7 (C.ok _ rs hs) hs'
  have hu3:=kH (C.ok _ re hE) he'
  refine ⟨str [UInt8.ofNat n.toNat],?_,.v _ _ rfl⟩
  rcases h1.sl_inv with ⟨h0,_⟩|⟨b,o,cap,c,e',fr,kk,hb,_,_,hsz,hkk,hR,hv⟩
  ·cases h0
  ·have hk:kk = 1:=(hkk _ (List.mem_singleton.2 rfl)).symm
   subst hk
   have hbw:=hag b _ hb
   have hlt:o < c.size:=by simp at hsz;omega
   have hcv:c[o]? = some c[o]:=Array.getElem?_eq_getElem hlt
   have hcell:=(hR 0 0 _ _ c[o] rfl rfl (by simp)).v_inv.1
   have hld:=run_loadCells_list (P:=C.P) w ⟨b,o,none⟩ [.int .u8 n] (fun i v hiv=>by
    cases i with
    | zero =>
      simp only [List.getElem?_cons_zero,Option.some.injEq] at hiv
      subst hiv
      have:(⟨b,o,none⟩ : Addr).add 0 = ⟨b,o,none⟩:=by unfold Addr.add;split<;>simp_all
      rw [this]
      simp [World.cell?,hbw,hcv,hcell]
    | succ i=>simp at hiv)
   simp only [List.length_singleton] at hld
   simp [execOp,hv,convert,run_underlying hu,run_underlying hu2,run_underlying hu3,Conv.bytesToString,hld,str]
   rfl
end ops
end Go.Ab
set_option linter.unusedSimpArgs false
set_option linter.unnecessarySimpa false
set_option linter.unusedVariables false
namespace Go.Ab
open Go.RowKit
section steps
variable {C:Cx} {N:Nat} {all:Array Oper} {es:List Eff} {o:Oper} {os:List Oper} {K:List Eff → St → Prop} {ts:List (Nat × AV)} {hs:List (Nat × HB)} {nx:Nat} {gd:List Nat}
theorem yl {rt rh:List Nat} {d:Nat} {x:AV} {ty:TypeId} {pos:String} {af:Array Edge} {gg:Option (Nat × Bool)} {T len:Nat} {ps:_} (k:jV C N all (⟨gd ++ rt,rh,some d,x,[],[]⟩ :: es) ⟨(d,x) :: ts,hs,nx⟩ os K) (hE:qz C.P N ⟨some d,.buildSlice T len ps,ty,pos,af,gg⟩ (qi ts) (qj hs) ⟨rt,rh,some d,x,[],[]⟩:=by (first|(apply zi;rfl;rfl;rfl;exact nle rfl)|(apply vU;rfl;rfl;rfl;rfl;exact ⟨rfl,rfl⟩;rfl;exact nle rfl;exact nle rfl)|(apply xt;(conv=>lhs;whnf);rfl;rfl;rfl;exact ⟨rfl,rfl⟩;rfl;exact nle rfl;exact nle rfl)|(apply yN;rfl;rfl;rfl;rfl;rfl;rfl;rfl;exact nle rfl;exact nle rfl))):jt C N all gd es ⟨ts,hs,nx⟩ ⟨some d,.buildSlice T len ps,ty,pos,af,gg⟩ os K:=qx hE k
theorem XD {rt rh:List Nat} {d:Nat} {x:AV} {ty:TypeId} {pos:String} {af:Array Edge} {gg:Option (Nat × Bool)} {T:TypeId} {X:Operand} {lo hi mx:_} (k:jV C N all (⟨gd ++ rt,rh,some d,x,[],[]⟩ :: es) ⟨(d,x) :: ts,hs,nx⟩ os K) (hE:qz C.P N ⟨some d,.slice T X lo hi mx,ty,pos,af,gg⟩ (qi ts) (qj hs) ⟨rt,rh,some d,x,[],[]⟩:=by (apply Qe;(case hx=>rfl);(case hT=>rfl);(case he=>rfl);(case ha=>first|exact ⟨_,rfl⟩|rfl);(case hb=>first|exact ⟨_,rfl⟩|rfl);(case hab=>(first|omega|(simp<;>fail)|(simp only [List.length_cons,List.length_nil,List.length_map];omega)|(simp;omega)));(case hbl=>(first|omega|(simp<;>fail)|(simp only [List.length_cons,List.length_nil,List.length_map];omega)|(simp;omega)));(case hN=>exact nle rfl))):jt C N all gd es ⟨ts,hs,nx⟩ ⟨some d,.slice T X lo hi mx,ty,pos,af,gg⟩ os K:=qx hE k
theorem XB {rt rh:List Nat} {d:Nat} {x:AV} {ty:TypeId} {pos:String} {af:Array Edge} {gg:Option (Nat × Bool)} {hb:HB} {as:Array Operand} {tys:Array TypeId} (k:jV C N all (⟨gd ++ rt,rh,some d,x,[(nx,hb)],[nx]⟩ :: es) ⟨(d,x) :: ts,(nx,hb) :: hs,nx + 1⟩ os K) (hE:qz C.P N ⟨some d,.call ⟨.builtin .append,as,tys⟩,ty,pos,af,gg⟩ (qi ts) (qj hs) ⟨rt,rh,some d,x,[(nx,hb)],[nx]⟩:=by (apply k9;(case hx=>rfl);(case hT=>rfl);(case he=>rfl);(case hE=>rfl);(case hz=>rfl);(case hsrc=>(first|(apply Qu;rfl;rfl)|(apply Je;rfl;intro a;rfl)|(apply Yg;rfl;rfl;first|omega|(simp<;>fail)|(simp;omega);rfl;first|rfl|exact vJ fun _=>rfl)));(case hsz=>(first|omega|(simp<;>fail)|(simp only [List.length_cons,List.length_nil,List.length_map];omega)|(simp;omega)));(case hlen=>(first|omega|(simp<;>fail)|(simp only [List.length_cons,List.length_nil,List.length_map];omega)|(simp;omega)));(case hN=>exact nle rfl))):jt C N all gd es ⟨ts,hs,nx⟩ ⟨some d,.call ⟨.builtin .append,as,tys⟩,ty,pos,af,gg⟩ os K:=yu hE k
theorem XC {rt rh:List Nat} {d:Nat} {x:AV} {ty:TypeId} {pos:String} {af:Array Edge} {gg:Option (Nat × Bool)} {hb hb' : HB} {m:Nat} {as:Array Operand} {tys:Array TypeId} (k:jV C N all (⟨gd ++ rt,rh,some d,x,[(nx,hb),(m,hb')],[nx]⟩ :: es) ⟨(d,x) :: ts,(nx,hb) :: (m,hb') :: hs,nx + 1⟩ os K) (hE:qz C.P N ⟨some d,.call ⟨.builtin .append,as,tys⟩,ty,pos,af,gg⟩ (qi ts) (qj hs) ⟨rt,rh,some d,x,[(nx,hb),(m,hb')],[nx]⟩:=by (apply wa;(case hx=>rfl);(case hT=>rfl);(case he=>rfl);(case hE=>rfl);(case hn=>rfl);(case hl=>(first|omega|(simp<;>fail)|(simp only [List.length_cons,List.length_nil,List.length_map];omega)|(simp;omega)));(case hz=>rfl);(case hsrc=>(first|(apply Qu;rfl;rfl)|(apply Je;rfl;intro a;rfl)|(apply Yg;rfl;rfl;first|omega|(simp<;>fail)|(simp;omega);rfl;first|rfl|exact vJ fun _=>rfl)));(case hsz=>(first|omega|(simp<;>fail)|(simp only [List.length_cons,List.length_nil,List.length_map];omega)|(simp;omega)));(case hlen=>(first|omega|(simp<;>fail)|(simp only [List.length_cons,List.length_nil,List.length_map];omega)|(simp;omega)));(case hmn=>exact Nat.ne_of_beq_eq_false rfl);(case hN=>exact nle rfl))):jt C N all gd es ⟨ts,hs,nx⟩ ⟨some d,.call ⟨.builtin .append,as,tys⟩,ty,pos,af,gg⟩ os K:=Q2 hE k
def xz (C:Cx) (N:Nat) (all:Array Oper) (gd:List Nat) (es:List Eff) (σ:St) (f:FuncId) (args:List Operand) (d:Nat) (tys:Array TypeId) (ty:TypeId) (pos:String) (af:Array Edge) (gg:Option (Nat × Bool)) (os:List Oper) (K:List Eff → St → Prop):Prop :=
 jt C N all gd es σ ⟨some d,.call ⟨.value (.func f),args.toArray,tys⟩,ty,pos,af,gg⟩ os K
theorem qc {σ:St} {d:Nat} {ty:TypeId} {pos:String} {af:Array Edge} {gg:Option (Nat × Bool)} {f:FuncId} {fn:Func} {args:List Operand} {tys:Array TypeId} (hf:C.P.funcs[f]? = some fn) (hb0:fn.body.isNone = false) (hn0:(fn.name == "runtime.NumGoroutine") = false) (k:IsFn C.P f → xz C N all gd es σ f args d tys ty pos af gg os K) :
  jt C N all gd es σ ⟨some d,.call ⟨.value (.func f),args.toArray,tys⟩,ty,pos,af,gg⟩ os K:=k (jd hf hb0 hn0)
theorem ZH {d:Nat} {ty:TypeId} {pos:String} {af:Array Edge} {gg:Option (Nat × Bool)} {f:FuncId} {args:List Operand} {tys:Array TypeId} {ys:List AV} {r:AV} (hf:IsFn C.P f) (hc:qu C.P f ys [] r []) (k:jV C N all (⟨gd ++ (qW (.func f) ++ args.flatMap qW),[],some d,r,[],[]⟩ :: es) ⟨(d,r) :: ts,hs,nx⟩ os K)
  (hz:x0 (x8 [] (qj hs)) (args.map (evA (qi ts))) ys:=by ((repeat' (first|exact jf|apply qO|exact qN rfl|exact j1|apply jx|apply jy))<;>fail)) (hfl:Jr r = true:=by rfl) (hN:d < N:=by exact nle rfl):xz C N all gd es ⟨ts,hs,nx⟩ f args d tys ty pos af gg os K :=
 qx (J3 [] hf hc hz hfl hN) k
theorem ZI {d:Nat} {ty:TypeId} {pos:String} {af:Array Edge} {gg:Option (Nat × Bool)} {f:FuncId} {args:List Operand} {tys:Array TypeId} {ys:List AV} {r:AV} (hf:IsFn C.P f) (hc:qu C.P f ys [] r []) (k:jV C N all (⟨gd ++ (qW (.func f) ++ args.flatMap qW),[],some d,r,[],[]⟩ :: es) ⟨(d,r) :: ts,hs,nx⟩ os K)
  (hz:qM [] [] (qj hs) (args.map (evA (qi ts))) ys:=by ((repeat' (first|exact ja|apply qP|exact qZ rfl|exact jB|(apply kj;rfl;exact List.mem_cons_self ..;exact nle rfl)|(apply JV;exact List.mem_cons_self ..)|apply jp|apply jq))<;>fail)) (hr:r.pure = true:=by rfl) (hN:d < N:=by exact nle rfl):xz C N all gd es ⟨ts,hs,nx⟩ f args d tys ty pos af gg os K :=
 qx (QQ [] hf hc hz hr hN) k
end steps
section guards
variable {C:Cx} {N:Nat} {all:Array Oper} {es:List Eff} {os:List Oper} {K:List Eff → St → Prop} {ts:List (Nat × AV)} {hs:List (Nat × HB)} {nx:Nat} {j d d' : Nat} {op:Op} {ty:TypeId} {pos:String} {af:Array Edge}
end guards
section conds
variable {C:Cx} {N:Nat} {Q:Exit → St → Prop} {σ:St} {c:Operand} {x y:Code}
end conds
section keeps
variable {L:List (Nat × Nat)} {nh:Nat} {σ:St} {i:Nat}
theorem jb {x:AV} {l:List (Nat × AV)} (hl:ye L nh σ l) (hx:qi σ.ts i = x:=by rfl) (hp:x.pure = true:=by first|rfl|(simp [AV.pure,AV.pure.pureL, *]<;>fail)):ye L nh σ ((i,x) :: l):=wJ hx hp hl
theorem yp {x y:AV} {l:List (Nat × AV)} (hl:ye L nh σ l) (hxy:x = y) (hx:qi σ.ts i = x:=by (conv=>lhs;whnf)) (hp:y.pure = true:=by rfl):ye L nh σ ((i,y) :: l):=VL hx hxy hp hl
theorem yq {n n' a b:Nat} {l:List (Nat × AV)} (hl:ye L nh σ l) (hx:qi σ.ts i = .op n a b:=by rfl) (hm:Maps L nh n n':=by (first|exact jK rfl|exact .inr (List.mem_cons_self ..)|exact .inr (List.mem_cons_of_mem _ (List.mem_cons_self ..))|exact .inr (List.mem_cons_of_mem _ (List.mem_cons_of_mem _ (List.mem_cons_self ..)))|exact .inr (List.mem_cons_of_mem _ (List.mem_cons_of_mem _ (List.mem_cons_of_mem _ (List.mem_cons_self ..)))))):ye L nh σ ((i,.op n' a b) :: l):=VN hx hm hl
theorem jM {n n' off len len' : Nat} {l:List (Nat × AV)} (hl:ye L nh σ l) (he:len = len') (hx:qi σ.ts i = .os n off len:=by rfl) (hm:Maps L nh n n':=by (first|exact jK rfl|exact .inr (List.mem_cons_self ..)|exact .inr (List.mem_cons_of_mem _ (List.mem_cons_self ..))|exact .inr (List.mem_cons_of_mem _ (List.mem_cons_of_mem _ (List.mem_cons_self ..)))|exact .inr (List.mem_cons_of_mem _ (List.mem_cons_of_mem _ (List.mem_cons_of_mem _ (List.mem_cons_self ..)))))):ye L nh σ ((i,.os n' off len') :: l):=Yj hx hm he hl
theorem jL {n n' off len len' : Nat} {l:List (Nat × AV)} (hl:ye L nh σ l) (hx:qi σ.ts i = .os n off len:=by rfl) (hm:Maps L nh n n':=by (first|exact jK rfl|exact .inr (List.mem_cons_self ..)|exact .inr (List.mem_cons_of_mem _ (List.mem_cons_self ..))|exact .inr (List.mem_cons_of_mem _ (List.mem_cons_of_mem _ (List.mem_cons_self ..)))|exact .inr (List.mem_cons_of_mem _ (List.mem_cons_of_mem _ (List.mem_cons_of_mem _ (List.mem_cons_self ..)))))) (he:len = len':=by first|with_reducible rfl|omega):ye L nh σ ((i,.os n' off len') :: l):=Yj hx hm he hl
theorem Zx {n n' : Nat} {ex ex' : Bool} {k:Nat} {rows rows' : List (List AV)} {l:List (Nat × HB)} (hl:jS L nh σ l) (hm:Maps L nh n n':=by (first|exact jK rfl|exact .inr (List.mem_cons_self ..)|exact .inr (List.mem_cons_of_mem _ (List.mem_cons_self ..))|exact .inr (List.mem_cons_of_mem _ (List.mem_cons_of_mem _ (List.mem_cons_self ..)))|exact .inr (List.mem_cons_of_mem _ (List.mem_cons_of_mem _ (List.mem_cons_of_mem _ (List.mem_cons_self ..)))))) (hx:qj σ.hs n = .own ex k rows:=by rfl) (he:ex' = true → ex = true:=by first|exact id|exact nofun) (hp : ∀ row,row ∈ rows' → AV.pure.pureL row = true:=by first|assumption|exact zK rfl|exact zL fun _=>rfl) (hr:rows = rows':=by with_reducible rfl):jS L nh σ ((n',.own ex' k rows') :: l):=Vs hx hm he hr hp hl
end keeps
theorem jJ {C:Cx} {rs:List ResultVar} {nh:Nat} {σ:St} {xs:List AV} {r:AV} (hz:Rz (qj σ.hs) (jw xs) r) (hr:ResOk C σ rs xs:=by ((repeat (first|exact qm|(apply qn;rfl)|(apply qk;rfl;rfl;rfl;rfl;rfl)))<;>fail)):Fin C rs.toArray nh r [] σ:=kC hr hz
theorem y7 {h:Nat → HB} {n len:Nat} {ex:Bool} {k:Nat} {rows:List (List AV)} (hn:h n = .own ex k rows:=by rfl) (hl:len = rows.length:=by first|with_reducible rfl|(simp<;>fail)|(simp [*]<;>fail)|omega) (hp : ∀ row,row ∈ rows → AV.pure.pureL row = true:=by (first|assumption|exact zK rfl|exact zL fun _=>rfl)):Rz h (.os n 0 len) (.sl false rows):=kX hn hl hp
theorem y6 {h:Nat → HB} {n len:Nat} {ex:Bool} {k:Nat} {rows rows' : List (List AV)} (he:rows = rows') (hn:h n = .own ex k rows:=by rfl) (hl:len = rows.length:=by first|with_reducible rfl|(simp<;>fail)|(simp [*]<;>fail)|omega) (hp : ∀ row,row ∈ rows' → AV.pure.pureL row = true:=by (first|assumption|exact zK rfl|exact zL fun _=>rfl)):Rz h (.os n 0 len) (.sl false rows'):=XV hn hl he hp
structure Hold (G:Prop):Prop where
 out:G
theorem wj {G G' : Prop} (k:G') (h:Hold G' → G:=by intro key;(first|(apply qx;first|(apply Qa;(conv=>lhs;whnf);exact nle rfl)|(apply zy;(conv=>lhs;whnf);exact nle rfl)|(apply y4;rfl;(conv=>lhs;whnf);exact nle rfl)|(apply yS;rfl;(conv=>lhs;whnf);exact nle rfl)|(apply w9;rfl;rfl;rfl;exact nle rfl)|(apply yO;rfl;rfl;rfl;rfl;exact nofun;exact nle rfl)|(apply yZ;rfl;rfl;rfl;rfl;exact nofun;exact nle rfl)|(apply y1;rfl;rfl;rfl;(first|rfl|assumption|(apply qr;assumption)|(apply qr;apply qr;assumption));rfl;rfl;exact nle rfl)|(apply xh;rfl;rfl;(first|rfl|assumption|(apply qr;assumption)|(apply qr;apply qr;assumption));rfl;rfl;exact nle rfl)|(apply xi;rfl;rfl;rfl;rfl;rfl;rfl;exact nle rfl)|(apply xu;rfl;rfl;rfl;(first|rfl|assumption|(apply qr;assumption)|(apply qr;apply qr;assumption));(conv=>lhs;whnf);exact nle rfl)|(apply xM;rfl;rfl;(first|rfl|assumption|(apply qr;assumption)|(apply qr;apply qr;assumption));(conv=>lhs;whnf);exact nle rfl)|(apply Qd;rfl;rfl;rfl;exact nle rfl)|(apply zz;rfl;rfl;rfl;exact nle rfl)|(apply vX;rfl;rfl;rfl;exact nle rfl)|(apply vW;rfl;rfl;rfl;exact nle rfl)|(apply y0;rfl;rfl;rfl;rfl;rfl;(first|rfl|assumption|(apply qr;assumption)|(apply qr;apply qr;assumption));rfl;exact nle rfl)|(apply xL;rfl;rfl;rfl;rfl;(first|rfl|assumption|(apply qr;assumption)|(apply qr;apply qr;assumption));exact nle rfl)|(apply Qh;rfl;rfl;omega;exact nle rfl)|(apply Qb;rfl;rfl;omega;exact nle rfl)|(apply wZ;rfl;rfl;omega;omega;exact nle rfl)|(apply Qg;rfl;rfl;omega;omega;exact nle rfl)|(apply Jq;rfl;exact nle rfl)|(apply vV;rfl;(conv=>lhs;whnf);exact nle rfl)|(apply ky;rfl;rfl;rfl;rfl;(conv=>lhs;whnf);exact nle rfl)|(apply vx (b':=true);rfl;assumption;(conv=>lhs;whnf);exact nle rfl)|(apply vx (b':=false);rfl;assumption;(conv=>lhs;whnf);exact nle rfl)|(apply w8;exact nle rfl)|(apply xk;rfl;exact nle rfl)|(apply xj;rfl;exact nle rfl)|(apply vh;rfl;rfl;rfl;(conv=>lhs;whnf);exact nle rfl)|(apply xN;rfl;rfl;rfl;rfl;(conv=>lhs;whnf);exact nle rfl)|(apply Qc;rfl;rfl;(first|omega|(simp<;>fail)|(simp only [List.length_cons,List.length_nil,List.length_map];omega)|(simp;omega));exact nle rfl))|(apply yu;first|(apply kw;rfl;exact nle rfl)|(apply Jo;rfl;exact nle rfl))|(apply xU;apply kA;rfl;rfl;rfl;(first|rfl|assumption|(apply qr;assumption)|(apply qr;apply qr;assumption));rfl;rfl;exact nle rfl)|apply kL|(apply qT;exact nle rfl;refine ⟨?_,?_⟩;first|exact fun h=>absurd h Bool.false_ne_true|(intro _;kernel_rfl))|(apply kP;rfl;rfl;exact nle rfl)|(apply kO;rfl;rfl;exact nle rfl)|(apply zJ;rfl;rfl;exact nle rfl)|(apply zI;rfl;rfl;exact nle rfl)|(apply xT;rfl;rfl;exact nle rfl)|(apply Qn;rfl;rfl;assumption;exact nle rfl)|(apply kN;rfl;rfl;assumption;exact nle rfl)|(apply kM;rfl;rfl;assumption;exact nle rfl)|apply wS|refine vP ?_|(apply xJ;rfl)|(apply xI;rfl)|(apply vO;rfl;assumption)|(apply vN;rfl;assumption)|apply zw|apply ko|apply kn|apply wQ);(repeat (first|(apply qx;first|(apply Qa;(conv=>lhs;whnf);exact nle rfl)|(apply zy;(conv=>lhs;whnf);exact nle rfl)|(apply y4;rfl;(conv=>lhs;whnf);exact nle rfl)|(apply yS;rfl;(conv=>lhs;whnf);exact nle rfl)|(apply w9;rfl;rfl;rfl;exact nle rfl)|(apply yO;rfl;rfl;rfl;rfl;exact nofun;exact nle rfl)|(apply yZ;rfl;rfl;rfl;rfl;exact nofun;exact nle rfl)|(apply y1;rfl;rfl;rfl;(first|rfl|assumption|(apply qr;assumption)|(apply qr;apply qr;assumption));rfl;rfl;exact nle rfl)|(apply xh;rfl;rfl;(first|rfl|assumption|(apply qr;assumption)|(apply qr;apply qr;assumption));rfl;rfl;exact nle rfl)|(apply xi;rfl;rfl;rfl;rfl;rfl;rfl;exact nle rfl)|(apply xu;rfl;rfl;rfl;(first|rfl|assumption|(apply qr;assumption)|(apply qr;apply qr;assumption));(conv=>lhs;whnf);exact nle rfl)|(apply xM;rfl;rfl;(first|rfl|assumption|(apply qr;assumption)|(apply qr;apply qr;assumption));(conv=>lhs;whnf);exact nle rfl)|(apply Qd;rfl;rfl;rfl;exact nle rfl)|(apply zz;rfl;rfl;rfl;exact nle rfl)|(apply vX;rfl;rfl;rfl;exact nle rfl)|(apply vW;rfl;rfl;rfl;exact nle rfl)|(apply y0;rfl;rfl;rfl;rfl;rfl;(first|rfl|assumption|(apply qr;assumption)|(apply qr;apply qr;assumption));rfl;exact nle rfl)|(apply xL;rfl;rfl;rfl;rfl;(first|rfl|assumption|(apply qr;assumption)|(apply qr;apply qr;assumption));exact nle rfl)|(apply Qh;rfl;rfl;omega;exact nle rfl)|(apply Qb;rfl;rfl;omega;exact nle rfl)|(apply wZ;rfl;rfl;omega;omega;exact nle rfl)|(apply Qg;rfl;rfl;omega;omega;exact nle rfl)|(apply Jq;rfl;exact nle rfl)|(apply vV;rfl;(conv=>lhs;whnf);exact nle rfl)|(apply ky;rfl;rfl;rfl;rfl;(conv=>lhs;whnf);exact nle rfl)|(apply vx (b':=true);rfl;assumption;(conv=>lhs;whnf);exact nle rfl)|(apply vx (b':=false);rfl;assumption;(conv=>lhs;whnf);exact nle rfl)|(apply w8;exact nle rfl)|(apply xk;rfl;exact nle rfl)|(apply xj;rfl;exact nle rfl)|(apply vh;rfl;rfl;rfl;(conv=>lhs;whnf);exact nle rfl)|(apply xN;rfl;rfl;rfl;rfl;(conv=>lhs;whnf);exact nle rfl)|(apply Qc;rfl;rfl;(first|omega|(simp<;>fail)|(simp only [List.length_cons,List.length_nil,List.length_map];omega)|(simp;omega));exact nle rfl))|(apply yu;first|(apply kw;rfl;exact nle rfl)|(apply Jo;rfl;exact nle rfl))|(apply xU;apply kA;rfl;rfl;rfl;(first|rfl|assumption|(apply qr;assumption)|(apply qr;apply qr;assumption));rfl;rfl;exact nle rfl)|apply kL|(apply qT;exact nle rfl;refine ⟨?_,?_⟩;first|exact fun h=>absurd h Bool.false_ne_true|(intro _;kernel_rfl))|(apply kP;rfl;rfl;exact nle rfl)|(apply kO;rfl;rfl;exact nle rfl)|(apply zJ;rfl;rfl;exact nle rfl)|(apply zI;rfl;rfl;exact nle rfl)|(apply xT;rfl;rfl;exact nle rfl)|(apply Qn;rfl;rfl;assumption;exact nle rfl)|(apply kN;rfl;rfl;assumption;exact nle rfl)|(apply kM;rfl;rfl;assumption;exact nle rfl)|apply wS|refine vP ?_|(apply xJ;rfl)|(apply xI;rfl)|(apply vO;rfl;assumption)|(apply vN;rfl;assumption)|apply zw|apply ko|apply kn|apply wQ));exact key.out):G:=h ⟨k⟩
section xs
variable {C:Cx} {N:Nat}
theorem xsC {c:Operand} {x y:Code} {b:Bool} {Q:Exit → St → Prop} {σ:St} (ht:b = true → Awp C N x Q σ) (hf:b = false → Awp C N y Q σ) (hc:evA (qi σ.ts) c = .v (.bool b):=by rfl):Awp C N (.cond c x y) Q σ:=Xc hc ht hf
theorem jj {c:Operand} {x y:Code} {Q:Exit → St → Prop} {σ:St} (ht:Awp C N x Q σ) (hf:Awp C N y Q σ) (hc:evA (qi σ.ts) c = .anyb:=by rfl):Awp C N (.cond c x y) Q σ:=wP hc ht hf
theorem Z6 {rs:List ResultVar} {nh:Nat} {σ:St} {xs:List AV} {r:AV} (hr:ResOk C σ rs xs:=by ((repeat (first|exact qm|(apply qn;rfl)|(apply qk;rfl;rfl;rfl;rfl;rfl)))<;>fail)) (hz:Rz (qj σ.hs) (jw xs) r:=by (repeat' (first|exact jf|apply qO|exact qN rfl|exact j1|exact y7|apply jx|apply jF|apply jy|apply jD|apply jm|apply jE|refine y6 ?_|apply yd))<;>fail):Fin C rs.toArray nh r [] σ:=kC hr hz
theorem Z5 {rs:List ResultVar} {σ:St} {xs:List AV} {r:AV} {H' : List HB} {ids:List (Nat × Nat)} (L:List (Nat × Nat)) (nx:Nat) (hh:jS L C.nh σ (y3 0 H')) (hr:ResOk C σ rs xs:=by ((repeat (first|exact qm|(apply qn;rfl)|(apply qk;rfl;rfl;rfl;rfl;rfl)))<;>fail)) (hL:xy C.nh nx L = true:=by rfl) (hi:(List.range C.nh).map (fun n=>(n,n)) = ids:=by first|exact (rfl:_ = ([]:List (Nat × Nat)))|exact (rfl:_ = [((0:Nat),(0:Nat))])|exact (rfl:_ = [((0:Nat),(0:Nat)),(1,1)])) (hz:(jw xs).ren (ids ++ L) = r:=by first|rfl|(simp [jw,AV.ren,AV.ren.renL,qV,qi,qI]<;>fail)|(simp [jw,AV.ren,AV.ren.renL,qV,qi,qI, *]<;>fail)):Fin C rs.toArray C.nh r H' σ:=qv L nx hr hL hh hi hz
theorem Z3 {c:Code} {Q:Exit → St → Prop} {ts:List (Nat × AV)} {hs:List (Nat × HB)} {nx:Nat} (i n:Nat) {ex:Bool} {k j:Nat} {row:List AV} (h:Awp C N c Q ⟨(i,.fp [row] 0 j) :: ts,(n,.fz [row]) :: hs,nx⟩) (hn:qj hs n = .own ex k [row]:=by rfl) (hr:AV.pure.pureL row = true:=by rfl) (hi:qi ts i = .op n 0 j:=by rfl):Awp C N c Q ⟨ts,hs,nx⟩:=Awp.red (kS n hn (fun r h=>by rw [List.mem_singleton.1 h];exact hr)) (Awp.red (V8 (rows:=[row]) i n hi (by rw [xA,if_pos rfl]) Nat.one_pos) h)
end xs
section xc
variable {C:Cx} {N:Nat} {all:Array Oper} {es:List Eff} {os:List Oper} {K:List Eff → St → Prop} {ts:List (Nat × AV)} {hs:List (Nat × HB)} {nx:Nat} {gd:List Nat}
theorem xsF {d:Nat} {ty:TypeId} {pos:String} {af:Array Edge} {gg:Option (Nat × Bool)} {f:FuncId} {fn:Func} {args:List Operand} {tys:Array TypeId} {ys:List AV} {r:AV} (hf:C.P.funcs[f]? = some fn) (hc:qu C.P f ys [] r []) (k:jV C N all (⟨gd ++ (qW (.func f) ++ args.flatMap qW),[],some d,r,[],[]⟩ :: es) ⟨(d,r) :: ts,hs,nx⟩ os K)
  (hb0:fn.body.isNone = false:=by rfl) (hn0:(fn.name == "runtime.NumGoroutine") = false:=by rfl) (hz:x0 (x8 [] (qj hs)) (args.map (evA (qi ts))) ys:=by ((repeat' (first|exact jf|apply qO|exact qN rfl|exact j1|apply jx|apply jy))<;>fail)) (hfl:Jr r = true:=by rfl) (hN:d < N:=by exact nle rfl):jt C N all gd es ⟨ts,hs,nx⟩ ⟨some d,.call ⟨.value (.func f),args.toArray,tys⟩,ty,pos,af,gg⟩ os K :=
 qx (J3 [] (jd hf hb0 hn0) hc hz hfl hN) k
theorem ZK {d:Nat} {ty:TypeId} {pos:String} {af:Array Edge} {gg:Option (Nat × Bool)} {f:FuncId} {fn:Func} {args:List Operand} {tys:Array TypeId} {ys:List AV} {r:AV} (hf:C.P.funcs[f]? = some fn) (hc:qu C.P f ys [] r []) (k:jV C N all (⟨gd ++ (qW (.func f) ++ args.flatMap qW),[],some d,r,[],[]⟩ :: es) ⟨(d,r) :: ts,hs,nx⟩ os K)
  (hb0:fn.body.isNone = false:=by rfl) (hn0:(fn.name == "runtime.NumGoroutine") = false:=by rfl) (hz:qM [] [] (qj hs) (args.map (evA (qi ts))) ys:=by ((repeat' (first|exact ja|apply qP|exact qZ rfl|exact jB|(apply kj;rfl;exact List.mem_cons_self ..;exact nle rfl)|(apply JV;exact List.mem_cons_self ..)|apply jp|apply jq))<;>fail)) (hr:r.pure = true:=by rfl) (hN:d < N:=by exact nle rfl):jt C N all gd es ⟨ts,hs,nx⟩ ⟨some d,.call ⟨.value (.func f),args.toArray,tys⟩,ty,pos,af,gg⟩ os K :=
 qx (QQ [] (jd hf hb0 hn0) hc hz hr hN) k
end xc
end Go.Ab
set_option linter.unusedSimpArgs false
set_option linter.unusedVariables false
namespace Go.Ab
open Go.RowKit
theorem Yp {P:Program} {f:FuncId} {ys:List AV} {r:Value} (hp:AV.pure.pureL ys = true) (hr:zc r = true)
  (h : ∀ (F:Still) w vs,(∀ b o,F b = some o → w.heap[b]? = some o) → (∀ b p,yC b = some p → ∃ cs e fr,p cs ∧ F b = some (.cells cs e fr)) → AllM F noPlaces vs ys → Calls P f vs.toArray w fun e w'=>e = .returned r ∧ Below w.heap.size w w'):zu P f ys (.v r):=by
 intro B vs w hl hN ⟨g1,g2,F,ρ,hh,g4⟩
 have hm:AllM F noPlaces vs ys:=by
  refine ⟨hl,fun i v y hv hy=>?_⟩
  have hi:i < vs.length:=(List.getElem?_eq_some_iff.1 hv).1
  have:=g4 i
  simp only [Array.getD_eq_getD_getElem?,List.getElem?_toArray,hv,Option.getD_some,List.getD_eq_getElem?_getD,hy] at this
  exact this.moved _ (yb hp hy)
 refine (h F w vs hh.agree (fun b p hb=>(B.tab b p hb).imp fun cs h=>h.imp fun e h=>h.imp fun fr h=>⟨h.1,hh.grow b _ h.2⟩) hm).mono fun e w' ⟨he,hb⟩=>⟨r,he,g1,rfl,F,ρ,?_,fun i=>?_⟩
 ·refine { kept:=⟨hb.os.trans hh.kept.os,hb.tape.trans hh.kept.tape,hb.output.trans hh.kept.output,Nat.le_trans hh.kept.size hb.size,fun b hlt ho=>?_⟩,agree:=fun b o hF=>?_,grow:=hh.grow,fresh:=hh.fresh,names:=hh.names,dom:=fun _ _=>trivial,own:=fun n=>by simp [OwnAt],new:=fun n b c hn=>by simp [HB.isOwn] at hn,sep:=fun n m b c c' _ hn=>by simp [HB.isOwn] at hn }
  ·rw [hb.block b (Nat.lt_of_lt_of_le hlt hh.kept.size)];exact hh.kept.block b hlt ho
  ·have h0:=hh.agree b o hF
   rw [hb.block b (Array.getElem?_eq_some_iff.1 h0).1];exact h0
 ·by_cases hi:i = 0
  ·subst hi;exact .v _ _ hr
  ·unfold one;rw [if_neg hi];exact .junk _ _
end Go.Ab
set_option linter.unusedSimpArgs false
set_option linter.unnecessarySimpa false
set_option linter.unusedVariables false
namespace Go.Ab
open Go.RowKit
end Go.Ab
