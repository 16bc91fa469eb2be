import Derived.Test.YtnhpclmbhbblbaaGreatDoorMz5
import Derived.Lib.Bytealg
import Derived.Test.YtnhpclmbhbblbaaGreatDoorMz0
set_option linter.unusedSimpArgs false
set_option linter.unnecessarySimpa false
set_option linter.unusedVariables false
namespace Go.Ab
open Go.RowKit
section ops
variable {C:Cx} {N d:Nat} {ty:TypeId} {pos:String} {af:Array Edge} {gd:Option (Nat × Bool)} {t:Nat → AV} {h:Nat → HB}
theorem qff (f:FuncId) (fn:Func) (tys:Array TypeId) (x y:Operand) (a b r:Value) (e:Array Value → Sem Value) (hf:C.P.funcs[f]? = some fn) (hname:(fn.name == "runtime.NumGoroutine") = false)
  (hb:fn.body.isNone = true) (hnx:Extern.findNext fn = none) (hex:Extern.find fn = some e) (hx:evA t x = .v a) (hy:evA t y = .v b) (hrun : ∀ w,(e #[a,b]).run C.P w = .ok r w) (hr:w8 r = true) (hN:d < N) :
  qX C.P N ⟨some d,.call ⟨.value (.func f), #[x,y],tys⟩,ty,pos,af,gd⟩ t h ⟨yh x ++ yh y,[],some d,.v r,[],[]⟩ :=
 jO _ _ rfl hN fun F ρ act w _ hs _=>by
  have h1:=qu (x:=x) hs (fun j hj=>List.mem_append_left _ hj)
  have h2:=qu (x:=y) hs (fun j hj=>List.mem_append_right _ hj)
  rw [hx] at h1;rw [hy] at h2
  obtain ⟨h1,_⟩:=h1.v_inv
  obtain ⟨h2,_⟩:=h2.v_inv
  refine ⟨r,?_,.v _ _ hr⟩
  have hcall:=run_callFunc_extern hf hname hb hnx hex #[act.eval x,act.eval y] w
  rw [h1,h2,hrun] at hcall
  have hcall' : Sem.run C.P (callFunc f #[act.eval x,act.eval y]) w = Result.ok (.value r) w:=by rw [h1,h2];exact hcall
  have he' : act.eval (.func f) = .func (.func f) #[] #[]:=rfl
  simp [execOp,resolve,invoke,he',Deferred.ofValue,hcall']
end ops
end Go.Ab
set_option linter.unusedSimpArgs false
set_option linter.unnecessarySimpa false
set_option linter.unusedVariables false
namespace Go.Ab
open Go.RowKit
theorem xi {x y:Int} (h:x = y):AV.v (.int .i64 x) = AV.v (.int .i64 y):=by rw [h]
section ops
variable {C:Cx} {N d:Nat} {ty:TypeId} {pos:String} {af:Array Edge} {gd:Option (Nat × Bool)} {t:Nat → AV} {h:Nat → HB}
theorem YA (x y:Operand) (tys:Array TypeId) (a:Int) (hx:evA t x = .v (.int .i64 0)) (hy:evA t y = .v (.int .i64 a)) (hN:d < N) :
  qX C.P N ⟨some d,.call ⟨.builtin .max, #[x,y],tys⟩,ty,pos,af,gd⟩ t h ⟨yh x ++ yh y,[],some d,.v (.int .i64 ((a.toNat:Nat):Int)),[],[]⟩ :=
 jO _ _ rfl hN fun F ρ act w _ hs _=>by
  have h1:=qu (x:=x) hs (fun j hj=>List.mem_append_left _ hj)
  have h2:=qu (x:=y) hs (fun j hj=>List.mem_append_right _ hj)
  rw [hx] at h1;rw [hy] at h2
  obtain ⟨h1,_⟩:=h1.v_inv
  obtain ⟨h2,_⟩:=h2.v_inv
  refine ⟨.int .i64 ((a.toNat:Nat):Int),?_,.v _ _ rfl⟩
  simp [execOp,resolve,invoke,builtin,h1,h2,Builtin.max_,Builtin.max2]
  first
   | omega
   | (split<;>omega)
theorem qd2 (T:TypeId) (x y:Operand) (yT:TypeId) (a b:Nat) (hx:evA t x = .v (.int .i64 (a:Int))) (hy:evA t y = .v (.int .i64 (b:Int))) (hb:0 < b) (hN:d < N) :
  qX C.P N ⟨some d,.binOp .rem T x y yT,ty,pos,af,gd⟩ t h ⟨yh x ++ yh y,[],some d,.v (.int .i64 ((a % b:Nat):Int)),[],[]⟩ :=
 Xi .rem T x y yT .i64 a b _ hx hy rfl (fun w=>by
  have h0:¬ (b:Int) = 0:=by omega
  have h1:((a:Int).tmod (b:Int)) = ((a % b:Nat):Int):=by rw [Int.tmod_eq_emod_of_nonneg (by omega)];rfl
  simp only [binOp,Op.intDiv,h0,h1,if_false]
  rfl) hN
theorem qd1 (T:TypeId) (x y:Operand) (yT:TypeId) (a b:Nat) (hx:evA t x = .v (.int .i64 (a:Int))) (hy:evA t y = .v (.int .i64 (b:Int))) (hb:0 < b) (ha:a ≤ 9223372036854775807) (hN:d < N) :
  qX C.P N ⟨some d,.binOp .quo T x y yT,ty,pos,af,gd⟩ t h ⟨yh x ++ yh y,[],some d,.v (.int .i64 ((a / b:Nat):Int)),[],[]⟩ :=
 Xi .quo T x y yT .i64 a b _ hx hy rfl (fun w=>by
  have h0:¬ (b:Int) = 0:=by omega
  have h1:((a:Int).tdiv (b:Int)) = ((a / b:Nat):Int):=by rw [Int.tdiv_eq_ediv_of_nonneg (by omega)];rfl
  have h2:a / b ≤ a:=Nat.div_le_self a b
  have h3:IntKind.i64.wrap ((a / b:Nat):Int) = ((a / b:Nat):Int):=IntWalk.i64_in _ ⟨Int.le_trans (by decide) (Int.natCast_nonneg (a / b)),Int.ofNat_le.2 (Nat.le_trans h2 ha)⟩
  simp only [binOp,Op.intDiv,h0,h1,h3,if_false]
  rfl) hN
theorem WA (src dst e:TypeId) (x:Operand) (ex:Bool) (n:Int) (rs r re:TRec) (hx:evA t x = .sl ex [[.v (.int .u8 n)]]) (hs:q7 C.tab src = some rs) (hs' : rs.kind = .slice e) (hE:q7 C.tab e = some re) (he' : re.kind = .int .u8) (hT:q7 C.tab dst = some r) (he:r.kind = .string) (hN:d < N) :
  qX C.P N ⟨some d,.convert src dst x,ty,pos,af,gd⟩ t h ⟨yh x,[],some d,.v (str [UInt8.ofNat n.toNat]),[],[]⟩ :=
 jO _ _ rfl hN fun F ρ a w hag hs1 _=>by
  have h1:=qu (x:=x) hs1 (fun j hj=>hj)
  rw [hx] at h1
  have hu:=vQ (C.ok _ r hT) he
  have hu2:=j7 (C.ok _ rs hs) hs'
  have hu3:=YK (C.ok _ re hE) he'
  refine ⟨str [UInt8.ofNat n.toNat],?_,.v _ _ rfl⟩
  rcases h1.sl_inv with ⟨h0,_⟩|⟨b,o,cap,c,e',fr,kk,hb,_,_,hsz,hkk,hR,hv⟩
  ·cases h0
  ·have hk:kk = 1:=(hkk _ (List.mem_singleton.2 rfl)).symm
   subst hk
   have hbw:=hag b _ hb
   have hlt:o < c.size:=by simp at hsz;omega
   have hcv:c[o]? = some c[o]:=Array.getElem?_eq_getElem hlt
   have hcell:=(hR 0 0 _ _ c[o] rfl rfl (by simp)).v_inv.1
   have hld:=run_loadCells_list (P:=C.P) w ⟨b,o,none⟩ [.int .u8 n] (fun i v hiv=>by
    cases i with
    | zero =>
      simp only [List.getElem?_cons_zero,Option.some.injEq] at hiv
      subst hiv
      have:(⟨b,o,none⟩ : Addr).add 0 = ⟨b,o,none⟩:=by unfold Addr.add;split<;>simp_all
      rw [this]
      simp [World.cell?,hbw,hcv,hcell]
    | succ i=>simp at hiv)
   simp only [List.length_singleton] at hld
   simp [execOp,hv,convert,run_underlying hu,run_underlying hu2,run_underlying hu3,Conv.bytesToString,hld,str]
   rfl
end ops
end Go.Ab
set_option linter.unusedSimpArgs false
set_option linter.unnecessarySimpa false
set_option linter.unusedVariables false
namespace Go.Ab
open Go.RowKit
section steps
variable {C:Cx} {N:Nat} {all:Array Oper} {es:List Eff} {o:Oper} {os:List Oper} {K:List Eff → St → Prop} {ts:List (Nat × AV)} {hs:List (Nat × HB)} {nx:Nat} {gd:List Nat}
theorem qcK {rt rh:List Nat} {d:Nat} {x:AV} {ty:TypeId} {pos:String} {af:Array Edge} {gg:Option (Nat × Bool)} {X:Operand} (k:yl C N all (⟨gd ++ rt,rh,some d,x,[],[]⟩ :: es) ⟨(d,x) :: ts,hs,nx⟩ os K) (hE:qX C.P N ⟨some d,.move X,ty,pos,af,gg⟩ (qR ts) (ja hs) ⟨rt,rh,some d,x,[],[]⟩:=by (apply Vb;(conv=>lhs;whnf);exact nle rfl)):jE C N all gd es ⟨ts,hs,nx⟩ ⟨some d,.move X,ty,pos,af,gg⟩ os K:=qf hE k
theorem qcH {rt rh:List Nat} {d:Nat} {x:AV} {ty:TypeId} {pos:String} {af:Array Edge} {gg:Option (Nat × Bool)} {X:Operand} (k:yl C N all (⟨gd ++ rt,rh,some d,x,[],[]⟩ :: es) ⟨(d,x) :: ts,hs,nx⟩ os K) (hE:qX C.P N ⟨some d,.assign X,ty,pos,af,gg⟩ (qR ts) (ja hs) ⟨rt,rh,some d,x,[],[]⟩:=by (apply Jw;(conv=>lhs;whnf);exact nle rfl)):jE C N all gd es ⟨ts,hs,nx⟩ ⟨some d,.assign X,ty,pos,af,gg⟩ os K:=qf hE k
theorem qfF {rt rh:List Nat} {d:Nat} {x:AV} {ty:TypeId} {pos:String} {af:Array Edge} {gg:Option (Nat × Bool)} {T:TypeId} {X:Operand} (k:yl C N all (⟨gd ++ rt,rh,some d,x,[],[]⟩ :: es) ⟨(d,x) :: ts,hs,nx⟩ os K) (hE:qX C.P N ⟨some d,.load T X,ty,pos,af,gg⟩ (qR ts) (ja hs) ⟨rt,rh,some d,x,[],[]⟩:=by first|(apply zK;rfl;rfl;rfl;(first|rfl|assumption|(apply jd;assumption)|(apply jd;apply jd;assumption));rfl;rfl;exact nle rfl)|(apply zZ;rfl;rfl;(first|rfl|assumption|(apply jd;assumption)|(apply jd;apply jd;assumption));rfl;rfl;exact nle rfl)|(apply z1;rfl;rfl;rfl;rfl;rfl;rfl;exact nle rfl)|(apply kC;rfl;rfl;rfl;(first|rfl|assumption|(apply jd;assumption)|(apply jd;apply jd;assumption));(conv=>lhs;whnf);exact nle rfl)|(apply wq;rfl;rfl;(first|rfl|assumption|(apply jd;assumption)|(apply jd;apply jd;assumption));(conv=>lhs;whnf);exact nle rfl)|(apply ws;rfl;rfl;rfl;rfl;(conv=>lhs;whnf);exact nle rfl)):jE C N all gd es ⟨ts,hs,nx⟩ ⟨some d,.load T X,ty,pos,af,gg⟩ os K:=qf hE k
theorem qfC {rt rh:List Nat} {d:Nat} {x:AV} {ty:TypeId} {pos:String} {af:Array Edge} {gg:Option (Nat × Bool)} {T:TypeId} {X:Operand} {f:Nat} (k:yl C N all (⟨gd ++ rt,rh,some d,x,[],[]⟩ :: es) ⟨(d,x) :: ts,hs,nx⟩ os K) (hE:qX C.P N ⟨some d,.fieldAddr T X f,ty,pos,af,gg⟩ (qR ts) (ja hs) ⟨rt,rh,some d,x,[],[]⟩:=by first|(apply zr;rfl;rfl;rfl;rfl;exact nofun;exact nle rfl)|(apply zJ;rfl;rfl;rfl;rfl;exact nofun;exact nle rfl)):jE C N all gd es ⟨ts,hs,nx⟩ ⟨some d,.fieldAddr T X f,ty,pos,af,gg⟩ os K:=qf hE k
theorem qcI {rt rh:List Nat} {d:Nat} {x:AV} {ty:TypeId} {pos:String} {af:Array Edge} {gg:Option (Nat × Bool)} {op:BinOp} {T:TypeId} {X Y:Operand} {yT:TypeId} (k:yl C N all (⟨gd ++ rt,rh,some d,x,[],[]⟩ :: es) ⟨(d,x) :: ts,hs,nx⟩ os K) (hE:qX C.P N ⟨some d,.binOp op T X Y yT,ty,pos,af,gg⟩ (qR ts) (ja hs) ⟨rt,rh,some d,x,[],[]⟩:=by first|(apply Va;rfl;rfl;rfl;exact nle rfl)|(apply Vd;rfl;rfl;rfl;exact nle rfl)|(apply Ve;rfl;rfl;omega;exact nle rfl)|(apply Vc;rfl;rfl;omega;exact nle rfl)|(apply VI;rfl;rfl;omega;omega;exact nle rfl)|(apply VM;rfl;rfl;omega;omega;exact nle rfl)|(apply vU;rfl;rfl;(first|omega|(simp<;>fail)|(simp only [List.length_cons,List.length_nil,List.length_map];omega)|(simp;omega));exact nle rfl)):jE C N all gd es ⟨ts,hs,nx⟩ ⟨some d,.binOp op T X Y yT,ty,pos,af,gg⟩ os K:=qf hE k
theorem qcL {rt rh:List Nat} {d:Nat} {x:AV} {ty:TypeId} {pos:String} {af:Array Edge} {gg:Option (Nat × Bool)} {c X Y:Operand} (k:yl C N all (⟨gd ++ rt,rh,some d,x,[],[]⟩ :: es) ⟨(d,x) :: ts,hs,nx⟩ os K) (hE:qX C.P N ⟨some d,.pick c X Y,ty,pos,af,gg⟩ (qR ts) (ja hs) ⟨rt,rh,some d,x,[],[]⟩:=by first|(apply z8;rfl;(conv=>lhs;whnf);exact nle rfl)|(apply zC;rfl;(conv=>lhs;whnf);exact nle rfl)|(apply wR (b':=true);rfl;assumption;(conv=>lhs;whnf);exact nle rfl)|(apply wR (b':=false);rfl;assumption;(conv=>lhs;whnf);exact nle rfl)):jE C N all gd es ⟨ts,hs,nx⟩ ⟨some d,.pick c X Y,ty,pos,af,gg⟩ os K:=qf hE k
theorem qcJ {rt rh:List Nat} {d:Nat} {x:AV} {ty:TypeId} {pos:String} {af:Array Edge} {gg:Option (Nat × Bool)} {as:Array Operand} {tys:Array TypeId} (k:yl C N all (⟨gd ++ rt,rh,some d,x,[],[]⟩ :: es) ⟨(d,x) :: ts,hs,nx⟩ os K) (hE:qX C.P N ⟨some d,.call ⟨.builtin .len,as,tys⟩,ty,pos,af,gg⟩ (qR ts) (ja hs) ⟨rt,rh,some d,x,[],[]⟩:=by first|(apply Jy;rfl;rfl;rfl;exact nle rfl)|(apply QC;rfl;rfl;rfl;exact nle rfl)|(apply QB;rfl;rfl;rfl;exact nle rfl)):jE C N all gd es ⟨ts,hs,nx⟩ ⟨some d,.call ⟨.builtin .len,as,tys⟩,ty,pos,af,gg⟩ os K:=qf hE k
theorem qfE {rt rh:List Nat} {d:Nat} {x:AV} {ty:TypeId} {pos:String} {af:Array Edge} {gg:Option (Nat × Bool)} {T:TypeId} {X Y:Operand} (k:yl C N all (⟨gd ++ rt,rh,some d,x,[],[]⟩ :: es) ⟨(d,x) :: ts,hs,nx⟩ os K) (hE:qX C.P N ⟨some d,.indexAddr T X Y,ty,pos,af,gg⟩ (qR ts) (ja hs) ⟨rt,rh,some d,x,[],[]⟩:=by (apply vZ;rfl;rfl;rfl;rfl;rfl;(first|rfl|assumption|(apply jd;assumption)|(apply jd;apply jd;assumption));rfl;exact nle rfl)):jE C N all gd es ⟨ts,hs,nx⟩ ⟨some d,.indexAddr T X Y,ty,pos,af,gg⟩ os K:=qf hE k
theorem qha {rt rh:List Nat} {d:Nat} {x:AV} {ty:TypeId} {pos:String} {af:Array Edge} {gg:Option (Nat × Bool)} {T:TypeId} {X Y:Operand} (k:yl C N all (⟨gd ++ rt,rh,some d,x,[],[]⟩ :: es) ⟨(d,x) :: ts,hs,nx⟩ os K) (hE:qX C.P N ⟨some d,.index T X Y,ty,pos,af,gg⟩ (qR ts) (ja hs) ⟨rt,rh,some d,x,[],[]⟩:=by (apply vc;rfl;rfl;rfl;rfl;(first|rfl|assumption|(apply jd;assumption)|(apply jd;apply jd;assumption));exact nle rfl)):jE C N all gd es ⟨ts,hs,nx⟩ ⟨some d,.index T X Y,ty,pos,af,gg⟩ os K:=qf hE k
theorem qfG {rt rh:List Nat} {d:Nat} {x:AV} {ty:TypeId} {pos:String} {af:Array Edge} {gg:Option (Nat × Bool)} {T:TypeId} {X:Operand} (k:yl C N all (⟨gd ++ rt,rh,some d,x,[],[]⟩ :: es) ⟨(d,x) :: ts,hs,nx⟩ os K) (hE:qX C.P N ⟨some d,.unOp .not T X,ty,pos,af,gg⟩ (qR ts) (ja hs) ⟨rt,rh,some d,x,[],[]⟩:=by (apply Kz;rfl;exact nle rfl)):jE C N all gd es ⟨ts,hs,nx⟩ ⟨some d,.unOp .not T X,ty,pos,af,gg⟩ os K:=qf hE k
theorem qfB {rt rh:List Nat} {d:Nat} {x:AV} {ty:TypeId} {pos:String} {af:Array Edge} {gg:Option (Nat × Bool)} {X:Operand} {i:Nat} (k:yl C N all (⟨gd ++ rt,rh,some d,x,[],[]⟩ :: es) ⟨(d,x) :: ts,hs,nx⟩ os K) (hE:qX C.P N ⟨some d,.extract X i,ty,pos,af,gg⟩ (qR ts) (ja hs) ⟨rt,rh,some d,x,[],[]⟩:=by (apply QA;rfl;(conv=>lhs;whnf);exact nle rfl)):jE C N all gd es ⟨ts,hs,nx⟩ ⟨some d,.extract X i,ty,pos,af,gg⟩ os K:=qf hE k
theorem qg9 {rt rh:List Nat} {d:Nat} {x:AV} {ty:TypeId} {pos:String} {af:Array Edge} {gg:Option (Nat × Bool)} {T:TypeId} {X:Operand} {f:Nat} (k:yl C N all (⟨gd ++ rt,rh,some d,x,[],[]⟩ :: es) ⟨(d,x) :: ts,hs,nx⟩ os K) (hE:qX C.P N ⟨some d,.field T X f,ty,pos,af,gg⟩ (qR ts) (ja hs) ⟨rt,rh,some d,x,[],[]⟩:=by (apply Yy;rfl;rfl;rfl;rfl;(conv=>lhs;whnf);exact nle rfl)):jE C N all gd es ⟨ts,hs,nx⟩ ⟨some d,.field T X f,ty,pos,af,gg⟩ os K:=qf hE k
theorem qfD {rt rh:List Nat} {d:Nat} {x:AV} {ty:TypeId} {pos:String} {af:Array Edge} {gg:Option (Nat × Bool)} {fn fs cs:_} (k:yl C N all (⟨gd ++ rt,rh,some d,x,[],[]⟩ :: es) ⟨(d,x) :: ts,hs,nx⟩ os K) (hE:qX C.P N ⟨some d,.makeFunc fn fs cs,ty,pos,af,gg⟩ (qR ts) (ja hs) ⟨rt,rh,some d,x,[],[]⟩:=by (apply X9;exact nle rfl)):jE C N all gd es ⟨ts,hs,nx⟩ ⟨some d,.makeFunc fn fs cs,ty,pos,af,gg⟩ os K:=qf hE k
theorem qhb {rt rh:List Nat} {d:Nat} {x:AV} {ty:TypeId} {pos:String} {af:Array Edge} {gg:Option (Nat × Bool)} {X:Operand} (k:yl C N all (⟨gd ++ rt,rh,some d,x,[],[]⟩ :: es) ⟨(d,x) :: ts,hs,nx⟩ os K) (hE:qX C.P N ⟨some d,.nilCheck X,ty,pos,af,gg⟩ (qR ts) (ja hs) ⟨rt,rh,some d,x,[],[]⟩:=by first|(apply z7;rfl;exact nle rfl)|(apply z6;rfl;exact nle rfl)):jE C N all gd es ⟨ts,hs,nx⟩ ⟨some d,.nilCheck X,ty,pos,af,gg⟩ os K:=qf hE k
theorem qg7 {rt rh:List Nat} {d:Nat} {x:AV} {ty:TypeId} {pos:String} {af:Array Edge} {gg:Option (Nat × Bool)} {T:TypeId} {ps:_} (k:yl C N all (⟨gd ++ rt,rh,some d,x,[],[]⟩ :: es) ⟨(d,x) :: ts,hs,nx⟩ os K) (hE:qX C.P N ⟨some d,.build T ps,ty,pos,af,gg⟩ (qR ts) (ja hs) ⟨rt,rh,some d,x,[],[]⟩:=by (apply Yv;rfl;rfl;rfl;(conv=>lhs;whnf);exact nle rfl)):jE C N all gd es ⟨ts,hs,nx⟩ ⟨some d,.build T ps,ty,pos,af,gg⟩ os K:=qf hE k
theorem qek {rt rh:List Nat} {d:Nat} {x:AV} {ty:TypeId} {pos:String} {af:Array Edge} {gg:Option (Nat × Bool)} {hb:HB} {T:TypeId} (k:yl C N all (⟨gd ++ rt,rh,some d,x,[(nx,hb)],[nx]⟩ :: es) ⟨(d,x) :: ts,(nx,hb) :: hs,nx + 1⟩ os K) (hE:qX C.P N ⟨some d,.alloc T,ty,pos,af,gg⟩ (qR ts) (ja hs) ⟨rt,rh,some d,x,[(nx,hb)],[nx]⟩:=by (apply Yu;rfl;exact nle rfl)):jE C N all gd es ⟨ts,hs,nx⟩ ⟨some d,.alloc T,ty,pos,af,gg⟩ os K:=xq hE k
theorem qfz {rt rh:List Nat} {d:Nat} {x:AV} {ty:TypeId} {pos:String} {af:Array Edge} {gg:Option (Nat × Bool)} {hb:HB} {T:TypeId} {X:Operand} (k:yl C N all (⟨gd ++ rt,rh,some d,x,[(nx,hb)],[nx]⟩ :: es) ⟨(d,x) :: ts,(nx,hb) :: hs,nx + 1⟩ os K) (hE:qX C.P N ⟨some d,.box T X,ty,pos,af,gg⟩ (qR ts) (ja hs) ⟨rt,rh,some d,x,[(nx,hb)],[nx]⟩:=by (apply Ky;rfl;exact nle rfl)):jE C N all gd es ⟨ts,hs,nx⟩ ⟨some d,.box T X,ty,pos,af,gg⟩ os K:=xq hE k
theorem W4 {rt rh:List Nat} {x:AV} {hb:HB} {m:Nat} {ty:TypeId} {pos:String} {af:Array Edge} {gg:Option (Nat × Bool)} {T:TypeId} {p X:Operand} (k:yl C N all (⟨gd ++ rt,rh,none,x,[(m,hb)],[]⟩ :: es) ⟨ts,(m,hb) :: hs,nx⟩ os K) (hE:qX C.P N ⟨none,.store T p X,ty,pos,af,gg⟩ (qR ts) (ja hs) ⟨rt,rh,none,x,[(m,hb)],[]⟩:=by (apply YB;rfl;rfl;rfl;(first|rfl|assumption|(apply jd;assumption)|(apply jd;apply jd;assumption));rfl;rfl;exact nle rfl)):jE C N all gd es ⟨ts,hs,nx⟩ ⟨none,.store T p X,ty,pos,af,gg⟩ os K:=yy hE k
theorem jM {rt rh:List Nat} {d:Nat} {x:AV} {ty:TypeId} {pos:String} {af:Array Edge} {gg:Option (Nat × Bool)} {T len:Nat} {ps:_} (k:yl C N all (⟨gd ++ rt,rh,some d,x,[],[]⟩ :: es) ⟨(d,x) :: ts,hs,nx⟩ os K) (hE:qX C.P N ⟨some d,.buildSlice T len ps,ty,pos,af,gg⟩ (qR ts) (ja hs) ⟨rt,rh,some d,x,[],[]⟩:=by (first|(apply Yw;rfl;rfl;rfl;exact nle rfl)|(apply J9;rfl;rfl;rfl;rfl;exact ⟨rfl,rfl⟩;rfl;exact nle rfl;exact nle rfl)|(apply wQ;(conv=>lhs;whnf);rfl;rfl;rfl;exact ⟨rfl,rfl⟩;rfl;exact nle rfl;exact nle rfl)|(apply kp;rfl;rfl;rfl;rfl;rfl;rfl;rfl;exact nle rfl;exact nle rfl))):jE C N all gd es ⟨ts,hs,nx⟩ ⟨some d,.buildSlice T len ps,ty,pos,af,gg⟩ os K:=qf hE k
theorem xX {rt rh:List Nat} {d:Nat} {x:AV} {ty:TypeId} {pos:String} {af:Array Edge} {gg:Option (Nat × Bool)} {T:TypeId} {X Y:Operand} (k:yl C N all (⟨gd ++ rt,rh,some d,x,[],[]⟩ :: es) ⟨(d,x) :: ts,hs,nx⟩ os K) (hE:qX C.P N ⟨some d,.indexAddr T X Y,ty,pos,af,gg⟩ (qR ts) (ja hs) ⟨rt,rh,some d,x,[],[]⟩:=by (apply Yz;(case hx=>rfl);(case hy=>rfl);(case hT=>rfl);(case he=>rfl);(case hE=>rfl);(case hn=>rfl);(case hi=>(first|omega|(simp<;>fail)|(simp only [List.length_cons,List.length_nil,List.length_map];omega)|(simp;omega)));(case hN=>exact nle rfl))):jE C N all gd es ⟨ts,hs,nx⟩ ⟨some d,.indexAddr T X Y,ty,pos,af,gg⟩ os K:=qf hE k
theorem qel {rt rh:List Nat} {d:Nat} {x:AV} {ty:TypeId} {pos:String} {af:Array Edge} {gg:Option (Nat × Bool)} {T:TypeId} {X:Operand} {lo hi mx:_} (k:yl C N all (⟨gd ++ rt,rh,some d,x,[],[]⟩ :: es) ⟨(d,x) :: ts,hs,nx⟩ os K) (hE:qX C.P N ⟨some d,.slice T X lo hi mx,ty,pos,af,gg⟩ (qR ts) (ja hs) ⟨rt,rh,some d,x,[],[]⟩:=by (apply wS;(case hx=>rfl);(case hT=>rfl);(case he=>rfl);(case hE=>rfl);(case hn=>rfl);(case ha=>first|exact ⟨_,rfl⟩|rfl);(case hb=>first|exact ⟨_,rfl⟩|rfl);(case hab=>(first|omega|(simp<;>fail)|(simp only [List.length_cons,List.length_nil,List.length_map];omega)|(simp;omega)));(case hbl=>(first|omega|(simp<;>fail)|(simp only [List.length_cons,List.length_nil,List.length_map];omega)|(simp;omega)));(case hN=>exact nle rfl))):jE C N all gd es ⟨ts,hs,nx⟩ ⟨some d,.slice T X lo hi mx,ty,pos,af,gg⟩ os K:=qf hE k
theorem qga {rt rh:List Nat} {d:Nat} {x:AV} {ty:TypeId} {pos:String} {af:Array Edge} {gg:Option (Nat × Bool)} {T:TypeId} {X:Operand} {lo hi mx:_} (k:yl C N all (⟨gd ++ rt,rh,some d,x,[],[]⟩ :: es) ⟨(d,x) :: ts,hs,nx⟩ os K) (hE:qX C.P N ⟨some d,.slice T X lo hi mx,ty,pos,af,gg⟩ (qR ts) (ja hs) ⟨rt,rh,some d,x,[],[]⟩:=by (apply jm;(case hx=>rfl);(case hT=>rfl);(case he=>rfl);(case ha=>first|exact ⟨_,rfl⟩|rfl);(case hb=>first|exact ⟨_,rfl⟩|rfl);(case hab=>(first|omega|(simp<;>fail)|(simp only [List.length_cons,List.length_nil,List.length_map];omega)|(simp;omega)));(case hbl=>(first|omega|(simp<;>fail)|(simp only [List.length_cons,List.length_nil,List.length_map];omega)|(simp;omega)));(case hN=>exact nle rfl))):jE C N all gd es ⟨ts,hs,nx⟩ ⟨some d,.slice T X lo hi mx,ty,pos,af,gg⟩ os K:=qf hE k
theorem qbQ {rt rh:List Nat} {d:Nat} {x:AV} {ty:TypeId} {pos:String} {af:Array Edge} {gg:Option (Nat × Bool)} {op:BinOp} {T:TypeId} {X Y:Operand} {yT:TypeId} (k:yl C N all (⟨gd ++ rt,rh,some d,x,[],[]⟩ :: es) ⟨(d,x) :: ts,hs,nx⟩ os K) (hE:qX C.P N ⟨some d,.binOp op T X Y yT,ty,pos,af,gg⟩ (qR ts) (ja hs) ⟨rt,rh,some d,x,[],[]⟩:=by (first|(apply qdX;rfl;rfl;rfl;(first|exact .inl rfl|exact .inr rfl);exact nle rfl)|(apply WE;rfl;rfl;rfl;(first|exact .inl rfl|exact .inr rfl);exact nle rfl))):jE C N all gd es ⟨ts,hs,nx⟩ ⟨some d,.binOp op T X Y yT,ty,pos,af,gg⟩ os K:=qf hE k
theorem W0 {rt rh:List Nat} {d:Nat} {x:AV} {ty:TypeId} {pos:String} {af:Array Edge} {gg:Option (Nat × Bool)} {op:BinOp} {T:TypeId} {X Y:Operand} {yT:TypeId} (k:yl C N all (⟨gd ++ rt,rh,some d,x,[],[]⟩ :: es) ⟨(d,x) :: ts,hs,nx⟩ os K) (hE:qX C.P N ⟨some d,.binOp op T X Y yT,ty,pos,af,gg⟩ (qR ts) (ja hs) ⟨rt,rh,some d,x,[],[]⟩:=by (apply qfe;rfl;rfl;rfl;rfl;(first|exact .inl ⟨rfl,rfl⟩|exact .inr ⟨rfl,rfl⟩);exact nle rfl)):jE C N all gd es ⟨ts,hs,nx⟩ ⟨some d,.binOp op T X Y yT,ty,pos,af,gg⟩ os K:=qf hE k
theorem Yd {rt rh:List Nat} {d:Nat} {x:AV} {ty:TypeId} {pos:String} {af:Array Edge} {gg:Option (Nat × Bool)} {hb:HB} {as:Array Operand} {tys:Array TypeId} (k:yl C N all (⟨gd ++ rt,rh,some d,x,[(nx,hb)],[nx]⟩ :: es) ⟨(d,x) :: ts,(nx,hb) :: hs,nx + 1⟩ os K) (hE:qX C.P N ⟨some d,.call ⟨.builtin .append,as,tys⟩,ty,pos,af,gg⟩ (qR ts) (ja hs) ⟨rt,rh,some d,x,[(nx,hb)],[nx]⟩:=by (apply JV;(case hx=>rfl);(case hT=>rfl);(case he=>rfl);(case hE=>rfl);(case hz=>rfl);(case hsrc=>(first|(apply zL;rfl;rfl)|(apply Jp;rfl;intro a;rfl)|(apply QV;rfl;rfl;first|omega|(simp<;>fail)|(simp;omega);rfl;first|rfl|exact ve fun _=>rfl)));(case hsz=>(first|omega|(simp<;>fail)|(simp only [List.length_cons,List.length_nil,List.length_map];omega)|(simp;omega)));(case hlen=>(first|omega|(simp<;>fail)|(simp only [List.length_cons,List.length_nil,List.length_map];omega)|(simp;omega)));(case hN=>exact nle rfl))):jE C N all gd es ⟨ts,hs,nx⟩ ⟨some d,.call ⟨.builtin .append,as,tys⟩,ty,pos,af,gg⟩ os K:=xq hE k
theorem yg {rt rh:List Nat} {d:Nat} {x:AV} {ty:TypeId} {pos:String} {af:Array Edge} {gg:Option (Nat × Bool)} {hb hb' : HB} {m:Nat} {as:Array Operand} {tys:Array TypeId} (k:yl C N all (⟨gd ++ rt,rh,some d,x,[(nx,hb),(m,hb')],[nx]⟩ :: es) ⟨(d,x) :: ts,(nx,hb) :: (m,hb') :: hs,nx + 1⟩ os K) (hE:qX C.P N ⟨some d,.call ⟨.builtin .append,as,tys⟩,ty,pos,af,gg⟩ (qR ts) (ja hs) ⟨rt,rh,some d,x,[(nx,hb),(m,hb')],[nx]⟩:=by (apply ku;(case hx=>rfl);(case hT=>rfl);(case he=>rfl);(case hE=>rfl);(case hn=>rfl);(case hl=>(first|omega|(simp<;>fail)|(simp only [List.length_cons,List.length_nil,List.length_map];omega)|(simp;omega)));(case hz=>rfl);(case hsrc=>(first|(apply zL;rfl;rfl)|(apply Jp;rfl;intro a;rfl)|(apply QV;rfl;rfl;first|omega|(simp<;>fail)|(simp;omega);rfl;first|rfl|exact ve fun _=>rfl)));(case hsz=>(first|omega|(simp<;>fail)|(simp only [List.length_cons,List.length_nil,List.length_map];omega)|(simp;omega)));(case hlen=>(first|omega|(simp<;>fail)|(simp only [List.length_cons,List.length_nil,List.length_map];omega)|(simp;omega)));(case hmn=>exact Nat.ne_of_beq_eq_false rfl);(case hN=>exact nle rfl))):jE C N all gd es ⟨ts,hs,nx⟩ ⟨some d,.call ⟨.builtin .append,as,tys⟩,ty,pos,af,gg⟩ os K:=YW hE k
theorem qg8 {rt rh:List Nat} {x:AV} {hb:HB} {m:Nat} {ty:TypeId} {pos:String} {af:Array Edge} {gg:Option (Nat × Bool)} {as:Array Operand} {tys:Array TypeId} (k:yl C N all (⟨gd ++ rt,rh,none,x,[(m,hb)],[]⟩ :: es) ⟨ts,(m,hb) :: hs,nx⟩ os K) (hE:qX C.P N ⟨none,.call ⟨.builtin .clear,as,tys⟩,ty,pos,af,gg⟩ (qR ts) (ja hs) ⟨rt,rh,none,x,[(m,hb)],[]⟩:=by (apply WD;(case hx=>rfl);(case hT=>rfl);(case he=>rfl);(case hE=>rfl);(case hn=>rfl);(case hz=>rfl);(case hz1=>rfl);(case hfit=>(first|omega|(simp<;>fail)|(simp only [List.length_cons,List.length_nil,List.length_map];omega)|(simp;omega))))):jE C N all gd es ⟨ts,hs,nx⟩ ⟨none,.call ⟨.builtin .clear,as,tys⟩,ty,pos,af,gg⟩ os K:=yy hE k
def Vq (C:Cx) (N:Nat) (all:Array Oper) (gd:List Nat) (es:List Eff) (σ:St) (f:FuncId) (args:List Operand) (d:Nat) (tys:Array TypeId) (ty:TypeId) (pos:String) (af:Array Edge) (gg:Option (Nat × Bool)) (os:List Oper) (K:List Eff → St → Prop):Prop :=
 jE C N all gd es σ ⟨some d,.call ⟨.value (.func f),args.toArray,tys⟩,ty,pos,af,gg⟩ os K
theorem jT {σ:St} {d:Nat} {ty:TypeId} {pos:String} {af:Array Edge} {gg:Option (Nat × Bool)} {f:FuncId} {fn:Func} {args:List Operand} {tys:Array TypeId} (hf:C.P.funcs[f]? = some fn) (hb0:fn.body.isNone = false) (hn0:(fn.name == "runtime.NumGoroutine") = false) (k:IsFn C.P f → Vq C N all gd es σ f args d tys ty pos af gg os K) :
  jE C N all gd es σ ⟨some d,.call ⟨.value (.func f),args.toArray,tys⟩,ty,pos,af,gg⟩ os K:=k (j1 hf hb0 hn0)
theorem qfA {d:Nat} {ty:TypeId} {pos:String} {af:Array Edge} {gg:Option (Nat × Bool)} {f:FuncId} {args:List Operand} {tys:Array TypeId} {ys:List AV} {r:AV} (hf:IsFn C.P f) (hc:qW C.P f ys [] r []) (k:yl C N all (⟨gd ++ (yh (.func f) ++ args.flatMap yh),[],some d,r,[],[]⟩ :: es) ⟨(d,r) :: ts,hs,nx⟩ os K)
  (hz:vl (wZ [] (ja hs)) (args.map (evA (qR ts))) ys:=by ((repeat' (first|exact q5|apply qH|exact q8 rfl|exact yn|apply jR|apply jJ))<;>fail)) (hfl:KB r = true:=by rfl) (hN:d < N:=by exact nle rfl):Vq C N all gd es ⟨ts,hs,nx⟩ f args d tys ty pos af gg os K :=
 qf (yu [] hf hc hz hfl hN) k
theorem qhl {d:Nat} {ty:TypeId} {pos:String} {af:Array Edge} {gg:Option (Nat × Bool)} {f:FuncId} {args:List Operand} {tys:Array TypeId} {ys:List AV} {r:AV} (hf:IsFn C.P f) (hc:qW C.P f ys [] r []) (k:yl C N all (⟨gd ++ (yh (.func f) ++ args.flatMap yh),[],some d,r,[],[]⟩ :: es) ⟨(d,r) :: ts,hs,nx⟩ os K)
  (hz:jv [] [] (ja hs) (args.map (evA (qR ts))) ys:=by ((repeat' (first|exact jf|apply q6|exact je rfl|exact jG|(apply wo;rfl;exact List.mem_cons_self ..;exact nle rfl)|(apply Yp;exact List.mem_cons_self ..)|apply jw|apply jx))<;>fail)) (hr:r.pure = true:=by rfl) (hN:d < N:=by exact nle rfl):Vq C N all gd es ⟨ts,hs,nx⟩ f args d tys ty pos af gg os K :=
 qf (WC [] hf hc hz hr hN) k
theorem Vl {d:Nat} {ty:TypeId} {pos:String} {af:Array Edge} {gg:Option (Nat × Bool)} {f:FuncId} {fn:Func} {x:Operand} {first cap:List AV} {args:List Operand} {tys:Array TypeId} {ys:List AV} {r:AV} (hf:C.P.funcs[f]? = some fn) (hc:qW C.P f ys [] r []) (k:yl C N all (⟨gd ++ (yh x ++ args.flatMap yh),[],some d,r,[],[]⟩ :: es) ⟨(d,r) :: ts,hs,nx⟩ os K) (hb0:fn.body.isNone = false:=by rfl) (hn0:(fn.name == "runtime.NumGoroutine") = false:=by rfl) (hx:evA (qR ts) x = .clo (.func f) first cap:=by rfl)
  (hz:vl (wZ [] (ja hs)) (first ++ args.map (evA (qR ts)) ++ cap) ys:=by ((repeat' (first|exact q5|apply qH|exact q8 rfl|exact yn|apply jR|apply jJ))<;>fail)) (hfl:KB r = true:=by rfl) (hN:d < N:=by exact nle rfl):jE C N all gd es ⟨ts,hs,nx⟩ ⟨some d,.call ⟨.value x,args.toArray,tys⟩,ty,pos,af,gg⟩ os K :=
 qf (Ja [] hx (j1 hf hb0 hn0) hc hz hfl hN) k
theorem wY {d:Nat} {ty:TypeId} {pos:String} {af:Array Edge} {gg:Option (Nat × Bool)} {f:FuncId} {args:List Operand} {tys:Array TypeId} {ys:List AV} {r:AV} {r' : AV} {hb:HB} (rh:List Nat) (hf:IsFn C.P f) (hc:qW C.P f ys [] r [hb]) (k:yl C N all (⟨gd ++ (yh (.func f) ++ args.flatMap yh),rh,some d,r',[(nx,hb)],[nx]⟩ :: es) ⟨(d,r') :: ts,(nx,hb) :: hs,nx + 1⟩ os K)
  (hz:jv [] rh (ja hs) (args.map (evA (qR ts))) ys:=by ((repeat' (first|exact jf|apply q6|exact je rfl|exact jG|(apply wo;rfl;exact List.mem_cons_self ..;exact nle rfl)|(apply Yp;exact List.mem_cons_self ..)|apply jw|apply jx))<;>fail)) (hr:r.ren [(0,nx)] = r':=by rfl) (hbp:vF [(0,nx)] 0 hb hb:=by exact qZ (by (first|assumption|exact jX rfl|exact qE fun _=>rfl))) (hN:d < N:=by exact nle rfl):Vq C N all gd es ⟨ts,hs,nx⟩ f args d tys ty pos af gg os K :=
 xq (qdW rh nx hf hc hz hr hbp hN) k
theorem YR {d:Nat} {ty:TypeId} {pos:String} {af:Array Edge} {gg:Option (Nat × Bool)} {f:FuncId} {args:List Operand} {tys:Array TypeId} {ys:List AV} {r:AV} {r' : AV} {hb hb' : HB} (rh:List Nat) (n:Nat) (hf:IsFn C.P f) (hc:qW C.P f ys [hb] r [hb']) (k:yl C N all (⟨gd ++ (yh (.func f) ++ args.flatMap yh),rh,some d,r',[(n,hb')],[]⟩ :: es) ⟨(d,r') :: ts,(n,hb') :: hs,nx⟩ os K) (hn:ja hs n = hb:=by rfl) (ho:hb.isOwn = true:=by rfl) (hnr:n ∈ rh:=by exact List.mem_cons_self ..)
  (hz:jv [(n,0)] rh (ja hs) (args.map (evA (qR ts))) ys:=by ((repeat' (first|exact jf|apply q6|exact je rfl|exact jG|(apply wo;rfl;exact List.mem_cons_self ..;exact nle rfl)|(apply Yp;exact List.mem_cons_self ..)|apply jw|apply jx))<;>fail)) (hr:r.ren [(0,n)] = r':=by rfl) (hbp:vF [(n,0)] 0 hb hb:=by exact qZ (by (first|assumption|exact jX rfl|exact qE fun _=>rfl))) (hbp' : vF [(0,n)] 0 hb' hb':=by exact qZ (by (first|assumption|exact jX rfl|exact qE fun _=>rfl))) (hN:d < N:=by exact nle rfl):Vq C N all gd es ⟨ts,hs,nx⟩ f args d tys ty pos af gg os K :=
 Jh (qdV rh n hn ho hnr hf hc hz hr hbp hbp' hN) k
theorem k9 {d:Nat} {ty:TypeId} {pos:String} {af:Array Edge} {gg:Option (Nat × Bool)} {f:FuncId} {args:List Operand} {tys:Array TypeId} {ys:List AV} {r:AV} {r' : AV} {hb hb' : HB} (rh:List Nat) (n:Nat) (hf:IsFn C.P f) (hc:qW C.P f ys [hb] r [.dead,hb']) (k:yl C N all (⟨gd ++ (yh (.func f) ++ args.flatMap yh),rh,some d,r',[(n,.dead),(nx,hb')],[nx]⟩ :: es) ⟨(d,r') :: ts,(n,.dead) :: (nx,hb') :: hs,nx + 1⟩ os K) (hn:ja hs n = hb:=by rfl) (ho:hb.isOwn = true:=by rfl) (hnr:n ∈ rh:=by exact List.mem_cons_self ..) (hmn:nx ≠ n:=by exact Nat.ne_of_beq_eq_false rfl)
  (hz:jv [(n,0)] rh (ja hs) (args.map (evA (qR ts))) ys:=by ((repeat' (first|exact jf|apply q6|exact je rfl|exact jG|(apply wo;rfl;exact List.mem_cons_self ..;exact nle rfl)|(apply Yp;exact List.mem_cons_self ..)|apply jw|apply jx))<;>fail)) (hr:r.ren [(0,n),(1,nx)] = r':=by rfl) (hbp:vF [(n,0)] 0 hb hb:=by exact qZ (by (first|assumption|exact jX rfl|exact qE fun _=>rfl))) (hbp' : vF [(0,n),(1,nx)] 0 hb' hb':=by exact qZ (by (first|assumption|exact jX rfl|exact qE fun _=>rfl))) (hN:d < N:=by exact nle rfl):Vq C N all gd es ⟨ts,hs,nx⟩ f args d tys ty pos af gg os K :=
 qcP (qdU rh n nx hn ho hnr hmn hf hc hz hr hbp hbp' hN) k
end steps
theorem Kd {C:Cx} {N:Nat} {all:Array Oper} {es:List Eff} {σ:St} {P:List Eff → Prop} {R:St → Prop} (k:R σ) (hl:es.length ≤ all.size:=by exact nle rfl) (hp:P es:=by first|exact fun h=>absurd h Bool.false_ne_true|(intro _;kernel_rfl)):yl C N all es σ [] (fun es σ'=>P es ∧ R σ'):=Vm hl ⟨hp,k⟩
section guards
variable {C:Cx} {N:Nat} {all:Array Oper} {es:List Eff} {os:List Oper} {K:List Eff → St → Prop} {ts:List (Nat × AV)} {hs:List (Nat × HB)} {nx:Nat} {j d d' : Nat} {op:Op} {ty:TypeId} {pos:String} {af:Array Edge}
theorem Xp (k:jE C N all [d] es ⟨ts,hs,nx⟩ ⟨some d',op,ty,pos,af,some (j,true)⟩ os K) (hd:(all[j]?).bind (·.dst) = some d:=by rfl) (hv:qR ts d = .v (.bool true):=by rfl)  (hN:d' < N:=by exact nle rfl):yl C N all es ⟨ts,hs,nx⟩ (⟨some d',op,ty,pos,af,some (j,true)⟩ :: os) K:=YV hd hv hN k
theorem Xo (k:jE C N all [d] es ⟨ts,hs,nx⟩ ⟨some d',op,ty,pos,af,some (j,false)⟩ os K) (hd:(all[j]?).bind (·.dst) = some d:=by rfl) (hv:qR ts d = .v (.bool false):=by rfl)  (hN:d' < N:=by exact nle rfl):yl C N all es ⟨ts,hs,nx⟩ (⟨some d',op,ty,pos,af,some (j,false)⟩ :: os) K:=YU hd hv hN k
theorem JD (k:yl C N all (⟨[d],[],some d',.tup [],[],[]⟩ :: es) ⟨(d',.tup []) :: ts,hs,nx⟩ os K) (hd:(all[j]?).bind (·.dst) = some d:=by rfl) (hv:qR ts d = .v (.bool false):=by rfl)  (hN:d' < N:=by exact nle rfl):yl C N all es ⟨ts,hs,nx⟩ (⟨some d',op,ty,pos,af,some (j,true)⟩ :: os) K:=JI hd hv hN k
theorem JC (k:yl C N all (⟨[d],[],some d',.tup [],[],[]⟩ :: es) ⟨(d',.tup []) :: ts,hs,nx⟩ os K) (hd:(all[j]?).bind (·.dst) = some d:=by rfl) (hv:qR ts d = .v (.bool true):=by rfl)  (hN:d' < N:=by exact nle rfl):yl C N all es ⟨ts,hs,nx⟩ (⟨some d',op,ty,pos,af,some (j,false)⟩ :: os) K:=JH hd hv hN k
theorem ZW {b:Bool} (k:yl C N all (⟨[d],[],some d',.tup [],[],[]⟩ :: es) ⟨(d',.tup []) :: ts,hs,nx⟩ os K) (hd:(all[j]?).bind (·.dst) = some d:=by rfl) (hv:qR ts d = .tup []:=by rfl)  (hN:d' < N:=by exact nle rfl):yl C N all es ⟨ts,hs,nx⟩ (⟨some d',op,ty,pos,af,some (j,b)⟩ :: os) K:=wa hd hv hN k
theorem ZX {b c:Bool} (k:jE C N all [d] es ⟨ts,hs,nx⟩ ⟨some d',op,ty,pos,af,some (j,b)⟩ os K) (hd:(all[j]?).bind (·.dst) = some d:=by rfl) (hv:qR ts d = .v (.bool c):=by rfl) (hc:c = b:=by assumption) (hN:d' < N:=by exact nle rfl):yl C N all es ⟨ts,hs,nx⟩ (⟨some d',op,ty,pos,af,some (j,b)⟩ :: os) K:=Vn hd hv hc hN k
theorem Xn {c:Bool} (k:yl C N all (⟨[d],[],some d',.tup [],[],[]⟩ :: es) ⟨(d',.tup []) :: ts,hs,nx⟩ os K) (hd:(all[j]?).bind (·.dst) = some d:=by rfl) (hv:qR ts d = .v (.bool c):=by rfl) (hc:c = false:=by assumption) (hN:d' < N:=by exact nle rfl):yl C N all es ⟨ts,hs,nx⟩ (⟨some d',op,ty,pos,af,some (j,true)⟩ :: os) K:=YT hd hv hc hN k
theorem Xm {c:Bool} (k:yl C N all (⟨[d],[],some d',.tup [],[],[]⟩ :: es) ⟨(d',.tup []) :: ts,hs,nx⟩ os K) (hd:(all[j]?).bind (·.dst) = some d:=by rfl) (hv:qR ts d = .v (.bool c):=by rfl) (hc:c = true:=by assumption) (hN:d' < N:=by exact nle rfl):yl C N all es ⟨ts,hs,nx⟩ (⟨some d',op,ty,pos,af,some (j,false)⟩ :: os) K:=YS hd hv hc hN k
theorem qd {c:Bool} (hy:c = true → jE C N all [d] es ⟨ts,hs,nx⟩ ⟨some d',op,ty,pos,af,some (j,true)⟩ os K) (hno:c = false → yl C N all (⟨[d],[],some d',.tup [],[],[]⟩ :: es) ⟨(d',.tup []) :: ts,hs,nx⟩ os K) (hd:(all[j]?).bind (·.dst) = some d:=by rfl) (hv:qR ts d = .v (.bool c):=by rfl) (hN:d' < N:=by exact nle rfl):yl C N all es ⟨ts,hs,nx⟩ (⟨some d',op,ty,pos,af,some (j,true)⟩ :: os) K:=W7 hd hv hN hy hno
theorem qc {c:Bool} (hy:c = false → jE C N all [d] es ⟨ts,hs,nx⟩ ⟨some d',op,ty,pos,af,some (j,false)⟩ os K) (hno:c = true → yl C N all (⟨[d],[],some d',.tup [],[],[]⟩ :: es) ⟨(d',.tup []) :: ts,hs,nx⟩ os K) (hd:(all[j]?).bind (·.dst) = some d:=by rfl) (hv:qR ts d = .v (.bool c):=by rfl) (hN:d' < N:=by exact nle rfl):yl C N all es ⟨ts,hs,nx⟩ (⟨some d',op,ty,pos,af,some (j,false)⟩ :: os) K:=W6 hd hv hN hy hno
end guards
section conds
variable {C:Cx} {N:Nat} {Q:Exit → St → Prop} {σ:St} {c:Operand} {x y:Code}
end conds
section keeps
variable {L:List (Nat × Nat)} {nh:Nat} {σ:St} {i:Nat}
theorem qn {x:AV} {l:List (Nat × AV)} (hl:vx L nh σ l) (hx:qR σ.ts i = x:=by rfl) (hp:x.pure = true:=by first|rfl|(simp [AV.pure,AV.pure.pureL, *]<;>fail)):vx L nh σ ((i,x) :: l):=Km hx hp hl
theorem qS {x y:AV} {l:List (Nat × AV)} (hl:vx L nh σ l) (hxy:x = y) (hx:qR σ.ts i = x:=by (conv=>lhs;whnf)) (hp:y.pure = true:=by rfl):vx L nh σ ((i,y) :: l):=qfU hx hxy hp hl
theorem ye {n n' a b:Nat} {l:List (Nat × AV)} (hl:vx L nh σ l) (hx:qR σ.ts i = .op n a b:=by rfl) (hm:Maps L nh n n':=by (first|exact qJ rfl|exact .inr (List.mem_cons_self ..)|exact .inr (List.mem_cons_of_mem _ (List.mem_cons_self ..))|exact .inr (List.mem_cons_of_mem _ (List.mem_cons_of_mem _ (List.mem_cons_self ..)))|exact .inr (List.mem_cons_of_mem _ (List.mem_cons_of_mem _ (List.mem_cons_of_mem _ (List.mem_cons_self ..)))))):vx L nh σ ((i,.op n' a b) :: l):=qbZ hx hm hl
theorem vj {n n' off len len' : Nat} {l:List (Nat × AV)} (hl:vx L nh σ l) (hx:qR σ.ts i = .os n off len:=by rfl) (hm:Maps L nh n n':=by (first|exact qJ rfl|exact .inr (List.mem_cons_self ..)|exact .inr (List.mem_cons_of_mem _ (List.mem_cons_self ..))|exact .inr (List.mem_cons_of_mem _ (List.mem_cons_of_mem _ (List.mem_cons_self ..)))|exact .inr (List.mem_cons_of_mem _ (List.mem_cons_of_mem _ (List.mem_cons_of_mem _ (List.mem_cons_self ..)))))) (he:len = len':=by first|with_reducible rfl|(rw [hk];first|with_reducible rfl|(simp<;>fail))|(simp<;>fail)|(simp [*]<;>fail)|(simp_all<;>fail)|omega):vx L nh σ ((i,.os n' off len') :: l):=Xa hx hm he hl
theorem yA {n n' : Nat} {ex ex' : Bool} {k:Nat} {rows rows' : List (List AV)} {l:List (Nat × HB)} (hl:vp L nh σ l) (hm:Maps L nh n n':=by (first|exact qJ rfl|exact .inr (List.mem_cons_self ..)|exact .inr (List.mem_cons_of_mem _ (List.mem_cons_self ..))|exact .inr (List.mem_cons_of_mem _ (List.mem_cons_of_mem _ (List.mem_cons_self ..)))|exact .inr (List.mem_cons_of_mem _ (List.mem_cons_of_mem _ (List.mem_cons_of_mem _ (List.mem_cons_self ..)))))) (hx:ja σ.hs n = .own ex k rows:=by rfl) (he:ex' = true → ex = true:=by first|exact id|exact nofun) (hp : ∀ row,row ∈ rows' → AV.pure.pureL row = true:=by (first|assumption|exact jX rfl|exact qE fun _=>rfl)) (hr:rows = rows':=by first|rfl|(rw [hk];first|with_reducible rfl|(simp [yN]<;>fail))|(simp [yN]<;>fail)|(simp [yN, *]<;>fail)):vp L nh σ ((n',.own ex' k rows') :: l):=YI hx hm he hr hp hl
theorem q9 {n n' : Nat} {ex ex' : Bool} {k:Nat} {rows rows' : List (List AV)} {l:List (Nat × HB)} (hl:vp L nh σ l) (hr:rows = rows') (hm:Maps L nh n n':=by (first|exact qJ rfl|exact .inr (List.mem_cons_self ..)|exact .inr (List.mem_cons_of_mem _ (List.mem_cons_self ..))|exact .inr (List.mem_cons_of_mem _ (List.mem_cons_of_mem _ (List.mem_cons_self ..)))|exact .inr (List.mem_cons_of_mem _ (List.mem_cons_of_mem _ (List.mem_cons_of_mem _ (List.mem_cons_self ..)))))) (hx:ja σ.hs n = .own ex k rows:=by rfl) (he:ex' = true → ex = true:=by first|exact id|exact nofun) (hp : ∀ row,row ∈ rows' → AV.pure.pureL row = true:=by (first|assumption|exact jX rfl|exact qE fun _=>rfl)):vp L nh σ ((n',.own ex' k rows') :: l):=YI hx hm he hr hp hl
theorem xw {n n' off len len' : Nat} {l:List (Nat × AV)} (hl:vx L nh σ l) (he:len = len') (hx:qR σ.ts i = .os n off len:=by rfl) (hm:Maps L nh n n':=by (first|exact qJ rfl|exact .inr (List.mem_cons_self ..)|exact .inr (List.mem_cons_of_mem _ (List.mem_cons_self ..))|exact .inr (List.mem_cons_of_mem _ (List.mem_cons_of_mem _ (List.mem_cons_self ..)))|exact .inr (List.mem_cons_of_mem _ (List.mem_cons_of_mem _ (List.mem_cons_of_mem _ (List.mem_cons_self ..)))))):vx L nh σ ((i,.os n' off len') :: l):=Xa hx hm he hl
theorem xr {n n' off len len' : Nat} {l:List (Nat × AV)} (hl:vx L nh σ l) (hx:qR σ.ts i = .os n off len:=by rfl) (hm:Maps L nh n n':=by (first|exact qJ rfl|exact .inr (List.mem_cons_self ..)|exact .inr (List.mem_cons_of_mem _ (List.mem_cons_self ..))|exact .inr (List.mem_cons_of_mem _ (List.mem_cons_of_mem _ (List.mem_cons_self ..)))|exact .inr (List.mem_cons_of_mem _ (List.mem_cons_of_mem _ (List.mem_cons_of_mem _ (List.mem_cons_self ..)))))) (he:len = len':=by first|with_reducible rfl|omega):vx L nh σ ((i,.os n' off len') :: l):=Xa hx hm he hl
theorem zz {n n' : Nat} {ex ex' : Bool} {k:Nat} {rows rows' : List (List AV)} {l:List (Nat × HB)} (hl:vp L nh σ l) (hm:Maps L nh n n':=by (first|exact qJ rfl|exact .inr (List.mem_cons_self ..)|exact .inr (List.mem_cons_of_mem _ (List.mem_cons_self ..))|exact .inr (List.mem_cons_of_mem _ (List.mem_cons_of_mem _ (List.mem_cons_self ..)))|exact .inr (List.mem_cons_of_mem _ (List.mem_cons_of_mem _ (List.mem_cons_of_mem _ (List.mem_cons_self ..)))))) (hx:ja σ.hs n = .own ex k rows:=by rfl) (he:ex' = true → ex = true:=by first|exact id|exact nofun) (hp : ∀ row,row ∈ rows' → AV.pure.pureL row = true:=by first|assumption|exact jX rfl|exact qE fun _=>rfl) (hr:rows = rows':=by with_reducible rfl):vp L nh σ ((n',.own ex' k rows') :: l):=YI hx hm he hr hp hl
end keeps
theorem yP {C:Cx} {rs:List ResultVar} {nh:Nat} {σ:St} {xs:List AV} {r:AV} (hz:Rz (ja σ.hs) (j6 xs) r) (hr:ResOk C σ rs xs:=by ((repeat (first|exact jp|(apply jq;rfl)|(apply jg;rfl;rfl;rfl;rfl;rfl)))<;>fail)):Fin C rs.toArray nh r [] σ:=YE hr hz
theorem zA {h:Nat → HB} {n len:Nat} {ex:Bool} {k:Nat} {rows:List (List AV)} (hn:h n = .own ex k rows:=by rfl) (hl:len = rows.length:=by first|with_reducible rfl|(simp<;>fail)|(simp [*]<;>fail)|omega) (hp : ∀ row,row ∈ rows → AV.pure.pureL row = true:=by (first|assumption|exact jX rfl|exact qE fun _=>rfl)):Rz h (.os n 0 len) (.sl false rows):=jY hn hl hp
theorem zi {h:Nat → HB} {n len:Nat} {ex:Bool} {k:Nat} {rows rows' : List (List AV)} (he:rows = rows') (hn:h n = .own ex k rows:=by rfl) (hl:len = rows.length:=by first|with_reducible rfl|(simp<;>fail)|(simp [*]<;>fail)|omega) (hp : ∀ row,row ∈ rows' → AV.pure.pureL row = true:=by (first|assumption|exact jX rfl|exact qE fun _=>rfl)):Rz h (.os n 0 len) (.sl false rows'):=Y6 hn hl he hp
structure Hold (G:Prop):Prop where
 out:G
theorem Ww {G T:Prop} (h:Hold G → T) (k:G):T:=h ⟨k⟩
theorem qm {G G' : Prop} (k:G') (h:Hold G' → G:=by intro key;(first|(apply qf;first|(apply Vb;(conv=>lhs;whnf);exact nle rfl)|(apply Jw;(conv=>lhs;whnf);exact nle rfl)|(apply z8;rfl;(conv=>lhs;whnf);exact nle rfl)|(apply zC;rfl;(conv=>lhs;whnf);exact nle rfl)|(apply Va;rfl;rfl;rfl;exact nle rfl)|(apply zr;rfl;rfl;rfl;rfl;exact nofun;exact nle rfl)|(apply zJ;rfl;rfl;rfl;rfl;exact nofun;exact nle rfl)|(apply zK;rfl;rfl;rfl;(first|rfl|assumption|(apply jd;assumption)|(apply jd;apply jd;assumption));rfl;rfl;exact nle rfl)|(apply zZ;rfl;rfl;(first|rfl|assumption|(apply jd;assumption)|(apply jd;apply jd;assumption));rfl;rfl;exact nle rfl)|(apply z1;rfl;rfl;rfl;rfl;rfl;rfl;exact nle rfl)|(apply kC;rfl;rfl;rfl;(first|rfl|assumption|(apply jd;assumption)|(apply jd;apply jd;assumption));(conv=>lhs;whnf);exact nle rfl)|(apply wq;rfl;rfl;(first|rfl|assumption|(apply jd;assumption)|(apply jd;apply jd;assumption));(conv=>lhs;whnf);exact nle rfl)|(apply Vd;rfl;rfl;rfl;exact nle rfl)|(apply Jy;rfl;rfl;rfl;exact nle rfl)|(apply QC;rfl;rfl;rfl;exact nle rfl)|(apply QB;rfl;rfl;rfl;exact nle rfl)|(apply vZ;rfl;rfl;rfl;rfl;rfl;(first|rfl|assumption|(apply jd;assumption)|(apply jd;apply jd;assumption));rfl;exact nle rfl)|(apply vc;rfl;rfl;rfl;rfl;(first|rfl|assumption|(apply jd;assumption)|(apply jd;apply jd;assumption));exact nle rfl)|(apply Ve;rfl;rfl;omega;exact nle rfl)|(apply Vc;rfl;rfl;omega;exact nle rfl)|(apply VI;rfl;rfl;omega;omega;exact nle rfl)|(apply VM;rfl;rfl;omega;omega;exact nle rfl)|(apply Kz;rfl;exact nle rfl)|(apply QA;rfl;(conv=>lhs;whnf);exact nle rfl)|(apply Yy;rfl;rfl;rfl;rfl;(conv=>lhs;whnf);exact nle rfl)|(apply wR (b':=true);rfl;assumption;(conv=>lhs;whnf);exact nle rfl)|(apply wR (b':=false);rfl;assumption;(conv=>lhs;whnf);exact nle rfl)|(apply X9;exact nle rfl)|(apply z7;rfl;exact nle rfl)|(apply z6;rfl;exact nle rfl)|(apply Yv;rfl;rfl;rfl;(conv=>lhs;whnf);exact nle rfl)|(apply ws;rfl;rfl;rfl;rfl;(conv=>lhs;whnf);exact nle rfl)|(apply vU;rfl;rfl;(first|omega|(simp<;>fail)|(simp only [List.length_cons,List.length_nil,List.length_map];omega)|(simp;omega));exact nle rfl))|(apply xq;first|(apply Yu;rfl;exact nle rfl)|(apply Ky;rfl;exact nle rfl))|(apply yy;apply YB;rfl;rfl;rfl;(first|rfl|assumption|(apply jd;assumption)|(apply jd;apply jd;assumption));rfl;rfl;exact nle rfl)|apply kh|(apply Vm;exact nle rfl;refine ⟨?_,?_⟩;first|exact fun h=>absurd h Bool.false_ne_true|(intro _;kernel_rfl))|(apply YV;rfl;rfl;exact nle rfl)|(apply YU;rfl;rfl;exact nle rfl)|(apply JI;rfl;rfl;exact nle rfl)|(apply JH;rfl;rfl;exact nle rfl)|(apply wa;rfl;rfl;exact nle rfl)|(apply Vn;rfl;rfl;assumption;exact nle rfl)|(apply YT;rfl;rfl;assumption;exact nle rfl)|(apply YS;rfl;rfl;assumption;exact nle rfl)|apply kW|apply vS|(apply Qv;rfl)|(apply Qu;rfl)|(apply J6;rfl;assumption)|(apply J5;rfl;assumption)|apply Xe|apply VF|apply VE|apply Kt);(repeat (first|(apply qf;first|(apply Vb;(conv=>lhs;whnf);exact nle rfl)|(apply Jw;(conv=>lhs;whnf);exact nle rfl)|(apply z8;rfl;(conv=>lhs;whnf);exact nle rfl)|(apply zC;rfl;(conv=>lhs;whnf);exact nle rfl)|(apply Va;rfl;rfl;rfl;exact nle rfl)|(apply zr;rfl;rfl;rfl;rfl;exact nofun;exact nle rfl)|(apply zJ;rfl;rfl;rfl;rfl;exact nofun;exact nle rfl)|(apply zK;rfl;rfl;rfl;(first|rfl|assumption|(apply jd;assumption)|(apply jd;apply jd;assumption));rfl;rfl;exact nle rfl)|(apply zZ;rfl;rfl;(first|rfl|assumption|(apply jd;assumption)|(apply jd;apply jd;assumption));rfl;rfl;exact nle rfl)|(apply z1;rfl;rfl;rfl;rfl;rfl;rfl;exact nle rfl)|(apply kC;rfl;rfl;rfl;(first|rfl|assumption|(apply jd;assumption)|(apply jd;apply jd;assumption));(conv=>lhs;whnf);exact nle rfl)|(apply wq;rfl;rfl;(first|rfl|assumption|(apply jd;assumption)|(apply jd;apply jd;assumption));(conv=>lhs;whnf);exact nle rfl)|(apply Vd;rfl;rfl;rfl;exact nle rfl)|(apply Jy;rfl;rfl;rfl;exact nle rfl)|(apply QC;rfl;rfl;rfl;exact nle rfl)|(apply QB;rfl;rfl;rfl;exact nle rfl)|(apply vZ;rfl;rfl;rfl;rfl;rfl;(first|rfl|assumption|(apply jd;assumption)|(apply jd;apply jd;assumption));rfl;exact nle rfl)|(apply vc;rfl;rfl;rfl;rfl;(first|rfl|assumption|(apply jd;assumption)|(apply jd;apply jd;assumption));exact nle rfl)|(apply Ve;rfl;rfl;omega;exact nle rfl)|(apply Vc;rfl;rfl;omega;exact nle rfl)|(apply VI;rfl;rfl;omega;omega;exact nle rfl)|(apply VM;rfl;rfl;omega;omega;exact nle rfl)|(apply Kz;rfl;exact nle rfl)|(apply QA;rfl;(conv=>lhs;whnf);exact nle rfl)|(apply Yy;rfl;rfl;rfl;rfl;(conv=>lhs;whnf);exact nle rfl)|(apply wR (b':=true);rfl;assumption;(conv=>lhs;whnf);exact nle rfl)|(apply wR (b':=false);rfl;assumption;(conv=>lhs;whnf);exact nle rfl)|(apply X9;exact nle rfl)|(apply z7;rfl;exact nle rfl)|(apply z6;rfl;exact nle rfl)|(apply Yv;rfl;rfl;rfl;(conv=>lhs;whnf);exact nle rfl)|(apply ws;rfl;rfl;rfl;rfl;(conv=>lhs;whnf);exact nle rfl)|(apply vU;rfl;rfl;(first|omega|(simp<;>fail)|(simp only [List.length_cons,List.length_nil,List.length_map];omega)|(simp;omega));exact nle rfl))|(apply xq;first|(apply Yu;rfl;exact nle rfl)|(apply Ky;rfl;exact nle rfl))|(apply yy;apply YB;rfl;rfl;rfl;(first|rfl|assumption|(apply jd;assumption)|(apply jd;apply jd;assumption));rfl;rfl;exact nle rfl)|apply kh|(apply Vm;exact nle rfl;refine ⟨?_,?_⟩;first|exact fun h=>absurd h Bool.false_ne_true|(intro _;kernel_rfl))|(apply YV;rfl;rfl;exact nle rfl)|(apply YU;rfl;rfl;exact nle rfl)|(apply JI;rfl;rfl;exact nle rfl)|(apply JH;rfl;rfl;exact nle rfl)|(apply wa;rfl;rfl;exact nle rfl)|(apply Vn;rfl;rfl;assumption;exact nle rfl)|(apply YT;rfl;rfl;assumption;exact nle rfl)|(apply YS;rfl;rfl;assumption;exact nle rfl)|apply kW|apply vS|(apply Qv;rfl)|(apply Qu;rfl)|(apply J6;rfl;assumption)|(apply J5;rfl;assumption)|apply Xe|apply VF|apply VE|apply Kt));exact key.out):G:=h ⟨k⟩
section xs
variable {C:Cx} {N:Nat}
theorem xsC {c:Operand} {x y:Code} {b:Bool} {Q:Exit → St → Prop} {σ:St} (ht:b = true → Awp C N x Q σ) (hf:b = false → Awp C N y Q σ) (hc:evA (qR σ.ts) c = .v (.bool b):=by rfl):Awp C N (.cond c x y) Q σ:=qdw hc ht hf
theorem qO {c:Operand} {x y:Code} {Q:Exit → St → Prop} {σ:St} (ht:Awp C N x Q σ) (hf:Awp C N y Q σ) (hc:evA (qR σ.ts) c = .anyb:=by rfl):Awp C N (.cond c x y) Q σ:=Ks hc ht hf
theorem xE {rs:List ResultVar} {nh:Nat} {σ:St} {xs:List AV} {r:AV} (hr:ResOk C σ rs xs:=by ((repeat (first|exact jp|(apply jq;rfl)|(apply jg;rfl;rfl;rfl;rfl;rfl)))<;>fail)) (hz:Rz (ja σ.hs) (j6 xs) r:=by (repeat' (first|exact q5|apply qH|exact q8 rfl|exact yn|exact zA|apply jR|apply yL|apply jJ|apply yJ|apply ya|apply yK|refine zi ?_|apply va))<;>fail):Fin C rs.toArray nh r [] σ:=YE hr hz
theorem Wb {rs:List ResultVar} {σ:St} {xs:List AV} {r:AV} {H' : List HB} {ids:List (Nat × Nat)} (L:List (Nat × Nat)) (nx:Nat) (hh:vp L C.nh σ (zY 0 H')) (hr:ResOk C σ rs xs:=by ((repeat (first|exact jp|(apply jq;rfl)|(apply jg;rfl;rfl;rfl;rfl;rfl)))<;>fail)) (hL:w5 C.nh nx L = true:=by rfl) (hi:(List.range C.nh).map (fun n=>(n,n)) = ids:=by first|exact (rfl:_ = ([]:List (Nat × Nat)))|exact (rfl:_ = [((0:Nat),(0:Nat))])|exact (rfl:_ = [((0:Nat),(0:Nat)),(1,1)])) (hz:(j6 xs).ren (ids ++ L) = r:=by first|rfl|(simp [j6,AV.ren,AV.ren.renL,jD,qR,jA]<;>fail)|(simp [j6,AV.ren,AV.ren.renL,jD,qR,jA, *]<;>fail)):Fin C rs.toArray C.nh r H' σ:=jH L nx hr hL hh hi hz
theorem xsZ {c:Code} {Q:Exit → St → Prop} {ts:List (Nat × AV)} {hs:List (Nat × HB)} {nx:Nat} (i n:Nat) {ex:Bool} {k j:Nat} {row:List AV} (h:Awp C N c Q ⟨(i,.fp [row] 0 j) :: ts,(n,.fz [row]) :: hs,nx⟩) (hn:ja hs n = .own ex k [row]:=by rfl) (hr:AV.pure.pureL row = true:=by rfl) (hi:qR ts i = .op n 0 j:=by rfl):Awp C N c Q ⟨ts,hs,nx⟩:=Awp.red (wF n hn (fun r h=>by rw [List.mem_singleton.1 h];exact hr)) (Awp.red (qgI (rows:=[row]) i n hi (by rw [xD,if_pos rfl]) Nat.one_pos) h)
end xs
section xc
variable {C:Cx} {N:Nat} {all:Array Oper} {es:List Eff} {os:List Oper} {K:List Eff → St → Prop} {ts:List (Nat × AV)} {hs:List (Nat × HB)} {nx:Nat} {gd:List Nat}
theorem jc {d:Nat} {ty:TypeId} {pos:String} {af:Array Edge} {gg:Option (Nat × Bool)} {f:FuncId} {fn:Func} {args:List Operand} {tys:Array TypeId} {ys:List AV} {r:AV} (hf:C.P.funcs[f]? = some fn) (hc:qW C.P f ys [] r []) (k:yl C N all (⟨gd ++ (yh (.func f) ++ args.flatMap yh),[],some d,r,[],[]⟩ :: es) ⟨(d,r) :: ts,hs,nx⟩ os K)
  (hb0:fn.body.isNone = false:=by rfl) (hn0:(fn.name == "runtime.NumGoroutine") = false:=by rfl) (hz:vl (wZ [] (ja hs)) (args.map (evA (qR ts))) ys:=by ((repeat' (first|exact q5|apply qH|exact q8 rfl|exact yn|apply jR|apply jJ))<;>fail)) (hfl:KB r = true:=by rfl) (hN:d < N:=by exact nle rfl):jE C N all gd es ⟨ts,hs,nx⟩ ⟨some d,.call ⟨.value (.func f),args.toArray,tys⟩,ty,pos,af,gg⟩ os K :=
 qf (yu [] (j1 hf hb0 hn0) hc hz hfl hN) k
theorem xsQ {d:Nat} {ty:TypeId} {pos:String} {af:Array Edge} {gg:Option (Nat × Bool)} {f:FuncId} {fn:Func} {args:List Operand} {tys:Array TypeId} {ys:List AV} {r:AV} (hf:C.P.funcs[f]? = some fn) (hc:qW C.P f ys [] r []) (k:yl C N all (⟨gd ++ (yh (.func f) ++ args.flatMap yh),[],some d,r,[],[]⟩ :: es) ⟨(d,r) :: ts,hs,nx⟩ os K)
  (hb0:fn.body.isNone = false:=by rfl) (hn0:(fn.name == "runtime.NumGoroutine") = false:=by rfl) (hz:jv [] [] (ja hs) (args.map (evA (qR ts))) ys:=by ((repeat' (first|exact jf|apply q6|exact je rfl|exact jG|(apply wo;rfl;exact List.mem_cons_self ..;exact nle rfl)|(apply Yp;exact List.mem_cons_self ..)|apply jw|apply jx))<;>fail)) (hr:r.pure = true:=by rfl) (hN:d < N:=by exact nle rfl):jE C N all gd es ⟨ts,hs,nx⟩ ⟨some d,.call ⟨.value (.func f),args.toArray,tys⟩,ty,pos,af,gg⟩ os K :=
 qf (WC [] (j1 hf hb0 hn0) hc hz hr hN) k
end xc
end Go.Ab
set_option linter.unusedSimpArgs false
set_option linter.unusedVariables false
namespace Go.Ab
open Go.RowKit
theorem qcj {P:Program} {f:FuncId} {ys:List AV} {r:Value} {F:Still} {w:World} {vs:List Value} (h:yO P f ys (.v r)) (hF : ∀ b o,F b = some o → w.heap[b]? = some o) (hT : ∀ b cs,wG b = some cs → ∃ e fr,F b = some (.cells cs e fr)) (hm:AllM F noPlaces vs ys) :
  Calls P f vs.toArray w fun e w'=>e = .returned r ∧ Below w.heap.size w w':=by
 let B:Base := { w0:=w,F0:=F,ρ0:=noPlaces,O0:=fun _=>False,N:=vs.length,tab:=hT }
 have hGa:Ga B (· < ([]:List HB).length) (fun i=>ys.getD i .junk) (fun n=>([]:List HB).getD n .dead) ⟨vs.toArray,[]⟩ w:=by
  refine ⟨rfl,by simp [B],F,noPlaces,?_,fun i=>?_⟩
  ·exact { kept:=⟨rfl,rfl,rfl,Nat.le_refl _,fun _ _ _=>rfl⟩,agree:=hF,grow:=Still.le_refl _,fresh:=fun b hb => .inl hb,names:=Places.le_refl _,dom:=fun n hn=>absurd rfl hn,own:=fun n=>by simp [OwnAt],new:=fun n b c hn=>by simp [HB.isOwn] at hn,sep:=fun n m b c c' _ hn=>by simp [HB.isOwn] at hn }
  ·show M F noPlaces _ (ys.getD i .junk)
   cases hyi:ys[i]? with
   | none=>rw [List.getD_eq_getElem?_getD,hyi];exact .junk _ _
   | some y =>
     rw [List.getD_eq_getElem?_getD,hyi]
     have hi:i < vs.length:=by rw [hm.1];exact (List.getElem?_eq_some_iff.1 hyi).1
     have hv:vs[i]? = some vs[i]:=List.getElem?_eq_getElem hi
     simp only [Array.getD_eq_getD_getElem?,List.getElem?_toArray,hv,Option.getD_some]
     exact hm.2 i _ y hv hyi
 refine (h B vs w hm.1 rfl hGa).mono fun e w' ⟨v,he,_,_,F',ρ,hp,ht⟩=>?_
 have hv:v = r:=by
  have:=ht 0
  simp only [one,if_true] at this
  exact this.v_inv.1
 exact ⟨by rw [he,hv],⟨hp.kept.os,hp.kept.tape,hp.kept.output,hp.kept.size,fun b hb=>hp.kept.block b hb (fun h=>h)⟩⟩
theorem ZG {P:Program} {f:FuncId} {ys:List AV} {r:Value} (hp:AV.pure.pureL ys = true) (hr:w8 r = true)
  (h : ∀ (F:Still) w vs,(∀ b o,F b = some o → w.heap[b]? = some o) → (∀ b cs,wG b = some cs → ∃ e fr,F b = some (.cells cs e fr)) → AllM F noPlaces vs ys → Calls P f vs.toArray w fun e w'=>e = .returned r ∧ Below w.heap.size w w'):yO P f ys (.v r):=by
 intro B vs w hl hN ⟨g1,g2,F,ρ,hh,g4⟩
 have hm:AllM F noPlaces vs ys:=by
  refine ⟨hl,fun i v y hv hy=>?_⟩
  have hi:i < vs.length:=(List.getElem?_eq_some_iff.1 hv).1
  have:=g4 i
  simp only [Array.getD_eq_getD_getElem?,List.getElem?_toArray,hv,Option.getD_some,List.getD_eq_getElem?_getD,hy] at this
  exact this.moved _ (zy hp hy)
 refine (h F w vs hh.agree (fun b cs hb=>(B.tab b cs hb).imp fun e h=>h.imp fun fr h=>hh.grow b _ h) hm).mono fun e w' ⟨he,hb⟩=>⟨r,he,rfl,rfl,F,ρ,?_,fun i=>?_⟩
 ·refine { kept:=⟨hb.os.trans hh.kept.os,hb.tape.trans hh.kept.tape,hb.output.trans hh.kept.output,Nat.le_trans hh.kept.size hb.size,fun b hlt ho=>?_⟩,agree:=fun b o hF=>?_,grow:=hh.grow,fresh:=hh.fresh,names:=hh.names,dom:=fun _ _=>trivial,own:=fun n=>by simp [OwnAt],new:=fun n b c hn=>by simp [HB.isOwn] at hn,sep:=fun n m b c c' _ hn=>by simp [HB.isOwn] at hn }
  ·rw [hb.block b (Nat.lt_of_lt_of_le hlt hh.kept.size)];exact hh.kept.block b hlt ho
  ·have h0:=hh.agree b o hF
   rw [hb.block b (Array.getElem?_eq_some_iff.1 h0).1];exact h0
 ·by_cases hi:i = 0
  ·subst hi;exact .v _ _ hr
  ·unfold one;rw [if_neg hi];exact .junk _ _
theorem M.clo_inv {F:Still} {ρ:Places} {v:Value} {fn:Fn} {xs ys:List AV} (h:M F ρ v (.clo fn xs ys)) : ∃ vs us:List Value,v = .func fn vs.toArray us.toArray ∧ AllM F ρ vs xs ∧ AllM F ρ us ys:=by
 cases h with|clo _ _ vs us _ _ hl hm h1 h2=>exact ⟨vs,us,rfl,⟨hl,h1⟩,⟨hm,h2⟩⟩
end Go.Ab
set_option linter.unusedSimpArgs false
set_option linter.unnecessarySimpa false
set_option linter.unusedVariables false
namespace Go.Ab
open Go.RowKit
end Go.Ab
