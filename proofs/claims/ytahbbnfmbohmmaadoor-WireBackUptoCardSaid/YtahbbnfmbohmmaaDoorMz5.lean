import Derived.Test.YtahbbnfmbohmmaaDoorMz4
import Derived.Lib.Bytealg
import Derived.Test.YtahbbnfmbohmmaaDoorMz0
set_option linter.unusedSimpArgs false
set_option linter.unnecessarySimpa false
set_option linter.unusedVariables false
namespace Go.Ab
open Go.RowKit
section ops
variable {C:Cx} {N d:Nat} {ty:TypeId} {pos:String} {af:Array Edge} {gd:Option (Nat × Bool)} {t:Nat → AV} {h:Nat → HB}
theorem Wd (f:FuncId) (fn:Func) (tys:Array TypeId) (x y:Operand) (a b r:Value) (e:Array Value → Sem Value) (hf:C.P.funcs[f]? = some fn) (hname:(fn.name == "runtime.NumGoroutine") = false)
  (hb:fn.body.isNone = true) (hnx:Extern.findNext fn = none) (hex:Extern.find fn = some e) (hx:evA t x = .v a) (hy:evA t y = .v b) (hrun : ∀ w,(e #[a,b]).run C.P w = .ok r w) (hr:kp r = true) (hN:d < N) :
  qA C.P N ⟨some d,.call ⟨.value (.func f), #[x,y],tys⟩,ty,pos,af,gd⟩ t h ⟨ji x ++ ji y,[],some d,.v r,[],[]⟩ :=
 qV _ _ rfl hN fun F ρ act w _ hs _=>by
  have h1:=qg (x:=x) hs (fun j hj=>List.mem_append_left _ hj)
  have h2:=qg (x:=y) hs (fun j hj=>List.mem_append_right _ hj)
  rw [hx] at h1;rw [hy] at h2
  obtain ⟨h1,_⟩:=h1.v_inv
  obtain ⟨h2,_⟩:=h2.v_inv
  refine ⟨r,?_,.v _ _ hr⟩
  have hcall:=run_callFunc_extern hf hname hb hnx hex #[act.eval x,act.eval y] w
  rw [h1,h2,hrun] at hcall
  have hcall' : Sem.run C.P (callFunc f #[act.eval x,act.eval y]) w = Result.ok (.value r) w:=by rw [h1,h2];exact hcall
  have he' : act.eval (.func f) = .func (.func f) #[] #[]:=rfl
  simp [execOp,resolve,invoke,he',Deferred.ofValue,hcall']
end ops
end Go.Ab
set_option linter.unusedSimpArgs false
set_option linter.unnecessarySimpa false
set_option linter.unusedVariables false
namespace Go.Ab
open Go.RowKit
section ops
variable {C:Cx} {N d:Nat} {ty:TypeId} {pos:String} {af:Array Edge} {gd:Option (Nat × Bool)} {t:Nat → AV} {h:Nat → HB}
end ops
end Go.Ab
set_option linter.unusedSimpArgs false
set_option linter.unnecessarySimpa false
set_option linter.unusedVariables false
namespace Go.Ab
open Go.RowKit
section steps
variable {C:Cx} {N:Nat} {all:Array Oper} {es:List Eff} {o:Oper} {os:List Oper} {K:List Eff → St → Prop} {ts:List (Nat × AV)} {hs:List (Nat × HB)} {nx:Nat} {gd:List Nat}
theorem ye {rt rh:List Nat} {d:Nat} {x:AV} {ty:TypeId} {pos:String} {af:Array Edge} {gg:Option (Nat × Bool)} {T len:Nat} {ps:_} (k:jE C N all (⟨gd ++ rt,rh,some d,x,[],[]⟩ :: es) ⟨(d,x) :: ts,hs,nx⟩ os K) (hE:qA C.P N ⟨some d,.buildSlice T len ps,ty,pos,af,gg⟩ (qn ts) (qm hs) ⟨rt,rh,some d,x,[],[]⟩:=by (first|(apply kB;rfl;rfl;rfl;exact nle rfl)|(apply kg;rfl;rfl;rfl;rfl;exact ⟨rfl,rfl⟩;rfl;exact nle rfl;exact nle rfl)|(apply vq;(conv=>lhs;whnf);rfl;rfl;rfl;exact ⟨rfl,rfl⟩;rfl;exact nle rfl;exact nle rfl)|(apply xq;rfl;rfl;rfl;rfl;rfl;rfl;rfl;exact nle rfl;exact nle rfl))):qY C N all gd es ⟨ts,hs,nx⟩ ⟨some d,.buildSlice T len ps,ty,pos,af,gg⟩ os K:=qt hE k
theorem Ks {rt rh:List Nat} {d:Nat} {x:AV} {ty:TypeId} {pos:String} {af:Array Edge} {gg:Option (Nat × Bool)} {T:TypeId} {X:Operand} {lo hi mx:_} (k:jE C N all (⟨gd ++ rt,rh,some d,x,[],[]⟩ :: es) ⟨(d,x) :: ts,hs,nx⟩ os K) (hE:qA C.P N ⟨some d,.slice T X lo hi mx,ty,pos,af,gg⟩ (qn ts) (qm hs) ⟨rt,rh,some d,x,[],[]⟩:=by (apply J1;(case hx=>rfl);(case hT=>rfl);(case he=>rfl);(case ha=>first|exact ⟨_,rfl⟩|rfl);(case hb=>first|exact ⟨_,rfl⟩|rfl);(case hab=>(first|omega|(simp<;>fail)|(simp only [List.length_cons,List.length_nil,List.length_map];omega)|(simp;omega)));(case hbl=>(first|omega|(simp<;>fail)|(simp only [List.length_cons,List.length_nil,List.length_map];omega)|(simp;omega)));(case hN=>exact nle rfl))):qY C N all gd es ⟨ts,hs,nx⟩ ⟨some d,.slice T X lo hi mx,ty,pos,af,gg⟩ os K:=qt hE k
theorem qas {rt rh:List Nat} {d:Nat} {x:AV} {ty:TypeId} {pos:String} {af:Array Edge} {gg:Option (Nat × Bool)} {op:BinOp} {T:TypeId} {X Y:Operand} {yT:TypeId} (k:jE C N all (⟨gd ++ rt,rh,some d,x,[],[]⟩ :: es) ⟨(d,x) :: ts,hs,nx⟩ os K) (hE:qA C.P N ⟨some d,.binOp op T X Y yT,ty,pos,af,gg⟩ (qn ts) (qm hs) ⟨rt,rh,some d,x,[],[]⟩:=by (apply Wc;rfl;rfl;rfl;rfl;(first|exact .inl ⟨rfl,rfl⟩|exact .inr ⟨rfl,rfl⟩);exact nle rfl)):qY C N all gd es ⟨ts,hs,nx⟩ ⟨some d,.binOp op T X Y yT,ty,pos,af,gg⟩ os K:=qt hE k
theorem wd {rt rh:List Nat} {d:Nat} {x:AV} {ty:TypeId} {pos:String} {af:Array Edge} {gg:Option (Nat × Bool)} {hb:HB} {as:Array Operand} {tys:Array TypeId} (k:jE C N all (⟨gd ++ rt,rh,some d,x,[(nx,hb)],[nx]⟩ :: es) ⟨(d,x) :: ts,(nx,hb) :: hs,nx + 1⟩ os K) (hE:qA C.P N ⟨some d,.call ⟨.builtin .append,as,tys⟩,ty,pos,af,gg⟩ (qn ts) (qm hs) ⟨rt,rh,some d,x,[(nx,hb)],[nx]⟩:=by (apply Q3;(case hx=>rfl);(case hT=>rfl);(case he=>rfl);(case hE=>rfl);(case hz=>rfl);(case hsrc=>(first|(apply Yl;rfl;rfl)|(apply Xh;rfl;intro a;rfl)|(apply VI;rfl;rfl;first|omega|(simp<;>fail)|(simp;omega);rfl;first|rfl|exact zS fun _=>rfl)));(case hsz=>(first|omega|(simp<;>fail)|(simp only [List.length_cons,List.length_nil,List.length_map];omega)|(simp;omega)));(case hlen=>(first|omega|(simp<;>fail)|(simp only [List.length_cons,List.length_nil,List.length_map];omega)|(simp;omega)));(case hN=>exact nle rfl))):qY C N all gd es ⟨ts,hs,nx⟩ ⟨some d,.call ⟨.builtin .append,as,tys⟩,ty,pos,af,gg⟩ os K:=yR hE k
theorem we {rt rh:List Nat} {d:Nat} {x:AV} {ty:TypeId} {pos:String} {af:Array Edge} {gg:Option (Nat × Bool)} {hb hb' : HB} {m:Nat} {as:Array Operand} {tys:Array TypeId} (k:jE C N all (⟨gd ++ rt,rh,some d,x,[(nx,hb),(m,hb')],[nx]⟩ :: es) ⟨(d,x) :: ts,(nx,hb) :: (m,hb') :: hs,nx + 1⟩ os K) (hE:qA C.P N ⟨some d,.call ⟨.builtin .append,as,tys⟩,ty,pos,af,gg⟩ (qn ts) (qm hs) ⟨rt,rh,some d,x,[(nx,hb),(m,hb')],[nx]⟩:=by (apply Q4;(case hx=>rfl);(case hT=>rfl);(case he=>rfl);(case hE=>rfl);(case hn=>rfl);(case hl=>(first|omega|(simp<;>fail)|(simp only [List.length_cons,List.length_nil,List.length_map];omega)|(simp;omega)));(case hz=>rfl);(case hsrc=>(first|(apply Yl;rfl;rfl)|(apply Xh;rfl;intro a;rfl)|(apply VI;rfl;rfl;first|omega|(simp<;>fail)|(simp;omega);rfl;first|rfl|exact zS fun _=>rfl)));(case hsz=>(first|omega|(simp<;>fail)|(simp only [List.length_cons,List.length_nil,List.length_map];omega)|(simp;omega)));(case hlen=>(first|omega|(simp<;>fail)|(simp only [List.length_cons,List.length_nil,List.length_map];omega)|(simp;omega)));(case hmn=>exact Nat.ne_of_beq_eq_false rfl);(case hN=>exact nle rfl))):qY C N all gd es ⟨ts,hs,nx⟩ ⟨some d,.call ⟨.builtin .append,as,tys⟩,ty,pos,af,gg⟩ os K:=Y0 hE k
def vp (C:Cx) (N:Nat) (all:Array Oper) (gd:List Nat) (es:List Eff) (σ:St) (f:FuncId) (args:List Operand) (d:Nat) (tys:Array TypeId) (ty:TypeId) (pos:String) (af:Array Edge) (gg:Option (Nat × Bool)) (os:List Oper) (K:List Eff → St → Prop):Prop :=
 qY C N all gd es σ ⟨some d,.call ⟨.value (.func f),args.toArray,tys⟩,ty,pos,af,gg⟩ os K
theorem qc {σ:St} {d:Nat} {ty:TypeId} {pos:String} {af:Array Edge} {gg:Option (Nat × Bool)} {f:FuncId} {fn:Func} {args:List Operand} {tys:Array TypeId} (hf:C.P.funcs[f]? = some fn) (hb0:fn.body.isNone = false) (hn0:(fn.name == "runtime.NumGoroutine") = false) (k:IsFn C.P f → vp C N all gd es σ f args d tys ty pos af gg os K) :
  qY C N all gd es σ ⟨some d,.call ⟨.value (.func f),args.toArray,tys⟩,ty,pos,af,gg⟩ os K:=k (qG hf hb0 hn0)
theorem VC {d:Nat} {ty:TypeId} {pos:String} {af:Array Edge} {gg:Option (Nat × Bool)} {f:FuncId} {args:List Operand} {tys:Array TypeId} {ys:List AV} {r:AV} (hf:IsFn C.P f) (hc:qp C.P f ys [] r []) (k:jE C N all (⟨gd ++ (ji (.func f) ++ args.flatMap ji),[],some d,r,[],[]⟩ :: es) ⟨(d,r) :: ts,hs,nx⟩ os K)
  (hz:yL (zc [] (qm hs)) (args.map (evA (qn ts))) ys:=by ((repeat' (first|exact jC|apply jp|exact jg rfl|exact yo|apply jS|apply jT))<;>fail)) (hfl:XD r = true:=by rfl) (hN:d < N:=by exact nle rfl):vp C N all gd es ⟨ts,hs,nx⟩ f args d tys ty pos af gg os K :=
 qt (Vv [] hf hc hz hfl hN) k
theorem VD {d:Nat} {ty:TypeId} {pos:String} {af:Array Edge} {gg:Option (Nat × Bool)} {f:FuncId} {args:List Operand} {tys:Array TypeId} {ys:List AV} {r:AV} (hf:IsFn C.P f) (hc:qp C.P f ys [] r []) (k:jE C N all (⟨gd ++ (ji (.func f) ++ args.flatMap ji),[],some d,r,[],[]⟩ :: es) ⟨(d,r) :: ts,hs,nx⟩ os K)
  (hz:qB [] [] (qm hs) (args.map (evA (qn ts))) ys:=by ((repeat' (first|exact je|apply qX|exact jd rfl|exact jF|(apply Qg;rfl;exact List.mem_cons_self ..;exact nle rfl)|(apply Vl;exact List.mem_cons_self ..)|apply jw|apply jx))<;>fail)) (hr:r.pure = true:=by rfl) (hN:d < N:=by exact nle rfl):vp C N all gd es ⟨ts,hs,nx⟩ f args d tys ty pos af gg os K :=
 qt (YL [] hf hc hz hr hN) k
end steps
section guards
variable {C:Cx} {N:Nat} {all:Array Oper} {es:List Eff} {os:List Oper} {K:List Eff → St → Prop} {ts:List (Nat × AV)} {hs:List (Nat × HB)} {nx:Nat} {j d d' : Nat} {op:Op} {ty:TypeId} {pos:String} {af:Array Edge}
end guards
section conds
variable {C:Cx} {N:Nat} {Q:Exit → St → Prop} {σ:St} {c:Operand} {x y:Code}
end conds
section keeps
variable {L:List (Nat × Nat)} {nh:Nat} {σ:St} {i:Nat}
theorem qZ {x:AV} {l:List (Nat × AV)} (hl:yv L nh σ l) (hx:qn σ.ts i = x:=by rfl) (hp:x.pure = true:=by first|rfl|(simp [AV.pure,AV.pure.pureL, *]<;>fail)):yv L nh σ ((i,x) :: l):=Jy hx hp hl
theorem yf {x y:AV} {l:List (Nat × AV)} (hl:yv L nh σ l) (hxy:x = y) (hx:qn σ.ts i = x:=by (conv=>lhs;whnf)) (hp:y.pure = true:=by rfl):yv L nh σ ((i,y) :: l):=WD hx hxy hp hl
theorem ym {n n' a b:Nat} {l:List (Nat × AV)} (hl:yv L nh σ l) (hx:qn σ.ts i = .op n a b:=by rfl) (hm:Maps L nh n n':=by (first|exact jZ rfl|exact .inr (List.mem_cons_self ..)|exact .inr (List.mem_cons_of_mem _ (List.mem_cons_self ..))|exact .inr (List.mem_cons_of_mem _ (List.mem_cons_of_mem _ (List.mem_cons_self ..)))|exact .inr (List.mem_cons_of_mem _ (List.mem_cons_of_mem _ (List.mem_cons_of_mem _ (List.mem_cons_self ..)))))):yv L nh σ ((i,.op n' a b) :: l):=WF hx hm hl
theorem jI {n n' off len len' : Nat} {l:List (Nat × AV)} (hl:yv L nh σ l) (he:len = len') (hx:qn σ.ts i = .os n off len:=by rfl) (hm:Maps L nh n n':=by (first|exact jZ rfl|exact .inr (List.mem_cons_self ..)|exact .inr (List.mem_cons_of_mem _ (List.mem_cons_self ..))|exact .inr (List.mem_cons_of_mem _ (List.mem_cons_of_mem _ (List.mem_cons_self ..)))|exact .inr (List.mem_cons_of_mem _ (List.mem_cons_of_mem _ (List.mem_cons_of_mem _ (List.mem_cons_self ..)))))):yv L nh σ ((i,.os n' off len') :: l):=VL hx hm he hl
theorem jH {n n' off len len' : Nat} {l:List (Nat × AV)} (hl:yv L nh σ l) (hx:qn σ.ts i = .os n off len:=by rfl) (hm:Maps L nh n n':=by (first|exact jZ rfl|exact .inr (List.mem_cons_self ..)|exact .inr (List.mem_cons_of_mem _ (List.mem_cons_self ..))|exact .inr (List.mem_cons_of_mem _ (List.mem_cons_of_mem _ (List.mem_cons_self ..)))|exact .inr (List.mem_cons_of_mem _ (List.mem_cons_of_mem _ (List.mem_cons_of_mem _ (List.mem_cons_self ..)))))) (he:len = len':=by first|with_reducible rfl|omega):yv L nh σ ((i,.os n' off len') :: l):=VL hx hm he hl
theorem q_r {n n' : Nat} {ex ex' : Bool} {k:Nat} {rows rows' : List (List AV)} {l:List (Nat × HB)} (hl:j4 L nh σ l) (hm:Maps L nh n n':=by (first|exact jZ rfl|exact .inr (List.mem_cons_self ..)|exact .inr (List.mem_cons_of_mem _ (List.mem_cons_self ..))|exact .inr (List.mem_cons_of_mem _ (List.mem_cons_of_mem _ (List.mem_cons_self ..)))|exact .inr (List.mem_cons_of_mem _ (List.mem_cons_of_mem _ (List.mem_cons_of_mem _ (List.mem_cons_self ..)))))) (hx:qm σ.hs n = .own ex k rows:=by rfl) (he:ex' = true → ex = true:=by first|exact id|exact nofun) (hp : ∀ row,row ∈ rows' → AV.pure.pureL row = true:=by first|assumption|exact wl rfl|exact wm fun _=>rfl) (hr:rows = rows':=by with_reducible rfl):j4 L nh σ ((n',.own ex' k rows') :: l):=Wh hx hm he hr hp hl
end keeps
theorem yd {C:Cx} {rs:List ResultVar} {nh:Nat} {σ:St} {xs:List AV} {r:AV} (hz:Rz (qm σ.hs) (jQ xs) r) (hr:ResOk C σ rs xs:=by ((repeat (first|exact qw|(apply qx;rfl)|(apply qu;rfl;rfl;rfl;rfl;rfl)))<;>fail)):Fin C rs.toArray nh r [] σ:=kE hr hz
theorem vo {h:Nat → HB} {n len:Nat} {ex:Bool} {k:Nat} {rows:List (List AV)} (hn:h n = .own ex k rows:=by rfl) (hl:len = rows.length:=by first|with_reducible rfl|(simp<;>fail)|(simp [*]<;>fail)|omega) (hp : ∀ row,row ∈ rows → AV.pure.pureL row = true:=by (first|assumption|exact wl rfl|exact wm fun _=>rfl)):Rz h (.os n 0 len) (.sl false rows):=QV hn hl hp
theorem vn {h:Nat → HB} {n len:Nat} {ex:Bool} {k:Nat} {rows rows' : List (List AV)} (he:rows = rows') (hn:h n = .own ex k rows:=by rfl) (hl:len = rows.length:=by first|with_reducible rfl|(simp<;>fail)|(simp [*]<;>fail)|omega) (hp : ∀ row,row ∈ rows' → AV.pure.pureL row = true:=by (first|assumption|exact wl rfl|exact wm fun _=>rfl)):Rz h (.os n 0 len) (.sl false rows'):=KG hn hl he hp
structure Hold (G:Prop):Prop where
 out:G
theorem zi {G G' : Prop} (k:G') (h:Hold G' → G:=by intro key;(first|(apply qt;first|(apply JX;(conv=>lhs;whnf);exact nle rfl)|(apply kW;(conv=>lhs;whnf);exact nle rfl)|(apply xM;rfl;(conv=>lhs;whnf);exact nle rfl)|(apply xv;rfl;(conv=>lhs;whnf);exact nle rfl)|(apply JW;rfl;rfl;rfl;exact nle rfl)|(apply xr;rfl;rfl;rfl;rfl;exact nofun;exact nle rfl)|(apply xD;rfl;rfl;rfl;rfl;exact nofun;exact nle rfl)|(apply xF;rfl;rfl;rfl;(first|rfl|assumption|(apply qe;assumption)|(apply qe;apply qe;assumption));rfl;rfl;exact nle rfl)|(apply vb;rfl;rfl;(first|rfl|assumption|(apply qe;assumption)|(apply qe;apply qe;assumption));rfl;rfl;exact nle rfl)|(apply vc;rfl;rfl;rfl;rfl;rfl;rfl;exact nle rfl)|(apply qQ;rfl;rfl;rfl;(first|rfl|assumption|(apply qe;assumption)|(apply qe;apply qe;assumption));(conv=>lhs;whnf);exact nle rfl)|(apply vQ;rfl;rfl;(first|rfl|assumption|(apply qe;assumption)|(apply qe;apply qe;assumption));(conv=>lhs;whnf);exact nle rfl)|(apply J0;rfl;rfl;rfl;exact nle rfl)|(apply kX;rfl;rfl;rfl;exact nle rfl)|(apply kj;rfl;rfl;rfl;exact nle rfl)|(apply ki;rfl;rfl;rfl;exact nle rfl)|(apply xE;rfl;rfl;rfl;rfl;rfl;(first|rfl|assumption|(apply qe;assumption)|(apply qe;apply qe;assumption));rfl;exact nle rfl)|(apply vP;rfl;rfl;rfl;rfl;(first|rfl|assumption|(apply qe;assumption)|(apply qe;apply qe;assumption));exact nle rfl)|(apply J4;rfl;rfl;omega;exact nle rfl)|(apply JY;rfl;rfl;omega;exact nle rfl)|(apply JS;rfl;rfl;omega;omega;exact nle rfl)|(apply J3;rfl;rfl;omega;omega;exact nle rfl)|(apply XC;rfl;exact nle rfl)|(apply kh;rfl;(conv=>lhs;whnf);exact nle rfl)|(apply Qu;rfl;rfl;rfl;rfl;(conv=>lhs;whnf);exact nle rfl)|(apply zI (b':=true);rfl;assumption;(conv=>lhs;whnf);exact nle rfl)|(apply zI (b':=false);rfl;assumption;(conv=>lhs;whnf);exact nle rfl)|(apply JV;exact nle rfl)|(apply ve;rfl;exact nle rfl)|(apply vd;rfl;exact nle rfl)|(apply yg;rfl;rfl;rfl;(conv=>lhs;whnf);exact nle rfl)|(apply vR;rfl;rfl;rfl;rfl;(conv=>lhs;whnf);exact nle rfl)|(apply JZ;rfl;rfl;(first|omega|(simp<;>fail)|(simp only [List.length_cons,List.length_nil,List.length_map];omega)|(simp;omega));exact nle rfl))|(apply yR;first|(apply Qs;rfl;exact nle rfl)|(apply Xz;rfl;exact nle rfl))|(apply jb;apply zt;rfl;rfl;rfl;(first|rfl|assumption|(apply qe;assumption)|(apply qe;apply qe;assumption));rfl;rfl;exact nle rfl)|apply jz|(apply qC;exact nle rfl;refine ⟨?_,?_⟩;first|exact fun h=>absurd h Bool.false_ne_true|(intro _;kernel_rfl))|(apply QM;rfl;rfl;exact nle rfl)|(apply QL;rfl;rfl;exact nle rfl)|(apply wk;rfl;rfl;exact nle rfl)|(apply wj;rfl;rfl;exact nle rfl)|(apply vX;rfl;rfl;exact nle rfl)|(apply Yd;rfl;rfl;assumption;exact nle rfl)|(apply QK;rfl;rfl;assumption;exact nle rfl)|(apply QJ;rfl;rfl;assumption;exact nle rfl)|apply JK|refine z1 ?_|(apply vN;rfl)|(apply vM;rfl)|(apply zZ;rfl;assumption)|(apply zY;rfl;assumption)|apply kU|apply Qj|apply Qi|apply JJ);(repeat (first|(apply qt;first|(apply JX;(conv=>lhs;whnf);exact nle rfl)|(apply kW;(conv=>lhs;whnf);exact nle rfl)|(apply xM;rfl;(conv=>lhs;whnf);exact nle rfl)|(apply xv;rfl;(conv=>lhs;whnf);exact nle rfl)|(apply JW;rfl;rfl;rfl;exact nle rfl)|(apply xr;rfl;rfl;rfl;rfl;exact nofun;exact nle rfl)|(apply xD;rfl;rfl;rfl;rfl;exact nofun;exact nle rfl)|(apply xF;rfl;rfl;rfl;(first|rfl|assumption|(apply qe;assumption)|(apply qe;apply qe;assumption));rfl;rfl;exact nle rfl)|(apply vb;rfl;rfl;(first|rfl|assumption|(apply qe;assumption)|(apply qe;apply qe;assumption));rfl;rfl;exact nle rfl)|(apply vc;rfl;rfl;rfl;rfl;rfl;rfl;exact nle rfl)|(apply qQ;rfl;rfl;rfl;(first|rfl|assumption|(apply qe;assumption)|(apply qe;apply qe;assumption));(conv=>lhs;whnf);exact nle rfl)|(apply vQ;rfl;rfl;(first|rfl|assumption|(apply qe;assumption)|(apply qe;apply qe;assumption));(conv=>lhs;whnf);exact nle rfl)|(apply J0;rfl;rfl;rfl;exact nle rfl)|(apply kX;rfl;rfl;rfl;exact nle rfl)|(apply kj;rfl;rfl;rfl;exact nle rfl)|(apply ki;rfl;rfl;rfl;exact nle rfl)|(apply xE;rfl;rfl;rfl;rfl;rfl;(first|rfl|assumption|(apply qe;assumption)|(apply qe;apply qe;assumption));rfl;exact nle rfl)|(apply vP;rfl;rfl;rfl;rfl;(first|rfl|assumption|(apply qe;assumption)|(apply qe;apply qe;assumption));exact nle rfl)|(apply J4;rfl;rfl;omega;exact nle rfl)|(apply JY;rfl;rfl;omega;exact nle rfl)|(apply JS;rfl;rfl;omega;omega;exact nle rfl)|(apply J3;rfl;rfl;omega;omega;exact nle rfl)|(apply XC;rfl;exact nle rfl)|(apply kh;rfl;(conv=>lhs;whnf);exact nle rfl)|(apply Qu;rfl;rfl;rfl;rfl;(conv=>lhs;whnf);exact nle rfl)|(apply zI (b':=true);rfl;assumption;(conv=>lhs;whnf);exact nle rfl)|(apply zI (b':=false);rfl;assumption;(conv=>lhs;whnf);exact nle rfl)|(apply JV;exact nle rfl)|(apply ve;rfl;exact nle rfl)|(apply vd;rfl;exact nle rfl)|(apply yg;rfl;rfl;rfl;(conv=>lhs;whnf);exact nle rfl)|(apply vR;rfl;rfl;rfl;rfl;(conv=>lhs;whnf);exact nle rfl)|(apply JZ;rfl;rfl;(first|omega|(simp<;>fail)|(simp only [List.length_cons,List.length_nil,List.length_map];omega)|(simp;omega));exact nle rfl))|(apply yR;first|(apply Qs;rfl;exact nle rfl)|(apply Xz;rfl;exact nle rfl))|(apply jb;apply zt;rfl;rfl;rfl;(first|rfl|assumption|(apply qe;assumption)|(apply qe;apply qe;assumption));rfl;rfl;exact nle rfl)|apply jz|(apply qC;exact nle rfl;refine ⟨?_,?_⟩;first|exact fun h=>absurd h Bool.false_ne_true|(intro _;kernel_rfl))|(apply QM;rfl;rfl;exact nle rfl)|(apply QL;rfl;rfl;exact nle rfl)|(apply wk;rfl;rfl;exact nle rfl)|(apply wj;rfl;rfl;exact nle rfl)|(apply vX;rfl;rfl;exact nle rfl)|(apply Yd;rfl;rfl;assumption;exact nle rfl)|(apply QK;rfl;rfl;assumption;exact nle rfl)|(apply QJ;rfl;rfl;assumption;exact nle rfl)|apply JK|refine z1 ?_|(apply vN;rfl)|(apply vM;rfl)|(apply zZ;rfl;assumption)|(apply zY;rfl;assumption)|apply kU|apply Qj|apply Qi|apply JJ));exact key.out):G:=h ⟨k⟩
section xs
variable {C:Cx} {N:Nat}
theorem xsC {c:Operand} {x y:Code} {b:Bool} {Q:Exit → St → Prop} {σ:St} (ht:b = true → Awp C N x Q σ) (hf:b = false → Awp C N y Q σ) (hc:evA (qn σ.ts) c = .v (.bool b):=by rfl):Awp C N (.cond c x y) Q σ:=ZT hc ht hf
theorem jm {c:Operand} {x y:Code} {Q:Exit → St → Prop} {σ:St} (ht:Awp C N x Q σ) (hf:Awp C N y Q σ) (hc:evA (qn σ.ts) c = .anyb:=by rfl):Awp C N (.cond c x y) Q σ:=JI hc ht hf
theorem xsP {rs:List ResultVar} {nh:Nat} {σ:St} {xs:List AV} {r:AV} (hr:ResOk C σ rs xs:=by ((repeat (first|exact qw|(apply qx;rfl)|(apply qu;rfl;rfl;rfl;rfl;rfl)))<;>fail)) (hz:Rz (qm σ.hs) (jQ xs) r:=by (repeat' (first|exact jC|apply jp|exact jg rfl|exact yo|exact vo|apply jS|apply j7|apply jT|apply j5|apply jG|apply j6|refine vn ?_|apply yM))<;>fail):Fin C rs.toArray nh r [] σ:=kE hr hz
theorem xsO {rs:List ResultVar} {σ:St} {xs:List AV} {r:AV} {H' : List HB} {ids:List (Nat × Nat)} (L:List (Nat × Nat)) (nx:Nat) (hh:j4 L C.nh σ (xK 0 H')) (hr:ResOk C σ rs xs:=by ((repeat (first|exact qw|(apply qx;rfl)|(apply qu;rfl;rfl;rfl;rfl;rfl)))<;>fail)) (hL:vx C.nh nx L = true:=by rfl) (hi:(List.range C.nh).map (fun n=>(n,n)) = ids:=by first|exact (rfl:_ = ([]:List (Nat × Nat)))|exact (rfl:_ = [((0:Nat),(0:Nat))])|exact (rfl:_ = [((0:Nat),(0:Nat)),(1,1)])) (hz:(jQ xs).ren (ids ++ L) = r:=by first|rfl|(simp [jQ,AV.ren,AV.ren.renL,js,qn,jh]<;>fail)|(simp [jQ,AV.ren,AV.ren.renL,js,qn,jh, *]<;>fail)):Fin C rs.toArray C.nh r H' σ:=qD L nx hr hL hh hi hz
end xs
section xc
variable {C:Cx} {N:Nat} {all:Array Oper} {es:List Eff} {os:List Oper} {K:List Eff → St → Prop} {ts:List (Nat × AV)} {hs:List (Nat × HB)} {nx:Nat} {gd:List Nat}
theorem xsF {d:Nat} {ty:TypeId} {pos:String} {af:Array Edge} {gg:Option (Nat × Bool)} {f:FuncId} {fn:Func} {args:List Operand} {tys:Array TypeId} {ys:List AV} {r:AV} (hf:C.P.funcs[f]? = some fn) (hc:qp C.P f ys [] r []) (k:jE C N all (⟨gd ++ (ji (.func f) ++ args.flatMap ji),[],some d,r,[],[]⟩ :: es) ⟨(d,r) :: ts,hs,nx⟩ os K)
  (hb0:fn.body.isNone = false:=by rfl) (hn0:(fn.name == "runtime.NumGoroutine") = false:=by rfl) (hz:yL (zc [] (qm hs)) (args.map (evA (qn ts))) ys:=by ((repeat' (first|exact jC|apply jp|exact jg rfl|exact yo|apply jS|apply jT))<;>fail)) (hfl:XD r = true:=by rfl) (hN:d < N:=by exact nle rfl):qY C N all gd es ⟨ts,hs,nx⟩ ⟨some d,.call ⟨.value (.func f),args.toArray,tys⟩,ty,pos,af,gg⟩ os K :=
 qt (Vv [] (qG hf hb0 hn0) hc hz hfl hN) k
theorem xsQ {d:Nat} {ty:TypeId} {pos:String} {af:Array Edge} {gg:Option (Nat × Bool)} {f:FuncId} {fn:Func} {args:List Operand} {tys:Array TypeId} {ys:List AV} {r:AV} (hf:C.P.funcs[f]? = some fn) (hc:qp C.P f ys [] r []) (k:jE C N all (⟨gd ++ (ji (.func f) ++ args.flatMap ji),[],some d,r,[],[]⟩ :: es) ⟨(d,r) :: ts,hs,nx⟩ os K)
  (hb0:fn.body.isNone = false:=by rfl) (hn0:(fn.name == "runtime.NumGoroutine") = false:=by rfl) (hz:qB [] [] (qm hs) (args.map (evA (qn ts))) ys:=by ((repeat' (first|exact je|apply qX|exact jd rfl|exact jF|(apply Qg;rfl;exact List.mem_cons_self ..;exact nle rfl)|(apply Vl;exact List.mem_cons_self ..)|apply jw|apply jx))<;>fail)) (hr:r.pure = true:=by rfl) (hN:d < N:=by exact nle rfl):qY C N all gd es ⟨ts,hs,nx⟩ ⟨some d,.call ⟨.value (.func f),args.toArray,tys⟩,ty,pos,af,gg⟩ os K :=
 qt (YL [] (qG hf hb0 hn0) hc hz hr hN) k
end xc
end Go.Ab
set_option linter.unusedSimpArgs false
set_option linter.unusedVariables false
namespace Go.Ab
open Go.RowKit
theorem VS {P:Program} {f:FuncId} {ys:List AV} {r:Value} (hp:AV.pure.pureL ys = true) (hr:kp r = true)
  (h : ∀ (F:Still) w vs,(∀ b o,F b = some o → w.heap[b]? = some o) → (∀ b p,yZ b = some p → ∃ cs e fr,p cs ∧ F b = some (.cells cs e fr)) → AllM F noPlaces vs ys → Calls P f vs.toArray w fun e w'=>e = .returned r ∧ Below w.heap.size w w'):zb P f ys (.v r):=by
 intro B vs w hl hN ⟨g1,g2,F,ρ,hh,g4⟩
 have hm:AllM F noPlaces vs ys:=by
  refine ⟨hl,fun i v y hv hy=>?_⟩
  have hi:i < vs.length:=(List.getElem?_eq_some_iff.1 hv).1
  have:=g4 i
  simp only [Array.getD_eq_getD_getElem?,List.getElem?_toArray,hv,Option.getD_some,List.getD_eq_getElem?_getD,hy] at this
  exact this.moved _ (yp hp hy)
 refine (h F w vs hh.agree (fun b p hb=>(B.tab b p hb).imp fun cs h=>h.imp fun e h=>h.imp fun fr h=>⟨h.1,hh.grow b _ h.2⟩) hm).mono fun e w' ⟨he,hb⟩=>⟨r,he,g1,rfl,F,ρ,?_,fun i=>?_⟩
 ·refine { kept:=⟨hb.os.trans hh.kept.os,hb.tape.trans hh.kept.tape,hb.output.trans hh.kept.output,Nat.le_trans hh.kept.size hb.size,fun b hlt ho=>?_⟩,agree:=fun b o hF=>?_,grow:=hh.grow,fresh:=hh.fresh,names:=hh.names,dom:=fun _ _=>trivial,own:=fun n=>by simp [OwnAt],new:=fun n b c hn=>by simp [HB.isOwn] at hn,sep:=fun n m b c c' _ hn=>by simp [HB.isOwn] at hn }
  ·rw [hb.block b (Nat.lt_of_lt_of_le hlt hh.kept.size)];exact hh.kept.block b hlt ho
  ·have h0:=hh.agree b o hF
   rw [hb.block b (Array.getElem?_eq_some_iff.1 h0).1];exact h0
 ·by_cases hi:i = 0
  ·subst hi;exact .v _ _ hr
  ·unfold one;rw [if_neg hi];exact .junk _ _
end Go.Ab
set_option linter.unusedSimpArgs false
set_option linter.unnecessarySimpa false
set_option linter.unusedVariables false
namespace Go.Ab
open Go.RowKit
end Go.Ab
