import Derived.Test.YtahbbnfmbohmmaaDoorMz8
import Derived.Test.YtahbbnfmbohmmaaDoorMz9
import Derived.Test.YtahbbnfmbohmmaaDoorMz13
import Derived.Test.YtahbbnfmbohmmaaDoorMz3
set_option linter.unusedSimpArgs false
set_option linter.unnecessarySimpa false
set_option linter.unusedVariables false
set_option maxHeartbeats 1000000
namespace Go.Proofs.YtahbbnfmbohmmaaDoor
open Go.Ab Go.RowKit
set_option maxRecDepth 10000
attribute [local irreducible] Awp jE qY qK Red qA Go.Ab.Fin qp Rz yL qJ qE ResOk jl qL jA qB
@[reducible] def wrB (q nb:Nat) (s:qj) (g f:Bool):List AV:=[.op q 0 0,.os nb 0 s.length,.v (.bool g),.v (.bool f)]
@[reducible] def KW (g f:Bool):List AV:=[.v (.pointer none),.sl true [],.v (.bool g),.v (.bool f)]
@[reducible] def wr1 (q:Nat) (g f:Bool):List AV:=[.op q 0 0,.sl true [],.v (.bool g),.v (.bool f)]
@[reducible] def tyW (row:List AV):HB := .mp (.typ 53 4 [row])
@[reducible] def qF (s:qj):HB := .mp (.typ 5 1 (s.map jM))
theorem K0 (s:qj) (g f:Bool):qp C2.P 66 [.op 0 0 0] [tyW (wrB 0 1 s g f),qF s] (.tup []) [tyW (wrB 0 1 s g f),qF s]:=by
 refine qf (C:=C2) Tryd.func66 rfl _ Tryd.ntmps66 (Nat.le_of_ble_eq_true rfl) _ Tryd.results66 2 rfl rfl ?_
 repeat' (first|refine qk ?_|(first|(apply qt;apply Vw;(first|exact .inl ⟨rfl,rfl⟩|exact .inr ⟨⟨_,_,_,rfl⟩,rfl⟩);rfl;rfl;(first|exact .inl rfl|exact .inr rfl);exact nle rfl)|(apply qt;apply YN;rfl;rfl;rfl;rfl;rfl;(exact of_decide_eq_true rfl);(first|exact .inl rfl|exact .inr rfl);exact nle rfl))|((first|(apply qb;rfl;rfl;exact nle rfl)|(apply qa;rfl;rfl;exact nle rfl)|refine xsC ?_ ?_);all_goals (intro hc;have hp:=hc;try simp at hp;try (exfalso;omega)))|refine jm ?_ ?_)
 all_goals ((apply qD (rs:=[]) [] 2;(case hr=>(repeat (first|exact qw|(apply qx;rfl)|(apply qu;rfl;rfl;rfl;rfl;rfl))));(case hL=>rfl);(case hh=>(repeat' (first|exact qh|refine za ?_|refine Yf ?_ ?_|refine Y2 ?_ ?_|refine q_r ?_|exact qU|apply qi|exact qI rfl|(apply qT;(first|exact jZ rfl|exact .inr (List.mem_cons_self ..)|exact .inr (List.mem_cons_of_mem _ (List.mem_cons_self ..))|exact .inr (List.mem_cons_of_mem _ (List.mem_cons_of_mem _ (List.mem_cons_self ..)))|exact .inr (List.mem_cons_of_mem _ (List.mem_cons_of_mem _ (List.mem_cons_of_mem _ (List.mem_cons_self ..))))))|refine kP ?_|refine QR ?_ rfl));all_goals rfl);(case hi=>exact rfl);(case hz=>first|rfl|(simp [jQ,AV.ren,AV.ren.renL,js,qn,jh];done))))
theorem W3 (cap:Nat) (h:1 ≤ cap):liesAt C.P C.P.depth 53 (cap * 4 / C.P.cellsOf 53) 0 51 1 = true:=by
 obtain ⟨c,rfl⟩ : ∃ c,cap = c + 1:=⟨cap - 1,by omega⟩
 have h4:C.P.cellsOf 53 = 4:=by kernel_rfl
 rw [h4,Nat.mul_div_cancel _ (by decide)]
 show liesAt C.P C.P.depth 53 (c + 1) 0 51 1 = true
 have key : ∀ c:Nat,liesAt C.P C.P.depth 53 (c + 1) 0 51 1 = true:=by
  intro c
  kernel_rfl
 exact key c
theorem KZ (g f:Bool):qp C1.P 66 [.op 0 0 0] [tyW (KW g f)] (.tup []) [tyW (wr1 0 g f)]:=by
 refine qf (C:=C1) Tryd.func66 rfl _ Tryd.ntmps66 (Nat.le_of_ble_eq_true rfl) _ Tryd.results66 1 rfl rfl ?_
 repeat' (first|refine qk ?_|(first|(apply qt;apply Vw;(first|exact .inl ⟨rfl,rfl⟩|exact .inr ⟨⟨_,_,_,rfl⟩,rfl⟩);rfl;rfl;(first|exact .inl rfl|exact .inr rfl);exact nle rfl)|(apply qt;apply YN;rfl;rfl;rfl;rfl;rfl;(exact of_decide_eq_true rfl);(first|exact .inl rfl|exact .inr rfl);exact nle rfl)|(apply qt;apply We;rfl;exact Tryd.func71;rfl;rfl;rfl;rfl;exact nle rfl)|(apply qt;apply XA;rfl;rfl;exact nle rfl;rfl;rfl;rfl;(exact of_decide_eq_true rfl);exact Tryd.underlying112;exact nle rfl)|(apply qt;apply JU;rfl;rfl;rfl;rfl;rfl;exact Tryd.underlying112;exact W3;exact nle rfl))|((first|(apply qb;rfl;rfl;exact nle rfl)|(apply qa;rfl;rfl;exact nle rfl)|refine xsC ?_ ?_);all_goals (intro hc;have hp:=hc;try simp at hp;try (exfalso;omega)))|refine jm ?_ ?_)
 all_goals ((apply qD (rs:=[]) [] 1;(case hr=>(repeat (first|exact qw|(apply qx;rfl)|(apply qu;rfl;rfl;rfl;rfl;rfl))));(case hL=>rfl);(case hh=>(repeat' (first|exact qh|refine za ?_|refine Yf ?_ ?_|refine Y2 ?_ ?_|refine q_r ?_|exact qU|apply qi|exact qI rfl|(apply qT;(first|exact jZ rfl|exact .inr (List.mem_cons_self ..)|exact .inr (List.mem_cons_of_mem _ (List.mem_cons_self ..))|exact .inr (List.mem_cons_of_mem _ (List.mem_cons_of_mem _ (List.mem_cons_self ..)))|exact .inr (List.mem_cons_of_mem _ (List.mem_cons_of_mem _ (List.mem_cons_of_mem _ (List.mem_cons_self ..))))))|refine kP ?_|refine QR ?_ rfl));all_goals rfl);(case hi=>exact rfl);(case hz=>first|rfl|(simp [jQ,AV.ren,AV.ren.renL,js,qn,jh];done))))
set_option maxHeartbeats 1000000 in
theorem zm (l s:qj) (g f:Bool) (hl:l.length + s.length ≤ 140737488355328):qp C2.P 52 [.op 0 0 0,.v (str s)] [tyW (wrB 0 1 l g f),qF l] (.tup [.v (.int .i64 (s.length:Int)),.v .nilIface]) [tyW (wrB 0 2 (l ++ s) g f),.dead,qF (l ++ s)]:=by
 have hc:=K0 l g f
 refine qf (C:=C2) Tryd.func52 rfl _ Tryd.ntmps52 (Nat.le_of_ble_eq_true rfl) _ Tryd.results52 2 rfl rfl ?_
 repeat' (first|refine qk ?_|(first|(apply qc Tryd.func66 rfl rfl;intro hIsFn;refine yV [0,1] [] [(0,tyW (wrB 0 1 l g f)),(1,qF l)] 2 (.tup []) hIsFn (hc) ?hz ?hg ?hb ?_;(case hz=>(repeat' (first|exact je|apply qX|exact jd rfl|exact jF|(apply qo;apply qT;exact .inr (of_decide_eq_true rfl))|(apply qo;apply jN;exact .inr (of_decide_eq_true rfl))|(apply qo;apply jn;exact .inr (of_decide_eq_true rfl))|apply jw|apply jx)));(case hg=>(repeat' (first|exact yb|exact jP|refine jr _ ?_ ?_|refine qM ?_ ?_|exact jO|exact yn (sideM_pure _)|exact yn (wS _)|exact yn (goesM_pure _)|exact zM (fun _=>rfl)|refine qW ?_|exact qU|apply qi|exact qI rfl|(apply jN;exact .inr (of_decide_eq_true rfl))|(apply jn;exact .inr (of_decide_eq_true rfl))|(apply qT;exact .inr (of_decide_eq_true rfl))|refine yi ?_|exact yB)));(case hb=>(repeat' (first|exact yb|exact jP|refine jr _ ?_ ?_|refine qM ?_ ?_|exact jO|exact yn (sideM_pure _)|exact yn (wS _)|exact yn (goesM_pure _)|exact zM (fun _=>rfl)|refine qW ?_|exact qU|apply qi|exact qI rfl|(apply jN;exact .inr (of_decide_eq_true rfl))|(apply jn;exact .inr (of_decide_eq_true rfl))|(apply qT;exact .inr (of_decide_eq_true rfl))|refine yi ?_|exact yB))))|(apply Y0;apply Q5;rfl;rfl;rfl;rfl;rfl;rfl;rfl;rfl;rfl;rfl;rfl;exact hl;exact nofun;exact nle rfl))|((first|(apply qb;rfl;rfl;exact nle rfl)|(apply qa;rfl;rfl;exact nle rfl)|refine xsC ?_ ?_);all_goals (intro hc;have hp:=hc;try simp at hp;try (exfalso;omega)))|refine jm ?_ ?_)
 all_goals ((apply qD (rs:=[.tmp 4,.tmp 5]) [(2,2)] 3;(case hr=>(repeat (first|exact qw|(apply qx;rfl)|(apply qu;rfl;rfl;rfl;rfl;rfl))));(case hL=>rfl);(case hh=>(repeat' (first|exact qh|refine za ?_|refine Yf ?_ ?_|refine Y2 ?_ ?_|refine q_r ?_|exact qU|apply qi|exact qI rfl|(apply qT;(first|exact jZ rfl|exact .inr (List.mem_cons_self ..)|exact .inr (List.mem_cons_of_mem _ (List.mem_cons_self ..))|exact .inr (List.mem_cons_of_mem _ (List.mem_cons_of_mem _ (List.mem_cons_self ..)))|exact .inr (List.mem_cons_of_mem _ (List.mem_cons_of_mem _ (List.mem_cons_of_mem _ (List.mem_cons_self ..))))))|refine kP ?_|refine QR ?_ rfl));all_goals rfl);(case hi=>exact rfl);(case hz=>first|rfl|(simp [jQ,AV.ren,AV.ren.renL,js,qn,jh];done))))
set_option maxHeartbeats 1000000 in
theorem ZM (s:qj) (g f:Bool) (h0:s ≠ []) (hl:s.length ≤ 140737488355328):qp C1.P 52 [.op 0 0 0,.v (str s)] [tyW (KW g f)] (.tup [.v (.int .i64 (s.length:Int)),.v .nilIface]) [tyW (wrB 0 1 s g f),qF s]:=by
 have hc:=KZ g f
 refine qf (C:=C1) Tryd.func52 rfl _ Tryd.ntmps52 (Nat.le_of_ble_eq_true rfl) _ Tryd.results52 1 rfl rfl ?_
 repeat' (first|refine qk ?_|(first|(apply qc Tryd.func66 rfl rfl;intro hIsFn;refine yV [0] [] [(0,tyW (wr1 0 g f))] 1 (.tup []) hIsFn (hc) ?hz ?hg ?hb ?_;(case hz=>(repeat' (first|exact je|apply qX|exact jd rfl|exact jF|(apply qo;apply qT;exact .inr (of_decide_eq_true rfl))|(apply qo;apply jN;exact .inr (of_decide_eq_true rfl))|(apply qo;apply jn;exact .inr (of_decide_eq_true rfl))|apply jw|apply jx)));(case hg=>(repeat' (first|exact yb|exact jP|refine jr _ ?_ ?_|refine qM ?_ ?_|exact jO|exact yn (sideM_pure _)|exact yn (wS _)|exact yn (goesM_pure _)|exact zM (fun _=>rfl)|refine qW ?_|exact qU|apply qi|exact qI rfl|(apply jN;exact .inr (of_decide_eq_true rfl))|(apply jn;exact .inr (of_decide_eq_true rfl))|(apply qT;exact .inr (of_decide_eq_true rfl))|refine yi ?_|exact yB)));(case hb=>(repeat' (first|exact yb|exact jP|refine jr _ ?_ ?_|refine qM ?_ ?_|exact jO|exact yn (sideM_pure _)|exact yn (wS _)|exact yn (goesM_pure _)|exact zM (fun _=>rfl)|refine qW ?_|exact qU|apply qi|exact qI rfl|(apply jN;exact .inr (of_decide_eq_true rfl))|(apply jn;exact .inr (of_decide_eq_true rfl))|(apply qT;exact .inr (of_decide_eq_true rfl))|refine yi ?_|exact yB))))|(apply yR;apply Qt;rfl;rfl;exact h0;rfl;rfl;rfl;rfl;rfl;rfl;rfl;rfl;exact hl;exact nle rfl))|((first|(apply qb;rfl;rfl;exact nle rfl)|(apply qa;rfl;rfl;exact nle rfl)|refine xsC ?_ ?_);all_goals (intro hc;have hp:=hc;try simp at hp;try (exfalso;omega)))|refine jm ?_ ?_)
 all_goals ((apply qD (rs:=[.tmp 4,.tmp 5]) [(1,1)] 2;(case hr=>(repeat (first|exact qw|(apply qx;rfl)|(apply qu;rfl;rfl;rfl;rfl;rfl))));(case hL=>rfl);(case hh=>(repeat' (first|exact qh|refine za ?_|refine Yf ?_ ?_|refine Y2 ?_ ?_|refine q_r ?_|exact qU|apply qi|exact qI rfl|(apply qT;(first|exact jZ rfl|exact .inr (List.mem_cons_self ..)|exact .inr (List.mem_cons_of_mem _ (List.mem_cons_self ..))|exact .inr (List.mem_cons_of_mem _ (List.mem_cons_of_mem _ (List.mem_cons_self ..)))|exact .inr (List.mem_cons_of_mem _ (List.mem_cons_of_mem _ (List.mem_cons_of_mem _ (List.mem_cons_self ..))))))|refine kP ?_|refine QR ?_ rfl));all_goals rfl);(case hi=>exact rfl);(case hz=>first|rfl|(simp [jQ,AV.ren,AV.ren.renL,js,qn,jh];done))))
set_option maxHeartbeats 1000000 in
theorem ZJ (s:qj) (g f:Bool) (h0:s ≠ []) (hl:s.length ≤ 140737488355328):qp C2.P 56 [.op 0 0 0] [tyW (wrB 0 1 s g f),qF s] (.v (str s)) [tyW (wrB 0 1 s g f),.dead]:=by
 have hp:0 < s.length:=by cases s with|nil=>exact absurd rfl h0|cons _ _=>simp
 refine qf (C:=C2) Tryd.func56 rfl _ Tryd.ntmps56 (Nat.le_of_ble_eq_true rfl) _ Tryd.results56 2 rfl rfl ?_
 repeat' (first|refine qk ?_|(first|(apply qt;apply WX;rfl;rfl;exact hp;exact nle rfl)|(apply Kw;apply Wf;rfl;rfl;rfl;exact h0;rfl;rfl;kernel_rfl;omega;exact nle rfl))|((first|(apply qb;rfl;rfl;exact nle rfl)|(apply qa;rfl;rfl;exact nle rfl)|refine xsC ?_ ?_);all_goals (intro hc;have hp:=hc;try simp at hp;try (exfalso;omega)))|refine jm ?_ ?_)
 all_goals ((apply qD (rs:=[.tmp 2]) [] 2;(case hr=>(repeat (first|exact qw|(apply qx;rfl)|(apply qu;rfl;rfl;rfl;rfl;rfl))));(case hL=>rfl);(case hh=>(repeat' (first|exact qh|refine za ?_|refine Yf ?_ ?_|refine Y2 ?_ ?_|refine q_r ?_|exact qU|apply qi|exact qI rfl|(apply qT;(first|exact jZ rfl|exact .inr (List.mem_cons_self ..)|exact .inr (List.mem_cons_of_mem _ (List.mem_cons_self ..))|exact .inr (List.mem_cons_of_mem _ (List.mem_cons_of_mem _ (List.mem_cons_self ..)))|exact .inr (List.mem_cons_of_mem _ (List.mem_cons_of_mem _ (List.mem_cons_of_mem _ (List.mem_cons_self ..))))))|refine kP ?_|refine QR ?_ rfl));all_goals rfl);(case hi=>exact rfl);(case hz=>first|rfl|(simp [jQ,AV.ren,AV.ren.renL,js,qn,jh];done))))
end Go.Proofs.YtahbbnfmbohmmaaDoor
set_option linter.unusedSimpArgs false
set_option linter.unnecessarySimpa false
set_option linter.unusedVariables false
namespace Go.Proofs.YtahbbnfmbohmmaaDoor
open Go.Ab Go.RowKit
section steps
variable {C' : Cx} {N:Nat} {all:Array Oper} {es:List Eff} {o:Oper} {os:List Oper} {K:List Eff → St → Prop} {ts:List (Nat × AV)} {hs:List (Nat × HB)} {nx:Nat} {gd:List Nat}
theorem kM (q m nx:Nat) (h:(decide (q < nx) && decide (m < nx) && decide (q ≠ m)) = true):q < nx ∧ m < nx ∧ q ≠ m:=by
 simp only [Bool.and_eq_true,decide_eq_true_eq] at h
 exact ⟨h.1.1,h.1.2,h.2⟩
theorem kF {q m:Nat} {l:qj} {g f:Bool} (hq:qm hs q = tyW (wrB q m l g f)) (hm:qm hs m = qF l):vy (jv 0 [q,m]) (qm hs) [q,m] [tyW (wrB 0 1 l g f),qF l] :=
 jr (tyW (wrB q m l g f)) (jr (qF l) yb yB hm rfl) (yi (qi (qT (.inr (List.mem_cons_self ..))) (qi (jn (.inr (List.mem_cons_of_mem _ (List.mem_cons_self ..)))) (qi (qI rfl) (qi (qI rfl) qU))))) hq rfl
theorem Vo {q m n:Nat} {l:qj} {g f:Bool}:zj (xj (jv 0 [q,m,n])) [(q,tyW (wrB q n l g f)),(m,.dead),(n,qF l)] [tyW (wrB 0 2 l g f),.dead,qF l] :=
 qM (yi (qi (qT (.inr (List.mem_cons_self ..))) (qi (jn (.inr (List.mem_cons_of_mem _ (List.mem_cons_of_mem _ (List.mem_cons_self ..))))) (qi (qI rfl) (qi (qI rfl) qU))))) (qM jO (qM yB jP))
theorem Kr {q m n:Nat} (h:q < n ∧ m < n ∧ q ≠ m) : [q,m,n].Nodup:=by
 obtain ⟨h1,h2,h3⟩:=h
 simp only [List.nodup_cons,List.mem_cons,List.not_mem_nil,or_false,not_or,not_false_eq_true,List.nodup_nil,and_true]
 exact ⟨⟨h3,by omega⟩,by omega⟩
theorem yk {f:FuncId} {args:List Operand} {tys:Array TypeId} {d:Nat} {ty:TypeId} {pos:String} {af:Array Edge} {gg:Option (Nat × Bool)} {ys:List AV} {r:AV} {l l' : qj} {g g' f0 f1:Bool} (q m:Nat) (hf:IsFn C'.P f)
  (hc:qp C'.P f ys [tyW (wrB 0 1 l g f0),qF l] r [tyW (wrB 0 2 l' g' f1),.dead,qF l'])
  (k:jE C' N all (⟨gd ++ (ji (.func f) ++ args.flatMap ji),[q,m],some d,r,[(q,tyW (wrB q nx l' g' f1)),(m,.dead),(nx,qF l')],[nx]⟩ :: es) ⟨(d,r) :: ts,(q,tyW (wrB q nx l' g' f1)) :: (m,.dead) :: (nx,qF l') :: hs,nx + 1⟩ os K)
  (hq:qm hs q = tyW (wrB q m l g f0):=by rfl) (hm:qm hs m = qF l:=by rfl)
  (hz:qB (jv 0 [q,m]) [q,m] (qm hs) (args.map (evA (qn ts))) ys:=by ((repeat' (first|exact je|apply qX|exact jd rfl|exact jF|(apply qo;apply qT;exact .inr (of_decide_eq_true rfl))|(apply qo;apply jN;exact .inr (of_decide_eq_true rfl))|(apply qo;apply jn;exact .inr (of_decide_eq_true rfl))|apply jw|apply jx))<;>fail))
  (hlt:(decide (q < nx) && decide (m < nx) && decide (q ≠ m)) = true:=by rfl) (hr:r.ren (xj (jv 0 [q,m,nx])) = r:=by rfl) (hN:d < N:=by exact nle rfl):vp C' N all gd es ⟨ts,hs,nx⟩ f args d tys ty pos af gg os K:=by
 have hl:=kM q m nx hlt
 refine yV [q,m] [nx] [(q,tyW (wrB q nx l' g' f1)),(m,.dead),(nx,qF l')] (nx + 1) r hf hc hz (kF hq hm) Vo k hr rfl rfl (Nat.le_of_ble_eq_true rfl) (Kr hl) ?_ ?_ (by omega) hN
 ·simp [yY]
 ·intro n hn;simp at hn;omega
theorem qat {f:FuncId} {args:List Operand} {tys:Array TypeId} {d:Nat} {ty:TypeId} {pos:String} {af:Array Edge} {gg:Option (Nat × Bool)} {ys:List AV} {r:AV} {l:qj} {g f0:Bool} (q m:Nat) (hf:IsFn C'.P f)
  (hc:qp C'.P f ys [tyW (wrB 0 1 l g f0),qF l] r [tyW (wrB 0 1 l g f0),.dead])
  (k:jE C' N all (⟨gd ++ (ji (.func f) ++ args.flatMap ji),[q,m],some d,r,[(q,tyW (wrB q m l g f0)),(m,.dead)],[]⟩ :: es) ⟨(d,r) :: ts,(q,tyW (wrB q m l g f0)) :: (m,.dead) :: hs,nx⟩ os K)
  (hq:qm hs q = tyW (wrB q m l g f0):=by rfl) (hm:qm hs m = qF l:=by rfl)
  (hz:qB (jv 0 [q,m]) [q,m] (qm hs) (args.map (evA (qn ts))) ys:=by ((repeat' (first|exact je|apply qX|exact jd rfl|exact jF|(apply qo;apply qT;exact .inr (of_decide_eq_true rfl))|(apply qo;apply jN;exact .inr (of_decide_eq_true rfl))|(apply qo;apply jn;exact .inr (of_decide_eq_true rfl))|apply jw|apply jx))<;>fail))
  (hlt:(decide (q < nx) && decide (m < nx) && decide (q ≠ m)) = true:=by rfl) (hr:r.ren (xj (jv 0 [q,m])) = r:=by rfl) (hN:d < N:=by exact nle rfl):vp C' N all gd es ⟨ts,hs,nx⟩ f args d tys ty pos af gg os K:=by
 have hl:=kM q m nx hlt
 refine yV [q,m] [] [(q,tyW (wrB q m l g f0)),(m,.dead)] nx r hf hc hz (kF hq hm) (qM (yi (qi (qT (.inr (List.mem_cons_self ..))) (qi (jn (.inr (List.mem_cons_of_mem _ (List.mem_cons_self ..)))) (qi (qI rfl) (qi (qI rfl) qU))))) (qM jO jP)) k hr rfl rfl (Nat.le_of_ble_eq_true rfl) ?_ rfl (fun n hn=>by cases hn) (Nat.le_refl _) hN
 have:=hl.2.2
 simp [this]
theorem Ku {f:FuncId} {args:List Operand} {tys:Array TypeId} {d:Nat} {ty:TypeId} {pos:String} {af:Array Edge} {gg:Option (Nat × Bool)} {ys:List AV} {r:AV} {l:qj} {g g' f0 f1:Bool} (q m:Nat) (hf:IsFn C'.P f)
  (hc:qp C'.P f ys [tyW (wrB 0 1 l g f0),qF l] r [tyW (wrB 0 1 l g' f1),qF l])
  (k:jE C' N all (⟨gd ++ (ji (.func f) ++ args.flatMap ji),[q,m],some d,r,[(q,tyW (wrB q m l g' f1)),(m,qF l)],[]⟩ :: es) ⟨(d,r) :: ts,(q,tyW (wrB q m l g' f1)) :: (m,qF l) :: hs,nx⟩ os K)
  (hq:qm hs q = tyW (wrB q m l g f0):=by rfl) (hm:qm hs m = qF l:=by rfl)
  (hz:qB (jv 0 [q,m]) [q,m] (qm hs) (args.map (evA (qn ts))) ys:=by ((repeat' (first|exact je|apply qX|exact jd rfl|exact jF|(apply qo;apply qT;exact .inr (of_decide_eq_true rfl))|(apply qo;apply jN;exact .inr (of_decide_eq_true rfl))|(apply qo;apply jn;exact .inr (of_decide_eq_true rfl))|apply jw|apply jx))<;>fail))
  (hlt:(decide (q < nx) && decide (m < nx) && decide (q ≠ m)) = true:=by rfl) (hr:r.ren (xj (jv 0 [q,m])) = r:=by rfl) (hN:d < N:=by exact nle rfl):vp C' N all gd es ⟨ts,hs,nx⟩ f args d tys ty pos af gg os K:=by
 have hl:=kM q m nx hlt
 refine yV [q,m] [] [(q,tyW (wrB q m l g' f1)),(m,qF l)] nx r hf hc hz (kF hq hm) (qM (yi (qi (qT (.inr (List.mem_cons_self ..))) (qi (jn (.inr (List.mem_cons_of_mem _ (List.mem_cons_self ..)))) (qi (qI rfl) (qi (qI rfl) qU))))) (qM yB jP)) k hr rfl rfl (Nat.le_of_ble_eq_true rfl) ?_ rfl (fun n hn=>by cases hn) (Nat.le_refl _) hN
 have:=hl.2.2
 simp [this]
theorem YY {f:FuncId} {args:List Operand} {tys:Array TypeId} {d:Nat} {ty:TypeId} {pos:String} {af:Array Edge} {gg:Option (Nat × Bool)} {ys:List AV} {r:AV} {l:qj} {g f0:Bool} (q m:Nat) (hf:IsFn C'.P f)
  (hc:qp C'.P f ys [tyW (wrB 0 1 l g f0),qF l] r [.dead,.dead])
  (k:jE C' N all (⟨gd ++ (ji (.func f) ++ args.flatMap ji),[q,m],some d,r,[(q,.dead),(m,.dead)],[]⟩ :: es) ⟨(d,r) :: ts,(q,.dead) :: (m,.dead) :: hs,nx⟩ os K)
  (hq:qm hs q = tyW (wrB q m l g f0):=by rfl) (hm:qm hs m = qF l:=by rfl)
  (hz:qB (jv 0 [q,m]) [q,m] (qm hs) (args.map (evA (qn ts))) ys:=by ((repeat' (first|exact je|apply qX|exact jd rfl|exact jF|(apply qo;apply qT;exact .inr (of_decide_eq_true rfl))|(apply qo;apply jN;exact .inr (of_decide_eq_true rfl))|(apply qo;apply jn;exact .inr (of_decide_eq_true rfl))|apply jw|apply jx))<;>fail))
  (hlt:(decide (q < nx) && decide (m < nx) && decide (q ≠ m)) = true:=by rfl) (hr:r.ren (xj (jv 0 [q,m])) = r:=by rfl) (hN:d < N:=by exact nle rfl):vp C' N all gd es ⟨ts,hs,nx⟩ f args d tys ty pos af gg os K:=by
 have hl:=kM q m nx hlt
 refine yV [q,m] [] [(q,.dead),(m,.dead)] nx r hf hc hz (kF hq hm) (qM jO (qM jO jP)) k hr rfl rfl (Nat.le_of_ble_eq_true rfl) ?_ rfl (fun n hn=>by cases hn) (Nat.le_refl _) hN
 have:=hl.2.2
 simp [this]
theorem Jr {f:FuncId} {args:List Operand} {tys:Array TypeId} {d:Nat} {ty:TypeId} {pos:String} {af:Array Edge} {gg:Option (Nat × Bool)} {ys:List AV} {r:AV} {l' : qj} {g g' f0 f1:Bool} (q:Nat) (hf:IsFn C'.P f)
  (hc:qp C'.P f ys [tyW (KW g f0)] r [tyW (wrB 0 1 l' g' f1),qF l'])
  (k:jE C' N all (⟨gd ++ (ji (.func f) ++ args.flatMap ji),[q],some d,r,[(q,tyW (wrB q nx l' g' f1)),(nx,qF l')],[nx]⟩ :: es) ⟨(d,r) :: ts,(q,tyW (wrB q nx l' g' f1)) :: (nx,qF l') :: hs,nx + 1⟩ os K)
  (hq:qm hs q = tyW (KW g f0):=by rfl)
  (hz:qB (jv 0 [q]) [q] (qm hs) (args.map (evA (qn ts))) ys:=by ((repeat' (first|exact je|apply qX|exact jd rfl|exact jF|(apply qo;apply qT;exact .inr (of_decide_eq_true rfl))|(apply qo;apply jN;exact .inr (of_decide_eq_true rfl))|(apply qo;apply jn;exact .inr (of_decide_eq_true rfl))|apply jw|apply jx))<;>fail))
  (hlt:decide (q < nx) = true:=by rfl) (hr:r.ren (xj (jv 0 [q,nx])) = r:=by rfl) (hN:d < N:=by exact nle rfl):vp C' N all gd es ⟨ts,hs,nx⟩ f args d tys ty pos af gg os K:=by
 have hl:q < nx:=of_decide_eq_true hlt
 refine yV [q] [nx] [(q,tyW (wrB q nx l' g' f1)),(nx,qF l')] (nx + 1) r hf hc hz (jr (tyW (KW g f0)) yb (yi (jf rfl)) hq rfl) (qM (yi (qi (qT (.inr (List.mem_cons_self ..))) (qi (jn (.inr (List.mem_cons_of_mem _ (List.mem_cons_self ..)))) (qi (qI rfl) (qi (qI rfl) qU))))) (qM yB jP)) k hr rfl rfl (Nat.le_of_ble_eq_true rfl) ?_ ?_ ?_ (by omega) hN
 ·simp;omega
 ·simp [yY]
 ·intro n hn;simp at hn;omega
theorem qau {f:FuncId} {fn:Func} {x:Operand} {first cap:List AV} {args:List Operand} {tys:Array TypeId} {d:Nat} {ty:TypeId} {pos:String} {af:Array Edge} {gg:Option (Nat × Bool)} {ys:List AV} {r:AV} {l l' : qj} {g g' f0 f1:Bool} (q m:Nat) (hf:C'.P.funcs[f]? = some fn)
  (hc:qp C'.P f ys [tyW (wrB 0 1 l g f0),qF l] r [tyW (wrB 0 2 l' g' f1),.dead,qF l'])
  (k:jE C' N all (⟨gd ++ (ji x ++ args.flatMap ji),[q,m],some d,r,[(q,tyW (wrB q nx l' g' f1)),(m,.dead),(nx,qF l')],[nx]⟩ :: es) ⟨(d,r) :: ts,(q,tyW (wrB q nx l' g' f1)) :: (m,.dead) :: (nx,qF l') :: hs,nx + 1⟩ os K)
  (hx:evA (qn ts) x = .clo (.func f) first cap:=by rfl) (hb0:fn.body.isNone = false:=by rfl) (hn0:(fn.name == "runtime.NumGoroutine") = false:=by rfl)
  (hq:qm hs q = tyW (wrB q m l g f0):=by rfl) (hm:qm hs m = qF l:=by rfl)
  (hz:qB (jv 0 [q,m]) [q,m] (qm hs) (first ++ args.map (evA (qn ts)) ++ cap) ys:=by ((repeat' (first|exact je|apply qX|exact jd rfl|exact jF|(apply qo;apply qT;exact .inr (of_decide_eq_true rfl))|(apply qo;apply jN;exact .inr (of_decide_eq_true rfl))|(apply qo;apply jn;exact .inr (of_decide_eq_true rfl))|apply jw|apply jx))<;>fail))
  (hlt:(decide (q < nx) && decide (m < nx) && decide (q ≠ m)) = true:=by rfl) (hr:r.ren (xj (jv 0 [q,m,nx])) = r:=by rfl) (hN:d < N:=by exact nle rfl):qY C' N all gd es ⟨ts,hs,nx⟩ ⟨some d,.call ⟨.value x,args.toArray,tys⟩,ty,pos,af,gg⟩ os K:=by
 have hl:=kM q m nx hlt
 refine zx [q,m] [nx] [(q,tyW (wrB q nx l' g' f1)),(m,.dead),(nx,qF l')] (nx + 1) r hf hc hz (kF hq hm) Vo k hx hb0 hn0 hr rfl rfl (Nat.le_of_ble_eq_true rfl) (Kr hl) ?_ ?_ (by omega) hN
 ·simp [yY]
 ·intro n hn;simp at hn;omega
end steps
theorem qd {L:List (Nat × Nat)} {nh n n' : Nat} (h:((decide (n < nh) && decide (n = n')) || L.contains (n,n')) = true):Maps L nh n n':=by
 simp only [Bool.or_eq_true,Bool.and_eq_true,decide_eq_true_eq,List.contains_iff_mem] at h
 rcases h with ⟨h,rfl⟩|h
 ·exact .inl ⟨h,rfl⟩
 ·exact .inr h
theorem yj {L:List (Nat × Nat)} {nh:Nat} {σ:St} {q q' m m' : Nat} {l l' : qj} {g g' f f' : Bool} {rest:List (Nat × HB)} (hq:qm σ.hs q = tyW (wrB q m l g f)) (hm:qm σ.hs m = qF l) (h1:Maps L nh q q') (h2:Maps L nh m m') (hl:l = l') (hg:g = g') (hf:f = f') (hr:j4 L nh σ rest):j4 L nh σ ((q',tyW (wrB q' m' l' g' f')) :: (m',qF l') :: rest):=by
 subst hl hg hf
 exact Yf (Y2 hr rfl h2 hm) (qi (qT h1) (qi (jn h2) (qi (qI rfl) (qi (qI rfl) qU)))) h1 hq
theorem vU {L:List (Nat × Nat)} {nh:Nat} {σ:St} {q q' m m' d' : Nat} {l l' : qj} {g g' f f' : Bool} {rest:List (Nat × HB)} (hq:qm σ.hs q = tyW (wrB q m l g f)) (hm:qm σ.hs m = qF l) (h1:Maps L nh q q') (h2:Maps L nh m m') (hd:Maps L nh d' d') (hl:l = l') (hg:g = g') (hf:f = f') (hr:j4 L nh σ rest):j4 L nh σ ((q',tyW (wrB q' m' l' g' f')) :: (d',.dead) :: (m',qF l') :: rest):=by
 subst hl hg hf
 exact Yf (za (Y2 hr rfl h2 hm) hd) (qi (qT h1) (qi (jn h2) (qi (qI rfl) (qi (qI rfl) qU)))) h1 hq
theorem Wj {L:List (Nat × Nat)} {nh:Nat} {σ:St} {q q' : Nat} {g f:Bool} {rest:List (Nat × HB)} (hq:qm σ.hs q = tyW (KW g f)) (h1:Maps L nh q q') (hr:j4 L nh σ rest):j4 L nh σ ((q',tyW (KW g f)) :: rest):=Yf hr (jf rfl) h1 hq
end Go.Proofs.YtahbbnfmbohmmaaDoor
