import Derived.Test.YtahbbnfmbohmmaaDoorMz11
import Derived.Test.YtahbbnfmbohmmaaDoorMz12
import Derived.Test.YtahbbnfmbohmmaaDoorMz8
import Derived.Test.YtahbbnfmbohmmaaDoorMz3
set_option linter.unusedSimpArgs false
set_option linter.unnecessarySimpa false
set_option linter.unusedVariables false
set_option maxHeartbeats 1000000
namespace Go.Proofs.YtahbbnfmbohmmaaDoor
open Go.Ab Go.RowKit
set_option maxRecDepth 10000
attribute [local irreducible] Awp jV jt jv Red qz Go.Ab.Fin qu Rz x0 ju jn ResOk jG jo yi qM
@[reducible] def wrB (q nb:Nat) (s:qp) (g f:Bool):List AV:=[.op q 0 0,.os nb 0 s.length,.v (.bool g),.v (.bool f)]
@[reducible] def Vc (g f:Bool):List AV:=[.v (.pointer none),.sl true [],.v (.bool g),.v (.bool f)]
@[reducible] def wr1 (q:Nat) (g f:Bool):List AV:=[.op q 0 0,.sl true [],.v (.bool g),.v (.bool f)]
@[reducible] def tyW (row:List AV):HB := .mp (.typ 53 4 [row])
@[reducible] def qw (s:qp):HB := .mp (.typ 5 1 (s.map jz))
theorem Vh (s:qp) (g f:Bool):qu C2.P 66 [.op 0 0 0] [tyW (wrB 0 1 s g f),qw s] (.tup []) [tyW (wrB 0 1 s g f),qw s]:=by
 refine qe (C:=C2) Tryd.func66 rfl _ Tryd.ntmps66 (Nat.le_of_ble_eq_true rfl) _ Tryd.results66 2 rfl rfl ?_
 repeat' (first|refine ql ?_|(first|(apply qx;apply J5;(first|exact .inl ⟨rfl,rfl⟩|exact .inr ⟨⟨_,_,_,rfl⟩,rfl⟩);rfl;rfl;(first|exact .inl rfl|exact .inr rfl);exact nle rfl)|(apply qx;apply QS;rfl;rfl;rfl;rfl;rfl;(exact of_decide_eq_true rfl);(first|exact .inl rfl|exact .inr rfl);exact nle rfl))|((first|(apply qb;rfl;rfl;exact nle rfl)|(apply qa;rfl;rfl;exact nle rfl)|refine xsC ?_ ?_);all_goals (intro hc;have hp:=hc;try simp at hp;try (exfalso;omega)))|refine jj ?_ ?_)
 all_goals ((apply qv (rs:=[]) [] 2;(case hr=>(repeat (first|exact qm|(apply qn;rfl)|(apply qk;rfl;rfl;rfl;rfl;rfl))));(case hL=>rfl);(case hh=>(repeat' (first|exact qg|refine xX ?_|refine Qp ?_ ?_|refine Q4 ?_ ?_|refine Zx ?_|exact qE|apply qh|exact qy rfl|(apply qD;(first|exact jK rfl|exact .inr (List.mem_cons_self ..)|exact .inr (List.mem_cons_of_mem _ (List.mem_cons_self ..))|exact .inr (List.mem_cons_of_mem _ (List.mem_cons_of_mem _ (List.mem_cons_self ..)))|exact .inr (List.mem_cons_of_mem _ (List.mem_cons_of_mem _ (List.mem_cons_of_mem _ (List.mem_cons_self ..))))))|refine zq ?_|refine kT ?_ rfl));all_goals rfl);(case hi=>exact rfl);(case hz=>first|rfl|(simp [jw,AV.ren,AV.ren.renL,qV,qi,qI];done))))
theorem V3 (cap:Nat) (h:1 ≤ cap):liesAt C.P C.P.depth 53 (cap * 4 / C.P.cellsOf 53) 0 51 1 = true:=by
 obtain ⟨c,rfl⟩ : ∃ c,cap = c + 1:=⟨cap - 1,by omega⟩
 have h4:C.P.cellsOf 53 = 4:=by kernel_rfl
 rw [h4,Nat.mul_div_cancel _ (by decide)]
 show liesAt C.P C.P.depth 53 (c + 1) 0 51 1 = true
 have key : ∀ c:Nat,liesAt C.P C.P.depth 53 (c + 1) 0 51 1 = true:=by
  intro c
  kernel_rfl
 exact key c
theorem Vg (g f:Bool):qu C1.P 66 [.op 0 0 0] [tyW (Vc g f)] (.tup []) [tyW (wr1 0 g f)]:=by
 refine qe (C:=C1) Tryd.func66 rfl _ Tryd.ntmps66 (Nat.le_of_ble_eq_true rfl) _ Tryd.results66 1 rfl rfl ?_
 repeat' (first|refine ql ?_|(first|(apply qx;apply J5;(first|exact .inl ⟨rfl,rfl⟩|exact .inr ⟨⟨_,_,_,rfl⟩,rfl⟩);rfl;rfl;(first|exact .inl rfl|exact .inr rfl);exact nle rfl)|(apply qx;apply QS;rfl;rfl;rfl;rfl;rfl;(exact of_decide_eq_true rfl);(first|exact .inl rfl|exact .inr rfl);exact nle rfl)|(apply qx;apply Vp;rfl;exact Tryd.func71;rfl;rfl;rfl;rfl;exact nle rfl)|(apply qx;apply Jp;rfl;rfl;exact nle rfl;rfl;rfl;rfl;(exact of_decide_eq_true rfl);exact Tryd.underlying112;exact nle rfl)|(apply qx;apply w7;rfl;rfl;rfl;rfl;rfl;exact Tryd.underlying112;exact V3;exact nle rfl))|((first|(apply qb;rfl;rfl;exact nle rfl)|(apply qa;rfl;rfl;exact nle rfl)|refine xsC ?_ ?_);all_goals (intro hc;have hp:=hc;try simp at hp;try (exfalso;omega)))|refine jj ?_ ?_)
 all_goals ((apply qv (rs:=[]) [] 1;(case hr=>(repeat (first|exact qm|(apply qn;rfl)|(apply qk;rfl;rfl;rfl;rfl;rfl))));(case hL=>rfl);(case hh=>(repeat' (first|exact qg|refine xX ?_|refine Qp ?_ ?_|refine Q4 ?_ ?_|refine Zx ?_|exact qE|apply qh|exact qy rfl|(apply qD;(first|exact jK rfl|exact .inr (List.mem_cons_self ..)|exact .inr (List.mem_cons_of_mem _ (List.mem_cons_self ..))|exact .inr (List.mem_cons_of_mem _ (List.mem_cons_of_mem _ (List.mem_cons_self ..)))|exact .inr (List.mem_cons_of_mem _ (List.mem_cons_of_mem _ (List.mem_cons_of_mem _ (List.mem_cons_self ..))))))|refine zq ?_|refine kT ?_ rfl));all_goals rfl);(case hi=>exact rfl);(case hz=>first|rfl|(simp [jw,AV.ren,AV.ren.renL,qV,qi,qI];done))))
set_option maxHeartbeats 1000000 in
theorem ve (l s:qp) (g f:Bool) (hl:l.length + s.length ≤ 140737488355328):qu C2.P 52 [.op 0 0 0,.v (str s)] [tyW (wrB 0 1 l g f),qw l] (.tup [.v (.int .i64 (s.length:Int)),.v .nilIface]) [tyW (wrB 0 2 (l ++ s) g f),.dead,qw (l ++ s)]:=by
 have hc:=Vh l g f
 refine qe (C:=C2) Tryd.func52 rfl _ Tryd.ntmps52 (Nat.le_of_ble_eq_true rfl) _ Tryd.results52 2 rfl rfl ?_
 repeat' (first|refine ql ?_|(first|(apply qc Tryd.func66 rfl rfl;intro hIsFn;refine yJ [0,1] [] [(0,tyW (wrB 0 1 l g f)),(1,qw l)] 2 (.tup []) hIsFn (hc) ?hz ?hg ?hb ?_;(case hz=>(repeat' (first|exact ja|apply qP|exact qZ rfl|exact jB|(apply qo;apply qD;exact .inr (of_decide_eq_true rfl))|(apply qo;apply jQ;exact .inr (of_decide_eq_true rfl))|(apply qo;apply qY;exact .inr (of_decide_eq_true rfl))|apply jp|apply jq)));(case hg=>(repeat' (first|exact jW|exact jI|refine jh _ ?_ ?_|refine qB ?_ ?_|exact jN|exact j9 (sideM_pure _)|exact j9 (z6 _)|exact j9 (goesM_pure _)|exact vB (fun _=>rfl)|refine qK ?_|exact qE|apply qh|exact qy rfl|(apply jQ;exact .inr (of_decide_eq_true rfl))|(apply qY;exact .inr (of_decide_eq_true rfl))|(apply qD;exact .inr (of_decide_eq_true rfl))|refine jZ ?_|exact yg)));(case hb=>(repeat' (first|exact jW|exact jI|refine jh _ ?_ ?_|refine qB ?_ ?_|exact jN|exact j9 (sideM_pure _)|exact j9 (z6 _)|exact j9 (goesM_pure _)|exact vB (fun _=>rfl)|refine qK ?_|exact qE|apply qh|exact qy rfl|(apply jQ;exact .inr (of_decide_eq_true rfl))|(apply qY;exact .inr (of_decide_eq_true rfl))|(apply qD;exact .inr (of_decide_eq_true rfl))|refine jZ ?_|exact yg))))|(apply Q2;apply wb;rfl;rfl;rfl;rfl;rfl;rfl;rfl;rfl;rfl;rfl;rfl;exact hl;exact nofun;exact nle rfl))|((first|(apply qb;rfl;rfl;exact nle rfl)|(apply qa;rfl;rfl;exact nle rfl)|refine xsC ?_ ?_);all_goals (intro hc;have hp:=hc;try simp at hp;try (exfalso;omega)))|refine jj ?_ ?_)
 all_goals ((apply qv (rs:=[.tmp 4,.tmp 5]) [(2,2)] 3;(case hr=>(repeat (first|exact qm|(apply qn;rfl)|(apply qk;rfl;rfl;rfl;rfl;rfl))));(case hL=>rfl);(case hh=>(repeat' (first|exact qg|refine xX ?_|refine Qp ?_ ?_|refine Q4 ?_ ?_|refine Zx ?_|exact qE|apply qh|exact qy rfl|(apply qD;(first|exact jK rfl|exact .inr (List.mem_cons_self ..)|exact .inr (List.mem_cons_of_mem _ (List.mem_cons_self ..))|exact .inr (List.mem_cons_of_mem _ (List.mem_cons_of_mem _ (List.mem_cons_self ..)))|exact .inr (List.mem_cons_of_mem _ (List.mem_cons_of_mem _ (List.mem_cons_of_mem _ (List.mem_cons_self ..))))))|refine zq ?_|refine kT ?_ rfl));all_goals rfl);(case hi=>exact rfl);(case hz=>first|rfl|(simp [jw,AV.ren,AV.ren.renL,qV,qi,qI];done))))
set_option maxHeartbeats 1000000 in
theorem Y8 (s:qp) (g f:Bool) (h0:s ≠ []) (hl:s.length ≤ 140737488355328):qu C1.P 52 [.op 0 0 0,.v (str s)] [tyW (Vc g f)] (.tup [.v (.int .i64 (s.length:Int)),.v .nilIface]) [tyW (wrB 0 1 s g f),qw s]:=by
 have hc:=Vg g f
 refine qe (C:=C1) Tryd.func52 rfl _ Tryd.ntmps52 (Nat.le_of_ble_eq_true rfl) _ Tryd.results52 1 rfl rfl ?_
 repeat' (first|refine ql ?_|(first|(apply qc Tryd.func66 rfl rfl;intro hIsFn;refine yJ [0] [] [(0,tyW (wr1 0 g f))] 1 (.tup []) hIsFn (hc) ?hz ?hg ?hb ?_;(case hz=>(repeat' (first|exact ja|apply qP|exact qZ rfl|exact jB|(apply qo;apply qD;exact .inr (of_decide_eq_true rfl))|(apply qo;apply jQ;exact .inr (of_decide_eq_true rfl))|(apply qo;apply qY;exact .inr (of_decide_eq_true rfl))|apply jp|apply jq)));(case hg=>(repeat' (first|exact jW|exact jI|refine jh _ ?_ ?_|refine qB ?_ ?_|exact jN|exact j9 (sideM_pure _)|exact j9 (z6 _)|exact j9 (goesM_pure _)|exact vB (fun _=>rfl)|refine qK ?_|exact qE|apply qh|exact qy rfl|(apply jQ;exact .inr (of_decide_eq_true rfl))|(apply qY;exact .inr (of_decide_eq_true rfl))|(apply qD;exact .inr (of_decide_eq_true rfl))|refine jZ ?_|exact yg)));(case hb=>(repeat' (first|exact jW|exact jI|refine jh _ ?_ ?_|refine qB ?_ ?_|exact jN|exact j9 (sideM_pure _)|exact j9 (z6 _)|exact j9 (goesM_pure _)|exact vB (fun _=>rfl)|refine qK ?_|exact qE|apply qh|exact qy rfl|(apply jQ;exact .inr (of_decide_eq_true rfl))|(apply qY;exact .inr (of_decide_eq_true rfl))|(apply qD;exact .inr (of_decide_eq_true rfl))|refine jZ ?_|exact yg))))|(apply yu;apply kx;rfl;rfl;exact h0;rfl;rfl;rfl;rfl;rfl;rfl;rfl;rfl;exact hl;exact nle rfl))|((first|(apply qb;rfl;rfl;exact nle rfl)|(apply qa;rfl;rfl;exact nle rfl)|refine xsC ?_ ?_);all_goals (intro hc;have hp:=hc;try simp at hp;try (exfalso;omega)))|refine jj ?_ ?_)
 all_goals ((apply qv (rs:=[.tmp 4,.tmp 5]) [(1,1)] 2;(case hr=>(repeat (first|exact qm|(apply qn;rfl)|(apply qk;rfl;rfl;rfl;rfl;rfl))));(case hL=>rfl);(case hh=>(repeat' (first|exact qg|refine xX ?_|refine Qp ?_ ?_|refine Q4 ?_ ?_|refine Zx ?_|exact qE|apply qh|exact qy rfl|(apply qD;(first|exact jK rfl|exact .inr (List.mem_cons_self ..)|exact .inr (List.mem_cons_of_mem _ (List.mem_cons_self ..))|exact .inr (List.mem_cons_of_mem _ (List.mem_cons_of_mem _ (List.mem_cons_self ..)))|exact .inr (List.mem_cons_of_mem _ (List.mem_cons_of_mem _ (List.mem_cons_of_mem _ (List.mem_cons_self ..))))))|refine zq ?_|refine kT ?_ rfl));all_goals rfl);(case hi=>exact rfl);(case hz=>first|rfl|(simp [jw,AV.ren,AV.ren.renL,qV,qi,qI];done))))
set_option maxHeartbeats 1000000 in
theorem Y4 (s:qp) (g f:Bool) (h0:s ≠ []) (hl:s.length ≤ 140737488355328):qu C2.P 56 [.op 0 0 0] [tyW (wrB 0 1 s g f),qw s] (.v (str s)) [tyW (wrB 0 1 s g f),.dead]:=by
 have hp:0 < s.length:=by cases s with|nil=>exact absurd rfl h0|cons _ _=>simp
 refine qe (C:=C2) Tryd.func56 rfl _ Tryd.ntmps56 (Nat.le_of_ble_eq_true rfl) _ Tryd.results56 2 rfl rfl ?_
 repeat' (first|refine ql ?_|(first|(apply qx;apply V2;rfl;rfl;exact hp;exact nle rfl)|(apply XH;apply Vq;rfl;rfl;rfl;exact h0;rfl;rfl;kernel_rfl;omega;exact nle rfl))|((first|(apply qb;rfl;rfl;exact nle rfl)|(apply qa;rfl;rfl;exact nle rfl)|refine xsC ?_ ?_);all_goals (intro hc;have hp:=hc;try simp at hp;try (exfalso;omega)))|refine jj ?_ ?_)
 all_goals ((apply qv (rs:=[.tmp 2]) [] 2;(case hr=>(repeat (first|exact qm|(apply qn;rfl)|(apply qk;rfl;rfl;rfl;rfl;rfl))));(case hL=>rfl);(case hh=>(repeat' (first|exact qg|refine xX ?_|refine Qp ?_ ?_|refine Q4 ?_ ?_|refine Zx ?_|exact qE|apply qh|exact qy rfl|(apply qD;(first|exact jK rfl|exact .inr (List.mem_cons_self ..)|exact .inr (List.mem_cons_of_mem _ (List.mem_cons_self ..))|exact .inr (List.mem_cons_of_mem _ (List.mem_cons_of_mem _ (List.mem_cons_self ..)))|exact .inr (List.mem_cons_of_mem _ (List.mem_cons_of_mem _ (List.mem_cons_of_mem _ (List.mem_cons_self ..))))))|refine zq ?_|refine kT ?_ rfl));all_goals rfl);(case hi=>exact rfl);(case hz=>first|rfl|(simp [jw,AV.ren,AV.ren.renL,qV,qi,qI];done))))
end Go.Proofs.YtahbbnfmbohmmaaDoor
set_option linter.unusedSimpArgs false
set_option linter.unnecessarySimpa false
set_option linter.unusedVariables false
namespace Go.Proofs.YtahbbnfmbohmmaaDoor
open Go.Ab Go.RowKit
section steps
variable {C' : Cx} {N:Nat} {all:Array Oper} {es:List Eff} {o:Oper} {os:List Oper} {K:List Eff → St → Prop} {ts:List (Nat × AV)} {hs:List (Nat × HB)} {nx:Nat} {gd:List Nat}
theorem zo (q m nx:Nat) (h:(decide (q < nx) && decide (m < nx) && decide (q ≠ m)) = true):q < nx ∧ m < nx ∧ q ≠ m:=by
 simp only [Bool.and_eq_true,decide_eq_true_eq] at h
 exact ⟨h.1.1,h.1.2,h.2⟩
theorem zl {q m:Nat} {l:qp} {g f:Bool} (hq:qj hs q = tyW (wrB q m l g f)) (hm:qj hs m = qw l):xZ (jl 0 [q,m]) (qj hs) [q,m] [tyW (wrB 0 1 l g f),qw l] :=
 jh (tyW (wrB q m l g f)) (jh (qw l) jW yg hm rfl) (jZ (qh (qD (.inr (List.mem_cons_self ..))) (qh (qY (.inr (List.mem_cons_of_mem _ (List.mem_cons_self ..)))) (qh (qy rfl) (qh (qy rfl) qE))))) hq rfl
theorem JX {q m n:Nat} {l:qp} {g f:Bool}:vH (yU (jl 0 [q,m,n])) [(q,tyW (wrB q n l g f)),(m,.dead),(n,qw l)] [tyW (wrB 0 2 l g f),.dead,qw l] :=
 qB (jZ (qh (qD (.inr (List.mem_cons_self ..))) (qh (qY (.inr (List.mem_cons_of_mem _ (List.mem_cons_of_mem _ (List.mem_cons_self ..))))) (qh (qy rfl) (qh (qy rfl) qE))))) (qB jN (qB yg jI))
theorem XA {q m n:Nat} (h:q < n ∧ m < n ∧ q ≠ m) : [q,m,n].Nodup:=by
 obtain ⟨h1,h2,h3⟩:=h
 simp only [List.nodup_cons,List.mem_cons,List.not_mem_nil,or_false,not_or,not_false_eq_true,List.nodup_nil,and_true]
 exact ⟨⟨h3,by omega⟩,by omega⟩
theorem j5 {f:FuncId} {args:List Operand} {tys:Array TypeId} {d:Nat} {ty:TypeId} {pos:String} {af:Array Edge} {gg:Option (Nat × Bool)} {ys:List AV} {r:AV} {l l' : qp} {g g' f0 f1:Bool} (q m:Nat) (hf:IsFn C'.P f)
  (hc:qu C'.P f ys [tyW (wrB 0 1 l g f0),qw l] r [tyW (wrB 0 2 l' g' f1),.dead,qw l'])
  (k:jV C' N all (⟨gd ++ (qW (.func f) ++ args.flatMap qW),[q,m],some d,r,[(q,tyW (wrB q nx l' g' f1)),(m,.dead),(nx,qw l')],[nx]⟩ :: es) ⟨(d,r) :: ts,(q,tyW (wrB q nx l' g' f1)) :: (m,.dead) :: (nx,qw l') :: hs,nx + 1⟩ os K)
  (hq:qj hs q = tyW (wrB q m l g f0):=by rfl) (hm:qj hs m = qw l:=by rfl)
  (hz:qM (jl 0 [q,m]) [q,m] (qj hs) (args.map (evA (qi ts))) ys:=by ((repeat' (first|exact ja|apply qP|exact qZ rfl|exact jB|(apply qo;apply qD;exact .inr (of_decide_eq_true rfl))|(apply qo;apply jQ;exact .inr (of_decide_eq_true rfl))|(apply qo;apply qY;exact .inr (of_decide_eq_true rfl))|apply jp|apply jq))<;>fail))
  (hlt:(decide (q < nx) && decide (m < nx) && decide (q ≠ m)) = true:=by rfl) (hr:r.ren (yU (jl 0 [q,m,nx])) = r:=by rfl) (hN:d < N:=by exact nle rfl):xz C' N all gd es ⟨ts,hs,nx⟩ f args d tys ty pos af gg os K:=by
 have hl:=zo q m nx hlt
 refine yJ [q,m] [nx] [(q,tyW (wrB q nx l' g' f1)),(m,.dead),(nx,qw l')] (nx + 1) r hf hc hz (zl hq hm) JX k hr rfl rfl (Nat.le_of_ble_eq_true rfl) (XA hl) ?_ ?_ (by omega) hN
 ·simp [yA]
 ·intro n hn;simp at hn;omega
theorem Zt {f:FuncId} {args:List Operand} {tys:Array TypeId} {d:Nat} {ty:TypeId} {pos:String} {af:Array Edge} {gg:Option (Nat × Bool)} {ys:List AV} {r:AV} {l:qp} {g f0:Bool} (q m:Nat) (hf:IsFn C'.P f)
  (hc:qu C'.P f ys [tyW (wrB 0 1 l g f0),qw l] r [tyW (wrB 0 1 l g f0),.dead])
  (k:jV C' N all (⟨gd ++ (qW (.func f) ++ args.flatMap qW),[q,m],some d,r,[(q,tyW (wrB q m l g f0)),(m,.dead)],[]⟩ :: es) ⟨(d,r) :: ts,(q,tyW (wrB q m l g f0)) :: (m,.dead) :: hs,nx⟩ os K)
  (hq:qj hs q = tyW (wrB q m l g f0):=by rfl) (hm:qj hs m = qw l:=by rfl)
  (hz:qM (jl 0 [q,m]) [q,m] (qj hs) (args.map (evA (qi ts))) ys:=by ((repeat' (first|exact ja|apply qP|exact qZ rfl|exact jB|(apply qo;apply qD;exact .inr (of_decide_eq_true rfl))|(apply qo;apply jQ;exact .inr (of_decide_eq_true rfl))|(apply qo;apply qY;exact .inr (of_decide_eq_true rfl))|apply jp|apply jq))<;>fail))
  (hlt:(decide (q < nx) && decide (m < nx) && decide (q ≠ m)) = true:=by rfl) (hr:r.ren (yU (jl 0 [q,m])) = r:=by rfl) (hN:d < N:=by exact nle rfl):xz C' N all gd es ⟨ts,hs,nx⟩ f args d tys ty pos af gg os K:=by
 have hl:=zo q m nx hlt
 refine yJ [q,m] [] [(q,tyW (wrB q m l g f0)),(m,.dead)] nx r hf hc hz (zl hq hm) (qB (jZ (qh (qD (.inr (List.mem_cons_self ..))) (qh (qY (.inr (List.mem_cons_of_mem _ (List.mem_cons_self ..)))) (qh (qy rfl) (qh (qy rfl) qE))))) (qB jN jI)) k hr rfl rfl (Nat.le_of_ble_eq_true rfl) ?_ rfl (fun n hn=>by cases hn) (Nat.le_refl _) hN
 have:=hl.2.2
 simp [this]
theorem XF {f:FuncId} {args:List Operand} {tys:Array TypeId} {d:Nat} {ty:TypeId} {pos:String} {af:Array Edge} {gg:Option (Nat × Bool)} {ys:List AV} {r:AV} {l:qp} {g g' f0 f1:Bool} (q m:Nat) (hf:IsFn C'.P f)
  (hc:qu C'.P f ys [tyW (wrB 0 1 l g f0),qw l] r [tyW (wrB 0 1 l g' f1),qw l])
  (k:jV C' N all (⟨gd ++ (qW (.func f) ++ args.flatMap qW),[q,m],some d,r,[(q,tyW (wrB q m l g' f1)),(m,qw l)],[]⟩ :: es) ⟨(d,r) :: ts,(q,tyW (wrB q m l g' f1)) :: (m,qw l) :: hs,nx⟩ os K)
  (hq:qj hs q = tyW (wrB q m l g f0):=by rfl) (hm:qj hs m = qw l:=by rfl)
  (hz:qM (jl 0 [q,m]) [q,m] (qj hs) (args.map (evA (qi ts))) ys:=by ((repeat' (first|exact ja|apply qP|exact qZ rfl|exact jB|(apply qo;apply qD;exact .inr (of_decide_eq_true rfl))|(apply qo;apply jQ;exact .inr (of_decide_eq_true rfl))|(apply qo;apply qY;exact .inr (of_decide_eq_true rfl))|apply jp|apply jq))<;>fail))
  (hlt:(decide (q < nx) && decide (m < nx) && decide (q ≠ m)) = true:=by rfl) (hr:r.ren (yU (jl 0 [q,m])) = r:=by rfl) (hN:d < N:=by exact nle rfl):xz C' N all gd es ⟨ts,hs,nx⟩ f args d tys ty pos af gg os K:=by
 have hl:=zo q m nx hlt
 refine yJ [q,m] [] [(q,tyW (wrB q m l g' f1)),(m,qw l)] nx r hf hc hz (zl hq hm) (qB (jZ (qh (qD (.inr (List.mem_cons_self ..))) (qh (qY (.inr (List.mem_cons_of_mem _ (List.mem_cons_self ..)))) (qh (qy rfl) (qh (qy rfl) qE))))) (qB yg jI)) k hr rfl rfl (Nat.le_of_ble_eq_true rfl) ?_ rfl (fun n hn=>by cases hn) (Nat.le_refl _) hN
 have:=hl.2.2
 simp [this]
theorem Q0 {f:FuncId} {args:List Operand} {tys:Array TypeId} {d:Nat} {ty:TypeId} {pos:String} {af:Array Edge} {gg:Option (Nat × Bool)} {ys:List AV} {r:AV} {l:qp} {g f0:Bool} (q m:Nat) (hf:IsFn C'.P f)
  (hc:qu C'.P f ys [tyW (wrB 0 1 l g f0),qw l] r [.dead,.dead])
  (k:jV C' N all (⟨gd ++ (qW (.func f) ++ args.flatMap qW),[q,m],some d,r,[(q,.dead),(m,.dead)],[]⟩ :: es) ⟨(d,r) :: ts,(q,.dead) :: (m,.dead) :: hs,nx⟩ os K)
  (hq:qj hs q = tyW (wrB q m l g f0):=by rfl) (hm:qj hs m = qw l:=by rfl)
  (hz:qM (jl 0 [q,m]) [q,m] (qj hs) (args.map (evA (qi ts))) ys:=by ((repeat' (first|exact ja|apply qP|exact qZ rfl|exact jB|(apply qo;apply qD;exact .inr (of_decide_eq_true rfl))|(apply qo;apply jQ;exact .inr (of_decide_eq_true rfl))|(apply qo;apply qY;exact .inr (of_decide_eq_true rfl))|apply jp|apply jq))<;>fail))
  (hlt:(decide (q < nx) && decide (m < nx) && decide (q ≠ m)) = true:=by rfl) (hr:r.ren (yU (jl 0 [q,m])) = r:=by rfl) (hN:d < N:=by exact nle rfl):xz C' N all gd es ⟨ts,hs,nx⟩ f args d tys ty pos af gg os K:=by
 have hl:=zo q m nx hlt
 refine yJ [q,m] [] [(q,.dead),(m,.dead)] nx r hf hc hz (zl hq hm) (qB jN (qB jN jI)) k hr rfl rfl (Nat.le_of_ble_eq_true rfl) ?_ rfl (fun n hn=>by cases hn) (Nat.le_refl _) hN
 have:=hl.2.2
 simp [this]
theorem wv {f:FuncId} {args:List Operand} {tys:Array TypeId} {d:Nat} {ty:TypeId} {pos:String} {af:Array Edge} {gg:Option (Nat × Bool)} {ys:List AV} {r:AV} {l' : qp} {g g' f0 f1:Bool} (q:Nat) (hf:IsFn C'.P f)
  (hc:qu C'.P f ys [tyW (Vc g f0)] r [tyW (wrB 0 1 l' g' f1),qw l'])
  (k:jV C' N all (⟨gd ++ (qW (.func f) ++ args.flatMap qW),[q],some d,r,[(q,tyW (wrB q nx l' g' f1)),(nx,qw l')],[nx]⟩ :: es) ⟨(d,r) :: ts,(q,tyW (wrB q nx l' g' f1)) :: (nx,qw l') :: hs,nx + 1⟩ os K)
  (hq:qj hs q = tyW (Vc g f0):=by rfl)
  (hz:qM (jl 0 [q]) [q] (qj hs) (args.map (evA (qi ts))) ys:=by ((repeat' (first|exact ja|apply qP|exact qZ rfl|exact jB|(apply qo;apply qD;exact .inr (of_decide_eq_true rfl))|(apply qo;apply jQ;exact .inr (of_decide_eq_true rfl))|(apply qo;apply qY;exact .inr (of_decide_eq_true rfl))|apply jp|apply jq))<;>fail))
  (hlt:decide (q < nx) = true:=by rfl) (hr:r.ren (yU (jl 0 [q,nx])) = r:=by rfl) (hN:d < N:=by exact nle rfl):xz C' N all gd es ⟨ts,hs,nx⟩ f args d tys ty pos af gg os K:=by
 have hl:q < nx:=of_decide_eq_true hlt
 refine yJ [q] [nx] [(q,tyW (wrB q nx l' g' f1)),(nx,qw l')] (nx + 1) r hf hc hz (jh (tyW (Vc g f0)) jW (jZ (qU rfl)) hq rfl) (qB (jZ (qh (qD (.inr (List.mem_cons_self ..))) (qh (qY (.inr (List.mem_cons_of_mem _ (List.mem_cons_self ..)))) (qh (qy rfl) (qh (qy rfl) qE))))) (qB yg jI)) k hr rfl rfl (Nat.le_of_ble_eq_true rfl) ?_ ?_ ?_ (by omega) hN
 ·simp;omega
 ·simp [yA]
 ·intro n hn;simp at hn;omega
theorem Zu {f:FuncId} {fn:Func} {x:Operand} {first cap:List AV} {args:List Operand} {tys:Array TypeId} {d:Nat} {ty:TypeId} {pos:String} {af:Array Edge} {gg:Option (Nat × Bool)} {ys:List AV} {r:AV} {l l' : qp} {g g' f0 f1:Bool} (q m:Nat) (hf:C'.P.funcs[f]? = some fn)
  (hc:qu C'.P f ys [tyW (wrB 0 1 l g f0),qw l] r [tyW (wrB 0 2 l' g' f1),.dead,qw l'])
  (k:jV C' N all (⟨gd ++ (qW x ++ args.flatMap qW),[q,m],some d,r,[(q,tyW (wrB q nx l' g' f1)),(m,.dead),(nx,qw l')],[nx]⟩ :: es) ⟨(d,r) :: ts,(q,tyW (wrB q nx l' g' f1)) :: (m,.dead) :: (nx,qw l') :: hs,nx + 1⟩ os K)
  (hx:evA (qi ts) x = .clo (.func f) first cap:=by rfl) (hb0:fn.body.isNone = false:=by rfl) (hn0:(fn.name == "runtime.NumGoroutine") = false:=by rfl)
  (hq:qj hs q = tyW (wrB q m l g f0):=by rfl) (hm:qj hs m = qw l:=by rfl)
  (hz:qM (jl 0 [q,m]) [q,m] (qj hs) (first ++ args.map (evA (qi ts)) ++ cap) ys:=by ((repeat' (first|exact ja|apply qP|exact qZ rfl|exact jB|(apply qo;apply qD;exact .inr (of_decide_eq_true rfl))|(apply qo;apply jQ;exact .inr (of_decide_eq_true rfl))|(apply qo;apply qY;exact .inr (of_decide_eq_true rfl))|apply jp|apply jq))<;>fail))
  (hlt:(decide (q < nx) && decide (m < nx) && decide (q ≠ m)) = true:=by rfl) (hr:r.ren (yU (jl 0 [q,m,nx])) = r:=by rfl) (hN:d < N:=by exact nle rfl):jt C' N all gd es ⟨ts,hs,nx⟩ ⟨some d,.call ⟨.value x,args.toArray,tys⟩,ty,pos,af,gg⟩ os K:=by
 have hl:=zo q m nx hlt
 refine zp [q,m] [nx] [(q,tyW (wrB q nx l' g' f1)),(m,.dead),(nx,qw l')] (nx + 1) r hf hc hz (zl hq hm) JX k hx hb0 hn0 hr rfl rfl (Nat.le_of_ble_eq_true rfl) (XA hl) ?_ ?_ (by omega) hN
 ·simp [yA]
 ·intro n hn;simp at hn;omega
end steps
theorem qd {L:List (Nat × Nat)} {nh n n' : Nat} (h:((decide (n < nh) && decide (n = n')) || L.contains (n,n')) = true):Maps L nh n n':=by
 simp only [Bool.or_eq_true,Bool.and_eq_true,decide_eq_true_eq,List.contains_iff_mem] at h
 rcases h with ⟨h,rfl⟩|h
 ·exact .inl ⟨h,rfl⟩
 ·exact .inr h
theorem j4 {L:List (Nat × Nat)} {nh:Nat} {σ:St} {q q' m m' : Nat} {l l' : qp} {g g' f f' : Bool} {rest:List (Nat × HB)} (hq:qj σ.hs q = tyW (wrB q m l g f)) (hm:qj σ.hs m = qw l) (h1:Maps L nh q q') (h2:Maps L nh m m') (hl:l = l') (hg:g = g') (hf:f = f') (hr:jS L nh σ rest):jS L nh σ ((q',tyW (wrB q' m' l' g' f')) :: (m',qw l') :: rest):=by
 subst hl hg hf
 exact Qp (Q4 hr rfl h2 hm) (qh (qD h1) (qh (qY h2) (qh (qy rfl) (qh (qy rfl) qE)))) h1 hq
theorem xR {L:List (Nat × Nat)} {nh:Nat} {σ:St} {q q' m m' d' : Nat} {l l' : qp} {g g' f f' : Bool} {rest:List (Nat × HB)} (hq:qj σ.hs q = tyW (wrB q m l g f)) (hm:qj σ.hs m = qw l) (h1:Maps L nh q q') (h2:Maps L nh m m') (hd:Maps L nh d' d') (hl:l = l') (hg:g = g') (hf:f = f') (hr:jS L nh σ rest):jS L nh σ ((q',tyW (wrB q' m' l' g' f')) :: (d',.dead) :: (m',qw l') :: rest):=by
 subst hl hg hf
 exact Qp (xX (Q4 hr rfl h2 hm) hd) (qh (qD h1) (qh (qY h2) (qh (qy rfl) (qh (qy rfl) qE)))) h1 hq
theorem Vu {L:List (Nat × Nat)} {nh:Nat} {σ:St} {q q' : Nat} {g f:Bool} {rest:List (Nat × HB)} (hq:qj σ.hs q = tyW (Vc g f)) (h1:Maps L nh q q') (hr:jS L nh σ rest):jS L nh σ ((q',tyW (Vc g f)) :: rest):=Qp hr (qU rfl) h1 hq
end Go.Proofs.YtahbbnfmbohmmaaDoor
