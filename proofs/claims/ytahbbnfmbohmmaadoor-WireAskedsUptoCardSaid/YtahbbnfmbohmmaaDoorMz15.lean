import Derived.Test.YtahbbnfmbohmmaaDoorMz8
import Derived.Test.YtahbbnfmbohmmaaDoorMz9
import Derived.Test.YtahbbnfmbohmmaaDoorMz13
import Derived.Test.YtahbbnfmbohmmaaDoorMz3
set_option linter.unusedSimpArgs false
set_option linter.unnecessarySimpa false
set_option linter.unusedVariables false
set_option maxHeartbeats 1000000
namespace Go.Proofs.YtahbbnfmbohmmaaDoor
open Go.Ab Go.RowKit
set_option maxRecDepth 10000
attribute [local irreducible] Awp jE qX qG Red qx Go.Ab.Fin qp Rz yI qE qB ResOk je qJ jx qy
@[reducible] def wrB (q nb:Nat) (s:qh) (g f:Bool):List AV:=[.op q 0 0,.os nb 0 s.length,.v (.bool g),.v (.bool f)]
@[reducible] def Zt (g f:Bool):List AV:=[.v (.pointer none),.sl true [],.v (.bool g),.v (.bool f)]
@[reducible] def wr1 (q:Nat) (g f:Bool):List AV:=[.op q 0 0,.sl true [],.v (.bool g),.v (.bool f)]
@[reducible] def tyW (row:List AV):HB := .mp (.typ 53 4 [row])
@[reducible] def qW (s:qh):HB := .mp (.typ 5 1 (s.map jy))
theorem Zy (s:qh) (g f:Bool):qp C2.P 66 [.op 0 0 0] [tyW (wrB 0 1 s g f),qW s] (.tup []) [tyW (wrB 0 1 s g f),qW s]:=by
 refine qe (C:=C2) Tryd.func66 rfl _ Tryd.ntmps66 (Nat.le_of_ble_eq_true rfl) _ Tryd.results66 2 rfl rfl ?_
 repeat' (first|refine qm ?_|(first|(apply qo;apply Xd;(first|exact .inl ⟨rfl,rfl⟩|exact .inr ⟨⟨_,_,_,rfl⟩,rfl⟩);rfl;rfl;(first|exact .inl rfl|exact .inr rfl);exact nle rfl)|(apply qo;apply JI;rfl;rfl;rfl;rfl;rfl;(exact of_decide_eq_true rfl);(first|exact .inl rfl|exact .inr rfl);exact nle rfl))|((first|(apply qb;rfl;rfl;exact nle rfl)|(apply qa;rfl;rfl;exact nle rfl)|refine xsC ?_ ?_);all_goals (intro hc;have hp:=hc;try simp at hp;try (exfalso;omega)))|refine jl ?_ ?_)
 all_goals ((apply qu (rs:=[]) [] 2;(case hr=>(repeat (first|exact qk|(apply ql;rfl)|(apply qi;rfl;rfl;rfl;rfl;rfl))));(case hL=>rfl);(case hh=>(repeat' (first|exact qg|refine vR ?_|refine JX ?_ ?_|refine YD ?_ ?_|refine Wg ?_|exact jj|apply qq|exact qF rfl|(apply jg;(first|exact jI rfl|exact .inr (List.mem_cons_self ..)|exact .inr (List.mem_cons_of_mem _ (List.mem_cons_self ..))|exact .inr (List.mem_cons_of_mem _ (List.mem_cons_of_mem _ (List.mem_cons_self ..)))|exact .inr (List.mem_cons_of_mem _ (List.mem_cons_of_mem _ (List.mem_cons_of_mem _ (List.mem_cons_self ..))))))|refine ka ?_|refine Qd ?_ rfl));all_goals rfl);(case hi=>exact rfl);(case hz=>first|rfl|(simp [jt,AV.ren,AV.ren.renL,qQ,qj,qK];done))))
theorem KD (cap:Nat) (h:1 ≤ cap):liesAt C.P C.P.depth 53 (cap * 4 / C.P.cellsOf 53) 0 51 1 = true:=by
 obtain ⟨c,rfl⟩ : ∃ c,cap = c + 1:=⟨cap - 1,by omega⟩
 have h4:C.P.cellsOf 53 = 4:=by kernel_rfl
 rw [h4,Nat.mul_div_cancel _ (by decide)]
 show liesAt C.P C.P.depth 53 (c + 1) 0 51 1 = true
 have key : ∀ c:Nat,liesAt C.P C.P.depth 53 (c + 1) 0 51 1 = true:=by
  intro c
  kernel_rfl
 exact key c
theorem Zx (g f:Bool):qp C1.P 66 [.op 0 0 0] [tyW (Zt g f)] (.tup []) [tyW (wr1 0 g f)]:=by
 refine qe (C:=C1) Tryd.func66 rfl _ Tryd.ntmps66 (Nat.le_of_ble_eq_true rfl) _ Tryd.results66 1 rfl rfl ?_
 repeat' (first|refine qm ?_|(first|(apply qo;apply Xd;(first|exact .inl ⟨rfl,rfl⟩|exact .inr ⟨⟨_,_,_,rfl⟩,rfl⟩);rfl;rfl;(first|exact .inl rfl|exact .inr rfl);exact nle rfl)|(apply qo;apply JI;rfl;rfl;rfl;rfl;rfl;(exact of_decide_eq_true rfl);(first|exact .inl rfl|exact .inr rfl);exact nle rfl)|(apply qo;apply ZG;rfl;exact Tryd.func71;rfl;rfl;rfl;rfl;exact nle rfl)|(apply qo;apply Yq;rfl;rfl;exact nle rfl;rfl;rfl;rfl;(exact of_decide_eq_true rfl);exact Tryd.underlying112;exact nle rfl)|(apply qo;apply Q3;rfl;rfl;rfl;rfl;rfl;exact Tryd.underlying112;exact KD;exact nle rfl))|((first|(apply qb;rfl;rfl;exact nle rfl)|(apply qa;rfl;rfl;exact nle rfl)|refine xsC ?_ ?_);all_goals (intro hc;have hp:=hc;try simp at hp;try (exfalso;omega)))|refine jl ?_ ?_)
 all_goals ((apply qu (rs:=[]) [] 1;(case hr=>(repeat (first|exact qk|(apply ql;rfl)|(apply qi;rfl;rfl;rfl;rfl;rfl))));(case hL=>rfl);(case hh=>(repeat' (first|exact qg|refine vR ?_|refine JX ?_ ?_|refine YD ?_ ?_|refine Wg ?_|exact jj|apply qq|exact qF rfl|(apply jg;(first|exact jI rfl|exact .inr (List.mem_cons_self ..)|exact .inr (List.mem_cons_of_mem _ (List.mem_cons_self ..))|exact .inr (List.mem_cons_of_mem _ (List.mem_cons_of_mem _ (List.mem_cons_self ..)))|exact .inr (List.mem_cons_of_mem _ (List.mem_cons_of_mem _ (List.mem_cons_of_mem _ (List.mem_cons_self ..))))))|refine ka ?_|refine Qd ?_ rfl));all_goals rfl);(case hi=>exact rfl);(case hz=>first|rfl|(simp [jt,AV.ren,AV.ren.renL,qQ,qj,qK];done))))
set_option maxHeartbeats 1000000 in
theorem vF (l s:qh) (g f:Bool) (hl:l.length + s.length ≤ 140737488355328):qp C2.P 52 [.op 0 0 0,.v (str s)] [tyW (wrB 0 1 l g f),qW l] (.tup [.v (.int .i64 (s.length:Int)),.v .nilIface]) [tyW (wrB 0 2 (l ++ s) g f),.dead,qW (l ++ s)]:=by
 have hc:=Zy l g f
 refine qe (C:=C2) Tryd.func52 rfl _ Tryd.ntmps52 (Nat.le_of_ble_eq_true rfl) _ Tryd.results52 2 rfl rfl ?_
 repeat' (first|refine qm ?_|(first|(apply qc Tryd.func66 rfl rfl;intro hIsFn;refine xo [0,1] [] [(0,tyW (wrB 0 1 l g f)),(1,qW l)] 2 (.tup []) hIsFn (hc) ?hz ?hg ?hb ?_;(case hz=>(repeat' (first|exact jq|apply jf|exact jp rfl|exact jQ|(apply qv;apply jg;exact .inr (of_decide_eq_true rfl))|(apply qv;apply jX;exact .inr (of_decide_eq_true rfl))|(apply qv;apply jr;exact .inr (of_decide_eq_true rfl))|apply jC|apply jD)));(case hg=>(repeat' (first|exact j1|exact jS|refine js _ ?_ ?_|refine qZ ?_ ?_|exact jP|exact j3 (sideM_pure _)|exact j3 (kV _)|exact j3 (goesM_pure _)|exact zi (fun _=>rfl)|refine ja ?_|exact jj|apply qq|exact qF rfl|(apply jX;exact .inr (of_decide_eq_true rfl))|(apply jr;exact .inr (of_decide_eq_true rfl))|(apply jg;exact .inr (of_decide_eq_true rfl))|refine yq ?_|exact y0)));(case hb=>(repeat' (first|exact j1|exact jS|refine js _ ?_ ?_|refine qZ ?_ ?_|exact jP|exact j3 (sideM_pure _)|exact j3 (kV _)|exact j3 (goesM_pure _)|exact zi (fun _=>rfl)|refine ja ?_|exact jj|apply qq|exact qF rfl|(apply jX;exact .inr (of_decide_eq_true rfl))|(apply jr;exact .inr (of_decide_eq_true rfl))|(apply jg;exact .inr (of_decide_eq_true rfl))|refine yq ?_|exact y0))))|(apply JU;apply Qq;rfl;rfl;rfl;rfl;rfl;rfl;rfl;rfl;rfl;rfl;rfl;exact hl;exact nofun;exact nle rfl))|((first|(apply qb;rfl;rfl;exact nle rfl)|(apply qa;rfl;rfl;exact nle rfl)|refine xsC ?_ ?_);all_goals (intro hc;have hp:=hc;try simp at hp;try (exfalso;omega)))|refine jl ?_ ?_)
 all_goals ((apply qu (rs:=[.tmp 4,.tmp 5]) [(2,2)] 3;(case hr=>(repeat (first|exact qk|(apply ql;rfl)|(apply qi;rfl;rfl;rfl;rfl;rfl))));(case hL=>rfl);(case hh=>(repeat' (first|exact qg|refine vR ?_|refine JX ?_ ?_|refine YD ?_ ?_|refine Wg ?_|exact jj|apply qq|exact qF rfl|(apply jg;(first|exact jI rfl|exact .inr (List.mem_cons_self ..)|exact .inr (List.mem_cons_of_mem _ (List.mem_cons_self ..))|exact .inr (List.mem_cons_of_mem _ (List.mem_cons_of_mem _ (List.mem_cons_self ..)))|exact .inr (List.mem_cons_of_mem _ (List.mem_cons_of_mem _ (List.mem_cons_of_mem _ (List.mem_cons_self ..))))))|refine ka ?_|refine Qd ?_ rfl));all_goals rfl);(case hi=>exact rfl);(case hz=>first|rfl|(simp [jt,AV.ren,AV.ren.renL,qQ,qj,qK];done))))
set_option maxHeartbeats 1000000 in
theorem Vn (s:qh) (g f:Bool) (h0:s ≠ []) (hl:s.length ≤ 140737488355328):qp C1.P 52 [.op 0 0 0,.v (str s)] [tyW (Zt g f)] (.tup [.v (.int .i64 (s.length:Int)),.v .nilIface]) [tyW (wrB 0 1 s g f),qW s]:=by
 have hc:=Zx g f
 refine qe (C:=C1) Tryd.func52 rfl _ Tryd.ntmps52 (Nat.le_of_ble_eq_true rfl) _ Tryd.results52 1 rfl rfl ?_
 repeat' (first|refine qm ?_|(first|(apply qc Tryd.func66 rfl rfl;intro hIsFn;refine xo [0] [] [(0,tyW (wr1 0 g f))] 1 (.tup []) hIsFn (hc) ?hz ?hg ?hb ?_;(case hz=>(repeat' (first|exact jq|apply jf|exact jp rfl|exact jQ|(apply qv;apply jg;exact .inr (of_decide_eq_true rfl))|(apply qv;apply jX;exact .inr (of_decide_eq_true rfl))|(apply qv;apply jr;exact .inr (of_decide_eq_true rfl))|apply jC|apply jD)));(case hg=>(repeat' (first|exact j1|exact jS|refine js _ ?_ ?_|refine qZ ?_ ?_|exact jP|exact j3 (sideM_pure _)|exact j3 (kV _)|exact j3 (goesM_pure _)|exact zi (fun _=>rfl)|refine ja ?_|exact jj|apply qq|exact qF rfl|(apply jX;exact .inr (of_decide_eq_true rfl))|(apply jr;exact .inr (of_decide_eq_true rfl))|(apply jg;exact .inr (of_decide_eq_true rfl))|refine yq ?_|exact y0)));(case hb=>(repeat' (first|exact j1|exact jS|refine js _ ?_ ?_|refine qZ ?_ ?_|exact jP|exact j3 (sideM_pure _)|exact j3 (kV _)|exact j3 (goesM_pure _)|exact zi (fun _=>rfl)|refine ja ?_|exact jj|apply qq|exact qF rfl|(apply jX;exact .inr (of_decide_eq_true rfl))|(apply jr;exact .inr (of_decide_eq_true rfl))|(apply jg;exact .inr (of_decide_eq_true rfl))|refine yq ?_|exact y0))))|(apply yX;apply wv;rfl;rfl;exact h0;rfl;rfl;rfl;rfl;rfl;rfl;rfl;rfl;exact hl;exact nle rfl))|((first|(apply qb;rfl;rfl;exact nle rfl)|(apply qa;rfl;rfl;exact nle rfl)|refine xsC ?_ ?_);all_goals (intro hc;have hp:=hc;try simp at hp;try (exfalso;omega)))|refine jl ?_ ?_)
 all_goals ((apply qu (rs:=[.tmp 4,.tmp 5]) [(1,1)] 2;(case hr=>(repeat (first|exact qk|(apply ql;rfl)|(apply qi;rfl;rfl;rfl;rfl;rfl))));(case hL=>rfl);(case hh=>(repeat' (first|exact qg|refine vR ?_|refine JX ?_ ?_|refine YD ?_ ?_|refine Wg ?_|exact jj|apply qq|exact qF rfl|(apply jg;(first|exact jI rfl|exact .inr (List.mem_cons_self ..)|exact .inr (List.mem_cons_of_mem _ (List.mem_cons_self ..))|exact .inr (List.mem_cons_of_mem _ (List.mem_cons_of_mem _ (List.mem_cons_self ..)))|exact .inr (List.mem_cons_of_mem _ (List.mem_cons_of_mem _ (List.mem_cons_of_mem _ (List.mem_cons_self ..))))))|refine ka ?_|refine Qd ?_ rfl));all_goals rfl);(case hi=>exact rfl);(case hz=>first|rfl|(simp [jt,AV.ren,AV.ren.renL,qQ,qj,qK];done))))
set_option maxHeartbeats 1000000 in
theorem Vl (s:qh) (g f:Bool) (h0:s ≠ []) (hl:s.length ≤ 140737488355328):qp C2.P 56 [.op 0 0 0] [tyW (wrB 0 1 s g f),qW s] (.v (str s)) [tyW (wrB 0 1 s g f),.dead]:=by
 have hp:0 < s.length:=by cases s with|nil=>exact absurd rfl h0|cons _ _=>simp
 refine qe (C:=C2) Tryd.func56 rfl _ Tryd.ntmps56 (Nat.le_of_ble_eq_true rfl) _ Tryd.results56 2 rfl rfl ?_
 repeat' (first|refine qm ?_|(first|(apply qo;apply Kx;rfl;rfl;exact hp;exact nle rfl)|(apply V3;apply ZH;rfl;rfl;rfl;exact h0;rfl;rfl;kernel_rfl;omega;exact nle rfl))|((first|(apply qb;rfl;rfl;exact nle rfl)|(apply qa;rfl;rfl;exact nle rfl)|refine xsC ?_ ?_);all_goals (intro hc;have hp:=hc;try simp at hp;try (exfalso;omega)))|refine jl ?_ ?_)
 all_goals ((apply qu (rs:=[.tmp 2]) [] 2;(case hr=>(repeat (first|exact qk|(apply ql;rfl)|(apply qi;rfl;rfl;rfl;rfl;rfl))));(case hL=>rfl);(case hh=>(repeat' (first|exact qg|refine vR ?_|refine JX ?_ ?_|refine YD ?_ ?_|refine Wg ?_|exact jj|apply qq|exact qF rfl|(apply jg;(first|exact jI rfl|exact .inr (List.mem_cons_self ..)|exact .inr (List.mem_cons_of_mem _ (List.mem_cons_self ..))|exact .inr (List.mem_cons_of_mem _ (List.mem_cons_of_mem _ (List.mem_cons_self ..)))|exact .inr (List.mem_cons_of_mem _ (List.mem_cons_of_mem _ (List.mem_cons_of_mem _ (List.mem_cons_self ..))))))|refine ka ?_|refine Qd ?_ rfl));all_goals rfl);(case hi=>exact rfl);(case hz=>first|rfl|(simp [jt,AV.ren,AV.ren.renL,qQ,qj,qK];done))))
end Go.Proofs.YtahbbnfmbohmmaaDoor
set_option linter.unusedSimpArgs false
set_option linter.unnecessarySimpa false
set_option linter.unusedVariables false
namespace Go.Proofs.YtahbbnfmbohmmaaDoor
open Go.Ab Go.RowKit
section steps
variable {C' : Cx} {N:Nat} {all:Array Oper} {es:List Eff} {o:Oper} {os:List Oper} {K:List Eff → St → Prop} {ts:List (Nat × AV)} {hs:List (Nat × HB)} {nx:Nat} {gd:List Nat}
theorem z7 (q m nx:Nat) (h:(decide (q < nx) && decide (m < nx) && decide (q ≠ m)) = true):q < nx ∧ m < nx ∧ q ≠ m:=by
 simp only [Bool.and_eq_true,decide_eq_true_eq] at h
 exact ⟨h.1.1,h.1.2,h.2⟩
theorem zV {q m:Nat} {l:qh} {g f:Bool} (hq:qn hs q = tyW (wrB q m l g f)) (hm:qn hs m = qW l):vD (jv 0 [q,m]) (qn hs) [q,m] [tyW (wrB 0 1 l g f),qW l] :=
 js (tyW (wrB q m l g f)) (js (qW l) j1 y0 hm rfl) (yq (qq (jg (.inr (List.mem_cons_self ..))) (qq (jr (.inr (List.mem_cons_of_mem _ (List.mem_cons_self ..)))) (qq (qF rfl) (qq (qF rfl) jj))))) hq rfl
theorem Y4 {q m n:Nat} {l:qh} {g f:Bool}:zJ (xJ (jv 0 [q,m,n])) [(q,tyW (wrB q n l g f)),(m,.dead),(n,qW l)] [tyW (wrB 0 2 l g f),.dead,qW l] :=
 qZ (yq (qq (jg (.inr (List.mem_cons_self ..))) (qq (jr (.inr (List.mem_cons_of_mem _ (List.mem_cons_of_mem _ (List.mem_cons_self ..))))) (qq (qF rfl) (qq (qF rfl) jj))))) (qZ jP (qZ y0 jS))
theorem VZ {q m n:Nat} (h:q < n ∧ m < n ∧ q ≠ m) : [q,m,n].Nodup:=by
 obtain ⟨h1,h2,h3⟩:=h
 simp only [List.nodup_cons,List.mem_cons,List.not_mem_nil,or_false,not_or,not_false_eq_true,List.nodup_nil,and_true]
 exact ⟨⟨h3,by omega⟩,by omega⟩
theorem vN {f:FuncId} {args:List Operand} {tys:Array TypeId} {d:Nat} {ty:TypeId} {pos:String} {af:Array Edge} {gg:Option (Nat × Bool)} {ys:List AV} {r:AV} {l l' : qh} {g g' f0 f1:Bool} (q m:Nat) (hf:IsFn C'.P f)
  (hc:qp C'.P f ys [tyW (wrB 0 1 l g f0),qW l] r [tyW (wrB 0 2 l' g' f1),.dead,qW l'])
  (k:jE C' N all (⟨gd ++ (qU (.func f) ++ args.flatMap qU),[q,m],some d,r,[(q,tyW (wrB q nx l' g' f1)),(m,.dead),(nx,qW l')],[nx]⟩ :: es) ⟨(d,r) :: ts,(q,tyW (wrB q nx l' g' f1)) :: (m,.dead) :: (nx,qW l') :: hs,nx + 1⟩ os K)
  (hq:qn hs q = tyW (wrB q m l g f0):=by rfl) (hm:qn hs m = qW l:=by rfl)
  (hz:qy (jv 0 [q,m]) [q,m] (qn hs) (args.map (evA (qj ts))) ys:=by ((repeat' (first|exact jq|apply jf|exact jp rfl|exact jQ|(apply qv;apply jg;exact .inr (of_decide_eq_true rfl))|(apply qv;apply jX;exact .inr (of_decide_eq_true rfl))|(apply qv;apply jr;exact .inr (of_decide_eq_true rfl))|apply jC|apply jD))<;>fail))
  (hlt:(decide (q < nx) && decide (m < nx) && decide (q ≠ m)) = true:=by rfl) (hr:r.ren (xJ (jv 0 [q,m,nx])) = r:=by rfl) (hN:d < N:=by exact nle rfl):vC C' N all gd es ⟨ts,hs,nx⟩ f args d tys ty pos af gg os K:=by
 have hl:=z7 q m nx hlt
 refine xo [q,m] [nx] [(q,tyW (wrB q nx l' g' f1)),(m,.dead),(nx,qW l')] (nx + 1) r hf hc hz (zV hq hm) Y4 k hr rfl rfl (Nat.le_of_ble_eq_true rfl) (VZ hl) ?_ ?_ (by omega) hN
 ·simp [yE]
 ·intro n hn;simp at hn;omega
theorem Wb {f:FuncId} {args:List Operand} {tys:Array TypeId} {d:Nat} {ty:TypeId} {pos:String} {af:Array Edge} {gg:Option (Nat × Bool)} {ys:List AV} {r:AV} {l:qh} {g f0:Bool} (q m:Nat) (hf:IsFn C'.P f)
  (hc:qp C'.P f ys [tyW (wrB 0 1 l g f0),qW l] r [tyW (wrB 0 1 l g f0),.dead])
  (k:jE C' N all (⟨gd ++ (qU (.func f) ++ args.flatMap qU),[q,m],some d,r,[(q,tyW (wrB q m l g f0)),(m,.dead)],[]⟩ :: es) ⟨(d,r) :: ts,(q,tyW (wrB q m l g f0)) :: (m,.dead) :: hs,nx⟩ os K)
  (hq:qn hs q = tyW (wrB q m l g f0):=by rfl) (hm:qn hs m = qW l:=by rfl)
  (hz:qy (jv 0 [q,m]) [q,m] (qn hs) (args.map (evA (qj ts))) ys:=by ((repeat' (first|exact jq|apply jf|exact jp rfl|exact jQ|(apply qv;apply jg;exact .inr (of_decide_eq_true rfl))|(apply qv;apply jX;exact .inr (of_decide_eq_true rfl))|(apply qv;apply jr;exact .inr (of_decide_eq_true rfl))|apply jC|apply jD))<;>fail))
  (hlt:(decide (q < nx) && decide (m < nx) && decide (q ≠ m)) = true:=by rfl) (hr:r.ren (xJ (jv 0 [q,m])) = r:=by rfl) (hN:d < N:=by exact nle rfl):vC C' N all gd es ⟨ts,hs,nx⟩ f args d tys ty pos af gg os K:=by
 have hl:=z7 q m nx hlt
 refine xo [q,m] [] [(q,tyW (wrB q m l g f0)),(m,.dead)] nx r hf hc hz (zV hq hm) (qZ (yq (qq (jg (.inr (List.mem_cons_self ..))) (qq (jr (.inr (List.mem_cons_of_mem _ (List.mem_cons_self ..)))) (qq (qF rfl) (qq (qF rfl) jj))))) (qZ jP jS)) k hr rfl rfl (Nat.le_of_ble_eq_true rfl) ?_ rfl (fun n hn=>by cases hn) (Nat.le_refl _) hN
 have:=hl.2.2
 simp [this]
theorem Kk {f:FuncId} {args:List Operand} {tys:Array TypeId} {d:Nat} {ty:TypeId} {pos:String} {af:Array Edge} {gg:Option (Nat × Bool)} {ys:List AV} {r:AV} {l:qh} {g g' f0 f1:Bool} (q m:Nat) (hf:IsFn C'.P f)
  (hc:qp C'.P f ys [tyW (wrB 0 1 l g f0),qW l] r [tyW (wrB 0 1 l g' f1),qW l])
  (k:jE C' N all (⟨gd ++ (qU (.func f) ++ args.flatMap qU),[q,m],some d,r,[(q,tyW (wrB q m l g' f1)),(m,qW l)],[]⟩ :: es) ⟨(d,r) :: ts,(q,tyW (wrB q m l g' f1)) :: (m,qW l) :: hs,nx⟩ os K)
  (hq:qn hs q = tyW (wrB q m l g f0):=by rfl) (hm:qn hs m = qW l:=by rfl)
  (hz:qy (jv 0 [q,m]) [q,m] (qn hs) (args.map (evA (qj ts))) ys:=by ((repeat' (first|exact jq|apply jf|exact jp rfl|exact jQ|(apply qv;apply jg;exact .inr (of_decide_eq_true rfl))|(apply qv;apply jX;exact .inr (of_decide_eq_true rfl))|(apply qv;apply jr;exact .inr (of_decide_eq_true rfl))|apply jC|apply jD))<;>fail))
  (hlt:(decide (q < nx) && decide (m < nx) && decide (q ≠ m)) = true:=by rfl) (hr:r.ren (xJ (jv 0 [q,m])) = r:=by rfl) (hN:d < N:=by exact nle rfl):vC C' N all gd es ⟨ts,hs,nx⟩ f args d tys ty pos af gg os K:=by
 have hl:=z7 q m nx hlt
 refine xo [q,m] [] [(q,tyW (wrB q m l g' f1)),(m,qW l)] nx r hf hc hz (zV hq hm) (qZ (yq (qq (jg (.inr (List.mem_cons_self ..))) (qq (jr (.inr (List.mem_cons_of_mem _ (List.mem_cons_self ..)))) (qq (qF rfl) (qq (qF rfl) jj))))) (qZ y0 jS)) k hr rfl rfl (Nat.le_of_ble_eq_true rfl) ?_ rfl (fun n hn=>by cases hn) (Nat.le_refl _) hN
 have:=hl.2.2
 simp [this]
theorem Kl {f:FuncId} {args:List Operand} {tys:Array TypeId} {d:Nat} {ty:TypeId} {pos:String} {af:Array Edge} {gg:Option (Nat × Bool)} {ys:List AV} {r:AV} {l:qh} {g f0:Bool} (q m:Nat) (hf:IsFn C'.P f)
  (hc:qp C'.P f ys [tyW (wrB 0 1 l g f0),qW l] r [.dead,.dead])
  (k:jE C' N all (⟨gd ++ (qU (.func f) ++ args.flatMap qU),[q,m],some d,r,[(q,.dead),(m,.dead)],[]⟩ :: es) ⟨(d,r) :: ts,(q,.dead) :: (m,.dead) :: hs,nx⟩ os K)
  (hq:qn hs q = tyW (wrB q m l g f0):=by rfl) (hm:qn hs m = qW l:=by rfl)
  (hz:qy (jv 0 [q,m]) [q,m] (qn hs) (args.map (evA (qj ts))) ys:=by ((repeat' (first|exact jq|apply jf|exact jp rfl|exact jQ|(apply qv;apply jg;exact .inr (of_decide_eq_true rfl))|(apply qv;apply jX;exact .inr (of_decide_eq_true rfl))|(apply qv;apply jr;exact .inr (of_decide_eq_true rfl))|apply jC|apply jD))<;>fail))
  (hlt:(decide (q < nx) && decide (m < nx) && decide (q ≠ m)) = true:=by rfl) (hr:r.ren (xJ (jv 0 [q,m])) = r:=by rfl) (hN:d < N:=by exact nle rfl):vC C' N all gd es ⟨ts,hs,nx⟩ f args d tys ty pos af gg os K:=by
 have hl:=z7 q m nx hlt
 refine xo [q,m] [] [(q,.dead),(m,.dead)] nx r hf hc hz (zV hq hm) (qZ jP (qZ jP jS)) k hr rfl rfl (Nat.le_of_ble_eq_true rfl) ?_ rfl (fun n hn=>by cases hn) (Nat.le_refl _) hN
 have:=hl.2.2
 simp [this]
theorem V2 {f:FuncId} {args:List Operand} {tys:Array TypeId} {d:Nat} {ty:TypeId} {pos:String} {af:Array Edge} {gg:Option (Nat × Bool)} {ys:List AV} {r:AV} {l' : qh} {g g' f0 f1:Bool} (q:Nat) (hf:IsFn C'.P f)
  (hc:qp C'.P f ys [tyW (Zt g f0)] r [tyW (wrB 0 1 l' g' f1),qW l'])
  (k:jE C' N all (⟨gd ++ (qU (.func f) ++ args.flatMap qU),[q],some d,r,[(q,tyW (wrB q nx l' g' f1)),(nx,qW l')],[nx]⟩ :: es) ⟨(d,r) :: ts,(q,tyW (wrB q nx l' g' f1)) :: (nx,qW l') :: hs,nx + 1⟩ os K)
  (hq:qn hs q = tyW (Zt g f0):=by rfl)
  (hz:qy (jv 0 [q]) [q] (qn hs) (args.map (evA (qj ts))) ys:=by ((repeat' (first|exact jq|apply jf|exact jp rfl|exact jQ|(apply qv;apply jg;exact .inr (of_decide_eq_true rfl))|(apply qv;apply jX;exact .inr (of_decide_eq_true rfl))|(apply qv;apply jr;exact .inr (of_decide_eq_true rfl))|apply jC|apply jD))<;>fail))
  (hlt:decide (q < nx) = true:=by rfl) (hr:r.ren (xJ (jv 0 [q,nx])) = r:=by rfl) (hN:d < N:=by exact nle rfl):vC C' N all gd es ⟨ts,hs,nx⟩ f args d tys ty pos af gg os K:=by
 have hl:q < nx:=of_decide_eq_true hlt
 refine xo [q] [nx] [(q,tyW (wrB q nx l' g' f1)),(nx,qW l')] (nx + 1) r hf hc hz (js (tyW (Zt g f0)) j1 (yq (qP rfl)) hq rfl) (qZ (yq (qq (jg (.inr (List.mem_cons_self ..))) (qq (jr (.inr (List.mem_cons_of_mem _ (List.mem_cons_self ..)))) (qq (qF rfl) (qq (qF rfl) jj))))) (qZ y0 jS)) k hr rfl rfl (Nat.le_of_ble_eq_true rfl) ?_ ?_ ?_ (by omega) hN
 ·simp;omega
 ·simp [yE]
 ·intro n hn;simp at hn;omega
theorem Wc {f:FuncId} {fn:Func} {x:Operand} {first cap:List AV} {args:List Operand} {tys:Array TypeId} {d:Nat} {ty:TypeId} {pos:String} {af:Array Edge} {gg:Option (Nat × Bool)} {ys:List AV} {r:AV} {l l' : qh} {g g' f0 f1:Bool} (q m:Nat) (hf:C'.P.funcs[f]? = some fn)
  (hc:qp C'.P f ys [tyW (wrB 0 1 l g f0),qW l] r [tyW (wrB 0 2 l' g' f1),.dead,qW l'])
  (k:jE C' N all (⟨gd ++ (qU x ++ args.flatMap qU),[q,m],some d,r,[(q,tyW (wrB q nx l' g' f1)),(m,.dead),(nx,qW l')],[nx]⟩ :: es) ⟨(d,r) :: ts,(q,tyW (wrB q nx l' g' f1)) :: (m,.dead) :: (nx,qW l') :: hs,nx + 1⟩ os K)
  (hx:evA (qj ts) x = .clo (.func f) first cap:=by rfl) (hb0:fn.body.isNone = false:=by rfl) (hn0:(fn.name == "runtime.NumGoroutine") = false:=by rfl)
  (hq:qn hs q = tyW (wrB q m l g f0):=by rfl) (hm:qn hs m = qW l:=by rfl)
  (hz:qy (jv 0 [q,m]) [q,m] (qn hs) (first ++ args.map (evA (qj ts)) ++ cap) ys:=by ((repeat' (first|exact jq|apply jf|exact jp rfl|exact jQ|(apply qv;apply jg;exact .inr (of_decide_eq_true rfl))|(apply qv;apply jX;exact .inr (of_decide_eq_true rfl))|(apply qv;apply jr;exact .inr (of_decide_eq_true rfl))|apply jC|apply jD))<;>fail))
  (hlt:(decide (q < nx) && decide (m < nx) && decide (q ≠ m)) = true:=by rfl) (hr:r.ren (xJ (jv 0 [q,m,nx])) = r:=by rfl) (hN:d < N:=by exact nle rfl):qX C' N all gd es ⟨ts,hs,nx⟩ ⟨some d,.call ⟨.value x,args.toArray,tys⟩,ty,pos,af,gg⟩ os K:=by
 have hl:=z7 q m nx hlt
 refine wS [q,m] [nx] [(q,tyW (wrB q nx l' g' f1)),(m,.dead),(nx,qW l')] (nx + 1) r hf hc hz (zV hq hm) Y4 k hx hb0 hn0 hr rfl rfl (Nat.le_of_ble_eq_true rfl) (VZ hl) ?_ ?_ (by omega) hN
 ·simp [yE]
 ·intro n hn;simp at hn;omega
end steps
theorem qf {L:List (Nat × Nat)} {nh n n' : Nat} (h:((decide (n < nh) && decide (n = n')) || L.contains (n,n')) = true):Maps L nh n n':=by
 simp only [Bool.or_eq_true,Bool.and_eq_true,decide_eq_true_eq,List.contains_iff_mem] at h
 rcases h with ⟨h,rfl⟩|h
 ·exact .inl ⟨h,rfl⟩
 ·exact .inr h
theorem yO {L:List (Nat × Nat)} {nh:Nat} {σ:St} {q q' m m' : Nat} {l l' : qh} {g g' f f' : Bool} {rest:List (Nat × HB)} (hq:qn σ.hs q = tyW (wrB q m l g f)) (hm:qn σ.hs m = qW l) (h1:Maps L nh q q') (h2:Maps L nh m m') (hl:l = l') (hg:g = g') (hf:f = f') (hr:jN L nh σ rest):jN L nh σ ((q',tyW (wrB q' m' l' g' f')) :: (m',qW l') :: rest):=by
 subst hl hg hf
 exact JX (YD hr rfl h2 hm) (qq (jg h1) (qq (jr h2) (qq (qF rfl) (qq (qF rfl) jj)))) h1 hq
theorem zZ {L:List (Nat × Nat)} {nh:Nat} {σ:St} {q q' m m' d' : Nat} {l l' : qh} {g g' f f' : Bool} {rest:List (Nat × HB)} (hq:qn σ.hs q = tyW (wrB q m l g f)) (hm:qn σ.hs m = qW l) (h1:Maps L nh q q') (h2:Maps L nh m m') (hd:Maps L nh d' d') (hl:l = l') (hg:g = g') (hf:f = f') (hr:jN L nh σ rest):jN L nh σ ((q',tyW (wrB q' m' l' g' f')) :: (d',.dead) :: (m',qW l') :: rest):=by
 subst hl hg hf
 exact JX (vR (YD hr rfl h2 hm) hd) (qq (jg h1) (qq (jr h2) (qq (qF rfl) (qq (qF rfl) jj)))) h1 hq
theorem ZN {L:List (Nat × Nat)} {nh:Nat} {σ:St} {q q' : Nat} {g f:Bool} {rest:List (Nat × HB)} (hq:qn σ.hs q = tyW (Zt g f)) (h1:Maps L nh q q') (hr:jN L nh σ rest):jN L nh σ ((q',tyW (Zt g f)) :: rest):=JX hr (qP rfl) h1 hq
end Go.Proofs.YtahbbnfmbohmmaaDoor
