import Derived.Test.YtahbbnfmbohmmaaDoorMz11
import Derived.Test.YtahbbnfmbohmmaaDoorMz12
import Derived.Test.YtahbbnfmbohmmaaDoorMz8
import Derived.Test.YtahbbnfmbohmmaaDoorMz3
set_option linter.unusedSimpArgs false
set_option linter.unnecessarySimpa false
set_option linter.unusedVariables false
set_option maxHeartbeats 1000000
namespace Go.Proofs.YtahbbnfmbohmmaaDoor
open Go.Ab Go.RowKit
set_option maxRecDepth 10000
attribute [local irreducible] Awp jW jq jB Red qv Go.Ab.Fin qu Rz vn jv jm ResOk jA ji yk qP
@[reducible] def wrB (q nb:Nat) (s:qj) (g f:Bool):List AV:=[.op q 0 0,.os nb 0 s.length,.v (.bool g),.v (.bool f)]
@[reducible] def Xn (g f:Bool):List AV:=[.v (.pointer none),.sl true [],.v (.bool g),.v (.bool f)]
@[reducible] def wr1 (q:Nat) (g f:Bool):List AV:=[.op q 0 0,.sl true [],.v (.bool g),.v (.bool f)]
@[reducible] def tyW (row:List AV):HB := .mp (.typ 53 4 [row])
@[reducible] def qK (s:qj):HB := .mp (.typ 5 1 (s.map jj))
theorem Xt (s:qj) (g f:Bool):qu C2.P 66 [.op 0 0 0] [tyW (wrB 0 1 s g f),qK s] (.tup []) [tyW (wrB 0 1 s g f),qK s]:=by
 refine qe (C:=C2) Tryd.func66 rfl _ Tryd.ntmps66 (Nat.le_of_ble_eq_true rfl) _ Tryd.results66 2 rfl rfl ?_
 repeat' (first|refine qn ?_|(first|(apply qt;apply Jr;(first|exact .inl ⟨rfl,rfl⟩|exact .inr ⟨⟨_,_,_,rfl⟩,rfl⟩);rfl;rfl;(first|exact .inl rfl|exact .inr rfl);exact nle rfl)|(apply qt;apply Qg;rfl;rfl;rfl;rfl;rfl;(exact of_decide_eq_true rfl);(first|exact .inl rfl|exact .inr rfl);exact nle rfl))|((first|(apply qb;rfl;rfl;exact nle rfl)|(apply qa;rfl;rfl;exact nle rfl)|refine xsC ?_ ?_);all_goals (intro hc;have hp:=hc;try simp at hp;try (exfalso;omega)))|refine jn ?_ ?_)
 all_goals ((apply qx (rs:=[]) [] 2;(case hr=>(repeat (first|exact qq|(apply qr;rfl)|(apply qm;rfl;rfl;rfl;rfl;rfl))));(case hL=>rfl);(case hh=>(repeat' (first|exact qi|refine xY ?_|refine Qr ?_ ?_|refine QW ?_ ?_|refine VE ?_|exact qZ|apply qk|exact qA rfl|(apply qU;(first|exact js rfl|exact .inr (List.mem_cons_self ..)|exact .inr (List.mem_cons_of_mem _ (List.mem_cons_self ..))|exact .inr (List.mem_cons_of_mem _ (List.mem_cons_of_mem _ (List.mem_cons_self ..)))|exact .inr (List.mem_cons_of_mem _ (List.mem_cons_of_mem _ (List.mem_cons_of_mem _ (List.mem_cons_self ..))))))|refine vW ?_|refine ku ?_ rfl));all_goals rfl);(case hi=>exact rfl);(case hz=>first|rfl|(simp [jE,AV.ren,AV.ren.renL,ja,qg,qV];done))))
theorem Vf (cap:Nat) (h:1 ≤ cap):liesAt C.P C.P.depth 53 (cap * 4 / C.P.cellsOf 53) 0 51 1 = true:=by
 obtain ⟨c,rfl⟩ : ∃ c,cap = c + 1:=⟨cap - 1,by omega⟩
 have h4:C.P.cellsOf 53 = 4:=by kernel_rfl
 rw [h4,Nat.mul_div_cancel _ (by decide)]
 show liesAt C.P C.P.depth 53 (c + 1) 0 51 1 = true
 have key : ∀ c:Nat,liesAt C.P C.P.depth 53 (c + 1) 0 51 1 = true:=by
  intro c
  kernel_rfl
 exact key c
theorem Xs (g f:Bool):qu C1.P 66 [.op 0 0 0] [tyW (Xn g f)] (.tup []) [tyW (wr1 0 g f)]:=by
 refine qe (C:=C1) Tryd.func66 rfl _ Tryd.ntmps66 (Nat.le_of_ble_eq_true rfl) _ Tryd.results66 1 rfl rfl ?_
 repeat' (first|refine qn ?_|(first|(apply qt;apply Jr;(first|exact .inl ⟨rfl,rfl⟩|exact .inr ⟨⟨_,_,_,rfl⟩,rfl⟩);rfl;rfl;(first|exact .inl rfl|exact .inr rfl);exact nle rfl)|(apply qt;apply Qg;rfl;rfl;rfl;rfl;rfl;(exact of_decide_eq_true rfl);(first|exact .inl rfl|exact .inr rfl);exact nle rfl)|(apply qt;apply Xz;rfl;exact Tryd.func71;rfl;rfl;rfl;rfl;exact nle rfl)|(apply qt;apply QN;rfl;rfl;exact nle rfl;rfl;rfl;rfl;(exact of_decide_eq_true rfl);exact Tryd.underlying112;exact nle rfl)|(apply qt;apply wk;rfl;rfl;rfl;rfl;rfl;exact Tryd.underlying112;exact Vf;exact nle rfl))|((first|(apply qb;rfl;rfl;exact nle rfl)|(apply qa;rfl;rfl;exact nle rfl)|refine xsC ?_ ?_);all_goals (intro hc;have hp:=hc;try simp at hp;try (exfalso;omega)))|refine jn ?_ ?_)
 all_goals ((apply qx (rs:=[]) [] 1;(case hr=>(repeat (first|exact qq|(apply qr;rfl)|(apply qm;rfl;rfl;rfl;rfl;rfl))));(case hL=>rfl);(case hh=>(repeat' (first|exact qi|refine xY ?_|refine Qr ?_ ?_|refine QW ?_ ?_|refine VE ?_|exact qZ|apply qk|exact qA rfl|(apply qU;(first|exact js rfl|exact .inr (List.mem_cons_self ..)|exact .inr (List.mem_cons_of_mem _ (List.mem_cons_self ..))|exact .inr (List.mem_cons_of_mem _ (List.mem_cons_of_mem _ (List.mem_cons_self ..)))|exact .inr (List.mem_cons_of_mem _ (List.mem_cons_of_mem _ (List.mem_cons_of_mem _ (List.mem_cons_self ..))))))|refine vW ?_|refine ku ?_ rfl));all_goals rfl);(case hi=>exact rfl);(case hz=>first|rfl|(simp [jE,AV.ren,AV.ren.renL,ja,qg,qV];done))))
set_option maxHeartbeats 1000000 in
theorem xP (l s:qj) (g f:Bool) (hl:l.length + s.length ≤ 140737488355328):qu C2.P 52 [.op 0 0 0,.v (str s)] [tyW (wrB 0 1 l g f),qK l] (.tup [.v (.int .i64 (s.length:Int)),.v .nilIface]) [tyW (wrB 0 2 (l ++ s) g f),.dead,qK (l ++ s)]:=by
 have hc:=Xt l g f
 refine qe (C:=C2) Tryd.func52 rfl _ Tryd.ntmps52 (Nat.le_of_ble_eq_true rfl) _ Tryd.results52 2 rfl rfl ?_
 repeat' (first|refine qn ?_|(first|(apply qc Tryd.func66 rfl rfl;intro hIsFn;refine yN [0,1] [] [(0,tyW (wrB 0 1 l g f)),(1,qK l)] 2 (.tup []) hIsFn (hc) ?hz ?hg ?hb ?_;(case hz=>(repeat' (first|exact jd|apply qT|exact jc rfl|exact jF|(apply qo;apply qU;exact .inr (of_decide_eq_true rfl))|(apply qo;apply jQ;exact .inr (of_decide_eq_true rfl))|(apply qo;apply je;exact .inr (of_decide_eq_true rfl))|apply jo|apply jp)));(case hg=>(repeat' (first|exact jT|exact jH|refine jg _ ?_ ?_|refine qL ?_ ?_|exact jD|exact jU (sideM_pure _)|exact jU (zH _)|exact jU (goesM_pure _)|exact vj (fun _=>rfl)|refine qQ ?_|exact qZ|apply qk|exact qA rfl|(apply jQ;exact .inr (of_decide_eq_true rfl))|(apply je;exact .inr (of_decide_eq_true rfl))|(apply qU;exact .inr (of_decide_eq_true rfl))|refine ya ?_|exact yE)));(case hb=>(repeat' (first|exact jT|exact jH|refine jg _ ?_ ?_|refine qL ?_ ?_|exact jD|exact jU (sideM_pure _)|exact jU (zH _)|exact jU (goesM_pure _)|exact vj (fun _=>rfl)|refine qQ ?_|exact qZ|apply qk|exact qA rfl|(apply jQ;exact .inr (of_decide_eq_true rfl))|(apply je;exact .inr (of_decide_eq_true rfl))|(apply qU;exact .inr (of_decide_eq_true rfl))|refine ya ?_|exact yE))))|(apply Qp;apply kF;rfl;rfl;rfl;rfl;rfl;rfl;rfl;rfl;rfl;rfl;rfl;exact hl;exact nofun;exact nle rfl))|((first|(apply qb;rfl;rfl;exact nle rfl)|(apply qa;rfl;rfl;exact nle rfl)|refine xsC ?_ ?_);all_goals (intro hc;have hp:=hc;try simp at hp;try (exfalso;omega)))|refine jn ?_ ?_)
 all_goals ((apply qx (rs:=[.tmp 4,.tmp 5]) [(2,2)] 3;(case hr=>(repeat (first|exact qq|(apply qr;rfl)|(apply qm;rfl;rfl;rfl;rfl;rfl))));(case hL=>rfl);(case hh=>(repeat' (first|exact qi|refine xY ?_|refine Qr ?_ ?_|refine QW ?_ ?_|refine VE ?_|exact qZ|apply qk|exact qA rfl|(apply qU;(first|exact js rfl|exact .inr (List.mem_cons_self ..)|exact .inr (List.mem_cons_of_mem _ (List.mem_cons_self ..))|exact .inr (List.mem_cons_of_mem _ (List.mem_cons_of_mem _ (List.mem_cons_self ..)))|exact .inr (List.mem_cons_of_mem _ (List.mem_cons_of_mem _ (List.mem_cons_of_mem _ (List.mem_cons_self ..))))))|refine vW ?_|refine ku ?_ rfl));all_goals rfl);(case hi=>exact rfl);(case hz=>first|rfl|(simp [jE,AV.ren,AV.ren.renL,ja,qg,qV];done))))
set_option maxHeartbeats 1000000 in
theorem Yr (s:qj) (g f:Bool) (h0:s ≠ []) (hl:s.length ≤ 140737488355328):qu C1.P 52 [.op 0 0 0,.v (str s)] [tyW (Xn g f)] (.tup [.v (.int .i64 (s.length:Int)),.v .nilIface]) [tyW (wrB 0 1 s g f),qK s]:=by
 have hc:=Xs g f
 refine qe (C:=C1) Tryd.func52 rfl _ Tryd.ntmps52 (Nat.le_of_ble_eq_true rfl) _ Tryd.results52 1 rfl rfl ?_
 repeat' (first|refine qn ?_|(first|(apply qc Tryd.func66 rfl rfl;intro hIsFn;refine yN [0] [] [(0,tyW (wr1 0 g f))] 1 (.tup []) hIsFn (hc) ?hz ?hg ?hb ?_;(case hz=>(repeat' (first|exact jd|apply qT|exact jc rfl|exact jF|(apply qo;apply qU;exact .inr (of_decide_eq_true rfl))|(apply qo;apply jQ;exact .inr (of_decide_eq_true rfl))|(apply qo;apply je;exact .inr (of_decide_eq_true rfl))|apply jo|apply jp)));(case hg=>(repeat' (first|exact jT|exact jH|refine jg _ ?_ ?_|refine qL ?_ ?_|exact jD|exact jU (sideM_pure _)|exact jU (zH _)|exact jU (goesM_pure _)|exact vj (fun _=>rfl)|refine qQ ?_|exact qZ|apply qk|exact qA rfl|(apply jQ;exact .inr (of_decide_eq_true rfl))|(apply je;exact .inr (of_decide_eq_true rfl))|(apply qU;exact .inr (of_decide_eq_true rfl))|refine ya ?_|exact yE)));(case hb=>(repeat' (first|exact jT|exact jH|refine jg _ ?_ ?_|refine qL ?_ ?_|exact jD|exact jU (sideM_pure _)|exact jU (zH _)|exact jU (goesM_pure _)|exact vj (fun _=>rfl)|refine qQ ?_|exact qZ|apply qk|exact qA rfl|(apply jQ;exact .inr (of_decide_eq_true rfl))|(apply je;exact .inr (of_decide_eq_true rfl))|(apply qU;exact .inr (of_decide_eq_true rfl))|refine ya ?_|exact yE))))|(apply y0;apply zY;rfl;rfl;exact h0;rfl;rfl;rfl;rfl;rfl;rfl;rfl;rfl;exact hl;exact nle rfl))|((first|(apply qb;rfl;rfl;exact nle rfl)|(apply qa;rfl;rfl;exact nle rfl)|refine xsC ?_ ?_);all_goals (intro hc;have hp:=hc;try simp at hp;try (exfalso;omega)))|refine jn ?_ ?_)
 all_goals ((apply qx (rs:=[.tmp 4,.tmp 5]) [(1,1)] 2;(case hr=>(repeat (first|exact qq|(apply qr;rfl)|(apply qm;rfl;rfl;rfl;rfl;rfl))));(case hL=>rfl);(case hh=>(repeat' (first|exact qi|refine xY ?_|refine Qr ?_ ?_|refine QW ?_ ?_|refine VE ?_|exact qZ|apply qk|exact qA rfl|(apply qU;(first|exact js rfl|exact .inr (List.mem_cons_self ..)|exact .inr (List.mem_cons_of_mem _ (List.mem_cons_self ..))|exact .inr (List.mem_cons_of_mem _ (List.mem_cons_of_mem _ (List.mem_cons_self ..)))|exact .inr (List.mem_cons_of_mem _ (List.mem_cons_of_mem _ (List.mem_cons_of_mem _ (List.mem_cons_self ..))))))|refine vW ?_|refine ku ?_ rfl));all_goals rfl);(case hi=>exact rfl);(case hz=>first|rfl|(simp [jE,AV.ren,AV.ren.renL,ja,qg,qV];done))))
set_option maxHeartbeats 1000000 in
theorem Yo (s:qj) (g f:Bool) (h0:s ≠ []) (hl:s.length ≤ 140737488355328):qu C2.P 56 [.op 0 0 0] [tyW (wrB 0 1 s g f),qK s] (.v (str s)) [tyW (wrB 0 1 s g f),.dead]:=by
 have hp:0 < s.length:=by cases s with|nil=>exact absurd rfl h0|cons _ _=>simp
 refine qe (C:=C2) Tryd.func56 rfl _ Tryd.ntmps56 (Nat.le_of_ble_eq_true rfl) _ Tryd.results56 2 rfl rfl ?_
 repeat' (first|refine qn ?_|(first|(apply qt;apply Ve;rfl;rfl;exact hp;exact nle rfl)|(apply YY;apply XA;rfl;rfl;rfl;exact h0;rfl;rfl;kernel_rfl;omega;exact nle rfl))|((first|(apply qb;rfl;rfl;exact nle rfl)|(apply qa;rfl;rfl;exact nle rfl)|refine xsC ?_ ?_);all_goals (intro hc;have hp:=hc;try simp at hp;try (exfalso;omega)))|refine jn ?_ ?_)
 all_goals ((apply qx (rs:=[.tmp 2]) [] 2;(case hr=>(repeat (first|exact qq|(apply qr;rfl)|(apply qm;rfl;rfl;rfl;rfl;rfl))));(case hL=>rfl);(case hh=>(repeat' (first|exact qi|refine xY ?_|refine Qr ?_ ?_|refine QW ?_ ?_|refine VE ?_|exact qZ|apply qk|exact qA rfl|(apply qU;(first|exact js rfl|exact .inr (List.mem_cons_self ..)|exact .inr (List.mem_cons_of_mem _ (List.mem_cons_self ..))|exact .inr (List.mem_cons_of_mem _ (List.mem_cons_of_mem _ (List.mem_cons_self ..)))|exact .inr (List.mem_cons_of_mem _ (List.mem_cons_of_mem _ (List.mem_cons_of_mem _ (List.mem_cons_self ..))))))|refine vW ?_|refine ku ?_ rfl));all_goals rfl);(case hi=>exact rfl);(case hz=>first|rfl|(simp [jE,AV.ren,AV.ren.renL,ja,qg,qV];done))))
end Go.Proofs.YtahbbnfmbohmmaaDoor
set_option linter.unusedSimpArgs false
set_option linter.unnecessarySimpa false
set_option linter.unusedVariables false
namespace Go.Proofs.YtahbbnfmbohmmaaDoor
open Go.Ab Go.RowKit
section steps
variable {C' : Cx} {N:Nat} {all:Array Oper} {es:List Eff} {o:Oper} {os:List Oper} {K:List Eff → St → Prop} {ts:List (Nat × AV)} {hs:List (Nat × HB)} {nx:Nat} {gd:List Nat}
theorem vV (q m nx:Nat) (h:(decide (q < nx) && decide (m < nx) && decide (q ≠ m)) = true):q < nx ∧ m < nx ∧ q ≠ m:=by
 simp only [Bool.and_eq_true,decide_eq_true_eq] at h
 exact ⟨h.1.1,h.1.2,h.2⟩
theorem vQ {q m:Nat} {l:qj} {g f:Bool} (hq:qh hs q = tyW (wrB q m l g f)) (hm:qh hs m = qK l):xN (jh 0 [q,m]) (qh hs) [q,m] [tyW (wrB 0 1 l g f),qK l] :=
 jg (tyW (wrB q m l g f)) (jg (qK l) jT yE hm rfl) (ya (qk (qU (.inr (List.mem_cons_self ..))) (qk (je (.inr (List.mem_cons_of_mem _ (List.mem_cons_self ..)))) (qk (qA rfl) (qk (qA rfl) qZ))))) hq rfl
theorem Jk {q m n:Nat} {l:qj} {g f:Bool}:vK (y4 (jh 0 [q,m,n])) [(q,tyW (wrB q n l g f)),(m,.dead),(n,qK l)] [tyW (wrB 0 2 l g f),.dead,qK l] :=
 qL (ya (qk (qU (.inr (List.mem_cons_self ..))) (qk (je (.inr (List.mem_cons_of_mem _ (List.mem_cons_of_mem _ (List.mem_cons_self ..))))) (qk (qA rfl) (qk (qA rfl) qZ))))) (qL jD (qL yE jH))
theorem YT {q m n:Nat} (h:q < n ∧ m < n ∧ q ≠ m) : [q,m,n].Nodup:=by
 obtain ⟨h1,h2,h3⟩:=h
 simp only [List.nodup_cons,List.mem_cons,List.not_mem_nil,or_false,not_or,not_false_eq_true,List.nodup_nil,and_true]
 exact ⟨⟨h3,by omega⟩,by omega⟩
theorem xV {f:FuncId} {args:List Operand} {tys:Array TypeId} {d:Nat} {ty:TypeId} {pos:String} {af:Array Edge} {gg:Option (Nat × Bool)} {ys:List AV} {r:AV} {l l' : qj} {g g' f0 f1:Bool} (q m:Nat) (hf:IsFn C'.P f)
  (hc:qu C'.P f ys [tyW (wrB 0 1 l g f0),qK l] r [tyW (wrB 0 2 l' g' f1),.dead,qK l'])
  (k:jW C' N all (⟨gd ++ (qM (.func f) ++ args.flatMap qM),[q,m],some d,r,[(q,tyW (wrB q nx l' g' f1)),(m,.dead),(nx,qK l')],[nx]⟩ :: es) ⟨(d,r) :: ts,(q,tyW (wrB q nx l' g' f1)) :: (m,.dead) :: (nx,qK l') :: hs,nx + 1⟩ os K)
  (hq:qh hs q = tyW (wrB q m l g f0):=by rfl) (hm:qh hs m = qK l:=by rfl)
  (hz:qP (jh 0 [q,m]) [q,m] (qh hs) (args.map (evA (qg ts))) ys:=by ((repeat' (first|exact jd|apply qT|exact jc rfl|exact jF|(apply qo;apply qU;exact .inr (of_decide_eq_true rfl))|(apply qo;apply jQ;exact .inr (of_decide_eq_true rfl))|(apply qo;apply je;exact .inr (of_decide_eq_true rfl))|apply jo|apply jp))<;>fail))
  (hlt:(decide (q < nx) && decide (m < nx) && decide (q ≠ m)) = true:=by rfl) (hr:r.ren (y4 (jh 0 [q,m,nx])) = r:=by rfl) (hN:d < N:=by exact nle rfl):xM C' N all gd es ⟨ts,hs,nx⟩ f args d tys ty pos af gg os K:=by
 have hl:=vV q m nx hlt
 refine yN [q,m] [nx] [(q,tyW (wrB q nx l' g' f1)),(m,.dead),(nx,qK l')] (nx + 1) r hf hc hz (vQ hq hm) Jk k hr rfl rfl (Nat.le_of_ble_eq_true rfl) (YT hl) ?_ ?_ (by omega) hN
 ·simp [yn]
 ·intro n hn;simp at hn;omega
theorem VA {f:FuncId} {args:List Operand} {tys:Array TypeId} {d:Nat} {ty:TypeId} {pos:String} {af:Array Edge} {gg:Option (Nat × Bool)} {ys:List AV} {r:AV} {l:qj} {g f0:Bool} (q m:Nat) (hf:IsFn C'.P f)
  (hc:qu C'.P f ys [tyW (wrB 0 1 l g f0),qK l] r [tyW (wrB 0 1 l g f0),.dead])
  (k:jW C' N all (⟨gd ++ (qM (.func f) ++ args.flatMap qM),[q,m],some d,r,[(q,tyW (wrB q m l g f0)),(m,.dead)],[]⟩ :: es) ⟨(d,r) :: ts,(q,tyW (wrB q m l g f0)) :: (m,.dead) :: hs,nx⟩ os K)
  (hq:qh hs q = tyW (wrB q m l g f0):=by rfl) (hm:qh hs m = qK l:=by rfl)
  (hz:qP (jh 0 [q,m]) [q,m] (qh hs) (args.map (evA (qg ts))) ys:=by ((repeat' (first|exact jd|apply qT|exact jc rfl|exact jF|(apply qo;apply qU;exact .inr (of_decide_eq_true rfl))|(apply qo;apply jQ;exact .inr (of_decide_eq_true rfl))|(apply qo;apply je;exact .inr (of_decide_eq_true rfl))|apply jo|apply jp))<;>fail))
  (hlt:(decide (q < nx) && decide (m < nx) && decide (q ≠ m)) = true:=by rfl) (hr:r.ren (y4 (jh 0 [q,m])) = r:=by rfl) (hN:d < N:=by exact nle rfl):xM C' N all gd es ⟨ts,hs,nx⟩ f args d tys ty pos af gg os K:=by
 have hl:=vV q m nx hlt
 refine yN [q,m] [] [(q,tyW (wrB q m l g f0)),(m,.dead)] nx r hf hc hz (vQ hq hm) (qL (ya (qk (qU (.inr (List.mem_cons_self ..))) (qk (je (.inr (List.mem_cons_of_mem _ (List.mem_cons_self ..)))) (qk (qA rfl) (qk (qA rfl) qZ))))) (qL jD jH)) k hr rfl rfl (Nat.le_of_ble_eq_true rfl) ?_ rfl (fun n hn=>by cases hn) (Nat.le_refl _) hN
 have:=hl.2.2
 simp [this]
theorem X5 {f:FuncId} {args:List Operand} {tys:Array TypeId} {d:Nat} {ty:TypeId} {pos:String} {af:Array Edge} {gg:Option (Nat × Bool)} {ys:List AV} {r:AV} {l:qj} {g g' f0 f1:Bool} (q m:Nat) (hf:IsFn C'.P f)
  (hc:qu C'.P f ys [tyW (wrB 0 1 l g f0),qK l] r [tyW (wrB 0 1 l g' f1),qK l])
  (k:jW C' N all (⟨gd ++ (qM (.func f) ++ args.flatMap qM),[q,m],some d,r,[(q,tyW (wrB q m l g' f1)),(m,qK l)],[]⟩ :: es) ⟨(d,r) :: ts,(q,tyW (wrB q m l g' f1)) :: (m,qK l) :: hs,nx⟩ os K)
  (hq:qh hs q = tyW (wrB q m l g f0):=by rfl) (hm:qh hs m = qK l:=by rfl)
  (hz:qP (jh 0 [q,m]) [q,m] (qh hs) (args.map (evA (qg ts))) ys:=by ((repeat' (first|exact jd|apply qT|exact jc rfl|exact jF|(apply qo;apply qU;exact .inr (of_decide_eq_true rfl))|(apply qo;apply jQ;exact .inr (of_decide_eq_true rfl))|(apply qo;apply je;exact .inr (of_decide_eq_true rfl))|apply jo|apply jp))<;>fail))
  (hlt:(decide (q < nx) && decide (m < nx) && decide (q ≠ m)) = true:=by rfl) (hr:r.ren (y4 (jh 0 [q,m])) = r:=by rfl) (hN:d < N:=by exact nle rfl):xM C' N all gd es ⟨ts,hs,nx⟩ f args d tys ty pos af gg os K:=by
 have hl:=vV q m nx hlt
 refine yN [q,m] [] [(q,tyW (wrB q m l g' f1)),(m,qK l)] nx r hf hc hz (vQ hq hm) (qL (ya (qk (qU (.inr (List.mem_cons_self ..))) (qk (je (.inr (List.mem_cons_of_mem _ (List.mem_cons_self ..)))) (qk (qA rfl) (qk (qA rfl) qZ))))) (qL yE jH)) k hr rfl rfl (Nat.le_of_ble_eq_true rfl) ?_ rfl (fun n hn=>by cases hn) (Nat.le_refl _) hN
 have:=hl.2.2
 simp [this]
theorem X6 {f:FuncId} {args:List Operand} {tys:Array TypeId} {d:Nat} {ty:TypeId} {pos:String} {af:Array Edge} {gg:Option (Nat × Bool)} {ys:List AV} {r:AV} {l:qj} {g f0:Bool} (q m:Nat) (hf:IsFn C'.P f)
  (hc:qu C'.P f ys [tyW (wrB 0 1 l g f0),qK l] r [.dead,.dead])
  (k:jW C' N all (⟨gd ++ (qM (.func f) ++ args.flatMap qM),[q,m],some d,r,[(q,.dead),(m,.dead)],[]⟩ :: es) ⟨(d,r) :: ts,(q,.dead) :: (m,.dead) :: hs,nx⟩ os K)
  (hq:qh hs q = tyW (wrB q m l g f0):=by rfl) (hm:qh hs m = qK l:=by rfl)
  (hz:qP (jh 0 [q,m]) [q,m] (qh hs) (args.map (evA (qg ts))) ys:=by ((repeat' (first|exact jd|apply qT|exact jc rfl|exact jF|(apply qo;apply qU;exact .inr (of_decide_eq_true rfl))|(apply qo;apply jQ;exact .inr (of_decide_eq_true rfl))|(apply qo;apply je;exact .inr (of_decide_eq_true rfl))|apply jo|apply jp))<;>fail))
  (hlt:(decide (q < nx) && decide (m < nx) && decide (q ≠ m)) = true:=by rfl) (hr:r.ren (y4 (jh 0 [q,m])) = r:=by rfl) (hN:d < N:=by exact nle rfl):xM C' N all gd es ⟨ts,hs,nx⟩ f args d tys ty pos af gg os K:=by
 have hl:=vV q m nx hlt
 refine yN [q,m] [] [(q,.dead),(m,.dead)] nx r hf hc hz (vQ hq hm) (qL jD (qL jD jH)) k hr rfl rfl (Nat.le_of_ble_eq_true rfl) ?_ rfl (fun n hn=>by cases hn) (Nat.le_refl _) hN
 have:=hl.2.2
 simp [this]
theorem YX {f:FuncId} {args:List Operand} {tys:Array TypeId} {d:Nat} {ty:TypeId} {pos:String} {af:Array Edge} {gg:Option (Nat × Bool)} {ys:List AV} {r:AV} {l' : qj} {g g' f0 f1:Bool} (q:Nat) (hf:IsFn C'.P f)
  (hc:qu C'.P f ys [tyW (Xn g f0)] r [tyW (wrB 0 1 l' g' f1),qK l'])
  (k:jW C' N all (⟨gd ++ (qM (.func f) ++ args.flatMap qM),[q],some d,r,[(q,tyW (wrB q nx l' g' f1)),(nx,qK l')],[nx]⟩ :: es) ⟨(d,r) :: ts,(q,tyW (wrB q nx l' g' f1)) :: (nx,qK l') :: hs,nx + 1⟩ os K)
  (hq:qh hs q = tyW (Xn g f0):=by rfl)
  (hz:qP (jh 0 [q]) [q] (qh hs) (args.map (evA (qg ts))) ys:=by ((repeat' (first|exact jd|apply qT|exact jc rfl|exact jF|(apply qo;apply qU;exact .inr (of_decide_eq_true rfl))|(apply qo;apply jQ;exact .inr (of_decide_eq_true rfl))|(apply qo;apply je;exact .inr (of_decide_eq_true rfl))|apply jo|apply jp))<;>fail))
  (hlt:decide (q < nx) = true:=by rfl) (hr:r.ren (y4 (jh 0 [q,nx])) = r:=by rfl) (hN:d < N:=by exact nle rfl):xM C' N all gd es ⟨ts,hs,nx⟩ f args d tys ty pos af gg os K:=by
 have hl:q < nx:=of_decide_eq_true hlt
 refine yN [q] [nx] [(q,tyW (wrB q nx l' g' f1)),(nx,qK l')] (nx + 1) r hf hc hz (jg (tyW (Xn g f0)) jT (ya (qJ rfl)) hq rfl) (qL (ya (qk (qU (.inr (List.mem_cons_self ..))) (qk (je (.inr (List.mem_cons_of_mem _ (List.mem_cons_self ..)))) (qk (qA rfl) (qk (qA rfl) qZ))))) (qL yE jH)) k hr rfl rfl (Nat.le_of_ble_eq_true rfl) ?_ ?_ ?_ (by omega) hN
 ·simp;omega
 ·simp [yn]
 ·intro n hn;simp at hn;omega
theorem VB {f:FuncId} {fn:Func} {x:Operand} {first cap:List AV} {args:List Operand} {tys:Array TypeId} {d:Nat} {ty:TypeId} {pos:String} {af:Array Edge} {gg:Option (Nat × Bool)} {ys:List AV} {r:AV} {l l' : qj} {g g' f0 f1:Bool} (q m:Nat) (hf:C'.P.funcs[f]? = some fn)
  (hc:qu C'.P f ys [tyW (wrB 0 1 l g f0),qK l] r [tyW (wrB 0 2 l' g' f1),.dead,qK l'])
  (k:jW C' N all (⟨gd ++ (qM x ++ args.flatMap qM),[q,m],some d,r,[(q,tyW (wrB q nx l' g' f1)),(m,.dead),(nx,qK l')],[nx]⟩ :: es) ⟨(d,r) :: ts,(q,tyW (wrB q nx l' g' f1)) :: (m,.dead) :: (nx,qK l') :: hs,nx + 1⟩ os K)
  (hx:evA (qg ts) x = .clo (.func f) first cap:=by rfl) (hb0:fn.body.isNone = false:=by rfl) (hn0:(fn.name == "runtime.NumGoroutine") = false:=by rfl)
  (hq:qh hs q = tyW (wrB q m l g f0):=by rfl) (hm:qh hs m = qK l:=by rfl)
  (hz:qP (jh 0 [q,m]) [q,m] (qh hs) (first ++ args.map (evA (qg ts)) ++ cap) ys:=by ((repeat' (first|exact jd|apply qT|exact jc rfl|exact jF|(apply qo;apply qU;exact .inr (of_decide_eq_true rfl))|(apply qo;apply jQ;exact .inr (of_decide_eq_true rfl))|(apply qo;apply je;exact .inr (of_decide_eq_true rfl))|apply jo|apply jp))<;>fail))
  (hlt:(decide (q < nx) && decide (m < nx) && decide (q ≠ m)) = true:=by rfl) (hr:r.ren (y4 (jh 0 [q,m,nx])) = r:=by rfl) (hN:d < N:=by exact nle rfl):jq C' N all gd es ⟨ts,hs,nx⟩ ⟨some d,.call ⟨.value x,args.toArray,tys⟩,ty,pos,af,gg⟩ os K:=by
 have hl:=vV q m nx hlt
 refine kl [q,m] [nx] [(q,tyW (wrB q nx l' g' f1)),(m,.dead),(nx,qK l')] (nx + 1) r hf hc hz (vQ hq hm) Jk k hx hb0 hn0 hr rfl rfl (Nat.le_of_ble_eq_true rfl) (YT hl) ?_ ?_ (by omega) hN
 ·simp [yn]
 ·intro n hn;simp at hn;omega
end steps
theorem qf {L:List (Nat × Nat)} {nh n n' : Nat} (h:((decide (n < nh) && decide (n = n')) || L.contains (n,n')) = true):Maps L nh n n':=by
 simp only [Bool.or_eq_true,Bool.and_eq_true,decide_eq_true_eq,List.contains_iff_mem] at h
 rcases h with ⟨h,rfl⟩|h
 ·exact .inl ⟨h,rfl⟩
 ·exact .inr h
theorem yw {L:List (Nat × Nat)} {nh:Nat} {σ:St} {q q' m m' : Nat} {l l' : qj} {g g' f f' : Bool} {rest:List (Nat × HB)} (hq:qh σ.hs q = tyW (wrB q m l g f)) (hm:qh σ.hs m = qK l) (h1:Maps L nh q q') (h2:Maps L nh m m') (hl:l = l') (hg:g = g') (hf:f = f') (hr:jO L nh σ rest):jO L nh σ ((q',tyW (wrB q' m' l' g' f')) :: (m',qK l') :: rest):=by
 subst hl hg hf
 exact Qr (QW hr rfl h2 hm) (qk (qU h1) (qk (je h2) (qk (qA rfl) (qk (qA rfl) qZ)))) h1 hq
theorem vT {L:List (Nat × Nat)} {nh:Nat} {σ:St} {q q' m m' d' : Nat} {l l' : qj} {g g' f f' : Bool} {rest:List (Nat × HB)} (hq:qh σ.hs q = tyW (wrB q m l g f)) (hm:qh σ.hs m = qK l) (h1:Maps L nh q q') (h2:Maps L nh m m') (hd:Maps L nh d' d') (hl:l = l') (hg:g = g') (hf:f = f') (hr:jO L nh σ rest):jO L nh σ ((q',tyW (wrB q' m' l' g' f')) :: (d',.dead) :: (m',qK l') :: rest):=by
 subst hl hg hf
 exact Qr (xY (QW hr rfl h2 hm) hd) (qk (qU h1) (qk (je h2) (qk (qA rfl) (qk (qA rfl) qZ)))) h1 hq
theorem XE {L:List (Nat × Nat)} {nh:Nat} {σ:St} {q q' : Nat} {g f:Bool} {rest:List (Nat × HB)} (hq:qh σ.hs q = tyW (Xn g f)) (h1:Maps L nh q q') (hr:jO L nh σ rest):jO L nh σ ((q',tyW (Xn g f)) :: rest):=Qr hr (qJ rfl) h1 hq
end Go.Proofs.YtahbbnfmbohmmaaDoor
