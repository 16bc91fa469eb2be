import Derived.Test.YtahbbnfmbohmmaaDoorMz11
import Derived.Test.YtahbbnfmbohmmaaDoorMz12
import Derived.Test.YtahbbnfmbohmmaaDoorMz8
import Derived.Test.YtahbbnfmbohmmaaDoorMz3
set_option linter.unusedSimpArgs false
set_option linter.unnecessarySimpa false
set_option linter.unusedVariables false
set_option maxHeartbeats 1000000
namespace Go.Proofs.YtahbbnfmbohmmaaDoor
open Go.Ab Go.RowKit
set_option maxRecDepth 10000
attribute [local irreducible] Awp jU jo jz Red qt Go.Ab.Fin qr Rz vl jt jj ResOk jy jg yi qN
@[reducible] def wrB (q nb:Nat) (s:qh) (g f:Bool):List AV:=[.op q 0 0,.os nb 0 s.length,.v (.bool g),.v (.bool f)]
@[reducible] def Xl (g f:Bool):List AV:=[.v (.pointer none),.sl true [],.v (.bool g),.v (.bool f)]
@[reducible] def wr1 (q:Nat) (g f:Bool):List AV:=[.op q 0 0,.sl true [],.v (.bool g),.v (.bool f)]
@[reducible] def tyW (row:List AV):HB := .mp (.typ 53 4 [row])
@[reducible] def qI (s:qh):HB := .mp (.typ 5 1 (s.map jh))
theorem Xr (s:qh) (g f:Bool):qr C2.P 66 [.op 0 0 0] [tyW (wrB 0 1 s g f),qI s] (.tup []) [tyW (wrB 0 1 s g f),qI s]:=by
 refine qc (C:=C2) Tryd.func66 rfl _ Tryd.ntmps66 (Nat.le_of_ble_eq_true rfl) _ Tryd.results66 2 rfl rfl ?_
 repeat' (first|refine ql ?_|(first|(apply qq;apply Jp;(first|exact .inl ⟨rfl,rfl⟩|exact .inr ⟨⟨_,_,_,rfl⟩,rfl⟩);rfl;rfl;(first|exact .inl rfl|exact .inr rfl);exact nle rfl)|(apply qq;apply Qe;rfl;rfl;rfl;rfl;rfl;(exact of_decide_eq_true rfl);(first|exact .inl rfl|exact .inr rfl);exact nle rfl))|((first|refine g_sp_t ?_ ?_|refine g_sp_f ?_ ?_|refine xsC ?_ ?_);all_goals (intro hc;have hp:=hc;try simp at hp;try (exfalso;omega)))|refine jl ?_ ?_)
 all_goals ((apply qv (rs:=[]) [] 2;(case hr=>(repeat (first|exact qo|(apply qp;rfl)|(apply qk;rfl;rfl;rfl;rfl;rfl))));(case hL=>rfl);(case hh=>(repeat' (first|exact qg|refine xW ?_|refine Qp ?_ ?_|refine QU ?_ ?_|refine VE ?_|exact qX|apply qi|exact qy rfl|(apply qS;(first|exact jq rfl|exact .inr (List.mem_cons_self ..)|exact .inr (List.mem_cons_of_mem _ (List.mem_cons_self ..))|exact .inr (List.mem_cons_of_mem _ (List.mem_cons_of_mem _ (List.mem_cons_self ..)))|exact .inr (List.mem_cons_of_mem _ (List.mem_cons_of_mem _ (List.mem_cons_of_mem _ (List.mem_cons_self ..))))))|refine vU ?_|refine kq ?_ rfl));all_goals rfl);(case hi=>exact rfl);(case hz=>first|rfl|(simp [jC,AV.ren,AV.ren.renL,qY,qe,qT];done))))
theorem Vf (cap:Nat) (h:1 ≤ cap):liesAt C.P C.P.depth 53 (cap * 4 / C.P.cellsOf 53) 0 51 1 = true:=by
 obtain ⟨c,rfl⟩ : ∃ c,cap = c + 1:=⟨cap - 1,by omega⟩
 have h4:C.P.cellsOf 53 = 4:=by kernel_rfl
 rw [h4,Nat.mul_div_cancel _ (by decide)]
 show liesAt C.P C.P.depth 53 (c + 1) 0 51 1 = true
 have key : ∀ c:Nat,liesAt C.P C.P.depth 53 (c + 1) 0 51 1 = true:=by
  intro c
  kernel_rfl
 exact key c
theorem Xq (g f:Bool):qr C1.P 66 [.op 0 0 0] [tyW (Xl g f)] (.tup []) [tyW (wr1 0 g f)]:=by
 refine qc (C:=C1) Tryd.func66 rfl _ Tryd.ntmps66 (Nat.le_of_ble_eq_true rfl) _ Tryd.results66 1 rfl rfl ?_
 repeat' (first|refine ql ?_|(first|(apply qq;apply Jp;(first|exact .inl ⟨rfl,rfl⟩|exact .inr ⟨⟨_,_,_,rfl⟩,rfl⟩);rfl;rfl;(first|exact .inl rfl|exact .inr rfl);exact nle rfl)|(apply qq;apply Qe;rfl;rfl;rfl;rfl;rfl;(exact of_decide_eq_true rfl);(first|exact .inl rfl|exact .inr rfl);exact nle rfl)|(apply qq;apply Xx;rfl;exact Tryd.func71;rfl;rfl;rfl;rfl;exact nle rfl)|(apply qq;apply QL;rfl;rfl;exact nle rfl;rfl;rfl;rfl;(exact of_decide_eq_true rfl);exact Tryd.underlying112;exact nle rfl)|(apply qq;apply wi;rfl;rfl;rfl;rfl;rfl;exact Tryd.underlying112;exact Vf;exact nle rfl))|((first|refine g_sp_t ?_ ?_|refine g_sp_f ?_ ?_|refine xsC ?_ ?_);all_goals (intro hc;have hp:=hc;try simp at hp;try (exfalso;omega)))|refine jl ?_ ?_)
 all_goals ((apply qv (rs:=[]) [] 1;(case hr=>(repeat (first|exact qo|(apply qp;rfl)|(apply qk;rfl;rfl;rfl;rfl;rfl))));(case hL=>rfl);(case hh=>(repeat' (first|exact qg|refine xW ?_|refine Qp ?_ ?_|refine QU ?_ ?_|refine VE ?_|exact qX|apply qi|exact qy rfl|(apply qS;(first|exact jq rfl|exact .inr (List.mem_cons_self ..)|exact .inr (List.mem_cons_of_mem _ (List.mem_cons_self ..))|exact .inr (List.mem_cons_of_mem _ (List.mem_cons_of_mem _ (List.mem_cons_self ..)))|exact .inr (List.mem_cons_of_mem _ (List.mem_cons_of_mem _ (List.mem_cons_of_mem _ (List.mem_cons_self ..))))))|refine vU ?_|refine kq ?_ rfl));all_goals rfl);(case hi=>exact rfl);(case hz=>first|rfl|(simp [jC,AV.ren,AV.ren.renL,qY,qe,qT];done))))
set_option maxHeartbeats 1000000 in
theorem xN (l s:qh) (g f:Bool) (hl:l.length + s.length ≤ 140737488355328):qr C2.P 52 [.op 0 0 0,.v (str s)] [tyW (wrB 0 1 l g f),qI l] (.tup [.v (.int .i64 (s.length:Int)),.v .nilIface]) [tyW (wrB 0 2 (l ++ s) g f),.dead,qI (l ++ s)]:=by
 have hc:=Xr l g f
 refine qc (C:=C2) Tryd.func52 rfl _ Tryd.ntmps52 (Nat.le_of_ble_eq_true rfl) _ Tryd.results52 2 rfl rfl ?_
 repeat' (first|refine ql ?_|(first|(apply qa Tryd.func66 rfl rfl;intro hIsFn;refine yL [0,1] [] [(0,tyW (wrB 0 1 l g f)),(1,qI l)] 2 (.tup []) hIsFn (hc) ?hz ?hg ?hb ?_;(case hz=>(repeat' (first|exact jb|apply qR|exact ja rfl|exact jD|(apply qm;apply qS;exact .inr (of_decide_eq_true rfl))|(apply qm;apply jO;exact .inr (of_decide_eq_true rfl))|(apply qm;apply jc;exact .inr (of_decide_eq_true rfl))|apply jm|apply jn)));(case hg=>(repeat' (first|exact jR|exact jF|refine je _ ?_ ?_|refine qJ ?_ ?_|exact jB|exact jS (sideM_pure _)|exact jS (zF _)|exact jS (goesM_pure _)|exact vh (fun _=>rfl)|refine qO ?_|exact qX|apply qi|exact qy rfl|(apply jO;exact .inr (of_decide_eq_true rfl))|(apply jc;exact .inr (of_decide_eq_true rfl))|(apply qS;exact .inr (of_decide_eq_true rfl))|refine j8 ?_|exact yC)));(case hb=>(repeat' (first|exact jR|exact jF|refine je _ ?_ ?_|refine qJ ?_ ?_|exact jB|exact jS (sideM_pure _)|exact jS (zF _)|exact jS (goesM_pure _)|exact vh (fun _=>rfl)|refine qO ?_|exact qX|apply qi|exact qy rfl|(apply jO;exact .inr (of_decide_eq_true rfl))|(apply jc;exact .inr (of_decide_eq_true rfl))|(apply qS;exact .inr (of_decide_eq_true rfl))|refine j8 ?_|exact yC))))|(apply Qn;apply kD;rfl;rfl;rfl;rfl;rfl;rfl;rfl;rfl;rfl;rfl;rfl;exact hl;exact nofun;exact nle rfl))|((first|refine g_sp_t ?_ ?_|refine g_sp_f ?_ ?_|refine xsC ?_ ?_);all_goals (intro hc;have hp:=hc;try simp at hp;try (exfalso;omega)))|refine jl ?_ ?_)
 all_goals ((apply qv (rs:=[.tmp 4,.tmp 5]) [(2,2)] 3;(case hr=>(repeat (first|exact qo|(apply qp;rfl)|(apply qk;rfl;rfl;rfl;rfl;rfl))));(case hL=>rfl);(case hh=>(repeat' (first|exact qg|refine xW ?_|refine Qp ?_ ?_|refine QU ?_ ?_|refine VE ?_|exact qX|apply qi|exact qy rfl|(apply qS;(first|exact jq rfl|exact .inr (List.mem_cons_self ..)|exact .inr (List.mem_cons_of_mem _ (List.mem_cons_self ..))|exact .inr (List.mem_cons_of_mem _ (List.mem_cons_of_mem _ (List.mem_cons_self ..)))|exact .inr (List.mem_cons_of_mem _ (List.mem_cons_of_mem _ (List.mem_cons_of_mem _ (List.mem_cons_self ..))))))|refine vU ?_|refine kq ?_ rfl));all_goals rfl);(case hi=>exact rfl);(case hz=>first|rfl|(simp [jC,AV.ren,AV.ren.renL,qY,qe,qT];done))))
set_option maxHeartbeats 1000000 in
theorem Yp (s:qh) (g f:Bool) (h0:s ≠ []) (hl:s.length ≤ 140737488355328):qr C1.P 52 [.op 0 0 0,.v (str s)] [tyW (Xl g f)] (.tup [.v (.int .i64 (s.length:Int)),.v .nilIface]) [tyW (wrB 0 1 s g f),qI s]:=by
 have hc:=Xq g f
 refine qc (C:=C1) Tryd.func52 rfl _ Tryd.ntmps52 (Nat.le_of_ble_eq_true rfl) _ Tryd.results52 1 rfl rfl ?_
 repeat' (first|refine ql ?_|(first|(apply qa Tryd.func66 rfl rfl;intro hIsFn;refine yL [0] [] [(0,tyW (wr1 0 g f))] 1 (.tup []) hIsFn (hc) ?hz ?hg ?hb ?_;(case hz=>(repeat' (first|exact jb|apply qR|exact ja rfl|exact jD|(apply qm;apply qS;exact .inr (of_decide_eq_true rfl))|(apply qm;apply jO;exact .inr (of_decide_eq_true rfl))|(apply qm;apply jc;exact .inr (of_decide_eq_true rfl))|apply jm|apply jn)));(case hg=>(repeat' (first|exact jR|exact jF|refine je _ ?_ ?_|refine qJ ?_ ?_|exact jB|exact jS (sideM_pure _)|exact jS (zF _)|exact jS (goesM_pure _)|exact vh (fun _=>rfl)|refine qO ?_|exact qX|apply qi|exact qy rfl|(apply jO;exact .inr (of_decide_eq_true rfl))|(apply jc;exact .inr (of_decide_eq_true rfl))|(apply qS;exact .inr (of_decide_eq_true rfl))|refine j8 ?_|exact yC)));(case hb=>(repeat' (first|exact jR|exact jF|refine je _ ?_ ?_|refine qJ ?_ ?_|exact jB|exact jS (sideM_pure _)|exact jS (zF _)|exact jS (goesM_pure _)|exact vh (fun _=>rfl)|refine qO ?_|exact qX|apply qi|exact qy rfl|(apply jO;exact .inr (of_decide_eq_true rfl))|(apply jc;exact .inr (of_decide_eq_true rfl))|(apply qS;exact .inr (of_decide_eq_true rfl))|refine j8 ?_|exact yC))))|(apply yY;apply zW;rfl;rfl;exact h0;rfl;rfl;rfl;rfl;rfl;rfl;rfl;rfl;exact hl;exact nle rfl))|((first|refine g_sp_t ?_ ?_|refine g_sp_f ?_ ?_|refine xsC ?_ ?_);all_goals (intro hc;have hp:=hc;try simp at hp;try (exfalso;omega)))|refine jl ?_ ?_)
 all_goals ((apply qv (rs:=[.tmp 4,.tmp 5]) [(1,1)] 2;(case hr=>(repeat (first|exact qo|(apply qp;rfl)|(apply qk;rfl;rfl;rfl;rfl;rfl))));(case hL=>rfl);(case hh=>(repeat' (first|exact qg|refine xW ?_|refine Qp ?_ ?_|refine QU ?_ ?_|refine VE ?_|exact qX|apply qi|exact qy rfl|(apply qS;(first|exact jq rfl|exact .inr (List.mem_cons_self ..)|exact .inr (List.mem_cons_of_mem _ (List.mem_cons_self ..))|exact .inr (List.mem_cons_of_mem _ (List.mem_cons_of_mem _ (List.mem_cons_self ..)))|exact .inr (List.mem_cons_of_mem _ (List.mem_cons_of_mem _ (List.mem_cons_of_mem _ (List.mem_cons_self ..))))))|refine vU ?_|refine kq ?_ rfl));all_goals rfl);(case hi=>exact rfl);(case hz=>first|rfl|(simp [jC,AV.ren,AV.ren.renL,qY,qe,qT];done))))
set_option maxHeartbeats 1000000 in
theorem Ym (s:qh) (g f:Bool) (h0:s ≠ []) (hl:s.length ≤ 140737488355328):qr C2.P 56 [.op 0 0 0] [tyW (wrB 0 1 s g f),qI s] (.v (str s)) [tyW (wrB 0 1 s g f),.dead]:=by
 have hp:0 < s.length:=by cases s with|nil=>exact absurd rfl h0|cons _ _=>simp
 refine qc (C:=C2) Tryd.func56 rfl _ Tryd.ntmps56 (Nat.le_of_ble_eq_true rfl) _ Tryd.results56 2 rfl rfl ?_
 repeat' (first|refine ql ?_|(first|(apply qq;apply Ve;rfl;rfl;exact hp;exact nle rfl)|(apply YW;apply Xy;rfl;rfl;rfl;exact h0;rfl;rfl;kernel_rfl;omega;exact nle rfl))|((first|refine g_sp_t ?_ ?_|refine g_sp_f ?_ ?_|refine xsC ?_ ?_);all_goals (intro hc;have hp:=hc;try simp at hp;try (exfalso;omega)))|refine jl ?_ ?_)
 all_goals ((apply qv (rs:=[.tmp 2]) [] 2;(case hr=>(repeat (first|exact qo|(apply qp;rfl)|(apply qk;rfl;rfl;rfl;rfl;rfl))));(case hL=>rfl);(case hh=>(repeat' (first|exact qg|refine xW ?_|refine Qp ?_ ?_|refine QU ?_ ?_|refine VE ?_|exact qX|apply qi|exact qy rfl|(apply qS;(first|exact jq rfl|exact .inr (List.mem_cons_self ..)|exact .inr (List.mem_cons_of_mem _ (List.mem_cons_self ..))|exact .inr (List.mem_cons_of_mem _ (List.mem_cons_of_mem _ (List.mem_cons_self ..)))|exact .inr (List.mem_cons_of_mem _ (List.mem_cons_of_mem _ (List.mem_cons_of_mem _ (List.mem_cons_self ..))))))|refine vU ?_|refine kq ?_ rfl));all_goals rfl);(case hi=>exact rfl);(case hz=>first|rfl|(simp [jC,AV.ren,AV.ren.renL,qY,qe,qT];done))))
end Go.Proofs.YtahbbnfmbohmmaaDoor
set_option linter.unusedSimpArgs false
set_option linter.unnecessarySimpa false
set_option linter.unusedVariables false
namespace Go.Proofs.YtahbbnfmbohmmaaDoor
open Go.Ab Go.RowKit
section steps
variable {C' : Cx} {N:Nat} {all:Array Oper} {es:List Eff} {o:Oper} {os:List Oper} {K:List Eff → St → Prop} {ts:List (Nat × AV)} {hs:List (Nat × HB)} {nx:Nat} {gd:List Nat}
theorem vT (q m nx:Nat) (h:(decide (q < nx) && decide (m < nx) && decide (q ≠ m)) = true):q < nx ∧ m < nx ∧ q ≠ m:=by
 simp only [Bool.and_eq_true,decide_eq_true_eq] at h
 exact ⟨h.1.1,h.1.2,h.2⟩
theorem vO {q m:Nat} {l:qh} {g f:Bool} (hq:qf hs q = tyW (wrB q m l g f)) (hm:qf hs m = qI l):xL (jf 0 [q,m]) (qf hs) [q,m] [tyW (wrB 0 1 l g f),qI l] :=
 je (tyW (wrB q m l g f)) (je (qI l) jR yC hm rfl) (j8 (qi (qS (.inr (List.mem_cons_self ..))) (qi (jc (.inr (List.mem_cons_of_mem _ (List.mem_cons_self ..)))) (qi (qy rfl) (qi (qy rfl) qX))))) hq rfl
theorem Ji {q m n:Nat} {l:qh} {g f:Bool}:vI (y2 (jf 0 [q,m,n])) [(q,tyW (wrB q n l g f)),(m,.dead),(n,qI l)] [tyW (wrB 0 2 l g f),.dead,qI l] :=
 qJ (j8 (qi (qS (.inr (List.mem_cons_self ..))) (qi (jc (.inr (List.mem_cons_of_mem _ (List.mem_cons_of_mem _ (List.mem_cons_self ..))))) (qi (qy rfl) (qi (qy rfl) qX))))) (qJ jB (qJ yC jF))
theorem YR {q m n:Nat} (h:q < n ∧ m < n ∧ q ≠ m) : [q,m,n].Nodup:=by
 obtain ⟨h1,h2,h3⟩:=h
 simp only [List.nodup_cons,List.mem_cons,List.not_mem_nil,or_false,not_or,not_false_eq_true,List.nodup_nil,and_true]
 exact ⟨⟨h3,by omega⟩,by omega⟩
theorem xT {f:FuncId} {args:List Operand} {tys:Array TypeId} {d:Nat} {ty:TypeId} {pos:String} {af:Array Edge} {gg:Option (Nat × Bool)} {ys:List AV} {r:AV} {l l' : qh} {g g' f0 f1:Bool} (q m:Nat) (hf:IsFn C'.P f)
  (hc:qr C'.P f ys [tyW (wrB 0 1 l g f0),qI l] r [tyW (wrB 0 2 l' g' f1),.dead,qI l'])
  (k:jU C' N all (⟨gd ++ (qK (.func f) ++ args.flatMap qK),[q,m],some d,r,[(q,tyW (wrB q nx l' g' f1)),(m,.dead),(nx,qI l')],[nx]⟩ :: es) ⟨(d,r) :: ts,(q,tyW (wrB q nx l' g' f1)) :: (m,.dead) :: (nx,qI l') :: hs,nx + 1⟩ os K)
  (hq:qf hs q = tyW (wrB q m l g f0):=by rfl) (hm:qf hs m = qI l:=by rfl)
  (hz:qN (jf 0 [q,m]) [q,m] (qf hs) (args.map (evA (qe ts))) ys:=by ((repeat' (first|exact jb|apply qR|exact ja rfl|exact jD|(apply qm;apply qS;exact .inr (of_decide_eq_true rfl))|(apply qm;apply jO;exact .inr (of_decide_eq_true rfl))|(apply qm;apply jc;exact .inr (of_decide_eq_true rfl))|apply jm|apply jn))<;>fail))
  (hlt:(decide (q < nx) && decide (m < nx) && decide (q ≠ m)) = true:=by rfl) (hr:r.ren (y2 (jf 0 [q,m,nx])) = r:=by rfl) (hN:d < N:=by exact nle rfl):xK C' N all gd es ⟨ts,hs,nx⟩ f args d tys ty pos af gg os K:=by
 have hl:=vT q m nx hlt
 refine yL [q,m] [nx] [(q,tyW (wrB q nx l' g' f1)),(m,.dead),(nx,qI l')] (nx + 1) r hf hc hz (vO hq hm) Ji k hr rfl rfl (Nat.le_of_ble_eq_true rfl) (YR hl) ?_ ?_ (by omega) hN
 ·simp [yl]
 ·intro n hn;simp at hn;omega
theorem VA {f:FuncId} {args:List Operand} {tys:Array TypeId} {d:Nat} {ty:TypeId} {pos:String} {af:Array Edge} {gg:Option (Nat × Bool)} {ys:List AV} {r:AV} {l:qh} {g f0:Bool} (q m:Nat) (hf:IsFn C'.P f)
  (hc:qr C'.P f ys [tyW (wrB 0 1 l g f0),qI l] r [tyW (wrB 0 1 l g f0),.dead])
  (k:jU C' N all (⟨gd ++ (qK (.func f) ++ args.flatMap qK),[q,m],some d,r,[(q,tyW (wrB q m l g f0)),(m,.dead)],[]⟩ :: es) ⟨(d,r) :: ts,(q,tyW (wrB q m l g f0)) :: (m,.dead) :: hs,nx⟩ os K)
  (hq:qf hs q = tyW (wrB q m l g f0):=by rfl) (hm:qf hs m = qI l:=by rfl)
  (hz:qN (jf 0 [q,m]) [q,m] (qf hs) (args.map (evA (qe ts))) ys:=by ((repeat' (first|exact jb|apply qR|exact ja rfl|exact jD|(apply qm;apply qS;exact .inr (of_decide_eq_true rfl))|(apply qm;apply jO;exact .inr (of_decide_eq_true rfl))|(apply qm;apply jc;exact .inr (of_decide_eq_true rfl))|apply jm|apply jn))<;>fail))
  (hlt:(decide (q < nx) && decide (m < nx) && decide (q ≠ m)) = true:=by rfl) (hr:r.ren (y2 (jf 0 [q,m])) = r:=by rfl) (hN:d < N:=by exact nle rfl):xK C' N all gd es ⟨ts,hs,nx⟩ f args d tys ty pos af gg os K:=by
 have hl:=vT q m nx hlt
 refine yL [q,m] [] [(q,tyW (wrB q m l g f0)),(m,.dead)] nx r hf hc hz (vO hq hm) (qJ (j8 (qi (qS (.inr (List.mem_cons_self ..))) (qi (jc (.inr (List.mem_cons_of_mem _ (List.mem_cons_self ..)))) (qi (qy rfl) (qi (qy rfl) qX))))) (qJ jB jF)) k hr rfl rfl (Nat.le_of_ble_eq_true rfl) ?_ rfl (fun n hn=>by cases hn) (Nat.le_refl _) hN
 have:=hl.2.2
 simp [this]
theorem X3 {f:FuncId} {args:List Operand} {tys:Array TypeId} {d:Nat} {ty:TypeId} {pos:String} {af:Array Edge} {gg:Option (Nat × Bool)} {ys:List AV} {r:AV} {l:qh} {g g' f0 f1:Bool} (q m:Nat) (hf:IsFn C'.P f)
  (hc:qr C'.P f ys [tyW (wrB 0 1 l g f0),qI l] r [tyW (wrB 0 1 l g' f1),qI l])
  (k:jU C' N all (⟨gd ++ (qK (.func f) ++ args.flatMap qK),[q,m],some d,r,[(q,tyW (wrB q m l g' f1)),(m,qI l)],[]⟩ :: es) ⟨(d,r) :: ts,(q,tyW (wrB q m l g' f1)) :: (m,qI l) :: hs,nx⟩ os K)
  (hq:qf hs q = tyW (wrB q m l g f0):=by rfl) (hm:qf hs m = qI l:=by rfl)
  (hz:qN (jf 0 [q,m]) [q,m] (qf hs) (args.map (evA (qe ts))) ys:=by ((repeat' (first|exact jb|apply qR|exact ja rfl|exact jD|(apply qm;apply qS;exact .inr (of_decide_eq_true rfl))|(apply qm;apply jO;exact .inr (of_decide_eq_true rfl))|(apply qm;apply jc;exact .inr (of_decide_eq_true rfl))|apply jm|apply jn))<;>fail))
  (hlt:(decide (q < nx) && decide (m < nx) && decide (q ≠ m)) = true:=by rfl) (hr:r.ren (y2 (jf 0 [q,m])) = r:=by rfl) (hN:d < N:=by exact nle rfl):xK C' N all gd es ⟨ts,hs,nx⟩ f args d tys ty pos af gg os K:=by
 have hl:=vT q m nx hlt
 refine yL [q,m] [] [(q,tyW (wrB q m l g' f1)),(m,qI l)] nx r hf hc hz (vO hq hm) (qJ (j8 (qi (qS (.inr (List.mem_cons_self ..))) (qi (jc (.inr (List.mem_cons_of_mem _ (List.mem_cons_self ..)))) (qi (qy rfl) (qi (qy rfl) qX))))) (qJ yC jF)) k hr rfl rfl (Nat.le_of_ble_eq_true rfl) ?_ rfl (fun n hn=>by cases hn) (Nat.le_refl _) hN
 have:=hl.2.2
 simp [this]
theorem X4 {f:FuncId} {args:List Operand} {tys:Array TypeId} {d:Nat} {ty:TypeId} {pos:String} {af:Array Edge} {gg:Option (Nat × Bool)} {ys:List AV} {r:AV} {l:qh} {g f0:Bool} (q m:Nat) (hf:IsFn C'.P f)
  (hc:qr C'.P f ys [tyW (wrB 0 1 l g f0),qI l] r [.dead,.dead])
  (k:jU C' N all (⟨gd ++ (qK (.func f) ++ args.flatMap qK),[q,m],some d,r,[(q,.dead),(m,.dead)],[]⟩ :: es) ⟨(d,r) :: ts,(q,.dead) :: (m,.dead) :: hs,nx⟩ os K)
  (hq:qf hs q = tyW (wrB q m l g f0):=by rfl) (hm:qf hs m = qI l:=by rfl)
  (hz:qN (jf 0 [q,m]) [q,m] (qf hs) (args.map (evA (qe ts))) ys:=by ((repeat' (first|exact jb|apply qR|exact ja rfl|exact jD|(apply qm;apply qS;exact .inr (of_decide_eq_true rfl))|(apply qm;apply jO;exact .inr (of_decide_eq_true rfl))|(apply qm;apply jc;exact .inr (of_decide_eq_true rfl))|apply jm|apply jn))<;>fail))
  (hlt:(decide (q < nx) && decide (m < nx) && decide (q ≠ m)) = true:=by rfl) (hr:r.ren (y2 (jf 0 [q,m])) = r:=by rfl) (hN:d < N:=by exact nle rfl):xK C' N all gd es ⟨ts,hs,nx⟩ f args d tys ty pos af gg os K:=by
 have hl:=vT q m nx hlt
 refine yL [q,m] [] [(q,.dead),(m,.dead)] nx r hf hc hz (vO hq hm) (qJ jB (qJ jB jF)) k hr rfl rfl (Nat.le_of_ble_eq_true rfl) ?_ rfl (fun n hn=>by cases hn) (Nat.le_refl _) hN
 have:=hl.2.2
 simp [this]
theorem YV {f:FuncId} {args:List Operand} {tys:Array TypeId} {d:Nat} {ty:TypeId} {pos:String} {af:Array Edge} {gg:Option (Nat × Bool)} {ys:List AV} {r:AV} {l' : qh} {g g' f0 f1:Bool} (q:Nat) (hf:IsFn C'.P f)
  (hc:qr C'.P f ys [tyW (Xl g f0)] r [tyW (wrB 0 1 l' g' f1),qI l'])
  (k:jU C' N all (⟨gd ++ (qK (.func f) ++ args.flatMap qK),[q],some d,r,[(q,tyW (wrB q nx l' g' f1)),(nx,qI l')],[nx]⟩ :: es) ⟨(d,r) :: ts,(q,tyW (wrB q nx l' g' f1)) :: (nx,qI l') :: hs,nx + 1⟩ os K)
  (hq:qf hs q = tyW (Xl g f0):=by rfl)
  (hz:qN (jf 0 [q]) [q] (qf hs) (args.map (evA (qe ts))) ys:=by ((repeat' (first|exact jb|apply qR|exact ja rfl|exact jD|(apply qm;apply qS;exact .inr (of_decide_eq_true rfl))|(apply qm;apply jO;exact .inr (of_decide_eq_true rfl))|(apply qm;apply jc;exact .inr (of_decide_eq_true rfl))|apply jm|apply jn))<;>fail))
  (hlt:decide (q < nx) = true:=by rfl) (hr:r.ren (y2 (jf 0 [q,nx])) = r:=by rfl) (hN:d < N:=by exact nle rfl):xK C' N all gd es ⟨ts,hs,nx⟩ f args d tys ty pos af gg os K:=by
 have hl:q < nx:=of_decide_eq_true hlt
 refine yL [q] [nx] [(q,tyW (wrB q nx l' g' f1)),(nx,qI l')] (nx + 1) r hf hc hz (je (tyW (Xl g f0)) jR (j8 (qH rfl)) hq rfl) (qJ (j8 (qi (qS (.inr (List.mem_cons_self ..))) (qi (jc (.inr (List.mem_cons_of_mem _ (List.mem_cons_self ..)))) (qi (qy rfl) (qi (qy rfl) qX))))) (qJ yC jF)) k hr rfl rfl (Nat.le_of_ble_eq_true rfl) ?_ ?_ ?_ (by omega) hN
 ·simp;omega
 ·simp [yl]
 ·intro n hn;simp at hn;omega
theorem VB {f:FuncId} {fn:Func} {x:Operand} {first cap:List AV} {args:List Operand} {tys:Array TypeId} {d:Nat} {ty:TypeId} {pos:String} {af:Array Edge} {gg:Option (Nat × Bool)} {ys:List AV} {r:AV} {l l' : qh} {g g' f0 f1:Bool} (q m:Nat) (hf:C'.P.funcs[f]? = some fn)
  (hc:qr C'.P f ys [tyW (wrB 0 1 l g f0),qI l] r [tyW (wrB 0 2 l' g' f1),.dead,qI l'])
  (k:jU C' N all (⟨gd ++ (qK x ++ args.flatMap qK),[q,m],some d,r,[(q,tyW (wrB q nx l' g' f1)),(m,.dead),(nx,qI l')],[nx]⟩ :: es) ⟨(d,r) :: ts,(q,tyW (wrB q nx l' g' f1)) :: (m,.dead) :: (nx,qI l') :: hs,nx + 1⟩ os K)
  (hx:evA (qe ts) x = .clo (.func f) first cap:=by rfl) (hb0:fn.body.isNone = false:=by rfl) (hn0:(fn.name == "runtime.NumGoroutine") = false:=by rfl)
  (hq:qf hs q = tyW (wrB q m l g f0):=by rfl) (hm:qf hs m = qI l:=by rfl)
  (hz:qN (jf 0 [q,m]) [q,m] (qf hs) (first ++ args.map (evA (qe ts)) ++ cap) ys:=by ((repeat' (first|exact jb|apply qR|exact ja rfl|exact jD|(apply qm;apply qS;exact .inr (of_decide_eq_true rfl))|(apply qm;apply jO;exact .inr (of_decide_eq_true rfl))|(apply qm;apply jc;exact .inr (of_decide_eq_true rfl))|apply jm|apply jn))<;>fail))
  (hlt:(decide (q < nx) && decide (m < nx) && decide (q ≠ m)) = true:=by rfl) (hr:r.ren (y2 (jf 0 [q,m,nx])) = r:=by rfl) (hN:d < N:=by exact nle rfl):jo C' N all gd es ⟨ts,hs,nx⟩ ⟨some d,.call ⟨.value x,args.toArray,tys⟩,ty,pos,af,gg⟩ os K:=by
 have hl:=vT q m nx hlt
 refine ki [q,m] [nx] [(q,tyW (wrB q nx l' g' f1)),(m,.dead),(nx,qI l')] (nx + 1) r hf hc hz (vO hq hm) Ji k hx hb0 hn0 hr rfl rfl (Nat.le_of_ble_eq_true rfl) (YR hl) ?_ ?_ (by omega) hN
 ·simp [yl]
 ·intro n hn;simp at hn;omega
end steps
theorem qd {L:List (Nat × Nat)} {nh n n' : Nat} (h:((decide (n < nh) && decide (n = n')) || L.contains (n,n')) = true):Maps L nh n n':=by
 simp only [Bool.or_eq_true,Bool.and_eq_true,decide_eq_true_eq,List.contains_iff_mem] at h
 rcases h with ⟨h,rfl⟩|h
 ·exact .inl ⟨h,rfl⟩
 ·exact .inr h
theorem yu {L:List (Nat × Nat)} {nh:Nat} {σ:St} {q q' m m' : Nat} {l l' : qh} {g g' f f' : Bool} {rest:List (Nat × HB)} (hq:qf σ.hs q = tyW (wrB q m l g f)) (hm:qf σ.hs m = qI l) (h1:Maps L nh q q') (h2:Maps L nh m m') (hl:l = l') (hg:g = g') (hf:f = f') (hr:jM L nh σ rest):jM L nh σ ((q',tyW (wrB q' m' l' g' f')) :: (m',qI l') :: rest):=by
 subst hl hg hf
 exact Qp (QU hr rfl h2 hm) (qi (qS h1) (qi (jc h2) (qi (qy rfl) (qi (qy rfl) qX)))) h1 hq
theorem vR {L:List (Nat × Nat)} {nh:Nat} {σ:St} {q q' m m' d' : Nat} {l l' : qh} {g g' f f' : Bool} {rest:List (Nat × HB)} (hq:qf σ.hs q = tyW (wrB q m l g f)) (hm:qf σ.hs m = qI l) (h1:Maps L nh q q') (h2:Maps L nh m m') (hd:Maps L nh d' d') (hl:l = l') (hg:g = g') (hf:f = f') (hr:jM L nh σ rest):jM L nh σ ((q',tyW (wrB q' m' l' g' f')) :: (d',.dead) :: (m',qI l') :: rest):=by
 subst hl hg hf
 exact Qp (xW (QU hr rfl h2 hm) hd) (qi (qS h1) (qi (jc h2) (qi (qy rfl) (qi (qy rfl) qX)))) h1 hq
theorem XC {L:List (Nat × Nat)} {nh:Nat} {σ:St} {q q' : Nat} {g f:Bool} {rest:List (Nat × HB)} (hq:qf σ.hs q = tyW (Xl g f)) (h1:Maps L nh q q') (hr:jM L nh σ rest):jM L nh σ ((q',tyW (Xl g f)) :: rest):=Qp hr (qH rfl) h1 hq
end Go.Proofs.YtahbbnfmbohmmaaDoor
