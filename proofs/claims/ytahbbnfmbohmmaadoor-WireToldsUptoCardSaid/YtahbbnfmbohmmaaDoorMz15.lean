import Derived.Test.YtahbbnfmbohmmaaDoorMz8
import Derived.Test.YtahbbnfmbohmmaaDoorMz9
import Derived.Test.YtahbbnfmbohmmaaDoorMz13
import Derived.Test.YtahbbnfmbohmmaaDoorMz3
set_option linter.unusedSimpArgs false
set_option linter.unnecessarySimpa false
set_option linter.unusedVariables false
set_option maxHeartbeats 1000000
namespace Go.Proofs.YtahbbnfmbohmmaaDoor
open Go.Ab Go.RowKit
set_option maxRecDepth 10000
attribute [local irreducible] Awp jU jl qQ Red qD Go.Ab.Fin qt Rz yZ qO qJ ResOk jt qU jN qG
@[reducible] def wrB (q nb:Nat) (s:qo) (g f:Bool):List AV:=[.op q 0 0,.os nb 0 s.length,.v (.bool g),.v (.bool f)]
@[reducible] def Wx (g f:Bool):List AV:=[.v (.pointer none),.sl true [],.v (.bool g),.v (.bool f)]
@[reducible] def wr1 (q:Nat) (g f:Bool):List AV:=[.op q 0 0,.sl true [],.v (.bool g),.v (.bool f)]
@[reducible] def tyW (row:List AV):HB := .mp (.typ 53 4 [row])
@[reducible] def qK (s:qo):HB := .mp (.typ 5 1 (s.map j7))
theorem WC (s:qo) (g f:Bool):qt C2.P 66 [.op 0 0 0] [tyW (wrB 0 1 s g f),qK s] (.tup []) [tyW (wrB 0 1 s g f),qK s]:=by
 refine qf (C:=C2) Tryd.func66 rfl _ Tryd.ntmps66 (Nat.le_of_ble_eq_true rfl) _ Tryd.results66 2 rfl rfl ?_
 repeat' (first|refine qi ?_|(first|(apply qp;apply VW;(first|exact .inl ⟨rfl,rfl⟩|exact .inr ⟨⟨_,_,_,rfl⟩,rfl⟩);rfl;rfl;(first|exact .inl rfl|exact .inr rfl);exact nle rfl)|(apply qp;apply Xc;rfl;rfl;rfl;rfl;rfl;(exact of_decide_eq_true rfl);(first|exact .inl rfl|exact .inr rfl);exact nle rfl))|((first|(apply qb;rfl;rfl;exact nle rfl)|(apply qa;rfl;rfl;exact nle rfl)|refine xsC ?_ ?_);all_goals (intro hc;have hp:=hc;try simp at hp;try (exfalso;omega)))|refine qS ?_ ?_)
 all_goals ((apply qu (rs:=[]) [] 2;(case hr=>(repeat (first|exact qm|(apply qn;rfl)|(apply qj;rfl;rfl;rfl;rfl;rfl))));(case hL=>rfl);(case hh=>(repeat' (first|exact qe|refine zh ?_|refine YB ?_ ?_|refine Xp ?_ ?_|refine q_r ?_|exact qT|apply ql|exact qI rfl|(apply jf;(first|exact yj rfl|exact .inr (List.mem_cons_self ..)|exact .inr (List.mem_cons_of_mem _ (List.mem_cons_self ..))|exact .inr (List.mem_cons_of_mem _ (List.mem_cons_of_mem _ (List.mem_cons_self ..)))|exact .inr (List.mem_cons_of_mem _ (List.mem_cons_of_mem _ (List.mem_cons_of_mem _ (List.mem_cons_self ..))))))|refine k9 ?_|refine Jc ?_ rfl));all_goals rfl);(case hi=>exact rfl);(case hz=>first|rfl|(simp [ju,AV.ren,AV.ren.renL,qP,qr,qL];done))))
theorem qaN (cap:Nat) (h:1 ≤ cap):liesAt C.P C.P.depth 53 (cap * 4 / C.P.cellsOf 53) 0 51 1 = true:=by
 obtain ⟨c,rfl⟩ : ∃ c,cap = c + 1:=⟨cap - 1,by omega⟩
 have h4:C.P.cellsOf 53 = 4:=by kernel_rfl
 rw [h4,Nat.mul_div_cancel _ (by decide)]
 show liesAt C.P C.P.depth 53 (c + 1) 0 51 1 = true
 have key : ∀ c:Nat,liesAt C.P C.P.depth 53 (c + 1) 0 51 1 = true:=by
  intro c
  kernel_rfl
 exact key c
theorem WB (g f:Bool):qt C1.P 66 [.op 0 0 0] [tyW (Wx g f)] (.tup []) [tyW (wr1 0 g f)]:=by
 refine qf (C:=C1) Tryd.func66 rfl _ Tryd.ntmps66 (Nat.le_of_ble_eq_true rfl) _ Tryd.results66 1 rfl rfl ?_
 repeat' (first|refine qi ?_|(first|(apply qp;apply VW;(first|exact .inl ⟨rfl,rfl⟩|exact .inr ⟨⟨_,_,_,rfl⟩,rfl⟩);rfl;rfl;(first|exact .inl rfl|exact .inr rfl);exact nle rfl)|(apply qp;apply Xc;rfl;rfl;rfl;rfl;rfl;(exact of_decide_eq_true rfl);(first|exact .inl rfl|exact .inr rfl);exact nle rfl)|(apply qp;apply WQ;rfl;exact Tryd.func71;rfl;rfl;rfl;rfl;exact nle rfl)|(apply qp;apply XU;rfl;rfl;exact nle rfl;rfl;rfl;rfl;(exact of_decide_eq_true rfl);exact Tryd.underlying112;exact nle rfl)|(apply qp;apply Yh;rfl;rfl;rfl;rfl;rfl;exact Tryd.underlying112;exact qaN;exact nle rfl))|((first|(apply qb;rfl;rfl;exact nle rfl)|(apply qa;rfl;rfl;exact nle rfl)|refine xsC ?_ ?_);all_goals (intro hc;have hp:=hc;try simp at hp;try (exfalso;omega)))|refine qS ?_ ?_)
 all_goals ((apply qu (rs:=[]) [] 1;(case hr=>(repeat (first|exact qm|(apply qn;rfl)|(apply qj;rfl;rfl;rfl;rfl;rfl))));(case hL=>rfl);(case hh=>(repeat' (first|exact qe|refine zh ?_|refine YB ?_ ?_|refine Xp ?_ ?_|refine q_r ?_|exact qT|apply ql|exact qI rfl|(apply jf;(first|exact yj rfl|exact .inr (List.mem_cons_self ..)|exact .inr (List.mem_cons_of_mem _ (List.mem_cons_self ..))|exact .inr (List.mem_cons_of_mem _ (List.mem_cons_of_mem _ (List.mem_cons_self ..)))|exact .inr (List.mem_cons_of_mem _ (List.mem_cons_of_mem _ (List.mem_cons_of_mem _ (List.mem_cons_self ..))))))|refine k9 ?_|refine Jc ?_ rfl));all_goals rfl);(case hi=>exact rfl);(case hz=>first|rfl|(simp [ju,AV.ren,AV.ren.renL,qP,qr,qL];done))))
set_option maxHeartbeats 1000000 in
theorem zx (l s:qo) (g f:Bool) (hl:l.length + s.length ≤ 140737488355328):qt C2.P 52 [.op 0 0 0,.v (str s)] [tyW (wrB 0 1 l g f),qK l] (.tup [.v (.int .i64 (s.length:Int)),.v .nilIface]) [tyW (wrB 0 2 (l ++ s) g f),.dead,qK (l ++ s)]:=by
 have hc:=WC l g f
 refine qf (C:=C2) Tryd.func52 rfl _ Tryd.ntmps52 (Nat.le_of_ble_eq_true rfl) _ Tryd.results52 2 rfl rfl ?_
 repeat' (first|refine qi ?_|(first|(apply qc Tryd.func66 rfl rfl;intro hIsFn;refine xf [0,1] [] [(0,tyW (wrB 0 1 l g f)),(1,qK l)] 2 (.tup []) hIsFn (hc) ?hz ?hg ?hb ?_;(case hz=>(repeat' (first|exact jr|apply jj|exact jq rfl|exact jY|(apply qv;apply jf;exact .inr (of_decide_eq_true rfl))|(apply qv;apply yc;exact .inr (of_decide_eq_true rfl))|(apply qv;apply jn;exact .inr (of_decide_eq_true rfl))|apply jF|apply jG)));(case hg=>(repeat' (first|exact yt|exact ye|refine jA _ ?_ ?_|refine qV ?_ ?_|exact yd|exact yF (sideM_pure _)|exact yF (Qi _)|exact yF (goesM_pure _)|exact zY (fun _=>rfl)|refine qX ?_|exact qT|apply ql|exact qI rfl|(apply yc;exact .inr (of_decide_eq_true rfl))|(apply jn;exact .inr (of_decide_eq_true rfl))|(apply jf;exact .inr (of_decide_eq_true rfl))|refine yz ?_|exact yQ)));(case hb=>(repeat' (first|exact yt|exact ye|refine jA _ ?_ ?_|refine qV ?_ ?_|exact yd|exact yF (sideM_pure _)|exact yF (Qi _)|exact yF (goesM_pure _)|exact zY (fun _=>rfl)|refine qX ?_|exact qT|apply ql|exact qI rfl|(apply yc;exact .inr (of_decide_eq_true rfl))|(apply jn;exact .inr (of_decide_eq_true rfl))|(apply jf;exact .inr (of_decide_eq_true rfl))|refine yz ?_|exact yQ))))|(apply Xn;apply Jv;rfl;rfl;rfl;rfl;rfl;rfl;rfl;rfl;rfl;rfl;rfl;exact hl;exact nofun;exact nle rfl))|((first|(apply qb;rfl;rfl;exact nle rfl)|(apply qa;rfl;rfl;exact nle rfl)|refine xsC ?_ ?_);all_goals (intro hc;have hp:=hc;try simp at hp;try (exfalso;omega)))|refine qS ?_ ?_)
 all_goals ((apply qu (rs:=[.tmp 4,.tmp 5]) [(2,2)] 3;(case hr=>(repeat (first|exact qm|(apply qn;rfl)|(apply qj;rfl;rfl;rfl;rfl;rfl))));(case hL=>rfl);(case hh=>(repeat' (first|exact qe|refine zh ?_|refine YB ?_ ?_|refine Xp ?_ ?_|refine q_r ?_|exact qT|apply ql|exact qI rfl|(apply jf;(first|exact yj rfl|exact .inr (List.mem_cons_self ..)|exact .inr (List.mem_cons_of_mem _ (List.mem_cons_self ..))|exact .inr (List.mem_cons_of_mem _ (List.mem_cons_of_mem _ (List.mem_cons_self ..)))|exact .inr (List.mem_cons_of_mem _ (List.mem_cons_of_mem _ (List.mem_cons_of_mem _ (List.mem_cons_self ..))))))|refine k9 ?_|refine Jc ?_ rfl));all_goals rfl);(case hi=>exact rfl);(case hz=>first|rfl|(simp [ju,AV.ren,AV.ren.renL,qP,qr,qL];done))))
set_option maxHeartbeats 1000000 in
theorem Ki (s:qo) (g f:Bool) (h0:s ≠ []) (hl:s.length ≤ 140737488355328):qt C1.P 52 [.op 0 0 0,.v (str s)] [tyW (Wx g f)] (.tup [.v (.int .i64 (s.length:Int)),.v .nilIface]) [tyW (wrB 0 1 s g f),qK s]:=by
 have hc:=WB g f
 refine qf (C:=C1) Tryd.func52 rfl _ Tryd.ntmps52 (Nat.le_of_ble_eq_true rfl) _ Tryd.results52 1 rfl rfl ?_
 repeat' (first|refine qi ?_|(first|(apply qc Tryd.func66 rfl rfl;intro hIsFn;refine xf [0] [] [(0,tyW (wr1 0 g f))] 1 (.tup []) hIsFn (hc) ?hz ?hg ?hb ?_;(case hz=>(repeat' (first|exact jr|apply jj|exact jq rfl|exact jY|(apply qv;apply jf;exact .inr (of_decide_eq_true rfl))|(apply qv;apply yc;exact .inr (of_decide_eq_true rfl))|(apply qv;apply jn;exact .inr (of_decide_eq_true rfl))|apply jF|apply jG)));(case hg=>(repeat' (first|exact yt|exact ye|refine jA _ ?_ ?_|refine qV ?_ ?_|exact yd|exact yF (sideM_pure _)|exact yF (Qi _)|exact yF (goesM_pure _)|exact zY (fun _=>rfl)|refine qX ?_|exact qT|apply ql|exact qI rfl|(apply yc;exact .inr (of_decide_eq_true rfl))|(apply jn;exact .inr (of_decide_eq_true rfl))|(apply jf;exact .inr (of_decide_eq_true rfl))|refine yz ?_|exact yQ)));(case hb=>(repeat' (first|exact yt|exact ye|refine jA _ ?_ ?_|refine qV ?_ ?_|exact yd|exact yF (sideM_pure _)|exact yF (Qi _)|exact yF (goesM_pure _)|exact zY (fun _=>rfl)|refine qX ?_|exact qT|apply ql|exact qI rfl|(apply yc;exact .inr (of_decide_eq_true rfl))|(apply jn;exact .inr (of_decide_eq_true rfl))|(apply jf;exact .inr (of_decide_eq_true rfl))|refine yz ?_|exact yQ))))|(apply yw;apply QL;rfl;rfl;exact h0;rfl;rfl;rfl;rfl;rfl;rfl;rfl;rfl;exact hl;exact nle rfl))|((first|(apply qb;rfl;rfl;exact nle rfl)|(apply qa;rfl;rfl;exact nle rfl)|refine xsC ?_ ?_);all_goals (intro hc;have hp:=hc;try simp at hp;try (exfalso;omega)))|refine qS ?_ ?_)
 all_goals ((apply qu (rs:=[.tmp 4,.tmp 5]) [(1,1)] 2;(case hr=>(repeat (first|exact qm|(apply qn;rfl)|(apply qj;rfl;rfl;rfl;rfl;rfl))));(case hL=>rfl);(case hh=>(repeat' (first|exact qe|refine zh ?_|refine YB ?_ ?_|refine Xp ?_ ?_|refine q_r ?_|exact qT|apply ql|exact qI rfl|(apply jf;(first|exact yj rfl|exact .inr (List.mem_cons_self ..)|exact .inr (List.mem_cons_of_mem _ (List.mem_cons_self ..))|exact .inr (List.mem_cons_of_mem _ (List.mem_cons_of_mem _ (List.mem_cons_self ..)))|exact .inr (List.mem_cons_of_mem _ (List.mem_cons_of_mem _ (List.mem_cons_of_mem _ (List.mem_cons_self ..))))))|refine k9 ?_|refine Jc ?_ rfl));all_goals rfl);(case hi=>exact rfl);(case hz=>first|rfl|(simp [ju,AV.ren,AV.ren.renL,qP,qr,qL];done))))
set_option maxHeartbeats 1000000 in
theorem Kd (s:qo) (g f:Bool) (h0:s ≠ []) (hl:s.length ≤ 140737488355328):qt C2.P 56 [.op 0 0 0] [tyW (wrB 0 1 s g f),qK s] (.v (str s)) [tyW (wrB 0 1 s g f),.dead]:=by
 have hp:0 < s.length:=by cases s with|nil=>exact absurd rfl h0|cons _ _=>simp
 refine qf (C:=C2) Tryd.func56 rfl _ Tryd.ntmps56 (Nat.le_of_ble_eq_true rfl) _ Tryd.results56 2 rfl rfl ?_
 repeat' (first|refine qi ?_|(first|(apply qp;apply qaI;rfl;rfl;exact hp;exact nle rfl)|(apply K2;apply WR;rfl;rfl;rfl;exact h0;rfl;rfl;kernel_rfl;omega;exact nle rfl))|((first|(apply qb;rfl;rfl;exact nle rfl)|(apply qa;rfl;rfl;exact nle rfl)|refine xsC ?_ ?_);all_goals (intro hc;have hp:=hc;try simp at hp;try (exfalso;omega)))|refine qS ?_ ?_)
 all_goals ((apply qu (rs:=[.tmp 2]) [] 2;(case hr=>(repeat (first|exact qm|(apply qn;rfl)|(apply qj;rfl;rfl;rfl;rfl;rfl))));(case hL=>rfl);(case hh=>(repeat' (first|exact qe|refine zh ?_|refine YB ?_ ?_|refine Xp ?_ ?_|refine q_r ?_|exact qT|apply ql|exact qI rfl|(apply jf;(first|exact yj rfl|exact .inr (List.mem_cons_self ..)|exact .inr (List.mem_cons_of_mem _ (List.mem_cons_self ..))|exact .inr (List.mem_cons_of_mem _ (List.mem_cons_of_mem _ (List.mem_cons_self ..)))|exact .inr (List.mem_cons_of_mem _ (List.mem_cons_of_mem _ (List.mem_cons_of_mem _ (List.mem_cons_self ..))))))|refine k9 ?_|refine Jc ?_ rfl));all_goals rfl);(case hi=>exact rfl);(case hz=>first|rfl|(simp [ju,AV.ren,AV.ren.renL,qP,qr,qL];done))))
end Go.Proofs.YtahbbnfmbohmmaaDoor
set_option linter.unusedSimpArgs false
set_option linter.unnecessarySimpa false
set_option linter.unusedVariables false
namespace Go.Proofs.YtahbbnfmbohmmaaDoor
open Go.Ab Go.RowKit
section steps
variable {C' : Cx} {N:Nat} {all:Array Oper} {es:List Eff} {o:Oper} {os:List Oper} {K:List Eff → St → Prop} {ts:List (Nat × AV)} {hs:List (Nat × HB)} {nx:Nat} {gd:List Nat}
theorem k6 (q m nx:Nat) (h:(decide (q < nx) && decide (m < nx) && decide (q ≠ m)) = true):q < nx ∧ m < nx ∧ q ≠ m:=by
 simp only [Bool.and_eq_true,decide_eq_true_eq] at h
 exact ⟨h.1.1,h.1.2,h.2⟩
theorem kU {q m:Nat} {l:qo} {g f:Bool} (hq:qq hs q = tyW (wrB q m l g f)) (hm:qq hs m = qK l):vG (jE 0 [q,m]) (qq hs) [q,m] [tyW (wrB 0 1 l g f),qK l] :=
 jA (tyW (wrB q m l g f)) (jA (qK l) yt yQ hm rfl) (yz (ql (jf (.inr (List.mem_cons_self ..))) (ql (jn (.inr (List.mem_cons_of_mem _ (List.mem_cons_self ..)))) (ql (qI rfl) (ql (qI rfl) qT))))) hq rfl
theorem VJ {q m n:Nat} {l:qo} {g f:Bool}:zu (xw (jE 0 [q,m,n])) [(q,tyW (wrB q n l g f)),(m,.dead),(n,qK l)] [tyW (wrB 0 2 l g f),.dead,qK l] :=
 qV (yz (ql (jf (.inr (List.mem_cons_self ..))) (ql (jn (.inr (List.mem_cons_of_mem _ (List.mem_cons_of_mem _ (List.mem_cons_self ..))))) (ql (qI rfl) (ql (qI rfl) qT))))) (qV yd (qV yQ ye))
theorem KW {q m n:Nat} (h:q < n ∧ m < n ∧ q ≠ m) : [q,m,n].Nodup:=by
 obtain ⟨h1,h2,h3⟩:=h
 simp only [List.nodup_cons,List.mem_cons,List.not_mem_nil,or_false,not_or,not_false_eq_true,List.nodup_nil,and_true]
 exact ⟨⟨h3,by omega⟩,by omega⟩
theorem yC {f:FuncId} {args:List Operand} {tys:Array TypeId} {d:Nat} {ty:TypeId} {pos:String} {af:Array Edge} {gg:Option (Nat × Bool)} {ys:List AV} {r:AV} {l l' : qo} {g g' f0 f1:Bool} (q m:Nat) (hf:IsFn C'.P f)
  (hc:qt C'.P f ys [tyW (wrB 0 1 l g f0),qK l] r [tyW (wrB 0 2 l' g' f1),.dead,qK l'])
  (k:jU C' N all (⟨gd ++ (jp (.func f) ++ args.flatMap jp),[q,m],some d,r,[(q,tyW (wrB q nx l' g' f1)),(m,.dead),(nx,qK l')],[nx]⟩ :: es) ⟨(d,r) :: ts,(q,tyW (wrB q nx l' g' f1)) :: (m,.dead) :: (nx,qK l') :: hs,nx + 1⟩ os K)
  (hq:qq hs q = tyW (wrB q m l g f0):=by rfl) (hm:qq hs m = qK l:=by rfl)
  (hz:qG (jE 0 [q,m]) [q,m] (qq hs) (args.map (evA (qr ts))) ys:=by ((repeat' (first|exact jr|apply jj|exact jq rfl|exact jY|(apply qv;apply jf;exact .inr (of_decide_eq_true rfl))|(apply qv;apply yc;exact .inr (of_decide_eq_true rfl))|(apply qv;apply jn;exact .inr (of_decide_eq_true rfl))|apply jF|apply jG))<;>fail))
  (hlt:(decide (q < nx) && decide (m < nx) && decide (q ≠ m)) = true:=by rfl) (hr:r.ren (xw (jE 0 [q,m,nx])) = r:=by rfl) (hN:d < N:=by exact nle rfl):vw C' N all gd es ⟨ts,hs,nx⟩ f args d tys ty pos af gg os K:=by
 have hl:=k6 q m nx hlt
 refine xf [q,m] [nx] [(q,tyW (wrB q nx l' g' f1)),(m,.dead),(nx,qK l')] (nx + 1) r hf hc hz (kU hq hm) VJ k hr rfl rfl (Nat.le_of_ble_eq_true rfl) (KW hl) ?_ ?_ (by omega) hN
 ·simp [xi]
 ·intro n hn;simp at hn;omega
theorem qbs {f:FuncId} {args:List Operand} {tys:Array TypeId} {d:Nat} {ty:TypeId} {pos:String} {af:Array Edge} {gg:Option (Nat × Bool)} {ys:List AV} {r:AV} {l:qo} {g f0:Bool} (q m:Nat) (hf:IsFn C'.P f)
  (hc:qt C'.P f ys [tyW (wrB 0 1 l g f0),qK l] r [tyW (wrB 0 1 l g f0),.dead])
  (k:jU C' N all (⟨gd ++ (jp (.func f) ++ args.flatMap jp),[q,m],some d,r,[(q,tyW (wrB q m l g f0)),(m,.dead)],[]⟩ :: es) ⟨(d,r) :: ts,(q,tyW (wrB q m l g f0)) :: (m,.dead) :: hs,nx⟩ os K)
  (hq:qq hs q = tyW (wrB q m l g f0):=by rfl) (hm:qq hs m = qK l:=by rfl)
  (hz:qG (jE 0 [q,m]) [q,m] (qq hs) (args.map (evA (qr ts))) ys:=by ((repeat' (first|exact jr|apply jj|exact jq rfl|exact jY|(apply qv;apply jf;exact .inr (of_decide_eq_true rfl))|(apply qv;apply yc;exact .inr (of_decide_eq_true rfl))|(apply qv;apply jn;exact .inr (of_decide_eq_true rfl))|apply jF|apply jG))<;>fail))
  (hlt:(decide (q < nx) && decide (m < nx) && decide (q ≠ m)) = true:=by rfl) (hr:r.ren (xw (jE 0 [q,m])) = r:=by rfl) (hN:d < N:=by exact nle rfl):vw C' N all gd es ⟨ts,hs,nx⟩ f args d tys ty pos af gg os K:=by
 have hl:=k6 q m nx hlt
 refine xf [q,m] [] [(q,tyW (wrB q m l g f0)),(m,.dead)] nx r hf hc hz (kU hq hm) (qV (yz (ql (jf (.inr (List.mem_cons_self ..))) (ql (jn (.inr (List.mem_cons_of_mem _ (List.mem_cons_self ..)))) (ql (qI rfl) (ql (qI rfl) qT))))) (qV yd ye)) k hr rfl rfl (Nat.le_of_ble_eq_true rfl) ?_ rfl (fun n hn=>by cases hn) (Nat.le_refl _) hN
 have:=hl.2.2
 simp [this]
theorem K0 {f:FuncId} {args:List Operand} {tys:Array TypeId} {d:Nat} {ty:TypeId} {pos:String} {af:Array Edge} {gg:Option (Nat × Bool)} {ys:List AV} {r:AV} {l:qo} {g g' f0 f1:Bool} (q m:Nat) (hf:IsFn C'.P f)
  (hc:qt C'.P f ys [tyW (wrB 0 1 l g f0),qK l] r [tyW (wrB 0 1 l g' f1),qK l])
  (k:jU C' N all (⟨gd ++ (jp (.func f) ++ args.flatMap jp),[q,m],some d,r,[(q,tyW (wrB q m l g' f1)),(m,qK l)],[]⟩ :: es) ⟨(d,r) :: ts,(q,tyW (wrB q m l g' f1)) :: (m,qK l) :: hs,nx⟩ os K)
  (hq:qq hs q = tyW (wrB q m l g f0):=by rfl) (hm:qq hs m = qK l:=by rfl)
  (hz:qG (jE 0 [q,m]) [q,m] (qq hs) (args.map (evA (qr ts))) ys:=by ((repeat' (first|exact jr|apply jj|exact jq rfl|exact jY|(apply qv;apply jf;exact .inr (of_decide_eq_true rfl))|(apply qv;apply yc;exact .inr (of_decide_eq_true rfl))|(apply qv;apply jn;exact .inr (of_decide_eq_true rfl))|apply jF|apply jG))<;>fail))
  (hlt:(decide (q < nx) && decide (m < nx) && decide (q ≠ m)) = true:=by rfl) (hr:r.ren (xw (jE 0 [q,m])) = r:=by rfl) (hN:d < N:=by exact nle rfl):vw C' N all gd es ⟨ts,hs,nx⟩ f args d tys ty pos af gg os K:=by
 have hl:=k6 q m nx hlt
 refine xf [q,m] [] [(q,tyW (wrB q m l g' f1)),(m,qK l)] nx r hf hc hz (kU hq hm) (qV (yz (ql (jf (.inr (List.mem_cons_self ..))) (ql (jn (.inr (List.mem_cons_of_mem _ (List.mem_cons_self ..)))) (ql (qI rfl) (ql (qI rfl) qT))))) (qV yQ ye)) k hr rfl rfl (Nat.le_of_ble_eq_true rfl) ?_ rfl (fun n hn=>by cases hn) (Nat.le_refl _) hN
 have:=hl.2.2
 simp [this]
theorem Xl {f:FuncId} {args:List Operand} {tys:Array TypeId} {d:Nat} {ty:TypeId} {pos:String} {af:Array Edge} {gg:Option (Nat × Bool)} {ys:List AV} {r:AV} {l:qo} {g f0:Bool} (q m:Nat) (hf:IsFn C'.P f)
  (hc:qt C'.P f ys [tyW (wrB 0 1 l g f0),qK l] r [.dead,.dead])
  (k:jU C' N all (⟨gd ++ (jp (.func f) ++ args.flatMap jp),[q,m],some d,r,[(q,.dead),(m,.dead)],[]⟩ :: es) ⟨(d,r) :: ts,(q,.dead) :: (m,.dead) :: hs,nx⟩ os K)
  (hq:qq hs q = tyW (wrB q m l g f0):=by rfl) (hm:qq hs m = qK l:=by rfl)
  (hz:qG (jE 0 [q,m]) [q,m] (qq hs) (args.map (evA (qr ts))) ys:=by ((repeat' (first|exact jr|apply jj|exact jq rfl|exact jY|(apply qv;apply jf;exact .inr (of_decide_eq_true rfl))|(apply qv;apply yc;exact .inr (of_decide_eq_true rfl))|(apply qv;apply jn;exact .inr (of_decide_eq_true rfl))|apply jF|apply jG))<;>fail))
  (hlt:(decide (q < nx) && decide (m < nx) && decide (q ≠ m)) = true:=by rfl) (hr:r.ren (xw (jE 0 [q,m])) = r:=by rfl) (hN:d < N:=by exact nle rfl):vw C' N all gd es ⟨ts,hs,nx⟩ f args d tys ty pos af gg os K:=by
 have hl:=k6 q m nx hlt
 refine xf [q,m] [] [(q,.dead),(m,.dead)] nx r hf hc hz (kU hq hm) (qV yd (qV yd ye)) k hr rfl rfl (Nat.le_of_ble_eq_true rfl) ?_ rfl (fun n hn=>by cases hn) (Nat.le_refl _) hN
 have:=hl.2.2
 simp [this]
theorem JO {f:FuncId} {args:List Operand} {tys:Array TypeId} {d:Nat} {ty:TypeId} {pos:String} {af:Array Edge} {gg:Option (Nat × Bool)} {ys:List AV} {r:AV} {l' : qo} {g g' f0 f1:Bool} (q:Nat) (hf:IsFn C'.P f)
  (hc:qt C'.P f ys [tyW (Wx g f0)] r [tyW (wrB 0 1 l' g' f1),qK l'])
  (k:jU C' N all (⟨gd ++ (jp (.func f) ++ args.flatMap jp),[q],some d,r,[(q,tyW (wrB q nx l' g' f1)),(nx,qK l')],[nx]⟩ :: es) ⟨(d,r) :: ts,(q,tyW (wrB q nx l' g' f1)) :: (nx,qK l') :: hs,nx + 1⟩ os K)
  (hq:qq hs q = tyW (Wx g f0):=by rfl)
  (hz:qG (jE 0 [q]) [q] (qq hs) (args.map (evA (qr ts))) ys:=by ((repeat' (first|exact jr|apply jj|exact jq rfl|exact jY|(apply qv;apply jf;exact .inr (of_decide_eq_true rfl))|(apply qv;apply yc;exact .inr (of_decide_eq_true rfl))|(apply qv;apply jn;exact .inr (of_decide_eq_true rfl))|apply jF|apply jG))<;>fail))
  (hlt:decide (q < nx) = true:=by rfl) (hr:r.ren (xw (jE 0 [q,nx])) = r:=by rfl) (hN:d < N:=by exact nle rfl):vw C' N all gd es ⟨ts,hs,nx⟩ f args d tys ty pos af gg os K:=by
 have hl:q < nx:=of_decide_eq_true hlt
 refine xf [q] [nx] [(q,tyW (wrB q nx l' g' f1)),(nx,qK l')] (nx + 1) r hf hc hz (jA (tyW (Wx g f0)) yt (yz (qE rfl)) hq rfl) (qV (yz (ql (jf (.inr (List.mem_cons_self ..))) (ql (jn (.inr (List.mem_cons_of_mem _ (List.mem_cons_self ..)))) (ql (qI rfl) (ql (qI rfl) qT))))) (qV yQ ye)) k hr rfl rfl (Nat.le_of_ble_eq_true rfl) ?_ ?_ ?_ (by omega) hN
 ·simp;omega
 ·simp [xi]
 ·intro n hn;simp at hn;omega
theorem qbt {f:FuncId} {fn:Func} {x:Operand} {first cap:List AV} {args:List Operand} {tys:Array TypeId} {d:Nat} {ty:TypeId} {pos:String} {af:Array Edge} {gg:Option (Nat × Bool)} {ys:List AV} {r:AV} {l l' : qo} {g g' f0 f1:Bool} (q m:Nat) (hf:C'.P.funcs[f]? = some fn)
  (hc:qt C'.P f ys [tyW (wrB 0 1 l g f0),qK l] r [tyW (wrB 0 2 l' g' f1),.dead,qK l'])
  (k:jU C' N all (⟨gd ++ (jp x ++ args.flatMap jp),[q,m],some d,r,[(q,tyW (wrB q nx l' g' f1)),(m,.dead),(nx,qK l')],[nx]⟩ :: es) ⟨(d,r) :: ts,(q,tyW (wrB q nx l' g' f1)) :: (m,.dead) :: (nx,qK l') :: hs,nx + 1⟩ os K)
  (hx:evA (qr ts) x = .clo (.func f) first cap:=by rfl) (hb0:fn.body.isNone = false:=by rfl) (hn0:(fn.name == "runtime.NumGoroutine") = false:=by rfl)
  (hq:qq hs q = tyW (wrB q m l g f0):=by rfl) (hm:qq hs m = qK l:=by rfl)
  (hz:qG (jE 0 [q,m]) [q,m] (qq hs) (first ++ args.map (evA (qr ts)) ++ cap) ys:=by ((repeat' (first|exact jr|apply jj|exact jq rfl|exact jY|(apply qv;apply jf;exact .inr (of_decide_eq_true rfl))|(apply qv;apply yc;exact .inr (of_decide_eq_true rfl))|(apply qv;apply jn;exact .inr (of_decide_eq_true rfl))|apply jF|apply jG))<;>fail))
  (hlt:(decide (q < nx) && decide (m < nx) && decide (q ≠ m)) = true:=by rfl) (hr:r.ren (xw (jE 0 [q,m,nx])) = r:=by rfl) (hN:d < N:=by exact nle rfl):jl C' N all gd es ⟨ts,hs,nx⟩ ⟨some d,.call ⟨.value x,args.toArray,tys⟩,ty,pos,af,gg⟩ os K:=by
 have hl:=k6 q m nx hlt
 refine zG [q,m] [nx] [(q,tyW (wrB q nx l' g' f1)),(m,.dead),(nx,qK l')] (nx + 1) r hf hc hz (kU hq hm) VJ k hx hb0 hn0 hr rfl rfl (Nat.le_of_ble_eq_true rfl) (KW hl) ?_ ?_ (by omega) hN
 ·simp [xi]
 ·intro n hn;simp at hn;omega
end steps
theorem qd {L:List (Nat × Nat)} {nh n n' : Nat} (h:((decide (n < nh) && decide (n = n')) || L.contains (n,n')) = true):Maps L nh n n':=by
 simp only [Bool.or_eq_true,Bool.and_eq_true,decide_eq_true_eq,List.contains_iff_mem] at h
 rcases h with ⟨h,rfl⟩|h
 ·exact .inl ⟨h,rfl⟩
 ·exact .inr h
theorem yB {L:List (Nat × Nat)} {nh:Nat} {σ:St} {q q' m m' : Nat} {l l' : qo} {g g' f f' : Bool} {rest:List (Nat × HB)} (hq:qq σ.hs q = tyW (wrB q m l g f)) (hm:qq σ.hs m = qK l) (h1:Maps L nh q q') (h2:Maps L nh m m') (hl:l = l') (hg:g = g') (hf:f = f') (hr:jZ L nh σ rest):jZ L nh σ ((q',tyW (wrB q' m' l' g' f')) :: (m',qK l') :: rest):=by
 subst hl hg hf
 exact YB (Xp hr rfl h2 hm) (ql (jf h1) (ql (jn h2) (ql (qI rfl) (ql (qI rfl) qT)))) h1 hq
theorem zb {L:List (Nat × Nat)} {nh:Nat} {σ:St} {q q' m m' d' : Nat} {l l' : qo} {g g' f f' : Bool} {rest:List (Nat × HB)} (hq:qq σ.hs q = tyW (wrB q m l g f)) (hm:qq σ.hs m = qK l) (h1:Maps L nh q q') (h2:Maps L nh m m') (hd:Maps L nh d' d') (hl:l = l') (hg:g = g') (hf:f = f') (hr:jZ L nh σ rest):jZ L nh σ ((q',tyW (wrB q' m' l' g' f')) :: (d',.dead) :: (m',qK l') :: rest):=by
 subst hl hg hf
 exact YB (zh (Xp hr rfl h2 hm) hd) (ql (jf h1) (ql (jn h2) (ql (qI rfl) (ql (qI rfl) qT)))) h1 hq
theorem WW {L:List (Nat × Nat)} {nh:Nat} {σ:St} {q q' : Nat} {g f:Bool} {rest:List (Nat × HB)} (hq:qq σ.hs q = tyW (Wx g f)) (h1:Maps L nh q q') (hr:jZ L nh σ rest):jZ L nh σ ((q',tyW (Wx g f)) :: rest):=YB hr (qE rfl) h1 hq
end Go.Proofs.YtahbbnfmbohmmaaDoor
