import Derived.Test.YtgcncinnlmjgdaaGreatDoorMz29
import Derived.Test.YtgcncinnlmjgdaaGreatDoorMz21
import Derived.Test.YtgcncinnlmjgdaaGreatDoorMz8
import Derived.Test.YtgcncinnlmjgdaaGreatDoorMz3
set_option linter.unusedSimpArgs false
set_option linter.unnecessarySimpa false
set_option linter.unusedVariables false
set_option maxHeartbeats 1000000
set_option maxRecDepth 10000
namespace Go.Proofs.YtgcncinnlmjgdaaGreatDoor
open Go.Ab Go.RowKit
attribute [local irreducible] Awp j9 jr ye Red qz Go.Ab.Fin qf Rz wz jF jU ResOk yA j1 xR qX
@[reducible] def wrB (q nb:Nat) (s:qb) (g f:Bool):List AV:=[.op q 0 0,.os nb 0 s.length,.v (.bool g),.v (.bool f)]
@[reducible] def wr0 (g f:Bool):List AV:=[.v (.pointer none),.sl true [],.v (.bool g),.v (.bool f)]
@[reducible] def wr1 (q:Nat) (g f:Bool):List AV:=[.op q 0 0,.sl true [],.v (.bool g),.v (.bool f)]
@[reducible] def tyW (row:List AV):HB := .mp (.typ 89 4 [row])
@[reducible] def qS (s:qb):HB := .mp (.typ 5 1 (s.map yV))
theorem qmd (s:qb) (g f:Bool):qf C2.P 140 [.op 0 0 0] [tyW (wrB 0 1 s g f),qS s] (.tup []) [tyW (wrB 0 1 s g f),qS s]:=by
 refine qJ (C:=C2) 2 ?_
 repeat' (first|refine qo ?_|(first|(apply qa;apply qhm;(first|exact .inl ⟨rfl,rfl⟩|exact .inr ⟨⟨_,_,_,rfl⟩,rfl⟩);rfl;rfl;(first|exact .inl rfl|exact .inr rfl);exact nle rfl)|(apply qa;apply qdK;rfl;rfl;rfl;rfl;rfl;(exact of_decide_eq_true rfl);(first|exact .inl rfl|exact .inr rfl);exact nle rfl))|(refine xsS ?_ ?_;all_goals first|exact False.elim|intro hp hc)|refine xsA ?_ ?_)
 all_goals ((exact yp (rs:=[]) [] 2 tz7))
theorem qon (cap:Nat) (h:1 ≤ cap):liesAt C.P C.P.depth 89 (cap * 4 / C.P.cellsOf 89) 0 87 1 = true:=by
 obtain ⟨c,rfl⟩ : ∃ c,cap = c + 1:=⟨cap - 1,by omega⟩
 have h4:C.P.cellsOf 89 = 4:=by kernel_rfl
 rw [h4,Nat.mul_div_cancel _ (by decide)];show liesAt C.P C.P.depth 89 (c + 1) 0 87 1 = true
 have key : ∀ c:Nat,liesAt C.P C.P.depth 89 (c + 1) 0 87 1 = true:=by
  intro c
  kernel_rfl
 exact key c
theorem qmc (g f:Bool):qf C1.P 140 [.op 0 0 0] [tyW (wr0 g f)] (.tup []) [tyW (wr1 0 g f)]:=by
 refine qJ (C:=C1) 1 ?_
 repeat' (first|refine qo ?_|(first|(apply qa;apply qhm;(first|exact .inl ⟨rfl,rfl⟩|exact .inr ⟨⟨_,_,_,rfl⟩,rfl⟩);rfl;rfl;(first|exact .inl rfl|exact .inr rfl);exact nle rfl)|(apply qa;apply qdK;rfl;rfl;rfl;rfl;rfl;(exact of_decide_eq_true rfl);(first|exact .inl rfl|exact .inr rfl);exact nle rfl)|(apply qa;apply qmI;rfl;exact Tryz.func166;rfl;rfl;rfl;rfl;exact nle rfl)|(apply qa;apply qfw;rfl;rfl;exact nle rfl;rfl;rfl;rfl;(exact of_decide_eq_true rfl);exact Tryz.underlying223;exact nle rfl)|(apply qa;apply qcg;rfl;rfl;rfl;rfl;rfl;exact Tryz.underlying223;exact qon;exact nle rfl))|(refine xsS ?_ ?_;all_goals first|exact False.elim|intro hp hc)|refine xsA ?_ ?_)
 all_goals ((exact yp (rs:=[]) [] 1 tz7))
theorem Yv (l s:qb) (g f:Bool) (hl:l.length + s.length ≤ 140737488355328):qf C2.P 92 [.op 0 0 0,.v (str s)] [tyW (wrB 0 1 l g f),qS l] (.tup [.v (.int .i64 (s.length:Int)),.v .nilIface]) [tyW (wrB 0 2 (l ++ s) g f),.dead,qS (l ++ s)]:=by
 have hc:=qmd l g f;refine qJ (C:=C2) 2 ?_
 repeat' (first|refine qo ?_|(first|(apply qcZ Tryz.func140 rfl rfl;intro hIsFn;refine vc [0,1] [] [(0,tyW (wrB 0 1 l g f)),(1,qS l)] 2 (.tup []) hIsFn (hc) ?hz ?hg ?hb ?_;(case hz=>exact qpQ);(case hg=>exact qnB);(case hb=>exact qnB))|(apply qen;apply qaM;rfl;rfl;rfl;rfl;rfl;rfl;rfl;rfl;rfl;rfl;rfl;exact hl;exact nofun;exact nle rfl))|(refine xsS ?_ ?_;all_goals first|exact False.elim|intro hp hc)|refine xsA ?_ ?_)
 all_goals ((exact yp (rs:=[.tmp 4,.tmp 5]) [(2,2)] 3 tz7))
theorem qj2 (s:qb) (g f:Bool) (h0:s ≠ []) (hl:s.length ≤ 140737488355328):qf C1.P 92 [.op 0 0 0,.v (str s)] [tyW (wr0 g f)] (.tup [.v (.int .i64 (s.length:Int)),.v .nilIface]) [tyW (wrB 0 1 s g f),qS s]:=by
 have hc:=qmc g f;refine qJ (C:=C1) 1 ?_
 repeat' (first|refine qo ?_|(first|(apply qcZ Tryz.func140 rfl rfl;intro hIsFn;refine vc [0] [] [(0,tyW (wr1 0 g f))] 1 (.tup []) hIsFn (hc) ?hz ?hg ?hb ?_;(case hz=>exact qpQ);(case hg=>exact qnB);(case hb=>exact qnB))|(apply j5;apply WE;rfl;rfl;exact h0;rfl;rfl;rfl;rfl;rfl;rfl;rfl;rfl;exact hl;exact nle rfl))|(refine xsS ?_ ?_;all_goals first|exact False.elim|intro hp hc)|refine xsA ?_ ?_)
 all_goals ((exact yp (rs:=[.tmp 4,.tmp 5]) [(1,1)] 2 tz7))
theorem qjY (s:qb) (g f:Bool) (h0:s ≠ []) (hl:s.length ≤ 140737488355328):qf C2.P 96 [.op 0 0 0] [tyW (wrB 0 1 s g f),qS s] (.v (str s)) [tyW (wrB 0 1 s g f),.dead]:=by
 have hp:0 < s.length:=by cases s with|nil=>exact absurd rfl h0|cons _ _=>simp
 refine qJ (C:=C2) 2 ?_
 repeat' (first|refine qo ?_|(first|(apply qa;apply qoe;rfl;rfl;exact hp;exact nle rfl)|(apply zf;apply qmJ;rfl;rfl;rfl;exact h0;rfl;rfl;kernel_rfl;omega;exact nle rfl))|(refine xsS ?_ ?_;all_goals first|exact False.elim|intro hp hc)|refine xsA ?_ ?_)
 all_goals ((exact yp (rs:=[.tmp 2]) [] 2 tz7))
end Go.Proofs.YtgcncinnlmjgdaaGreatDoor
namespace Go.Proofs.YtgcncinnlmjgdaaGreatDoor
open Go.Ab Go.RowKit
section steps
variable {C' : Cx} {N:Nat} {all:Array Oper} {es:List Eff} {o:Oper} {os:List Oper} {K:List Eff → St → Prop} {ts:List (Nat × AV)} {hs:List (Nat × HB)} {nx:Nat} {gd:List Nat}
theorem VX (q m nx:Nat) (h:(decide (q < nx) && decide (m < nx) && decide (q ≠ m)) = true):q < nx ∧ m < nx ∧ q ≠ m:=by
 simp only [Bool.and_eq_true,decide_eq_true_eq] at h;exact ⟨h.1.1,h.1.2,h.2⟩
theorem VE {q m:Nat} {l:qb} {g f:Bool} (hq:qh hs q = tyW (wrB q m l g f)) (hm:qh hs m = qS l):Q0 (j6 0 [q,m]) (qh hs) [q,m] [tyW (wrB 0 1 l g f),qS l] :=
 jY (tyW (wrB q m l g f)) (jY (qS l) xn wq hm rfl) (zh (qe (jB (.inr (List.mem_cons_self ..))) (qe (jC (.inr (List.mem_cons_of_mem _ (List.mem_cons_self ..)))) (qe (qy rfl) (qe (qy rfl) jg))))) hq rfl
theorem qhb {q m n:Nat} {l:qb} {g f:Bool}:Yi (zq (j6 0 [q,m,n])) [(q,tyW (wrB q n l g f)),(m,.dead),(n,qS l)] [tyW (wrB 0 2 l g f),.dead,qS l] :=
 qY (zh (qe (jB (.inr (List.mem_cons_self ..))) (qe (jC (.inr (List.mem_cons_of_mem _ (List.mem_cons_of_mem _ (List.mem_cons_self ..))))) (qe (qy rfl) (qe (qy rfl) jg))))) (qY yG (qY wq yM))
theorem qlg {q m n:Nat} (h:q < n ∧ m < n ∧ q ≠ m) : [q,m,n].Nodup:=by
 obtain ⟨h1,h2,h3⟩:=h;simp only [List.nodup_cons,List.mem_cons,List.not_mem_nil,or_false,not_or,not_false_eq_true,List.nodup_nil,and_true];exact ⟨⟨h3,by omega⟩,by omega⟩
theorem vd {f:FuncId} {args:List Operand} {tys:Array TypeId} {d:Nat} {ty:TypeId} {pos:String} {af:Array Edge} {gg:Option (Nat × Bool)} {ys:List AV} {r:AV} {l l' : qb} {g g' f0 f1:Bool} (q m:Nat) (hf:IsFn C'.P f)
  (hc:qf C'.P f ys [tyW (wrB 0 1 l g f0),qS l] r [tyW (wrB 0 2 l' g' f1),.dead,qS l'])
  (k:j9 C' N all (⟨gd ++ (qW (.func f) ++ args.flatMap qW),[q,m],some d,r,[(q,tyW (wrB q nx l' g' f1)),(m,.dead),(nx,qS l')],[nx]⟩ :: es) ⟨(d,r) :: ts,(q,tyW (wrB q nx l' g' f1)) :: (m,.dead) :: (nx,qS l') :: hs,nx + 1⟩ os K)
  (hq:qh hs q = tyW (wrB q m l g f0):=by rfl) (hm:qh hs m = qS l:=by rfl)
  (hz:qX (j6 0 [q,m]) [q,m] (qh hs) (args.map (evA (qm ts))) ys:=by ((repeat' (first|exact jL|apply jo|exact jK rfl|exact ym|(apply qv;apply jB;exact .inr (of_decide_eq_true rfl))|(apply qv;apply yr;exact .inr (of_decide_eq_true rfl))|(apply qv;apply jC;exact .inr (of_decide_eq_true rfl))|apply j3|apply j4))<;>fail))
  (hlt:(decide (q < nx) && decide (m < nx) && decide (q ≠ m)) = true:=by rfl) (hr:r.ren (zq (j6 0 [q,m,nx])) = r:=by rfl) (hN:d < N:=by exact nle rfl):kC C' N all gd es ⟨ts,hs,nx⟩ f args d tys ty pos af gg os K:=by
 have hl:=VX q m nx hlt;refine vc [q,m] [nx] [(q,tyW (wrB q nx l' g' f1)),(m,.dead),(nx,qS l')] (nx + 1) r hf hc hz (VE hq hm) qhb k hr rfl rfl (Nat.le_of_ble_eq_true rfl) (qlg hl) ?_ ?_ (by omega) hN
 ·simp [zc]
 ·intro n hn;simp at hn;omega
theorem qpw {f:FuncId} {args:List Operand} {tys:Array TypeId} {d:Nat} {ty:TypeId} {pos:String} {af:Array Edge} {gg:Option (Nat × Bool)} {ys:List AV} {r:AV} {l:qb} {g f0:Bool} (q m:Nat) (hf:IsFn C'.P f)
  (hc:qf C'.P f ys [tyW (wrB 0 1 l g f0),qS l] r [tyW (wrB 0 1 l g f0),.dead])
  (k:j9 C' N all (⟨gd ++ (qW (.func f) ++ args.flatMap qW),[q,m],some d,r,[(q,tyW (wrB q m l g f0)),(m,.dead)],[]⟩ :: es) ⟨(d,r) :: ts,(q,tyW (wrB q m l g f0)) :: (m,.dead) :: hs,nx⟩ os K)
  (hq:qh hs q = tyW (wrB q m l g f0):=by rfl) (hm:qh hs m = qS l:=by rfl)
  (hz:qX (j6 0 [q,m]) [q,m] (qh hs) (args.map (evA (qm ts))) ys:=by ((repeat' (first|exact jL|apply jo|exact jK rfl|exact ym|(apply qv;apply jB;exact .inr (of_decide_eq_true rfl))|(apply qv;apply yr;exact .inr (of_decide_eq_true rfl))|(apply qv;apply jC;exact .inr (of_decide_eq_true rfl))|apply j3|apply j4))<;>fail))
  (hlt:(decide (q < nx) && decide (m < nx) && decide (q ≠ m)) = true:=by rfl) (hr:r.ren (zq (j6 0 [q,m])) = r:=by rfl) (hN:d < N:=by exact nle rfl):kC C' N all gd es ⟨ts,hs,nx⟩ f args d tys ty pos af gg os K:=by
 have hl:=VX q m nx hlt;refine vc [q,m] [] [(q,tyW (wrB q m l g f0)),(m,.dead)] nx r hf hc hz (VE hq hm) (qY (zh (qe (jB (.inr (List.mem_cons_self ..))) (qe (jC (.inr (List.mem_cons_of_mem _ (List.mem_cons_self ..)))) (qe (qy rfl) (qe (qy rfl) jg))))) (qY yG yM)) k hr rfl rfl (Nat.le_of_ble_eq_true rfl) ?_ rfl (fun n hn=>by cases hn) (Nat.le_refl _) hN;have:=hl.2.2;simp [this]
theorem qlj {f:FuncId} {args:List Operand} {tys:Array TypeId} {d:Nat} {ty:TypeId} {pos:String} {af:Array Edge} {gg:Option (Nat × Bool)} {ys:List AV} {r:AV} {l:qb} {g g' f0 f1:Bool} (q m:Nat) (hf:IsFn C'.P f)
  (hc:qf C'.P f ys [tyW (wrB 0 1 l g f0),qS l] r [tyW (wrB 0 1 l g' f1),qS l])
  (k:j9 C' N all (⟨gd ++ (qW (.func f) ++ args.flatMap qW),[q,m],some d,r,[(q,tyW (wrB q m l g' f1)),(m,qS l)],[]⟩ :: es) ⟨(d,r) :: ts,(q,tyW (wrB q m l g' f1)) :: (m,qS l) :: hs,nx⟩ os K)
  (hq:qh hs q = tyW (wrB q m l g f0):=by rfl) (hm:qh hs m = qS l:=by rfl)
  (hz:qX (j6 0 [q,m]) [q,m] (qh hs) (args.map (evA (qm ts))) ys:=by ((repeat' (first|exact jL|apply jo|exact jK rfl|exact ym|(apply qv;apply jB;exact .inr (of_decide_eq_true rfl))|(apply qv;apply yr;exact .inr (of_decide_eq_true rfl))|(apply qv;apply jC;exact .inr (of_decide_eq_true rfl))|apply j3|apply j4))<;>fail))
  (hlt:(decide (q < nx) && decide (m < nx) && decide (q ≠ m)) = true:=by rfl) (hr:r.ren (zq (j6 0 [q,m])) = r:=by rfl) (hN:d < N:=by exact nle rfl):kC C' N all gd es ⟨ts,hs,nx⟩ f args d tys ty pos af gg os K:=by
 have hl:=VX q m nx hlt;refine vc [q,m] [] [(q,tyW (wrB q m l g' f1)),(m,qS l)] nx r hf hc hz (VE hq hm) (qY (zh (qe (jB (.inr (List.mem_cons_self ..))) (qe (jC (.inr (List.mem_cons_of_mem _ (List.mem_cons_self ..)))) (qe (qy rfl) (qe (qy rfl) jg))))) (qY wq yM)) k hr rfl rfl (Nat.le_of_ble_eq_true rfl) ?_ rfl (fun n hn=>by cases hn) (Nat.le_refl _) hN;have:=hl.2.2;simp [this]
theorem qee {f:FuncId} {args:List Operand} {tys:Array TypeId} {d:Nat} {ty:TypeId} {pos:String} {af:Array Edge} {gg:Option (Nat × Bool)} {ys:List AV} {r:AV} {l:qb} {g f0:Bool} (q m:Nat) (hf:IsFn C'.P f)
  (hc:qf C'.P f ys [tyW (wrB 0 1 l g f0),qS l] r [.dead,.dead])
  (k:j9 C' N all (⟨gd ++ (qW (.func f) ++ args.flatMap qW),[q,m],some d,r,[(q,.dead),(m,.dead)],[]⟩ :: es) ⟨(d,r) :: ts,(q,.dead) :: (m,.dead) :: hs,nx⟩ os K)
  (hq:qh hs q = tyW (wrB q m l g f0):=by rfl) (hm:qh hs m = qS l:=by rfl)
  (hz:qX (j6 0 [q,m]) [q,m] (qh hs) (args.map (evA (qm ts))) ys:=by ((repeat' (first|exact jL|apply jo|exact jK rfl|exact ym|(apply qv;apply jB;exact .inr (of_decide_eq_true rfl))|(apply qv;apply yr;exact .inr (of_decide_eq_true rfl))|(apply qv;apply jC;exact .inr (of_decide_eq_true rfl))|apply j3|apply j4))<;>fail))
  (hlt:(decide (q < nx) && decide (m < nx) && decide (q ≠ m)) = true:=by rfl) (hr:r.ren (zq (j6 0 [q,m])) = r:=by rfl) (hN:d < N:=by exact nle rfl):kC C' N all gd es ⟨ts,hs,nx⟩ f args d tys ty pos af gg os K:=by
 have hl:=VX q m nx hlt;refine vc [q,m] [] [(q,.dead),(m,.dead)] nx r hf hc hz (VE hq hm) (qY yG (qY yG yM)) k hr rfl rfl (Nat.le_of_ble_eq_true rfl) ?_ rfl (fun n hn=>by cases hn) (Nat.le_refl _) hN;have:=hl.2.2;simp [this]
theorem qbv {f:FuncId} {args:List Operand} {tys:Array TypeId} {d:Nat} {ty:TypeId} {pos:String} {af:Array Edge} {gg:Option (Nat × Bool)} {ys:List AV} {r:AV} {l' : qb} {g g' f0 f1:Bool} (q:Nat) (hf:IsFn C'.P f)
  (hc:qf C'.P f ys [tyW (wr0 g f0)] r [tyW (wrB 0 1 l' g' f1),qS l'])
  (k:j9 C' N all (⟨gd ++ (qW (.func f) ++ args.flatMap qW),[q],some d,r,[(q,tyW (wrB q nx l' g' f1)),(nx,qS l')],[nx]⟩ :: es) ⟨(d,r) :: ts,(q,tyW (wrB q nx l' g' f1)) :: (nx,qS l') :: hs,nx + 1⟩ os K)
  (hq:qh hs q = tyW (wr0 g f0):=by rfl)
  (hz:qX (j6 0 [q]) [q] (qh hs) (args.map (evA (qm ts))) ys:=by ((repeat' (first|exact jL|apply jo|exact jK rfl|exact ym|(apply qv;apply jB;exact .inr (of_decide_eq_true rfl))|(apply qv;apply yr;exact .inr (of_decide_eq_true rfl))|(apply qv;apply jC;exact .inr (of_decide_eq_true rfl))|apply j3|apply j4))<;>fail))
  (hlt:decide (q < nx) = true:=by rfl) (hr:r.ren (zq (j6 0 [q,nx])) = r:=by rfl) (hN:d < N:=by exact nle rfl):kC C' N all gd es ⟨ts,hs,nx⟩ f args d tys ty pos af gg os K:=by
 have hl:q < nx:=of_decide_eq_true hlt;refine vc [q] [nx] [(q,tyW (wrB q nx l' g' f1)),(nx,qS l')] (nx + 1) r hf hc hz (jY (tyW (wr0 g f0)) xn (zh (jR rfl)) hq rfl) (qY (zh (qe (jB (.inr (List.mem_cons_self ..))) (qe (jC (.inr (List.mem_cons_of_mem _ (List.mem_cons_self ..)))) (qe (qy rfl) (qe (qy rfl) jg))))) (qY wq yM)) k hr rfl rfl (Nat.le_of_ble_eq_true rfl) ?_ ?_ ?_ (by omega) hN
 ·simp;omega
 ·simp [zc]
 ·intro n hn;simp at hn;omega
theorem qpx {f:FuncId} {fn:Func} {x:Operand} {first cap:List AV} {args:List Operand} {tys:Array TypeId} {d:Nat} {ty:TypeId} {pos:String} {af:Array Edge} {gg:Option (Nat × Bool)} {ys:List AV} {r:AV} {l l' : qb} {g g' f0 f1:Bool} (q m:Nat) (hf:C'.P.funcs[f]? = some fn)
  (hc:qf C'.P f ys [tyW (wrB 0 1 l g f0),qS l] r [tyW (wrB 0 2 l' g' f1),.dead,qS l'])
  (k:j9 C' N all (⟨gd ++ (qW x ++ args.flatMap qW),[q,m],some d,r,[(q,tyW (wrB q nx l' g' f1)),(m,.dead),(nx,qS l')],[nx]⟩ :: es) ⟨(d,r) :: ts,(q,tyW (wrB q nx l' g' f1)) :: (m,.dead) :: (nx,qS l') :: hs,nx + 1⟩ os K)
  (hx:evA (qm ts) x = .clo (.func f) first cap:=by rfl) (hb0:fn.body.isNone = false:=by rfl) (hn0:(fn.name == "runtime.NumGoroutine") = false:=by rfl)
  (hq:qh hs q = tyW (wrB q m l g f0):=by rfl) (hm:qh hs m = qS l:=by rfl)
  (hz:qX (j6 0 [q,m]) [q,m] (qh hs) (first ++ args.map (evA (qm ts)) ++ cap) ys:=by ((repeat' (first|exact jL|apply jo|exact jK rfl|exact ym|(apply qv;apply jB;exact .inr (of_decide_eq_true rfl))|(apply qv;apply yr;exact .inr (of_decide_eq_true rfl))|(apply qv;apply jC;exact .inr (of_decide_eq_true rfl))|apply j3|apply j4))<;>fail))
  (hlt:(decide (q < nx) && decide (m < nx) && decide (q ≠ m)) = true:=by rfl) (hr:r.ren (zq (j6 0 [q,m,nx])) = r:=by rfl) (hN:d < N:=by exact nle rfl):jr C' N all gd es ⟨ts,hs,nx⟩ ⟨some d,.call ⟨.value x,args.toArray,tys⟩,ty,pos,af,gg⟩ os K:=by
 have hl:=VX q m nx hlt;refine YM [q,m] [nx] [(q,tyW (wrB q nx l' g' f1)),(m,.dead),(nx,qS l')] (nx + 1) r hf hc hz (VE hq hm) qhb k hx hb0 hn0 hr rfl rfl (Nat.le_of_ble_eq_true rfl) (qlg hl) ?_ ?_ (by omega) hN
 ·simp [zc]
 ·intro n hn;simp at hn;omega
end steps
theorem qp {L:List (Nat × Nat)} {nh n n' : Nat} (h:((decide (n < nh) && decide (n = n')) || L.contains (n,n')) = true):Maps L nh n n':=by
 simp only [Bool.or_eq_true,Bool.and_eq_true,decide_eq_true_eq,List.contains_iff_mem] at h;rcases h with ⟨h,rfl⟩|h
 ·exact .inl ⟨h,rfl⟩
 ·exact .inr h
theorem kH {L:List (Nat × Nat)} {nh:Nat} {σ:St} {q q' m m' : Nat} {l l' : qb} {g g' f f' : Bool} {rest:List (Nat × HB)} (hq:qh σ.hs q = tyW (wrB q m l g f)) (hm:qh σ.hs m = qS l) (h1:Maps L nh q q') (h2:Maps L nh m m') (hl:l = l') (hg:g = g') (hf:f = f') (hr:yd L nh σ rest):yd L nh σ ((q',tyW (wrB q' m' l' g' f')) :: (m',qS l') :: rest):=by
 subst hl hg hf;exact qlr (qnd hr rfl h2 hm) (qe (jB h1) (qe (jC h2) (qe (qy rfl) (qe (qy rfl) jg)))) h1 hq
theorem qcu {L:List (Nat × Nat)} {nh:Nat} {σ:St} {q q' m m' d' : Nat} {l l' : qb} {g g' f f' : Bool} {rest:List (Nat × HB)} (hq:qh σ.hs q = tyW (wrB q m l g f)) (hm:qh σ.hs m = qS l) (h1:Maps L nh q q') (h2:Maps L nh m m') (hd:Maps L nh d' d') (hl:l = l') (hg:g = g') (hf:f = f') (hr:yd L nh σ rest):yd L nh σ ((q',tyW (wrB q' m' l' g' f')) :: (d',.dead) :: (m',qS l') :: rest):=by
 subst hl hg hf;exact qlr (X6 (qnd hr rfl h2 hm) hd) (qe (jB h1) (qe (jC h2) (qe (qy rfl) (qe (qy rfl) jg)))) h1 hq
theorem qmT {L:List (Nat × Nat)} {nh:Nat} {σ:St} {q q' : Nat} {g f:Bool} {rest:List (Nat × HB)} (hq:qh σ.hs q = tyW (wr0 g f)) (h1:Maps L nh q q') (hr:yd L nh σ rest):yd L nh σ ((q',tyW (wr0 g f)) :: rest):=qlr hr (jR rfl) h1 hq
end Go.Proofs.YtgcncinnlmjgdaaGreatDoor
