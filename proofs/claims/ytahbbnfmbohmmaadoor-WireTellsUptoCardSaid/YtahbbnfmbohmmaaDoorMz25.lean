import Derived.Test.YtahbbnfmbohmmaaDoorMz24
import Derived.Test.YtahbbnfmbohmmaaDoorMz20
import Derived.Test.YtahbbnfmbohmmaaDoorMz3
import Derived.Lib.ItoaLen
import Derived.Test.YtahbbnfmbohmmaaDoorMz8
set_option linter.unusedSimpArgs false
set_option linter.unnecessarySimpa false
set_option linter.unusedVariables false
set_option maxHeartbeats 1000000
namespace Go.Proofs.YtahbbnfmbohmmaaDoor
open Go.Ab Go.RowKit
set_option maxRecDepth 10000
theorem kF:yL 0:=⟨by decide,by decide⟩
theorem YJ:noRqt.fit:=⟨kF,by decide,by decide,by decide,by decide,by decide,kF,kF,kF,(fun c h=>by cases h),by decide⟩
section steps
variable {C' : Cx} {N:Nat} {all:Array Oper} {es:List Eff} {o:Oper} {os:List Oper} {K:List Eff → St → Prop} {ts:List (Nat × AV)} {hs:List (Nat × HB)} {nx:Nat} {gd:List Nat}
theorem js {f:FuncId} {args:List Operand} {tys:Array TypeId} {d:Nat} {ty:TypeId} {pos:String} {af:Array Edge} {gg:Option (Nat × Bool)} {ys:List AV} {v:AV} {k:Nat} {row row0 row1:List AV} (q:Nat) (hf:IsFn C'.P f)
  (hc:qu C'.P f ys [.own true k [row0]] v [.own true k [row1]]) (hp1:AV.pure.pureL row1 = true)
  (k' : jV C' N all (⟨gd ++ (qW (.func f) ++ args.flatMap qW),[q],some d,v,[(q,.own true k [row1])],[]⟩ :: es) ⟨(d,v) :: ts,(q,.own true k [row1]) :: hs,nx⟩ os K)
  (hq:qj hs q = .own true k [row]:=by rfl) (hp0:jo (jl 0 [q]) 0 row row0:=by ((repeat (first|exact qE|refine qh (qy rfl) ?_|refine qh XQ ?_))<;>fail))
  (hz:qM (jl 0 [q]) [q] (qj hs) (args.map (evA (qi ts))) ys:=by ((repeat' (first|exact ja|apply qP|exact qZ rfl|exact jB|(apply qo;apply qD;exact .inr (of_decide_eq_true rfl))|(apply qo;apply jQ;exact .inr (of_decide_eq_true rfl))|(apply qo;apply qY;exact .inr (of_decide_eq_true rfl))|apply jp|apply jq))<;>fail)) (hr:v.ren (yU (jl 0 [q])) = v:=by rfl) (hN:d < N:=by exact nle rfl):xz C' N all gd es ⟨ts,hs,nx⟩ f args d tys ty pos af gg os K :=
 yJ [q] [] [(q,.own true k [row1])] nx v hf hc hz (jh (.own true k [row]) jW (qK hp0) hq rfl) (qB (qK (qU hp1)) jI) k' hr rfl rfl (Nat.le_of_ble_eq_true rfl) (by simp) rfl (fun n hn=>by cases hn) (Nat.le_refl _) hN
end steps
attribute [local irreducible] Awp jV jt jv Red qz Go.Ab.Fin qu Rz x0 ju jn ResOk jG jo yi qM
set_option maxHeartbeats 4000000 in
theorem km (s t:qp) (e:Int) (ok:Bool) (q:Rqt) (hw:qu C.P 28 [.v (str s),.clo (.func 29) [] [.op 0 0 0]] [.own true 10 [noRqt.row]] (.v (.bool ok)) [.own true 10 [q.row]])
  (ha:zu C.P 8 [.agg q.row] (.tup [.v (str t),.v (.int .i64 e)])) :
  zu C.P 12 [.v (str s)] (if ok = true ∧ t = s ∧ e = 0 then .tup [.agg q.row,.v (.int .i64 0)] else .tup [.agg noRqt.row,.v (.int .i64 1)]):=by
 unfold noRqt Rqt.row at hw
 unfold Rqt.row at ha
 unfold noRqt Rqt.row
 obtain ⟨q1,q2,q3,q4,q5,q6,q7,q8,q9,q10⟩:=q
 dsimp only at *
 cases ok with
 | false =>
   refine qe Tryd.func12 rfl _ Tryd.ntmps12 (Nat.le_of_ble_eq_true rfl) _ Tryd.results12 0 rfl rfl ?_
   repeat' (first|refine ql ?_|(first|(apply qc Tryd.func28 rfl rfl;intro hIsFn;refine js 1 hIsFn (hw) rfl ?_)|refine xsF Tryd.func8 (ha ..) ?_)|((first|(apply qb;rfl;rfl;exact nle rfl)|(apply qa;rfl;rfl;exact nle rfl)|refine xsC ?_ ?_);all_goals (intro hc;have hp:=hc;try simp at hp;try (exfalso;omega)))|refine jj ?_ ?_)
   all_goals ((refine jJ (rs:=[.cell 2 24,.tmp 3]) ?_;(repeat' (first|exact jf|apply qO|exact qN rfl|exact j1|exact y7|apply jx|apply jF|apply jy|apply jD|apply jm|apply jE|refine y6 ?_|apply yd));all_goals rfl))
 | true =>
   by_cases he:e = 0
   ·subst he
    by_cases ht:t = s
    ·subst ht
     refine qe Tryd.func12 rfl _ Tryd.ntmps12 (Nat.le_of_ble_eq_true rfl) _ Tryd.results12 0 rfl rfl ?_
     repeat' (first|refine ql ?_|(first|(apply qc Tryd.func28 rfl rfl;intro hIsFn;refine js 1 hIsFn (hw) rfl ?_)|refine xsF Tryd.func8 (ha ..) ?_)|((first|(apply qb;rfl;rfl;exact nle rfl)|(apply qa;rfl;rfl;exact nle rfl)|refine xsC ?_ ?_);all_goals (intro hc;have hp:=hc;try simp at hp;try (exfalso;omega)))|refine jj ?_ ?_)
     all_goals try (exfalso;simp at *;done)
     all_goals (rw [if_pos ⟨rfl,rfl,rfl⟩])
     all_goals ((refine jJ (rs:=[.cell 2 24,.tmp 3]) ?_;(repeat' (first|exact jf|apply qO|exact qN rfl|exact j1|exact y7|apply jx|apply jF|apply jy|apply jD|apply jm|apply jE|refine y6 ?_|apply yd));all_goals rfl))
    ·refine qe Tryd.func12 rfl _ Tryd.ntmps12 (Nat.le_of_ble_eq_true rfl) _ Tryd.results12 0 rfl rfl ?_
     repeat' (first|refine ql ?_|(first|(apply qc Tryd.func28 rfl rfl;intro hIsFn;refine js 1 hIsFn (hw) rfl ?_)|refine xsF Tryd.func8 (ha ..) ?_)|((first|(apply qb;rfl;rfl;exact nle rfl)|(apply qa;rfl;rfl;exact nle rfl)|refine xsC ?_ ?_);all_goals (intro hc;have hp:=hc;try simp at hp;try (exfalso;omega)))|refine jj ?_ ?_)
     all_goals try (exfalso;simp_all;done)
     all_goals (rw [if_neg (fun h=>ht h.2.1)])
     all_goals ((refine jJ (rs:=[.cell 2 24,.tmp 3]) ?_;(repeat' (first|exact jf|apply qO|exact qN rfl|exact j1|exact y7|apply jx|apply jF|apply jy|apply jD|apply jm|apply jE|refine y6 ?_|apply yd));all_goals rfl))
   ·refine qe Tryd.func12 rfl _ Tryd.ntmps12 (Nat.le_of_ble_eq_true rfl) _ Tryd.results12 0 rfl rfl ?_
    repeat' (first|refine ql ?_|(first|(apply qc Tryd.func28 rfl rfl;intro hIsFn;refine js 1 hIsFn (hw) rfl ?_)|refine xsF Tryd.func8 (ha ..) ?_)|((first|(apply qb;rfl;rfl;exact nle rfl)|(apply qa;rfl;rfl;exact nle rfl)|refine xsC ?_ ?_);all_goals (intro hc;have hp:=hc;try simp at hp;try (exfalso;omega)))|refine jj ?_ ?_)
    all_goals try (exfalso;omega)
    all_goals (rw [if_neg (fun h=>he h.2.2)])
    all_goals ((refine jJ (rs:=[.cell 2 24,.tmp 3]) ?_;(repeat' (first|exact jf|apply qO|exact qN rfl|exact j1|exact y7|apply jx|apply jF|apply jy|apply jD|apply jm|apply jE|refine y6 ?_|apply yd));all_goals rfl))
theorem yX (t:qp):t.length ≤ (xq t).length:=by unfold xq;rw [List.length_append];omega
theorem Xs {α:Type} (T:α → qp) {l:List α} {x:α} (h:x ∈ l):(T x).length ≤ (l.flatMap T).length:=by
 induction l with
 | nil=>cases h
 | cons a l ih =>
   rw [List.flatMap_cons,List.length_append]
   rcases List.mem_cons.1 h with rfl|h
   ·omega
   ·have:=ih h;omega
theorem Xy {α:Type} (T:α → qp) {l:List α} {x:α} (h:x ∈ l):(T x).length ≤ (QY T l).length:=by
 unfold QY
 rw [List.length_append]
 have:=Xs T h
 omega
theorem Xe {c:Chg} (h:Vm c) (hl:(wW c).length ≤ 1000000000):c.fit:=by
 obtain ⟨h1,h2,h3,h4,h5⟩:=h
 unfold wW at hl
 simp only [List.length_append] at hl
 have a:=yX c.path
 have b:=yX c.to
 have d:=yX c.text
 exact ⟨h1,by omega,by omega,by omega,h5⟩
theorem Yv {l:List Chg} (h:Xi l) (hl:(JY l).length ≤ 1000000000) : ∀ c,c ∈ l → c.fit:=fun c hc=>Xe (h.2 c hc) (Nat.le_trans (Xy wW hc) hl)
theorem XS {q:Rqt} (h:Za q) (hl:(Jb q).length ≤ 1000000000):q.fit:=by
 obtain ⟨h1,h2,h3,h4,h5,h6,h7,h8,h9,h10⟩:=h
 unfold Jb at hl
 simp only [List.length_append] at hl
 have a:=yX q.who
 have b:=yX q.folder
 have c:=yX q.name
 have d:=yX q.key
 have e:=yX q.text
 exact ⟨h1,by omega,by omega,by omega,by omega,by omega,h7,h8,h9,Yv h10 (by omega),by have:=h10.1;omega⟩
theorem Vd (s:qp) (hs:s.length ≤ 1000000000):zu C.P 12 [.v (str s)] (.tup [.agg (zv s).1.row,.v (.int .i64 (zv s).2)]):=by
 cases hq:kU s with
 | none =>
   have hw:=QG s (f:=29) Tryd.func29 rfl rfl 10 noRqt.row noRqt.row rfl rfl (YN s noRqt hs hq)
   have h:=km s _ _ false noRqt hw (Y2 noRqt YJ)
   rw [if_neg (fun h=>by cases h.1)] at h
   unfold zv
   rw [hq]
   exact h
 | some p =>
   obtain ⟨q,r⟩:=p
   obtain ⟨e1,e2⟩:=rd_rqt.of _ _ _ hq
   have hf:q.fit:=XS e2 (by have:=congrArg List.length e1;rw [List.length_append] at this;omega)
   have hw:=Vl s r (f:=29) Tryd.func29 rfl rfl 10 noRqt.row q.row rfl rfl (Zy s r q noRqt hs hq)
   have h:=km s _ _ _ q hw (Y2 q hf)
   unfold zv
   rw [hq]
   dsimp only
   by_cases hr:r = [] ∧ kl q = (s,0)
   ·rw [if_pos hr]
    rw [if_pos ⟨by simpa using hr.1,by rw [hr.2],by rw [hr.2]⟩] at h
    exact h
   ·rw [if_neg hr]
    rw [if_neg (fun h=>hr ⟨by simpa using h.1,Prod.ext h.2.1 h.2.2⟩)] at h
    exact h
end Go.Proofs.YtahbbnfmbohmmaaDoor
set_option linter.unusedSimpArgs false
set_option linter.unnecessarySimpa false
set_option linter.unusedVariables false
set_option maxHeartbeats 1000000
namespace Go.Proofs.YtahbbnfmbohmmaaDoor
open Go.Ab Go.RowKit
set_option maxRecDepth 10000
theorem Zq {k:Nat} (h:k < 10):Lib.decDigits k = [UInt8.ofNat (48 + k)]:=by rw [Lib.decDigits,dif_pos h]
theorem ZL {k:Nat} (h:¬ k < 10):Lib.decDigits k = Lib.decDigits (k / 10) ++ [UInt8.ofNat (48 + k % 10)]:=by rw [Lib.decDigits,dif_neg h]
theorem VS (k:Nat):Lib.itoa (k:Int) = Lib.decDigits k:=by
 unfold Lib.itoa
 rw [if_neg (by omega)]
 simp
theorem Zp {k:Nat} (h:k ≤ 20000000000000000):(Lib.decDigits k).length ≤ 21:=by
 rw [← VS]
 exact Lib.itoa_length_le _ (by omega) (by omega)
attribute [local irreducible] Awp jV jt jv Red qz Go.Ab.Fin qu Rz x0 ju jn ResOk jG jo yi qM
theorem Y3 (k:Nat) (hk:k ≤ 20000000000000000):zu C.P 57 [.v (.int .i64 (k:Int))] (.v (str (Lib.decDigits k))):=by
 have hB : ∀ n:Nat,(48 + ((n:Nat):Int)).toNat = 48 + n:=fun n=>by omega
 refine qe Tryd.func57 rfl _ Tryd.ntmps57 (Nat.le_of_ble_eq_true rfl) _ Tryd.results57 0 rfl rfl ?_
 repeat' (first|refine wj ?_|fail|((first|refine xsC ?_ ?_);all_goals (intro hc;have hp:=hc;try simp at hp;try (exfalso;omega)))|refine jj ?_ ?_)
 all_goals try (exfalso;omega)
 (refine Awp.red (Q7 (ts:=[(0,.v (.int .i64 ((k:Nat):Int))),(3,.v (str ([]:qp)))]) ?_) ?_;((repeat (first|exact qq|refine jb ?_|refine yp ?_ ?_))))
 refine j8 (fun n σ => ∃ (m:Nat) (s:qp),m ≤ 20000000000000000 ∧ n = m + 1 ∧ Lib.decDigits m ++ s = Lib.decDigits k ∧ σ = ⟨[(0,.v (.int .i64 (m:Int))),(3,.v (str s))],[],C.nh⟩) (k + 1) ⟨k,[],hk,rfl,by simp,rfl⟩ ?_
 rintro n σ ⟨m,s,hm,rfl,hd,rfl⟩
 have hsl:s.length ≤ 21:=by
  have h1:=congrArg List.length hd
  have h2:=Zp hk
  rw [List.length_append] at h1
  omega
 by_cases h10:m < 10
 ·have hq:m / 10 = 0:=by omega
  have hr:m % 10 = m:=by omega
  rw [Zq h10] at hd
  repeat' (first|refine wj ?_|(first|(apply qx;apply Xr (b:=10);rfl;rfl;decide;exact nle rfl)|(apply qx;apply Xq (b:=10);rfl;rfl;decide;omega;exact nle rfl)|(apply qx;apply J4;rfl;rfl;rfl;rfl;rfl;exact IntWalk.u8_in _ (by omega);exact nle rfl)|(refine yl ?_)|(apply qx;apply QO;rfl;rfl;rfl;rfl;rfl;rfl;rfl;exact nle rfl))|((first|refine xsC ?_ ?_);all_goals (intro hc;have hp:=hc;try simp at hp;try (exfalso;omega)))|refine jj ?_ ?_)
  all_goals try (exfalso;omega)
  (refine jJ (rs:=[.tmp 2]) ?_;(repeat' (first|exact jf|apply qO|exact qN rfl|exact j1|exact y7|apply jx|apply jF|apply jy|apply jD|apply jm|apply jE|refine y6 ?_|apply yd));all_goals (first|(rw [hr,hB];exact hd)|(intros;simp_all;done)|trace_state))
 ·rw [ZL h10] at hd
  have hq:¬ m / 10 = 0:=by omega
  repeat' (first|refine wj ?_|(first|(apply qx;apply Xr (b:=10);rfl;rfl;decide;exact nle rfl)|(apply qx;apply Xq (b:=10);rfl;rfl;decide;omega;exact nle rfl)|(apply qx;apply J4;rfl;rfl;rfl;rfl;rfl;exact IntWalk.u8_in _ (by omega);exact nle rfl)|(refine yl ?_)|(apply qx;apply QO;rfl;rfl;rfl;rfl;rfl;rfl;rfl;exact nle rfl))|((first|refine xsC ?_ ?_);all_goals (intro hc;have hp:=hc;try simp at hp;try (exfalso;omega)))|refine jj ?_ ?_)
  all_goals try (exfalso;omega)
  refine ⟨m / 10 + 1,_,by omega,Q7 (ts:=[(0,.v (.int .i64 ((m / 10:Nat):Int))),(3,.v (str (UInt8.ofNat (48 + m % 10) :: s)))]) ?_,m / 10,UInt8.ofNat (48 + m % 10) :: s,by omega,rfl,by rw [← hd];simp,rfl⟩
  ((repeat (first|exact qq|refine jb ?_|refine yp ?_ ?_));all_goals (first|rfl|(rw [hB];rfl)|trace_state))
theorem Zn (n:Int) (h0 : -20000000000000000 ≤ n) (h1:n ≤ 20000000000000000):zu C.P 57 [.v (.int .i64 n)] (.v (str (Lib.itoa n))):=by
 by_cases hn:n < 0
 ·obtain ⟨k,rfl⟩ : ∃ k:Nat,n = -(k:Int):=⟨n.natAbs,by omega⟩
  have hk:k ≤ 20000000000000000:=by omega
  have c:=Y3 k hk
  have hl:=Zp hk
  have e:(45 :: Lib.decDigits k:qp) = Lib.itoa (-(k:Int)):=by
   unfold Lib.itoa
   rw [if_pos hn]
   simp
  rw [show ((k:Nat):Int) = -(-(k:Int)) by omega] at c
  refine qe Tryd.func57 rfl _ Tryd.ntmps57 (Nat.le_of_ble_eq_true rfl) _ Tryd.results57 0 rfl rfl ?_
  repeat' (first|refine wj ?_|(first|refine xsF Tryd.func57 (c ..) ?_|(apply qx;apply V1;rfl;omega;omega;exact nle rfl))|((first|refine xsC ?_ ?_);all_goals (intro hc;have hp:=hc;try simp at hp;try (exfalso;omega)))|refine jj ?_ ?_)
  all_goals try (exfalso;omega)
  all_goals ((refine jJ (rs:=[.tmp 2]) ?_;(repeat' (first|exact jf|apply qO|exact qN rfl|exact j1|exact y7|apply jx|apply jF|apply jy|apply jD|apply jm|apply jE|refine y6 ?_|apply yd));all_goals exact e))
 ·obtain ⟨k,rfl⟩ : ∃ k:Nat,n = (k:Int):=⟨n.natAbs,by omega⟩
  rw [VS]
  exact Y3 k (by omega)
@[reducible] def wR (w:WS):HB := .own true 3 [[.v (str w.s),.v (.bool w.g),.v (.bool w.f)]]
theorem jA {L:List (Nat × Nat)} {nh:Nat} {σ:St} {q q' : Nat} {w w' : WS} {rest:List (Nat × HB)} (hq:qj σ.hs q = wR w) (h1:Maps L nh q q') (hs:w = w') (hr:jS L nh σ rest):jS L nh σ ((q',wR w') :: rest):=by
 subst hs
 exact ⟨⟨q,h1,by rw [hq];exact qK (qU rfl)⟩,hr⟩
set_option maxHeartbeats 1000000 in
theorem jX (w:WS) (n:Int) (hn:yL n) (hw:w.s.length ≤ 1000000000):qu C1.P 24 [.op 0 0 0,.v (.int .i64 n)] [wR w] (.tup []) [wR (w.numR n)]:=by
 obtain ⟨h1,h2⟩:=hn
 by_cases hf:vY n = true
 ·have e:w.numR n = ⟨w.s,w.g,true⟩:=by unfold WS.numR;rw [if_pos hf]
  rw [e]
  unfold vY at hf
  simp only [Bool.or_eq_true,decide_eq_true_eq] at hf
  refine qe (C:=C1) Tryd.func24 rfl _ Tryd.ntmps24 (Nat.le_of_ble_eq_true rfl) _ Tryd.results24 1 rfl rfl ?_
  repeat' (first|refine ql ?_|fail|((first|(apply qb;rfl;rfl;exact nle rfl)|(apply qa;rfl;rfl;exact nle rfl)|refine xsC ?_ ?_);all_goals (intro hc;have hp:=hc;try simp at hp;try (exfalso;omega)))|refine jj ?_ ?_)
  all_goals try (exfalso;omega)
  all_goals ((apply qv (rs:=[]) [] 1;(case hr=>(repeat (first|exact qm|(apply qn;rfl)|(apply qk;rfl;rfl;rfl;rfl;rfl))));(case hL=>rfl);(case hh=>(refine jA (q:=0) rfl (qd rfl) rfl qg));(case hi=>exact rfl);(case hz=>first|rfl|(simp [jw,AV.ren,AV.ren.renL,qV,qi,qI];done))))
 ·have e:w.numR n = ⟨w.s ++ jR n,w.g,w.f⟩:=by unfold WS.numR;rw [if_neg hf]
  rw [e]
  unfold vY at hf
  simp only [Bool.or_eq_true,decide_eq_true_eq] at hf
  have c:=Zn n (by omega) (by omega)
  have hl:=Lib.itoa_length_le n (by omega) (by omega)
  unfold jR
  refine qe (C:=C1) Tryd.func24 rfl _ Tryd.ntmps24 (Nat.le_of_ble_eq_true rfl) _ Tryd.results24 1 rfl rfl ?_
  repeat' (first|refine ql ?_|(first|refine xsF Tryd.func57 (c ..) ?_)|((first|(apply qb;rfl;rfl;exact nle rfl)|(apply qa;rfl;rfl;exact nle rfl)|refine xsC ?_ ?_);all_goals (intro hc;have hp:=hc;try simp at hp;try (exfalso;omega)))|refine jj ?_ ?_)
  all_goals try (exfalso;omega)
  all_goals ((apply qv (rs:=[]) [] 1;(case hr=>(repeat (first|exact qm|(apply qn;rfl)|(apply qk;rfl;rfl;rfl;rfl;rfl))));(case hL=>rfl);(case hh=>(refine jA (q:=0) rfl (qd rfl) rfl qg));(case hi=>exact rfl);(case hz=>first|rfl|(simp [jw,AV.ren,AV.ren.renL,qV,qi,qI];done))))
end Go.Proofs.YtahbbnfmbohmmaaDoor
set_option linter.unusedSimpArgs false
set_option linter.unnecessarySimpa false
set_option linter.unusedVariables false
set_option maxHeartbeats 1000000
namespace Go.Proofs.YtahbbnfmbohmmaaDoor
open Go.Ab Go.RowKit
set_option maxRecDepth 10000
theorem jr (w:WS) {n:Int} (hn:yL n):(w.numR n).s.length ≤ w.s.length + 22:=by
 unfold WS.numR
 have:=yI hn
 split
 ·exact Nat.le_add_right _ _
 ·simp only [List.length_append];omega
theorem ya (w:WS) (t:qp):(w.txtR t).s.length ≤ w.s.length + 1022:=by
 unfold WS.txtR
 split
 ·exact Nat.le_add_right _ _
 ·have:=jr w (n:=t.length) ⟨by omega,by omega⟩
  simp only [List.length_append]
  omega
theorem Xg (w:WS) {c:Chg} (h:c.fit):(w.chgR c).s.length ≤ w.s.length + 3110:=by
 have h1:=jr w h.kind
 have h2:=ya (w.numR c.kind) c.path
 have h3:=ya ((w.numR c.kind).txtR c.path) c.to
 have h4:=ya (((w.numR c.kind).txtR c.path).txtR c.to) c.text
 have h5:=jr ((((w.numR c.kind).txtR c.path).txtR c.to).txtR c.text) h.base
 unfold WS.chgR
 omega
theorem wn (l:List Chg) : ∀ (w:WS),(∀ c,c ∈ l → c.fit) → (l.foldl WS.chgR w).s.length ≤ w.s.length + 3110 * l.length:=by
 induction l with
 | nil=>exact fun w _=>Nat.le_refl _
 | cons c l ih =>
   intro w h
   have h1:=Xg w (h c (by simp))
   have h2:=ih (w.chgR c) (fun x hx=>h x (by simp [hx]))
   simp only [List.length_cons,List.foldl_cons]
   omega
theorem Yx (w:WS) {l:List Chg} (h : ∀ c,c ∈ l → c.fit):(w.chgsR l).s.length ≤ w.s.length + 62222:=by
 unfold WS.chgsR
 split
 ·exact Nat.le_add_right _ _
 ·have h1:=wn l (w.numR l.length) h
  have h2:=jr w (n:=l.length) ⟨by omega,by omega⟩
  omega
attribute [local irreducible] Awp jV jt jv Red qz Go.Ab.Fin qu Rz x0 ju jn ResOk jG jo yi qM
set_option maxHeartbeats 1000000 in
theorem zM (w:WS) (t:qp) (ht:t.length ≤ 1000000000) (hw:w.s.length ≤ 900000000):qu C1.P 25 [.op 0 0 0,.v (str t)] [wR w] (.tup []) [wR (w.txtR t)]:=by
 by_cases h:1000 < t.length
 ·have e:w.txtR t = ⟨w.s,true,w.f⟩:=by unfold WS.txtR;rw [if_pos h]
  rw [e]
  refine qe (C:=C1) Tryd.func25 rfl _ Tryd.ntmps25 (Nat.le_of_ble_eq_true rfl) _ Tryd.results25 1 rfl rfl ?_
  repeat' (first|refine ql ?_|fail|((first|(apply qb;rfl;rfl;exact nle rfl)|(apply qa;rfl;rfl;exact nle rfl)|refine xsC ?_ ?_);all_goals (intro hc;have hp:=hc;try simp at hp;try (exfalso;omega)))|refine jj ?_ ?_)
  all_goals try (exfalso;omega)
  all_goals ((apply qv (rs:=[]) [] 1;(case hr=>(repeat (first|exact qm|(apply qn;rfl)|(apply qk;rfl;rfl;rfl;rfl;rfl))));(case hL=>rfl);(case hh=>(refine jA (q:=0) rfl (qd rfl) rfl qg));(case hi=>exact rfl);(case hz=>first|rfl|(simp [jw,AV.ren,AV.ren.renL,qV,qi,qI];done))))
 ·have e:w.txtR t = ⟨(w.numR t.length).s ++ t,(w.numR t.length).g,(w.numR t.length).f⟩:=by unfold WS.txtR;rw [if_neg h]
  rw [e]
  have hI:yL (t.length:Int):=⟨by omega,by omega⟩
  have c:=jX w t.length hI (by omega)
  have hl:=jr w hI
  generalize w.numR t.length = v at *
  refine qe (C:=C1) Tryd.func25 rfl _ Tryd.ntmps25 (Nat.le_of_ble_eq_true rfl) _ Tryd.results25 1 rfl rfl ?_
  repeat' (first|refine ql ?_|(first|(apply qc Tryd.func24 rfl rfl;intro hIsFn;refine js 0 hIsFn (c) rfl ?_))|((first|(apply qb;rfl;rfl;exact nle rfl)|(apply qa;rfl;rfl;exact nle rfl)|refine xsC ?_ ?_);all_goals (intro hc;have hp:=hc;try simp at hp;try (exfalso;omega)))|refine jj ?_ ?_)
  all_goals try (exfalso;omega)
  all_goals ((apply qv (rs:=[]) [] 1;(case hr=>(repeat (first|exact qm|(apply qn;rfl)|(apply qk;rfl;rfl;rfl;rfl;rfl))));(case hL=>rfl);(case hh=>(refine jA (q:=0) rfl (qd rfl) rfl qg));(case hi=>exact rfl);(case hz=>first|rfl|(simp [jw,AV.ren,AV.ren.renL,qV,qi,qI];done))))
theorem V6 (w:WS):qu C1.P 27 [.op 0 0 0] [wR w] (.tup [.v (str w.done.1),.v (.int .i64 w.done.2)]) [wR w]:=by
 obtain ⟨s,g,f⟩:=w
 unfold WS.done
 cases g with
 | true =>
   refine qe (C:=C1) Tryd.func27 rfl _ Tryd.ntmps27 (Nat.le_of_ble_eq_true rfl) _ Tryd.results27 1 rfl rfl ?_
   repeat' (first|refine ql ?_|fail|((first|(apply qb;rfl;rfl;exact nle rfl)|(apply qa;rfl;rfl;exact nle rfl)|refine xsC ?_ ?_);all_goals (intro hc;have hp:=hc;try simp at hp;try (exfalso;omega)))|refine jj ?_ ?_)
   all_goals ((apply qv (rs:=[.tmp 2,.tmp 3]) [] 1;(case hr=>(repeat (first|exact qm|(apply qn;rfl)|(apply qk;rfl;rfl;rfl;rfl;rfl))));(case hL=>rfl);(case hh=>(refine jA (q:=0) rfl (qd rfl) rfl qg));(case hi=>exact rfl);(case hz=>first|rfl|(simp [jw,AV.ren,AV.ren.renL,qV,qi,qI];done))))
 | false =>
   cases f with
   | true =>
     refine qe (C:=C1) Tryd.func27 rfl _ Tryd.ntmps27 (Nat.le_of_ble_eq_true rfl) _ Tryd.results27 1 rfl rfl ?_
     repeat' (first|refine ql ?_|fail|((first|(apply qb;rfl;rfl;exact nle rfl)|(apply qa;rfl;rfl;exact nle rfl)|refine xsC ?_ ?_);all_goals (intro hc;have hp:=hc;try simp at hp;try (exfalso;omega)))|refine jj ?_ ?_)
     all_goals ((apply qv (rs:=[.tmp 2,.tmp 3]) [] 1;(case hr=>(repeat (first|exact qm|(apply qn;rfl)|(apply qk;rfl;rfl;rfl;rfl;rfl))));(case hL=>rfl);(case hh=>(refine jA (q:=0) rfl (qd rfl) rfl qg));(case hi=>exact rfl);(case hz=>first|rfl|(simp [jw,AV.ren,AV.ren.renL,qV,qi,qI];done))))
   | false =>
     refine qe (C:=C1) Tryd.func27 rfl _ Tryd.ntmps27 (Nat.le_of_ble_eq_true rfl) _ Tryd.results27 1 rfl rfl ?_
     repeat' (first|refine ql ?_|fail|((first|(apply qb;rfl;rfl;exact nle rfl)|(apply qa;rfl;rfl;exact nle rfl)|refine xsC ?_ ?_);all_goals (intro hc;have hp:=hc;try simp at hp;try (exfalso;omega)))|refine jj ?_ ?_)
     all_goals ((apply qv (rs:=[.tmp 2,.tmp 3]) [] 1;(case hr=>(repeat (first|exact qm|(apply qn;rfl)|(apply qk;rfl;rfl;rfl;rfl;rfl))));(case hL=>rfl);(case hh=>(refine jA (q:=0) rfl (qd rfl) rfl qg));(case hi=>exact rfl);(case hz=>first|rfl|(simp [jw,AV.ren,AV.ren.renL,qV,qi,qI];done))))
set_option maxHeartbeats 4000000 in
theorem YK (w:WS) (l:List Chg) (hl:l.length ≤ 1000000000) (hfit : ∀ c,c ∈ l → c.fit) (hw:w.s.length ≤ 800000000):qu C1.P 26 [.op 0 0 0,yt l] [wR w] (.tup []) [wR (w.chgsR l)]:=by
 have hml:(l.map Chg.row).length = l.length:=List.length_map ..
 by_cases h:20 < l.length
 ·have e:w.chgsR l = ⟨w.s,true,w.f⟩:=by unfold WS.chgsR;rw [if_pos h]
  rw [e]
  unfold yt
  refine qe (C:=C1) Tryd.func26 rfl _ Tryd.ntmps26 (Nat.le_of_ble_eq_true rfl) _ Tryd.results26 1 rfl rfl ?_
  repeat' (first|refine ql ?_|fail|((first|(apply qb;rfl;rfl;exact nle rfl)|(apply qa;rfl;rfl;exact nle rfl)|refine xsC ?_ ?_);all_goals (intro hc;have hp:=hc;try simp at hp;try (exfalso;omega)))|refine jj ?_ ?_)
  all_goals try (exfalso;omega)
  all_goals ((apply qv (rs:=[]) [] 1;(case hr=>(repeat (first|exact qm|(apply qn;rfl)|(apply qk;rfl;rfl;rfl;rfl;rfl))));(case hL=>rfl);(case hh=>(refine jA (q:=0) rfl (qd rfl) rfl qg));(case hi=>exact rfl);(case hz=>first|rfl|(simp [jw,AV.ren,AV.ren.renL,qV,qi,qI];done))))
 ·have e:w.chgsR l = l.foldl WS.chgR (w.numR l.length):=by unfold WS.chgsR;rw [if_neg h]
  rw [e]
  have hI:yL (l.length:Int):=⟨by omega,by omega⟩
  have c:=jX w l.length hI (by omega)
  rw [← hml] at c
  have hwl:=jr w hI
  unfold yt
  generalize hv:w.numR l.length = v at *
  refine qe (C:=C1) Tryd.func26 rfl _ Tryd.ntmps26 (Nat.le_of_ble_eq_true rfl) _ Tryd.results26 1 rfl rfl ?_
  repeat' (first|refine ql ?_|(first|(apply qc Tryd.func24 rfl rfl;intro hIsFn;refine js 0 hIsFn (c) rfl ?_))|((first|(apply qb;rfl;rfl;exact nle rfl)|(apply qa;rfl;rfl;exact nle rfl)|refine xsC ?_ ?_);all_goals (intro hc;have hp:=hc;try simp at hp;try (exfalso;omega)))|refine jj ?_ ?_)
  all_goals try (exfalso;omega)
  (refine Awp.red (qF (τ:=⟨[(0,.op 0 0 0),(1,.sl false (l.map Chg.row)),(4,.v (.int .i64 ((0:Nat):Int)))],[(0,wR v)],1⟩) [] rfl ?gts2 ?ghs2) ?_;(case gts2=>(repeat (first|exact qq|refine jb ?_|refine yq ?_|refine jL ?_|refine yB ?_|refine jM ?_ ?_|refine yp ?_ ?_));all_goals rfl);(case ghs2=>(refine jA (q:=0) rfl (qd rfl) (by rw [hml];exact hv) qg)))
  refine j8 (fun n σ => ∃ i:Nat,i ≤ l.length ∧ n = l.length - i ∧ σ = ⟨[(0,.op 0 0 0),(1,.sl false (l.map Chg.row)),(4,.v (.int .i64 (i:Int)))],[(0,wR ((l.take i).foldl WS.chgR v))],1⟩) l.length ⟨0,Nat.zero_le _,rfl,rfl⟩ ?_
  rintro n σ ⟨i,hi,rfl,rfl⟩
  have hb:=wn (l.take i) v (fun c hx=>hfit c (List.mem_of_mem_take hx))
  have hti:(l.take i).length ≤ 20:=by rw [List.length_take];omega
  by_cases hlt:i < l.length
  ·have yP:(l.map Chg.row)[i]? = some (l[i].row):=by rw [List.getElem?_map,List.getElem?_eq_getElem hlt];rfl
   have hfold:(l.take (i + 1)).foldl WS.chgR v = ((l.take i).foldl WS.chgR v).chgR l[i]:=by
    rw [List.take_succ_eq_append_getElem hlt,List.foldl_append];rfl
   have hf:=hfit l[i] (List.getElem_mem hlt)
   generalize (l.take i).foldl WS.chgR v = u at *
   generalize l[i] = x at *
   have hul:u.s.length ≤ 800070000:=by omega
   obtain ⟨x1,x2,x3,x4,x5⟩:=hf
   have l1:=jr u x1
   have l2:=ya (u.numR x.kind) x.path
   have l3:=ya ((u.numR x.kind).txtR x.path) x.to
   have l4:=ya (((u.numR x.kind).txtR x.path).txtR x.to) x.text
   have c1:=jX u x.kind x1 (by omega)
   have c2:=zM (u.numR x.kind) x.path x2 (by omega)
   have c3:=zM ((u.numR x.kind).txtR x.path) x.to x3 (by omega)
   have c4:=zM (((u.numR x.kind).txtR x.path).txtR x.to) x.text x4 (by omega)
   have c5:=jX ((((u.numR x.kind).txtR x.path).txtR x.to).txtR x.text) x.base x5 (by omega)
   unfold WS.chgR at hfold
   generalize ((((u.numR x.kind).txtR x.path).txtR x.to).txtR x.text).numR x.base = u5 at *
   generalize (((u.numR x.kind).txtR x.path).txtR x.to).txtR x.text = u4 at *
   generalize ((u.numR x.kind).txtR x.path).txtR x.to = u3 at *
   generalize (u.numR x.kind).txtR x.path = u2 at *
   generalize u.numR x.kind = u1 at *
   unfold Chg.row at yP
   clear l1 l2 l3 l4 hb hti hul e hw hwl c
   repeat' (first|refine ql ?_|(first|(apply qc Tryd.func24 rfl rfl;intro hIsFn;refine js 0 hIsFn (c1) rfl ?_)|(apply qc Tryd.func25 rfl rfl;intro hIsFn;refine js 0 hIsFn (c2) rfl ?_)|(apply qc Tryd.func25 rfl rfl;intro hIsFn;refine js 0 hIsFn (c3) rfl ?_)|(apply qc Tryd.func25 rfl rfl;intro hIsFn;refine js 0 hIsFn (c4) rfl ?_)|(apply qc Tryd.func24 rfl rfl;intro hIsFn;refine js 0 hIsFn (c5) rfl ?_))|((first|(apply qb;rfl;rfl;exact nle rfl)|(apply qa;rfl;rfl;exact nle rfl)|refine xsC ?_ ?_);all_goals (intro hc;have hp:=hc;try simp at hp;try (exfalso;omega)))|refine jj ?_ ?_)
   all_goals try (exfalso;omega)
   all_goals (refine ⟨l.length - (i + 1),⟨[(0,.op 0 0 0),(1,.sl false (l.map Chg.row)),(4,.v (.int .i64 ((i + 1:Nat):Int)))],[(0,wR ((l.take (i + 1)).foldl WS.chgR v))],1⟩,by omega,?_,⟨i + 1,by omega,rfl,rfl⟩⟩;refine qF [] rfl ?gts ?ghs;(case gts=>(repeat (first|exact qq|refine jb ?_|refine yq ?_|refine jL ?_|refine yB ?_|refine jM ?_ ?_|refine yp ?_ ?_));all_goals first|rfl|(simp;omega));(case ghs=>(refine jA (q:=0) rfl (qd rfl) hfold.symm qg)))
  ·obtain rfl:i = l.length:=by omega
   rw [List.take_length] at *
   generalize l.foldl WS.chgR v = u at *
   repeat' (first|refine ql ?_|fail|((first|(apply qb;rfl;rfl;exact nle rfl)|(apply qa;rfl;rfl;exact nle rfl)|refine xsC ?_ ?_);all_goals (intro hc;have hp:=hc;try simp at hp;try (exfalso;omega)))|refine jj ?_ ?_)
   all_goals try (exfalso;omega)
   all_goals ((apply qv (rs:=[]) [] 1;(case hr=>(repeat (first|exact qm|(apply qn;rfl)|(apply qk;rfl;rfl;rfl;rfl;rfl))));(case hL=>rfl);(case hh=>(refine jA (q:=0) rfl (qd rfl) rfl qg));(case hi=>exact rfl);(case hz=>first|rfl|(simp [jw,AV.ren,AV.ren.renL,qV,qi,qI];done))))
end Go.Proofs.YtahbbnfmbohmmaaDoor
set_option linter.unusedSimpArgs false
set_option linter.unnecessarySimpa false
set_option linter.unusedVariables false
set_option maxHeartbeats 1000000
namespace Go.Proofs.YtahbbnfmbohmmaaDoor
open Go.Ab Go.RowKit
set_option maxRecDepth 10000
def rq0:Rqt:=⟨2,[97],[102],[],[],[],0,0,0,[]⟩
def ZJ:qp:=[50,59,49,59,97,49,59,102,48,59,48,59,48,59,48,59,48,59,48,59,48,59]
theorem Zo:kl rq0 = (ZJ,0):=by
 simp [kl,WS.rqt,WS.nums,WS.num,WS.txts,WS.txt,WS.chgs,WS.lst,WS.done,vY,jR,xq,Lib.itoa,Zq,ws0,rq0,ZJ]
theorem VH:rq0.fit:=⟨⟨by decide,by decide⟩,by decide,by decide,by decide,by decide,by decide,kF,kF,kF,(fun c h=>by cases h),by decide⟩
attribute [local irreducible] Awp jV jt jv Red qz Go.Ab.Fin qu Rz x0 ju jn ResOk jG jo yi qM
theorem Y7:zu C.P 10 [] (.v (.bool true)):=by
 have c1:=Y2 rq0 VH
 rw [Zo] at c1
 have c2:=Vd ZJ (by decide)
 rw [Yq Zo] at c2
 unfold rq0 ZJ Rqt.row yt at c1 c2
 dsimp only [List.map_nil] at c1 c2
 refine qe Tryd.func10 rfl _ Tryd.ntmps10 (Nat.le_of_ble_eq_true rfl) _ Tryd.results10 0 rfl rfl ?_
 repeat' (first|(first|refine xsF Tryd.func8 (c1 ..) ?_|refine ZK Tryd.func12 (c2 ..) ?_|(apply qx;apply (vh (cs:=[.v (.int .i64 2),.v (str [97]),.v (str [102]),.v (str []),.v (str []),.v (str []),.v (.int .i64 0),.v (.int .i64 0),.v (.int .i64 0),.sl true []]));rfl;rfl;rfl;kernel_rfl;exact nle rfl))|refine ql ?_|((first|(apply qb;rfl;rfl;exact nle rfl)|(apply qa;rfl;rfl;exact nle rfl)|refine xsC ?_ ?_);all_goals (intro hc;have hp:=hc;try simp at hp;try (exfalso;omega)))|refine jj ?_ ?_)
 all_goals ((refine jJ (rs:=[.tmp 0]) ?_;(repeat' (first|exact jf|apply qO|exact qN rfl|exact j1|exact y7|apply jx|apply jF|apply jy|apply jD|apply jm|apply jE|refine y6 ?_|apply yd));all_goals rfl))
theorem Y6 (s t:qp) (e w:Int):zu C.P 11 [.v (str s),.v (.int .i64 e),.v (.int .i64 w),.v (str t)] (.v (.bool (decide (e = w) && decide (s = if w = 0 then t else [])))):=by
 by_cases hw:w = 0
 ·rw [if_pos hw]
  by_cases he:e = w
  ·rw [decide_eq_true he,Bool.true_and]
   refine qe Tryd.func11 rfl _ Tryd.ntmps11 (Nat.le_of_ble_eq_true rfl) _ Tryd.results11 0 rfl rfl ?_
   repeat' (first|refine ql ?_|fail|((first|(apply qb;rfl;rfl;exact nle rfl)|(apply qa;rfl;rfl;exact nle rfl)|refine xsC ?_ ?_);all_goals (intro hc;have hp:=hc;try simp at hp;try (exfalso;omega)))|refine jj ?_ ?_)
   all_goals try (exfalso;omega)
   all_goals ((refine jJ (rs:=[.tmp 8]) ?_;(repeat' (first|exact jf|apply qO|exact qN rfl|exact j1|exact y7|apply jx|apply jF|apply jy|apply jD|apply jm|apply jE|refine y6 ?_|apply yd));all_goals rfl))
  ·rw [decide_eq_false he,Bool.false_and]
   refine qe Tryd.func11 rfl _ Tryd.ntmps11 (Nat.le_of_ble_eq_true rfl) _ Tryd.results11 0 rfl rfl ?_
   repeat' (first|refine ql ?_|fail|((first|(apply qb;rfl;rfl;exact nle rfl)|(apply qa;rfl;rfl;exact nle rfl)|refine xsC ?_ ?_);all_goals (intro hc;have hp:=hc;try simp at hp;try (exfalso;omega)))|refine jj ?_ ?_)
   all_goals try (exfalso;omega)
   all_goals ((refine jJ (rs:=[.tmp 8]) ?_;(repeat' (first|exact jf|apply qO|exact qN rfl|exact j1|exact y7|apply jx|apply jF|apply jy|apply jD|apply jm|apply jE|refine y6 ?_|apply yd));all_goals rfl))
 ·rw [if_neg hw]
  by_cases he:e = w
  ·rw [decide_eq_true he,Bool.true_and]
   refine qe Tryd.func11 rfl _ Tryd.ntmps11 (Nat.le_of_ble_eq_true rfl) _ Tryd.results11 0 rfl rfl ?_
   repeat' (first|refine ql ?_|fail|((first|(apply qb;rfl;rfl;exact nle rfl)|(apply qa;rfl;rfl;exact nle rfl)|refine xsC ?_ ?_);all_goals (intro hc;have hp:=hc;try simp at hp;try (exfalso;omega)))|refine jj ?_ ?_)
   all_goals try (exfalso;omega)
   all_goals ((refine jJ (rs:=[.tmp 8]) ?_;(repeat' (first|exact jf|apply qO|exact qN rfl|exact j1|exact y7|apply jx|apply jF|apply jy|apply jD|apply jm|apply jE|refine y6 ?_|apply yd));all_goals rfl))
  ·rw [decide_eq_false he,Bool.false_and]
   refine qe Tryd.func11 rfl _ Tryd.ntmps11 (Nat.le_of_ble_eq_true rfl) _ Tryd.results11 0 rfl rfl ?_
   repeat' (first|refine ql ?_|fail|((first|(apply qb;rfl;rfl;exact nle rfl)|(apply qa;rfl;rfl;exact nle rfl)|refine xsC ?_ ?_);all_goals (intro hc;have hp:=hc;try simp at hp;try (exfalso;omega)))|refine jj ?_ ?_)
   all_goals try (exfalso;omega)
   all_goals ((refine jJ (rs:=[.tmp 8]) ?_;(repeat' (first|exact jf|apply qO|exact qN rfl|exact j1|exact y7|apply jx|apply jF|apply jy|apply jD|apply jm|apply jE|refine y6 ?_|apply yd));all_goals rfl))
end Go.Proofs.YtahbbnfmbohmmaaDoor
set_option linter.unusedSimpArgs false
set_option linter.unusedVariables false
namespace Go.Proofs.YtahbbnfmbohmmaaDoor
open Go.Ab Go.RowKit
theorem vZ {a:Int} (h:(Lit.int .i64 a).wf = true):yL a:=by
 simp [Lit.wf] at h
 have e1:IntKind.i64.min = -9223372036854775808:=rfl
 have e2:IntKind.i64.max = 9223372036854775807:=rfl
 exact ⟨by omega,by omega⟩
theorem X4 {n:Nat} {xs:List AV} (h:xr C.tab 1000000000 n 97 xs) : ∃ s:Chg,xs = s.row ∧ s.fit:=by
 cases n with
 | zero=>exact h.elim
 | succ n =>
   obtain ⟨_,_,rfl,h0,_,_,rfl,h1,_,_,rfl,h2,_,_,rfl,h3,_,_,rfl,h4,rfl⟩:=(show vt C.tab 0 _ = some _ → QA (xr C.tab 1000000000 n) [(0,3),(1,9),(2,9),(3,9),(4,3)] xs from h) rfl
   obtain ⟨a0,rfl,l0⟩:=vE h0
   obtain ⟨a1,rfl,l1⟩:=vF h1
   obtain ⟨a2,rfl,l2⟩:=vF h2
   obtain ⟨a3,rfl,l3⟩:=vF h3
   obtain ⟨a4,rfl,l4⟩:=vE h4
   exact ⟨⟨a0,a1,a2,a3,a4⟩,rfl,vZ l0,l1,l2,l3,vZ l4⟩
theorem YV {n:Nat} {xs:List AV} (h:xr C.tab 1000000000 n 22 xs) : ∃ t:List Chg,xs = [yt t] ∧ (∀ c,c ∈ t → c.fit) ∧ t.length ≤ 1000000000:=by
 cases n with
 | zero=>exact h.elim
 | succ n =>
   obtain ⟨rows,he,hb,hr⟩:=(show (5:Nat) ≠ 0 → ∃ rows,xs = [AV.sl false rows] ∧ rows.length * 64 ≤ 1000000000 ∧ ∀ row,row ∈ rows → xr C.tab 1000000000 n 97 row from h) (by decide)
   obtain ⟨l,rfl,hl⟩:=zr (f:=Chg.row) (ok:=Chg.fit) (fun row hrow=>X4 (hr row hrow))
   refine ⟨l,he,hl,?_⟩
   simp at hb;omega
end Go.Proofs.YtahbbnfmbohmmaaDoor
set_option linter.unusedSimpArgs false
set_option linter.unnecessarySimpa false
set_option linter.unusedVariables false
set_option maxHeartbeats 1000000
namespace Go.Proofs.YtahbbnfmbohmmaaDoor
open Go.Ab Go.RowKit
set_option maxRecDepth 10000
noncomputable def tlW:Nat → Code → Code
 | 0,c=>c
 | n + 1,.seq _ b=>tlW n b
 | _,c=>c
noncomputable def Xt:Code → Code
 | .seq a _=>a
 | c=>c
@[reducible] def Z4 (s:qp) (a:Nat) (b:Bool):HB := .own true 3 [[.v (str s),.v (.int .i64 (a:Int)),.v (.bool b)]]
attribute [local irreducible] Awp jV jt jv Red qz Go.Ab.Fin qu Rz x0 ju jn ResOk jG jo yi qM
end Go.Proofs.YtahbbnfmbohmmaaDoor
