import Derived.Test.YtahbbnfmbohmmaaDoorMz25
import Derived.Test.YtahbbnfmbohmmaaDoorMz21
import Derived.Test.YtahbbnfmbohmmaaDoorMz3
import Derived.Lib.ItoaLen
set_option linter.unusedSimpArgs false
set_option linter.unnecessarySimpa false
set_option linter.unusedVariables false
set_option maxHeartbeats 1000000
namespace Go.Proofs.YtahbbnfmbohmmaaDoor
open Go.Ab Go.RowKit
set_option maxRecDepth 10000
theorem QQ:y7 0:=⟨by decide,by decide⟩
theorem ZO:noRqt.fit:=⟨QQ,by decide,by decide,by decide,by decide,by decide,QQ,QQ,QQ,(fun c h=>by cases h),by decide⟩
section steps
variable {C' : Cx} {N:Nat} {all:Array Oper} {es:List Eff} {o:Oper} {os:List Oper} {K:List Eff → St → Prop} {ts:List (Nat × AV)} {hs:List (Nat × HB)} {nx:Nat} {gd:List Nat}
theorem qF {f:FuncId} {args:List Operand} {tys:Array TypeId} {d:Nat} {ty:TypeId} {pos:String} {af:Array Edge} {gg:Option (Nat × Bool)} {ys:List AV} {v:AV} {k:Nat} {row row0 row1:List AV} (q:Nat) (hf:IsFn C'.P f)
  (hc:qt C'.P f ys [.own true k [row0]] v [.own true k [row1]]) (hp1:AV.pure.pureL row1 = true)
  (k' : jU C' N all (⟨gd ++ (jp (.func f) ++ args.flatMap jp),[q],some d,v,[(q,.own true k [row1])],[]⟩ :: es) ⟨(d,v) :: ts,(q,.own true k [row1]) :: hs,nx⟩ os K)
  (hq:qq hs q = .own true k [row]:=by rfl) (hp0:qU (jE 0 [q]) 0 row row0:=by ((repeat (first|exact qT|refine ql (qI rfl) ?_|refine ql Wb ?_))<;>fail))
  (hz:qG (jE 0 [q]) [q] (qq hs) (args.map (evA (qr ts))) ys:=by ((repeat' (first|exact jr|apply jj|exact jq rfl|exact jY|(apply qv;apply jf;exact .inr (of_decide_eq_true rfl))|(apply qv;apply yc;exact .inr (of_decide_eq_true rfl))|(apply qv;apply jn;exact .inr (of_decide_eq_true rfl))|apply jF|apply jG))<;>fail)) (hr:v.ren (xw (jE 0 [q])) = v:=by rfl) (hN:d < N:=by exact nle rfl):vw C' N all gd es ⟨ts,hs,nx⟩ f args d tys ty pos af gg os K :=
 xf [q] [] [(q,.own true k [row1])] nx v hf hc hz (jA (.own true k [row]) yt (qX hp0) hq rfl) (qV (qX (qE hp1)) ye) k' hr rfl rfl (Nat.le_of_ble_eq_true rfl) (by simp) rfl (fun n hn=>by cases hn) (Nat.le_refl _) hN
end steps
attribute [local irreducible] Awp jU jl qQ Red qD Go.Ab.Fin qt Rz yZ qO qJ ResOk jt qU jN qG
set_option maxHeartbeats 4000000 in
theorem QA (s t:qo) (e:Int) (ok:Bool) (q:Rqt) (hw:qt C.P 28 [.v (str s),.clo (.func 29) [] [.op 0 0 0]] [.own true 10 [noRqt.row]] (.v (.bool ok)) [.own true 10 [q.row]])
  (ha:zm C.P 8 [.agg q.row] (.tup [.v (str t),.v (.int .i64 e)])) :
  zm C.P 12 [.v (str s)] (if ok = true ∧ t = s ∧ e = 0 then .tup [.agg q.row,.v (.int .i64 0)] else .tup [.agg noRqt.row,.v (.int .i64 1)]):=by
 unfold noRqt Rqt.row at hw
 unfold Rqt.row at ha
 unfold noRqt Rqt.row
 obtain ⟨q1,q2,q3,q4,q5,q6,q7,q8,q9,q10⟩:=q
 dsimp only at *
 cases ok with
 | false =>
   refine qf Tryd.func12 rfl _ Tryd.ntmps12 (Nat.le_of_ble_eq_true rfl) _ Tryd.results12 0 rfl rfl ?_
   repeat' (first|refine qi ?_|(first|(apply qc Tryd.func28 rfl rfl;intro hIsFn;refine qF 1 hIsFn (hw) rfl ?_)|refine xsF Tryd.func8 (ha ..) ?_)|((first|(apply qb;rfl;rfl;exact nle rfl)|(apply qa;rfl;rfl;exact nle rfl)|refine xsC ?_ ?_);all_goals (intro hc;have hp:=hc;try simp at hp;try (exfalso;omega)))|refine qS ?_ ?_)
   all_goals ((refine j1 (rs:=[.cell 2 24,.tmp 3]) ?_;(repeat' (first|exact jv|apply jh|exact jg rfl|exact yl|exact xA|apply jQ|apply jX|apply jR|apply jV|apply jB|apply jW|refine xz ?_|apply yv));all_goals rfl))
 | true =>
   by_cases he:e = 0
   ·subst he
    by_cases ht:t = s
    ·subst ht
     refine qf Tryd.func12 rfl _ Tryd.ntmps12 (Nat.le_of_ble_eq_true rfl) _ Tryd.results12 0 rfl rfl ?_
     repeat' (first|refine qi ?_|(first|(apply qc Tryd.func28 rfl rfl;intro hIsFn;refine qF 1 hIsFn (hw) rfl ?_)|refine xsF Tryd.func8 (ha ..) ?_)|((first|(apply qb;rfl;rfl;exact nle rfl)|(apply qa;rfl;rfl;exact nle rfl)|refine xsC ?_ ?_);all_goals (intro hc;have hp:=hc;try simp at hp;try (exfalso;omega)))|refine qS ?_ ?_)
     all_goals try (exfalso;simp at *;done)
     all_goals (rw [if_pos ⟨rfl,rfl,rfl⟩])
     all_goals ((refine j1 (rs:=[.cell 2 24,.tmp 3]) ?_;(repeat' (first|exact jv|apply jh|exact jg rfl|exact yl|exact xA|apply jQ|apply jX|apply jR|apply jV|apply jB|apply jW|refine xz ?_|apply yv));all_goals rfl))
    ·refine qf Tryd.func12 rfl _ Tryd.ntmps12 (Nat.le_of_ble_eq_true rfl) _ Tryd.results12 0 rfl rfl ?_
     repeat' (first|refine qi ?_|(first|(apply qc Tryd.func28 rfl rfl;intro hIsFn;refine qF 1 hIsFn (hw) rfl ?_)|refine xsF Tryd.func8 (ha ..) ?_)|((first|(apply qb;rfl;rfl;exact nle rfl)|(apply qa;rfl;rfl;exact nle rfl)|refine xsC ?_ ?_);all_goals (intro hc;have hp:=hc;try simp at hp;try (exfalso;omega)))|refine qS ?_ ?_)
     all_goals try (exfalso;simp_all;done)
     all_goals (rw [if_neg (fun h=>ht h.2.1)])
     all_goals ((refine j1 (rs:=[.cell 2 24,.tmp 3]) ?_;(repeat' (first|exact jv|apply jh|exact jg rfl|exact yl|exact xA|apply jQ|apply jX|apply jR|apply jV|apply jB|apply jW|refine xz ?_|apply yv));all_goals rfl))
   ·refine qf Tryd.func12 rfl _ Tryd.ntmps12 (Nat.le_of_ble_eq_true rfl) _ Tryd.results12 0 rfl rfl ?_
    repeat' (first|refine qi ?_|(first|(apply qc Tryd.func28 rfl rfl;intro hIsFn;refine qF 1 hIsFn (hw) rfl ?_)|refine xsF Tryd.func8 (ha ..) ?_)|((first|(apply qb;rfl;rfl;exact nle rfl)|(apply qa;rfl;rfl;exact nle rfl)|refine xsC ?_ ?_);all_goals (intro hc;have hp:=hc;try simp at hp;try (exfalso;omega)))|refine qS ?_ ?_)
    all_goals try (exfalso;omega)
    all_goals (rw [if_neg (fun h=>he h.2.2)])
    all_goals ((refine j1 (rs:=[.cell 2 24,.tmp 3]) ?_;(repeat' (first|exact jv|apply jh|exact jg rfl|exact yl|exact xA|apply jQ|apply jX|apply jR|apply jV|apply jB|apply jW|refine xz ?_|apply yv));all_goals rfl))
theorem yS (t:qo):t.length ≤ (xU t).length:=by unfold xU;rw [List.length_append];omega
theorem KM {α:Type} (T:α → qo) {l:List α} {x:α} (h:x ∈ l):(T x).length ≤ (l.flatMap T).length:=by
 induction l with
 | nil=>cases h
 | cons a l ih =>
   rw [List.flatMap_cons,List.length_append]
   rcases List.mem_cons.1 h with rfl|h
   ·omega
   ·have:=ih h;omega
theorem QX {α:Type} (T:α → qo) {l:List α} {x:α} (h:x ∈ l):(T x).length ≤ (kY T l).length:=by
 unfold kY
 rw [List.length_append]
 have:=KM T h
 omega
theorem Ko {c:Chg} (h:WG c) (hl:(J8 c).length ≤ 1000000000):c.fit:=by
 obtain ⟨h1,h2,h3,h4,h5⟩:=h
 unfold J8 at hl
 simp only [List.length_append] at hl
 have a:=yS c.path
 have b:=yS c.to
 have d:=yS c.text
 exact ⟨h1,by omega,by omega,by omega,h5⟩
theorem JD {l:List Chg} (h:VM l) (hl:(Y2 l).length ≤ 1000000000) : ∀ c,c ∈ l → c.fit:=fun c hc=>Ko (h.2 c hc) (Nat.le_trans (QX J8 hc) hl)
theorem Wd {q:Rqt} (h:qaV q) (hl:(Xz q).length ≤ 1000000000):q.fit:=by
 obtain ⟨h1,h2,h3,h4,h5,h6,h7,h8,h9,h10⟩:=h
 unfold Xz at hl
 simp only [List.length_append] at hl
 have a:=yS q.who
 have b:=yS q.folder
 have c:=yS q.name
 have d:=yS q.key
 have e:=yS q.text
 exact ⟨h1,by omega,by omega,by omega,by omega,by omega,h7,h8,h9,JD h10 (by omega),by have:=h10.1;omega⟩
theorem Wy (s:qo) (hs:s.length ≤ 1000000000):zm C.P 12 [.v (str s)] (.tup [.agg (we s).1.row,.v (.int .i64 (we s).2)]):=by
 cases hq:Je s with
 | none =>
   have hw:=wV s (f:=29) Tryd.func29 rfl rfl 10 noRqt.row noRqt.row rfl rfl (ZU s noRqt hs hq)
   have h:=QA s _ _ false noRqt hw (Kb noRqt ZO)
   rw [if_neg (fun h=>by cases h.1)] at h
   unfold we
   rw [hq]
   exact h
 | some p =>
   obtain ⟨q,r⟩:=p
   obtain ⟨e1,e2⟩:=rd_rqt.of _ _ _ hq
   have hf:q.fit:=Wd e2 (by have:=congrArg List.length e1;rw [List.length_append] at this;omega)
   have hw:=VF s r (f:=29) Tryd.func29 rfl rfl 10 noRqt.row q.row rfl rfl (qby s r q noRqt hs hq)
   have h:=QA s _ _ _ q hw (Kb q hf)
   unfold we
   rw [hq]
   dsimp only
   by_cases hr:r = [] ∧ Qz q = (s,0)
   ·rw [if_pos hr]
    rw [if_pos ⟨by simpa using hr.1,by rw [hr.2],by rw [hr.2]⟩] at h
    exact h
   ·rw [if_neg hr]
    rw [if_neg (fun h=>hr ⟨by simpa using h.1,Prod.ext h.2.1 h.2.2⟩)] at h
    exact h
end Go.Proofs.YtahbbnfmbohmmaaDoor
set_option linter.unusedSimpArgs false
set_option linter.unnecessarySimpa false
set_option linter.unusedVariables false
set_option maxHeartbeats 1000000
namespace Go.Proofs.YtahbbnfmbohmmaaDoor
open Go.Ab Go.RowKit
set_option maxRecDepth 10000
theorem qbg {k:Nat} (h:k < 10):Lib.decDigits k = [UInt8.ofNat (48 + k)]:=by rw [Lib.decDigits,dif_pos h]
theorem qbM {k:Nat} (h:¬ k < 10):Lib.decDigits k = Lib.decDigits (k / 10) ++ [UInt8.ofNat (48 + k % 10)]:=by rw [Lib.decDigits,dif_neg h]
theorem qaq (k:Nat):Lib.itoa (k:Int) = Lib.decDigits k:=by
 unfold Lib.itoa
 rw [if_neg (by omega)]
 simp
theorem qbf {k:Nat} (h:k ≤ 20000000000000000):(Lib.decDigits k).length ≤ 21:=by
 rw [← qaq]
 exact Lib.itoa_length_le _ (by omega) (by omega)
attribute [local irreducible] Awp jU jl qQ Red qD Go.Ab.Fin qt Rz yZ qO qJ ResOk jt qU jN qG
theorem Kc (k:Nat) (hk:k ≤ 20000000000000000):zm C.P 57 [.v (.int .i64 (k:Int))] (.v (str (Lib.decDigits k))):=by
 have hB : ∀ n:Nat,(48 + ((n:Nat):Int)).toNat = 48 + n:=fun n=>by omega
 refine qf Tryd.func57 rfl _ Tryd.ntmps57 (Nat.le_of_ble_eq_true rfl) _ Tryd.results57 0 rfl rfl ?_
 repeat' (first|refine vF ?_|fail|((first|refine xsC ?_ ?_);all_goals (intro hc;have hp:=hc;try simp at hp;try (exfalso;omega)))|refine qS ?_ ?_)
 all_goals try (exfalso;omega)
 (refine Awp.red (xJ (ts:=[(0,.v (.int .i64 ((k:Nat):Int))),(3,.v (str ([]:qo)))]) ?_) ?_;((repeat (first|exact qh|refine qA ?_|refine jy ?_ ?_))))
 refine jC (fun n σ => ∃ (m:Nat) (s:qo),m ≤ 20000000000000000 ∧ n = m + 1 ∧ Lib.decDigits m ++ s = Lib.decDigits k ∧ σ = ⟨[(0,.v (.int .i64 (m:Int))),(3,.v (str s))],[],C.nh⟩) (k + 1) ⟨k,[],hk,rfl,by simp,rfl⟩ ?_
 rintro n σ ⟨m,s,hm,rfl,hd,rfl⟩
 have hsl:s.length ≤ 21:=by
  have h1:=congrArg List.length hd
  have h2:=qbf hk
  rw [List.length_append] at h1
  omega
 by_cases h10:m < 10
 ·have hq:m / 10 = 0:=by omega
  have hr:m % 10 = m:=by omega
  rw [qbg h10] at hd
  repeat' (first|refine vF ?_|(first|(apply qp;apply KL (b:=10);rfl;rfl;decide;exact nle rfl)|(apply qp;apply KK (b:=10);rfl;rfl;decide;omega;exact nle rfl)|(apply qp;apply Yg;rfl;rfl;rfl;rfl;rfl;exact IntWalk.u8_in _ (by omega);exact nle rfl)|(refine ya ?_)|(apply qp;apply Y8;rfl;rfl;rfl;rfl;rfl;rfl;rfl;exact nle rfl))|((first|refine xsC ?_ ?_);all_goals (intro hc;have hp:=hc;try simp at hp;try (exfalso;omega)))|refine qS ?_ ?_)
  all_goals try (exfalso;omega)
  (refine j1 (rs:=[.tmp 2]) ?_;(repeat' (first|exact jv|apply jh|exact jg rfl|exact yl|exact xA|apply jQ|apply jX|apply jR|apply jV|apply jB|apply jW|refine xz ?_|apply yv));all_goals (first|(rw [hr,hB];exact hd)|(intros;simp_all;done)|trace_state))
 ·rw [qbM h10] at hd
  have hq:¬ m / 10 = 0:=by omega
  repeat' (first|refine vF ?_|(first|(apply qp;apply KL (b:=10);rfl;rfl;decide;exact nle rfl)|(apply qp;apply KK (b:=10);rfl;rfl;decide;omega;exact nle rfl)|(apply qp;apply Yg;rfl;rfl;rfl;rfl;rfl;exact IntWalk.u8_in _ (by omega);exact nle rfl)|(refine ya ?_)|(apply qp;apply Y8;rfl;rfl;rfl;rfl;rfl;rfl;rfl;exact nle rfl))|((first|refine xsC ?_ ?_);all_goals (intro hc;have hp:=hc;try simp at hp;try (exfalso;omega)))|refine qS ?_ ?_)
  all_goals try (exfalso;omega)
  refine ⟨m / 10 + 1,_,by omega,xJ (ts:=[(0,.v (.int .i64 ((m / 10:Nat):Int))),(3,.v (str (UInt8.ofNat (48 + m % 10) :: s)))]) ?_,m / 10,UInt8.ofNat (48 + m % 10) :: s,by omega,rfl,by rw [← hd];simp,rfl⟩
  ((repeat (first|exact qh|refine qA ?_|refine jy ?_ ?_));all_goals (first|rfl|(rw [hB];rfl)|trace_state))
theorem qan (n:Int) (h0 : -20000000000000000 ≤ n) (h1:n ≤ 20000000000000000):zm C.P 57 [.v (.int .i64 n)] (.v (str (Lib.itoa n))):=by
 by_cases hn:n < 0
 ·obtain ⟨k,rfl⟩ : ∃ k:Nat,n = -(k:Int):=⟨n.natAbs,by omega⟩
  have hk:k ≤ 20000000000000000:=by omega
  have c:=Kc k hk
  have hl:=qbf hk
  have e:(45 :: Lib.decDigits k:qo) = Lib.itoa (-(k:Int)):=by
   unfold Lib.itoa
   rw [if_pos hn]
   simp
  rw [show ((k:Nat):Int) = -(-(k:Int)) by omega] at c
  refine qf Tryd.func57 rfl _ Tryd.ntmps57 (Nat.le_of_ble_eq_true rfl) _ Tryd.results57 0 rfl rfl ?_
  repeat' (first|refine vF ?_|(first|refine xsF Tryd.func57 (c ..) ?_|(apply qp;apply KH;rfl;omega;omega;exact nle rfl))|((first|refine xsC ?_ ?_);all_goals (intro hc;have hp:=hc;try simp at hp;try (exfalso;omega)))|refine qS ?_ ?_)
  all_goals try (exfalso;omega)
  all_goals ((refine j1 (rs:=[.tmp 2]) ?_;(repeat' (first|exact jv|apply jh|exact jg rfl|exact yl|exact xA|apply jQ|apply jX|apply jR|apply jV|apply jB|apply jW|refine xz ?_|apply yv));all_goals exact e))
 ·obtain ⟨k,rfl⟩ : ∃ k:Nat,n = (k:Int):=⟨n.natAbs,by omega⟩
  rw [qaq]
  exact Kc k (by omega)
@[reducible] def wR (w:WS):HB := .own true 3 [[.v (str w.s),.v (.bool w.g),.v (.bool w.f)]]
theorem j8 {L:List (Nat × Nat)} {nh:Nat} {σ:St} {q q' : Nat} {w w' : WS} {rest:List (Nat × HB)} (hq:qq σ.hs q = wR w) (h1:Maps L nh q q') (hs:w = w') (hr:jZ L nh σ rest):jZ L nh σ ((q',wR w') :: rest):=by
 subst hs
 exact ⟨⟨q,h1,by rw [hq];exact qX (qE rfl)⟩,hr⟩
set_option maxHeartbeats 1000000 in
theorem yx (w:WS) (n:Int) (hn:y7 n) (hw:w.s.length ≤ 1000000000):qt C1.P 24 [.op 0 0 0,.v (.int .i64 n)] [wR w] (.tup []) [wR (w.numR n)]:=by
 obtain ⟨h1,h2⟩:=hn
 by_cases hf:kz n = true
 ·have e:w.numR n = ⟨w.s,w.g,true⟩:=by unfold WS.numR;rw [if_pos hf]
  rw [e]
  unfold kz at hf
  simp only [Bool.or_eq_true,decide_eq_true_eq] at hf
  refine qf (C:=C1) Tryd.func24 rfl _ Tryd.ntmps24 (Nat.le_of_ble_eq_true rfl) _ Tryd.results24 1 rfl rfl ?_
  repeat' (first|refine qi ?_|fail|((first|(apply qb;rfl;rfl;exact nle rfl)|(apply qa;rfl;rfl;exact nle rfl)|refine xsC ?_ ?_);all_goals (intro hc;have hp:=hc;try simp at hp;try (exfalso;omega)))|refine qS ?_ ?_)
  all_goals try (exfalso;omega)
  all_goals ((apply qu (rs:=[]) [] 1;(case hr=>(repeat (first|exact qm|(apply qn;rfl)|(apply qj;rfl;rfl;rfl;rfl;rfl))));(case hL=>rfl);(case hh=>(refine j8 (q:=0) rfl (qd rfl) rfl qe));(case hi=>exact rfl);(case hz=>first|rfl|(simp [ju,AV.ren,AV.ren.renL,qP,qr,qL];done))))
 ·have e:w.numR n = ⟨w.s ++ j6 n,w.g,w.f⟩:=by unfold WS.numR;rw [if_neg hf]
  rw [e]
  unfold kz at hf
  simp only [Bool.or_eq_true,decide_eq_true_eq] at hf
  have c:=qan n (by omega) (by omega)
  have hl:=Lib.itoa_length_le n (by omega) (by omega)
  unfold j6
  refine qf (C:=C1) Tryd.func24 rfl _ Tryd.ntmps24 (Nat.le_of_ble_eq_true rfl) _ Tryd.results24 1 rfl rfl ?_
  repeat' (first|refine qi ?_|(first|refine xsF Tryd.func57 (c ..) ?_)|((first|(apply qb;rfl;rfl;exact nle rfl)|(apply qa;rfl;rfl;exact nle rfl)|refine xsC ?_ ?_);all_goals (intro hc;have hp:=hc;try simp at hp;try (exfalso;omega)))|refine qS ?_ ?_)
  all_goals try (exfalso;omega)
  all_goals ((apply qu (rs:=[]) [] 1;(case hr=>(repeat (first|exact qm|(apply qn;rfl)|(apply qj;rfl;rfl;rfl;rfl;rfl))));(case hL=>rfl);(case hh=>(refine j8 (q:=0) rfl (qd rfl) rfl qe));(case hi=>exact rfl);(case hz=>first|rfl|(simp [ju,AV.ren,AV.ren.renL,qP,qr,qL];done))))
end Go.Proofs.YtahbbnfmbohmmaaDoor
set_option linter.unusedSimpArgs false
set_option linter.unnecessarySimpa false
set_option linter.unusedVariables false
set_option maxHeartbeats 1000000
namespace Go.Proofs.YtahbbnfmbohmmaaDoor
open Go.Ab Go.RowKit
set_option maxRecDepth 10000
theorem jS (w:WS) {n:Int} (hn:y7 n):(w.numR n).s.length ≤ w.s.length + 22:=by
 unfold WS.numR
 have:=xx hn
 split
 ·exact Nat.le_add_right _ _
 ·simp only [List.length_append];omega
theorem yG (w:WS) (t:qo):(w.txtR t).s.length ≤ w.s.length + 1022:=by
 unfold WS.txtR
 split
 ·exact Nat.le_add_right _ _
 ·have:=jS w (n:=t.length) ⟨by omega,by omega⟩
  simp only [List.length_append]
  omega
theorem Kr (w:WS) {c:Chg} (h:c.fit):(w.chgR c).s.length ≤ w.s.length + 3110:=by
 have h1:=jS w h.kind
 have h2:=yG (w.numR c.kind) c.path
 have h3:=yG ((w.numR c.kind).txtR c.path) c.to
 have h4:=yG (((w.numR c.kind).txtR c.path).txtR c.to) c.text
 have h5:=jS ((((w.numR c.kind).txtR c.path).txtR c.to).txtR c.text) h.base
 unfold WS.chgR
 omega
theorem JG (l:List Chg) : ∀ (w:WS),(∀ c,c ∈ l → c.fit) → (l.foldl WS.chgR w).s.length ≤ w.s.length + 3110 * l.length:=by
 induction l with
 | nil=>exact fun w _=>Nat.le_refl _
 | cons c l ih =>
   intro w h
   have h1:=Kr w (h c (by simp))
   have h2:=ih (w.chgR c) (fun x hx=>h x (by simp [hx]))
   simp only [List.length_cons,List.foldl_cons]
   omega
theorem Zw (w:WS) {l:List Chg} (h : ∀ c,c ∈ l → c.fit):(w.chgsR l).s.length ≤ w.s.length + 62222:=by
 unfold WS.chgsR
 split
 ·exact Nat.le_add_right _ _
 ·have h1:=JG l (w.numR l.length) h
  have h2:=jS w (n:=l.length) ⟨by omega,by omega⟩
  omega
attribute [local irreducible] Awp jU jl qQ Red qD Go.Ab.Fin qt Rz yZ qO qJ ResOk jt qU jN qG
set_option maxHeartbeats 1000000 in
theorem wN (w:WS) (t:qo) (ht:t.length ≤ 1000000000) (hw:w.s.length ≤ 900000000):qt C1.P 25 [.op 0 0 0,.v (str t)] [wR w] (.tup []) [wR (w.txtR t)]:=by
 by_cases h:1000 < t.length
 ·have e:w.txtR t = ⟨w.s,true,w.f⟩:=by unfold WS.txtR;rw [if_pos h]
  rw [e]
  refine qf (C:=C1) Tryd.func25 rfl _ Tryd.ntmps25 (Nat.le_of_ble_eq_true rfl) _ Tryd.results25 1 rfl rfl ?_
  repeat' (first|refine qi ?_|fail|((first|(apply qb;rfl;rfl;exact nle rfl)|(apply qa;rfl;rfl;exact nle rfl)|refine xsC ?_ ?_);all_goals (intro hc;have hp:=hc;try simp at hp;try (exfalso;omega)))|refine qS ?_ ?_)
  all_goals try (exfalso;omega)
  all_goals ((apply qu (rs:=[]) [] 1;(case hr=>(repeat (first|exact qm|(apply qn;rfl)|(apply qj;rfl;rfl;rfl;rfl;rfl))));(case hL=>rfl);(case hh=>(refine j8 (q:=0) rfl (qd rfl) rfl qe));(case hi=>exact rfl);(case hz=>first|rfl|(simp [ju,AV.ren,AV.ren.renL,qP,qr,qL];done))))
 ·have e:w.txtR t = ⟨(w.numR t.length).s ++ t,(w.numR t.length).g,(w.numR t.length).f⟩:=by unfold WS.txtR;rw [if_neg h]
  rw [e]
  have hI:y7 (t.length:Int):=⟨by omega,by omega⟩
  have c:=yx w t.length hI (by omega)
  have hl:=jS w hI
  generalize w.numR t.length = v at *
  refine qf (C:=C1) Tryd.func25 rfl _ Tryd.ntmps25 (Nat.le_of_ble_eq_true rfl) _ Tryd.results25 1 rfl rfl ?_
  repeat' (first|refine qi ?_|(first|(apply qc Tryd.func24 rfl rfl;intro hIsFn;refine qF 0 hIsFn (c) rfl ?_))|((first|(apply qb;rfl;rfl;exact nle rfl)|(apply qa;rfl;rfl;exact nle rfl)|refine xsC ?_ ?_);all_goals (intro hc;have hp:=hc;try simp at hp;try (exfalso;omega)))|refine qS ?_ ?_)
  all_goals try (exfalso;omega)
  all_goals ((apply qu (rs:=[]) [] 1;(case hr=>(repeat (first|exact qm|(apply qn;rfl)|(apply qj;rfl;rfl;rfl;rfl;rfl))));(case hL=>rfl);(case hh=>(refine j8 (q:=0) rfl (qd rfl) rfl qe));(case hi=>exact rfl);(case hz=>first|rfl|(simp [ju,AV.ren,AV.ren.renL,qP,qr,qL];done))))
theorem qaT (w:WS):qt C1.P 27 [.op 0 0 0] [wR w] (.tup [.v (str w.done.1),.v (.int .i64 w.done.2)]) [wR w]:=by
 obtain ⟨s,g,f⟩:=w
 unfold WS.done
 cases g with
 | true =>
   refine qf (C:=C1) Tryd.func27 rfl _ Tryd.ntmps27 (Nat.le_of_ble_eq_true rfl) _ Tryd.results27 1 rfl rfl ?_
   repeat' (first|refine qi ?_|fail|((first|(apply qb;rfl;rfl;exact nle rfl)|(apply qa;rfl;rfl;exact nle rfl)|refine xsC ?_ ?_);all_goals (intro hc;have hp:=hc;try simp at hp;try (exfalso;omega)))|refine qS ?_ ?_)
   all_goals ((apply qu (rs:=[.tmp 2,.tmp 3]) [] 1;(case hr=>(repeat (first|exact qm|(apply qn;rfl)|(apply qj;rfl;rfl;rfl;rfl;rfl))));(case hL=>rfl);(case hh=>(refine j8 (q:=0) rfl (qd rfl) rfl qe));(case hi=>exact rfl);(case hz=>first|rfl|(simp [ju,AV.ren,AV.ren.renL,qP,qr,qL];done))))
 | false =>
   cases f with
   | true =>
     refine qf (C:=C1) Tryd.func27 rfl _ Tryd.ntmps27 (Nat.le_of_ble_eq_true rfl) _ Tryd.results27 1 rfl rfl ?_
     repeat' (first|refine qi ?_|fail|((first|(apply qb;rfl;rfl;exact nle rfl)|(apply qa;rfl;rfl;exact nle rfl)|refine xsC ?_ ?_);all_goals (intro hc;have hp:=hc;try simp at hp;try (exfalso;omega)))|refine qS ?_ ?_)
     all_goals ((apply qu (rs:=[.tmp 2,.tmp 3]) [] 1;(case hr=>(repeat (first|exact qm|(apply qn;rfl)|(apply qj;rfl;rfl;rfl;rfl;rfl))));(case hL=>rfl);(case hh=>(refine j8 (q:=0) rfl (qd rfl) rfl qe));(case hi=>exact rfl);(case hz=>first|rfl|(simp [ju,AV.ren,AV.ren.renL,qP,qr,qL];done))))
   | false =>
     refine qf (C:=C1) Tryd.func27 rfl _ Tryd.ntmps27 (Nat.le_of_ble_eq_true rfl) _ Tryd.results27 1 rfl rfl ?_
     repeat' (first|refine qi ?_|fail|((first|(apply qb;rfl;rfl;exact nle rfl)|(apply qa;rfl;rfl;exact nle rfl)|refine xsC ?_ ?_);all_goals (intro hc;have hp:=hc;try simp at hp;try (exfalso;omega)))|refine qS ?_ ?_)
     all_goals ((apply qu (rs:=[.tmp 2,.tmp 3]) [] 1;(case hr=>(repeat (first|exact qm|(apply qn;rfl)|(apply qj;rfl;rfl;rfl;rfl;rfl))));(case hL=>rfl);(case hh=>(refine j8 (q:=0) rfl (qd rfl) rfl qe));(case hi=>exact rfl);(case hz=>first|rfl|(simp [ju,AV.ren,AV.ren.renL,qP,qr,qL];done))))
set_option maxHeartbeats 4000000 in
theorem ZP (w:WS) (l:List Chg) (hl:l.length ≤ 1000000000) (hfit : ∀ c,c ∈ l → c.fit) (hw:w.s.length ≤ 800000000):qt C1.P 26 [.op 0 0 0,j5 l] [wR w] (.tup []) [wR (w.chgsR l)]:=by
 have hml:(l.map Chg.row).length = l.length:=List.length_map ..
 by_cases h:20 < l.length
 ·have e:w.chgsR l = ⟨w.s,true,w.f⟩:=by unfold WS.chgsR;rw [if_pos h]
  rw [e]
  unfold j5
  refine qf (C:=C1) Tryd.func26 rfl _ Tryd.ntmps26 (Nat.le_of_ble_eq_true rfl) _ Tryd.results26 1 rfl rfl ?_
  repeat' (first|refine qi ?_|fail|((first|(apply qb;rfl;rfl;exact nle rfl)|(apply qa;rfl;rfl;exact nle rfl)|refine xsC ?_ ?_);all_goals (intro hc;have hp:=hc;try simp at hp;try (exfalso;omega)))|refine qS ?_ ?_)
  all_goals try (exfalso;omega)
  all_goals ((apply qu (rs:=[]) [] 1;(case hr=>(repeat (first|exact qm|(apply qn;rfl)|(apply qj;rfl;rfl;rfl;rfl;rfl))));(case hL=>rfl);(case hh=>(refine j8 (q:=0) rfl (qd rfl) rfl qe));(case hi=>exact rfl);(case hz=>first|rfl|(simp [ju,AV.ren,AV.ren.renL,qP,qr,qL];done))))
 ·have e:w.chgsR l = l.foldl WS.chgR (w.numR l.length):=by unfold WS.chgsR;rw [if_neg h]
  rw [e]
  have hI:y7 (l.length:Int):=⟨by omega,by omega⟩
  have c:=yx w l.length hI (by omega)
  rw [← hml] at c
  have hwl:=jS w hI
  unfold j5
  generalize hv:w.numR l.length = v at *
  refine qf (C:=C1) Tryd.func26 rfl _ Tryd.ntmps26 (Nat.le_of_ble_eq_true rfl) _ Tryd.results26 1 rfl rfl ?_
  repeat' (first|refine qi ?_|(first|(apply qc Tryd.func24 rfl rfl;intro hIsFn;refine qF 0 hIsFn (c) rfl ?_))|((first|(apply qb;rfl;rfl;exact nle rfl)|(apply qa;rfl;rfl;exact nle rfl)|refine xsC ?_ ?_);all_goals (intro hc;have hp:=hc;try simp at hp;try (exfalso;omega)))|refine qS ?_ ?_)
  all_goals try (exfalso;omega)
  (refine Awp.red (qy (τ:=⟨[(0,.op 0 0 0),(1,.sl false (l.map Chg.row)),(4,.v (.int .i64 ((0:Nat):Int)))],[(0,wR v)],1⟩) [] rfl ?gts2 ?ghs2) ?_;(case gts2=>(repeat (first|exact qh|refine qA ?_|refine jI ?_|refine jd ?_|refine jK ?_|refine je ?_ ?_|refine jy ?_ ?_));all_goals rfl);(case ghs2=>(refine j8 (q:=0) rfl (qd rfl) (by rw [hml];exact hv) qe)))
  refine jC (fun n σ => ∃ i:Nat,i ≤ l.length ∧ n = l.length - i ∧ σ = ⟨[(0,.op 0 0 0),(1,.sl false (l.map Chg.row)),(4,.v (.int .i64 (i:Int)))],[(0,wR ((l.take i).foldl WS.chgR v))],1⟩) l.length ⟨0,Nat.zero_le _,rfl,rfl⟩ ?_
  rintro n σ ⟨i,hi,rfl,rfl⟩
  have hb:=JG (l.take i) v (fun c hx=>hfit c (List.mem_of_mem_take hx))
  have hti:(l.take i).length ≤ 20:=by rw [List.length_take];omega
  by_cases hlt:i < l.length
  ·have yA:(l.map Chg.row)[i]? = some (l[i].row):=by rw [List.getElem?_map,List.getElem?_eq_getElem hlt];rfl
   have hfold:(l.take (i + 1)).foldl WS.chgR v = ((l.take i).foldl WS.chgR v).chgR l[i]:=by
    rw [List.take_succ_eq_append_getElem hlt,List.foldl_append];rfl
   have hf:=hfit l[i] (List.getElem_mem hlt)
   generalize (l.take i).foldl WS.chgR v = u at *
   generalize l[i] = x at *
   have hul:u.s.length ≤ 800070000:=by omega
   obtain ⟨x1,x2,x3,x4,x5⟩:=hf
   have l1:=jS u x1
   have l2:=yG (u.numR x.kind) x.path
   have l3:=yG ((u.numR x.kind).txtR x.path) x.to
   have l4:=yG (((u.numR x.kind).txtR x.path).txtR x.to) x.text
   have c1:=yx u x.kind x1 (by omega)
   have c2:=wN (u.numR x.kind) x.path x2 (by omega)
   have c3:=wN ((u.numR x.kind).txtR x.path) x.to x3 (by omega)
   have c4:=wN (((u.numR x.kind).txtR x.path).txtR x.to) x.text x4 (by omega)
   have c5:=yx ((((u.numR x.kind).txtR x.path).txtR x.to).txtR x.text) x.base x5 (by omega)
   unfold WS.chgR at hfold
   generalize ((((u.numR x.kind).txtR x.path).txtR x.to).txtR x.text).numR x.base = u5 at *
   generalize (((u.numR x.kind).txtR x.path).txtR x.to).txtR x.text = u4 at *
   generalize ((u.numR x.kind).txtR x.path).txtR x.to = u3 at *
   generalize (u.numR x.kind).txtR x.path = u2 at *
   generalize u.numR x.kind = u1 at *
   unfold Chg.row at yA
   clear l1 l2 l3 l4 hb hti hul e hw hwl c
   repeat' (first|refine qi ?_|(first|(apply qc Tryd.func24 rfl rfl;intro hIsFn;refine qF 0 hIsFn (c1) rfl ?_)|(apply qc Tryd.func25 rfl rfl;intro hIsFn;refine qF 0 hIsFn (c2) rfl ?_)|(apply qc Tryd.func25 rfl rfl;intro hIsFn;refine qF 0 hIsFn (c3) rfl ?_)|(apply qc Tryd.func25 rfl rfl;intro hIsFn;refine qF 0 hIsFn (c4) rfl ?_)|(apply qc Tryd.func24 rfl rfl;intro hIsFn;refine qF 0 hIsFn (c5) rfl ?_))|((first|(apply qb;rfl;rfl;exact nle rfl)|(apply qa;rfl;rfl;exact nle rfl)|refine xsC ?_ ?_);all_goals (intro hc;have hp:=hc;try simp at hp;try (exfalso;omega)))|refine qS ?_ ?_)
   all_goals try (exfalso;omega)
   all_goals (refine ⟨l.length - (i + 1),⟨[(0,.op 0 0 0),(1,.sl false (l.map Chg.row)),(4,.v (.int .i64 ((i + 1:Nat):Int)))],[(0,wR ((l.take (i + 1)).foldl WS.chgR v))],1⟩,by omega,?_,⟨i + 1,by omega,rfl,rfl⟩⟩;refine qy [] rfl ?gts ?ghs;(case gts=>(repeat (first|exact qh|refine qA ?_|refine jI ?_|refine jd ?_|refine jK ?_|refine je ?_ ?_|refine jy ?_ ?_));all_goals first|rfl|(simp;omega));(case ghs=>(refine j8 (q:=0) rfl (qd rfl) hfold.symm qe)))
  ·obtain rfl:i = l.length:=by omega
   rw [List.take_length] at *
   generalize l.foldl WS.chgR v = u at *
   repeat' (first|refine qi ?_|fail|((first|(apply qb;rfl;rfl;exact nle rfl)|(apply qa;rfl;rfl;exact nle rfl)|refine xsC ?_ ?_);all_goals (intro hc;have hp:=hc;try simp at hp;try (exfalso;omega)))|refine qS ?_ ?_)
   all_goals try (exfalso;omega)
   all_goals ((apply qu (rs:=[]) [] 1;(case hr=>(repeat (first|exact qm|(apply qn;rfl)|(apply qj;rfl;rfl;rfl;rfl;rfl))));(case hL=>rfl);(case hh=>(refine j8 (q:=0) rfl (qd rfl) rfl qe));(case hi=>exact rfl);(case hz=>first|rfl|(simp [ju,AV.ren,AV.ren.renL,qP,qr,qL];done))))
end Go.Proofs.YtahbbnfmbohmmaaDoor
set_option linter.unusedSimpArgs false
set_option linter.unnecessarySimpa false
set_option linter.unusedVariables false
set_option maxHeartbeats 1000000
namespace Go.Proofs.YtahbbnfmbohmmaaDoor
open Go.Ab Go.RowKit
set_option maxRecDepth 10000
def rq0:Rqt:=⟨2,[97],[102],[],[],[],0,0,0,[]⟩
def tx0:qo:=[50,59,49,59,97,49,59,102,48,59,48,59,48,59,48,59,48,59,48,59,48,59]
theorem qbd:Qz rq0 = (tx0,0):=by
 simp [Qz,WS.rqt,WS.nums,WS.num,WS.txts,WS.txt,WS.chgs,WS.lst,WS.done,kz,j6,xU,Lib.itoa,qbg,ws0,rq0,tx0]
theorem qab:rq0.fit:=⟨⟨by decide,by decide⟩,by decide,by decide,by decide,by decide,by decide,QQ,QQ,QQ,(fun c h=>by cases h),by decide⟩
attribute [local irreducible] Awp jU jl qQ Red qD Go.Ab.Fin qt Rz yZ qO qJ ResOk jt qU jN qG
theorem Kh:zm C.P 10 [] (.v (.bool true)):=by
 have c1:=Kb rq0 qab
 rw [qbd] at c1
 have c2:=Wy tx0 (by decide)
 rw [Zq qbd] at c2
 unfold rq0 tx0 Rqt.row j5 at c1 c2
 dsimp only [List.map_nil] at c1 c2
 refine qf Tryd.func10 rfl _ Tryd.ntmps10 (Nat.le_of_ble_eq_true rfl) _ Tryd.results10 0 rfl rfl ?_
 repeat' (first|(first|refine xsF Tryd.func8 (c1 ..) ?_|refine xsQ Tryd.func12 (c2 ..) ?_|(apply qp;apply (yr (cs:=[.v (.int .i64 2),.v (str [97]),.v (str [102]),.v (str []),.v (str []),.v (str []),.v (.int .i64 0),.v (.int .i64 0),.v (.int .i64 0),.sl true []]));rfl;rfl;rfl;kernel_rfl;exact nle rfl))|refine qi ?_|((first|(apply qb;rfl;rfl;exact nle rfl)|(apply qa;rfl;rfl;exact nle rfl)|refine xsC ?_ ?_);all_goals (intro hc;have hp:=hc;try simp at hp;try (exfalso;omega)))|refine qS ?_ ?_)
 all_goals ((refine j1 (rs:=[.tmp 0]) ?_;(repeat' (first|exact jv|apply jh|exact jg rfl|exact yl|exact xA|apply jQ|apply jX|apply jR|apply jV|apply jB|apply jW|refine xz ?_|apply yv));all_goals rfl))
end Go.Proofs.YtahbbnfmbohmmaaDoor
set_option linter.unusedSimpArgs false
set_option linter.unnecessarySimpa false
set_option linter.unusedVariables false
set_option maxHeartbeats 1000000
namespace Go.Proofs.YtahbbnfmbohmmaaDoor
open Go.Ab Go.RowKit
set_option maxRecDepth 10000
theorem ZA {s:qo} {j n:Nat} (h:j < s.length) (h1:48 ≤ s[j].toNat) (h2:s[j].toNat ≤ 57) (h3:n < 1125899906842624):xh (s.drop j) n = ((xh (s.drop (j + 1)) (10 * n + (s[j].toNat - 48))).1,(xh (s.drop (j + 1)) (10 * n + (s[j].toNat - 48))).2 + 1):=by
 rw [List.drop_eq_getElem_cons h]
 conv=>lhs;unfold xh
 rw [if_pos ⟨h1,h2,h3⟩]
theorem ZB {s:qo} {j n:Nat} (h : ∀ hj:j < s.length, ¬ (48 ≤ s[j].toNat ∧ s[j].toNat ≤ 57 ∧ n < 1125899906842624)):xh (s.drop j) n = (n,0):=by
 by_cases hj:j < s.length
 ·rw [List.drop_eq_getElem_cons hj]
  unfold xh
  rw [if_neg (h hj)]
 ·rw [List.drop_eq_nil_of_le (by omega)]
  rfl
theorem Y5 : ∀ (s:qo) (n:Nat),(xh s n).2 ≤ s.length
 | [],n=>Nat.le_refl _
 | c :: r,n=>by
   unfold xh
   split
   ·have:=Y5 r (10 * n + (c.toNat - 48))
    simp only [List.length_cons]
    omega
   ·exact Nat.zero_le _
def xP (s:qo) (a:Nat) (b:Bool) (E:Nat) (v:Int):Int × Nat × Bool:=if b = true ∨ s[E]? ≠ some 59 ∨ (s.take E).drop a ≠ Lib.itoa v then (0,E,true) else (v,E + 1,false)
theorem KX (s:qo) (a:Nat) (b:Bool):y4 ⟨s.drop a,b⟩ = ((xP s a b (a + zr (s.drop a)) (kG (s.drop a))).1,⟨s.drop (xP s a b (a + zr (s.drop a)) (kG (s.drop a))).2.1,(xP s a b (a + zr (s.drop a)) (kG (s.drop a))).2.2⟩):=by
 unfold y4 xP
 simp only [List.getElem?_drop,List.drop_drop]
 have e:(s.take (a + zr (s.drop a))).drop a = (s.drop a).take (zr (s.drop a)):=by
  rw [List.drop_take]
  congr 1
  omega
 rw [e]
 by_cases hc:b = true ∨ s[a + zr (s.drop a)]? ≠ some 59 ∨ (s.drop a).take (zr (s.drop a)) ≠ Lib.itoa (kG (s.drop a))
 ·rw [if_pos hc,if_pos hc]
 ·rw [if_neg hc,if_neg hc]
  rfl
noncomputable def tlW:Nat → Code → Code
 | 0,c=>c
 | n + 1,.seq _ b=>tlW n b
 | _,c=>c
noncomputable def wd:Code → Code
 | .seq a _=>a
 | c=>c
noncomputable def j9:Code:=match Tryd.f33.body with|some c=>c|none => .skip
@[reducible] def yI (s:qo) (a:Nat) (b:Bool):HB := .own true 3 [[.v (str s),.v (.int .i64 (a:Int)),.v (.bool b)]]
theorem ji {L:List (Nat × Nat)} {nh:Nat} {σ:St} {q q' a' : Nat} {s' : qo} {b' : Bool} {rest:List (Nat × HB)} {x:List AV} (hq:qq σ.hs q = .own true 3 [x]) (h1:Maps L nh q q') (hx:x = [.v (str s'),.v (.int .i64 (a' : Int)),.v (.bool b')]) (hr:jZ L nh σ rest):jZ L nh σ ((q',yI s' a' b') :: rest):=by
 subst hx
 exact ⟨⟨q,h1,by rw [hq];exact qX (qE rfl)⟩,hr⟩
attribute [local irreducible] Awp jU jl qQ Red qD Go.Ab.Fin qt Rz yZ qO qJ ResOk jt qU jN qG
theorem qbq:tlW 6 j9 = .seq (wd (tlW 6 j9)) (tlW 7 j9):=by kernel_rfl
theorem qbp:tlW 5 j9 = .seq (wd (tlW 5 j9)) (tlW 6 j9):=by kernel_rfl
set_option maxHeartbeats 4000000 in
theorem qaS (s:qo) (hs:s.length ≤ 1000000000) (a E:Nat) (haE:a ≤ E) (hE:E ≤ s.length) (b:Bool) (v:Int) (h1 : -12000000000000000 ≤ v) (h2:v ≤ 12000000000000000) :
  Awp C1 156 (tlW 7 j9) (ZD C1 #[ResultVar.tmp 2] 1 (.v (.int .i64 (xP s a b E v).1)) [yI s (xP s a b E v).2.1 (xP s a b E v).2.2]) ⟨[(0,.op 0 0 0),(3,.v (.int .i64 (a:Int))),(5,.v (.int .i64 v))],[(0,yI s E b)],1⟩:=by
 have cd:=qan v (by omega) (by omega)
 by_cases hb:b = true
 ·rw [show xP s a b E v = (0,E,true) from if_pos (.inl hb)]
  subst hb
  conv=>arg 3;whnf
  repeat' (first|refine qi ?_|(first|refine xsF Tryd.func57 (cd ..) ?_)|((first|(apply qb;rfl;rfl;exact nle rfl)|(apply qa;rfl;rfl;exact nle rfl)|refine xsC ?_ ?_);all_goals (intro hc;have hp:=hc;try simp at hp;try (exfalso;omega)))|refine qS ?_ ?_)
  all_goals try (exfalso;omega)
  all_goals ((apply qu (rs:=[.tmp 2]) [] 1;(case hr=>(repeat (first|exact qm|(apply qn;rfl)|(apply qj;rfl;rfl;rfl;rfl;rfl))));(case hL=>rfl);(case hh=>(refine ji (q:=0) rfl (qd rfl) rfl qe));(case hi=>exact rfl);(case hz=>first|rfl|(simp [ju,AV.ren,AV.ren.renL,qP,qr,qL];done))))
 ·obtain rfl:b = false:=by simpa using hb
  by_cases hE2:E < s.length
  ·have hc59:s[E]? = some s[E]:=List.getElem?_eq_getElem hE2
   generalize s[E] = c at *
   by_cases hcc:c.toNat = 59
   ·have hc' : c = 59:=UInt8.toNat_inj.1 hcc
    by_cases hq:(s.take E).drop a = Lib.itoa v
    ·rw [show xP s a false E v = (v,E + 1,false) from if_neg (by rw [hc59,hc',hq];simp)]
     have heq:(!decide (List.drop a (List.take E s) = Lib.itoa v)) = false:=by simp [hq]
     conv=>arg 3;whnf
     clear hc' hq
     repeat' (first|refine qi ?_|(first|refine xsF Tryd.func57 (cd ..) ?_|(apply qp;apply xZ (a:=a) (b:=E);(case hx=>rfl);(case hT=>rfl);(case he=>rfl);(case ha=>(exact ⟨_,rfl⟩));(case hb=>(exact ⟨_,rfl⟩));(case hab=>(first|omega|(simp;done)|(simp only [List.length_cons,List.length_nil,List.length_map];omega)|(simp;omega)));(case hbl=>omega);(case hN=>exact nle rfl))|(apply qp;apply j3 (i:=E);(case hx=>rfl);(case hy=>exact xO (by omega));(case hT=>rfl);(case he=>rfl);(case hc=>exact hc59);(case hN=>exact nle rfl)))|((first|(apply qb;rfl;rfl;exact nle rfl)|(apply qa;rfl;rfl;exact nle rfl)|refine xsC ?_ ?_);all_goals (intro hc;have hp:=hc;try simp at hp;try (exfalso;omega)))|refine qS ?_ ?_)
     all_goals try (exfalso;omega)
     all_goals ((apply qu (rs:=[.tmp 2]) [] 1;(case hr=>(repeat (first|exact qm|(apply qn;rfl)|(apply qj;rfl;rfl;rfl;rfl;rfl))));(case hL=>rfl);(case hh=>(refine ji (q:=0) rfl (qd rfl) rfl qe));(case hi=>exact rfl);(case hz=>first|rfl|(simp [ju,AV.ren,AV.ren.renL,qP,qr,qL];done))))
    ·rw [show xP s a false E v = (0,E,true) from if_pos (.inr (.inr hq))]
     have heq:(!decide (List.drop a (List.take E s) = Lib.itoa v)) = true:=by simp [hq]
     conv=>arg 3;whnf
     clear hc' hq
     repeat' (first|refine qi ?_|(first|refine xsF Tryd.func57 (cd ..) ?_|(apply qp;apply xZ (a:=a) (b:=E);(case hx=>rfl);(case hT=>rfl);(case he=>rfl);(case ha=>(exact ⟨_,rfl⟩));(case hb=>(exact ⟨_,rfl⟩));(case hab=>(first|omega|(simp;done)|(simp only [List.length_cons,List.length_nil,List.length_map];omega)|(simp;omega)));(case hbl=>omega);(case hN=>exact nle rfl))|(apply qp;apply j3 (i:=E);(case hx=>rfl);(case hy=>exact xO (by omega));(case hT=>rfl);(case he=>rfl);(case hc=>exact hc59);(case hN=>exact nle rfl)))|((first|(apply qb;rfl;rfl;exact nle rfl)|(apply qa;rfl;rfl;exact nle rfl)|refine xsC ?_ ?_);all_goals (intro hc;have hp:=hc;try simp at hp;try (exfalso;omega)))|refine qS ?_ ?_)
     all_goals try (exfalso;omega)
     all_goals ((apply qu (rs:=[.tmp 2]) [] 1;(case hr=>(repeat (first|exact qm|(apply qn;rfl)|(apply qj;rfl;rfl;rfl;rfl;rfl))));(case hL=>rfl);(case hh=>(refine ji (q:=0) rfl (qd rfl) rfl qe));(case hi=>exact rfl);(case hz=>first|rfl|(simp [ju,AV.ren,AV.ren.renL,qP,qr,qL];done))))
   ·rw [show xP s a false E v = (0,E,true) from if_pos (.inr (.inl (by rw [hc59];intro h;injection h with h;subst h;exact hcc rfl)))]
    conv=>arg 3;whnf
    repeat' (first|refine qi ?_|(first|refine xsF Tryd.func57 (cd ..) ?_|(apply qp;apply j3 (i:=E);(case hx=>rfl);(case hy=>exact xO (by omega));(case hT=>rfl);(case he=>rfl);(case hc=>exact hc59);(case hN=>exact nle rfl)))|((first|(apply qb;rfl;rfl;exact nle rfl)|(apply qa;rfl;rfl;exact nle rfl)|refine xsC ?_ ?_);all_goals (intro hc;have hp:=hc;try simp at hp;try (exfalso;omega)))|refine qS ?_ ?_)
    all_goals try (exfalso;omega)
    all_goals ((apply qu (rs:=[.tmp 2]) [] 1;(case hr=>(repeat (first|exact qm|(apply qn;rfl)|(apply qj;rfl;rfl;rfl;rfl;rfl))));(case hL=>rfl);(case hh=>(refine ji (q:=0) rfl (qd rfl) rfl qe));(case hi=>exact rfl);(case hz=>first|rfl|(simp [ju,AV.ren,AV.ren.renL,qP,qr,qL];done))))
  ·rw [show xP s a false E v = (0,E,true) from if_pos (.inr (.inl (by rw [List.getElem?_eq_none (by omega)];simp)))]
   conv=>arg 3;whnf
   repeat' (first|refine qi ?_|(first|refine xsF Tryd.func57 (cd ..) ?_)|((first|(apply qb;rfl;rfl;exact nle rfl)|(apply qa;rfl;rfl;exact nle rfl)|refine xsC ?_ ?_);all_goals (intro hc;have hp:=hc;try simp at hp;try (exfalso;omega)))|refine qS ?_ ?_)
   all_goals try (exfalso;omega)
   all_goals ((apply qu (rs:=[.tmp 2]) [] 1;(case hr=>(repeat (first|exact qm|(apply qn;rfl)|(apply qj;rfl;rfl;rfl;rfl;rfl))));(case hL=>rfl);(case hh=>(refine ji (q:=0) rfl (qd rfl) rfl qe));(case hi=>exact rfl);(case hz=>first|rfl|(simp [ju,AV.ren,AV.ren.renL,qP,qr,qL];done))))
set_option maxHeartbeats 4000000 in
theorem qbl (s:qo) (hs:s.length ≤ 1000000000) (a E:Nat) (haE:a ≤ E) (hE:E ≤ s.length) (b neg:Bool) (n:Nat) (hn:n ≤ 12000000000000000) (v:Int) (hv:v = if neg = true then -(n:Int) else (n:Int)) :
  Awp C1 156 (tlW 6 j9) (ZD C1 #[ResultVar.tmp 2] 1 (.v (.int .i64 (xP s a b E v).1)) [yI s (xP s a b E v).2.1 (xP s a b E v).2.2]) ⟨[(0,.op 0 0 0),(3,.v (.int .i64 (a:Int))),(4,.v (.bool neg)),(5,.v (.int .i64 (n:Int)))],[(0,yI s E b)],1⟩:=by
 have ht:=qaS s hs a E haE hE b v (by rw [hv];split<;>omega) (by rw [hv];split<;>omega)
 rw [qbq]
 generalize tlW 7 j9 = T at *
 conv=>arg 3;arg 1;whnf
 cases neg with
 | true =>
   rw [if_pos rfl] at hv
   subst hv
   repeat' (first|refine qi ?_|(first|(apply qp;apply KH;rfl;omega;omega;exact nle rfl))|((first|(apply qb;rfl;rfl;exact nle rfl)|(apply qa;rfl;rfl;exact nle rfl)|refine xsC ?_ ?_);all_goals (intro hc;have hp:=hc;try simp at hp;try (exfalso;omega)))|refine qS ?_ ?_)
   (refine Awp.red (qy (τ:=⟨[(0,.op 0 0 0),(3,.v (.int .i64 (a:Int))),(5,.v (.int .i64 (-(n:Int))))],[(0,yI s E b)],1⟩) [] rfl ?gts2 ?ghs2) ?_;(case gts2=>(repeat (first|exact qh|refine qA ?_|refine jI ?_|refine jd ?_|refine jK ?_|refine je ?_ ?_|refine jy ?_ ?_));all_goals rfl);(case ghs2=>(refine ji (q:=0) rfl (qd rfl) rfl qe)))
   exact ht
 | false =>
   rw [if_neg (by decide)] at hv
   subst hv
   repeat' (first|refine qi ?_|fail|((first|(apply qb;rfl;rfl;exact nle rfl)|(apply qa;rfl;rfl;exact nle rfl)|refine xsC ?_ ?_);all_goals (intro hc;have hp:=hc;try simp at hp;try (exfalso;omega)))|refine qS ?_ ?_)
   (refine Awp.red (qy (τ:=⟨[(0,.op 0 0 0),(3,.v (.int .i64 (a:Int))),(5,.v (.int .i64 (n:Int)))],[(0,yI s E b)],1⟩) [] rfl ?gts2 ?ghs2) ?_;(case gts2=>(repeat (first|exact qh|refine qA ?_|refine jI ?_|refine jd ?_|refine jK ?_|refine je ?_ ?_|refine jy ?_ ?_));all_goals rfl);(case ghs2=>(refine ji (q:=0) rfl (qd rfl) rfl qe)))
   exact ht
set_option maxHeartbeats 4000000 in
theorem qaR (s:qo) (hs:s.length ≤ 1000000000) (a j0 E N:Nat) (haj:a ≤ j0) (hjE:j0 ≤ E) (hE:E ≤ s.length) (b neg:Bool) (hd:xh (s.drop j0) 0 = (N,E - j0)) :
  Awp C1 156 (tlW 5 j9) (ZD C1 #[ResultVar.tmp 2] 1 (.v (.int .i64 (xP s a b E (if neg = true then -(N:Int) else (N:Int))).1)) [yI s (xP s a b E (if neg = true then -(N:Int) else (N:Int))).2.1 (xP s a b E (if neg = true then -(N:Int) else (N:Int))).2.2]) ⟨[(0,.op 0 0 0),(3,.v (.int .i64 (a:Int))),(4,.v (.bool neg)),(5,.v (.int .i64 0))],[(0,yI s j0 b)],1⟩:=by
 have hN:N ≤ 11258999068426240:=by
  have:=zS (s.drop j0) 0 (by decide)
  rw [hd] at this
  exact this
 have hm:=qbl s hs a E (by omega) hE b neg N (by omega) _ rfl
 rw [qbp]
 generalize tlW 6 j9 = T at *
 conv=>arg 3;arg 1;whnf
 generalize hV:(if neg = true then -(N:Int) else (N:Int)) = V at *
 clear hV
 repeat' (first|refine qi ?_|fail|((first|(apply qb;rfl;rfl;exact nle rfl)|(apply qa;rfl;rfl;exact nle rfl)|refine xsC ?_ ?_);all_goals (intro hc;have hp:=hc;try simp at hp;try (exfalso;omega)))|refine qS ?_ ?_)
 refine jC (fun m σ => ∃ (j n:Nat) (z:Int),z = (n:Int) ∧ j0 ≤ j ∧ j ≤ E ∧ m = E - j ∧ n ≤ 11258999068426240 ∧ xh (s.drop j) n = (N,E - j) ∧ σ = ⟨[(0,.op 0 0 0),(3,.v (.int .i64 (a:Int))),(4,.v (.bool neg)),(5,.v (.int .i64 z))],[(0,yI s j b)],1⟩) (E - j0) ⟨j0,0,0,rfl,Nat.le_refl _,hjE,rfl,Nat.zero_le _,hd,rfl⟩ ?_
 rintro m σ ⟨j,n,z,hz,h1,h2,rfl,h3,h4,rfl⟩
 by_cases hgo : ∃ hj:j < s.length,48 ≤ s[j].toNat ∧ s[j].toNat ≤ 57 ∧ n < 1125899906842624
 ·obtain ⟨hj,c1,c2,c3⟩:=hgo
  have hgc:s[j]? = some s[j]:=List.getElem?_eq_getElem hj
  rw [ZA hj c1 c2 c3] at h4
  generalize s[j] = c at *
  injection h4 with e1 e2
  have hjE' : j + 1 ≤ E:=by omega
  have e3:xh (s.drop (j + 1)) (10 * n + (c.toNat - 48)) = (N,E - (j + 1)):=Prod.ext e1 (by show (xh _ _).2 = _;omega)
  clear e1 e2 hm hd
  repeat' (first|refine qi ?_|(first|(apply qp;apply j3 (i:=j);(case hx=>rfl);(case hy=>exact xO (by omega));(case hT=>rfl);(case he=>rfl);(case hc=>exact hgc);(case hN=>exact nle rfl))|(apply qp;apply qaH;rfl;rfl;omega;omega;exact nle rfl)|(apply qp;apply (Yg (k0 := .u8) (k := .i64));rfl;rfl;rfl;rfl;rfl;exact IntWalk.i64_in _ ⟨by omega,by omega⟩;exact nle rfl))|((first|(apply qb;rfl;rfl;exact nle rfl)|(apply qa;rfl;rfl;exact nle rfl)|refine xsC ?_ ?_);all_goals (intro hc;have hp:=hc;try simp at hp;try (exfalso;omega)))|refine qS ?_ ?_)
  all_goals try (exfalso;omega)
  all_goals (refine ⟨E - (j + 1),⟨[(0,.op 0 0 0),(3,.v (.int .i64 (a:Int))),(4,.v (.bool neg)),(5,.v (.int .i64 (10 * z + (c.toNat:Int) - 48)))],[(0,yI s (j + 1) b)],1⟩,by omega,?_,⟨j + 1,10 * n + (c.toNat - 48),10 * z + (c.toNat:Int) - 48,by omega,by omega,hjE',rfl,by omega,e3,rfl⟩⟩;refine qy [] rfl ?gts ?ghs;(case gts=>(repeat (first|exact qh|refine qA ?_|refine jI ?_|refine jd ?_|refine jK ?_|refine je ?_ ?_|refine jy ?_ ?_));all_goals first|rfl|exact xO (by omega));(case ghs=>(refine ji (q:=0) rfl (qd rfl) rfl qe)))
 ·have h5:=ZB (s:=s) (j:=j) (n:=n) (fun hj hc=>hgo ⟨hj,hc⟩)
  rw [h5] at h4
  injection h4 with e1 e2
  obtain rfl:E = j:=by omega
  subst e1
  by_cases hj:E < s.length
  ·have hgc:s[E]? = some s[E]:=List.getElem?_eq_getElem hj
   have hno:¬ (48 ≤ s[E].toNat ∧ s[E].toNat ≤ 57 ∧ n < 1125899906842624):=fun h=>hgo ⟨hj,h⟩
   generalize s[E] = c at *
   clear hgo h5 hd
   repeat' (first|refine qi ?_|(first|(apply qp;apply j3 (i:=E);(case hx=>rfl);(case hy=>exact xO (by omega));(case hT=>rfl);(case he=>rfl);(case hc=>exact hgc);(case hN=>exact nle rfl)))|((first|(apply qb;rfl;rfl;exact nle rfl)|(apply qa;rfl;rfl;exact nle rfl)|refine xsC ?_ ?_);all_goals (intro hc;have hp:=hc;try simp at hp;try (exfalso;omega)))|refine qS ?_ ?_)
   all_goals try (exfalso;omega)
   all_goals ((refine Awp.red (qy (τ:=⟨[(0,.op 0 0 0),(3,.v (.int .i64 (a:Int))),(4,.v (.bool neg)),(5,.v (.int .i64 (n:Int)))],[(0,yI s E b)],1⟩) [] rfl ?gts2 ?ghs2) ?_;(case gts2=>(repeat (first|exact qh|refine qA ?_|refine jI ?_|refine jd ?_|refine jK ?_|refine je ?_ ?_|refine jy ?_ ?_));all_goals first|rfl|exact xO hz);(case ghs2=>(refine ji (q:=0) rfl (qd rfl) rfl qe)));exact hm)
  ·clear hgo h5 hd
   repeat' (first|refine qi ?_|fail|((first|(apply qb;rfl;rfl;exact nle rfl)|(apply qa;rfl;rfl;exact nle rfl)|refine xsC ?_ ?_);all_goals (intro hc;have hp:=hc;try simp at hp;try (exfalso;omega)))|refine qS ?_ ?_)
   all_goals try (exfalso;omega)
   all_goals ((refine Awp.red (qy (τ:=⟨[(0,.op 0 0 0),(3,.v (.int .i64 (a:Int))),(4,.v (.bool neg)),(5,.v (.int .i64 (n:Int)))],[(0,yI s E b)],1⟩) [] rfl ?gts2 ?ghs2) ?_;(case gts2=>(repeat (first|exact qh|refine qA ?_|refine jI ?_|refine jd ?_|refine jK ?_|refine je ?_ ?_|refine jy ?_ ?_));all_goals first|rfl|exact xO hz);(case ghs2=>(refine ji (q:=0) rfl (qd rfl) rfl qe)));exact hm)
end Go.Proofs.YtahbbnfmbohmmaaDoor
