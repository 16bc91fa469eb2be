import Derived.Test.YtahbbnfmbohmmaaDoorMz23
import Derived.Test.YtahbbnfmbohmmaaDoorMz20
import Derived.Test.YtahbbnfmbohmmaaDoorMz3
import Derived.Lib.ItoaLen
import Derived.Test.YtahbbnfmbohmmaaDoorMz8
set_option linter.unusedSimpArgs false
set_option linter.unnecessarySimpa false
set_option linter.unusedVariables false
set_option maxHeartbeats 1000000
namespace Go.Proofs.YtahbbnfmbohmmaaDoor
open Go.Ab Go.RowKit
set_option maxRecDepth 10000
theorem kg:xi 0:=⟨by decide,by decide⟩
theorem J6:noRqt.fit:=⟨kg,by decide,by decide,by decide,by decide,by decide,kg,kg,kg,(fun c h=>by cases h),by decide⟩
section steps
variable {C' : Cx} {N:Nat} {all:Array Oper} {es:List Eff} {o:Oper} {os:List Oper} {K:List Eff → St → Prop} {ts:List (Nat × AV)} {hs:List (Nat × HB)} {nx:Nat} {gd:List Nat}
theorem jw {f:FuncId} {args:List Operand} {tys:Array TypeId} {d:Nat} {ty:TypeId} {pos:String} {af:Array Edge} {gg:Option (Nat × Bool)} {ys:List AV} {v:AV} {k:Nat} {row row0 row1:List AV} (q:Nat) (hf:IsFn C'.P f)
  (hc:qu C'.P f ys [.own true k [row0]] v [.own true k [row1]]) (hp1:AV.pure.pureL row1 = true)
  (k' : jW C' N all (⟨gd ++ (qM (.func f) ++ args.flatMap qM),[q],some d,v,[(q,.own true k [row1])],[]⟩ :: es) ⟨(d,v) :: ts,(q,.own true k [row1]) :: hs,nx⟩ os K)
  (hq:qh hs q = .own true k [row]:=by rfl) (hp0:ji (jh 0 [q]) 0 row row0:=by (repeat (first|exact qZ|refine qk (qA rfl) ?_|refine qk Y6 ?_)))
  (hz:qP (jh 0 [q]) [q] (qh hs) (args.map (evA (qg ts))) ys:=by ((repeat' (first|exact jd|apply qT|exact jc rfl|exact jF|(apply qo;apply qU;exact .inr (of_decide_eq_true rfl))|(apply qo;apply jQ;exact .inr (of_decide_eq_true rfl))|(apply qo;apply je;exact .inr (of_decide_eq_true rfl))|apply jo|apply jp))<;>fail)) (hr:v.ren (y4 (jh 0 [q])) = v:=by rfl) (hN:d < N:=by exact nle rfl):xM C' N all gd es ⟨ts,hs,nx⟩ f args d tys ty pos af gg os K :=
 yN [q] [] [(q,.own true k [row1])] nx v hf hc hz (jg (.own true k [row]) jT (qQ hp0) hq rfl) (qL (qQ (qJ hp1)) jH) k' hr rfl rfl (Nat.le_of_ble_eq_true rfl) (by simp) rfl (fun n hn=>by cases hn) (Nat.le_refl _) hN
end steps
attribute [local irreducible] Awp jW jq jB Red qv Go.Ab.Fin qu Rz vn jv jm ResOk jA ji yk qP
set_option maxHeartbeats 4000000 in
theorem zP (s t:qj) (e:Int) (ok:Bool) (q:Rqt) (hw:qu C.P 28 [.v (str s),.clo (.func 29) [] [.op 0 0 0]] [.own true 10 [noRqt.row]] (.v (.bool ok)) [.own true 10 [q.row]])
  (ha:zr C.P 8 [.agg q.row] (.tup [.v (str t),.v (.int .i64 e)])) :
  zr C.P 12 [.v (str s)] (if ok = true ∧ t = s ∧ e = 0 then .tup [.agg q.row,.v (.int .i64 0)] else .tup [.agg noRqt.row,.v (.int .i64 1)]):=by
 unfold noRqt Rqt.row at hw
 unfold Rqt.row at ha
 unfold noRqt Rqt.row
 obtain ⟨q1,q2,q3,q4,q5,q6,q7,q8,q9,q10⟩:=q
 dsimp only at *
 cases ok with
 | false =>
   refine qe Tryd.func12 rfl _ Tryd.ntmps12 (Nat.le_of_ble_eq_true rfl) _ Tryd.results12 0 rfl rfl ?_
   repeat' (first|refine qn ?_|(first|(apply qc Tryd.func28 rfl rfl;intro hIsFn;refine jw 1 hIsFn (hw) rfl ?_)|refine xsF Tryd.func8 (ha ..) ?_)|((first|(apply qb;rfl;rfl;exact nle rfl)|(apply qa;rfl;rfl;exact nle rfl)|refine xsC ?_ ?_);all_goals (intro hc;have hp:=hc;try simp at hp;try (exfalso;omega)))|refine jn ?_ ?_)
   all_goals ((refine jP (rs:=[.cell 2 24,.tmp 3]) ?_;(repeat' (first|exact jf|apply qS|exact qN rfl|exact jZ|exact xp|apply jx|apply jM|apply jy|apply jK|apply jl|apply jL|refine xo ?_|apply yi));all_goals rfl))
 | true =>
   by_cases he:e = 0
   ·subst he
    by_cases ht:t = s
    ·subst ht
     refine qe Tryd.func12 rfl _ Tryd.ntmps12 (Nat.le_of_ble_eq_true rfl) _ Tryd.results12 0 rfl rfl ?_
     repeat' (first|refine qn ?_|(first|(apply qc Tryd.func28 rfl rfl;intro hIsFn;refine jw 1 hIsFn (hw) rfl ?_)|refine xsF Tryd.func8 (ha ..) ?_)|((first|(apply qb;rfl;rfl;exact nle rfl)|(apply qa;rfl;rfl;exact nle rfl)|refine xsC ?_ ?_);all_goals (intro hc;have hp:=hc;try simp at hp;try (exfalso;omega)))|refine jn ?_ ?_)
     all_goals try (exfalso;simp at *;done)
     all_goals (rw [if_pos ⟨rfl,rfl,rfl⟩])
     all_goals ((refine jP (rs:=[.cell 2 24,.tmp 3]) ?_;(repeat' (first|exact jf|apply qS|exact qN rfl|exact jZ|exact xp|apply jx|apply jM|apply jy|apply jK|apply jl|apply jL|refine xo ?_|apply yi));all_goals rfl))
    ·refine qe Tryd.func12 rfl _ Tryd.ntmps12 (Nat.le_of_ble_eq_true rfl) _ Tryd.results12 0 rfl rfl ?_
     repeat' (first|refine qn ?_|(first|(apply qc Tryd.func28 rfl rfl;intro hIsFn;refine jw 1 hIsFn (hw) rfl ?_)|refine xsF Tryd.func8 (ha ..) ?_)|((first|(apply qb;rfl;rfl;exact nle rfl)|(apply qa;rfl;rfl;exact nle rfl)|refine xsC ?_ ?_);all_goals (intro hc;have hp:=hc;try simp at hp;try (exfalso;omega)))|refine jn ?_ ?_)
     all_goals try (exfalso;simp_all;done)
     all_goals (rw [if_neg (fun h=>ht h.2.1)])
     all_goals ((refine jP (rs:=[.cell 2 24,.tmp 3]) ?_;(repeat' (first|exact jf|apply qS|exact qN rfl|exact jZ|exact xp|apply jx|apply jM|apply jy|apply jK|apply jl|apply jL|refine xo ?_|apply yi));all_goals rfl))
   ·refine qe Tryd.func12 rfl _ Tryd.ntmps12 (Nat.le_of_ble_eq_true rfl) _ Tryd.results12 0 rfl rfl ?_
    repeat' (first|refine qn ?_|(first|(apply qc Tryd.func28 rfl rfl;intro hIsFn;refine jw 1 hIsFn (hw) rfl ?_)|refine xsF Tryd.func8 (ha ..) ?_)|((first|(apply qb;rfl;rfl;exact nle rfl)|(apply qa;rfl;rfl;exact nle rfl)|refine xsC ?_ ?_);all_goals (intro hc;have hp:=hc;try simp at hp;try (exfalso;omega)))|refine jn ?_ ?_)
    all_goals try (exfalso;omega)
    all_goals (rw [if_neg (fun h=>he h.2.2)])
    all_goals ((refine jP (rs:=[.cell 2 24,.tmp 3]) ?_;(repeat' (first|exact jf|apply qS|exact qN rfl|exact jZ|exact xp|apply jx|apply jM|apply jy|apply jK|apply jl|apply jL|refine xo ?_|apply yi));all_goals rfl))
theorem yF (t:qj):t.length ≤ (y9 t).length:=by unfold y9;rw [List.length_append];omega
theorem YL {α:Type} (T:α → qj) {l:List α} {x:α} (h:x ∈ l):(T x).length ≤ (l.flatMap T).length:=by
 induction l with
 | nil=>cases h
 | cons a l ih =>
   rw [List.flatMap_cons,List.length_append]
   rcases List.mem_cons.1 h with rfl|h
   ·omega
   ·have:=ih h;omega
theorem YQ {α:Type} (T:α → qj) {l:List α} {x:α} (h:x ∈ l):(T x).length ≤ (Qm T l).length:=by
 unfold Qm
 rw [List.length_append]
 have:=YL T h
 omega
theorem Yy {c:Chg} (h:Xw c) (hl:(wd c).length ≤ 1000000000):c.fit:=by
 obtain ⟨h1,h2,h3,h4,h5⟩:=h
 unfold wd at hl
 simp only [List.length_append] at hl
 have a:=yF c.path
 have b:=yF c.to
 have d:=yF c.text
 exact ⟨h1,by omega,by omega,by omega,h5⟩
theorem JQ {l:List Chg} (h:YC l) (hl:(Jm l).length ≤ 1000000000) : ∀ c,c ∈ l → c.fit:=fun c hc=>Yy (h.2 c hc) (Nat.le_trans (YQ wd hc) hl)
theorem Y8 {q:Rqt} (h:Vm q) (hl:(Qz q).length ≤ 1000000000):q.fit:=by
 obtain ⟨h1,h2,h3,h4,h5,h6,h7,h8,h9,h10⟩:=h
 unfold Qz at hl
 simp only [List.length_append] at hl
 have a:=yF q.who
 have b:=yF q.folder
 have c:=yF q.name
 have d:=yF q.key
 have e:=yF q.text
 exact ⟨h1,by omega,by omega,by omega,by omega,by omega,h7,h8,h9,JQ h10 (by omega),by have:=h10.1;omega⟩
theorem Xo (s:qj) (hs:s.length ≤ 1000000000):zr C.P 12 [.v (str s)] (.tup [.agg (vY s).1.row,.v (.int .i64 (vY s).2)]):=by
 cases hq:kv s with
 | none =>
   have hw:=wW s (f:=29) Tryd.func29 rfl rfl 10 noRqt.row noRqt.row rfl rfl (Ya s noRqt hs hq)
   have h:=zP s _ _ false noRqt hw (Je noRqt J6)
   rw [if_neg (fun h=>by cases h.1)] at h
   unfold vY
   rw [hq]
   exact h
 | some p =>
   obtain ⟨q,r⟩:=p
   obtain ⟨e1,e2⟩:=rd_rqt.of _ _ _ hq
   have hf:q.fit:=Y8 e2 (by have:=congrArg List.length e1;rw [List.length_append] at this;omega)
   have hw:=Xv s r (f:=29) Tryd.func29 rfl rfl 10 noRqt.row q.row rfl rfl (VF s r q noRqt hs hq)
   have h:=zP s _ _ _ q hw (Je q hf)
   unfold vY
   rw [hq]
   dsimp only
   by_cases hr:r = [] ∧ yr q = (s,0)
   ·rw [if_pos hr]
    rw [if_pos ⟨by simpa using hr.1,by rw [hr.2],by rw [hr.2]⟩] at h
    exact h
   ·rw [if_neg hr]
    rw [if_neg (fun h=>hr ⟨by simpa using h.1,Prod.ext h.2.1 h.2.2⟩)] at h
    exact h
end Go.Proofs.YtahbbnfmbohmmaaDoor
set_option linter.unusedSimpArgs false
set_option linter.unnecessarySimpa false
set_option linter.unusedVariables false
set_option maxHeartbeats 1000000
namespace Go.Proofs.YtahbbnfmbohmmaaDoor
open Go.Ab Go.RowKit
set_option maxRecDepth 10000
theorem Vy {k:Nat} (h:k < 10):Lib.decDigits k = [UInt8.ofNat (48 + k)]:=by rw [Lib.decDigits,dif_pos h]
theorem VQ {k:Nat} (h:¬ k < 10):Lib.decDigits k = Lib.decDigits (k / 10) ++ [UInt8.ofNat (48 + k % 10)]:=by rw [Lib.decDigits,dif_neg h]
theorem X3 (k:Nat):Lib.itoa (k:Int) = Lib.decDigits k:=by
 unfold Lib.itoa
 rw [if_neg (by omega)]
 simp
theorem Vx {k:Nat} (h:k ≤ 20000000000000000):(Lib.decDigits k).length ≤ 21:=by
 rw [← X3]
 exact Lib.itoa_length_le _ (by omega) (by omega)
attribute [local irreducible] Awp jW jq jB Red qv Go.Ab.Fin qu Rz vn jv jm ResOk jA ji yk qP
theorem Yn (k:Nat) (hk:k ≤ 20000000000000000):zr C.P 57 [.v (.int .i64 (k:Int))] (.v (str (Lib.decDigits k))):=by
 have hB : ∀ n:Nat,(48 + ((n:Nat):Int)).toNat = 48 + n:=fun n=>by omega
 refine qe Tryd.func57 rfl _ Tryd.ntmps57 (Nat.le_of_ble_eq_true rfl) _ Tryd.results57 0 rfl rfl ?_
 repeat' (first|refine kL ?_|fail|((first|refine xsC ?_ ?_);all_goals (intro hc;have hp:=hc;try simp at hp;try (exfalso;omega)))|refine jn ?_ ?_)
 all_goals try (exfalso;omega)
 (refine Awp.red (Qu (ts:=[(0,.v (.int .i64 ((k:Nat):Int))),(3,.v (str ([]:qj)))]) ?_) ?_;((repeat (first|exact qy|refine jt ?_|refine y5 ?_ ?_))))
 refine yA (fun n σ => ∃ (m:Nat) (s:qj),m ≤ 20000000000000000 ∧ n = m + 1 ∧ Lib.decDigits m ++ s = Lib.decDigits k ∧ σ = ⟨[(0,.v (.int .i64 (m:Int))),(3,.v (str s))],[],C.nh⟩) (k + 1) ⟨k,[],hk,rfl,by simp,rfl⟩ ?_
 rintro n σ ⟨m,s,hm,rfl,hd,rfl⟩
 have hsl:s.length ≤ 21:=by
  have h1:=congrArg List.length hd
  have h2:=Vx hk
  rw [List.length_append] at h1
  omega
 by_cases h10:m < 10
 ·have hq:m / 10 = 0:=by omega
  have hr:m % 10 = m:=by omega
  rw [Vy h10] at hd
  repeat' (first|refine kL ?_|(first|(apply qt;apply YK (b:=10);rfl;rfl;decide;exact nle rfl)|(apply qt;apply YJ (b:=10);rfl;rfl;decide;omega;exact nle rfl)|(apply qt;apply Jq;rfl;rfl;rfl;rfl;rfl;exact IntWalk.u8_in _ (by omega);exact nle rfl)|(refine xH ?_)|(apply qt;apply Qc;rfl;rfl;rfl;rfl;rfl;rfl;rfl;exact nle rfl))|((first|refine xsC ?_ ?_);all_goals (intro hc;have hp:=hc;try simp at hp;try (exfalso;omega)))|refine jn ?_ ?_)
  all_goals try (exfalso;omega)
  (refine jP (rs:=[.tmp 2]) ?_;(repeat' (first|exact jf|apply qS|exact qN rfl|exact jZ|exact xp|apply jx|apply jM|apply jy|apply jK|apply jl|apply jL|refine xo ?_|apply yi));all_goals (first|(rw [hr,hB];exact hd)|(intros;simp_all;done)|trace_state))
 ·rw [VQ h10] at hd
  have hq:¬ m / 10 = 0:=by omega
  repeat' (first|refine kL ?_|(first|(apply qt;apply YK (b:=10);rfl;rfl;decide;exact nle rfl)|(apply qt;apply YJ (b:=10);rfl;rfl;decide;omega;exact nle rfl)|(apply qt;apply Jq;rfl;rfl;rfl;rfl;rfl;exact IntWalk.u8_in _ (by omega);exact nle rfl)|(refine xH ?_)|(apply qt;apply Qc;rfl;rfl;rfl;rfl;rfl;rfl;rfl;exact nle rfl))|((first|refine xsC ?_ ?_);all_goals (intro hc;have hp:=hc;try simp at hp;try (exfalso;omega)))|refine jn ?_ ?_)
  all_goals try (exfalso;omega)
  refine ⟨m / 10 + 1,_,by omega,Qu (ts:=[(0,.v (.int .i64 ((m / 10:Nat):Int))),(3,.v (str (UInt8.ofNat (48 + m % 10) :: s)))]) ?_,m / 10,UInt8.ofNat (48 + m % 10) :: s,by omega,rfl,by rw [← hd];simp,rfl⟩
  ((repeat (first|exact qy|refine jt ?_|refine y5 ?_ ?_));all_goals (first|rfl|(rw [hB];rfl)|trace_state))
theorem Vv (n:Int) (h0 : -20000000000000000 ≤ n) (h1:n ≤ 20000000000000000):zr C.P 57 [.v (.int .i64 n)] (.v (str (Lib.itoa n))):=by
 by_cases hn:n < 0
 ·obtain ⟨k,rfl⟩ : ∃ k:Nat,n = -(k:Int):=⟨n.natAbs,by omega⟩
  have hk:k ≤ 20000000000000000:=by omega
  have c:=Yn k hk
  have hl:=Vx hk
  have e:(45 :: Lib.decDigits k:qj) = Lib.itoa (-(k:Int)):=by
   unfold Lib.itoa
   rw [if_pos hn]
   simp
  rw [show ((k:Nat):Int) = -(-(k:Int)) by omega] at c
  refine qe Tryd.func57 rfl _ Tryd.ntmps57 (Nat.le_of_ble_eq_true rfl) _ Tryd.results57 0 rfl rfl ?_
  repeat' (first|refine kL ?_|(first|refine xsF Tryd.func57 (c ..) ?_|(apply qt;apply Vd;rfl;omega;omega;exact nle rfl))|((first|refine xsC ?_ ?_);all_goals (intro hc;have hp:=hc;try simp at hp;try (exfalso;omega)))|refine jn ?_ ?_)
  all_goals try (exfalso;omega)
  all_goals ((refine jP (rs:=[.tmp 2]) ?_;(repeat' (first|exact jf|apply qS|exact qN rfl|exact jZ|exact xp|apply jx|apply jM|apply jy|apply jK|apply jl|apply jL|refine xo ?_|apply yi));all_goals exact e))
 ·obtain ⟨k,rfl⟩ : ∃ k:Nat,n = (k:Int):=⟨n.natAbs,by omega⟩
  rw [X3]
  exact Yn k (by omega)
@[reducible] def wR (w:WS):HB := .own true 3 [[.v (str w.s),.v (.bool w.g),.v (.bool w.f)]]
theorem yo {L:List (Nat × Nat)} {nh:Nat} {σ:St} {q q' : Nat} {w w' : WS} {rest:List (Nat × HB)} (hq:qh σ.hs q = wR w) (h1:Maps L nh q q') (hs:w = w') (hr:jO L nh σ rest):jO L nh σ ((q',wR w') :: rest):=by
 subst hs
 exact ⟨⟨q,h1,by rw [hq];exact qQ (qJ rfl)⟩,hr⟩
set_option maxHeartbeats 1000000 in
theorem yD (w:WS) (n:Int) (hn:xi n) (hw:w.s.length ≤ 1000000000):qu C1.P 24 [.op 0 0 0,.v (.int .i64 n)] [wR w] (.tup []) [wR (w.numR n)]:=by
 obtain ⟨h1,h2⟩:=hn
 by_cases hf:vF n = true
 ·have e:w.numR n = ⟨w.s,w.g,true⟩:=by unfold WS.numR;rw [if_pos hf]
  rw [e]
  unfold vF at hf
  simp only [Bool.or_eq_true,decide_eq_true_eq] at hf
  refine qe (C:=C1) Tryd.func24 rfl _ Tryd.ntmps24 (Nat.le_of_ble_eq_true rfl) _ Tryd.results24 1 rfl rfl ?_
  repeat' (first|refine qn ?_|fail|((first|(apply qb;rfl;rfl;exact nle rfl)|(apply qa;rfl;rfl;exact nle rfl)|refine xsC ?_ ?_);all_goals (intro hc;have hp:=hc;try simp at hp;try (exfalso;omega)))|refine jn ?_ ?_)
  all_goals try (exfalso;omega)
  all_goals ((apply qx (rs:=[]) [] 1;(case hr=>(repeat (first|exact qq|(apply qr;rfl)|(apply qm;rfl;rfl;rfl;rfl;rfl))));(case hL=>rfl);(case hh=>(refine yo (q:=0) rfl (qf rfl) rfl qi));(case hi=>exact rfl);(case hz=>first|rfl|(simp [jE,AV.ren,AV.ren.renL,ja,qg,qV];done))))
 ·have e:w.numR n = ⟨w.s ++ jz n,w.g,w.f⟩:=by unfold WS.numR;rw [if_neg hf]
  rw [e]
  unfold vF at hf
  simp only [Bool.or_eq_true,decide_eq_true_eq] at hf
  have c:=Vv n (by omega) (by omega)
  have hl:=Lib.itoa_length_le n (by omega) (by omega)
  unfold jz
  refine qe (C:=C1) Tryd.func24 rfl _ Tryd.ntmps24 (Nat.le_of_ble_eq_true rfl) _ Tryd.results24 1 rfl rfl ?_
  repeat' (first|refine qn ?_|(first|refine xsF Tryd.func57 (c ..) ?_)|((first|(apply qb;rfl;rfl;exact nle rfl)|(apply qa;rfl;rfl;exact nle rfl)|refine xsC ?_ ?_);all_goals (intro hc;have hp:=hc;try simp at hp;try (exfalso;omega)))|refine jn ?_ ?_)
  all_goals try (exfalso;omega)
  all_goals ((apply qx (rs:=[]) [] 1;(case hr=>(repeat (first|exact qq|(apply qr;rfl)|(apply qm;rfl;rfl;rfl;rfl;rfl))));(case hL=>rfl);(case hh=>(refine yo (q:=0) rfl (qf rfl) rfl qi));(case hi=>exact rfl);(case hz=>first|rfl|(simp [jE,AV.ren,AV.ren.renL,ja,qg,qV];done))))
end Go.Proofs.YtahbbnfmbohmmaaDoor
set_option linter.unusedSimpArgs false
set_option linter.unnecessarySimpa false
set_option linter.unusedVariables false
set_option maxHeartbeats 1000000
namespace Go.Proofs.YtahbbnfmbohmmaaDoor
open Go.Ab Go.RowKit
set_option maxRecDepth 10000
theorem j7 (w:WS) {n:Int} (hn:xi n):(w.numR n).s.length ≤ w.s.length + 22:=by
 unfold WS.numR
 have:=yp hn
 split
 ·exact Nat.le_add_right _ _
 ·simp only [List.length_append];omega
theorem j0 (w:WS) (t:qj):(w.txtR t).s.length ≤ w.s.length + 1022:=by
 unfold WS.txtR
 split
 ·exact Nat.le_add_right _ _
 ·have:=j7 w (n:=t.length) ⟨by omega,by omega⟩
  simp only [List.length_append]
  omega
theorem YA (w:WS) {c:Chg} (h:c.fit):(w.chgR c).s.length ≤ w.s.length + 3110:=by
 have h1:=j7 w h.kind
 have h2:=j0 (w.numR c.kind) c.path
 have h3:=j0 ((w.numR c.kind).txtR c.path) c.to
 have h4:=j0 (((w.numR c.kind).txtR c.path).txtR c.to) c.text
 have h5:=j7 ((((w.numR c.kind).txtR c.path).txtR c.to).txtR c.text) h.base
 unfold WS.chgR
 omega
theorem JU (l:List Chg) : ∀ (w:WS),(∀ c,c ∈ l → c.fit) → (l.foldl WS.chgR w).s.length ≤ w.s.length + 3110 * l.length:=by
 induction l with
 | nil=>exact fun w _=>Nat.le_refl _
 | cons c l ih =>
   intro w h
   have h1:=YA w (h c (by simp))
   have h2:=ih (w.chgR c) (fun x hx=>h x (by simp [hx]))
   simp only [List.length_cons,List.foldl_cons]
   omega
attribute [local irreducible] Awp jW jq jB Red qv Go.Ab.Fin qu Rz vn jv jm ResOk jA ji yk qP
set_option maxHeartbeats 1000000 in
theorem xZ (w:WS) (t:qj) (ht:t.length ≤ 1000000000) (hw:w.s.length ≤ 900000000):qu C1.P 25 [.op 0 0 0,.v (str t)] [wR w] (.tup []) [wR (w.txtR t)]:=by
 by_cases h:1000 < t.length
 ·have e:w.txtR t = ⟨w.s,true,w.f⟩:=by unfold WS.txtR;rw [if_pos h]
  rw [e]
  refine qe (C:=C1) Tryd.func25 rfl _ Tryd.ntmps25 (Nat.le_of_ble_eq_true rfl) _ Tryd.results25 1 rfl rfl ?_
  repeat' (first|refine qn ?_|fail|((first|(apply qb;rfl;rfl;exact nle rfl)|(apply qa;rfl;rfl;exact nle rfl)|refine xsC ?_ ?_);all_goals (intro hc;have hp:=hc;try simp at hp;try (exfalso;omega)))|refine jn ?_ ?_)
  all_goals try (exfalso;omega)
  all_goals ((apply qx (rs:=[]) [] 1;(case hr=>(repeat (first|exact qq|(apply qr;rfl)|(apply qm;rfl;rfl;rfl;rfl;rfl))));(case hL=>rfl);(case hh=>(refine yo (q:=0) rfl (qf rfl) rfl qi));(case hi=>exact rfl);(case hz=>first|rfl|(simp [jE,AV.ren,AV.ren.renL,ja,qg,qV];done))))
 ·have e:w.txtR t = ⟨(w.numR t.length).s ++ t,(w.numR t.length).g,(w.numR t.length).f⟩:=by unfold WS.txtR;rw [if_neg h]
  rw [e]
  have hI:xi (t.length:Int):=⟨by omega,by omega⟩
  have c:=yD w t.length hI (by omega)
  have hl:=j7 w hI
  generalize w.numR t.length = v at *
  refine qe (C:=C1) Tryd.func25 rfl _ Tryd.ntmps25 (Nat.le_of_ble_eq_true rfl) _ Tryd.results25 1 rfl rfl ?_
  repeat' (first|refine qn ?_|(first|(apply qc Tryd.func24 rfl rfl;intro hIsFn;refine jw 0 hIsFn (c) rfl ?_))|((first|(apply qb;rfl;rfl;exact nle rfl)|(apply qa;rfl;rfl;exact nle rfl)|refine xsC ?_ ?_);all_goals (intro hc;have hp:=hc;try simp at hp;try (exfalso;omega)))|refine jn ?_ ?_)
  all_goals try (exfalso;omega)
  all_goals ((apply qx (rs:=[]) [] 1;(case hr=>(repeat (first|exact qq|(apply qr;rfl)|(apply qm;rfl;rfl;rfl;rfl;rfl))));(case hL=>rfl);(case hh=>(refine yo (q:=0) rfl (qf rfl) rfl qi));(case hi=>exact rfl);(case hz=>first|rfl|(simp [jE,AV.ren,AV.ren.renL,ja,qg,qV];done))))
theorem Vj (w:WS):qu C1.P 27 [.op 0 0 0] [wR w] (.tup [.v (str w.done.1),.v (.int .i64 w.done.2)]) [wR w]:=by
 obtain ⟨s,g,f⟩:=w
 unfold WS.done
 cases g with
 | true =>
   refine qe (C:=C1) Tryd.func27 rfl _ Tryd.ntmps27 (Nat.le_of_ble_eq_true rfl) _ Tryd.results27 1 rfl rfl ?_
   repeat' (first|refine qn ?_|fail|((first|(apply qb;rfl;rfl;exact nle rfl)|(apply qa;rfl;rfl;exact nle rfl)|refine xsC ?_ ?_);all_goals (intro hc;have hp:=hc;try simp at hp;try (exfalso;omega)))|refine jn ?_ ?_)
   all_goals ((apply qx (rs:=[.tmp 2,.tmp 3]) [] 1;(case hr=>(repeat (first|exact qq|(apply qr;rfl)|(apply qm;rfl;rfl;rfl;rfl;rfl))));(case hL=>rfl);(case hh=>(refine yo (q:=0) rfl (qf rfl) rfl qi));(case hi=>exact rfl);(case hz=>first|rfl|(simp [jE,AV.ren,AV.ren.renL,ja,qg,qV];done))))
 | false =>
   cases f with
   | true =>
     refine qe (C:=C1) Tryd.func27 rfl _ Tryd.ntmps27 (Nat.le_of_ble_eq_true rfl) _ Tryd.results27 1 rfl rfl ?_
     repeat' (first|refine qn ?_|fail|((first|(apply qb;rfl;rfl;exact nle rfl)|(apply qa;rfl;rfl;exact nle rfl)|refine xsC ?_ ?_);all_goals (intro hc;have hp:=hc;try simp at hp;try (exfalso;omega)))|refine jn ?_ ?_)
     all_goals ((apply qx (rs:=[.tmp 2,.tmp 3]) [] 1;(case hr=>(repeat (first|exact qq|(apply qr;rfl)|(apply qm;rfl;rfl;rfl;rfl;rfl))));(case hL=>rfl);(case hh=>(refine yo (q:=0) rfl (qf rfl) rfl qi));(case hi=>exact rfl);(case hz=>first|rfl|(simp [jE,AV.ren,AV.ren.renL,ja,qg,qV];done))))
   | false =>
     refine qe (C:=C1) Tryd.func27 rfl _ Tryd.ntmps27 (Nat.le_of_ble_eq_true rfl) _ Tryd.results27 1 rfl rfl ?_
     repeat' (first|refine qn ?_|fail|((first|(apply qb;rfl;rfl;exact nle rfl)|(apply qa;rfl;rfl;exact nle rfl)|refine xsC ?_ ?_);all_goals (intro hc;have hp:=hc;try simp at hp;try (exfalso;omega)))|refine jn ?_ ?_)
     all_goals ((apply qx (rs:=[.tmp 2,.tmp 3]) [] 1;(case hr=>(repeat (first|exact qq|(apply qr;rfl)|(apply qm;rfl;rfl;rfl;rfl;rfl))));(case hL=>rfl);(case hh=>(refine yo (q:=0) rfl (qf rfl) rfl qi));(case hi=>exact rfl);(case hz=>first|rfl|(simp [jE,AV.ren,AV.ren.renL,ja,qg,qV];done))))
set_option maxHeartbeats 4000000 in
theorem J7 (w:WS) (l:List Chg) (hl:l.length ≤ 1000000000) (hfit : ∀ c,c ∈ l → c.fit) (hw:w.s.length ≤ 800000000):qu C1.P 26 [.op 0 0 0,ym l] [wR w] (.tup []) [wR (w.chgsR l)]:=by
 have hml:(l.map Chg.row).length = l.length:=List.length_map ..
 by_cases h:20 < l.length
 ·have e:w.chgsR l = ⟨w.s,true,w.f⟩:=by unfold WS.chgsR;rw [if_pos h]
  rw [e]
  unfold ym
  refine qe (C:=C1) Tryd.func26 rfl _ Tryd.ntmps26 (Nat.le_of_ble_eq_true rfl) _ Tryd.results26 1 rfl rfl ?_
  repeat' (first|refine qn ?_|fail|((first|(apply qb;rfl;rfl;exact nle rfl)|(apply qa;rfl;rfl;exact nle rfl)|refine xsC ?_ ?_);all_goals (intro hc;have hp:=hc;try simp at hp;try (exfalso;omega)))|refine jn ?_ ?_)
  all_goals try (exfalso;omega)
  all_goals ((apply qx (rs:=[]) [] 1;(case hr=>(repeat (first|exact qq|(apply qr;rfl)|(apply qm;rfl;rfl;rfl;rfl;rfl))));(case hL=>rfl);(case hh=>(refine yo (q:=0) rfl (qf rfl) rfl qi));(case hi=>exact rfl);(case hz=>first|rfl|(simp [jE,AV.ren,AV.ren.renL,ja,qg,qV];done))))
 ·have e:w.chgsR l = l.foldl WS.chgR (w.numR l.length):=by unfold WS.chgsR;rw [if_neg h]
  rw [e]
  have hI:xi (l.length:Int):=⟨by omega,by omega⟩
  have c:=yD w l.length hI (by omega)
  rw [← hml] at c
  have hwl:=j7 w hI
  unfold ym
  generalize hv:w.numR l.length = v at *
  refine qe (C:=C1) Tryd.func26 rfl _ Tryd.ntmps26 (Nat.le_of_ble_eq_true rfl) _ Tryd.results26 1 rfl rfl ?_
  repeat' (first|refine qn ?_|(first|(apply qc Tryd.func24 rfl rfl;intro hIsFn;refine jw 0 hIsFn (c) rfl ?_))|((first|(apply qb;rfl;rfl;exact nle rfl)|(apply qa;rfl;rfl;exact nle rfl)|refine xsC ?_ ?_);all_goals (intro hc;have hp:=hc;try simp at hp;try (exfalso;omega)))|refine jn ?_ ?_)
  all_goals try (exfalso;omega)
  (refine Awp.red (jb (τ:=⟨[(0,.op 0 0 0),(1,.sl false (l.map Chg.row)),(4,.v (.int .i64 ((0:Nat):Int)))],[(0,wR v)],1⟩) [] rfl ?gts2 ?ghs2) ?_;(case gts2=>(repeat (first|exact qy|refine jt ?_|refine y6 ?_|refine yf ?_|refine xm ?_|refine yg ?_ ?_|refine y5 ?_ ?_));all_goals rfl);(case ghs2=>(refine yo (q:=0) rfl (qf rfl) (by rw [hml];exact hv) qi)))
  refine yA (fun n σ => ∃ i:Nat,i ≤ l.length ∧ n = l.length - i ∧ σ = ⟨[(0,.op 0 0 0),(1,.sl false (l.map Chg.row)),(4,.v (.int .i64 (i:Int)))],[(0,wR ((l.take i).foldl WS.chgR v))],1⟩) l.length ⟨0,Nat.zero_le _,rfl,rfl⟩ ?_
  rintro n σ ⟨i,hi,rfl,rfl⟩
  have hb:=JU (l.take i) v (fun c hx=>hfit c (List.mem_of_mem_take hx))
  have hti:(l.take i).length ≤ 20:=by rw [List.length_take];omega
  by_cases hlt:i < l.length
  ·have zg:(l.map Chg.row)[i]? = some (l[i].row):=by rw [List.getElem?_map,List.getElem?_eq_getElem hlt];rfl
   have hfold:(l.take (i + 1)).foldl WS.chgR v = ((l.take i).foldl WS.chgR v).chgR l[i]:=by
    rw [List.take_succ_eq_append_getElem hlt,List.foldl_append];rfl
   have hf:=hfit l[i] (List.getElem_mem hlt)
   generalize (l.take i).foldl WS.chgR v = u at *
   generalize l[i] = x at *
   have hul:u.s.length ≤ 800070000:=by omega
   obtain ⟨x1,x2,x3,x4,x5⟩:=hf
   have l1:=j7 u x1
   have l2:=j0 (u.numR x.kind) x.path
   have l3:=j0 ((u.numR x.kind).txtR x.path) x.to
   have l4:=j0 (((u.numR x.kind).txtR x.path).txtR x.to) x.text
   have c1:=yD u x.kind x1 (by omega)
   have c2:=xZ (u.numR x.kind) x.path x2 (by omega)
   have c3:=xZ ((u.numR x.kind).txtR x.path) x.to x3 (by omega)
   have c4:=xZ (((u.numR x.kind).txtR x.path).txtR x.to) x.text x4 (by omega)
   have c5:=yD ((((u.numR x.kind).txtR x.path).txtR x.to).txtR x.text) x.base x5 (by omega)
   unfold WS.chgR at hfold
   generalize ((((u.numR x.kind).txtR x.path).txtR x.to).txtR x.text).numR x.base = u5 at *
   generalize (((u.numR x.kind).txtR x.path).txtR x.to).txtR x.text = u4 at *
   generalize ((u.numR x.kind).txtR x.path).txtR x.to = u3 at *
   generalize (u.numR x.kind).txtR x.path = u2 at *
   generalize u.numR x.kind = u1 at *
   unfold Chg.row at zg
   clear l1 l2 l3 l4 hb hti hul e hw hwl c
   repeat' (first|refine qn ?_|(first|(apply qc Tryd.func24 rfl rfl;intro hIsFn;refine jw 0 hIsFn (c1) rfl ?_)|(apply qc Tryd.func25 rfl rfl;intro hIsFn;refine jw 0 hIsFn (c2) rfl ?_)|(apply qc Tryd.func25 rfl rfl;intro hIsFn;refine jw 0 hIsFn (c3) rfl ?_)|(apply qc Tryd.func25 rfl rfl;intro hIsFn;refine jw 0 hIsFn (c4) rfl ?_)|(apply qc Tryd.func24 rfl rfl;intro hIsFn;refine jw 0 hIsFn (c5) rfl ?_))|((first|(apply qb;rfl;rfl;exact nle rfl)|(apply qa;rfl;rfl;exact nle rfl)|refine xsC ?_ ?_);all_goals (intro hc;have hp:=hc;try simp at hp;try (exfalso;omega)))|refine jn ?_ ?_)
   all_goals try (exfalso;omega)
   all_goals (refine ⟨l.length - (i + 1),⟨[(0,.op 0 0 0),(1,.sl false (l.map Chg.row)),(4,.v (.int .i64 ((i + 1:Nat):Int)))],[(0,wR ((l.take (i + 1)).foldl WS.chgR v))],1⟩,by omega,?_,⟨i + 1,by omega,rfl,rfl⟩⟩;refine jb [] rfl ?gts ?ghs;(case gts=>(repeat (first|exact qy|refine jt ?_|refine y6 ?_|refine yf ?_|refine xm ?_|refine yg ?_ ?_|refine y5 ?_ ?_));all_goals first|rfl|(simp;omega));(case ghs=>(refine yo (q:=0) rfl (qf rfl) hfold.symm qi)))
  ·obtain rfl:i = l.length:=by omega
   rw [List.take_length] at *
   generalize l.foldl WS.chgR v = u at *
   repeat' (first|refine qn ?_|fail|((first|(apply qb;rfl;rfl;exact nle rfl)|(apply qa;rfl;rfl;exact nle rfl)|refine xsC ?_ ?_);all_goals (intro hc;have hp:=hc;try simp at hp;try (exfalso;omega)))|refine jn ?_ ?_)
   all_goals try (exfalso;omega)
   all_goals ((apply qx (rs:=[]) [] 1;(case hr=>(repeat (first|exact qq|(apply qr;rfl)|(apply qm;rfl;rfl;rfl;rfl;rfl))));(case hL=>rfl);(case hh=>(refine yo (q:=0) rfl (qf rfl) rfl qi));(case hi=>exact rfl);(case hz=>first|rfl|(simp [jE,AV.ren,AV.ren.renL,ja,qg,qV];done))))
end Go.Proofs.YtahbbnfmbohmmaaDoor
set_option linter.unusedSimpArgs false
set_option linter.unnecessarySimpa false
set_option linter.unusedVariables false
set_option maxHeartbeats 1000000
namespace Go.Proofs.YtahbbnfmbohmmaaDoor
open Go.Ab Go.RowKit
set_option maxRecDepth 10000
def rq0:Rqt:=⟨2,[97],[102],[],[],[],0,0,0,[]⟩
def VO:qj:=[50,59,49,59,97,49,59,102,48,59,48,59,48,59,48,59,48,59,48,59,48,59]
theorem Vw:yr rq0 = (VO,0):=by
 simp [yr,WS.rqt,WS.nums,WS.num,WS.txts,WS.txt,WS.chgs,WS.lst,WS.done,vF,jz,y9,Lib.itoa,Vy,ws0,rq0,VO]
theorem XR:rq0.fit:=⟨⟨by decide,by decide⟩,by decide,by decide,by decide,by decide,by decide,kg,kg,kg,(fun c h=>by cases h),by decide⟩
attribute [local irreducible] Awp jW jq jB Red qv Go.Ab.Fin qu Rz vn jv jm ResOk jA ji yk qP
set_option maxHeartbeats 4000000 in
theorem Xp (r:Rqt) (h:r.fit):zr C.P 9 [.agg r.row] (.tup [.v (str (yr r).1),.v (.int .i64 (yr r).2)]):=by
 rw [← Yu]
 obtain ⟨q1,q2,q3,q4,q5,q6,q7,q8,q9,q10⟩:=r
 obtain ⟨h1,h2,h3,h4,h5,h6,h7,h8,h9,h10,h11⟩:=h
 dsimp only at *
 unfold X0 WS.rqtR Rqt.row
 dsimp only
 have c1:=yD ws0 q1 h1 (by decide)
 have l1:=j7 ws0 h1
 have l0:ws0.s.length = 0:=rfl
 unfold ws0 at c1
 generalize hw0:ws0 = w0 at *
 have c2:=xZ (w0.numR q1) q2 h2 (by omega)
 have l2:=j0 (w0.numR q1) q2
 generalize hw1:w0.numR q1 = w1 at *
 have c3:=xZ (w1.txtR q2) q3 h3 (by omega)
 have l3:=j0 (w1.txtR q2) q3
 generalize w1.txtR q2 = w2 at *
 have c4:=xZ (w2.txtR q3) q4 h4 (by omega)
 have l4:=j0 (w2.txtR q3) q4
 generalize w2.txtR q3 = w3 at *
 have c5:=xZ (w3.txtR q4) q5 h5 (by omega)
 have l5:=j0 (w3.txtR q4) q5
 generalize w3.txtR q4 = w4 at *
 have c6:=xZ (w4.txtR q5) q6 h6 (by omega)
 have l6:=j0 (w4.txtR q5) q6
 generalize w4.txtR q5 = w5 at *
 have c7:=yD (w5.txtR q6) q7 h7 (by omega)
 have l7:=j7 (w5.txtR q6) h7
 generalize w5.txtR q6 = w6 at *
 have c8:=yD (w6.numR q7) q8 h8 (by omega)
 have l8:=j7 (w6.numR q7) h8
 generalize w6.numR q7 = w7 at *
 have c9:=yD (w7.numR q8) q9 h9 (by omega)
 have l9:=j7 (w7.numR q8) h9
 generalize w7.numR q8 = w8 at *
 have c10:=J7 (w8.numR q9) q10 h11 h10 (by omega)
 generalize w8.numR q9 = w9 at *
 have c11:=Vj (w9.chgsR q10)
 generalize w9.chgsR q10 = w10 at *
 clear l0 l1 l2 l3 l4 l5 l6 l7 l8 l9
 subst hw0
 have e1:(WS.mk [] false false).numR q1 = w1:=hw1
 rw [e1] at c1
 clear hw1 e1
 refine qe Tryd.func9 rfl _ Tryd.ntmps9 (Nat.le_of_ble_eq_true rfl) _ Tryd.results9 0 rfl rfl ?_
 repeat' (first|refine qn ?_|(first|(apply qc Tryd.func24 rfl rfl;intro hIsFn;refine jw 1 hIsFn (c1) rfl ?_)|(apply qc Tryd.func25 rfl rfl;intro hIsFn;refine jw 1 hIsFn (c2) rfl ?_)|(apply qc Tryd.func25 rfl rfl;intro hIsFn;refine jw 1 hIsFn (c3) rfl ?_)|(apply qc Tryd.func25 rfl rfl;intro hIsFn;refine jw 1 hIsFn (c4) rfl ?_)|(apply qc Tryd.func25 rfl rfl;intro hIsFn;refine jw 1 hIsFn (c5) rfl ?_)|(apply qc Tryd.func25 rfl rfl;intro hIsFn;refine jw 1 hIsFn (c6) rfl ?_)|(apply qc Tryd.func24 rfl rfl;intro hIsFn;refine jw 1 hIsFn (c7) rfl ?_)|(apply qc Tryd.func24 rfl rfl;intro hIsFn;refine jw 1 hIsFn (c8) rfl ?_)|(apply qc Tryd.func24 rfl rfl;intro hIsFn;refine jw 1 hIsFn (c9) rfl ?_)|(apply qc Tryd.func26 rfl rfl;intro hIsFn;refine jw 1 hIsFn (c10) rfl ?_)|(apply qc Tryd.func27 rfl rfl;intro hIsFn;refine jw 1 hIsFn (c11) rfl ?_))|((first|refine xsC ?_ ?_);all_goals (intro hc;have hp:=hc;try simp at hp;try (exfalso;omega)))|refine jn ?_ ?_)
 all_goals ((refine jP (rs:=[.tmp 2,.tmp 3]) ?_;(repeat' (first|exact jf|apply qS|exact qN rfl|exact jZ|exact xp|apply jx|apply jM|apply jy|apply jK|apply jl|apply jL|refine xo ?_|apply yi));all_goals rfl))
theorem Yq:zr C.P 10 [] (.v (.bool true)):=by
 have c1:=Je rq0 XR
 rw [Vw] at c1
 have c2:=Xo VO (by decide)
 rw [JL Vw] at c2
 unfold rq0 VO Rqt.row ym at c1 c2
 dsimp only [List.map_nil] at c1 c2
 refine qe Tryd.func10 rfl _ Tryd.ntmps10 (Nat.le_of_ble_eq_true rfl) _ Tryd.results10 0 rfl rfl ?_
 repeat' (first|(first|refine xsF Tryd.func8 (c1 ..) ?_|refine VP Tryd.func12 (c2 ..) ?_|(apply qt;apply (xS (cs:=[.v (.int .i64 2),.v (str [97]),.v (str [102]),.v (str []),.v (str []),.v (str []),.v (.int .i64 0),.v (.int .i64 0),.v (.int .i64 0),.sl true []]));rfl;rfl;rfl;kernel_rfl;exact nle rfl))|refine qn ?_|((first|(apply qb;rfl;rfl;exact nle rfl)|(apply qa;rfl;rfl;exact nle rfl)|refine xsC ?_ ?_);all_goals (intro hc;have hp:=hc;try simp at hp;try (exfalso;omega)))|refine jn ?_ ?_)
 all_goals ((refine jP (rs:=[.tmp 0]) ?_;(repeat' (first|exact jf|apply qS|exact qN rfl|exact jZ|exact xp|apply jx|apply jM|apply jy|apply jK|apply jl|apply jL|refine xo ?_|apply yi));all_goals rfl))
theorem Yp (s t:qj) (e w:Int):zr C.P 11 [.v (str s),.v (.int .i64 e),.v (.int .i64 w),.v (str t)] (.v (.bool (decide (e = w) && decide (s = if w = 0 then t else [])))):=by
 by_cases hw:w = 0
 ·rw [if_pos hw]
  by_cases he:e = w
  ·rw [decide_eq_true he,Bool.true_and]
   refine qe Tryd.func11 rfl _ Tryd.ntmps11 (Nat.le_of_ble_eq_true rfl) _ Tryd.results11 0 rfl rfl ?_
   repeat' (first|refine qn ?_|fail|((first|(apply qb;rfl;rfl;exact nle rfl)|(apply qa;rfl;rfl;exact nle rfl)|refine xsC ?_ ?_);all_goals (intro hc;have hp:=hc;try simp at hp;try (exfalso;omega)))|refine jn ?_ ?_)
   all_goals try (exfalso;omega)
   all_goals ((refine jP (rs:=[.tmp 8]) ?_;(repeat' (first|exact jf|apply qS|exact qN rfl|exact jZ|exact xp|apply jx|apply jM|apply jy|apply jK|apply jl|apply jL|refine xo ?_|apply yi));all_goals rfl))
  ·rw [decide_eq_false he,Bool.false_and]
   refine qe Tryd.func11 rfl _ Tryd.ntmps11 (Nat.le_of_ble_eq_true rfl) _ Tryd.results11 0 rfl rfl ?_
   repeat' (first|refine qn ?_|fail|((first|(apply qb;rfl;rfl;exact nle rfl)|(apply qa;rfl;rfl;exact nle rfl)|refine xsC ?_ ?_);all_goals (intro hc;have hp:=hc;try simp at hp;try (exfalso;omega)))|refine jn ?_ ?_)
   all_goals try (exfalso;omega)
   all_goals ((refine jP (rs:=[.tmp 8]) ?_;(repeat' (first|exact jf|apply qS|exact qN rfl|exact jZ|exact xp|apply jx|apply jM|apply jy|apply jK|apply jl|apply jL|refine xo ?_|apply yi));all_goals rfl))
 ·rw [if_neg hw]
  by_cases he:e = w
  ·rw [decide_eq_true he,Bool.true_and]
   refine qe Tryd.func11 rfl _ Tryd.ntmps11 (Nat.le_of_ble_eq_true rfl) _ Tryd.results11 0 rfl rfl ?_
   repeat' (first|refine qn ?_|fail|((first|(apply qb;rfl;rfl;exact nle rfl)|(apply qa;rfl;rfl;exact nle rfl)|refine xsC ?_ ?_);all_goals (intro hc;have hp:=hc;try simp at hp;try (exfalso;omega)))|refine jn ?_ ?_)
   all_goals try (exfalso;omega)
   all_goals ((refine jP (rs:=[.tmp 8]) ?_;(repeat' (first|exact jf|apply qS|exact qN rfl|exact jZ|exact xp|apply jx|apply jM|apply jy|apply jK|apply jl|apply jL|refine xo ?_|apply yi));all_goals rfl))
  ·rw [decide_eq_false he,Bool.false_and]
   refine qe Tryd.func11 rfl _ Tryd.ntmps11 (Nat.le_of_ble_eq_true rfl) _ Tryd.results11 0 rfl rfl ?_
   repeat' (first|refine qn ?_|fail|((first|(apply qb;rfl;rfl;exact nle rfl)|(apply qa;rfl;rfl;exact nle rfl)|refine xsC ?_ ?_);all_goals (intro hc;have hp:=hc;try simp at hp;try (exfalso;omega)))|refine jn ?_ ?_)
   all_goals try (exfalso;omega)
   all_goals ((refine jP (rs:=[.tmp 8]) ?_;(repeat' (first|exact jf|apply qS|exact qN rfl|exact jZ|exact xp|apply jx|apply jM|apply jy|apply jK|apply jl|apply jL|refine xo ?_|apply yi));all_goals rfl))
theorem J3 (r:Rqt) (h:r.fit):zr C.P 3 [.agg r.row] (.v (.bool true)):=by
 have c1:=Je r h
 have c2:=Xp r h
 have c3:=Yq
 have c4:=Yp (yr r).1 (yr r).1 (yr r).2 (yr r).2
 have e:(decide ((yr r).2 = (yr r).2) && decide ((yr r).1 = if (yr r).2 = 0 then (yr r).1 else [])) = true:=by
  have:(yr r).2 = 0 ∨ (yr r).1 = []:=by
   unfold yr WS.done
   split
   ·exact .inr rfl
   ·split
    ·exact .inr rfl
    ·exact .inl rfl
  rcases this with h|h
  ·simp [h]
  ·rw [h];simp
 rw [e] at c4
 clear e
 generalize (yr r).1 = t at *
 generalize (yr r).2 = e at *
 unfold Rqt.row at *
 refine qe Tryd.func3 rfl _ Tryd.ntmps3 (Nat.le_of_ble_eq_true rfl) _ Tryd.results3 0 rfl rfl ?_
 repeat' (first|refine qn ?_|(first|refine xsF Tryd.func8 (c1 ..) ?_|refine xsF Tryd.func9 (c2 ..) ?_|refine xsF Tryd.func10 (c3 ..) ?_|refine xsF Tryd.func11 (c4 ..) ?_)|((first|(apply qb;rfl;rfl;exact nle rfl)|(apply qa;rfl;rfl;exact nle rfl)|refine xsC ?_ ?_);all_goals (intro hc;have hp:=hc;try simp at hp;try (exfalso;omega)))|refine jn ?_ ?_)
 all_goals ((refine jP (rs:=[.tmp 2]) ?_;(repeat' (first|exact jf|apply qS|exact qN rfl|exact jZ|exact xp|apply jx|apply jM|apply jy|apply jK|apply jl|apply jL|refine xo ?_|apply yi));all_goals rfl))
end Go.Proofs.YtahbbnfmbohmmaaDoor
set_option linter.unusedSimpArgs false
set_option linter.unusedVariables false
namespace Go.Proofs.YtahbbnfmbohmmaaDoor
open Go.Ab Go.RowKit
theorem zi {a:Int} (h:(Lit.int .i64 a).wf = true):xi a:=by
 simp [Lit.wf] at h
 have e1:IntKind.i64.min = -9223372036854775808:=rfl
 have e2:IntKind.i64.max = 9223372036854775807:=rfl
 exact ⟨by omega,by omega⟩
theorem Xh {n:Nat} {xs:List AV} (h:vo C.tab 1000000000 n 97 xs) : ∃ s:Chg,xs = s.row ∧ s.fit:=by
 cases n with
 | zero=>exact h.elim
 | succ n =>
   obtain ⟨_,_,rfl,h0,_,_,rfl,h1,_,_,rfl,h2,_,_,rfl,h3,_,_,rfl,h4,rfl⟩:=(show zA C.tab 0 _ = some _ → Ym (vo C.tab 1000000000 n) [(0,3),(1,9),(2,9),(3,9),(4,3)] xs from h) rfl
   obtain ⟨a0,rfl,l0⟩:=vm h0
   obtain ⟨a1,rfl,l1⟩:=xf h1
   obtain ⟨a2,rfl,l2⟩:=xf h2
   obtain ⟨a3,rfl,l3⟩:=xf h3
   obtain ⟨a4,rfl,l4⟩:=vm h4
   exact ⟨⟨a0,a1,a2,a3,a4⟩,rfl,zi l0,l1,l2,l3,zi l4⟩
theorem Yh {n:Nat} {xs:List AV} (h:vo C.tab 1000000000 n 22 xs) : ∃ t:List Chg,xs = [ym t] ∧ (∀ c,c ∈ t → c.fit) ∧ t.length ≤ 1000000000:=by
 cases n with
 | zero=>exact h.elim
 | succ n =>
   obtain ⟨rows,he,hb,hr⟩:=(show (5:Nat) ≠ 0 → ∃ rows,xs = [AV.sl false rows] ∧ rows.length * 64 ≤ 1000000000 ∧ ∀ row,row ∈ rows → vo C.tab 1000000000 n 97 row from h) (by decide)
   obtain ⟨l,rfl,hl⟩:=Qy (f:=Chg.row) (ok:=Chg.fit) (fun row hrow=>Xh (hr row hrow))
   refine ⟨l,he,hl,?_⟩
   simp at hb;omega
theorem Xi {n:Nat} {xs:List AV} (h:vo C.tab 1000000000 n 24 xs) : ∃ r:Rqt,xs = r.row ∧ r.fit:=by
 cases n with
 | zero=>exact h.elim
 | succ n =>
   obtain ⟨_,_,rfl,h0,_,_,rfl,h1,_,_,rfl,h2,_,_,rfl,h3,_,_,rfl,h4,_,_,rfl,h5,_,_,rfl,h6,_,_,rfl,h7,_,_,rfl,h8,_,_,rfl,h9,rfl⟩:=(show zA C.tab 0 _ = some _ → Ym (vo C.tab 1000000000 n) [(0,3),(1,9),(2,9),(3,9),(4,9),(5,9),(6,3),(7,3),(8,3),(9,22)] xs from h) rfl
   obtain ⟨a0,rfl,l0⟩:=vm h0
   obtain ⟨a1,rfl,l1⟩:=xf h1
   obtain ⟨a2,rfl,l2⟩:=xf h2
   obtain ⟨a3,rfl,l3⟩:=xf h3
   obtain ⟨a4,rfl,l4⟩:=xf h4
   obtain ⟨a5,rfl,l5⟩:=xf h5
   obtain ⟨a6,rfl,l6⟩:=vm h6
   obtain ⟨a7,rfl,l7⟩:=vm h7
   obtain ⟨a8,rfl,l8⟩:=vm h8
   obtain ⟨a9,rfl,l9,l10⟩:=Yh h9
   exact ⟨⟨a0,a1,a2,a3,a4,a5,a6,a7,a8,a9⟩,rfl,zi l0,l1,l2,l3,l4,l5,zi l6,zi l7,zi l8,l9,l10⟩
theorem Xg {y:AV} (h:JI C.tab 1000000000 24 y) : ∃ c,y = .agg (Rqt.row c) ∧ c.fit:=by
 obtain ⟨n,xs,rfl,h2⟩:=(show ∃ n xs,y = .agg xs ∧ vo C.tab 1000000000 n 24 xs from h)
 obtain ⟨c,rfl,hc⟩:=Xi h2
 exact ⟨c,rfl,hc⟩
theorem kG (ys:List AV) (h:k6 C.tab 1000000000 [24] ys):zr C.P 3 ys (.v (.bool true)):=by
 obtain ⟨_,_,rfl,h0,rfl⟩:=h
 obtain ⟨a,rfl,ha⟩:=Xg h0
 exact J3 a ha
end Go.Proofs.YtahbbnfmbohmmaaDoor
