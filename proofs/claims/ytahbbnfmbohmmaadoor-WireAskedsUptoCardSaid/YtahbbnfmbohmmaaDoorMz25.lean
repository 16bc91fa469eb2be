import Derived.Test.YtahbbnfmbohmmaaDoorMz24
import Derived.Test.YtahbbnfmbohmmaaDoorMz21
import Derived.Test.YtahbbnfmbohmmaaDoorMz3
import Derived.Lib.ItoaLen
set_option linter.unusedSimpArgs false
set_option linter.unnecessarySimpa false
set_option linter.unusedVariables false
set_option maxHeartbeats 1000000
namespace Go.Proofs.YtahbbnfmbohmmaaDoor
open Go.Ab Go.RowKit
set_option maxRecDepth 10000
theorem wG:xN 0:=⟨by decide,by decide⟩
theorem X2:noRqt.fit:=⟨wG,by decide,by decide,by decide,by decide,by decide,wG,wG,wG,(fun c h=>by cases h),by decide⟩
section steps
variable {C' : Cx} {N:Nat} {all:Array Oper} {es:List Eff} {o:Oper} {os:List Oper} {K:List Eff → St → Prop} {ts:List (Nat × AV)} {hs:List (Nat × HB)} {nx:Nat} {gd:List Nat}
theorem qD {f:FuncId} {args:List Operand} {tys:Array TypeId} {d:Nat} {ty:TypeId} {pos:String} {af:Array Edge} {gg:Option (Nat × Bool)} {ys:List AV} {v:AV} {k:Nat} {row row0 row1:List AV} (q:Nat) (hf:IsFn C'.P f)
  (hc:qp C'.P f ys [.own true k [row0]] v [.own true k [row1]]) (hp1:AV.pure.pureL row1 = true)
  (k' : jE C' N all (⟨gd ++ (qU (.func f) ++ args.flatMap qU),[q],some d,v,[(q,.own true k [row1])],[]⟩ :: es) ⟨(d,v) :: ts,(q,.own true k [row1]) :: hs,nx⟩ os K)
  (hq:qn hs q = .own true k [row]:=by rfl) (hp0:qJ (jv 0 [q]) 0 row row0:=by ((repeat (first|exact jj|refine qq (qF rfl) ?_|refine qq Zd ?_))<;>fail))
  (hz:qy (jv 0 [q]) [q] (qn hs) (args.map (evA (qj ts))) ys:=by ((repeat' (first|exact jq|apply jf|exact jp rfl|exact jQ|(apply qv;apply jg;exact .inr (of_decide_eq_true rfl))|(apply qv;apply jX;exact .inr (of_decide_eq_true rfl))|(apply qv;apply jr;exact .inr (of_decide_eq_true rfl))|apply jC|apply jD))<;>fail)) (hr:v.ren (xJ (jv 0 [q])) = v:=by rfl) (hN:d < N:=by exact nle rfl):vC C' N all gd es ⟨ts,hs,nx⟩ f args d tys ty pos af gg os K :=
 xo [q] [] [(q,.own true k [row1])] nx v hf hc hz (js (.own true k [row]) j1 (ja hp0) hq rfl) (qZ (ja (qP hp1)) jS) k' hr rfl rfl (Nat.le_of_ble_eq_true rfl) (by simp) rfl (fun n hn=>by cases hn) (Nat.le_refl _) hN
end steps
attribute [local irreducible] Awp jE qX qG Red qx Go.Ab.Fin qp Rz yI qE qB ResOk je qJ jx qy
set_option maxHeartbeats 4000000 in
theorem we (s t:qh) (e:Int) (ok:Bool) (q:Rqt) (hw:qp C.P 28 [.v (str s),.clo (.func 29) [] [.op 0 0 0]] [.own true 10 [noRqt.row]] (.v (.bool ok)) [.own true 10 [q.row]])
  (ha:kg C.P 8 [.agg q.row] (.tup [.v (str t),.v (.int .i64 e)])) :
  kg C.P 12 [.v (str s)] (if ok = true ∧ t = s ∧ e = 0 then .tup [.agg q.row,.v (.int .i64 0)] else .tup [.agg noRqt.row,.v (.int .i64 1)]):=by
 unfold noRqt Rqt.row at hw
 unfold Rqt.row at ha
 unfold noRqt Rqt.row
 obtain ⟨q1,q2,q3,q4,q5,q6,q7,q8,q9,q10⟩:=q
 dsimp only at *
 cases ok with
 | false =>
   refine qe Tryd.func12 rfl _ Tryd.ntmps12 (Nat.le_of_ble_eq_true rfl) _ Tryd.results12 0 rfl rfl ?_
   repeat' (first|refine qm ?_|(first|(apply qc Tryd.func28 rfl rfl;intro hIsFn;refine qD 1 hIsFn (hw) rfl ?_)|refine xsF Tryd.func8 (ha ..) ?_)|((first|(apply qb;rfl;rfl;exact nle rfl)|(apply qa;rfl;rfl;exact nle rfl)|refine xsC ?_ ?_);all_goals (intro hc;have hp:=hc;try simp at hp;try (exfalso;omega)))|refine jl ?_ ?_)
   all_goals ((refine yb (rs:=[.cell 2 24,.tmp 3]) ?_;(repeat' (first|exact jB|apply jm|exact jb rfl|exact yr|exact vB|apply jU|apply j7|apply jV|apply j5|apply jM|apply j6|refine vA ?_|apply yJ));all_goals rfl))
 | true =>
   by_cases he:e = 0
   ·subst he
    by_cases ht:t = s
    ·subst ht
     refine qe Tryd.func12 rfl _ Tryd.ntmps12 (Nat.le_of_ble_eq_true rfl) _ Tryd.results12 0 rfl rfl ?_
     repeat' (first|refine qm ?_|(first|(apply qc Tryd.func28 rfl rfl;intro hIsFn;refine qD 1 hIsFn (hw) rfl ?_)|refine xsF Tryd.func8 (ha ..) ?_)|((first|(apply qb;rfl;rfl;exact nle rfl)|(apply qa;rfl;rfl;exact nle rfl)|refine xsC ?_ ?_);all_goals (intro hc;have hp:=hc;try simp at hp;try (exfalso;omega)))|refine jl ?_ ?_)
     all_goals try (exfalso;simp at *;done)
     all_goals (rw [if_pos ⟨rfl,rfl,rfl⟩])
     all_goals ((refine yb (rs:=[.cell 2 24,.tmp 3]) ?_;(repeat' (first|exact jB|apply jm|exact jb rfl|exact yr|exact vB|apply jU|apply j7|apply jV|apply j5|apply jM|apply j6|refine vA ?_|apply yJ));all_goals rfl))
    ·refine qe Tryd.func12 rfl _ Tryd.ntmps12 (Nat.le_of_ble_eq_true rfl) _ Tryd.results12 0 rfl rfl ?_
     repeat' (first|refine qm ?_|(first|(apply qc Tryd.func28 rfl rfl;intro hIsFn;refine qD 1 hIsFn (hw) rfl ?_)|refine xsF Tryd.func8 (ha ..) ?_)|((first|(apply qb;rfl;rfl;exact nle rfl)|(apply qa;rfl;rfl;exact nle rfl)|refine xsC ?_ ?_);all_goals (intro hc;have hp:=hc;try simp at hp;try (exfalso;omega)))|refine jl ?_ ?_)
     all_goals try (exfalso;simp_all;done)
     all_goals (rw [if_neg (fun h=>ht h.2.1)])
     all_goals ((refine yb (rs:=[.cell 2 24,.tmp 3]) ?_;(repeat' (first|exact jB|apply jm|exact jb rfl|exact yr|exact vB|apply jU|apply j7|apply jV|apply j5|apply jM|apply j6|refine vA ?_|apply yJ));all_goals rfl))
   ·refine qe Tryd.func12 rfl _ Tryd.ntmps12 (Nat.le_of_ble_eq_true rfl) _ Tryd.results12 0 rfl rfl ?_
    repeat' (first|refine qm ?_|(first|(apply qc Tryd.func28 rfl rfl;intro hIsFn;refine qD 1 hIsFn (hw) rfl ?_)|refine xsF Tryd.func8 (ha ..) ?_)|((first|(apply qb;rfl;rfl;exact nle rfl)|(apply qa;rfl;rfl;exact nle rfl)|refine xsC ?_ ?_);all_goals (intro hc;have hp:=hc;try simp at hp;try (exfalso;omega)))|refine jl ?_ ?_)
    all_goals try (exfalso;omega)
    all_goals (rw [if_neg (fun h=>he h.2.2)])
    all_goals ((refine yb (rs:=[.cell 2 24,.tmp 3]) ?_;(repeat' (first|exact jB|apply jm|exact jb rfl|exact yr|exact vB|apply jU|apply j7|apply jV|apply j5|apply jM|apply j6|refine vA ?_|apply yJ));all_goals rfl))
theorem xb (t:qh):t.length ≤ (xM t).length:=by unfold xM;rw [List.length_append];omega
theorem VM {α:Type} (T:α → qh) {l:List α} {x:α} (h:x ∈ l):(T x).length ≤ (l.flatMap T).length:=by
 induction l with
 | nil=>cases h
 | cons a l ih =>
   rw [List.flatMap_cons,List.length_append]
   rcases List.mem_cons.1 h with rfl|h
   ·omega
   ·have:=ih h;omega
theorem VU {α:Type} (T:α → qh) {l:List α} {x:α} (h:x ∈ l):(T x).length ≤ (JR T l).length:=by
 unfold JR
 rw [List.length_append]
 have:=VM T h
 omega
theorem Vt {c:Chg} (h:ZB c) (hl:(QW c).length ≤ 1000000000):c.fit:=by
 obtain ⟨h1,h2,h3,h4,h5⟩:=h
 unfold QW at hl
 simp only [List.length_append] at hl
 have a:=xb c.path
 have b:=xb c.to
 have d:=xb c.text
 exact ⟨h1,by omega,by omega,by omega,h5⟩
theorem XH {l:List Chg} (h:Vy l) (hl:(Y9 l).length ≤ 1000000000) : ∀ c,c ∈ l → c.fit:=fun c hc=>Vt (h.2 c hc) (Nat.le_trans (VU QW hc) hl)
theorem J5 {q:Rqt} (h:KL q) (hl:(J7 q).length ≤ 1000000000):q.fit:=by
 obtain ⟨h1,h2,h3,h4,h5,h6,h7,h8,h9,h10⟩:=h
 unfold J7 at hl
 simp only [List.length_append] at hl
 have a:=xb q.who
 have b:=xb q.folder
 have c:=xb q.name
 have d:=xb q.key
 have e:=xb q.text
 exact ⟨h1,by omega,by omega,by omega,by omega,by omega,h7,h8,h9,XH h10 (by omega),by have:=h10.1;omega⟩
theorem YX (s:qh) (hs:s.length ≤ 1000000000):kg C.P 12 [.v (str s)] (.tup [.agg (yD s).1.row,.v (.int .i64 (yD s).2)]):=by
 cases hq:zD s with
 | none =>
   have hw:=Jv s (f:=29) Tryd.func29 rfl rfl 10 noRqt.row noRqt.row rfl rfl (X6 s noRqt hs hq)
   have h:=we s _ _ false noRqt hw (Vj noRqt X2)
   rw [if_neg (fun h=>by cases h.1)] at h
   unfold yD
   rw [hq]
   exact h
 | some p =>
   obtain ⟨q,r⟩:=p
   obtain ⟨e1,e2⟩:=rd_rqt.of _ _ _ hq
   have hf:q.fit:=J5 e2 (by have:=congrArg List.length e1;rw [List.length_append] at this;omega)
   have hw:=ZA s r (f:=29) Tryd.func29 rfl rfl 10 noRqt.row q.row rfl rfl (Wh s r q noRqt hs hq)
   have h:=we s _ _ _ q hw (Vj q hf)
   unfold yD
   rw [hq]
   dsimp only
   by_cases hr:r = [] ∧ vv q = (s,0)
   ·rw [if_pos hr]
    rw [if_pos ⟨by simpa using hr.1,by rw [hr.2],by rw [hr.2]⟩] at h
    exact h
   ·rw [if_neg hr]
    rw [if_neg (fun h=>hr ⟨by simpa using h.1,Prod.ext h.2.1 h.2.2⟩)] at h
    exact h
end Go.Proofs.YtahbbnfmbohmmaaDoor
set_option linter.unusedSimpArgs false
set_option linter.unnecessarySimpa false
set_option linter.unusedVariables false
set_option maxHeartbeats 1000000
namespace Go.Proofs.YtahbbnfmbohmmaaDoor
open Go.Ab Go.RowKit
set_option maxRecDepth 10000
theorem K0 {k:Nat} (h:k < 10):Lib.decDigits k = [UInt8.ofNat (48 + k)]:=by rw [Lib.decDigits,dif_pos h]
theorem Wu {k:Nat} (h:¬ k < 10):Lib.decDigits k = Lib.decDigits (k / 10) ++ [UInt8.ofNat (48 + k % 10)]:=by rw [Lib.decDigits,dif_neg h]
theorem Kh (k:Nat):Lib.itoa (k:Int) = Lib.decDigits k:=by
 unfold Lib.itoa
 rw [if_neg (by omega)]
 simp
theorem KZ {k:Nat} (h:k ≤ 20000000000000000):(Lib.decDigits k).length ≤ 21:=by
 rw [← Kh]
 exact Lib.itoa_length_le _ (by omega) (by omega)
attribute [local irreducible] Awp jE qX qG Red qx Go.Ab.Fin qp Rz yI qE qB ResOk je qJ jx qy
theorem Vk (k:Nat) (hk:k ≤ 20000000000000000):kg C.P 57 [.v (.int .i64 (k:Int))] (.v (str (Lib.decDigits k))):=by
 have hB : ∀ n:Nat,(48 + ((n:Nat):Int)).toNat = 48 + n:=fun n=>by omega
 refine qe Tryd.func57 rfl _ Tryd.ntmps57 (Nat.le_of_ble_eq_true rfl) _ Tryd.results57 0 rfl rfl ?_
 repeat' (first|refine kf ?_|fail|((first|refine xsC ?_ ?_);all_goals (intro hc;have hp:=hc;try simp at hp;try (exfalso;omega)))|refine jl ?_ ?_)
 all_goals try (exfalso;omega)
 (refine Awp.red (z8 (ts:=[(0,.v (.int .i64 ((k:Nat):Int))),(3,.v (str ([]:qh)))]) ?_) ?_;((repeat (first|exact qt|refine qV ?_|refine j8 ?_ ?_))))
 refine ya (fun n σ => ∃ (m:Nat) (s:qh),m ≤ 20000000000000000 ∧ n = m + 1 ∧ Lib.decDigits m ++ s = Lib.decDigits k ∧ σ = ⟨[(0,.v (.int .i64 (m:Int))),(3,.v (str s))],[],C.nh⟩) (k + 1) ⟨k,[],hk,rfl,by simp,rfl⟩ ?_
 rintro n σ ⟨m,s,hm,rfl,hd,rfl⟩
 have hsl:s.length ≤ 21:=by
  have h1:=congrArg List.length hd
  have h2:=KZ hk
  rw [List.length_append] at h1
  omega
 by_cases h10:m < 10
 ·have hq:m / 10 = 0:=by omega
  have hr:m % 10 = m:=by omega
  rw [K0 h10] at hd
  repeat' (first|refine kf ?_|(first|(apply qo;apply VK (b:=10);rfl;rfl;decide;exact nle rfl)|(apply qo;apply VJ (b:=10);rfl;rfl;decide;omega;exact nle rfl)|(apply qo;apply Q2;rfl;rfl;rfl;rfl;rfl;exact IntWalk.u8_in _ (by omega);exact nle rfl)|(refine xR ?_)|(apply qo;apply JE;rfl;rfl;rfl;rfl;rfl;rfl;rfl;exact nle rfl))|((first|refine xsC ?_ ?_);all_goals (intro hc;have hp:=hc;try simp at hp;try (exfalso;omega)))|refine jl ?_ ?_)
  all_goals try (exfalso;omega)
  (refine yb (rs:=[.tmp 2]) ?_;(repeat' (first|exact jB|apply jm|exact jb rfl|exact yr|exact vB|apply jU|apply j7|apply jV|apply j5|apply jM|apply j6|refine vA ?_|apply yJ));all_goals (first|(rw [hr,hB];exact hd)|(intros;simp_all;done)|trace_state))
 ·rw [Wu h10] at hd
  have hq:¬ m / 10 = 0:=by omega
  repeat' (first|refine kf ?_|(first|(apply qo;apply VK (b:=10);rfl;rfl;decide;exact nle rfl)|(apply qo;apply VJ (b:=10);rfl;rfl;decide;omega;exact nle rfl)|(apply qo;apply Q2;rfl;rfl;rfl;rfl;rfl;exact IntWalk.u8_in _ (by omega);exact nle rfl)|(refine xR ?_)|(apply qo;apply JE;rfl;rfl;rfl;rfl;rfl;rfl;rfl;exact nle rfl))|((first|refine xsC ?_ ?_);all_goals (intro hc;have hp:=hc;try simp at hp;try (exfalso;omega)))|refine jl ?_ ?_)
  all_goals try (exfalso;omega)
  refine ⟨m / 10 + 1,_,by omega,z8 (ts:=[(0,.v (.int .i64 ((m / 10:Nat):Int))),(3,.v (str (UInt8.ofNat (48 + m % 10) :: s)))]) ?_,m / 10,UInt8.ofNat (48 + m % 10) :: s,by omega,rfl,by rw [← hd];simp,rfl⟩
  ((repeat (first|exact qt|refine qV ?_|refine j8 ?_ ?_));all_goals (first|rfl|(rw [hB];rfl)|trace_state))
theorem Ke (n:Int) (h0 : -20000000000000000 ≤ n) (h1:n ≤ 20000000000000000):kg C.P 57 [.v (.int .i64 n)] (.v (str (Lib.itoa n))):=by
 by_cases hn:n < 0
 ·obtain ⟨k,rfl⟩ : ∃ k:Nat,n = -(k:Int):=⟨n.natAbs,by omega⟩
  have hk:k ≤ 20000000000000000:=by omega
  have c:=Vk k hk
  have hl:=KZ hk
  have e:(45 :: Lib.decDigits k:qh) = Lib.itoa (-(k:Int)):=by
   unfold Lib.itoa
   rw [if_pos hn]
   simp
  rw [show ((k:Nat):Int) = -(-(k:Int)) by omega] at c
  refine qe Tryd.func57 rfl _ Tryd.ntmps57 (Nat.le_of_ble_eq_true rfl) _ Tryd.results57 0 rfl rfl ?_
  repeat' (first|refine kf ?_|(first|refine xsF Tryd.func57 (c ..) ?_|(apply qo;apply VG;rfl;omega;omega;exact nle rfl))|((first|refine xsC ?_ ?_);all_goals (intro hc;have hp:=hc;try simp at hp;try (exfalso;omega)))|refine jl ?_ ?_)
  all_goals try (exfalso;omega)
  all_goals ((refine yb (rs:=[.tmp 2]) ?_;(repeat' (first|exact jB|apply jm|exact jb rfl|exact yr|exact vB|apply jU|apply j7|apply jV|apply j5|apply jM|apply j6|refine vA ?_|apply yJ));all_goals exact e))
 ·obtain ⟨k,rfl⟩ : ∃ k:Nat,n = (k:Int):=⟨n.natAbs,by omega⟩
  rw [Kh]
  exact Vk k (by omega)
@[reducible] def wR (w:WS):HB := .own true 3 [[.v (str w.s),.v (.bool w.g),.v (.bool w.f)]]
theorem yF {L:List (Nat × Nat)} {nh:Nat} {σ:St} {q q' : Nat} {w w' : WS} {rest:List (Nat × HB)} (hq:qn σ.hs q = wR w) (h1:Maps L nh q q') (hs:w = w') (hr:jN L nh σ rest):jN L nh σ ((q',wR w') :: rest):=by
 subst hs
 exact ⟨⟨q,h1,by rw [hq];exact ja (qP rfl)⟩,hr⟩
set_option maxHeartbeats 1000000 in
theorem yZ (w:WS) (n:Int) (hn:xN n) (hw:w.s.length ≤ 1000000000):qp C1.P 24 [.op 0 0 0,.v (.int .i64 n)] [wR w] (.tup []) [wR (w.numR n)]:=by
 obtain ⟨h1,h2⟩:=hn
 by_cases hf:zA n = true
 ·have e:w.numR n = ⟨w.s,w.g,true⟩:=by unfold WS.numR;rw [if_pos hf]
  rw [e]
  unfold zA at hf
  simp only [Bool.or_eq_true,decide_eq_true_eq] at hf
  refine qe (C:=C1) Tryd.func24 rfl _ Tryd.ntmps24 (Nat.le_of_ble_eq_true rfl) _ Tryd.results24 1 rfl rfl ?_
  repeat' (first|refine qm ?_|fail|((first|(apply qb;rfl;rfl;exact nle rfl)|(apply qa;rfl;rfl;exact nle rfl)|refine xsC ?_ ?_);all_goals (intro hc;have hp:=hc;try simp at hp;try (exfalso;omega)))|refine jl ?_ ?_)
  all_goals try (exfalso;omega)
  all_goals ((apply qu (rs:=[]) [] 1;(case hr=>(repeat (first|exact qk|(apply ql;rfl)|(apply qi;rfl;rfl;rfl;rfl;rfl))));(case hL=>rfl);(case hh=>(refine yF (q:=0) rfl (qf rfl) rfl qg));(case hi=>exact rfl);(case hz=>first|rfl|(simp [jt,AV.ren,AV.ren.renL,qQ,qj,qK];done))))
 ·have e:w.numR n = ⟨w.s ++ jJ n,w.g,w.f⟩:=by unfold WS.numR;rw [if_neg hf]
  rw [e]
  unfold zA at hf
  simp only [Bool.or_eq_true,decide_eq_true_eq] at hf
  have c:=Ke n (by omega) (by omega)
  have hl:=Lib.itoa_length_le n (by omega) (by omega)
  unfold jJ
  refine qe (C:=C1) Tryd.func24 rfl _ Tryd.ntmps24 (Nat.le_of_ble_eq_true rfl) _ Tryd.results24 1 rfl rfl ?_
  repeat' (first|refine qm ?_|(first|refine xsF Tryd.func57 (c ..) ?_)|((first|(apply qb;rfl;rfl;exact nle rfl)|(apply qa;rfl;rfl;exact nle rfl)|refine xsC ?_ ?_);all_goals (intro hc;have hp:=hc;try simp at hp;try (exfalso;omega)))|refine jl ?_ ?_)
  all_goals try (exfalso;omega)
  all_goals ((apply qu (rs:=[]) [] 1;(case hr=>(repeat (first|exact qk|(apply ql;rfl)|(apply qi;rfl;rfl;rfl;rfl;rfl))));(case hL=>rfl);(case hh=>(refine yF (q:=0) rfl (qf rfl) rfl qg));(case hi=>exact rfl);(case hz=>first|rfl|(simp [jt,AV.ren,AV.ren.renL,qQ,qj,qK];done))))
end Go.Proofs.YtahbbnfmbohmmaaDoor
set_option linter.unusedSimpArgs false
set_option linter.unnecessarySimpa false
set_option linter.unusedVariables false
set_option maxHeartbeats 1000000
namespace Go.Proofs.YtahbbnfmbohmmaaDoor
open Go.Ab Go.RowKit
set_option maxRecDepth 10000
theorem ym (w:WS) {n:Int} (hn:xN n):(w.numR n).s.length ≤ w.s.length + 22:=by
 unfold WS.numR
 have:=yG hn
 split
 ·exact Nat.le_add_right _ _
 ·simp only [List.length_append];omega
theorem ye (w:WS) (t:qh):(w.txtR t).s.length ≤ w.s.length + 1022:=by
 unfold WS.txtR
 split
 ·exact Nat.le_add_right _ _
 ·have:=ym w (n:=t.length) ⟨by omega,by omega⟩
  simp only [List.length_append]
  omega
theorem Vw (w:WS) {c:Chg} (h:c.fit):(w.chgR c).s.length ≤ w.s.length + 3110:=by
 have h1:=ym w h.kind
 have h2:=ye (w.numR c.kind) c.path
 have h3:=ye ((w.numR c.kind).txtR c.path) c.to
 have h4:=ye (((w.numR c.kind).txtR c.path).txtR c.to) c.text
 have h5:=ym ((((w.numR c.kind).txtR c.path).txtR c.to).txtR c.text) h.base
 unfold WS.chgR
 omega
theorem XP (l:List Chg) : ∀ (w:WS),(∀ c,c ∈ l → c.fit) → (l.foldl WS.chgR w).s.length ≤ w.s.length + 3110 * l.length:=by
 induction l with
 | nil=>exact fun w _=>Nat.le_refl _
 | cons c l ih =>
   intro w h
   have h1:=Vw w (h c (by simp))
   have h2:=ih (w.chgR c) (fun x hx=>h x (by simp [hx]))
   simp only [List.length_cons,List.foldl_cons]
   omega
attribute [local irreducible] Awp jE qX qG Red qx Go.Ab.Fin qp Rz yI qE qB ResOk je qJ jx qy
set_option maxHeartbeats 1000000 in
theorem vS (w:WS) (t:qh) (ht:t.length ≤ 1000000000) (hw:w.s.length ≤ 900000000):qp C1.P 25 [.op 0 0 0,.v (str t)] [wR w] (.tup []) [wR (w.txtR t)]:=by
 by_cases h:1000 < t.length
 ·have e:w.txtR t = ⟨w.s,true,w.f⟩:=by unfold WS.txtR;rw [if_pos h]
  rw [e]
  refine qe (C:=C1) Tryd.func25 rfl _ Tryd.ntmps25 (Nat.le_of_ble_eq_true rfl) _ Tryd.results25 1 rfl rfl ?_
  repeat' (first|refine qm ?_|fail|((first|(apply qb;rfl;rfl;exact nle rfl)|(apply qa;rfl;rfl;exact nle rfl)|refine xsC ?_ ?_);all_goals (intro hc;have hp:=hc;try simp at hp;try (exfalso;omega)))|refine jl ?_ ?_)
  all_goals try (exfalso;omega)
  all_goals ((apply qu (rs:=[]) [] 1;(case hr=>(repeat (first|exact qk|(apply ql;rfl)|(apply qi;rfl;rfl;rfl;rfl;rfl))));(case hL=>rfl);(case hh=>(refine yF (q:=0) rfl (qf rfl) rfl qg));(case hi=>exact rfl);(case hz=>first|rfl|(simp [jt,AV.ren,AV.ren.renL,qQ,qj,qK];done))))
 ·have e:w.txtR t = ⟨(w.numR t.length).s ++ t,(w.numR t.length).g,(w.numR t.length).f⟩:=by unfold WS.txtR;rw [if_neg h]
  rw [e]
  have hI:xN (t.length:Int):=⟨by omega,by omega⟩
  have c:=yZ w t.length hI (by omega)
  have hl:=ym w hI
  generalize w.numR t.length = v at *
  refine qe (C:=C1) Tryd.func25 rfl _ Tryd.ntmps25 (Nat.le_of_ble_eq_true rfl) _ Tryd.results25 1 rfl rfl ?_
  repeat' (first|refine qm ?_|(first|(apply qc Tryd.func24 rfl rfl;intro hIsFn;refine qD 0 hIsFn (c) rfl ?_))|((first|(apply qb;rfl;rfl;exact nle rfl)|(apply qa;rfl;rfl;exact nle rfl)|refine xsC ?_ ?_);all_goals (intro hc;have hp:=hc;try simp at hp;try (exfalso;omega)))|refine jl ?_ ?_)
  all_goals try (exfalso;omega)
  all_goals ((apply qu (rs:=[]) [] 1;(case hr=>(repeat (first|exact qk|(apply ql;rfl)|(apply qi;rfl;rfl;rfl;rfl;rfl))));(case hL=>rfl);(case hh=>(refine yF (q:=0) rfl (qf rfl) rfl qg));(case hi=>exact rfl);(case hz=>first|rfl|(simp [jt,AV.ren,AV.ren.renL,qQ,qj,qK];done))))
theorem KJ (w:WS):qp C1.P 27 [.op 0 0 0] [wR w] (.tup [.v (str w.done.1),.v (.int .i64 w.done.2)]) [wR w]:=by
 obtain ⟨s,g,f⟩:=w
 unfold WS.done
 cases g with
 | true =>
   refine qe (C:=C1) Tryd.func27 rfl _ Tryd.ntmps27 (Nat.le_of_ble_eq_true rfl) _ Tryd.results27 1 rfl rfl ?_
   repeat' (first|refine qm ?_|fail|((first|(apply qb;rfl;rfl;exact nle rfl)|(apply qa;rfl;rfl;exact nle rfl)|refine xsC ?_ ?_);all_goals (intro hc;have hp:=hc;try simp at hp;try (exfalso;omega)))|refine jl ?_ ?_)
   all_goals ((apply qu (rs:=[.tmp 2,.tmp 3]) [] 1;(case hr=>(repeat (first|exact qk|(apply ql;rfl)|(apply qi;rfl;rfl;rfl;rfl;rfl))));(case hL=>rfl);(case hh=>(refine yF (q:=0) rfl (qf rfl) rfl qg));(case hi=>exact rfl);(case hz=>first|rfl|(simp [jt,AV.ren,AV.ren.renL,qQ,qj,qK];done))))
 | false =>
   cases f with
   | true =>
     refine qe (C:=C1) Tryd.func27 rfl _ Tryd.ntmps27 (Nat.le_of_ble_eq_true rfl) _ Tryd.results27 1 rfl rfl ?_
     repeat' (first|refine qm ?_|fail|((first|(apply qb;rfl;rfl;exact nle rfl)|(apply qa;rfl;rfl;exact nle rfl)|refine xsC ?_ ?_);all_goals (intro hc;have hp:=hc;try simp at hp;try (exfalso;omega)))|refine jl ?_ ?_)
     all_goals ((apply qu (rs:=[.tmp 2,.tmp 3]) [] 1;(case hr=>(repeat (first|exact qk|(apply ql;rfl)|(apply qi;rfl;rfl;rfl;rfl;rfl))));(case hL=>rfl);(case hh=>(refine yF (q:=0) rfl (qf rfl) rfl qg));(case hi=>exact rfl);(case hz=>first|rfl|(simp [jt,AV.ren,AV.ren.renL,qQ,qj,qK];done))))
   | false =>
     refine qe (C:=C1) Tryd.func27 rfl _ Tryd.ntmps27 (Nat.le_of_ble_eq_true rfl) _ Tryd.results27 1 rfl rfl ?_
     repeat' (first|refine qm ?_|fail|((first|(apply qb;rfl;rfl;exact nle rfl)|(apply qa;rfl;rfl;exact nle rfl)|refine xsC ?_ ?_);all_goals (intro hc;have hp:=hc;try simp at hp;try (exfalso;omega)))|refine jl ?_ ?_)
     all_goals ((apply qu (rs:=[.tmp 2,.tmp 3]) [] 1;(case hr=>(repeat (first|exact qk|(apply ql;rfl)|(apply qi;rfl;rfl;rfl;rfl;rfl))));(case hL=>rfl);(case hh=>(refine yF (q:=0) rfl (qf rfl) rfl qg));(case hi=>exact rfl);(case hz=>first|rfl|(simp [jt,AV.ren,AV.ren.renL,qQ,qj,qK];done))))
set_option maxHeartbeats 4000000 in
theorem X3 (w:WS) (l:List Chg) (hl:l.length ≤ 1000000000) (hfit : ∀ c,c ∈ l → c.fit) (hw:w.s.length ≤ 800000000):qp C1.P 26 [.op 0 0 0,jz l] [wR w] (.tup []) [wR (w.chgsR l)]:=by
 have hml:(l.map Chg.row).length = l.length:=List.length_map ..
 by_cases h:20 < l.length
 ·have e:w.chgsR l = ⟨w.s,true,w.f⟩:=by unfold WS.chgsR;rw [if_pos h]
  rw [e]
  unfold jz
  refine qe (C:=C1) Tryd.func26 rfl _ Tryd.ntmps26 (Nat.le_of_ble_eq_true rfl) _ Tryd.results26 1 rfl rfl ?_
  repeat' (first|refine qm ?_|fail|((first|(apply qb;rfl;rfl;exact nle rfl)|(apply qa;rfl;rfl;exact nle rfl)|refine xsC ?_ ?_);all_goals (intro hc;have hp:=hc;try simp at hp;try (exfalso;omega)))|refine jl ?_ ?_)
  all_goals try (exfalso;omega)
  all_goals ((apply qu (rs:=[]) [] 1;(case hr=>(repeat (first|exact qk|(apply ql;rfl)|(apply qi;rfl;rfl;rfl;rfl;rfl))));(case hL=>rfl);(case hh=>(refine yF (q:=0) rfl (qf rfl) rfl qg));(case hi=>exact rfl);(case hz=>first|rfl|(simp [jt,AV.ren,AV.ren.renL,qQ,qj,qK];done))))
 ·have e:w.chgsR l = l.foldl WS.chgR (w.numR l.length):=by unfold WS.chgsR;rw [if_neg h]
  rw [e]
  have hI:xN (l.length:Int):=⟨by omega,by omega⟩
  have c:=yZ w l.length hI (by omega)
  rw [← hml] at c
  have hwl:=ym w hI
  unfold jz
  generalize hv:w.numR l.length = v at *
  refine qe (C:=C1) Tryd.func26 rfl _ Tryd.ntmps26 (Nat.le_of_ble_eq_true rfl) _ Tryd.results26 1 rfl rfl ?_
  repeat' (first|refine qm ?_|(first|(apply qc Tryd.func24 rfl rfl;intro hIsFn;refine qD 0 hIsFn (c) rfl ?_))|((first|(apply qb;rfl;rfl;exact nle rfl)|(apply qa;rfl;rfl;exact nle rfl)|refine xsC ?_ ?_);all_goals (intro hc;have hp:=hc;try simp at hp;try (exfalso;omega)))|refine jl ?_ ?_)
  all_goals try (exfalso;omega)
  (refine Awp.red (qH (τ:=⟨[(0,.op 0 0 0),(1,.sl false (l.map Chg.row)),(4,.v (.int .i64 ((0:Nat):Int)))],[(0,wR v)],1⟩) [] rfl ?gts2 ?ghs2) ?_;(case gts2=>(repeat (first|exact qt|refine qV ?_|refine yh ?_|refine jG ?_|refine yn ?_|refine jH ?_ ?_|refine j8 ?_ ?_));all_goals rfl);(case ghs2=>(refine yF (q:=0) rfl (qf rfl) (by rw [hml];exact hv) qg)))
  refine ya (fun n σ => ∃ i:Nat,i ≤ l.length ∧ n = l.length - i ∧ σ = ⟨[(0,.op 0 0 0),(1,.sl false (l.map Chg.row)),(4,.v (.int .i64 (i:Int)))],[(0,wR ((l.take i).foldl WS.chgR v))],1⟩) l.length ⟨0,Nat.zero_le _,rfl,rfl⟩ ?_
  rintro n σ ⟨i,hi,rfl,rfl⟩
  have hb:=XP (l.take i) v (fun c hx=>hfit c (List.mem_of_mem_take hx))
  have hti:(l.take i).length ≤ 20:=by rw [List.length_take];omega
  by_cases hlt:i < l.length
  ·have vK:(l.map Chg.row)[i]? = some (l[i].row):=by rw [List.getElem?_map,List.getElem?_eq_getElem hlt];rfl
   have hfold:(l.take (i + 1)).foldl WS.chgR v = ((l.take i).foldl WS.chgR v).chgR l[i]:=by
    rw [List.take_succ_eq_append_getElem hlt,List.foldl_append];rfl
   have hf:=hfit l[i] (List.getElem_mem hlt)
   generalize (l.take i).foldl WS.chgR v = u at *
   generalize l[i] = x at *
   have hul:u.s.length ≤ 800070000:=by omega
   obtain ⟨x1,x2,x3,x4,x5⟩:=hf
   have l1:=ym u x1
   have l2:=ye (u.numR x.kind) x.path
   have l3:=ye ((u.numR x.kind).txtR x.path) x.to
   have l4:=ye (((u.numR x.kind).txtR x.path).txtR x.to) x.text
   have c1:=yZ u x.kind x1 (by omega)
   have c2:=vS (u.numR x.kind) x.path x2 (by omega)
   have c3:=vS ((u.numR x.kind).txtR x.path) x.to x3 (by omega)
   have c4:=vS (((u.numR x.kind).txtR x.path).txtR x.to) x.text x4 (by omega)
   have c5:=yZ ((((u.numR x.kind).txtR x.path).txtR x.to).txtR x.text) x.base x5 (by omega)
   unfold WS.chgR at hfold
   generalize ((((u.numR x.kind).txtR x.path).txtR x.to).txtR x.text).numR x.base = u5 at *
   generalize (((u.numR x.kind).txtR x.path).txtR x.to).txtR x.text = u4 at *
   generalize ((u.numR x.kind).txtR x.path).txtR x.to = u3 at *
   generalize (u.numR x.kind).txtR x.path = u2 at *
   generalize u.numR x.kind = u1 at *
   unfold Chg.row at vK
   clear l1 l2 l3 l4 hb hti hul e hw hwl c
   repeat' (first|refine qm ?_|(first|(apply qc Tryd.func24 rfl rfl;intro hIsFn;refine qD 0 hIsFn (c1) rfl ?_)|(apply qc Tryd.func25 rfl rfl;intro hIsFn;refine qD 0 hIsFn (c2) rfl ?_)|(apply qc Tryd.func25 rfl rfl;intro hIsFn;refine qD 0 hIsFn (c3) rfl ?_)|(apply qc Tryd.func25 rfl rfl;intro hIsFn;refine qD 0 hIsFn (c4) rfl ?_)|(apply qc Tryd.func24 rfl rfl;intro hIsFn;refine qD 0 hIsFn (c5) rfl ?_))|((first|(apply qb;rfl;rfl;exact nle rfl)|(apply qa;rfl;rfl;exact nle rfl)|refine xsC ?_ ?_);all_goals (intro hc;have hp:=hc;try simp at hp;try (exfalso;omega)))|refine jl ?_ ?_)
   all_goals try (exfalso;omega)
   all_goals (refine ⟨l.length - (i + 1),⟨[(0,.op 0 0 0),(1,.sl false (l.map Chg.row)),(4,.v (.int .i64 ((i + 1:Nat):Int)))],[(0,wR ((l.take (i + 1)).foldl WS.chgR v))],1⟩,by omega,?_,⟨i + 1,by omega,rfl,rfl⟩⟩;refine qH [] rfl ?gts ?ghs;(case gts=>(repeat (first|exact qt|refine qV ?_|refine yh ?_|refine jG ?_|refine yn ?_|refine jH ?_ ?_|refine j8 ?_ ?_));all_goals first|rfl|(simp;omega));(case ghs=>(refine yF (q:=0) rfl (qf rfl) hfold.symm qg)))
  ·obtain rfl:i = l.length:=by omega
   rw [List.take_length] at *
   generalize l.foldl WS.chgR v = u at *
   repeat' (first|refine qm ?_|fail|((first|(apply qb;rfl;rfl;exact nle rfl)|(apply qa;rfl;rfl;exact nle rfl)|refine xsC ?_ ?_);all_goals (intro hc;have hp:=hc;try simp at hp;try (exfalso;omega)))|refine jl ?_ ?_)
   all_goals try (exfalso;omega)
   all_goals ((apply qu (rs:=[]) [] 1;(case hr=>(repeat (first|exact qk|(apply ql;rfl)|(apply qi;rfl;rfl;rfl;rfl;rfl))));(case hL=>rfl);(case hh=>(refine yF (q:=0) rfl (qf rfl) rfl qg));(case hi=>exact rfl);(case hz=>first|rfl|(simp [jt,AV.ren,AV.ren.renL,qQ,qj,qK];done))))
end Go.Proofs.YtahbbnfmbohmmaaDoor
set_option linter.unusedSimpArgs false
set_option linter.unnecessarySimpa false
set_option linter.unusedVariables false
set_option maxHeartbeats 1000000
namespace Go.Proofs.YtahbbnfmbohmmaaDoor
open Go.Ab Go.RowKit
set_option maxRecDepth 10000
def rq0:Rqt:=⟨2,[97],[102],[],[],[],0,0,0,[]⟩
def Wt:qh:=[50,59,49,59,97,49,59,102,48,59,48,59,48,59,48,59,48,59,48,59,48,59]
theorem KY:vv rq0 = (Wt,0):=by
 simp [vv,WS.rqt,WS.nums,WS.num,WS.txts,WS.txt,WS.chgs,WS.lst,WS.done,zA,jJ,xM,Lib.itoa,K0,ws0,rq0,Wt]
theorem Z1:rq0.fit:=⟨⟨by decide,by decide⟩,by decide,by decide,by decide,by decide,by decide,wG,wG,wG,(fun c h=>by cases h),by decide⟩
attribute [local irreducible] Awp jE qX qG Red qx Go.Ab.Fin qp Rz yI qE qB ResOk je qJ jx qy
set_option maxHeartbeats 4000000 in
theorem Zu (r:Rqt) (h:r.fit):kg C.P 9 [.agg r.row] (.tup [.v (str (vv r).1),.v (.int .i64 (vv r).2)]):=by
 rw [← zK]
 obtain ⟨q1,q2,q3,q4,q5,q6,q7,q8,q9,q10⟩:=r
 obtain ⟨h1,h2,h3,h4,h5,h6,h7,h8,h9,h10,h11⟩:=h
 dsimp only at *
 unfold Y3 WS.rqtR Rqt.row
 dsimp only
 have c1:=yZ ws0 q1 h1 (by decide)
 have l1:=ym ws0 h1
 have l0:ws0.s.length = 0:=rfl
 unfold ws0 at c1
 generalize hw0:ws0 = w0 at *
 have c2:=vS (w0.numR q1) q2 h2 (by omega)
 have l2:=ye (w0.numR q1) q2
 generalize hw1:w0.numR q1 = w1 at *
 have c3:=vS (w1.txtR q2) q3 h3 (by omega)
 have l3:=ye (w1.txtR q2) q3
 generalize w1.txtR q2 = w2 at *
 have c4:=vS (w2.txtR q3) q4 h4 (by omega)
 have l4:=ye (w2.txtR q3) q4
 generalize w2.txtR q3 = w3 at *
 have c5:=vS (w3.txtR q4) q5 h5 (by omega)
 have l5:=ye (w3.txtR q4) q5
 generalize w3.txtR q4 = w4 at *
 have c6:=vS (w4.txtR q5) q6 h6 (by omega)
 have l6:=ye (w4.txtR q5) q6
 generalize w4.txtR q5 = w5 at *
 have c7:=yZ (w5.txtR q6) q7 h7 (by omega)
 have l7:=ym (w5.txtR q6) h7
 generalize w5.txtR q6 = w6 at *
 have c8:=yZ (w6.numR q7) q8 h8 (by omega)
 have l8:=ym (w6.numR q7) h8
 generalize w6.numR q7 = w7 at *
 have c9:=yZ (w7.numR q8) q9 h9 (by omega)
 have l9:=ym (w7.numR q8) h9
 generalize w7.numR q8 = w8 at *
 have c10:=X3 (w8.numR q9) q10 h11 h10 (by omega)
 generalize w8.numR q9 = w9 at *
 have c11:=KJ (w9.chgsR q10)
 generalize w9.chgsR q10 = w10 at *
 clear l0 l1 l2 l3 l4 l5 l6 l7 l8 l9
 subst hw0
 have e1:(WS.mk [] false false).numR q1 = w1:=hw1
 rw [e1] at c1
 clear hw1 e1
 refine qe Tryd.func9 rfl _ Tryd.ntmps9 (Nat.le_of_ble_eq_true rfl) _ Tryd.results9 0 rfl rfl ?_
 repeat' (first|refine qm ?_|(first|(apply qc Tryd.func24 rfl rfl;intro hIsFn;refine qD 1 hIsFn (c1) rfl ?_)|(apply qc Tryd.func25 rfl rfl;intro hIsFn;refine qD 1 hIsFn (c2) rfl ?_)|(apply qc Tryd.func25 rfl rfl;intro hIsFn;refine qD 1 hIsFn (c3) rfl ?_)|(apply qc Tryd.func25 rfl rfl;intro hIsFn;refine qD 1 hIsFn (c4) rfl ?_)|(apply qc Tryd.func25 rfl rfl;intro hIsFn;refine qD 1 hIsFn (c5) rfl ?_)|(apply qc Tryd.func25 rfl rfl;intro hIsFn;refine qD 1 hIsFn (c6) rfl ?_)|(apply qc Tryd.func24 rfl rfl;intro hIsFn;refine qD 1 hIsFn (c7) rfl ?_)|(apply qc Tryd.func24 rfl rfl;intro hIsFn;refine qD 1 hIsFn (c8) rfl ?_)|(apply qc Tryd.func24 rfl rfl;intro hIsFn;refine qD 1 hIsFn (c9) rfl ?_)|(apply qc Tryd.func26 rfl rfl;intro hIsFn;refine qD 1 hIsFn (c10) rfl ?_)|(apply qc Tryd.func27 rfl rfl;intro hIsFn;refine qD 1 hIsFn (c11) rfl ?_))|((first|refine xsC ?_ ?_);all_goals (intro hc;have hp:=hc;try simp at hp;try (exfalso;omega)))|refine jl ?_ ?_)
 all_goals ((refine yb (rs:=[.tmp 2,.tmp 3]) ?_;(repeat' (first|exact jB|apply jm|exact jb rfl|exact yr|exact vB|apply jU|apply j7|apply jV|apply j5|apply jM|apply j6|refine vA ?_|apply yJ));all_goals rfl))
theorem Vm:kg C.P 10 [] (.v (.bool true)):=by
 have c1:=Vj rq0 Z1
 rw [KY] at c1
 have c2:=YX Wt (by decide)
 rw [XC KY] at c2
 unfold rq0 Wt Rqt.row jz at c1 c2
 dsimp only [List.map_nil] at c1 c2
 refine qe Tryd.func10 rfl _ Tryd.ntmps10 (Nat.le_of_ble_eq_true rfl) _ Tryd.results10 0 rfl rfl ?_
 repeat' (first|(first|refine xsF Tryd.func8 (c1 ..) ?_|refine xsQ Tryd.func12 (c2 ..) ?_|(apply qo;apply (xW (cs:=[.v (.int .i64 2),.v (str [97]),.v (str [102]),.v (str []),.v (str []),.v (str []),.v (.int .i64 0),.v (.int .i64 0),.v (.int .i64 0),.sl true []]));rfl;rfl;rfl;kernel_rfl;exact nle rfl))|refine qm ?_|((first|(apply qb;rfl;rfl;exact nle rfl)|(apply qa;rfl;rfl;exact nle rfl)|refine xsC ?_ ?_);all_goals (intro hc;have hp:=hc;try simp at hp;try (exfalso;omega)))|refine jl ?_ ?_)
 all_goals ((refine yb (rs:=[.tmp 0]) ?_;(repeat' (first|exact jB|apply jm|exact jb rfl|exact yr|exact vB|apply jU|apply j7|apply jV|apply j5|apply jM|apply j6|refine vA ?_|apply yJ));all_goals rfl))
end Go.Proofs.YtahbbnfmbohmmaaDoor
set_option linter.unusedSimpArgs false
set_option linter.unnecessarySimpa false
set_option linter.unusedVariables false
set_option maxHeartbeats 1000000
namespace Go.Proofs.YtahbbnfmbohmmaaDoor
open Go.Ab Go.RowKit
set_option maxRecDepth 10000
theorem XL {s:qh} {j n:Nat} (h:j < s.length) (h1:48 ≤ s[j].toNat) (h2:s[j].toNat ≤ 57) (h3:n < 1125899906842624):yv (s.drop j) n = ((yv (s.drop (j + 1)) (10 * n + (s[j].toNat - 48))).1,(yv (s.drop (j + 1)) (10 * n + (s[j].toNat - 48))).2 + 1):=by
 rw [List.drop_eq_getElem_cons h]
 conv=>lhs;unfold yv
 rw [if_pos ⟨h1,h2,h3⟩]
theorem XM {s:qh} {j n:Nat} (h : ∀ hj:j < s.length, ¬ (48 ≤ s[j].toNat ∧ s[j].toNat ≤ 57 ∧ n < 1125899906842624)):yv (s.drop j) n = (n,0):=by
 by_cases hj:j < s.length
 ·rw [List.drop_eq_getElem_cons hj]
  unfold yv
  rw [if_neg (h hj)]
 ·rw [List.drop_eq_nil_of_le (by omega)]
  rfl
theorem JC : ∀ (s:qh) (n:Nat),(yv s n).2 ≤ s.length
 | [],n=>Nat.le_refl _
 | c :: r,n=>by
   unfold yv
   split
   ·have:=JC r (10 * n + (c.toNat - 48))
    simp only [List.length_cons]
    omega
   ·exact Nat.zero_le _
def xf (s:qh) (a:Nat) (b:Bool) (E:Nat) (v:Int):Int × Nat × Bool:=if b = true ∨ s[E]? ≠ some 59 ∨ (s.take E).drop a ≠ Lib.itoa v then (0,E,true) else (v,E + 1,false)
theorem V0 (s:qh) (a:Nat) (b:Bool):yQ ⟨s.drop a,b⟩ = ((xf s a b (a + vy (s.drop a)) (zI (s.drop a))).1,⟨s.drop (xf s a b (a + vy (s.drop a)) (zI (s.drop a))).2.1,(xf s a b (a + vy (s.drop a)) (zI (s.drop a))).2.2⟩):=by
 unfold yQ xf
 simp only [List.getElem?_drop,List.drop_drop]
 have e:(s.take (a + vy (s.drop a))).drop a = (s.drop a).take (vy (s.drop a)):=by
  rw [List.drop_take]
  congr 1
  omega
 rw [e]
 by_cases hc:b = true ∨ s[a + vy (s.drop a)]? ≠ some 59 ∨ (s.drop a).take (vy (s.drop a)) ≠ Lib.itoa (zI (s.drop a))
 ·rw [if_pos hc,if_pos hc]
 ·rw [if_neg hc,if_neg hc]
  rfl
noncomputable def tlW:Nat → Code → Code
 | 0,c=>c
 | n + 1,.seq _ b=>tlW n b
 | _,c=>c
noncomputable def KA:Code → Code
 | .seq a _=>a
 | c=>c
noncomputable def jA:Code:=match Tryd.f33.body with|some c=>c|none => .skip
@[reducible] def xT (s:qh) (a:Nat) (b:Bool):HB := .own true 3 [[.v (str s),.v (.int .i64 (a:Int)),.v (.bool b)]]
theorem jn {L:List (Nat × Nat)} {nh:Nat} {σ:St} {q q' a' : Nat} {s' : qh} {b' : Bool} {rest:List (Nat × HB)} {x:List AV} (hq:qn σ.hs q = .own true 3 [x]) (h1:Maps L nh q q') (hx:x = [.v (str s'),.v (.int .i64 (a' : Int)),.v (.bool b')]) (hr:jN L nh σ rest):jN L nh σ ((q',xT s' a' b') :: rest):=by
 subst hx
 exact ⟨⟨q,h1,by rw [hq];exact ja (qP rfl)⟩,hr⟩
attribute [local irreducible] Awp jE qX qG Red qx Go.Ab.Fin qp Rz yI qE qB ResOk je qJ jx qy
theorem Wa:tlW 6 jA = .seq (KA (tlW 6 jA)) (tlW 7 jA):=by kernel_rfl
theorem K9:tlW 5 jA = .seq (KA (tlW 5 jA)) (tlW 6 jA):=by kernel_rfl
set_option maxHeartbeats 4000000 in
theorem KH (s:qh) (hs:s.length ≤ 1000000000) (a E:Nat) (haE:a ≤ E) (hE:E ≤ s.length) (b:Bool) (v:Int) (h1 : -12000000000000000 ≤ v) (h2:v ≤ 12000000000000000) :
  Awp C1 156 (tlW 7 jA) (ZI C1 #[ResultVar.tmp 2] 1 (.v (.int .i64 (xf s a b E v).1)) [xT s (xf s a b E v).2.1 (xf s a b E v).2.2]) ⟨[(0,.op 0 0 0),(3,.v (.int .i64 (a:Int))),(5,.v (.int .i64 v))],[(0,xT s E b)],1⟩:=by
 have cd:=Ke v (by omega) (by omega)
 by_cases hb:b = true
 ·rw [show xf s a b E v = (0,E,true) from if_pos (.inl hb)]
  subst hb
  conv=>arg 3;whnf
  repeat' (first|refine qm ?_|(first|refine xsF Tryd.func57 (cd ..) ?_)|((first|(apply qb;rfl;rfl;exact nle rfl)|(apply qa;rfl;rfl;exact nle rfl)|refine xsC ?_ ?_);all_goals (intro hc;have hp:=hc;try simp at hp;try (exfalso;omega)))|refine jl ?_ ?_)
  all_goals try (exfalso;omega)
  all_goals ((apply qu (rs:=[.tmp 2]) [] 1;(case hr=>(repeat (first|exact qk|(apply ql;rfl)|(apply qi;rfl;rfl;rfl;rfl;rfl))));(case hL=>rfl);(case hh=>(refine jn (q:=0) rfl (qf rfl) rfl qg));(case hi=>exact rfl);(case hz=>first|rfl|(simp [jt,AV.ren,AV.ren.renL,qQ,qj,qK];done))))
 ·obtain rfl:b = false:=by simpa using hb
  by_cases hE2:E < s.length
  ·have hc59:s[E]? = some s[E]:=List.getElem?_eq_getElem hE2
   generalize s[E] = c at *
   by_cases hcc:c.toNat = 59
   ·have hc' : c = 59:=UInt8.toNat_inj.1 hcc
    by_cases hq:(s.take E).drop a = Lib.itoa v
    ·rw [show xf s a false E v = (v,E + 1,false) from if_neg (by rw [hc59,hc',hq];simp)]
     have heq:(!decide (List.drop a (List.take E s) = Lib.itoa v)) = false:=by simp [hq]
     conv=>arg 3;whnf
     clear hc' hq
     repeat' (first|refine qm ?_|(first|refine xsF Tryd.func57 (cd ..) ?_|(apply qo;apply xn (a:=a) (b:=E);(case hx=>rfl);(case hT=>rfl);(case he=>rfl);(case ha=>(exact ⟨_,rfl⟩));(case hb=>(exact ⟨_,rfl⟩));(case hab=>(first|omega|(simp;done)|(simp only [List.length_cons,List.length_nil,List.length_map];omega)|(simp;omega)));(case hbl=>omega);(case hN=>exact nle rfl))|(apply qo;apply ju (i:=E);(case hx=>rfl);(case hy=>exact xe (by omega));(case hT=>rfl);(case he=>rfl);(case hc=>exact hc59);(case hN=>exact nle rfl)))|((first|(apply qb;rfl;rfl;exact nle rfl)|(apply qa;rfl;rfl;exact nle rfl)|refine xsC ?_ ?_);all_goals (intro hc;have hp:=hc;try simp at hp;try (exfalso;omega)))|refine jl ?_ ?_)
     all_goals try (exfalso;omega)
     all_goals ((apply qu (rs:=[.tmp 2]) [] 1;(case hr=>(repeat (first|exact qk|(apply ql;rfl)|(apply qi;rfl;rfl;rfl;rfl;rfl))));(case hL=>rfl);(case hh=>(refine jn (q:=0) rfl (qf rfl) rfl qg));(case hi=>exact rfl);(case hz=>first|rfl|(simp [jt,AV.ren,AV.ren.renL,qQ,qj,qK];done))))
    ·rw [show xf s a false E v = (0,E,true) from if_pos (.inr (.inr hq))]
     have heq:(!decide (List.drop a (List.take E s) = Lib.itoa v)) = true:=by simp [hq]
     conv=>arg 3;whnf
     clear hc' hq
     repeat' (first|refine qm ?_|(first|refine xsF Tryd.func57 (cd ..) ?_|(apply qo;apply xn (a:=a) (b:=E);(case hx=>rfl);(case hT=>rfl);(case he=>rfl);(case ha=>(exact ⟨_,rfl⟩));(case hb=>(exact ⟨_,rfl⟩));(case hab=>(first|omega|(simp;done)|(simp only [List.length_cons,List.length_nil,List.length_map];omega)|(simp;omega)));(case hbl=>omega);(case hN=>exact nle rfl))|(apply qo;apply ju (i:=E);(case hx=>rfl);(case hy=>exact xe (by omega));(case hT=>rfl);(case he=>rfl);(case hc=>exact hc59);(case hN=>exact nle rfl)))|((first|(apply qb;rfl;rfl;exact nle rfl)|(apply qa;rfl;rfl;exact nle rfl)|refine xsC ?_ ?_);all_goals (intro hc;have hp:=hc;try simp at hp;try (exfalso;omega)))|refine jl ?_ ?_)
     all_goals try (exfalso;omega)
     all_goals ((apply qu (rs:=[.tmp 2]) [] 1;(case hr=>(repeat (first|exact qk|(apply ql;rfl)|(apply qi;rfl;rfl;rfl;rfl;rfl))));(case hL=>rfl);(case hh=>(refine jn (q:=0) rfl (qf rfl) rfl qg));(case hi=>exact rfl);(case hz=>first|rfl|(simp [jt,AV.ren,AV.ren.renL,qQ,qj,qK];done))))
   ·rw [show xf s a false E v = (0,E,true) from if_pos (.inr (.inl (by rw [hc59];intro h;injection h with h;subst h;exact hcc rfl)))]
    conv=>arg 3;whnf
    repeat' (first|refine qm ?_|(first|refine xsF Tryd.func57 (cd ..) ?_|(apply qo;apply ju (i:=E);(case hx=>rfl);(case hy=>exact xe (by omega));(case hT=>rfl);(case he=>rfl);(case hc=>exact hc59);(case hN=>exact nle rfl)))|((first|(apply qb;rfl;rfl;exact nle rfl)|(apply qa;rfl;rfl;exact nle rfl)|refine xsC ?_ ?_);all_goals (intro hc;have hp:=hc;try simp at hp;try (exfalso;omega)))|refine jl ?_ ?_)
    all_goals try (exfalso;omega)
    all_goals ((apply qu (rs:=[.tmp 2]) [] 1;(case hr=>(repeat (first|exact qk|(apply ql;rfl)|(apply qi;rfl;rfl;rfl;rfl;rfl))));(case hL=>rfl);(case hh=>(refine jn (q:=0) rfl (qf rfl) rfl qg));(case hi=>exact rfl);(case hz=>first|rfl|(simp [jt,AV.ren,AV.ren.renL,qQ,qj,qK];done))))
  ·rw [show xf s a false E v = (0,E,true) from if_pos (.inr (.inl (by rw [List.getElem?_eq_none (by omega)];simp)))]
   conv=>arg 3;whnf
   repeat' (first|refine qm ?_|(first|refine xsF Tryd.func57 (cd ..) ?_)|((first|(apply qb;rfl;rfl;exact nle rfl)|(apply qa;rfl;rfl;exact nle rfl)|refine xsC ?_ ?_);all_goals (intro hc;have hp:=hc;try simp at hp;try (exfalso;omega)))|refine jl ?_ ?_)
   all_goals try (exfalso;omega)
   all_goals ((apply qu (rs:=[.tmp 2]) [] 1;(case hr=>(repeat (first|exact qk|(apply ql;rfl)|(apply qi;rfl;rfl;rfl;rfl;rfl))));(case hL=>rfl);(case hh=>(refine jn (q:=0) rfl (qf rfl) rfl qg));(case hi=>exact rfl);(case hz=>first|rfl|(simp [jt,AV.ren,AV.ren.renL,qQ,qj,qK];done))))
set_option maxHeartbeats 4000000 in
theorem K5 (s:qh) (hs:s.length ≤ 1000000000) (a E:Nat) (haE:a ≤ E) (hE:E ≤ s.length) (b neg:Bool) (n:Nat) (hn:n ≤ 12000000000000000) (v:Int) (hv:v = if neg = true then -(n:Int) else (n:Int)) :
  Awp C1 156 (tlW 6 jA) (ZI C1 #[ResultVar.tmp 2] 1 (.v (.int .i64 (xf s a b E v).1)) [xT s (xf s a b E v).2.1 (xf s a b E v).2.2]) ⟨[(0,.op 0 0 0),(3,.v (.int .i64 (a:Int))),(4,.v (.bool neg)),(5,.v (.int .i64 (n:Int)))],[(0,xT s E b)],1⟩:=by
 have ht:=KH s hs a E haE hE b v (by rw [hv];split<;>omega) (by rw [hv];split<;>omega)
 rw [Wa]
 generalize tlW 7 jA = T at *
 conv=>arg 3;arg 1;whnf
 cases neg with
 | true =>
   rw [if_pos rfl] at hv
   subst hv
   repeat' (first|refine qm ?_|(first|(apply qo;apply VG;rfl;omega;omega;exact nle rfl))|((first|(apply qb;rfl;rfl;exact nle rfl)|(apply qa;rfl;rfl;exact nle rfl)|refine xsC ?_ ?_);all_goals (intro hc;have hp:=hc;try simp at hp;try (exfalso;omega)))|refine jl ?_ ?_)
   (refine Awp.red (qH (τ:=⟨[(0,.op 0 0 0),(3,.v (.int .i64 (a:Int))),(5,.v (.int .i64 (-(n:Int))))],[(0,xT s E b)],1⟩) [] rfl ?gts2 ?ghs2) ?_;(case gts2=>(repeat (first|exact qt|refine qV ?_|refine yh ?_|refine jG ?_|refine yn ?_|refine jH ?_ ?_|refine j8 ?_ ?_));all_goals rfl);(case ghs2=>(refine jn (q:=0) rfl (qf rfl) rfl qg)))
   exact ht
 | false =>
   rw [if_neg (by decide)] at hv
   subst hv
   repeat' (first|refine qm ?_|fail|((first|(apply qb;rfl;rfl;exact nle rfl)|(apply qa;rfl;rfl;exact nle rfl)|refine xsC ?_ ?_);all_goals (intro hc;have hp:=hc;try simp at hp;try (exfalso;omega)))|refine jl ?_ ?_)
   (refine Awp.red (qH (τ:=⟨[(0,.op 0 0 0),(3,.v (.int .i64 (a:Int))),(5,.v (.int .i64 (n:Int)))],[(0,xT s E b)],1⟩) [] rfl ?gts2 ?ghs2) ?_;(case gts2=>(repeat (first|exact qt|refine qV ?_|refine yh ?_|refine jG ?_|refine yn ?_|refine jH ?_ ?_|refine j8 ?_ ?_));all_goals rfl);(case ghs2=>(refine jn (q:=0) rfl (qf rfl) rfl qg)))
   exact ht
set_option maxHeartbeats 4000000 in
theorem KG (s:qh) (hs:s.length ≤ 1000000000) (a j0 E N:Nat) (haj:a ≤ j0) (hjE:j0 ≤ E) (hE:E ≤ s.length) (b neg:Bool) (hd:yv (s.drop j0) 0 = (N,E - j0)) :
  Awp C1 156 (tlW 5 jA) (ZI C1 #[ResultVar.tmp 2] 1 (.v (.int .i64 (xf s a b E (if neg = true then -(N:Int) else (N:Int))).1)) [xT s (xf s a b E (if neg = true then -(N:Int) else (N:Int))).2.1 (xf s a b E (if neg = true then -(N:Int) else (N:Int))).2.2]) ⟨[(0,.op 0 0 0),(3,.v (.int .i64 (a:Int))),(4,.v (.bool neg)),(5,.v (.int .i64 0))],[(0,xT s j0 b)],1⟩:=by
 have hN:N ≤ 11258999068426240:=by
  have:=zc (s.drop j0) 0 (by decide)
  rw [hd] at this
  exact this
 have hm:=K5 s hs a E (by omega) hE b neg N (by omega) _ rfl
 rw [K9]
 generalize tlW 6 jA = T at *
 conv=>arg 3;arg 1;whnf
 generalize hV:(if neg = true then -(N:Int) else (N:Int)) = V at *
 clear hV
 repeat' (first|refine qm ?_|fail|((first|(apply qb;rfl;rfl;exact nle rfl)|(apply qa;rfl;rfl;exact nle rfl)|refine xsC ?_ ?_);all_goals (intro hc;have hp:=hc;try simp at hp;try (exfalso;omega)))|refine jl ?_ ?_)
 refine ya (fun m σ => ∃ (j n:Nat) (z:Int),z = (n:Int) ∧ j0 ≤ j ∧ j ≤ E ∧ m = E - j ∧ n ≤ 11258999068426240 ∧ yv (s.drop j) n = (N,E - j) ∧ σ = ⟨[(0,.op 0 0 0),(3,.v (.int .i64 (a:Int))),(4,.v (.bool neg)),(5,.v (.int .i64 z))],[(0,xT s j b)],1⟩) (E - j0) ⟨j0,0,0,rfl,Nat.le_refl _,hjE,rfl,Nat.zero_le _,hd,rfl⟩ ?_
 rintro m σ ⟨j,n,z,hz,h1,h2,rfl,h3,h4,rfl⟩
 by_cases hgo : ∃ hj:j < s.length,48 ≤ s[j].toNat ∧ s[j].toNat ≤ 57 ∧ n < 1125899906842624
 ·obtain ⟨hj,c1,c2,c3⟩:=hgo
  have hgc:s[j]? = some s[j]:=List.getElem?_eq_getElem hj
  rw [XL hj c1 c2 c3] at h4
  generalize s[j] = c at *
  injection h4 with e1 e2
  have hjE' : j + 1 ≤ E:=by omega
  have e3:yv (s.drop (j + 1)) (10 * n + (c.toNat - 48)) = (N,E - (j + 1)):=Prod.ext e1 (by show (yv _ _).2 = _;omega)
  clear e1 e2 hm hd
  repeat' (first|refine qm ?_|(first|(apply qo;apply ju (i:=j);(case hx=>rfl);(case hy=>exact xe (by omega));(case hT=>rfl);(case he=>rfl);(case hc=>exact hgc);(case hN=>exact nle rfl))|(apply qo;apply Kw;rfl;rfl;omega;omega;exact nle rfl)|(apply qo;apply (Q2 (k0 := .u8) (k := .i64));rfl;rfl;rfl;rfl;rfl;exact IntWalk.i64_in _ ⟨by omega,by omega⟩;exact nle rfl))|((first|(apply qb;rfl;rfl;exact nle rfl)|(apply qa;rfl;rfl;exact nle rfl)|refine xsC ?_ ?_);all_goals (intro hc;have hp:=hc;try simp at hp;try (exfalso;omega)))|refine jl ?_ ?_)
  all_goals try (exfalso;omega)
  all_goals (refine ⟨E - (j + 1),⟨[(0,.op 0 0 0),(3,.v (.int .i64 (a:Int))),(4,.v (.bool neg)),(5,.v (.int .i64 (10 * z + (c.toNat:Int) - 48)))],[(0,xT s (j + 1) b)],1⟩,by omega,?_,⟨j + 1,10 * n + (c.toNat - 48),10 * z + (c.toNat:Int) - 48,by omega,by omega,hjE',rfl,by omega,e3,rfl⟩⟩;refine qH [] rfl ?gts ?ghs;(case gts=>(repeat (first|exact qt|refine qV ?_|refine yh ?_|refine jG ?_|refine yn ?_|refine jH ?_ ?_|refine j8 ?_ ?_));all_goals first|rfl|exact xe (by omega));(case ghs=>(refine jn (q:=0) rfl (qf rfl) rfl qg)))
 ·have h5:=XM (s:=s) (j:=j) (n:=n) (fun hj hc=>hgo ⟨hj,hc⟩)
  rw [h5] at h4
  injection h4 with e1 e2
  obtain rfl:E = j:=by omega
  subst e1
  by_cases hj:E < s.length
  ·have hgc:s[E]? = some s[E]:=List.getElem?_eq_getElem hj
   have hno:¬ (48 ≤ s[E].toNat ∧ s[E].toNat ≤ 57 ∧ n < 1125899906842624):=fun h=>hgo ⟨hj,h⟩
   generalize s[E] = c at *
   clear hgo h5 hd
   repeat' (first|refine qm ?_|(first|(apply qo;apply ju (i:=E);(case hx=>rfl);(case hy=>exact xe (by omega));(case hT=>rfl);(case he=>rfl);(case hc=>exact hgc);(case hN=>exact nle rfl)))|((first|(apply qb;rfl;rfl;exact nle rfl)|(apply qa;rfl;rfl;exact nle rfl)|refine xsC ?_ ?_);all_goals (intro hc;have hp:=hc;try simp at hp;try (exfalso;omega)))|refine jl ?_ ?_)
   all_goals try (exfalso;omega)
   all_goals ((refine Awp.red (qH (τ:=⟨[(0,.op 0 0 0),(3,.v (.int .i64 (a:Int))),(4,.v (.bool neg)),(5,.v (.int .i64 (n:Int)))],[(0,xT s E b)],1⟩) [] rfl ?gts2 ?ghs2) ?_;(case gts2=>(repeat (first|exact qt|refine qV ?_|refine yh ?_|refine jG ?_|refine yn ?_|refine jH ?_ ?_|refine j8 ?_ ?_));all_goals first|rfl|exact xe hz);(case ghs2=>(refine jn (q:=0) rfl (qf rfl) rfl qg)));exact hm)
  ·clear hgo h5 hd
   repeat' (first|refine qm ?_|fail|((first|(apply qb;rfl;rfl;exact nle rfl)|(apply qa;rfl;rfl;exact nle rfl)|refine xsC ?_ ?_);all_goals (intro hc;have hp:=hc;try simp at hp;try (exfalso;omega)))|refine jl ?_ ?_)
   all_goals try (exfalso;omega)
   all_goals ((refine Awp.red (qH (τ:=⟨[(0,.op 0 0 0),(3,.v (.int .i64 (a:Int))),(4,.v (.bool neg)),(5,.v (.int .i64 (n:Int)))],[(0,xT s E b)],1⟩) [] rfl ?gts2 ?ghs2) ?_;(case gts2=>(repeat (first|exact qt|refine qV ?_|refine yh ?_|refine jG ?_|refine yn ?_|refine jH ?_ ?_|refine j8 ?_ ?_));all_goals first|rfl|exact xe hz);(case ghs2=>(refine jn (q:=0) rfl (qf rfl) rfl qg)));exact hm)
end Go.Proofs.YtahbbnfmbohmmaaDoor
