import Derived.Test.YtahbbnfmbohmmaaDoorMz23
import Derived.Test.YtahbbnfmbohmmaaDoorMz20
import Derived.Test.YtahbbnfmbohmmaaDoorMz3
import Derived.Lib.ItoaLen
import Derived.Test.YtahbbnfmbohmmaaDoorMz8
set_option linter.unusedSimpArgs false
set_option linter.unnecessarySimpa false
set_option linter.unusedVariables false
set_option maxHeartbeats 1000000
namespace Go.Proofs.YtahbbnfmbohmmaaDoor
open Go.Ab Go.RowKit
set_option maxRecDepth 10000
theorem ke:xg 0:=⟨by decide,by decide⟩
theorem J4:noRqt.fit:=⟨ke,by decide,by decide,by decide,by decide,by decide,ke,ke,ke,(fun c h=>by cases h),by decide⟩
section steps
variable {C' : Cx} {N:Nat} {all:Array Oper} {es:List Eff} {o:Oper} {os:List Oper} {K:List Eff → St → Prop} {ts:List (Nat × AV)} {hs:List (Nat × HB)} {nx:Nat} {gd:List Nat}
theorem ju {f:FuncId} {args:List Operand} {tys:Array TypeId} {d:Nat} {ty:TypeId} {pos:String} {af:Array Edge} {gg:Option (Nat × Bool)} {ys:List AV} {v:AV} {k:Nat} {row row0 row1:List AV} (q:Nat) (hf:IsFn C'.P f)
  (hc:qr C'.P f ys [.own true k [row0]] v [.own true k [row1]]) (hp1:AV.pure.pureL row1 = true)
  (k' : jU C' N all (⟨gd ++ (qK (.func f) ++ args.flatMap qK),[q],some d,v,[(q,.own true k [row1])],[]⟩ :: es) ⟨(d,v) :: ts,(q,.own true k [row1]) :: hs,nx⟩ os K)
  (hq:qf hs q = .own true k [row]:=by rfl) (hp0:jg (jf 0 [q]) 0 row row0:=by (repeat (first|exact qX|refine qi (qy rfl) ?_|refine qi Y4 ?_)))
  (hz:qN (jf 0 [q]) [q] (qf hs) (args.map (evA (qe ts))) ys:=by ((repeat' (first|exact jb|apply qR|exact ja rfl|exact jD|(apply qm;apply qS;exact .inr (of_decide_eq_true rfl))|(apply qm;apply jO;exact .inr (of_decide_eq_true rfl))|(apply qm;apply jc;exact .inr (of_decide_eq_true rfl))|apply jm|apply jn))<;>fail)) (hr:v.ren (y2 (jf 0 [q])) = v:=by rfl) (hN:d < N:=by exact nle rfl):xK C' N all gd es ⟨ts,hs,nx⟩ f args d tys ty pos af gg os K :=
 yL [q] [] [(q,.own true k [row1])] nx v hf hc hz (je (.own true k [row]) jR (qO hp0) hq rfl) (qJ (qO (qH hp1)) jF) k' hr rfl rfl (Nat.le_of_ble_eq_true rfl) (by simp) rfl (fun n hn=>by cases hn) (Nat.le_refl _) hN
end steps
attribute [local irreducible] Awp jU jo jz Red qt Go.Ab.Fin qr Rz vl jt jj ResOk jy jg yi qN
set_option maxHeartbeats 4000000 in
theorem zN (s t:qh) (e:Int) (ok:Bool) (q:Rqt) (hw:qr C.P 28 [.v (str s),.clo (.func 29) [] [.op 0 0 0]] [.own true 10 [noRqt.row]] (.v (.bool ok)) [.own true 10 [q.row]])
  (ha:zp C.P 8 [.agg q.row] (.tup [.v (str t),.v (.int .i64 e)])) :
  zp C.P 12 [.v (str s)] (if ok = true ∧ t = s ∧ e = 0 then .tup [.agg q.row,.v (.int .i64 0)] else .tup [.agg noRqt.row,.v (.int .i64 1)]):=by
 unfold noRqt Rqt.row at hw
 unfold Rqt.row at ha
 unfold noRqt Rqt.row
 obtain ⟨q1,q2,q3,q4,q5,q6,q7,q8,q9,q10⟩:=q
 dsimp only at *
 cases ok with
 | false =>
   refine qc Tryd.func12 rfl _ Tryd.ntmps12 (Nat.le_of_ble_eq_true rfl) _ Tryd.results12 0 rfl rfl ?_
   repeat' (first|refine ql ?_|(first|(apply qa Tryd.func28 rfl rfl;intro hIsFn;refine ju 1 hIsFn (hw) rfl ?_)|refine xsF Tryd.func8 (ha ..) ?_)|((first|refine g_sp_t ?_ ?_|refine g_sp_f ?_ ?_|refine xsC ?_ ?_);all_goals (intro hc;have hp:=hc;try simp at hp;try (exfalso;omega)))|refine jl ?_ ?_)
   all_goals ((refine jN (rs:=[.cell 2 24,.tmp 3]) ?_;(repeat' (first|exact jd|apply qQ|exact qL rfl|exact jX|exact xn|apply jv|apply jK|apply jw|apply jI|apply ji|apply jJ|refine xm ?_|apply yg));all_goals rfl))
 | true =>
   by_cases he:e = 0
   ·subst he
    by_cases ht:t = s
    ·subst ht
     refine qc Tryd.func12 rfl _ Tryd.ntmps12 (Nat.le_of_ble_eq_true rfl) _ Tryd.results12 0 rfl rfl ?_
     repeat' (first|refine ql ?_|(first|(apply qa Tryd.func28 rfl rfl;intro hIsFn;refine ju 1 hIsFn (hw) rfl ?_)|refine xsF Tryd.func8 (ha ..) ?_)|((first|refine g_sp_t ?_ ?_|refine g_sp_f ?_ ?_|refine xsC ?_ ?_);all_goals (intro hc;have hp:=hc;try simp at hp;try (exfalso;omega)))|refine jl ?_ ?_)
     all_goals try (exfalso;simp at *;done)
     all_goals (rw [if_pos ⟨rfl,rfl,rfl⟩])
     all_goals ((refine jN (rs:=[.cell 2 24,.tmp 3]) ?_;(repeat' (first|exact jd|apply qQ|exact qL rfl|exact jX|exact xn|apply jv|apply jK|apply jw|apply jI|apply ji|apply jJ|refine xm ?_|apply yg));all_goals rfl))
    ·refine qc Tryd.func12 rfl _ Tryd.ntmps12 (Nat.le_of_ble_eq_true rfl) _ Tryd.results12 0 rfl rfl ?_
     repeat' (first|refine ql ?_|(first|(apply qa Tryd.func28 rfl rfl;intro hIsFn;refine ju 1 hIsFn (hw) rfl ?_)|refine xsF Tryd.func8 (ha ..) ?_)|((first|refine g_sp_t ?_ ?_|refine g_sp_f ?_ ?_|refine xsC ?_ ?_);all_goals (intro hc;have hp:=hc;try simp at hp;try (exfalso;omega)))|refine jl ?_ ?_)
     all_goals try (exfalso;simp_all;done)
     all_goals (rw [if_neg (fun h=>ht h.2.1)])
     all_goals ((refine jN (rs:=[.cell 2 24,.tmp 3]) ?_;(repeat' (first|exact jd|apply qQ|exact qL rfl|exact jX|exact xn|apply jv|apply jK|apply jw|apply jI|apply ji|apply jJ|refine xm ?_|apply yg));all_goals rfl))
   ·refine qc Tryd.func12 rfl _ Tryd.ntmps12 (Nat.le_of_ble_eq_true rfl) _ Tryd.results12 0 rfl rfl ?_
    repeat' (first|refine ql ?_|(first|(apply qa Tryd.func28 rfl rfl;intro hIsFn;refine ju 1 hIsFn (hw) rfl ?_)|refine xsF Tryd.func8 (ha ..) ?_)|((first|refine g_sp_t ?_ ?_|refine g_sp_f ?_ ?_|refine xsC ?_ ?_);all_goals (intro hc;have hp:=hc;try simp at hp;try (exfalso;omega)))|refine jl ?_ ?_)
    all_goals try (exfalso;omega)
    all_goals (rw [if_neg (fun h=>he h.2.2)])
    all_goals ((refine jN (rs:=[.cell 2 24,.tmp 3]) ?_;(repeat' (first|exact jd|apply qQ|exact qL rfl|exact jX|exact xn|apply jv|apply jK|apply jw|apply jI|apply ji|apply jJ|refine xm ?_|apply yg));all_goals rfl))
theorem yD (t:qh):t.length ≤ (y7 t).length:=by unfold y7;rw [List.length_append];omega
theorem YJ {α:Type} (T:α → qh) {l:List α} {x:α} (h:x ∈ l):(T x).length ≤ (l.flatMap T).length:=by
 induction l with
 | nil=>cases h
 | cons a l ih =>
   rw [List.flatMap_cons,List.length_append]
   rcases List.mem_cons.1 h with rfl|h
   ·omega
   ·have:=ih h;omega
theorem YO {α:Type} (T:α → qh) {l:List α} {x:α} (h:x ∈ l):(T x).length ≤ (Qk T l).length:=by
 unfold Qk
 rw [List.length_append]
 have:=YJ T h
 omega
theorem Yw {c:Chg} (h:Xu c) (hl:(wb c).length ≤ 1000000000):c.fit:=by
 obtain ⟨h1,h2,h3,h4,h5⟩:=h
 unfold wb at hl
 simp only [List.length_append] at hl
 have a:=yD c.path
 have b:=yD c.to
 have d:=yD c.text
 exact ⟨h1,by omega,by omega,by omega,h5⟩
theorem JO {l:List Chg} (h:YA l) (hl:(Jk l).length ≤ 1000000000) : ∀ c,c ∈ l → c.fit:=fun c hc=>Yw (h.2 c hc) (Nat.le_trans (YO wb hc) hl)
theorem Y6 {q:Rqt} (h:Vm q) (hl:(Qx q).length ≤ 1000000000):q.fit:=by
 obtain ⟨h1,h2,h3,h4,h5,h6,h7,h8,h9,h10⟩:=h
 unfold Qx at hl
 simp only [List.length_append] at hl
 have a:=yD q.who
 have b:=yD q.folder
 have c:=yD q.name
 have d:=yD q.key
 have e:=yD q.text
 exact ⟨h1,by omega,by omega,by omega,by omega,by omega,h7,h8,h9,JO h10 (by omega),by have:=h10.1;omega⟩
theorem Xm (s:qh) (hs:s.length ≤ 1000000000):zp C.P 12 [.v (str s)] (.tup [.agg (vW s).1.row,.v (.int .i64 (vW s).2)]):=by
 cases hq:kr s with
 | none =>
   have hw:=wU s (f:=29) Tryd.func29 rfl rfl 10 noRqt.row noRqt.row rfl rfl (J8 s noRqt hs hq)
   have h:=zN s _ _ false noRqt hw (Jc noRqt J4)
   rw [if_neg (fun h=>by cases h.1)] at h
   unfold vW
   rw [hq]
   exact h
 | some p =>
   obtain ⟨q,r⟩:=p
   obtain ⟨e1,e2⟩:=rd_rqt.of _ _ _ hq
   have hf:q.fit:=Y6 e2 (by have:=congrArg List.length e1;rw [List.length_append] at this;omega)
   have hw:=Xt s r (f:=29) Tryd.func29 rfl rfl 10 noRqt.row q.row rfl rfl (VF s r q noRqt hs hq)
   have h:=zN s _ _ _ q hw (Jc q hf)
   unfold vW
   rw [hq]
   dsimp only
   by_cases hr:r = [] ∧ yp q = (s,0)
   ·rw [if_pos hr]
    rw [if_pos ⟨by simpa using hr.1,by rw [hr.2],by rw [hr.2]⟩] at h
    exact h
   ·rw [if_neg hr]
    rw [if_neg (fun h=>hr ⟨by simpa using h.1,Prod.ext h.2.1 h.2.2⟩)] at h
    exact h
end Go.Proofs.YtahbbnfmbohmmaaDoor
set_option linter.unusedSimpArgs false
set_option linter.unnecessarySimpa false
set_option linter.unusedVariables false
set_option maxHeartbeats 1000000
namespace Go.Proofs.YtahbbnfmbohmmaaDoor
open Go.Ab Go.RowKit
set_option maxRecDepth 10000
theorem Vy {k:Nat} (h:k < 10):Lib.decDigits k = [UInt8.ofNat (48 + k)]:=by rw [Lib.decDigits,dif_pos h]
theorem VQ {k:Nat} (h:¬ k < 10):Lib.decDigits k = Lib.decDigits (k / 10) ++ [UInt8.ofNat (48 + k % 10)]:=by rw [Lib.decDigits,dif_neg h]
theorem X1 (k:Nat):Lib.itoa (k:Int) = Lib.decDigits k:=by
 unfold Lib.itoa
 rw [if_neg (by omega)]
 simp
theorem Vx {k:Nat} (h:k ≤ 20000000000000000):(Lib.decDigits k).length ≤ 21:=by
 rw [← X1]
 exact Lib.itoa_length_le _ (by omega) (by omega)
attribute [local irreducible] Awp jU jo jz Red qt Go.Ab.Fin qr Rz vl jt jj ResOk jy jg yi qN
theorem Yl (k:Nat) (hk:k ≤ 20000000000000000):zp C.P 57 [.v (.int .i64 (k:Int))] (.v (str (Lib.decDigits k))):=by
 have hB : ∀ n:Nat,(48 + ((n:Nat):Int)).toNat = 48 + n:=fun n=>by omega
 refine qc Tryd.func57 rfl _ Tryd.ntmps57 (Nat.le_of_ble_eq_true rfl) _ Tryd.results57 0 rfl rfl ?_
 repeat' (first|refine kJ ?_|fail|((first|refine xsC ?_ ?_);all_goals (intro hc;have hp:=hc;try simp at hp;try (exfalso;omega)))|refine jl ?_ ?_)
 all_goals try (exfalso;omega)
 (refine Awp.red (Qs (ts:=[(0,.v (.int .i64 ((k:Nat):Int))),(3,.v (str ([]:qh)))]) ?_) ?_;((repeat (first|exact qw|refine jr ?_|refine y3 ?_ ?_))))
 refine yy (fun n σ => ∃ (m:Nat) (s:qh),m ≤ 20000000000000000 ∧ n = m + 1 ∧ Lib.decDigits m ++ s = Lib.decDigits k ∧ σ = ⟨[(0,.v (.int .i64 (m:Int))),(3,.v (str s))],[],C.nh⟩) (k + 1) ⟨k,[],hk,rfl,by simp,rfl⟩ ?_
 rintro n σ ⟨m,s,hm,rfl,hd,rfl⟩
 have hsl:s.length ≤ 21:=by
  have h1:=congrArg List.length hd
  have h2:=Vx hk
  rw [List.length_append] at h1
  omega
 by_cases h10:m < 10
 ·have hq:m / 10 = 0:=by omega
  have hr:m % 10 = m:=by omega
  rw [Vy h10] at hd
  repeat' (first|refine kJ ?_|(first|(apply qq;apply YI (b:=10);rfl;rfl;decide;exact nle rfl)|(apply qq;apply YH (b:=10);rfl;rfl;decide;omega;exact nle rfl)|(apply qq;apply Jo;rfl;rfl;rfl;rfl;rfl;exact IntWalk.u8_in _ (by omega);exact nle rfl)|(refine xF ?_)|(apply qq;apply Qa;rfl;rfl;rfl;rfl;rfl;rfl;rfl;exact nle rfl))|((first|refine xsC ?_ ?_);all_goals (intro hc;have hp:=hc;try simp at hp;try (exfalso;omega)))|refine jl ?_ ?_)
  all_goals try (exfalso;omega)
  (refine jN (rs:=[.tmp 2]) ?_;(repeat' (first|exact jd|apply qQ|exact qL rfl|exact jX|exact xn|apply jv|apply jK|apply jw|apply jI|apply ji|apply jJ|refine xm ?_|apply yg));all_goals (first|(rw [hr,hB];exact hd)|(intros;simp_all;done)|trace_state))
 ·rw [VQ h10] at hd
  have hq:¬ m / 10 = 0:=by omega
  repeat' (first|refine kJ ?_|(first|(apply qq;apply YI (b:=10);rfl;rfl;decide;exact nle rfl)|(apply qq;apply YH (b:=10);rfl;rfl;decide;omega;exact nle rfl)|(apply qq;apply Jo;rfl;rfl;rfl;rfl;rfl;exact IntWalk.u8_in _ (by omega);exact nle rfl)|(refine xF ?_)|(apply qq;apply Qa;rfl;rfl;rfl;rfl;rfl;rfl;rfl;exact nle rfl))|((first|refine xsC ?_ ?_);all_goals (intro hc;have hp:=hc;try simp at hp;try (exfalso;omega)))|refine jl ?_ ?_)
  all_goals try (exfalso;omega)
  refine ⟨m / 10 + 1,_,by omega,Qs (ts:=[(0,.v (.int .i64 ((m / 10:Nat):Int))),(3,.v (str (UInt8.ofNat (48 + m % 10) :: s)))]) ?_,m / 10,UInt8.ofNat (48 + m % 10) :: s,by omega,rfl,by rw [← hd];simp,rfl⟩
  ((repeat (first|exact qw|refine jr ?_|refine y3 ?_ ?_));all_goals (first|rfl|(rw [hB];rfl)|trace_state))
theorem Vv (n:Int) (h0 : -20000000000000000 ≤ n) (h1:n ≤ 20000000000000000):zp C.P 57 [.v (.int .i64 n)] (.v (str (Lib.itoa n))):=by
 by_cases hn:n < 0
 ·obtain ⟨k,rfl⟩ : ∃ k:Nat,n = -(k:Int):=⟨n.natAbs,by omega⟩
  have hk:k ≤ 20000000000000000:=by omega
  have c:=Yl k hk
  have hl:=Vx hk
  have e:(45 :: Lib.decDigits k:qh) = Lib.itoa (-(k:Int)):=by
   unfold Lib.itoa
   rw [if_pos hn]
   simp
  rw [show ((k:Nat):Int) = -(-(k:Int)) by omega] at c
  refine qc Tryd.func57 rfl _ Tryd.ntmps57 (Nat.le_of_ble_eq_true rfl) _ Tryd.results57 0 rfl rfl ?_
  repeat' (first|refine kJ ?_|(first|refine xsF Tryd.func57 (c ..) ?_|(apply qq;apply Vd;rfl;omega;omega;exact nle rfl))|((first|refine xsC ?_ ?_);all_goals (intro hc;have hp:=hc;try simp at hp;try (exfalso;omega)))|refine jl ?_ ?_)
  all_goals try (exfalso;omega)
  all_goals ((refine jN (rs:=[.tmp 2]) ?_;(repeat' (first|exact jd|apply qQ|exact qL rfl|exact jX|exact xn|apply jv|apply jK|apply jw|apply jI|apply ji|apply jJ|refine xm ?_|apply yg));all_goals exact e))
 ·obtain ⟨k,rfl⟩ : ∃ k:Nat,n = (k:Int):=⟨n.natAbs,by omega⟩
  rw [X1]
  exact Yl k (by omega)
@[reducible] def wR (w:WS):HB := .own true 3 [[.v (str w.s),.v (.bool w.g),.v (.bool w.f)]]
theorem ym {L:List (Nat × Nat)} {nh:Nat} {σ:St} {q q' : Nat} {w w' : WS} {rest:List (Nat × HB)} (hq:qf σ.hs q = wR w) (h1:Maps L nh q q') (hs:w = w') (hr:jM L nh σ rest):jM L nh σ ((q',wR w') :: rest):=by
 subst hs
 exact ⟨⟨q,h1,by rw [hq];exact qO (qH rfl)⟩,hr⟩
set_option maxHeartbeats 1000000 in
theorem yB (w:WS) (n:Int) (hn:xg n) (hw:w.s.length ≤ 1000000000):qr C1.P 24 [.op 0 0 0,.v (.int .i64 n)] [wR w] (.tup []) [wR (w.numR n)]:=by
 obtain ⟨h1,h2⟩:=hn
 by_cases hf:vD n = true
 ·have e:w.numR n = ⟨w.s,w.g,true⟩:=by unfold WS.numR;rw [if_pos hf]
  rw [e]
  unfold vD at hf
  simp only [Bool.or_eq_true,decide_eq_true_eq] at hf
  refine qc (C:=C1) Tryd.func24 rfl _ Tryd.ntmps24 (Nat.le_of_ble_eq_true rfl) _ Tryd.results24 1 rfl rfl ?_
  repeat' (first|refine ql ?_|fail|((first|refine g_sp_t ?_ ?_|refine g_sp_f ?_ ?_|refine xsC ?_ ?_);all_goals (intro hc;have hp:=hc;try simp at hp;try (exfalso;omega)))|refine jl ?_ ?_)
  all_goals try (exfalso;omega)
  all_goals ((apply qv (rs:=[]) [] 1;(case hr=>(repeat (first|exact qo|(apply qp;rfl)|(apply qk;rfl;rfl;rfl;rfl;rfl))));(case hL=>rfl);(case hh=>(refine ym (q:=0) rfl (qd rfl) rfl qg));(case hi=>exact rfl);(case hz=>first|rfl|(simp [jC,AV.ren,AV.ren.renL,qY,qe,qT];done))))
 ·have e:w.numR n = ⟨w.s ++ jx n,w.g,w.f⟩:=by unfold WS.numR;rw [if_neg hf]
  rw [e]
  unfold vD at hf
  simp only [Bool.or_eq_true,decide_eq_true_eq] at hf
  have c:=Vv n (by omega) (by omega)
  have hl:=Lib.itoa_length_le n (by omega) (by omega)
  unfold jx
  refine qc (C:=C1) Tryd.func24 rfl _ Tryd.ntmps24 (Nat.le_of_ble_eq_true rfl) _ Tryd.results24 1 rfl rfl ?_
  repeat' (first|refine ql ?_|(first|refine xsF Tryd.func57 (c ..) ?_)|((first|refine g_sp_t ?_ ?_|refine g_sp_f ?_ ?_|refine xsC ?_ ?_);all_goals (intro hc;have hp:=hc;try simp at hp;try (exfalso;omega)))|refine jl ?_ ?_)
  all_goals try (exfalso;omega)
  all_goals ((apply qv (rs:=[]) [] 1;(case hr=>(repeat (first|exact qo|(apply qp;rfl)|(apply qk;rfl;rfl;rfl;rfl;rfl))));(case hL=>rfl);(case hh=>(refine ym (q:=0) rfl (qd rfl) rfl qg));(case hi=>exact rfl);(case hz=>first|rfl|(simp [jC,AV.ren,AV.ren.renL,qY,qe,qT];done))))
end Go.Proofs.YtahbbnfmbohmmaaDoor
set_option linter.unusedSimpArgs false
set_option linter.unnecessarySimpa false
set_option linter.unusedVariables false
set_option maxHeartbeats 1000000
namespace Go.Proofs.YtahbbnfmbohmmaaDoor
open Go.Ab Go.RowKit
set_option maxRecDepth 10000
theorem j5 (w:WS) {n:Int} (hn:xg n):(w.numR n).s.length ≤ w.s.length + 22:=by
 unfold WS.numR
 have:=yn hn
 split
 ·exact Nat.le_add_right _ _
 ·simp only [List.length_append];omega
theorem jY (w:WS) (t:qh):(w.txtR t).s.length ≤ w.s.length + 1022:=by
 unfold WS.txtR
 split
 ·exact Nat.le_add_right _ _
 ·have:=j5 w (n:=t.length) ⟨by omega,by omega⟩
  simp only [List.length_append]
  omega
theorem Yy (w:WS) {c:Chg} (h:c.fit):(w.chgR c).s.length ≤ w.s.length + 3110:=by
 have h1:=j5 w h.kind
 have h2:=jY (w.numR c.kind) c.path
 have h3:=jY ((w.numR c.kind).txtR c.path) c.to
 have h4:=jY (((w.numR c.kind).txtR c.path).txtR c.to) c.text
 have h5:=j5 ((((w.numR c.kind).txtR c.path).txtR c.to).txtR c.text) h.base
 unfold WS.chgR
 omega
theorem JS (l:List Chg) : ∀ (w:WS),(∀ c,c ∈ l → c.fit) → (l.foldl WS.chgR w).s.length ≤ w.s.length + 3110 * l.length:=by
 induction l with
 | nil=>exact fun w _=>Nat.le_refl _
 | cons c l ih =>
   intro w h
   have h1:=Yy w (h c (by simp))
   have h2:=ih (w.chgR c) (fun x hx=>h x (by simp [hx]))
   simp only [List.length_cons,List.foldl_cons]
   omega
attribute [local irreducible] Awp jU jo jz Red qt Go.Ab.Fin qr Rz vl jt jj ResOk jy jg yi qN
set_option maxHeartbeats 1000000 in
theorem xX (w:WS) (t:qh) (ht:t.length ≤ 1000000000) (hw:w.s.length ≤ 900000000):qr C1.P 25 [.op 0 0 0,.v (str t)] [wR w] (.tup []) [wR (w.txtR t)]:=by
 by_cases h:1000 < t.length
 ·have e:w.txtR t = ⟨w.s,true,w.f⟩:=by unfold WS.txtR;rw [if_pos h]
  rw [e]
  refine qc (C:=C1) Tryd.func25 rfl _ Tryd.ntmps25 (Nat.le_of_ble_eq_true rfl) _ Tryd.results25 1 rfl rfl ?_
  repeat' (first|refine ql ?_|fail|((first|refine g_sp_t ?_ ?_|refine g_sp_f ?_ ?_|refine xsC ?_ ?_);all_goals (intro hc;have hp:=hc;try simp at hp;try (exfalso;omega)))|refine jl ?_ ?_)
  all_goals try (exfalso;omega)
  all_goals ((apply qv (rs:=[]) [] 1;(case hr=>(repeat (first|exact qo|(apply qp;rfl)|(apply qk;rfl;rfl;rfl;rfl;rfl))));(case hL=>rfl);(case hh=>(refine ym (q:=0) rfl (qd rfl) rfl qg));(case hi=>exact rfl);(case hz=>first|rfl|(simp [jC,AV.ren,AV.ren.renL,qY,qe,qT];done))))
 ·have e:w.txtR t = ⟨(w.numR t.length).s ++ t,(w.numR t.length).g,(w.numR t.length).f⟩:=by unfold WS.txtR;rw [if_neg h]
  rw [e]
  have hI:xg (t.length:Int):=⟨by omega,by omega⟩
  have c:=yB w t.length hI (by omega)
  have hl:=j5 w hI
  generalize w.numR t.length = v at *
  refine qc (C:=C1) Tryd.func25 rfl _ Tryd.ntmps25 (Nat.le_of_ble_eq_true rfl) _ Tryd.results25 1 rfl rfl ?_
  repeat' (first|refine ql ?_|(first|(apply qa Tryd.func24 rfl rfl;intro hIsFn;refine ju 0 hIsFn (c) rfl ?_))|((first|refine g_sp_t ?_ ?_|refine g_sp_f ?_ ?_|refine xsC ?_ ?_);all_goals (intro hc;have hp:=hc;try simp at hp;try (exfalso;omega)))|refine jl ?_ ?_)
  all_goals try (exfalso;omega)
  all_goals ((apply qv (rs:=[]) [] 1;(case hr=>(repeat (first|exact qo|(apply qp;rfl)|(apply qk;rfl;rfl;rfl;rfl;rfl))));(case hL=>rfl);(case hh=>(refine ym (q:=0) rfl (qd rfl) rfl qg));(case hi=>exact rfl);(case hz=>first|rfl|(simp [jC,AV.ren,AV.ren.renL,qY,qe,qT];done))))
theorem Vj (w:WS):qr C1.P 27 [.op 0 0 0] [wR w] (.tup [.v (str w.done.1),.v (.int .i64 w.done.2)]) [wR w]:=by
 obtain ⟨s,g,f⟩:=w
 unfold WS.done
 cases g with
 | true =>
   refine qc (C:=C1) Tryd.func27 rfl _ Tryd.ntmps27 (Nat.le_of_ble_eq_true rfl) _ Tryd.results27 1 rfl rfl ?_
   repeat' (first|refine ql ?_|fail|((first|refine g_sp_t ?_ ?_|refine g_sp_f ?_ ?_|refine xsC ?_ ?_);all_goals (intro hc;have hp:=hc;try simp at hp;try (exfalso;omega)))|refine jl ?_ ?_)
   all_goals ((apply qv (rs:=[.tmp 2,.tmp 3]) [] 1;(case hr=>(repeat (first|exact qo|(apply qp;rfl)|(apply qk;rfl;rfl;rfl;rfl;rfl))));(case hL=>rfl);(case hh=>(refine ym (q:=0) rfl (qd rfl) rfl qg));(case hi=>exact rfl);(case hz=>first|rfl|(simp [jC,AV.ren,AV.ren.renL,qY,qe,qT];done))))
 | false =>
   cases f with
   | true =>
     refine qc (C:=C1) Tryd.func27 rfl _ Tryd.ntmps27 (Nat.le_of_ble_eq_true rfl) _ Tryd.results27 1 rfl rfl ?_
     repeat' (first|refine ql ?_|fail|((first|refine g_sp_t ?_ ?_|refine g_sp_f ?_ ?_|refine xsC ?_ ?_);all_goals (intro hc;have hp:=hc;try simp at hp;try (exfalso;omega)))|refine jl ?_ ?_)
     all_goals ((apply qv (rs:=[.tmp 2,.tmp 3]) [] 1;(case hr=>(repeat (first|exact qo|(apply qp;rfl)|(apply qk;rfl;rfl;rfl;rfl;rfl))));(case hL=>rfl);(case hh=>(refine ym (q:=0) rfl (qd rfl) rfl qg));(case hi=>exact rfl);(case hz=>first|rfl|(simp [jC,AV.ren,AV.ren.renL,qY,qe,qT];done))))
   | false =>
     refine qc (C:=C1) Tryd.func27 rfl _ Tryd.ntmps27 (Nat.le_of_ble_eq_true rfl) _ Tryd.results27 1 rfl rfl ?_
     repeat' (first|refine ql ?_|fail|((first|refine g_sp_t ?_ ?_|refine g_sp_f ?_ ?_|refine xsC ?_ ?_);all_goals (intro hc;have hp:=hc;try simp at hp;try (exfalso;omega)))|refine jl ?_ ?_)
     all_goals ((apply qv (rs:=[.tmp 2,.tmp 3]) [] 1;(case hr=>(repeat (first|exact qo|(apply qp;rfl)|(apply qk;rfl;rfl;rfl;rfl;rfl))));(case hL=>rfl);(case hh=>(refine ym (q:=0) rfl (qd rfl) rfl qg));(case hi=>exact rfl);(case hz=>first|rfl|(simp [jC,AV.ren,AV.ren.renL,qY,qe,qT];done))))
set_option maxHeartbeats 4000000 in
theorem J5 (w:WS) (l:List Chg) (hl:l.length ≤ 1000000000) (hfit : ∀ c,c ∈ l → c.fit) (hw:w.s.length ≤ 800000000):qr C1.P 26 [.op 0 0 0,yk l] [wR w] (.tup []) [wR (w.chgsR l)]:=by
 have hml:(l.map Chg.row).length = l.length:=List.length_map ..
 by_cases h:20 < l.length
 ·have e:w.chgsR l = ⟨w.s,true,w.f⟩:=by unfold WS.chgsR;rw [if_pos h]
  rw [e]
  unfold yk
  refine qc (C:=C1) Tryd.func26 rfl _ Tryd.ntmps26 (Nat.le_of_ble_eq_true rfl) _ Tryd.results26 1 rfl rfl ?_
  repeat' (first|refine ql ?_|fail|((first|refine g_sp_t ?_ ?_|refine g_sp_f ?_ ?_|refine xsC ?_ ?_);all_goals (intro hc;have hp:=hc;try simp at hp;try (exfalso;omega)))|refine jl ?_ ?_)
  all_goals try (exfalso;omega)
  all_goals ((apply qv (rs:=[]) [] 1;(case hr=>(repeat (first|exact qo|(apply qp;rfl)|(apply qk;rfl;rfl;rfl;rfl;rfl))));(case hL=>rfl);(case hh=>(refine ym (q:=0) rfl (qd rfl) rfl qg));(case hi=>exact rfl);(case hz=>first|rfl|(simp [jC,AV.ren,AV.ren.renL,qY,qe,qT];done))))
 ·have e:w.chgsR l = l.foldl WS.chgR (w.numR l.length):=by unfold WS.chgsR;rw [if_neg h]
  rw [e]
  have hI:xg (l.length:Int):=⟨by omega,by omega⟩
  have c:=yB w l.length hI (by omega)
  rw [← hml] at c
  have hwl:=j5 w hI
  unfold yk
  generalize hv:w.numR l.length = v at *
  refine qc (C:=C1) Tryd.func26 rfl _ Tryd.ntmps26 (Nat.le_of_ble_eq_true rfl) _ Tryd.results26 1 rfl rfl ?_
  repeat' (first|refine ql ?_|(first|(apply qa Tryd.func24 rfl rfl;intro hIsFn;refine ju 0 hIsFn (c) rfl ?_))|((first|refine g_sp_t ?_ ?_|refine g_sp_f ?_ ?_|refine xsC ?_ ?_);all_goals (intro hc;have hp:=hc;try simp at hp;try (exfalso;omega)))|refine jl ?_ ?_)
  all_goals try (exfalso;omega)
  (refine Awp.red (qZ (τ:=⟨[(0,.op 0 0 0),(1,.sl false (l.map Chg.row)),(4,.v (.int .i64 ((0:Nat):Int)))],[(0,wR v)],1⟩) [] rfl ?gts2 ?ghs2) ?_;(case gts2=>(repeat (first|exact qw|refine jr ?_|refine y4 ?_|refine yd ?_|refine xk ?_|refine ye ?_ ?_|refine y3 ?_ ?_));all_goals rfl);(case ghs2=>(refine ym (q:=0) rfl (qd rfl) (by rw [hml];exact hv) qg)))
  refine yy (fun n σ => ∃ i:Nat,i ≤ l.length ∧ n = l.length - i ∧ σ = ⟨[(0,.op 0 0 0),(1,.sl false (l.map Chg.row)),(4,.v (.int .i64 (i:Int)))],[(0,wR ((l.take i).foldl WS.chgR v))],1⟩) l.length ⟨0,Nat.zero_le _,rfl,rfl⟩ ?_
  rintro n σ ⟨i,hi,rfl,rfl⟩
  have hb:=JS (l.take i) v (fun c hx=>hfit c (List.mem_of_mem_take hx))
  have hti:(l.take i).length ≤ 20:=by rw [List.length_take];omega
  by_cases hlt:i < l.length
  ·have ze:(l.map Chg.row)[i]? = some (l[i].row):=by rw [List.getElem?_map,List.getElem?_eq_getElem hlt];rfl
   have hfold:(l.take (i + 1)).foldl WS.chgR v = ((l.take i).foldl WS.chgR v).chgR l[i]:=by
    rw [List.take_succ_eq_append_getElem hlt,List.foldl_append];rfl
   have hf:=hfit l[i] (List.getElem_mem hlt)
   generalize (l.take i).foldl WS.chgR v = u at *
   generalize l[i] = x at *
   have hul:u.s.length ≤ 800070000:=by omega
   obtain ⟨x1,x2,x3,x4,x5⟩:=hf
   have l1:=j5 u x1
   have l2:=jY (u.numR x.kind) x.path
   have l3:=jY ((u.numR x.kind).txtR x.path) x.to
   have l4:=jY (((u.numR x.kind).txtR x.path).txtR x.to) x.text
   have c1:=yB u x.kind x1 (by omega)
   have c2:=xX (u.numR x.kind) x.path x2 (by omega)
   have c3:=xX ((u.numR x.kind).txtR x.path) x.to x3 (by omega)
   have c4:=xX (((u.numR x.kind).txtR x.path).txtR x.to) x.text x4 (by omega)
   have c5:=yB ((((u.numR x.kind).txtR x.path).txtR x.to).txtR x.text) x.base x5 (by omega)
   unfold WS.chgR at hfold
   generalize ((((u.numR x.kind).txtR x.path).txtR x.to).txtR x.text).numR x.base = u5 at *
   generalize (((u.numR x.kind).txtR x.path).txtR x.to).txtR x.text = u4 at *
   generalize ((u.numR x.kind).txtR x.path).txtR x.to = u3 at *
   generalize (u.numR x.kind).txtR x.path = u2 at *
   generalize u.numR x.kind = u1 at *
   unfold Chg.row at ze
   clear l1 l2 l3 l4 hb hti hul e hw hwl c
   repeat' (first|refine ql ?_|(first|(apply qa Tryd.func24 rfl rfl;intro hIsFn;refine ju 0 hIsFn (c1) rfl ?_)|(apply qa Tryd.func25 rfl rfl;intro hIsFn;refine ju 0 hIsFn (c2) rfl ?_)|(apply qa Tryd.func25 rfl rfl;intro hIsFn;refine ju 0 hIsFn (c3) rfl ?_)|(apply qa Tryd.func25 rfl rfl;intro hIsFn;refine ju 0 hIsFn (c4) rfl ?_)|(apply qa Tryd.func24 rfl rfl;intro hIsFn;refine ju 0 hIsFn (c5) rfl ?_))|((first|refine g_sp_t ?_ ?_|refine g_sp_f ?_ ?_|refine xsC ?_ ?_);all_goals (intro hc;have hp:=hc;try simp at hp;try (exfalso;omega)))|refine jl ?_ ?_)
   all_goals try (exfalso;omega)
   all_goals (refine ⟨l.length - (i + 1),⟨[(0,.op 0 0 0),(1,.sl false (l.map Chg.row)),(4,.v (.int .i64 ((i + 1:Nat):Int)))],[(0,wR ((l.take (i + 1)).foldl WS.chgR v))],1⟩,by omega,?_,⟨i + 1,by omega,rfl,rfl⟩⟩;refine qZ [] rfl ?gts ?ghs;(case gts=>(repeat (first|exact qw|refine jr ?_|refine y4 ?_|refine yd ?_|refine xk ?_|refine ye ?_ ?_|refine y3 ?_ ?_));all_goals first|rfl|(simp;omega));(case ghs=>(refine ym (q:=0) rfl (qd rfl) hfold.symm qg)))
  ·obtain rfl:i = l.length:=by omega
   rw [List.take_length] at *
   generalize l.foldl WS.chgR v = u at *
   repeat' (first|refine ql ?_|fail|((first|refine g_sp_t ?_ ?_|refine g_sp_f ?_ ?_|refine xsC ?_ ?_);all_goals (intro hc;have hp:=hc;try simp at hp;try (exfalso;omega)))|refine jl ?_ ?_)
   all_goals try (exfalso;omega)
   all_goals ((apply qv (rs:=[]) [] 1;(case hr=>(repeat (first|exact qo|(apply qp;rfl)|(apply qk;rfl;rfl;rfl;rfl;rfl))));(case hL=>rfl);(case hh=>(refine ym (q:=0) rfl (qd rfl) rfl qg));(case hi=>exact rfl);(case hz=>first|rfl|(simp [jC,AV.ren,AV.ren.renL,qY,qe,qT];done))))
end Go.Proofs.YtahbbnfmbohmmaaDoor
set_option linter.unusedSimpArgs false
set_option linter.unnecessarySimpa false
set_option linter.unusedVariables false
set_option maxHeartbeats 1000000
namespace Go.Proofs.YtahbbnfmbohmmaaDoor
open Go.Ab Go.RowKit
set_option maxRecDepth 10000
def rq0:Rqt:=⟨2,[97],[102],[],[],[],0,0,0,[]⟩
def VO:qh:=[50,59,49,59,97,49,59,102,48,59,48,59,48,59,48,59,48,59,48,59,48,59]
theorem Vw:yp rq0 = (VO,0):=by
 simp [yp,WS.rqt,WS.nums,WS.num,WS.txts,WS.txt,WS.chgs,WS.lst,WS.done,vD,jx,y7,Lib.itoa,Vy,ws0,rq0,VO]
theorem XP:rq0.fit:=⟨⟨by decide,by decide⟩,by decide,by decide,by decide,by decide,by decide,ke,ke,ke,(fun c h=>by cases h),by decide⟩
attribute [local irreducible] Awp jU jo jz Red qt Go.Ab.Fin qr Rz vl jt jj ResOk jy jg yi qN
set_option maxHeartbeats 4000000 in
theorem Xn (r:Rqt) (h:r.fit):zp C.P 9 [.agg r.row] (.tup [.v (str (yp r).1),.v (.int .i64 (yp r).2)]):=by
 rw [← Ys]
 obtain ⟨q1,q2,q3,q4,q5,q6,q7,q8,q9,q10⟩:=r
 obtain ⟨h1,h2,h3,h4,h5,h6,h7,h8,h9,h10,h11⟩:=h
 dsimp only at *
 unfold XY WS.rqtR Rqt.row
 dsimp only
 have c1:=yB ws0 q1 h1 (by decide)
 have l1:=j5 ws0 h1
 have l0:ws0.s.length = 0:=rfl
 unfold ws0 at c1
 generalize hw0:ws0 = w0 at *
 have c2:=xX (w0.numR q1) q2 h2 (by omega)
 have l2:=jY (w0.numR q1) q2
 generalize hw1:w0.numR q1 = w1 at *
 have c3:=xX (w1.txtR q2) q3 h3 (by omega)
 have l3:=jY (w1.txtR q2) q3
 generalize w1.txtR q2 = w2 at *
 have c4:=xX (w2.txtR q3) q4 h4 (by omega)
 have l4:=jY (w2.txtR q3) q4
 generalize w2.txtR q3 = w3 at *
 have c5:=xX (w3.txtR q4) q5 h5 (by omega)
 have l5:=jY (w3.txtR q4) q5
 generalize w3.txtR q4 = w4 at *
 have c6:=xX (w4.txtR q5) q6 h6 (by omega)
 have l6:=jY (w4.txtR q5) q6
 generalize w4.txtR q5 = w5 at *
 have c7:=yB (w5.txtR q6) q7 h7 (by omega)
 have l7:=j5 (w5.txtR q6) h7
 generalize w5.txtR q6 = w6 at *
 have c8:=yB (w6.numR q7) q8 h8 (by omega)
 have l8:=j5 (w6.numR q7) h8
 generalize w6.numR q7 = w7 at *
 have c9:=yB (w7.numR q8) q9 h9 (by omega)
 have l9:=j5 (w7.numR q8) h9
 generalize w7.numR q8 = w8 at *
 have c10:=J5 (w8.numR q9) q10 h11 h10 (by omega)
 generalize w8.numR q9 = w9 at *
 have c11:=Vj (w9.chgsR q10)
 generalize w9.chgsR q10 = w10 at *
 clear l0 l1 l2 l3 l4 l5 l6 l7 l8 l9
 subst hw0
 have e1:(WS.mk [] false false).numR q1 = w1:=hw1
 rw [e1] at c1
 clear hw1 e1
 refine qc Tryd.func9 rfl _ Tryd.ntmps9 (Nat.le_of_ble_eq_true rfl) _ Tryd.results9 0 rfl rfl ?_
 repeat' (first|refine ql ?_|(first|(apply qa Tryd.func24 rfl rfl;intro hIsFn;refine ju 1 hIsFn (c1) rfl ?_)|(apply qa Tryd.func25 rfl rfl;intro hIsFn;refine ju 1 hIsFn (c2) rfl ?_)|(apply qa Tryd.func25 rfl rfl;intro hIsFn;refine ju 1 hIsFn (c3) rfl ?_)|(apply qa Tryd.func25 rfl rfl;intro hIsFn;refine ju 1 hIsFn (c4) rfl ?_)|(apply qa Tryd.func25 rfl rfl;intro hIsFn;refine ju 1 hIsFn (c5) rfl ?_)|(apply qa Tryd.func25 rfl rfl;intro hIsFn;refine ju 1 hIsFn (c6) rfl ?_)|(apply qa Tryd.func24 rfl rfl;intro hIsFn;refine ju 1 hIsFn (c7) rfl ?_)|(apply qa Tryd.func24 rfl rfl;intro hIsFn;refine ju 1 hIsFn (c8) rfl ?_)|(apply qa Tryd.func24 rfl rfl;intro hIsFn;refine ju 1 hIsFn (c9) rfl ?_)|(apply qa Tryd.func26 rfl rfl;intro hIsFn;refine ju 1 hIsFn (c10) rfl ?_)|(apply qa Tryd.func27 rfl rfl;intro hIsFn;refine ju 1 hIsFn (c11) rfl ?_))|((first|refine xsC ?_ ?_);all_goals (intro hc;have hp:=hc;try simp at hp;try (exfalso;omega)))|refine jl ?_ ?_)
 all_goals ((refine jN (rs:=[.tmp 2,.tmp 3]) ?_;(repeat' (first|exact jd|apply qQ|exact qL rfl|exact jX|exact xn|apply jv|apply jK|apply jw|apply jI|apply ji|apply jJ|refine xm ?_|apply yg));all_goals rfl))
theorem Yo:zp C.P 10 [] (.v (.bool true)):=by
 have c1:=Jc rq0 XP
 rw [Vw] at c1
 have c2:=Xm VO (by decide)
 rw [JJ Vw] at c2
 unfold rq0 VO Rqt.row yk at c1 c2
 dsimp only [List.map_nil] at c1 c2
 refine qc Tryd.func10 rfl _ Tryd.ntmps10 (Nat.le_of_ble_eq_true rfl) _ Tryd.results10 0 rfl rfl ?_
 repeat' (first|(first|refine xsF Tryd.func8 (c1 ..) ?_|refine VP Tryd.func12 (c2 ..) ?_|(apply qq;apply (xQ (cs:=[.v (.int .i64 2),.v (str [97]),.v (str [102]),.v (str []),.v (str []),.v (str []),.v (.int .i64 0),.v (.int .i64 0),.v (.int .i64 0),.sl true []]));rfl;rfl;rfl;kernel_rfl;exact nle rfl))|refine ql ?_|((first|refine g_sp_t ?_ ?_|refine g_sp_f ?_ ?_|refine xsC ?_ ?_);all_goals (intro hc;have hp:=hc;try simp at hp;try (exfalso;omega)))|refine jl ?_ ?_)
 all_goals ((refine jN (rs:=[.tmp 0]) ?_;(repeat' (first|exact jd|apply qQ|exact qL rfl|exact jX|exact xn|apply jv|apply jK|apply jw|apply jI|apply ji|apply jJ|refine xm ?_|apply yg));all_goals rfl))
theorem Yn (s t:qh) (e w:Int):zp C.P 11 [.v (str s),.v (.int .i64 e),.v (.int .i64 w),.v (str t)] (.v (.bool (decide (e = w) && decide (s = if w = 0 then t else [])))):=by
 by_cases hw:w = 0
 ·rw [if_pos hw]
  by_cases he:e = w
  ·rw [decide_eq_true he,Bool.true_and]
   refine qc Tryd.func11 rfl _ Tryd.ntmps11 (Nat.le_of_ble_eq_true rfl) _ Tryd.results11 0 rfl rfl ?_
   repeat' (first|refine ql ?_|fail|((first|refine g_sp_t ?_ ?_|refine g_sp_f ?_ ?_|refine xsC ?_ ?_);all_goals (intro hc;have hp:=hc;try simp at hp;try (exfalso;omega)))|refine jl ?_ ?_)
   all_goals try (exfalso;omega)
   all_goals ((refine jN (rs:=[.tmp 8]) ?_;(repeat' (first|exact jd|apply qQ|exact qL rfl|exact jX|exact xn|apply jv|apply jK|apply jw|apply jI|apply ji|apply jJ|refine xm ?_|apply yg));all_goals rfl))
  ·rw [decide_eq_false he,Bool.false_and]
   refine qc Tryd.func11 rfl _ Tryd.ntmps11 (Nat.le_of_ble_eq_true rfl) _ Tryd.results11 0 rfl rfl ?_
   repeat' (first|refine ql ?_|fail|((first|refine g_sp_t ?_ ?_|refine g_sp_f ?_ ?_|refine xsC ?_ ?_);all_goals (intro hc;have hp:=hc;try simp at hp;try (exfalso;omega)))|refine jl ?_ ?_)
   all_goals try (exfalso;omega)
   all_goals ((refine jN (rs:=[.tmp 8]) ?_;(repeat' (first|exact jd|apply qQ|exact qL rfl|exact jX|exact xn|apply jv|apply jK|apply jw|apply jI|apply ji|apply jJ|refine xm ?_|apply yg));all_goals rfl))
 ·rw [if_neg hw]
  by_cases he:e = w
  ·rw [decide_eq_true he,Bool.true_and]
   refine qc Tryd.func11 rfl _ Tryd.ntmps11 (Nat.le_of_ble_eq_true rfl) _ Tryd.results11 0 rfl rfl ?_
   repeat' (first|refine ql ?_|fail|((first|refine g_sp_t ?_ ?_|refine g_sp_f ?_ ?_|refine xsC ?_ ?_);all_goals (intro hc;have hp:=hc;try simp at hp;try (exfalso;omega)))|refine jl ?_ ?_)
   all_goals try (exfalso;omega)
   all_goals ((refine jN (rs:=[.tmp 8]) ?_;(repeat' (first|exact jd|apply qQ|exact qL rfl|exact jX|exact xn|apply jv|apply jK|apply jw|apply jI|apply ji|apply jJ|refine xm ?_|apply yg));all_goals rfl))
  ·rw [decide_eq_false he,Bool.false_and]
   refine qc Tryd.func11 rfl _ Tryd.ntmps11 (Nat.le_of_ble_eq_true rfl) _ Tryd.results11 0 rfl rfl ?_
   repeat' (first|refine ql ?_|fail|((first|refine g_sp_t ?_ ?_|refine g_sp_f ?_ ?_|refine xsC ?_ ?_);all_goals (intro hc;have hp:=hc;try simp at hp;try (exfalso;omega)))|refine jl ?_ ?_)
   all_goals try (exfalso;omega)
   all_goals ((refine jN (rs:=[.tmp 8]) ?_;(repeat' (first|exact jd|apply qQ|exact qL rfl|exact jX|exact xn|apply jv|apply jK|apply jw|apply jI|apply ji|apply jJ|refine xm ?_|apply yg));all_goals rfl))
theorem J1 (r:Rqt) (h:r.fit):zp C.P 3 [.agg r.row] (.v (.bool true)):=by
 have c1:=Jc r h
 have c2:=Xn r h
 have c3:=Yo
 have c4:=Yn (yp r).1 (yp r).1 (yp r).2 (yp r).2
 have e:(decide ((yp r).2 = (yp r).2) && decide ((yp r).1 = if (yp r).2 = 0 then (yp r).1 else [])) = true:=by
  have:(yp r).2 = 0 ∨ (yp r).1 = []:=by
   unfold yp WS.done
   split
   ·exact .inr rfl
   ·split
    ·exact .inr rfl
    ·exact .inl rfl
  rcases this with h|h
  ·simp [h]
  ·rw [h];simp
 rw [e] at c4
 clear e
 generalize (yp r).1 = t at *
 generalize (yp r).2 = e at *
 unfold Rqt.row at *
 refine qc Tryd.func3 rfl _ Tryd.ntmps3 (Nat.le_of_ble_eq_true rfl) _ Tryd.results3 0 rfl rfl ?_
 repeat' (first|refine ql ?_|(first|refine xsF Tryd.func8 (c1 ..) ?_|refine xsF Tryd.func9 (c2 ..) ?_|refine xsF Tryd.func10 (c3 ..) ?_|refine xsF Tryd.func11 (c4 ..) ?_)|((first|refine g_sp_t ?_ ?_|refine g_sp_f ?_ ?_|refine xsC ?_ ?_);all_goals (intro hc;have hp:=hc;try simp at hp;try (exfalso;omega)))|refine jl ?_ ?_)
 all_goals ((refine jN (rs:=[.tmp 2]) ?_;(repeat' (first|exact jd|apply qQ|exact qL rfl|exact jX|exact xn|apply jv|apply jK|apply jw|apply jI|apply ji|apply jJ|refine xm ?_|apply yg));all_goals rfl))
end Go.Proofs.YtahbbnfmbohmmaaDoor
set_option linter.unusedSimpArgs false
set_option linter.unusedVariables false
namespace Go.Proofs.YtahbbnfmbohmmaaDoor
open Go.Ab Go.RowKit
theorem zg {a:Int} (h:(Lit.int .i64 a).wf = true):xg a:=by
 simp [Lit.wf] at h
 have e1:IntKind.i64.min = -9223372036854775808:=rfl
 have e2:IntKind.i64.max = 9223372036854775807:=rfl
 exact ⟨by omega,by omega⟩
theorem Xf {n:Nat} {xs:List AV} (h:vm C.tab 1000000000 n 97 xs) : ∃ s:Chg,xs = s.row ∧ s.fit:=by
 cases n with
 | zero=>exact h.elim
 | succ n =>
   obtain ⟨_,_,rfl,h0,_,_,rfl,h1,_,_,rfl,h2,_,_,rfl,h3,_,_,rfl,h4,rfl⟩:=(show zy C.tab 0 _ = some _ → Yk (vm C.tab 1000000000 n) [(0,3),(1,9),(2,9),(3,9),(4,3)] xs from h) rfl
   obtain ⟨a0,rfl,l0⟩:=vk h0
   obtain ⟨a1,rfl,l1⟩:=xd h1
   obtain ⟨a2,rfl,l2⟩:=xd h2
   obtain ⟨a3,rfl,l3⟩:=xd h3
   obtain ⟨a4,rfl,l4⟩:=vk h4
   exact ⟨⟨a0,a1,a2,a3,a4⟩,rfl,zg l0,l1,l2,l3,zg l4⟩
theorem Yf {n:Nat} {xs:List AV} (h:vm C.tab 1000000000 n 22 xs) : ∃ t:List Chg,xs = [yk t] ∧ (∀ c,c ∈ t → c.fit) ∧ t.length ≤ 1000000000:=by
 cases n with
 | zero=>exact h.elim
 | succ n =>
   obtain ⟨rows,he,hb,hr⟩:=(show (5:Nat) ≠ 0 → ∃ rows,xs = [AV.sl false rows] ∧ rows.length * 64 ≤ 1000000000 ∧ ∀ row,row ∈ rows → vm C.tab 1000000000 n 97 row from h) (by decide)
   obtain ⟨l,rfl,hl⟩:=Qw (f:=Chg.row) (ok:=Chg.fit) (fun row hrow=>Xf (hr row hrow))
   refine ⟨l,he,hl,?_⟩
   simp at hb;omega
theorem Xg {n:Nat} {xs:List AV} (h:vm C.tab 1000000000 n 24 xs) : ∃ r:Rqt,xs = r.row ∧ r.fit:=by
 cases n with
 | zero=>exact h.elim
 | succ n =>
   obtain ⟨_,_,rfl,h0,_,_,rfl,h1,_,_,rfl,h2,_,_,rfl,h3,_,_,rfl,h4,_,_,rfl,h5,_,_,rfl,h6,_,_,rfl,h7,_,_,rfl,h8,_,_,rfl,h9,rfl⟩:=(show zy C.tab 0 _ = some _ → Yk (vm C.tab 1000000000 n) [(0,3),(1,9),(2,9),(3,9),(4,9),(5,9),(6,3),(7,3),(8,3),(9,22)] xs from h) rfl
   obtain ⟨a0,rfl,l0⟩:=vk h0
   obtain ⟨a1,rfl,l1⟩:=xd h1
   obtain ⟨a2,rfl,l2⟩:=xd h2
   obtain ⟨a3,rfl,l3⟩:=xd h3
   obtain ⟨a4,rfl,l4⟩:=xd h4
   obtain ⟨a5,rfl,l5⟩:=xd h5
   obtain ⟨a6,rfl,l6⟩:=vk h6
   obtain ⟨a7,rfl,l7⟩:=vk h7
   obtain ⟨a8,rfl,l8⟩:=vk h8
   obtain ⟨a9,rfl,l9,l10⟩:=Yf h9
   exact ⟨⟨a0,a1,a2,a3,a4,a5,a6,a7,a8,a9⟩,rfl,zg l0,l1,l2,l3,l4,l5,zg l6,zg l7,zg l8,l9,l10⟩
theorem Xe {y:AV} (h:JG C.tab 1000000000 24 y) : ∃ c,y = .agg (Rqt.row c) ∧ c.fit:=by
 obtain ⟨n,xs,rfl,h2⟩:=(show ∃ n xs,y = .agg xs ∧ vm C.tab 1000000000 n 24 xs from h)
 obtain ⟨c,rfl,hc⟩:=Xg h2
 exact ⟨c,rfl,hc⟩
theorem kE (ys:List AV) (h:kY C.tab 1000000000 [24] ys):zp C.P 3 ys (.v (.bool true)):=by
 obtain ⟨_,_,rfl,h0,rfl⟩:=h
 obtain ⟨a,rfl,ha⟩:=Xe h0
 exact J1 a ha
end Go.Proofs.YtahbbnfmbohmmaaDoor
