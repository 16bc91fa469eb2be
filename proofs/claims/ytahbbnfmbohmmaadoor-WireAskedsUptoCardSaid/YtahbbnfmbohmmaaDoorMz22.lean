import Derived.Test.YtahbbnfmbohmmaaDoorMz17
import Derived.Test.YtahbbnfmbohmmaaDoorMz15
import Derived.Test.YtahbbnfmbohmmaaDoorMz20
import Derived.Test.YtahbbnfmbohmmaaDoorMz3
set_option linter.unusedSimpArgs false
set_option linter.unnecessarySimpa false
set_option linter.unusedVariables false
set_option maxHeartbeats 1000000
namespace Go.Proofs.YtahbbnfmbohmmaaDoor
open Go.Ab Go.RowKit
set_option maxRecDepth 10000
def zv:List PanicEntry:=[{ v := .iface 100 (.agg #[]),recovered:=false }]
@[reducible] def jW (s:qh):HB := .own true 1 [[.v (str s)]]
@[reducible] def ZU:List HB → Prop:=fun H=>H = []
theorem yj {H:List (Nat × HB)} : ∃ H',ZU H' ∧ ∀ n,H'.getD n .dead = qn H n ∨ H'.getD n .dead = .dead:=⟨[],rfl,fun n => .inr rfl⟩
section steps
variable {C' : Cx} {N:Nat} {all:Array Oper} {es:List Eff} {o:Oper} {os:List Oper} {K:List Eff → St → Prop} {ts:List (Nat × AV)} {hs:List (Nat × HB)} {nx:Nat} {gd:List Nat}
theorem jO {f:FuncId} {x:Operand} {first cap:List AV} {args:List Operand} {tys:Array TypeId} {d:Nat} {ty:TypeId} {pos:String} {af:Array Edge} {gg:Option (Nat × Bool)} {ys:List AV} {s:qh} (q:Nat) (keep:List Nat) (hf:IsFn C'.P f)
  (hc:xz C'.P f ys [jW s] zv ZU) (hx:evA (qj ts) x = .clo (.func f) first cap)
  (hdie:C'.die zv [] ((q,.dead) :: (q :: keep).map fun n=>(n,qn hs n)))
  (k:jE C' N all (⟨gd ++ (qU x ++ args.flatMap qU ++ []),q :: keep,some d,jR,[],[]⟩ :: es) ⟨(d,jR) :: ts,hs,nx⟩ os K)
  (hq:qn hs q = jW s:=by rfl)
  (hz:qy (jv 0 [q]) (q :: keep) (qn hs) (first ++ args.map (evA (qj ts)) ++ cap) ys:=by ((repeat' (first|exact jq|apply jf|exact jp rfl|exact jQ|(apply qv;apply jg;exact .inr (of_decide_eq_true rfl))|(apply qv;apply jX;exact .inr (of_decide_eq_true rfl))|(apply qv;apply jr;exact .inr (of_decide_eq_true rfl))|apply jC|apply jD))<;>fail)) (hN:d < N:=by exact nle rfl):qX C' N all gd es ⟨ts,hs,nx⟩ ⟨some d,.call ⟨.value x,args.toArray,tys⟩,ty,pos,af,gg⟩ os K:=by
 refine JV (H:=[jW s]) (HP:=ZU) (ch:=zv) (xs:=first ++ args.map (evA (qj ts)) ++ cap) _ (q :: keep) [q] [] rfl hN (yV f hf x args tys first cap hx) rfl (by simp) (fun n hn=>by simp at hn;simp [hn]) hz ?_ hc ?_ (by simp) k
 ·have hg:vD (jv 0 [q]) (qn hs) [q] [jW s]:=js (jW s) j1 (ja (qP rfl)) hq rfl
  exact fun i n hb hi hj=>zg hg i n hb hi hj
 ·rintro H' rfl
  refine ⟨[(q,.dead)],rfl,fun i n hb hz=>?_,hdie⟩
  have:hb = .dead:=by
   cases i with
   | zero=>simp at hz;exact hz.2.symm
   | succ i=>simp at hz
  subst this
  exact jP
theorem qS {f:FuncId} {args:List Operand} {tys:Array TypeId} {d:Nat} {ty:TypeId} {pos:String} {af:Array Edge} {gg:Option (Nat × Bool)} {ys:List AV} {v:AV} {s r:qh} (q:Nat) (hf:IsFn C'.P f)
  (hc:qp C'.P f ys [jW s] v [jW r])
  (k:jE C' N all (⟨gd ++ (qU (.func f) ++ args.flatMap qU),[q],some d,v,[(q,jW r)],[]⟩ :: es) ⟨(d,v) :: ts,(q,jW r) :: hs,nx⟩ os K)
  (hq:qn hs q = jW s:=by rfl)
  (hz:qy (jv 0 [q]) [q] (qn hs) (args.map (evA (qj ts))) ys:=by ((repeat' (first|exact jq|apply jf|exact jp rfl|exact jQ|(apply qv;apply jg;exact .inr (of_decide_eq_true rfl))|(apply qv;apply jX;exact .inr (of_decide_eq_true rfl))|(apply qv;apply jr;exact .inr (of_decide_eq_true rfl))|apply jC|apply jD))<;>fail)) (hr:v.ren (xJ (jv 0 [q])) = v:=by rfl) (hN:d < N:=by exact nle rfl):vC C' N all gd es ⟨ts,hs,nx⟩ f args d tys ty pos af gg os K :=
 xo [q] [] [(q,jW r)] nx v hf hc hz (js (jW s) j1 (ja (qP rfl)) hq rfl) (qZ (ja (qP rfl)) jS) k hr rfl rfl (Nat.le_of_ble_eq_true rfl) (by simp) rfl (fun n hn=>by cases hn) (Nat.le_refl _) hN
end steps
theorem yt {L:List (Nat × Nat)} {nh:Nat} {σ:St} {q q' : Nat} {s s' : qh} {rest:List (Nat × HB)} (hq:qn σ.hs q = jW s) (h1:Maps L nh q q') (hs:s = s') (hr:jN L nh σ rest):jN L nh σ ((q',jW s') :: rest):=by
 subst hs
 exact ⟨⟨q,h1,by rw [hq];exact ⟨id,rfl,jY (qP rfl) yd⟩⟩,hr⟩
attribute [local irreducible] Awp jE qX qG Red qx Go.Ab.Fin qp Rz yI qE qB ResOk je qJ jx qy
set_option maxHeartbeats 1000000 in
theorem jT (s r:qh) (n:Int) (hs:s.length ≤ 1000000000) (h:jd s = some (n,r)):qp C1.P 30 [.op 0 0 0] [jW s] (.v (.int .i64 n)) [jW r]:=by
 unfold jd at h
 cases hc:vx s with
 | none=>rw [hc] at h;cases h
 | some z =>
   obtain ⟨t,r'⟩:=z
   rw [hc] at h
   simp only at h
   by_cases hok:∃ m,Lib.atoiAll t = .ok m
   case neg =>
    cases ha:Lib.atoiAll t with
    | ok m=>exact absurd ⟨m,ha⟩ hok
    | _=>rw [ha] at h;cases h
   case pos =>
     obtain ⟨m,ha⟩:=hok
     rw [ha] at h
     simp only at h
     split at h
     case isFalse=>cases h
     rename_i hit
     injection h with h
     injection h with e1 e2
     subst e1 e2 hit
     have hb:=Lib.atoiAll_bounds ha
     have hl:=zb hc
     have htl:(Lib.itoa m).length ≤ 1000000000:=by
      have:=congrArg List.length hl.1
      simp at this
      omega
     have c1:=YZ s _ r' hs hc
     have c2:=YY _ m htl ha
     have c3:=vE m hb.1 hb.2
     clear hl hc ha hs htl hb
     generalize Lib.itoa m = t at *
     refine qe (C:=C1) Tryd.func30 rfl _ Tryd.ntmps30 (Nat.le_of_ble_eq_true rfl) _ Tryd.results30 1 rfl rfl ?_
     repeat' (first|refine qm ?_|(first|refine xsF Tryd.func59 (c1 ..) ?_|refine xsF Tryd.func60 (c2 ..) ?_|refine xsF Tryd.func53 (c3 ..) ?_|(apply qo;apply kS;(first|exact .inl ⟨rfl,rfl⟩|exact .inr ⟨rfl,rfl⟩);exact Tryd.underlying90;(first|exact .inl rfl|exact .inr rfl);exact nle rfl))|((first|(apply qb;rfl;rfl;exact nle rfl)|(apply qa;rfl;rfl;exact nle rfl)|refine xsC ?_ ?_);all_goals (intro hc;have hp:=hc;try simp at hp;try (exfalso;omega)))|refine jl ?_ ?_)
     all_goals try (exfalso;simp at hc;done)
     all_goals ((apply qu (rs:=[.tmp 2]) [] 1;(case hr=>(repeat (first|exact qk|(apply ql;rfl)|(apply qi;rfl;rfl;rfl;rfl;rfl))));(case hL=>rfl);(case hh=>refine yt (q:=0) rfl (qf rfl) ?_ qg;all_goals (first|(with_reducible rfl)|rfl));(case hi=>exact rfl);(case hz=>first|rfl|(simp [jt,AV.ren,AV.ren.renL,qQ,qj,qK];done))))
theorem k9 (t:qh) (ht:t.length ≤ 1000000000):(∃ n,Lib.atoiAll t = .ok n ∧ xN n ∧ kg C.P 60 [.v (str t)] (.tup [.v (.int .i64 n),.v .nilIface])) ∨ ∃ n,(∀ m, ¬ Lib.atoiAll t = .ok m) ∧ xN n ∧ kg C.P 60 [.v (str t)] (.tup [.v (.int .i64 n),.errv]):=by
 cases h:Lib.atoiAll t with
 | ok n=>exact .inl ⟨n,rfl,Lib.atoiAll_bounds h,YY t n ht h⟩
 | range=>exact .inr ⟨_,by simp,Lib.atoiSat_bounds t,Zv t ht h⟩
 | _=>exact .inr ⟨0,by simp,⟨by decide,by decide⟩,Zw t ht h⟩
set_option maxHeartbeats 2000000 in
theorem yR (s:qh) (hs:s.length ≤ 1000000000) (h:jd s = none):xz C1.P 30 [.op 0 0 0] [jW s] zv ZU:=by
 unfold jd at h
 cases hc:vx s with
 | none =>
   have c1:=Zz s hc
   rcases k9 s hs with ⟨n,ha,hb,c2⟩|⟨n,ha,hb,c2⟩
   all_goals
    have c3:=vE n hb.1 hb.2
    clear h hc ha hb
    generalize Lib.itoa n = t2 at *
    refine qA (C:=C1) Tryd.func30 rfl _ Tryd.ntmps30 (Nat.le_of_ble_eq_true rfl) 1 rfl rfl ?_
    repeat' (first|refine qm ?_|(first|refine xsF Tryd.func59 (c1 ..) ?_|refine xsF Tryd.func60 (c2 ..) ?_|refine xsQ Tryd.func60 (c2 ..) ?_|refine xsF Tryd.func53 (c3 ..) ?_|(apply qo;apply kS;(first|exact .inl ⟨rfl,rfl⟩|exact .inr ⟨rfl,rfl⟩);exact Tryd.underlying90;(first|exact .inl rfl|exact .inr rfl);exact nle rfl)|(apply qo;apply vJ;rfl;kernel_rfl;exact nle rfl)|((refine xE 33 [] rfl ⟨rfl,yj⟩ ?_);(repeat (first|exact qL 33 rfl|exact ⟨33,rfl⟩|refine qM (d:=33) rfl (nle rfl) ?_|(apply qT;exact nle rfl;refine ⟨?_,?_⟩;(first|exact fun h=>absurd h Bool.false_ne_true|(intro _;kernel_rfl)))));done))|((first|(apply qb;rfl;rfl;exact nle rfl)|(apply qa;rfl;rfl;exact nle rfl)|refine xsC ?_ ?_);all_goals (intro hc;have hp:=hc;try simp at hp;try (exfalso;omega)))|refine jl ?_ ?_)
 | some z =>
   obtain ⟨t,r⟩:=z
   rw [hc] at h
   simp only at h
   have c1:=YZ s t r hs hc
   have htl:t.length ≤ 1000000000:=by
    have:=congrArg List.length (zb hc).1
    simp at this
    omega
   rcases k9 t htl with ⟨n,ha,hb,c2⟩|⟨n,ha,hb,c2⟩
   ·rw [ha] at h
    simp only at h
    have hne:¬ Lib.itoa n = t:=fun e=>by rw [if_pos e] at h;cases h
    have c3:=vE n hb.1 hb.2
    clear h hc ha hb
    generalize Lib.itoa n = t2 at *
    refine qA (C:=C1) Tryd.func30 rfl _ Tryd.ntmps30 (Nat.le_of_ble_eq_true rfl) 1 rfl rfl ?_
    repeat' (first|refine qm ?_|(first|refine xsF Tryd.func59 (c1 ..) ?_|refine xsF Tryd.func60 (c2 ..) ?_|refine xsQ Tryd.func60 (c2 ..) ?_|refine xsF Tryd.func53 (c3 ..) ?_|(apply qo;apply kS;(first|exact .inl ⟨rfl,rfl⟩|exact .inr ⟨rfl,rfl⟩);exact Tryd.underlying90;(first|exact .inl rfl|exact .inr rfl);exact nle rfl)|(apply qo;apply vJ;rfl;kernel_rfl;exact nle rfl)|((refine xE 33 [] rfl ⟨rfl,yj⟩ ?_);(repeat (first|exact qL 33 rfl|exact ⟨33,rfl⟩|refine qM (d:=33) rfl (nle rfl) ?_|(apply qT;exact nle rfl;refine ⟨?_,?_⟩;(first|exact fun h=>absurd h Bool.false_ne_true|(intro _;kernel_rfl)))));done))|((first|(apply qb;rfl;rfl;exact nle rfl)|(apply qa;rfl;rfl;exact nle rfl)|refine xsC ?_ ?_);all_goals (intro hc;have hp:=hc;try simp at hp;try (exfalso;omega)))|refine jl ?_ ?_)
    all_goals ((exfalso;simp_all;done))
   ·have c3:=vE n hb.1 hb.2
    clear h hc ha hb
    generalize Lib.itoa n = t2 at *
    refine qA (C:=C1) Tryd.func30 rfl _ Tryd.ntmps30 (Nat.le_of_ble_eq_true rfl) 1 rfl rfl ?_
    repeat' (first|refine qm ?_|(first|refine xsF Tryd.func59 (c1 ..) ?_|refine xsF Tryd.func60 (c2 ..) ?_|refine xsQ Tryd.func60 (c2 ..) ?_|refine xsF Tryd.func53 (c3 ..) ?_|(apply qo;apply kS;(first|exact .inl ⟨rfl,rfl⟩|exact .inr ⟨rfl,rfl⟩);exact Tryd.underlying90;(first|exact .inl rfl|exact .inr rfl);exact nle rfl)|(apply qo;apply vJ;rfl;kernel_rfl;exact nle rfl)|((refine xE 33 [] rfl ⟨rfl,yj⟩ ?_);(repeat (first|exact qL 33 rfl|exact ⟨33,rfl⟩|refine qM (d:=33) rfl (nle rfl) ?_|(apply qT;exact nle rfl;refine ⟨?_,?_⟩;(first|exact fun h=>absurd h Bool.false_ne_true|(intro _;kernel_rfl)))));done))|((first|(apply qb;rfl;rfl;exact nle rfl)|(apply qa;rfl;rfl;exact nle rfl)|refine xsC ?_ ?_);all_goals (intro hc;have hp:=hc;try simp at hp;try (exfalso;omega)))|refine jl ?_ ?_)
theorem wo {most n:Int} {s r:qh} (h:jd s = some (n,r)):(yK most s = some (n,r) ∧ 0 ≤ n ∧ n ≤ most) ∨ (yK most s = none ∧ (n < 0 ∨ most < n)):=by
 unfold yK
 rw [h]
 simp only
 by_cases hb:n < 0 ∨ most < n
 ·rw [if_pos hb];exact .inr ⟨rfl,hb⟩
 ·rw [if_neg hb];exact .inl ⟨rfl,by omega,by omega⟩
theorem XJ {most:Int} {s:qh} (h:yK most s = none):jd s = none ∨ ∃ n r,jd s = some (n,r) ∧ (n < 0 ∨ most < n):=by
 cases hn:jd s with
 | none=>exact .inl rfl
 | some z =>
   obtain ⟨n,r⟩:=z
   rcases wo (most:=most) hn with ⟨h1,_⟩|⟨_,h2⟩
   ·rw [h1] at h;cases h
   ·exact .inr ⟨n,r,rfl,h2⟩
theorem qR {s r:qh} {n:Int} (h:jd s = some (n,r)):r.length ≤ s.length:=by
 rw [(xZ h).1,List.length_append];omega
end Go.Proofs.YtahbbnfmbohmmaaDoor
set_option linter.unusedSimpArgs false
set_option linter.unnecessarySimpa false
set_option linter.unusedVariables false
set_option maxHeartbeats 1000000
namespace Go.Proofs.YtahbbnfmbohmmaaDoor
open Go.Ab Go.RowKit
set_option maxRecDepth 10000
attribute [local irreducible] Awp jE qX qG Red qx Go.Ab.Fin qp Rz yI qE qB ResOk je qJ jx qy
theorem Xk (most:Int) (s r:qh) (n:Int) (hs:s.length ≤ 1000000000) (h:yK most s = some (n,r)):qp C1.P 61 [.op 0 0 0,.v (.int .i64 most)] [jW s] (.v (.int .i64 n)) [jW r]:=by
 obtain ⟨h1,h2,h3⟩ : jd s = some (n,r) ∧ 0 ≤ n ∧ n ≤ most:=by
  have hh:=h
  unfold yK at hh
  cases hn:jd s with
  | none=>rw [hn] at hh;cases hh
  | some z =>
    obtain ⟨m,r'⟩:=z
    rcases wo (most:=most) hn with ⟨e,a,b⟩|⟨e,_⟩
    ·rw [e] at h;injection h with h;injection h with x y;subst x y;exact ⟨rfl,a,b⟩
    ·rw [e] at h;cases h
 have c1:=jT s r n hs h1
 clear h h1
 refine qe (C:=C1) Tryd.func61 rfl _ Tryd.ntmps61 (Nat.le_of_ble_eq_true rfl) _ Tryd.results61 1 rfl rfl ?_
 repeat' (first|refine qm ?_|(first|(apply qc Tryd.func30 rfl rfl;intro hIsFn;refine qS 0 hIsFn (c1) ?_))|((first|(apply qb;rfl;rfl;exact nle rfl)|(apply qa;rfl;rfl;exact nle rfl)|refine xsC ?_ ?_);all_goals (intro hc;have hp:=hc;try simp at hp;try (exfalso;omega)))|refine jl ?_ ?_)
 all_goals try (exfalso;omega)
 all_goals ((apply qu (rs:=[.tmp 4]) [] 1;(case hr=>(repeat (first|exact qk|(apply ql;rfl)|(apply qi;rfl;rfl;rfl;rfl;rfl))));(case hL=>rfl);(case hh=>refine yt (q:=0) rfl (qf rfl) ?_ qg;all_goals (first|(with_reducible rfl)|rfl));(case hi=>exact rfl);(case hz=>first|rfl|(simp [jt,AV.ren,AV.ren.renL,qQ,qj,qK];done))))
theorem QG (most:Int) (s:qh) (hs:s.length ≤ 1000000000) (h:yK most s = none):xz C1.P 61 [.op 0 0 0,.v (.int .i64 most)] [jW s] zv ZU:=by
 rcases XJ h with h1|⟨n,r,h1,h2⟩
 ·have c1:=yR s hs h1
  refine qA (C:=C1) Tryd.func61 rfl _ Tryd.ntmps61 (Nat.le_of_ble_eq_true rfl) 1 rfl rfl ?_
  repeat' (first|refine qm ?_|(first|((refine jO (first:=[]) (cap:=[]) 0 [] (jh Tryd.func30 rfl rfl) (c1) rfl (⟨rfl,yj⟩) ?_);(repeat (first|exact qL 7 rfl|exact ⟨7,rfl⟩|refine qM (d:=7) rfl (nle rfl) ?_|(apply qT;exact nle rfl;refine ⟨?_,?_⟩;(first|exact fun h=>absurd h Bool.false_ne_true|(intro _;kernel_rfl)))));done))|((first|(apply qb;rfl;rfl;exact nle rfl)|(apply qa;rfl;rfl;exact nle rfl)|refine xsC ?_ ?_);all_goals (intro hc;have hp:=hc;try simp at hp;try (exfalso;omega)))|refine jl ?_ ?_)
 ·have c1:=jT s r n hs h1
  clear h h1
  refine qA (C:=C1) Tryd.func61 rfl _ Tryd.ntmps61 (Nat.le_of_ble_eq_true rfl) 1 rfl rfl ?_
  repeat' (first|refine qm ?_|(first|(apply qc Tryd.func30 rfl rfl;intro hIsFn;refine qS 0 hIsFn (c1) ?_)|(apply qo;apply vJ;rfl;kernel_rfl;exact nle rfl)|((refine xE 6 [] rfl ⟨rfl,yj⟩ ?_);(repeat (first|exact qL 6 rfl|exact ⟨6,rfl⟩|refine qM (d:=6) rfl (nle rfl) ?_|(apply qT;exact nle rfl;refine ⟨?_,?_⟩;(first|exact fun h=>absurd h Bool.false_ne_true|(intro _;kernel_rfl)))));done))|((first|(apply qb;rfl;rfl;exact nle rfl)|(apply qa;rfl;rfl;exact nle rfl)|refine xsC ?_ ?_);all_goals (intro hc;have hp:=hc;try simp at hp;try (exfalso;omega)))|refine jl ?_ ?_)
  all_goals ((exfalso;omega))
end Go.Proofs.YtahbbnfmbohmmaaDoor
set_option linter.unusedSimpArgs false
set_option linter.unnecessarySimpa false
set_option linter.unusedVariables false
set_option maxHeartbeats 1000000
namespace Go.Proofs.YtahbbnfmbohmmaaDoor
open Go.Ab Go.RowKit
set_option maxRecDepth 10000
attribute [local irreducible] Awp jE qX qG Red qx Go.Ab.Fin qp Rz yI qE qB ResOk je qJ jx qy
theorem Zm {s:qh} {t r:qh} (h:qI s = some (t,r)) : ∃ (k:Nat) (r0:qh),yK s.length s = some ((k:Int),r0) ∧ k ≤ r0.length ∧ t = r0.take k ∧ r = r0.drop k:=by
 unfold qI at h
 split at h
 ·cases h
 ·rename_i n r0 hc
  split at h
  ·cases h
  ·rename_i hb
   injection h with h
   injection h with h1 h2
   obtain ⟨_,_,h0,_⟩:=yL hc
   refine ⟨n.toNat,r0,by rw [hc,Int.toNat_of_nonneg h0],by omega,h1.symm,h2.symm⟩
theorem Vd {s:qh} (h:qI s = none):yK s.length s = none ∨ ∃ (k:Nat) (r0:qh),yK s.length s = some ((k:Int),r0) ∧ r0.length < k ∧ k ≤ s.length:=by
 cases hc:yK s.length s with
 | none=>exact .inl rfl
 | some z =>
   obtain ⟨n,r0⟩:=z
   right
   obtain ⟨_,_,h0,h1⟩:=yL hc
   unfold qI at h
   rw [hc] at h
   simp only at h
   split at h
   ·rename_i hb
    exact ⟨n.toNat,r0,by rw [Int.toNat_of_nonneg h0],by omega,by omega⟩
   ·cases h
theorem wq {most:Int} {s r:qh} {n:Int} (h:yK most s = some (n,r)):r.length ≤ s.length:=by
 rw [(yL h).1,List.length_append];omega
set_option maxHeartbeats 1000000 in
theorem ji (s t r:qh) (hs:s.length ≤ 1000000000) (h:qI s = some (t,r)):qp C1.P 31 [.op 0 0 0] [jW s] (.v (str t)) [jW r]:=by
 obtain ⟨k,r0,h1,h2,rfl,rfl⟩:=Zm h
 have c1:=Xk _ s r0 k hs h1
 have hr:=wq h1
 clear h h1
 refine qe (C:=C1) Tryd.func31 rfl _ Tryd.ntmps31 (Nat.le_of_ble_eq_true rfl) _ Tryd.results31 1 rfl rfl ?_
 repeat' (first|refine qm ?_|(first|(apply qc Tryd.func61 rfl rfl;intro hIsFn;refine qS 0 hIsFn (c1) ?_)|(refine V1 ?_))|((first|(apply qb;rfl;rfl;exact nle rfl)|(apply qa;rfl;rfl;exact nle rfl)|refine xsC ?_ ?_);all_goals (intro hc;have hp:=hc;try simp at hp;try (exfalso;omega)))|refine jl ?_ ?_)
 all_goals try (exfalso;omega)
 all_goals ((apply qu (rs:=[.tmp 2]) [] 1;(case hr=>(repeat (first|exact qk|(apply ql;rfl)|(apply qi;rfl;rfl;rfl;rfl;rfl))));(case hL=>rfl);(case hh=>refine yt (q:=0) rfl (qf rfl) ?_ qg;all_goals (first|(with_reducible rfl)|first|(rw [List.take_length];done)|rfl));(case hi=>exact rfl);(case hz=>first|rfl|(simp [jt,AV.ren,AV.ren.renL,qQ,qj,qK];done))))
theorem yz (s:qh) (hs:s.length ≤ 1000000000) (h:qI s = none):xz C1.P 31 [.op 0 0 0] [jW s] zv ZU:=by
 rcases Vd h with h1|⟨k,r0,h1,h2,h3⟩
 ·have c1:=QG _ s hs h1
  refine qA (C:=C1) Tryd.func31 rfl _ Tryd.ntmps31 (Nat.le_of_ble_eq_true rfl) 1 rfl rfl ?_
  repeat' (first|refine qm ?_|(first|((refine jO (first:=[]) (cap:=[]) 0 [] (jh Tryd.func61 rfl rfl) (c1) rfl (⟨rfl,yj⟩) ?_);(repeat (first|exact qL 11 rfl|exact ⟨11,rfl⟩|refine qM (d:=11) rfl (nle rfl) ?_|(apply qT;exact nle rfl;refine ⟨?_,?_⟩;(first|exact fun h=>absurd h Bool.false_ne_true|(intro _;kernel_rfl)))));done))|((first|(apply qb;rfl;rfl;exact nle rfl)|(apply qa;rfl;rfl;exact nle rfl)|refine xsC ?_ ?_);all_goals (intro hc;have hp:=hc;try simp at hp;try (exfalso;omega)))|refine jl ?_ ?_)
 ·have c1:=Xk _ s r0 k hs h1
  clear h h1
  refine qA (C:=C1) Tryd.func31 rfl _ Tryd.ntmps31 (Nat.le_of_ble_eq_true rfl) 1 rfl rfl ?_
  repeat' (first|refine qm ?_|(first|(apply qc Tryd.func61 rfl rfl;intro hIsFn;refine qS 0 hIsFn (c1) ?_)|(apply qo;apply vJ;rfl;kernel_rfl;exact nle rfl)|((refine xE 11 [] rfl ⟨rfl,yj⟩ ?_);(repeat (first|exact qL 11 rfl|exact ⟨11,rfl⟩|refine qM (d:=11) rfl (nle rfl) ?_|(apply qT;exact nle rfl;refine ⟨?_,?_⟩;(first|exact fun h=>absurd h Bool.false_ne_true|(intro _;kernel_rfl)))));done)|(refine V1 ?_))|((first|(apply qb;rfl;rfl;exact nle rfl)|(apply qa;rfl;rfl;exact nle rfl)|refine xsC ?_ ?_);all_goals (intro hc;have hp:=hc;try simp at hp;try (exfalso;omega)))|refine jl ?_ ?_)
  all_goals ((exfalso;omega))
end Go.Proofs.YtahbbnfmbohmmaaDoor
