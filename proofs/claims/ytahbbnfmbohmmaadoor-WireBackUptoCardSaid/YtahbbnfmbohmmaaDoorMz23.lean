import Derived.Test.YtahbbnfmbohmmaaDoorMz17
import Derived.Test.YtahbbnfmbohmmaaDoorMz15
import Derived.Test.YtahbbnfmbohmmaaDoorMz20
import Derived.Test.YtahbbnfmbohmmaaDoorMz3
set_option linter.unusedSimpArgs false
set_option linter.unnecessarySimpa false
set_option linter.unusedVariables false
set_option maxHeartbeats 1000000
namespace Go.Proofs.YtahbbnfmbohmmaaDoor
open Go.Ab Go.RowKit
set_option maxRecDepth 10000
def xX:List PanicEntry:=[{ v := .iface 100 (.agg #[]),recovered:=false }]
@[reducible] def jo (s:qj):HB := .own true 1 [[.v (str s)]]
@[reducible] def Xl:List HB → Prop:=fun H=>H = []
theorem jD {H:List (Nat × HB)} : ∃ H',Xl H' ∧ ∀ n,H'.getD n .dead = qm H n ∨ H'.getD n .dead = .dead:=⟨[],rfl,fun n => .inr rfl⟩
section steps
variable {C' : Cx} {N:Nat} {all:Array Oper} {es:List Eff} {o:Oper} {os:List Oper} {K:List Eff → St → Prop} {ts:List (Nat × AV)} {hs:List (Nat × HB)} {nx:Nat} {gd:List Nat}
theorem jq {f:FuncId} {x:Operand} {first cap:List AV} {args:List Operand} {tys:Array TypeId} {d:Nat} {ty:TypeId} {pos:String} {af:Array Edge} {gg:Option (Nat × Bool)} {ys:List AV} {s:qj} (q:Nat) (keep:List Nat) (hf:IsFn C'.P f)
  (hc:yq C'.P f ys [jo s] xX Xl) (hx:evA (qn ts) x = .clo (.func f) first cap)
  (hdie:C'.die xX [] ((q,.dead) :: (q :: keep).map fun n=>(n,qm hs n)))
  (k:jE C' N all (⟨gd ++ (ji x ++ args.flatMap ji ++ []),q :: keep,some d,j1,[],[]⟩ :: es) ⟨(d,j1) :: ts,hs,nx⟩ os K)
  (hq:qm hs q = jo s:=by rfl)
  (hz:qB (jv 0 [q]) (q :: keep) (qm hs) (first ++ args.map (evA (qn ts)) ++ cap) ys:=by ((repeat' (first|exact je|apply qX|exact jd rfl|exact jF|(apply qo;apply qT;exact .inr (of_decide_eq_true rfl))|(apply qo;apply jN;exact .inr (of_decide_eq_true rfl))|(apply qo;apply jn;exact .inr (of_decide_eq_true rfl))|apply jw|apply jx))<;>fail)) (hN:d < N:=by exact nle rfl):qY C' N all gd es ⟨ts,hs,nx⟩ ⟨some d,.call ⟨.value x,args.toArray,tys⟩,ty,pos,af,gg⟩ os K:=by
 refine QN (H:=[jo s]) (HP:=Xl) (ch:=xX) (xs:=first ++ args.map (evA (qn ts)) ++ cap) _ (q :: keep) [q] [] rfl hN (xa f hf x args tys first cap hx) rfl (by simp) (fun n hn=>by simp at hn;simp [hn]) hz ?_ hc ?_ (by simp) k
 ·have hg:vy (jv 0 [q]) (qm hs) [q] [jo s]:=jr (jo s) yb (qW (jf rfl)) hq rfl
  exact fun i n hb hi hj=>vC hg i n hb hi hj
 ·rintro H' rfl
  refine ⟨[(q,.dead)],rfl,fun i n hb hz=>?_,hdie⟩
  have:hb = .dead:=by
   cases i with
   | zero=>simp at hz;exact hz.2.symm
   | succ i=>simp at hz
  subst this
  exact jO
theorem qH {f:FuncId} {args:List Operand} {tys:Array TypeId} {d:Nat} {ty:TypeId} {pos:String} {af:Array Edge} {gg:Option (Nat × Bool)} {ys:List AV} {v:AV} {s r:qj} (q:Nat) (hf:IsFn C'.P f)
  (hc:qp C'.P f ys [jo s] v [jo r])
  (k:jE C' N all (⟨gd ++ (ji (.func f) ++ args.flatMap ji),[q],some d,v,[(q,jo r)],[]⟩ :: es) ⟨(d,v) :: ts,(q,jo r) :: hs,nx⟩ os K)
  (hq:qm hs q = jo s:=by rfl)
  (hz:qB (jv 0 [q]) [q] (qm hs) (args.map (evA (qn ts))) ys:=by ((repeat' (first|exact je|apply qX|exact jd rfl|exact jF|(apply qo;apply qT;exact .inr (of_decide_eq_true rfl))|(apply qo;apply jN;exact .inr (of_decide_eq_true rfl))|(apply qo;apply jn;exact .inr (of_decide_eq_true rfl))|apply jw|apply jx))<;>fail)) (hr:v.ren (xj (jv 0 [q])) = v:=by rfl) (hN:d < N:=by exact nle rfl):vp C' N all gd es ⟨ts,hs,nx⟩ f args d tys ty pos af gg os K :=
 yV [q] [] [(q,jo r)] nx v hf hc hz (jr (jo s) yb (qW (jf rfl)) hq rfl) (qM (qW (jf rfl)) jP) k hr rfl rfl (Nat.le_of_ble_eq_true rfl) (by simp) rfl (fun n hn=>by cases hn) (Nat.le_refl _) hN
end steps
theorem yr {L:List (Nat × Nat)} {nh:Nat} {σ:St} {q q' : Nat} {s s' : qj} {rest:List (Nat × HB)} (hq:qm σ.hs q = jo s) (h1:Maps L nh q q') (hs:s = s') (hr:j4 L nh σ rest):j4 L nh σ ((q',jo s') :: rest):=by
 subst hs
 exact ⟨⟨q,h1,by rw [hq];exact ⟨id,rfl,yl (jf rfl) yC⟩⟩,hr⟩
attribute [local irreducible] Awp jE qY qK Red qA Go.Ab.Fin qp Rz yL qJ qE ResOk jl qL jA qB
set_option maxHeartbeats 1000000 in
theorem jt (s r:qj) (n:Int) (hs:s.length ≤ 1000000000) (h:qO s = some (n,r)):qp C1.P 30 [.op 0 0 0] [jo s] (.v (.int .i64 n)) [jo r]:=by
 unfold qO at h
 cases hc:zg s with
 | none=>rw [hc] at h;cases h
 | some z =>
   obtain ⟨t,r'⟩:=z
   rw [hc] at h
   simp only at h
   by_cases hok:∃ m,Lib.atoiAll t = .ok m
   case neg =>
    cases ha:Lib.atoiAll t with
    | ok m=>exact absurd ⟨m,ha⟩ hok
    | _=>rw [ha] at h;cases h
   case pos =>
     obtain ⟨m,ha⟩:=hok
     rw [ha] at h
     simp only at h
     split at h
     case isFalse=>cases h
     rename_i hit
     injection h with h
     injection h with e1 e2
     subst e1 e2 hit
     have hb:=Lib.atoiAll_bounds ha
     have hl:=zH hc
     have htl:(Lib.itoa m).length ≤ 1000000000:=by
      have:=congrArg List.length hl.1
      simp at this
      omega
     have c1:=Vj s _ r' hs hc
     have c2:=Vi _ m htl ha
     have c3:=zl m hb.1 hb.2
     clear hl hc ha hs htl hb
     generalize Lib.itoa m = t at *
     refine qf (C:=C1) Tryd.func30 rfl _ Tryd.ntmps30 (Nat.le_of_ble_eq_true rfl) _ Tryd.results30 1 rfl rfl ?_
     repeat' (first|refine qk ?_|(first|refine xsF Tryd.func59 (c1 ..) ?_|refine xsF Tryd.func60 (c2 ..) ?_|refine xsF Tryd.func53 (c3 ..) ?_|(apply qt;apply wO;(first|exact .inl ⟨rfl,rfl⟩|exact .inr ⟨rfl,rfl⟩);exact Tryd.underlying90;(first|exact .inl rfl|exact .inr rfl);exact nle rfl))|((first|(apply qb;rfl;rfl;exact nle rfl)|(apply qa;rfl;rfl;exact nle rfl)|refine xsC ?_ ?_);all_goals (intro hc;have hp:=hc;try simp at hp;try (exfalso;omega)))|refine jm ?_ ?_)
     all_goals try (exfalso;simp at hc;done)
     all_goals ((apply qD (rs:=[.tmp 2]) [] 1;(case hr=>(repeat (first|exact qw|(apply qx;rfl)|(apply qu;rfl;rfl;rfl;rfl;rfl))));(case hL=>rfl);(case hh=>refine yr (q:=0) rfl (qd rfl) ?_ qh;all_goals (first|(with_reducible rfl)|rfl));(case hi=>exact rfl);(case hz=>first|rfl|(simp [jQ,AV.ren,AV.ren.renL,js,qn,jh];done))))
theorem Qd (t:qj) (ht:t.length ≤ 1000000000):(∃ n,Lib.atoiAll t = .ok n ∧ xo n ∧ zb C.P 60 [.v (str t)] (.tup [.v (.int .i64 n),.v .nilIface])) ∨ ∃ n,(∀ m, ¬ Lib.atoiAll t = .ok m) ∧ xo n ∧ zb C.P 60 [.v (str t)] (.tup [.v (.int .i64 n),.errv]):=by
 cases h:Lib.atoiAll t with
 | ok n=>exact .inl ⟨n,rfl,Lib.atoiAll_bounds h,Vi t n ht h⟩
 | range=>exact .inr ⟨_,by simp,Lib.atoiSat_bounds t,KX t ht h⟩
 | _=>exact .inr ⟨0,by simp,⟨by decide,by decide⟩,KY t ht h⟩
set_option maxHeartbeats 2000000 in
theorem j8 (s:qj) (hs:s.length ≤ 1000000000) (h:qO s = none):yq C1.P 30 [.op 0 0 0] [jo s] xX Xl:=by
 unfold qO at h
 cases hc:zg s with
 | none =>
   have c1:=K1 s hc
   rcases Qd s hs with ⟨n,ha,hb,c2⟩|⟨n,ha,hb,c2⟩
   all_goals
    have c3:=zl n hb.1 hb.2
    clear h hc ha hb
    generalize Lib.itoa n = t2 at *
    refine qq (C:=C1) Tryd.func30 rfl _ Tryd.ntmps30 (Nat.le_of_ble_eq_true rfl) 1 rfl rfl ?_
    repeat' (first|refine qk ?_|(first|refine xsF Tryd.func59 (c1 ..) ?_|refine xsF Tryd.func60 (c2 ..) ?_|refine xsQ Tryd.func60 (c2 ..) ?_|refine xsF Tryd.func53 (c3 ..) ?_|(apply qt;apply wO;(first|exact .inl ⟨rfl,rfl⟩|exact .inr ⟨rfl,rfl⟩);exact Tryd.underlying90;(first|exact .inl rfl|exact .inr rfl);exact nle rfl)|(apply qt;apply zr;rfl;kernel_rfl;exact nle rfl)|((refine vh 33 [] rfl ⟨rfl,jD⟩ ?_);(repeat (first|exact qy 33 rfl|exact ⟨33,rfl⟩|refine qz (d:=33) rfl (nle rfl) ?_|(apply qC;exact nle rfl;refine ⟨?_,?_⟩;(first|exact fun h=>absurd h Bool.false_ne_true|(intro _;kernel_rfl)))));done))|((first|(apply qb;rfl;rfl;exact nle rfl)|(apply qa;rfl;rfl;exact nle rfl)|refine xsC ?_ ?_);all_goals (intro hc;have hp:=hc;try simp at hp;try (exfalso;omega)))|refine jm ?_ ?_)
 | some z =>
   obtain ⟨t,r⟩:=z
   rw [hc] at h
   simp only at h
   have c1:=Vj s t r hs hc
   have htl:t.length ≤ 1000000000:=by
    have:=congrArg List.length (zH hc).1
    simp at this
    omega
   rcases Qd t htl with ⟨n,ha,hb,c2⟩|⟨n,ha,hb,c2⟩
   ·rw [ha] at h
    simp only at h
    have hne:¬ Lib.itoa n = t:=fun e=>by rw [if_pos e] at h;cases h
    have c3:=zl n hb.1 hb.2
    clear h hc ha hb
    generalize Lib.itoa n = t2 at *
    refine qq (C:=C1) Tryd.func30 rfl _ Tryd.ntmps30 (Nat.le_of_ble_eq_true rfl) 1 rfl rfl ?_
    repeat' (first|refine qk ?_|(first|refine xsF Tryd.func59 (c1 ..) ?_|refine xsF Tryd.func60 (c2 ..) ?_|refine xsQ Tryd.func60 (c2 ..) ?_|refine xsF Tryd.func53 (c3 ..) ?_|(apply qt;apply wO;(first|exact .inl ⟨rfl,rfl⟩|exact .inr ⟨rfl,rfl⟩);exact Tryd.underlying90;(first|exact .inl rfl|exact .inr rfl);exact nle rfl)|(apply qt;apply zr;rfl;kernel_rfl;exact nle rfl)|((refine vh 33 [] rfl ⟨rfl,jD⟩ ?_);(repeat (first|exact qy 33 rfl|exact ⟨33,rfl⟩|refine qz (d:=33) rfl (nle rfl) ?_|(apply qC;exact nle rfl;refine ⟨?_,?_⟩;(first|exact fun h=>absurd h Bool.false_ne_true|(intro _;kernel_rfl)))));done))|((first|(apply qb;rfl;rfl;exact nle rfl)|(apply qa;rfl;rfl;exact nle rfl)|refine xsC ?_ ?_);all_goals (intro hc;have hp:=hc;try simp at hp;try (exfalso;omega)))|refine jm ?_ ?_)
    all_goals ((exfalso;simp_all;done))
   ·have c3:=zl n hb.1 hb.2
    clear h hc ha hb
    generalize Lib.itoa n = t2 at *
    refine qq (C:=C1) Tryd.func30 rfl _ Tryd.ntmps30 (Nat.le_of_ble_eq_true rfl) 1 rfl rfl ?_
    repeat' (first|refine qk ?_|(first|refine xsF Tryd.func59 (c1 ..) ?_|refine xsF Tryd.func60 (c2 ..) ?_|refine xsQ Tryd.func60 (c2 ..) ?_|refine xsF Tryd.func53 (c3 ..) ?_|(apply qt;apply wO;(first|exact .inl ⟨rfl,rfl⟩|exact .inr ⟨rfl,rfl⟩);exact Tryd.underlying90;(first|exact .inl rfl|exact .inr rfl);exact nle rfl)|(apply qt;apply zr;rfl;kernel_rfl;exact nle rfl)|((refine vh 33 [] rfl ⟨rfl,jD⟩ ?_);(repeat (first|exact qy 33 rfl|exact ⟨33,rfl⟩|refine qz (d:=33) rfl (nle rfl) ?_|(apply qC;exact nle rfl;refine ⟨?_,?_⟩;(first|exact fun h=>absurd h Bool.false_ne_true|(intro _;kernel_rfl)))));done))|((first|(apply qb;rfl;rfl;exact nle rfl)|(apply qa;rfl;rfl;exact nle rfl)|refine xsC ?_ ?_);all_goals (intro hc;have hp:=hc;try simp at hp;try (exfalso;omega)))|refine jm ?_ ?_)
theorem Qo {most n:Int} {s r:qj} (h:qO s = some (n,r)):(xL most s = some (n,r) ∧ 0 ≤ n ∧ n ≤ most) ∨ (xL most s = none ∧ (n < 0 ∨ most < n)):=by
 unfold xL
 rw [h]
 simp only
 by_cases hb:n < 0 ∨ most < n
 ·rw [if_pos hb];exact .inr ⟨rfl,hb⟩
 ·rw [if_neg hb];exact .inl ⟨rfl,by omega,by omega⟩
theorem V2 {most:Int} {s:qj} (h:xL most s = none):qO s = none ∨ ∃ n r,qO s = some (n,r) ∧ (n < 0 ∨ most < n):=by
 cases hn:qO s with
 | none=>exact .inl rfl
 | some z =>
   obtain ⟨n,r⟩:=z
   rcases Qo (most:=most) hn with ⟨h1,_⟩|⟨_,h2⟩
   ·rw [h1] at h;cases h
   ·exact .inr ⟨n,r,rfl,h2⟩
theorem qr {s r:qj} {n:Int} (h:qO s = some (n,r)):r.length ≤ s.length:=by
 rw [(wc h).1,List.length_append];omega
end Go.Proofs.YtahbbnfmbohmmaaDoor
set_option linter.unusedSimpArgs false
set_option linter.unnecessarySimpa false
set_option linter.unusedVariables false
set_option maxHeartbeats 1000000
namespace Go.Proofs.YtahbbnfmbohmmaaDoor
open Go.Ab Go.RowKit
set_option maxRecDepth 10000
attribute [local irreducible] Awp jE qY qK Red qA Go.Ab.Fin qp Rz yL qJ qE ResOk jl qL jA qB
theorem kN (most:Int) (s r:qj) (n:Int) (hs:s.length ≤ 1000000000) (h:xL most s = some (n,r)):qp C1.P 61 [.op 0 0 0,.v (.int .i64 most)] [jo s] (.v (.int .i64 n)) [jo r]:=by
 obtain ⟨h1,h2,h3⟩ : qO s = some (n,r) ∧ 0 ≤ n ∧ n ≤ most:=by
  have hh:=h
  unfold xL at hh
  cases hn:qO s with
  | none=>rw [hn] at hh;cases hh
  | some z =>
    obtain ⟨m,r'⟩:=z
    rcases Qo (most:=most) hn with ⟨e,a,b⟩|⟨e,_⟩
    ·rw [e] at h;injection h with h;injection h with x y;subst x y;exact ⟨rfl,a,b⟩
    ·rw [e] at h;cases h
 have c1:=jt s r n hs h1
 clear h h1
 refine qf (C:=C1) Tryd.func61 rfl _ Tryd.ntmps61 (Nat.le_of_ble_eq_true rfl) _ Tryd.results61 1 rfl rfl ?_
 repeat' (first|refine qk ?_|(first|(apply qc Tryd.func30 rfl rfl;intro hIsFn;refine qH 0 hIsFn (c1) ?_))|((first|(apply qb;rfl;rfl;exact nle rfl)|(apply qa;rfl;rfl;exact nle rfl)|refine xsC ?_ ?_);all_goals (intro hc;have hp:=hc;try simp at hp;try (exfalso;omega)))|refine jm ?_ ?_)
 all_goals try (exfalso;omega)
 all_goals ((apply qD (rs:=[.tmp 4]) [] 1;(case hr=>(repeat (first|exact qw|(apply qx;rfl)|(apply qu;rfl;rfl;rfl;rfl;rfl))));(case hL=>rfl);(case hh=>refine yr (q:=0) rfl (qd rfl) ?_ qh;all_goals (first|(with_reducible rfl)|rfl));(case hi=>exact rfl);(case hz=>first|rfl|(simp [jQ,AV.ren,AV.ren.renL,js,qn,jh];done))))
theorem vG (most:Int) (s:qj) (hs:s.length ≤ 1000000000) (h:xL most s = none):yq C1.P 61 [.op 0 0 0,.v (.int .i64 most)] [jo s] xX Xl:=by
 rcases V2 h with h1|⟨n,r,h1,h2⟩
 ·have c1:=j8 s hs h1
  refine qq (C:=C1) Tryd.func61 rfl _ Tryd.ntmps61 (Nat.le_of_ble_eq_true rfl) 1 rfl rfl ?_
  repeat' (first|refine qk ?_|(first|((refine jq (first:=[]) (cap:=[]) 0 [] (qG Tryd.func30 rfl rfl) (c1) rfl (⟨rfl,jD⟩) ?_);(repeat (first|exact qy 7 rfl|exact ⟨7,rfl⟩|refine qz (d:=7) rfl (nle rfl) ?_|(apply qC;exact nle rfl;refine ⟨?_,?_⟩;(first|exact fun h=>absurd h Bool.false_ne_true|(intro _;kernel_rfl)))));done))|((first|(apply qb;rfl;rfl;exact nle rfl)|(apply qa;rfl;rfl;exact nle rfl)|refine xsC ?_ ?_);all_goals (intro hc;have hp:=hc;try simp at hp;try (exfalso;omega)))|refine jm ?_ ?_)
 ·have c1:=jt s r n hs h1
  clear h h1
  refine qq (C:=C1) Tryd.func61 rfl _ Tryd.ntmps61 (Nat.le_of_ble_eq_true rfl) 1 rfl rfl ?_
  repeat' (first|refine qk ?_|(first|(apply qc Tryd.func30 rfl rfl;intro hIsFn;refine qH 0 hIsFn (c1) ?_)|(apply qt;apply zr;rfl;kernel_rfl;exact nle rfl)|((refine vh 6 [] rfl ⟨rfl,jD⟩ ?_);(repeat (first|exact qy 6 rfl|exact ⟨6,rfl⟩|refine qz (d:=6) rfl (nle rfl) ?_|(apply qC;exact nle rfl;refine ⟨?_,?_⟩;(first|exact fun h=>absurd h Bool.false_ne_true|(intro _;kernel_rfl)))));done))|((first|(apply qb;rfl;rfl;exact nle rfl)|(apply qa;rfl;rfl;exact nle rfl)|refine xsC ?_ ?_);all_goals (intro hc;have hp:=hc;try simp at hp;try (exfalso;omega)))|refine jm ?_ ?_)
  all_goals ((exfalso;omega))
end Go.Proofs.YtahbbnfmbohmmaaDoor
set_option linter.unusedSimpArgs false
set_option linter.unnecessarySimpa false
set_option linter.unusedVariables false
set_option maxHeartbeats 1000000
namespace Go.Proofs.YtahbbnfmbohmmaaDoor
open Go.Ab Go.RowKit
set_option maxRecDepth 10000
attribute [local irreducible] Awp jE qY qK Red qA Go.Ab.Fin qp Rz yL qJ qE ResOk jl qL jA qB
theorem KK {s:qj} {t r:qj} (h:qR s = some (t,r)) : ∃ (k:Nat) (r0:qj),xL s.length s = some ((k:Int),r0) ∧ k ≤ r0.length ∧ t = r0.take k ∧ r = r0.drop k:=by
 unfold qR at h
 split at h
 ·cases h
 ·rename_i n r0 hc
  split at h
  ·cases h
  ·rename_i hb
   injection h with h
   injection h with h1 h2
   obtain ⟨_,_,h0,_⟩:=y0 hc
   refine ⟨n.toNat,r0,by rw [hc,Int.toNat_of_nonneg h0],by omega,h1.symm,h2.symm⟩
theorem ZB {s:qj} (h:qR s = none):xL s.length s = none ∨ ∃ (k:Nat) (r0:qj),xL s.length s = some ((k:Int),r0) ∧ r0.length < k ∧ k ≤ s.length:=by
 cases hc:xL s.length s with
 | none=>exact .inl rfl
 | some z =>
   obtain ⟨n,r0⟩:=z
   right
   obtain ⟨_,_,h0,h1⟩:=y0 hc
   unfold qR at h
   rw [hc] at h
   simp only at h
   split at h
   ·rename_i hb
    exact ⟨n.toNat,r0,by rw [Int.toNat_of_nonneg h0],by omega,by omega⟩
   ·cases h
theorem x0 {most:Int} {s r:qj} {n:Int} (h:xL most s = some (n,r)):r.length ≤ s.length:=by
 rw [(y0 h).1,List.length_append];omega
set_option maxHeartbeats 1000000 in
theorem jj (s t r:qj) (hs:s.length ≤ 1000000000) (h:qR s = some (t,r)):qp C1.P 31 [.op 0 0 0] [jo s] (.v (str t)) [jo r]:=by
 obtain ⟨k,r0,h1,h2,rfl,rfl⟩:=KK h
 have c1:=kN _ s r0 k hs h1
 have hr:=x0 h1
 clear h h1
 refine qf (C:=C1) Tryd.func31 rfl _ Tryd.ntmps31 (Nat.le_of_ble_eq_true rfl) _ Tryd.results31 1 rfl rfl ?_
 repeat' (first|refine qk ?_|(first|(apply qc Tryd.func61 rfl rfl;intro hIsFn;refine qH 0 hIsFn (c1) ?_)|(refine Ks ?_))|((first|(apply qb;rfl;rfl;exact nle rfl)|(apply qa;rfl;rfl;exact nle rfl)|refine xsC ?_ ?_);all_goals (intro hc;have hp:=hc;try simp at hp;try (exfalso;omega)))|refine jm ?_ ?_)
 all_goals try (exfalso;omega)
 all_goals ((apply qD (rs:=[.tmp 2]) [] 1;(case hr=>(repeat (first|exact qw|(apply qx;rfl)|(apply qu;rfl;rfl;rfl;rfl;rfl))));(case hL=>rfl);(case hh=>refine yr (q:=0) rfl (qd rfl) ?_ qh;all_goals (first|(with_reducible rfl)|first|(rw [List.take_length];done)|rfl));(case hi=>exact rfl);(case hz=>first|rfl|(simp [jQ,AV.ren,AV.ren.renL,js,qn,jh];done))))
theorem yh (s:qj) (hs:s.length ≤ 1000000000) (h:qR s = none):yq C1.P 31 [.op 0 0 0] [jo s] xX Xl:=by
 rcases ZB h with h1|⟨k,r0,h1,h2,h3⟩
 ·have c1:=vG _ s hs h1
  refine qq (C:=C1) Tryd.func31 rfl _ Tryd.ntmps31 (Nat.le_of_ble_eq_true rfl) 1 rfl rfl ?_
  repeat' (first|refine qk ?_|(first|((refine jq (first:=[]) (cap:=[]) 0 [] (qG Tryd.func61 rfl rfl) (c1) rfl (⟨rfl,jD⟩) ?_);(repeat (first|exact qy 11 rfl|exact ⟨11,rfl⟩|refine qz (d:=11) rfl (nle rfl) ?_|(apply qC;exact nle rfl;refine ⟨?_,?_⟩;(first|exact fun h=>absurd h Bool.false_ne_true|(intro _;kernel_rfl)))));done))|((first|(apply qb;rfl;rfl;exact nle rfl)|(apply qa;rfl;rfl;exact nle rfl)|refine xsC ?_ ?_);all_goals (intro hc;have hp:=hc;try simp at hp;try (exfalso;omega)))|refine jm ?_ ?_)
 ·have c1:=kN _ s r0 k hs h1
  clear h h1
  refine qq (C:=C1) Tryd.func31 rfl _ Tryd.ntmps31 (Nat.le_of_ble_eq_true rfl) 1 rfl rfl ?_
  repeat' (first|refine qk ?_|(first|(apply qc Tryd.func61 rfl rfl;intro hIsFn;refine qH 0 hIsFn (c1) ?_)|(apply qt;apply zr;rfl;kernel_rfl;exact nle rfl)|((refine vh 11 [] rfl ⟨rfl,jD⟩ ?_);(repeat (first|exact qy 11 rfl|exact ⟨11,rfl⟩|refine qz (d:=11) rfl (nle rfl) ?_|(apply qC;exact nle rfl;refine ⟨?_,?_⟩;(first|exact fun h=>absurd h Bool.false_ne_true|(intro _;kernel_rfl)))));done)|(refine Ks ?_))|((first|(apply qb;rfl;rfl;exact nle rfl)|(apply qa;rfl;rfl;exact nle rfl)|refine xsC ?_ ?_);all_goals (intro hc;have hp:=hc;try simp at hp;try (exfalso;omega)))|refine jm ?_ ?_)
  all_goals ((exfalso;omega))
theorem kO (s r:qj) (b:Bool) (hs:s.length ≤ 1000000000) (h:xp s = some (b,r)):qp C1.P 44 [.op 0 0 0] [jo s] (.v (.bool b)) [jo r]:=by
 obtain ⟨n,h1,rfl⟩ : ∃ n,xL 1 s = some (n,r) ∧ b = decide (n = 1):=by
  unfold xp at h
  split at h
  ·cases h
  ·rename_i n r' hc
   injection h with h
   injection h with x y
   subst x y
   exact ⟨n,hc,rfl⟩
 have c1:=kN _ s r n hs h1
 clear h h1
 refine qf (C:=C1) Tryd.func44 rfl _ Tryd.ntmps44 (Nat.le_of_ble_eq_true rfl) _ Tryd.results44 1 rfl rfl ?_
 repeat' (first|refine qk ?_|(first|(apply qc Tryd.func61 rfl rfl;intro hIsFn;refine qH 0 hIsFn (c1) ?_))|((first|(apply qb;rfl;rfl;exact nle rfl)|(apply qa;rfl;rfl;exact nle rfl)|refine xsC ?_ ?_);all_goals (intro hc;have hp:=hc;try simp at hp;try (exfalso;omega)))|refine jm ?_ ?_)
 all_goals ((apply qD (rs:=[.tmp 2]) [] 1;(case hr=>(repeat (first|exact qw|(apply qx;rfl)|(apply qu;rfl;rfl;rfl;rfl;rfl))));(case hL=>rfl);(case hh=>refine yr (q:=0) rfl (qd rfl) ?_ qh;all_goals (first|(with_reducible rfl)|rfl));(case hi=>exact rfl);(case hz=>first|rfl|(simp [jQ,AV.ren,AV.ren.renL,js,qn,jh];done))))
theorem wn (s:qj) (hs:s.length ≤ 1000000000) (h:xp s = none):yq C1.P 44 [.op 0 0 0] [jo s] xX Xl:=by
 have h1:xL 1 s = none:=by
  unfold xp at h
  split at h
  ·assumption
  ·cases h
 have c1:=vG _ s hs h1
 refine qq (C:=C1) Tryd.func44 rfl _ Tryd.ntmps44 (Nat.le_of_ble_eq_true rfl) 1 rfl rfl ?_
 repeat' (first|refine qk ?_|(first|((refine jq (first:=[]) (cap:=[]) 0 [] (qG Tryd.func61 rfl rfl) (c1) rfl (⟨rfl,jD⟩) ?_);(repeat (first|exact qy 4 rfl|exact ⟨4,rfl⟩|refine qz (d:=4) rfl (nle rfl) ?_|(apply qC;exact nle rfl;refine ⟨?_,?_⟩;(first|exact fun h=>absurd h Bool.false_ne_true|(intro _;kernel_rfl)))));done))|((first|(apply qb;rfl;rfl;exact nle rfl)|(apply qa;rfl;rfl;exact nle rfl)|refine xsC ?_ ?_);all_goals (intro hc;have hp:=hc;try simp at hp;try (exfalso;omega)))|refine jm ?_ ?_)
end Go.Proofs.YtahbbnfmbohmmaaDoor
