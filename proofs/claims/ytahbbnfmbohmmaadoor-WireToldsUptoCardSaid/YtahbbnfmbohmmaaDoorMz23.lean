import Derived.Test.YtahbbnfmbohmmaaDoorMz17
import Derived.Test.YtahbbnfmbohmmaaDoorMz15
import Derived.Test.YtahbbnfmbohmmaaDoorMz20
import Derived.Test.YtahbbnfmbohmmaaDoorMz3
set_option linter.unusedSimpArgs false
set_option linter.unnecessarySimpa false
set_option linter.unusedVariables false
set_option maxHeartbeats 1000000
namespace Go.Proofs.YtahbbnfmbohmmaaDoor
open Go.Ab Go.RowKit
set_option maxRecDepth 10000
def vf:List PanicEntry:=[{ v := .iface 100 (.agg #[]),recovered:=false }]
@[reducible] def jx (s:qo):HB := .own true 1 [[.v (str s)]]
@[reducible] def XI:List HB → Prop:=fun H=>H = []
theorem jP {H:List (Nat × HB)} : ∃ H',XI H' ∧ ∀ n,H'.getD n .dead = qq H n ∨ H'.getD n .dead = .dead:=⟨[],rfl,fun n => .inr rfl⟩
section steps
variable {C' : Cx} {N:Nat} {all:Array Oper} {es:List Eff} {o:Oper} {os:List Oper} {K:List Eff → St → Prop} {ts:List (Nat × AV)} {hs:List (Nat × HB)} {nx:Nat} {gd:List Nat}
theorem jz {f:FuncId} {x:Operand} {first cap:List AV} {args:List Operand} {tys:Array TypeId} {d:Nat} {ty:TypeId} {pos:String} {af:Array Edge} {gg:Option (Nat × Bool)} {ys:List AV} {s:qo} (q:Nat) (keep:List Nat) (hf:IsFn C'.P f)
  (hc:yJ C'.P f ys [jx s] vf XI) (hx:evA (qr ts) x = .clo (.func f) first cap)
  (hdie:C'.die vf [] ((q,.dead) :: (q :: keep).map fun n=>(n,qq hs n)))
  (k:jU C' N all (⟨gd ++ (jp x ++ args.flatMap jp ++ []),q :: keep,some d,yn,[],[]⟩ :: es) ⟨(d,yn) :: ts,hs,nx⟩ os K)
  (hq:qq hs q = jx s:=by rfl)
  (hz:qG (jE 0 [q]) (q :: keep) (qq hs) (first ++ args.map (evA (qr ts)) ++ cap) ys:=by ((repeat' (first|exact jr|apply jj|exact jq rfl|exact jY|(apply qv;apply jf;exact .inr (of_decide_eq_true rfl))|(apply qv;apply yc;exact .inr (of_decide_eq_true rfl))|(apply qv;apply jn;exact .inr (of_decide_eq_true rfl))|apply jF|apply jG))<;>fail)) (hN:d < N:=by exact nle rfl):jl C' N all gd es ⟨ts,hs,nx⟩ ⟨some d,.call ⟨.value x,args.toArray,tys⟩,ty,pos,af,gg⟩ os K:=by
 refine Q8 (H:=[jx s]) (HP:=XI) (ch:=vf) (xs:=first ++ args.map (evA (qr ts)) ++ cap) _ (q :: keep) [q] [] rfl hN (xn f hf x args tys first cap hx) rfl (by simp) (fun n hn=>by simp at hn;simp [hn]) hz ?_ hc ?_ (by simp) k
 ·have hg:vG (jE 0 [q]) (qq hs) [q] [jx s]:=jA (jx s) yt (qX (qE rfl)) hq rfl
  exact fun i n hb hi hj=>vJ hg i n hb hi hj
 ·rintro H' rfl
  refine ⟨[(q,.dead)],rfl,fun i n hb hz=>?_,hdie⟩
  have:hb = .dead:=by
   cases i with
   | zero=>simp at hz;exact hz.2.symm
   | succ i=>simp at hz
  subst this
  exact yd
theorem qN {f:FuncId} {args:List Operand} {tys:Array TypeId} {d:Nat} {ty:TypeId} {pos:String} {af:Array Edge} {gg:Option (Nat × Bool)} {ys:List AV} {v:AV} {s r:qo} (q:Nat) (hf:IsFn C'.P f)
  (hc:qt C'.P f ys [jx s] v [jx r])
  (k:jU C' N all (⟨gd ++ (jp (.func f) ++ args.flatMap jp),[q],some d,v,[(q,jx r)],[]⟩ :: es) ⟨(d,v) :: ts,(q,jx r) :: hs,nx⟩ os K)
  (hq:qq hs q = jx s:=by rfl)
  (hz:qG (jE 0 [q]) [q] (qq hs) (args.map (evA (qr ts))) ys:=by ((repeat' (first|exact jr|apply jj|exact jq rfl|exact jY|(apply qv;apply jf;exact .inr (of_decide_eq_true rfl))|(apply qv;apply yc;exact .inr (of_decide_eq_true rfl))|(apply qv;apply jn;exact .inr (of_decide_eq_true rfl))|apply jF|apply jG))<;>fail)) (hr:v.ren (xw (jE 0 [q])) = v:=by rfl) (hN:d < N:=by exact nle rfl):vw C' N all gd es ⟨ts,hs,nx⟩ f args d tys ty pos af gg os K :=
 xf [q] [] [(q,jx r)] nx v hf hc hz (jA (jx s) yt (qX (qE rfl)) hq rfl) (qV (qX (qE rfl)) ye) k hr rfl rfl (Nat.le_of_ble_eq_true rfl) (by simp) rfl (fun n hn=>by cases hn) (Nat.le_refl _) hN
end steps
theorem yK {L:List (Nat × Nat)} {nh:Nat} {σ:St} {q q' : Nat} {s s' : qo} {rest:List (Nat × HB)} (hq:qq σ.hs q = jx s) (h1:Maps L nh q q') (hs:s = s') (hr:jZ L nh σ rest):jZ L nh σ ((q',jx s') :: rest):=by
 subst hs
 exact ⟨⟨q,h1,by rw [hq];exact ⟨id,rfl,yD (qE rfl) yR⟩⟩,hr⟩
attribute [local irreducible] Awp jU jl qQ Red qD Go.Ab.Fin qt Rz yZ qO qJ ResOk jt qU jN qG
set_option maxHeartbeats 1000000 in
theorem jD (s r:qo) (n:Int) (hs:s.length ≤ 1000000000) (h:qR s = some (n,r)):qt C1.P 30 [.op 0 0 0] [jx s] (.v (.int .i64 n)) [jx r]:=by
 unfold qR at h
 cases hc:zp s with
 | none=>rw [hc] at h;cases h
 | some z =>
   obtain ⟨t,r'⟩:=z
   rw [hc] at h
   simp only at h
   by_cases hok:∃ m,Lib.atoiAll t = .ok m
   case neg =>
    cases ha:Lib.atoiAll t with
    | ok m=>exact absurd ⟨m,ha⟩ hok
    | _=>rw [ha] at h;cases h
   case pos =>
     obtain ⟨m,ha⟩:=hok
     rw [ha] at h
     simp only at h
     split at h
     case isFalse=>cases h
     rename_i hit
     injection h with h
     injection h with e1 e2
     subst e1 e2 hit
     have hb:=Lib.atoiAll_bounds ha
     have hl:=zR hc
     have htl:(Lib.itoa m).length ≤ 1000000000:=by
      have:=congrArg List.length hl.1
      simp at this
      omega
     have c1:=VE s _ r' hs hc
     have c2:=VD _ m htl ha
     have c3:=zw m hb.1 hb.2
     clear hl hc ha hs htl hb
     generalize Lib.itoa m = t at *
     refine qf (C:=C1) Tryd.func30 rfl _ Tryd.ntmps30 (Nat.le_of_ble_eq_true rfl) _ Tryd.results30 1 rfl rfl ?_
     repeat' (first|refine qi ?_|(first|refine xsF Tryd.func59 (c1 ..) ?_|refine xsF Tryd.func60 (c2 ..) ?_|refine xsF Tryd.func53 (c3 ..) ?_|(apply qp;apply Qf;(first|exact .inl ⟨rfl,rfl⟩|exact .inr ⟨rfl,rfl⟩);exact Tryd.underlying90;(first|exact .inl rfl|exact .inr rfl);exact nle rfl))|((first|(apply qb;rfl;rfl;exact nle rfl)|(apply qa;rfl;rfl;exact nle rfl)|refine xsC ?_ ?_);all_goals (intro hc;have hp:=hc;try simp at hp;try (exfalso;omega)))|refine qS ?_ ?_)
     all_goals try (exfalso;simp at hc;done)
     all_goals ((apply qu (rs:=[.tmp 2]) [] 1;(case hr=>(repeat (first|exact qm|(apply qn;rfl)|(apply qj;rfl;rfl;rfl;rfl;rfl))));(case hL=>rfl);(case hh=>refine yK (q:=0) rfl (qd rfl) ?_ qe;all_goals (first|(with_reducible rfl)|rfl));(case hi=>exact rfl);(case hz=>first|rfl|(simp [ju,AV.ren,AV.ren.renL,qP,qr,qL];done))))
theorem Qv (t:qo) (ht:t.length ≤ 1000000000):(∃ n,Lib.atoiAll t = .ok n ∧ y7 n ∧ zm C.P 60 [.v (str t)] (.tup [.v (.int .i64 n),.v .nilIface])) ∨ ∃ n,(∀ m, ¬ Lib.atoiAll t = .ok m) ∧ y7 n ∧ zm C.P 60 [.v (str t)] (.tup [.v (.int .i64 n),.errv]):=by
 cases h:Lib.atoiAll t with
 | ok n=>exact .inl ⟨n,rfl,Lib.atoiAll_bounds h,VD t n ht h⟩
 | range=>exact .inr ⟨_,by simp,Lib.atoiSat_bounds t,Wz t ht h⟩
 | _=>exact .inr ⟨0,by simp,⟨by decide,by decide⟩,WA t ht h⟩
set_option maxHeartbeats 2000000 in
theorem yp (s:qo) (hs:s.length ≤ 1000000000) (h:qR s = none):yJ C1.P 30 [.op 0 0 0] [jx s] vf XI:=by
 unfold qR at h
 cases hc:zp s with
 | none =>
   have c1:=WD s hc
   rcases Qv s hs with ⟨n,ha,hb,c2⟩|⟨n,ha,hb,c2⟩
   all_goals
    have c3:=zw n hb.1 hb.2
    clear h hc ha hb
    generalize Lib.itoa n = t2 at *
    refine qw (C:=C1) Tryd.func30 rfl _ Tryd.ntmps30 (Nat.le_of_ble_eq_true rfl) 1 rfl rfl ?_
    repeat' (first|refine qi ?_|(first|refine xsF Tryd.func59 (c1 ..) ?_|refine xsF Tryd.func60 (c2 ..) ?_|refine xsQ Tryd.func60 (c2 ..) ?_|refine xsF Tryd.func53 (c3 ..) ?_|(apply qp;apply Qf;(first|exact .inl ⟨rfl,rfl⟩|exact .inr ⟨rfl,rfl⟩);exact Tryd.underlying90;(first|exact .inl rfl|exact .inr rfl);exact nle rfl)|(apply qp;apply zB;rfl;kernel_rfl;exact nle rfl)|((refine vp 33 [] rfl ⟨rfl,jP⟩ ?_);(repeat (first|exact qB 33 rfl|exact ⟨33,rfl⟩|refine qC (d:=33) rfl (nle rfl) ?_|(apply qH;exact nle rfl;refine ⟨?_,?_⟩;(first|exact fun h=>absurd h Bool.false_ne_true|(intro _;kernel_rfl)))));done))|((first|(apply qb;rfl;rfl;exact nle rfl)|(apply qa;rfl;rfl;exact nle rfl)|refine xsC ?_ ?_);all_goals (intro hc;have hp:=hc;try simp at hp;try (exfalso;omega)))|refine qS ?_ ?_)
 | some z =>
   obtain ⟨t,r⟩:=z
   rw [hc] at h
   simp only at h
   have c1:=VE s t r hs hc
   have htl:t.length ≤ 1000000000:=by
    have:=congrArg List.length (zR hc).1
    simp at this
    omega
   rcases Qv t htl with ⟨n,ha,hb,c2⟩|⟨n,ha,hb,c2⟩
   ·rw [ha] at h
    simp only at h
    have hne:¬ Lib.itoa n = t:=fun e=>by rw [if_pos e] at h;cases h
    have c3:=zw n hb.1 hb.2
    clear h hc ha hb
    generalize Lib.itoa n = t2 at *
    refine qw (C:=C1) Tryd.func30 rfl _ Tryd.ntmps30 (Nat.le_of_ble_eq_true rfl) 1 rfl rfl ?_
    repeat' (first|refine qi ?_|(first|refine xsF Tryd.func59 (c1 ..) ?_|refine xsF Tryd.func60 (c2 ..) ?_|refine xsQ Tryd.func60 (c2 ..) ?_|refine xsF Tryd.func53 (c3 ..) ?_|(apply qp;apply Qf;(first|exact .inl ⟨rfl,rfl⟩|exact .inr ⟨rfl,rfl⟩);exact Tryd.underlying90;(first|exact .inl rfl|exact .inr rfl);exact nle rfl)|(apply qp;apply zB;rfl;kernel_rfl;exact nle rfl)|((refine vp 33 [] rfl ⟨rfl,jP⟩ ?_);(repeat (first|exact qB 33 rfl|exact ⟨33,rfl⟩|refine qC (d:=33) rfl (nle rfl) ?_|(apply qH;exact nle rfl;refine ⟨?_,?_⟩;(first|exact fun h=>absurd h Bool.false_ne_true|(intro _;kernel_rfl)))));done))|((first|(apply qb;rfl;rfl;exact nle rfl)|(apply qa;rfl;rfl;exact nle rfl)|refine xsC ?_ ?_);all_goals (intro hc;have hp:=hc;try simp at hp;try (exfalso;omega)))|refine qS ?_ ?_)
    all_goals ((exfalso;simp_all;done))
   ·have c3:=zw n hb.1 hb.2
    clear h hc ha hb
    generalize Lib.itoa n = t2 at *
    refine qw (C:=C1) Tryd.func30 rfl _ Tryd.ntmps30 (Nat.le_of_ble_eq_true rfl) 1 rfl rfl ?_
    repeat' (first|refine qi ?_|(first|refine xsF Tryd.func59 (c1 ..) ?_|refine xsF Tryd.func60 (c2 ..) ?_|refine xsQ Tryd.func60 (c2 ..) ?_|refine xsF Tryd.func53 (c3 ..) ?_|(apply qp;apply Qf;(first|exact .inl ⟨rfl,rfl⟩|exact .inr ⟨rfl,rfl⟩);exact Tryd.underlying90;(first|exact .inl rfl|exact .inr rfl);exact nle rfl)|(apply qp;apply zB;rfl;kernel_rfl;exact nle rfl)|((refine vp 33 [] rfl ⟨rfl,jP⟩ ?_);(repeat (first|exact qB 33 rfl|exact ⟨33,rfl⟩|refine qC (d:=33) rfl (nle rfl) ?_|(apply qH;exact nle rfl;refine ⟨?_,?_⟩;(first|exact fun h=>absurd h Bool.false_ne_true|(intro _;kernel_rfl)))));done))|((first|(apply qb;rfl;rfl;exact nle rfl)|(apply qa;rfl;rfl;exact nle rfl)|refine xsC ?_ ?_);all_goals (intro hc;have hp:=hc;try simp at hp;try (exfalso;omega)))|refine qS ?_ ?_)
theorem QH {most n:Int} {s r:qo} (h:qR s = some (n,r)):(y9 most s = some (n,r) ∧ 0 ≤ n ∧ n ≤ most) ∨ (y9 most s = none ∧ (n < 0 ∨ most < n)):=by
 unfold y9
 rw [h]
 simp only
 by_cases hb:n < 0 ∨ most < n
 ·rw [if_pos hb];exact .inr ⟨rfl,hb⟩
 ·rw [if_neg hb];exact .inl ⟨rfl,by omega,by omega⟩
theorem Zx {most:Int} {s:qo} (h:y9 most s = none):qR s = none ∨ ∃ n r,qR s = some (n,r) ∧ (n < 0 ∨ most < n):=by
 cases hn:qR s with
 | none=>exact .inl rfl
 | some z =>
   obtain ⟨n,r⟩:=z
   rcases QH (most:=most) hn with ⟨h1,_⟩|⟨_,h2⟩
   ·rw [h1] at h;cases h
   ·exact .inr ⟨n,r,rfl,h2⟩
theorem qx {s r:qo} {n:Int} (h:qR s = some (n,r)):r.length ≤ s.length:=by
 rw [(vM h).1,List.length_append];omega
end Go.Proofs.YtahbbnfmbohmmaaDoor
set_option linter.unusedSimpArgs false
set_option linter.unnecessarySimpa false
set_option linter.unusedVariables false
set_option maxHeartbeats 1000000
namespace Go.Proofs.YtahbbnfmbohmmaaDoor
open Go.Ab Go.RowKit
set_option maxRecDepth 10000
attribute [local irreducible] Awp jU jl qQ Red qD Go.Ab.Fin qt Rz yZ qO qJ ResOk jt qU jN qG
theorem k7 (most:Int) (s r:qo) (n:Int) (hs:s.length ≤ 1000000000) (h:y9 most s = some (n,r)):qt C1.P 61 [.op 0 0 0,.v (.int .i64 most)] [jx s] (.v (.int .i64 n)) [jx r]:=by
 obtain ⟨h1,h2,h3⟩ : qR s = some (n,r) ∧ 0 ≤ n ∧ n ≤ most:=by
  have hh:=h
  unfold y9 at hh
  cases hn:qR s with
  | none=>rw [hn] at hh;cases hh
  | some z =>
    obtain ⟨m,r'⟩:=z
    rcases QH (most:=most) hn with ⟨e,a,b⟩|⟨e,_⟩
    ·rw [e] at h;injection h with h;injection h with x y;subst x y;exact ⟨rfl,a,b⟩
    ·rw [e] at h;cases h
 have c1:=jD s r n hs h1
 clear h h1
 refine qf (C:=C1) Tryd.func61 rfl _ Tryd.ntmps61 (Nat.le_of_ble_eq_true rfl) _ Tryd.results61 1 rfl rfl ?_
 repeat' (first|refine qi ?_|(first|(apply qc Tryd.func30 rfl rfl;intro hIsFn;refine qN 0 hIsFn (c1) ?_))|((first|(apply qb;rfl;rfl;exact nle rfl)|(apply qa;rfl;rfl;exact nle rfl)|refine xsC ?_ ?_);all_goals (intro hc;have hp:=hc;try simp at hp;try (exfalso;omega)))|refine qS ?_ ?_)
 all_goals try (exfalso;omega)
 all_goals ((apply qu (rs:=[.tmp 4]) [] 1;(case hr=>(repeat (first|exact qm|(apply qn;rfl)|(apply qj;rfl;rfl;rfl;rfl;rfl))));(case hL=>rfl);(case hh=>refine yK (q:=0) rfl (qd rfl) ?_ qe;all_goals (first|(with_reducible rfl)|rfl));(case hi=>exact rfl);(case hz=>first|rfl|(simp [ju,AV.ren,AV.ren.renL,qP,qr,qL];done))))
theorem vP (most:Int) (s:qo) (hs:s.length ≤ 1000000000) (h:y9 most s = none):yJ C1.P 61 [.op 0 0 0,.v (.int .i64 most)] [jx s] vf XI:=by
 rcases Zx h with h1|⟨n,r,h1,h2⟩
 ·have c1:=yp s hs h1
  refine qw (C:=C1) Tryd.func61 rfl _ Tryd.ntmps61 (Nat.le_of_ble_eq_true rfl) 1 rfl rfl ?_
  repeat' (first|refine qi ?_|(first|((refine jz (first:=[]) (cap:=[]) 0 [] (qM Tryd.func30 rfl rfl) (c1) rfl (⟨rfl,jP⟩) ?_);(repeat (first|exact qB 7 rfl|exact ⟨7,rfl⟩|refine qC (d:=7) rfl (nle rfl) ?_|(apply qH;exact nle rfl;refine ⟨?_,?_⟩;(first|exact fun h=>absurd h Bool.false_ne_true|(intro _;kernel_rfl)))));done))|((first|(apply qb;rfl;rfl;exact nle rfl)|(apply qa;rfl;rfl;exact nle rfl)|refine xsC ?_ ?_);all_goals (intro hc;have hp:=hc;try simp at hp;try (exfalso;omega)))|refine qS ?_ ?_)
 ·have c1:=jD s r n hs h1
  clear h h1
  refine qw (C:=C1) Tryd.func61 rfl _ Tryd.ntmps61 (Nat.le_of_ble_eq_true rfl) 1 rfl rfl ?_
  repeat' (first|refine qi ?_|(first|(apply qc Tryd.func30 rfl rfl;intro hIsFn;refine qN 0 hIsFn (c1) ?_)|(apply qp;apply zB;rfl;kernel_rfl;exact nle rfl)|((refine vp 6 [] rfl ⟨rfl,jP⟩ ?_);(repeat (first|exact qB 6 rfl|exact ⟨6,rfl⟩|refine qC (d:=6) rfl (nle rfl) ?_|(apply qH;exact nle rfl;refine ⟨?_,?_⟩;(first|exact fun h=>absurd h Bool.false_ne_true|(intro _;kernel_rfl)))));done))|((first|(apply qb;rfl;rfl;exact nle rfl)|(apply qa;rfl;rfl;exact nle rfl)|refine xsC ?_ ?_);all_goals (intro hc;have hp:=hc;try simp at hp;try (exfalso;omega)))|refine qS ?_ ?_)
  all_goals ((exfalso;omega))
end Go.Proofs.YtahbbnfmbohmmaaDoor
set_option linter.unusedSimpArgs false
set_option linter.unnecessarySimpa false
set_option linter.unusedVariables false
set_option maxHeartbeats 1000000
namespace Go.Proofs.YtahbbnfmbohmmaaDoor
open Go.Ab Go.RowKit
set_option maxRecDepth 10000
attribute [local irreducible] Awp jU jl qQ Red qD Go.Ab.Fin qt Rz yZ qO qJ ResOk jt qU jN qG
theorem Wp {s:qo} {t r:qo} (h:ja s = some (t,r)) : ∃ (k:Nat) (r0:qo),y9 s.length s = some ((k:Int),r0) ∧ k ≤ r0.length ∧ t = r0.take k ∧ r = r0.drop k:=by
 unfold ja at h
 split at h
 ·cases h
 ·rename_i n r0 hc
  split at h
  ·cases h
  ·rename_i hb
   injection h with h
   injection h with h1 h2
   obtain ⟨_,_,h0,_⟩:=xm hc
   refine ⟨n.toNat,r0,by rw [hc,Int.toNat_of_nonneg h0],by omega,h1.symm,h2.symm⟩
theorem Z5 {s:qo} (h:ja s = none):y9 s.length s = none ∨ ∃ (k:Nat) (r0:qo),y9 s.length s = some ((k:Int),r0) ∧ r0.length < k ∧ k ≤ s.length:=by
 cases hc:y9 s.length s with
 | none=>exact .inl rfl
 | some z =>
   obtain ⟨n,r0⟩:=z
   right
   obtain ⟨_,_,h0,h1⟩:=xm hc
   unfold ja at h
   rw [hc] at h
   simp only at h
   split at h
   ·rename_i hb
    exact ⟨n.toNat,r0,by rw [Int.toNat_of_nonneg h0],by omega,by omega⟩
   ·cases h
theorem vh {most:Int} {s r:qo} {n:Int} (h:y9 most s = some (n,r)):r.length ≤ s.length:=by
 rw [(xm h).1,List.length_append];omega
set_option maxHeartbeats 1000000 in
theorem js (s t r:qo) (hs:s.length ≤ 1000000000) (h:ja s = some (t,r)):qt C1.P 31 [.op 0 0 0] [jx s] (.v (str t)) [jx r]:=by
 obtain ⟨k,r0,h1,h2,rfl,rfl⟩:=Wp h
 have c1:=k7 _ s r0 k hs h1
 have hr:=vh h1
 clear h h1
 refine qf (C:=C1) Tryd.func31 rfl _ Tryd.ntmps31 (Nat.le_of_ble_eq_true rfl) _ Tryd.results31 1 rfl rfl ?_
 repeat' (first|refine qi ?_|(first|(apply qc Tryd.func61 rfl rfl;intro hIsFn;refine qN 0 hIsFn (c1) ?_)|(refine KY ?_))|((first|(apply qb;rfl;rfl;exact nle rfl)|(apply qa;rfl;rfl;exact nle rfl)|refine xsC ?_ ?_);all_goals (intro hc;have hp:=hc;try simp at hp;try (exfalso;omega)))|refine qS ?_ ?_)
 all_goals try (exfalso;omega)
 all_goals ((apply qu (rs:=[.tmp 2]) [] 1;(case hr=>(repeat (first|exact qm|(apply qn;rfl)|(apply qj;rfl;rfl;rfl;rfl;rfl))));(case hL=>rfl);(case hh=>refine yK (q:=0) rfl (qd rfl) ?_ qe;all_goals (first|(with_reducible rfl)|first|(rw [List.take_length];done)|rfl));(case hi=>exact rfl);(case hz=>first|rfl|(simp [ju,AV.ren,AV.ren.renL,qP,qr,qL];done))))
theorem yy (s:qo) (hs:s.length ≤ 1000000000) (h:ja s = none):yJ C1.P 31 [.op 0 0 0] [jx s] vf XI:=by
 rcases Z5 h with h1|⟨k,r0,h1,h2,h3⟩
 ·have c1:=vP _ s hs h1
  refine qw (C:=C1) Tryd.func31 rfl _ Tryd.ntmps31 (Nat.le_of_ble_eq_true rfl) 1 rfl rfl ?_
  repeat' (first|refine qi ?_|(first|((refine jz (first:=[]) (cap:=[]) 0 [] (qM Tryd.func61 rfl rfl) (c1) rfl (⟨rfl,jP⟩) ?_);(repeat (first|exact qB 11 rfl|exact ⟨11,rfl⟩|refine qC (d:=11) rfl (nle rfl) ?_|(apply qH;exact nle rfl;refine ⟨?_,?_⟩;(first|exact fun h=>absurd h Bool.false_ne_true|(intro _;kernel_rfl)))));done))|((first|(apply qb;rfl;rfl;exact nle rfl)|(apply qa;rfl;rfl;exact nle rfl)|refine xsC ?_ ?_);all_goals (intro hc;have hp:=hc;try simp at hp;try (exfalso;omega)))|refine qS ?_ ?_)
 ·have c1:=k7 _ s r0 k hs h1
  clear h h1
  refine qw (C:=C1) Tryd.func31 rfl _ Tryd.ntmps31 (Nat.le_of_ble_eq_true rfl) 1 rfl rfl ?_
  repeat' (first|refine qi ?_|(first|(apply qc Tryd.func61 rfl rfl;intro hIsFn;refine qN 0 hIsFn (c1) ?_)|(apply qp;apply zB;rfl;kernel_rfl;exact nle rfl)|((refine vp 11 [] rfl ⟨rfl,jP⟩ ?_);(repeat (first|exact qB 11 rfl|exact ⟨11,rfl⟩|refine qC (d:=11) rfl (nle rfl) ?_|(apply qH;exact nle rfl;refine ⟨?_,?_⟩;(first|exact fun h=>absurd h Bool.false_ne_true|(intro _;kernel_rfl)))));done)|(refine KY ?_))|((first|(apply qb;rfl;rfl;exact nle rfl)|(apply qa;rfl;rfl;exact nle rfl)|refine xsC ?_ ?_);all_goals (intro hc;have hp:=hc;try simp at hp;try (exfalso;omega)))|refine qS ?_ ?_)
  all_goals ((exfalso;omega))
theorem k8 (s r:qo) (b:Bool) (hs:s.length ≤ 1000000000) (h:xl s = some (b,r)):qt C1.P 44 [.op 0 0 0] [jx s] (.v (.bool b)) [jx r]:=by
 obtain ⟨n,h1,rfl⟩ : ∃ n,y9 1 s = some (n,r) ∧ b = decide (n = 1):=by
  unfold xl at h
  split at h
  ·cases h
  ·rename_i n r' hc
   injection h with h
   injection h with x y
   subst x y
   exact ⟨n,hc,rfl⟩
 have c1:=k7 _ s r n hs h1
 clear h h1
 refine qf (C:=C1) Tryd.func44 rfl _ Tryd.ntmps44 (Nat.le_of_ble_eq_true rfl) _ Tryd.results44 1 rfl rfl ?_
 repeat' (first|refine qi ?_|(first|(apply qc Tryd.func61 rfl rfl;intro hIsFn;refine qN 0 hIsFn (c1) ?_))|((first|(apply qb;rfl;rfl;exact nle rfl)|(apply qa;rfl;rfl;exact nle rfl)|refine xsC ?_ ?_);all_goals (intro hc;have hp:=hc;try simp at hp;try (exfalso;omega)))|refine qS ?_ ?_)
 all_goals ((apply qu (rs:=[.tmp 2]) [] 1;(case hr=>(repeat (first|exact qm|(apply qn;rfl)|(apply qj;rfl;rfl;rfl;rfl;rfl))));(case hL=>rfl);(case hh=>refine yK (q:=0) rfl (qd rfl) ?_ qe;all_goals (first|(with_reducible rfl)|rfl));(case hi=>exact rfl);(case hz=>first|rfl|(simp [ju,AV.ren,AV.ren.renL,qP,qr,qL];done))))
theorem wO (s:qo) (hs:s.length ≤ 1000000000) (h:xl s = none):yJ C1.P 44 [.op 0 0 0] [jx s] vf XI:=by
 have h1:y9 1 s = none:=by
  unfold xl at h
  split at h
  ·assumption
  ·cases h
 have c1:=vP _ s hs h1
 refine qw (C:=C1) Tryd.func44 rfl _ Tryd.ntmps44 (Nat.le_of_ble_eq_true rfl) 1 rfl rfl ?_
 repeat' (first|refine qi ?_|(first|((refine jz (first:=[]) (cap:=[]) 0 [] (qM Tryd.func61 rfl rfl) (c1) rfl (⟨rfl,jP⟩) ?_);(repeat (first|exact qB 4 rfl|exact ⟨4,rfl⟩|refine qC (d:=4) rfl (nle rfl) ?_|(apply qH;exact nle rfl;refine ⟨?_,?_⟩;(first|exact fun h=>absurd h Bool.false_ne_true|(intro _;kernel_rfl)))));done))|((first|(apply qb;rfl;rfl;exact nle rfl)|(apply qa;rfl;rfl;exact nle rfl)|refine xsC ?_ ?_);all_goals (intro hc;have hp:=hc;try simp at hp;try (exfalso;omega)))|refine qS ?_ ?_)
end Go.Proofs.YtahbbnfmbohmmaaDoor
