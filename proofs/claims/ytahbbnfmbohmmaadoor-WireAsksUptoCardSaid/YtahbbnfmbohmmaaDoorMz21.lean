import Derived.Test.YtahbbnfmbohmmaaDoorMz16
import Derived.Test.YtahbbnfmbohmmaaDoorMz14
import Derived.Test.YtahbbnfmbohmmaaDoorMz19
import Derived.Test.YtahbbnfmbohmmaaDoorMz3
set_option linter.unusedSimpArgs false
set_option linter.unnecessarySimpa false
set_option linter.unusedVariables false
set_option maxHeartbeats 1000000
namespace Go.Proofs.YtahbbnfmbohmmaaDoor
open Go.Ab Go.RowKit
set_option maxRecDepth 10000
def vz:List PanicEntry:=[{ v := .iface 100 (.agg #[]),recovered:=false }]
@[reducible] def jN (s:qj):HB := .own true 1 [[.v (str s)]]
@[reducible] def XL:List HB → Prop:=fun H=>H = []
theorem j5 {H:List (Nat × HB)} : ∃ H',XL H' ∧ ∀ n,H'.getD n .dead = qh H n ∨ H'.getD n .dead = .dead:=⟨[],rfl,fun n => .inr rfl⟩
section steps
variable {C' : Cx} {N:Nat} {all:Array Oper} {es:List Eff} {o:Oper} {os:List Oper} {K:List Eff → St → Prop} {ts:List (Nat × AV)} {hs:List (Nat × HB)} {nx:Nat} {gd:List Nat}
theorem jC {f:FuncId} {x:Operand} {first cap:List AV} {args:List Operand} {tys:Array TypeId} {d:Nat} {ty:TypeId} {pos:String} {af:Array Edge} {gg:Option (Nat × Bool)} {ys:List AV} {s:qj} (q:Nat) (keep:List Nat) (hf:IsFn C'.P f)
  (hc:yV C'.P f ys [jN s] vz XL) (hx:evA (qg ts) x = .clo (.func f) first cap)
  (hdie:C'.die vz [] ((q,.dead) :: (q :: keep).map fun n=>(n,qh hs n)))
  (k:jW C' N all (⟨gd ++ (qM x ++ args.flatMap qM ++ []),q :: keep,some d,jG,[],[]⟩ :: es) ⟨(d,jG) :: ts,hs,nx⟩ os K)
  (hq:qh hs q = jN s:=by rfl)
  (hz:qP (jh 0 [q]) (q :: keep) (qh hs) (first ++ args.map (evA (qg ts)) ++ cap) ys:=by ((repeat' (first|exact jd|apply qT|exact jc rfl|exact jF|(apply qo;apply qU;exact .inr (of_decide_eq_true rfl))|(apply qo;apply jQ;exact .inr (of_decide_eq_true rfl))|(apply qo;apply je;exact .inr (of_decide_eq_true rfl))|apply jo|apply jp))<;>fail)) (hN:d < N:=by exact nle rfl):jq C' N all gd es ⟨ts,hs,nx⟩ ⟨some d,.call ⟨.value x,args.toArray,tys⟩,ty,pos,af,gg⟩ os K:=by
 refine Qq (H:=[jN s]) (HP:=XL) (ch:=vz) (xs:=first ++ args.map (evA (qg ts)) ++ cap) _ (q :: keep) [q] [] rfl hN (yB f hf x args tys first cap hx) rfl (by simp) (fun n hn=>by simp at hn;simp [hn]) hz ?_ hc ?_ (by simp) k
 ·have hg:xN (jh 0 [q]) (qh hs) [q] [jN s]:=jg (jN s) jT (qQ (qJ rfl)) hq rfl
  exact fun i n hb hi hj=>vh hg i n hb hi hj
 ·rintro H' rfl
  refine ⟨[(q,.dead)],rfl,fun i n hb hz=>?_,hdie⟩
  have:hb = .dead:=by
   cases i with
   | zero=>simp at hz;exact hz.2.symm
   | succ i=>simp at hz
  subst this
  exact jD
theorem qH {f:FuncId} {args:List Operand} {tys:Array TypeId} {d:Nat} {ty:TypeId} {pos:String} {af:Array Edge} {gg:Option (Nat × Bool)} {ys:List AV} {v:AV} {s r:qj} (q:Nat) (hf:IsFn C'.P f)
  (hc:qu C'.P f ys [jN s] v [jN r])
  (k:jW C' N all (⟨gd ++ (qM (.func f) ++ args.flatMap qM),[q],some d,v,[(q,jN r)],[]⟩ :: es) ⟨(d,v) :: ts,(q,jN r) :: hs,nx⟩ os K)
  (hq:qh hs q = jN s:=by rfl)
  (hz:qP (jh 0 [q]) [q] (qh hs) (args.map (evA (qg ts))) ys:=by ((repeat' (first|exact jd|apply qT|exact jc rfl|exact jF|(apply qo;apply qU;exact .inr (of_decide_eq_true rfl))|(apply qo;apply jQ;exact .inr (of_decide_eq_true rfl))|(apply qo;apply je;exact .inr (of_decide_eq_true rfl))|apply jo|apply jp))<;>fail)) (hr:v.ren (y4 (jh 0 [q])) = v:=by rfl) (hN:d < N:=by exact nle rfl):xM C' N all gd es ⟨ts,hs,nx⟩ f args d tys ty pos af gg os K :=
 yN [q] [] [(q,jN r)] nx v hf hc hz (jg (jN s) jT (qQ (qJ rfl)) hq rfl) (qL (qQ (qJ rfl)) jH) k hr rfl rfl (Nat.le_of_ble_eq_true rfl) (by simp) rfl (fun n hn=>by cases hn) (Nat.le_refl _) hN
end steps
theorem yb {L:List (Nat × Nat)} {nh:Nat} {σ:St} {q q' : Nat} {s s' : qj} {rest:List (Nat × HB)} (hq:qh σ.hs q = jN s) (h1:Maps L nh q q') (hs:s = s') (hr:jO L nh σ rest):jO L nh σ ((q',jN s') :: rest):=by
 subst hs
 exact ⟨⟨q,h1,by rw [hq];exact ⟨id,rfl,jR (qJ rfl) jY⟩⟩,hr⟩
attribute [local irreducible] Awp jW jq jB Red qv Go.Ab.Fin qu Rz vn jv jm ResOk jA ji yk qP
set_option maxHeartbeats 1000000 in
theorem jI (s r:qj) (n:Int) (hs:s.length ≤ 1000000000) (h:qY s = some (n,r)):qu C1.P 30 [.op 0 0 0] [jN s] (.v (.int .i64 n)) [jN r]:=by
 unfold qY at h
 cases hc:xL s with
 | none=>rw [hc] at h;cases h
 | some z =>
   obtain ⟨t,r'⟩:=z
   rw [hc] at h
   simp only at h
   by_cases hok:∃ m,Lib.atoiAll t = .ok m
   case neg =>
    cases ha:Lib.atoiAll t with
    | ok m=>exact absurd ⟨m,ha⟩ hok
    | _=>rw [ha] at h;cases h
   case pos =>
     obtain ⟨m,ha⟩:=hok
     rw [ha] at h
     simp only at h
     split at h
     case isFalse=>cases h
     rename_i hit
     injection h with h
     injection h with e1 e2
     subst e1 e2 hit
     have hb:=Lib.atoiAll_bounds ha
     have hl:=vd hc
     have htl:(Lib.itoa m).length ≤ 1000000000:=by
      have:=congrArg List.length hl.1
      simp at this
      omega
     have c1:=Jg s _ r' hs hc
     have c2:=Jf _ m htl ha
     have c3:=xO m hb.1 hb.2
     clear hl hc ha hs htl hb
     generalize Lib.itoa m = t at *
     refine qe (C:=C1) Tryd.func30 rfl _ Tryd.ntmps30 (Nat.le_of_ble_eq_true rfl) _ Tryd.results30 1 rfl rfl ?_
     repeat' (first|refine qn ?_|(first|refine xsF Tryd.func59 (c1 ..) ?_|refine xsF Tryd.func60 (c2 ..) ?_|refine xsF Tryd.func53 (c3 ..) ?_|(apply qt;apply zE;(first|exact .inl ⟨rfl,rfl⟩|exact .inr ⟨rfl,rfl⟩);exact Tryd.underlying90;(first|exact .inl rfl|exact .inr rfl);exact nle rfl))|((first|(apply qb;rfl;rfl;exact nle rfl)|(apply qa;rfl;rfl;exact nle rfl)|refine xsC ?_ ?_);all_goals (intro hc;have hp:=hc;try simp at hp;try (exfalso;omega)))|refine jn ?_ ?_)
     all_goals try (exfalso;simp at hc;done)
     all_goals ((apply qx (rs:=[.tmp 2]) [] 1;(case hr=>(repeat (first|exact qq|(apply qr;rfl)|(apply qm;rfl;rfl;rfl;rfl;rfl))));(case hL=>rfl);(case hh=>refine yb (q:=0) rfl (qf rfl) ?_ qi;all_goals (first|(with_reducible rfl)|rfl));(case hi=>exact rfl);(case hz=>first|rfl|(simp [jE,AV.ren,AV.ren.renL,ja,qg,qV];done))))
theorem zL (t:qj) (ht:t.length ≤ 1000000000):(∃ n,Lib.atoiAll t = .ok n ∧ xi n ∧ zr C.P 60 [.v (str t)] (.tup [.v (.int .i64 n),.v .nilIface])) ∨ ∃ n,(∀ m, ¬ Lib.atoiAll t = .ok m) ∧ xi n ∧ zr C.P 60 [.v (str t)] (.tup [.v (.int .i64 n),.errv]):=by
 cases h:Lib.atoiAll t with
 | ok n=>exact .inl ⟨n,rfl,Lib.atoiAll_bounds h,Jf t n ht h⟩
 | range=>exact .inr ⟨_,by simp,Lib.atoiSat_bounds t,Xq t ht h⟩
 | _=>exact .inr ⟨0,by simp,⟨by decide,by decide⟩,Xr t ht h⟩
set_option maxHeartbeats 2000000 in
theorem yx (s:qj) (hs:s.length ≤ 1000000000) (h:qY s = none):yV C1.P 30 [.op 0 0 0] [jN s] vz XL:=by
 unfold qY at h
 cases hc:xL s with
 | none =>
   have c1:=Xu s hc
   rcases zL s hs with ⟨n,ha,hb,c2⟩|⟨n,ha,hb,c2⟩
   all_goals
    have c3:=xO n hb.1 hb.2
    clear h hc ha hb
    generalize Lib.itoa n = t2 at *
    refine qw (C:=C1) Tryd.func30 rfl _ Tryd.ntmps30 (Nat.le_of_ble_eq_true rfl) 1 rfl rfl ?_
    repeat' (first|refine qn ?_|(first|refine xsF Tryd.func59 (c1 ..) ?_|refine xsF Tryd.func60 (c2 ..) ?_|refine VP Tryd.func60 (c2 ..) ?_|refine xsF Tryd.func53 (c3 ..) ?_|(apply qt;apply zE;(first|exact .inl ⟨rfl,rfl⟩|exact .inr ⟨rfl,rfl⟩);exact Tryd.underlying90;(first|exact .inl rfl|exact .inr rfl);exact nle rfl)|(apply qt;apply xT;rfl;kernel_rfl;exact nle rfl)|((refine y1 33 [] rfl ⟨rfl,j5⟩ ?_);(repeat (first|exact qC 33 rfl|exact ⟨33,rfl⟩|refine qD (d:=33) rfl (nle rfl) ?_|(apply qI;exact nle rfl;refine ⟨?_,?_⟩;(first|exact fun h=>absurd h Bool.false_ne_true|(intro _;kernel_rfl)))));done))|((first|(apply qb;rfl;rfl;exact nle rfl)|(apply qa;rfl;rfl;exact nle rfl)|refine xsC ?_ ?_);all_goals (intro hc;have hp:=hc;try simp at hp;try (exfalso;omega)))|refine jn ?_ ?_)
 | some z =>
   obtain ⟨t,r⟩:=z
   rw [hc] at h
   simp only at h
   have c1:=Jg s t r hs hc
   have htl:t.length ≤ 1000000000:=by
    have:=congrArg List.length (vd hc).1
    simp at this
    omega
   rcases zL t htl with ⟨n,ha,hb,c2⟩|⟨n,ha,hb,c2⟩
   ·rw [ha] at h
    simp only at h
    have hne:¬ Lib.itoa n = t:=fun e=>by rw [if_pos e] at h;cases h
    have c3:=xO n hb.1 hb.2
    clear h hc ha hb
    generalize Lib.itoa n = t2 at *
    refine qw (C:=C1) Tryd.func30 rfl _ Tryd.ntmps30 (Nat.le_of_ble_eq_true rfl) 1 rfl rfl ?_
    repeat' (first|refine qn ?_|(first|refine xsF Tryd.func59 (c1 ..) ?_|refine xsF Tryd.func60 (c2 ..) ?_|refine VP Tryd.func60 (c2 ..) ?_|refine xsF Tryd.func53 (c3 ..) ?_|(apply qt;apply zE;(first|exact .inl ⟨rfl,rfl⟩|exact .inr ⟨rfl,rfl⟩);exact Tryd.underlying90;(first|exact .inl rfl|exact .inr rfl);exact nle rfl)|(apply qt;apply xT;rfl;kernel_rfl;exact nle rfl)|((refine y1 33 [] rfl ⟨rfl,j5⟩ ?_);(repeat (first|exact qC 33 rfl|exact ⟨33,rfl⟩|refine qD (d:=33) rfl (nle rfl) ?_|(apply qI;exact nle rfl;refine ⟨?_,?_⟩;(first|exact fun h=>absurd h Bool.false_ne_true|(intro _;kernel_rfl)))));done))|((first|(apply qb;rfl;rfl;exact nle rfl)|(apply qa;rfl;rfl;exact nle rfl)|refine xsC ?_ ?_);all_goals (intro hc;have hp:=hc;try simp at hp;try (exfalso;omega)))|refine jn ?_ ?_)
    all_goals ((exfalso;simp_all;done))
   ·have c3:=xO n hb.1 hb.2
    clear h hc ha hb
    generalize Lib.itoa n = t2 at *
    refine qw (C:=C1) Tryd.func30 rfl _ Tryd.ntmps30 (Nat.le_of_ble_eq_true rfl) 1 rfl rfl ?_
    repeat' (first|refine qn ?_|(first|refine xsF Tryd.func59 (c1 ..) ?_|refine xsF Tryd.func60 (c2 ..) ?_|refine VP Tryd.func60 (c2 ..) ?_|refine xsF Tryd.func53 (c3 ..) ?_|(apply qt;apply zE;(first|exact .inl ⟨rfl,rfl⟩|exact .inr ⟨rfl,rfl⟩);exact Tryd.underlying90;(first|exact .inl rfl|exact .inr rfl);exact nle rfl)|(apply qt;apply xT;rfl;kernel_rfl;exact nle rfl)|((refine y1 33 [] rfl ⟨rfl,j5⟩ ?_);(repeat (first|exact qC 33 rfl|exact ⟨33,rfl⟩|refine qD (d:=33) rfl (nle rfl) ?_|(apply qI;exact nle rfl;refine ⟨?_,?_⟩;(first|exact fun h=>absurd h Bool.false_ne_true|(intro _;kernel_rfl)))));done))|((first|(apply qb;rfl;rfl;exact nle rfl)|(apply qa;rfl;rfl;exact nle rfl)|refine xsC ?_ ?_);all_goals (intro hc;have hp:=hc;try simp at hp;try (exfalso;omega)))|refine jn ?_ ?_)
theorem zU {most n:Int} {s r:qj} (h:qY s = some (n,r)):(xg most s = some (n,r) ∧ 0 ≤ n ∧ n ≤ most) ∨ (xg most s = none ∧ (n < 0 ∨ most < n)):=by
 unfold xg
 rw [h]
 simp only
 by_cases hb:n < 0 ∨ most < n
 ·rw [if_pos hb];exact .inr ⟨rfl,hb⟩
 ·rw [if_neg hb];exact .inl ⟨rfl,by omega,by omega⟩
theorem JS {most:Int} {s:qj} (h:xg most s = none):qY s = none ∨ ∃ n r,qY s = some (n,r) ∧ (n < 0 ∨ most < n):=by
 cases hn:qY s with
 | none=>exact .inl rfl
 | some z =>
   obtain ⟨n,r⟩:=z
   rcases zU (most:=most) hn with ⟨h1,_⟩|⟨_,h2⟩
   ·rw [h1] at h;cases h
   ·exact .inr ⟨n,r,rfl,h2⟩
theorem qG {s r:qj} {n:Int} (h:qY s = some (n,r)):r.length ≤ s.length:=by
 rw [(zj h).1,List.length_append];omega
end Go.Proofs.YtahbbnfmbohmmaaDoor
set_option linter.unusedSimpArgs false
set_option linter.unnecessarySimpa false
set_option linter.unusedVariables false
set_option maxHeartbeats 1000000
namespace Go.Proofs.YtahbbnfmbohmmaaDoor
open Go.Ab Go.RowKit
set_option maxRecDepth 10000
attribute [local irreducible] Awp jW jq jB Red qv Go.Ab.Fin qu Rz vn jv jm ResOk jA ji yk qP
theorem Jy (most:Int) (s r:qj) (n:Int) (hs:s.length ≤ 1000000000) (h:xg most s = some (n,r)):qu C1.P 61 [.op 0 0 0,.v (.int .i64 most)] [jN s] (.v (.int .i64 n)) [jN r]:=by
 obtain ⟨h1,h2,h3⟩ : qY s = some (n,r) ∧ 0 ≤ n ∧ n ≤ most:=by
  have hh:=h
  unfold xg at hh
  cases hn:qY s with
  | none=>rw [hn] at hh;cases hh
  | some z =>
    obtain ⟨m,r'⟩:=z
    rcases zU (most:=most) hn with ⟨e,a,b⟩|⟨e,_⟩
    ·rw [e] at h;injection h with h;injection h with x y;subst x y;exact ⟨rfl,a,b⟩
    ·rw [e] at h;cases h
 have c1:=jI s r n hs h1
 clear h h1
 refine qe (C:=C1) Tryd.func61 rfl _ Tryd.ntmps61 (Nat.le_of_ble_eq_true rfl) _ Tryd.results61 1 rfl rfl ?_
 repeat' (first|refine qn ?_|(first|(apply qc Tryd.func30 rfl rfl;intro hIsFn;refine qH 0 hIsFn (c1) ?_))|((first|(apply qb;rfl;rfl;exact nle rfl)|(apply qa;rfl;rfl;exact nle rfl)|refine xsC ?_ ?_);all_goals (intro hc;have hp:=hc;try simp at hp;try (exfalso;omega)))|refine jn ?_ ?_)
 all_goals try (exfalso;omega)
 all_goals ((apply qx (rs:=[.tmp 4]) [] 1;(case hr=>(repeat (first|exact qq|(apply qr;rfl)|(apply qm;rfl;rfl;rfl;rfl;rfl))));(case hL=>rfl);(case hh=>refine yb (q:=0) rfl (qf rfl) ?_ qi;all_goals (first|(with_reducible rfl)|rfl));(case hi=>exact rfl);(case hz=>first|rfl|(simp [jE,AV.ren,AV.ren.renL,ja,qg,qV];done))))
theorem kU (most:Int) (s:qj) (hs:s.length ≤ 1000000000) (h:xg most s = none):yV C1.P 61 [.op 0 0 0,.v (.int .i64 most)] [jN s] vz XL:=by
 rcases JS h with h1|⟨n,r,h1,h2⟩
 ·have c1:=yx s hs h1
  refine qw (C:=C1) Tryd.func61 rfl _ Tryd.ntmps61 (Nat.le_of_ble_eq_true rfl) 1 rfl rfl ?_
  repeat' (first|refine qn ?_|(first|((refine jC (first:=[]) (cap:=[]) 0 [] (qW Tryd.func30 rfl rfl) (c1) rfl (⟨rfl,j5⟩) ?_);(repeat (first|exact qC 7 rfl|exact ⟨7,rfl⟩|refine qD (d:=7) rfl (nle rfl) ?_|(apply qI;exact nle rfl;refine ⟨?_,?_⟩;(first|exact fun h=>absurd h Bool.false_ne_true|(intro _;kernel_rfl)))));done))|((first|(apply qb;rfl;rfl;exact nle rfl)|(apply qa;rfl;rfl;exact nle rfl)|refine xsC ?_ ?_);all_goals (intro hc;have hp:=hc;try simp at hp;try (exfalso;omega)))|refine jn ?_ ?_)
 ·have c1:=jI s r n hs h1
  clear h h1
  refine qw (C:=C1) Tryd.func61 rfl _ Tryd.ntmps61 (Nat.le_of_ble_eq_true rfl) 1 rfl rfl ?_
  repeat' (first|refine qn ?_|(first|(apply qc Tryd.func30 rfl rfl;intro hIsFn;refine qH 0 hIsFn (c1) ?_)|(apply qt;apply xT;rfl;kernel_rfl;exact nle rfl)|((refine y1 6 [] rfl ⟨rfl,j5⟩ ?_);(repeat (first|exact qC 6 rfl|exact ⟨6,rfl⟩|refine qD (d:=6) rfl (nle rfl) ?_|(apply qI;exact nle rfl;refine ⟨?_,?_⟩;(first|exact fun h=>absurd h Bool.false_ne_true|(intro _;kernel_rfl)))));done))|((first|(apply qb;rfl;rfl;exact nle rfl)|(apply qa;rfl;rfl;exact nle rfl)|refine xsC ?_ ?_);all_goals (intro hc;have hp:=hc;try simp at hp;try (exfalso;omega)))|refine jn ?_ ?_)
  all_goals ((exfalso;omega))
end Go.Proofs.YtahbbnfmbohmmaaDoor
set_option linter.unusedSimpArgs false
set_option linter.unnecessarySimpa false
set_option linter.unusedVariables false
set_option maxHeartbeats 1000000
namespace Go.Proofs.YtahbbnfmbohmmaaDoor
open Go.Ab Go.RowKit
set_option maxRecDepth 10000
attribute [local irreducible] Awp jW jq jB Red qv Go.Ab.Fin qu Rz vn jv jm ResOk jA ji yk qP
theorem Xe {s:qj} {t r:qj} (h:qB s = some (t,r)) : ∃ (k:Nat) (r0:qj),xg s.length s = some ((k:Int),r0) ∧ k ≤ r0.length ∧ t = r0.take k ∧ r = r0.drop k:=by
 unfold qB at h
 split at h
 ·cases h
 ·rename_i n r0 hc
  split at h
  ·cases h
  ·rename_i hb
   injection h with h
   injection h with h1 h2
   obtain ⟨_,_,h0,_⟩:=yt hc
   refine ⟨n.toNat,r0,by rw [hc,Int.toNat_of_nonneg h0],by omega,h1.symm,h2.symm⟩
theorem Yf {s:qj} (h:qB s = none):xg s.length s = none ∨ ∃ (k:Nat) (r0:qj),xg s.length s = some ((k:Int),r0) ∧ r0.length < k ∧ k ≤ s.length:=by
 cases hc:xg s.length s with
 | none=>exact .inl rfl
 | some z =>
   obtain ⟨n,r0⟩:=z
   right
   obtain ⟨_,_,h0,h1⟩:=yt hc
   unfold qB at h
   rw [hc] at h
   simp only at h
   split at h
   ·rename_i hb
    exact ⟨n.toNat,r0,by rw [Int.toNat_of_nonneg h0],by omega,by omega⟩
   ·cases h
theorem zV {most:Int} {s r:qj} {n:Int} (h:xg most s = some (n,r)):r.length ≤ s.length:=by
 rw [(yt h).1,List.length_append];omega
set_option maxHeartbeats 1000000 in
theorem qX (s t r:qj) (hs:s.length ≤ 1000000000) (h:qB s = some (t,r)):qu C1.P 31 [.op 0 0 0] [jN s] (.v (str t)) [jN r]:=by
 obtain ⟨k,r0,h1,h2,rfl,rfl⟩:=Xe h
 have c1:=Jy _ s r0 k hs h1
 have hr:=zV h1
 clear h h1
 refine qe (C:=C1) Tryd.func31 rfl _ Tryd.ntmps31 (Nat.le_of_ble_eq_true rfl) _ Tryd.results31 1 rfl rfl ?_
 repeat' (first|refine qn ?_|(first|(apply qc Tryd.func61 rfl rfl;intro hIsFn;refine qH 0 hIsFn (c1) ?_)|(refine YW ?_))|((first|(apply qb;rfl;rfl;exact nle rfl)|(apply qa;rfl;rfl;exact nle rfl)|refine xsC ?_ ?_);all_goals (intro hc;have hp:=hc;try simp at hp;try (exfalso;omega)))|refine jn ?_ ?_)
 all_goals try (exfalso;omega)
 all_goals ((apply qx (rs:=[.tmp 2]) [] 1;(case hr=>(repeat (first|exact qq|(apply qr;rfl)|(apply qm;rfl;rfl;rfl;rfl;rfl))));(case hL=>rfl);(case hh=>refine yb (q:=0) rfl (qf rfl) ?_ qi;all_goals (first|(with_reducible rfl)|first|(rw [List.take_length];done)|rfl));(case hi=>exact rfl);(case hz=>first|rfl|(simp [jE,AV.ren,AV.ren.renL,ja,qg,qV];done))))
theorem yh (s:qj) (hs:s.length ≤ 1000000000) (h:qB s = none):yV C1.P 31 [.op 0 0 0] [jN s] vz XL:=by
 rcases Yf h with h1|⟨k,r0,h1,h2,h3⟩
 ·have c1:=kU _ s hs h1
  refine qw (C:=C1) Tryd.func31 rfl _ Tryd.ntmps31 (Nat.le_of_ble_eq_true rfl) 1 rfl rfl ?_
  repeat' (first|refine qn ?_|(first|((refine jC (first:=[]) (cap:=[]) 0 [] (qW Tryd.func61 rfl rfl) (c1) rfl (⟨rfl,j5⟩) ?_);(repeat (first|exact qC 11 rfl|exact ⟨11,rfl⟩|refine qD (d:=11) rfl (nle rfl) ?_|(apply qI;exact nle rfl;refine ⟨?_,?_⟩;(first|exact fun h=>absurd h Bool.false_ne_true|(intro _;kernel_rfl)))));done))|((first|(apply qb;rfl;rfl;exact nle rfl)|(apply qa;rfl;rfl;exact nle rfl)|refine xsC ?_ ?_);all_goals (intro hc;have hp:=hc;try simp at hp;try (exfalso;omega)))|refine jn ?_ ?_)
 ·have c1:=Jy _ s r0 k hs h1
  clear h h1
  refine qw (C:=C1) Tryd.func31 rfl _ Tryd.ntmps31 (Nat.le_of_ble_eq_true rfl) 1 rfl rfl ?_
  repeat' (first|refine qn ?_|(first|(apply qc Tryd.func61 rfl rfl;intro hIsFn;refine qH 0 hIsFn (c1) ?_)|(apply qt;apply xT;rfl;kernel_rfl;exact nle rfl)|((refine y1 11 [] rfl ⟨rfl,j5⟩ ?_);(repeat (first|exact qC 11 rfl|exact ⟨11,rfl⟩|refine qD (d:=11) rfl (nle rfl) ?_|(apply qI;exact nle rfl;refine ⟨?_,?_⟩;(first|exact fun h=>absurd h Bool.false_ne_true|(intro _;kernel_rfl)))));done)|(refine YW ?_))|((first|(apply qb;rfl;rfl;exact nle rfl)|(apply qa;rfl;rfl;exact nle rfl)|refine xsC ?_ ?_);all_goals (intro hc;have hp:=hc;try simp at hp;try (exfalso;omega)))|refine jn ?_ ?_)
  all_goals ((exfalso;omega))
end Go.Proofs.YtahbbnfmbohmmaaDoor
