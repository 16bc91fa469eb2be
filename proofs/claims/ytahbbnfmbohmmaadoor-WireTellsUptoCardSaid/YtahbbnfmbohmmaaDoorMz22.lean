import Derived.Test.YtahbbnfmbohmmaaDoorMz16
import Derived.Test.YtahbbnfmbohmmaaDoorMz14
import Derived.Test.YtahbbnfmbohmmaaDoorMz19
import Derived.Test.YtahbbnfmbohmmaaDoorMz3
set_option linter.unusedSimpArgs false
set_option linter.unnecessarySimpa false
set_option linter.unusedVariables false
set_option maxHeartbeats 1000000
namespace Go.Proofs.YtahbbnfmbohmmaaDoor
open Go.Ab Go.RowKit
set_option maxRecDepth 10000
def vS:List PanicEntry:=[{ v := .iface 100 (.agg #[]),recovered:=false }]
@[reducible] def j3 (s:qp):HB := .own true 1 [[.v (str s)]]
@[reducible] def VA:List HB → Prop:=fun H=>H = []
theorem yn {H:List (Nat × HB)} : ∃ H',VA H' ∧ ∀ n,H'.getD n .dead = qj H n ∨ H'.getD n .dead = .dead:=⟨[],rfl,fun n => .inr rfl⟩
section steps
variable {C' : Cx} {N:Nat} {all:Array Oper} {es:List Eff} {o:Oper} {os:List Oper} {K:List Eff → St → Prop} {ts:List (Nat × AV)} {hs:List (Nat × HB)} {nx:Nat} {gd:List Nat}
theorem jT {f:FuncId} {x:Operand} {first cap:List AV} {args:List Operand} {tys:Array TypeId} {d:Nat} {ty:TypeId} {pos:String} {af:Array Edge} {gg:Option (Nat × Bool)} {ys:List AV} {s:qp} (q:Nat) (keep:List Nat) (hf:IsFn C'.P f)
  (hc:xf C'.P f ys [j3 s] vS VA) (hx:evA (qi ts) x = .clo (.func f) first cap)
  (hdie:C'.die vS [] ((q,.dead) :: (q :: keep).map fun n=>(n,qj hs n)))
  (k:jV C' N all (⟨gd ++ (qW x ++ args.flatMap qW ++ []),q :: keep,some d,jU,[],[]⟩ :: es) ⟨(d,jU) :: ts,hs,nx⟩ os K)
  (hq:qj hs q = j3 s:=by rfl)
  (hz:qM (jl 0 [q]) (q :: keep) (qj hs) (first ++ args.map (evA (qi ts)) ++ cap) ys:=by ((repeat' (first|exact ja|apply qP|exact qZ rfl|exact jB|(apply qo;apply qD;exact .inr (of_decide_eq_true rfl))|(apply qo;apply jQ;exact .inr (of_decide_eq_true rfl))|(apply qo;apply qY;exact .inr (of_decide_eq_true rfl))|apply jp|apply jq))<;>fail)) (hN:d < N:=by exact nle rfl):jt C' N all gd es ⟨ts,hs,nx⟩ ⟨some d,.call ⟨.value x,args.toArray,tys⟩,ty,pos,af,gg⟩ os K:=by
 refine Q3 (H:=[j3 s]) (HP:=VA) (ch:=vS) (xs:=first ++ args.map (evA (qi ts)) ++ cap) _ (q :: keep) [q] [] rfl hN (yV f hf x args tys first cap hx) rfl (by simp) (fun n hn=>by simp at hn;simp [hn]) hz ?_ hc ?_ (by simp) k
 ·have hg:xZ (jl 0 [q]) (qj hs) [q] [j3 s]:=jh (j3 s) jW (qK (qU rfl)) hq rfl
  exact fun i n hb hi hj=>vz hg i n hb hi hj
 ·rintro H' rfl
  refine ⟨[(q,.dead)],rfl,fun i n hb hz=>?_,hdie⟩
  have:hb = .dead:=by
   cases i with
   | zero=>simp at hz;exact hz.2.symm
   | succ i=>simp at hz
  subst this
  exact jN
theorem qS {f:FuncId} {args:List Operand} {tys:Array TypeId} {d:Nat} {ty:TypeId} {pos:String} {af:Array Edge} {gg:Option (Nat × Bool)} {ys:List AV} {v:AV} {s r:qp} (q:Nat) (hf:IsFn C'.P f)
  (hc:qu C'.P f ys [j3 s] v [j3 r])
  (k:jV C' N all (⟨gd ++ (qW (.func f) ++ args.flatMap qW),[q],some d,v,[(q,j3 r)],[]⟩ :: es) ⟨(d,v) :: ts,(q,j3 r) :: hs,nx⟩ os K)
  (hq:qj hs q = j3 s:=by rfl)
  (hz:qM (jl 0 [q]) [q] (qj hs) (args.map (evA (qi ts))) ys:=by ((repeat' (first|exact ja|apply qP|exact qZ rfl|exact jB|(apply qo;apply qD;exact .inr (of_decide_eq_true rfl))|(apply qo;apply jQ;exact .inr (of_decide_eq_true rfl))|(apply qo;apply qY;exact .inr (of_decide_eq_true rfl))|apply jp|apply jq))<;>fail)) (hr:v.ren (yU (jl 0 [q])) = v:=by rfl) (hN:d < N:=by exact nle rfl):xz C' N all gd es ⟨ts,hs,nx⟩ f args d tys ty pos af gg os K :=
 yJ [q] [] [(q,j3 r)] nx v hf hc hz (jh (j3 s) jW (qK (qU rfl)) hq rfl) (qB (qK (qU rfl)) jI) k hr rfl rfl (Nat.le_of_ble_eq_true rfl) (by simp) rfl (fun n hn=>by cases hn) (Nat.le_refl _) hN
end steps
theorem yy {L:List (Nat × Nat)} {nh:Nat} {σ:St} {q q' : Nat} {s s' : qp} {rest:List (Nat × HB)} (hq:qj σ.hs q = j3 s) (h1:Maps L nh q q') (hs:s = s') (hr:jS L nh σ rest):jS L nh σ ((q',j3 s') :: rest):=by
 subst hs
 exact ⟨⟨q,h1,by rw [hq];exact ⟨id,rfl,j6 (qU rfl) yh⟩⟩,hr⟩
attribute [local irreducible] Awp jV jt jv Red qz Go.Ab.Fin qu Rz x0 ju jn ResOk jG jo yi qM
set_option maxHeartbeats 1000000 in
theorem jY (s r:qp) (n:Int) (hs:s.length ≤ 1000000000) (h:ji s = some (n,r)):qu C1.P 30 [.op 0 0 0] [j3 s] (.v (.int .i64 n)) [j3 r]:=by
 unfold ji at h
 cases hc:vb s with
 | none=>rw [hc] at h;cases h
 | some z =>
   obtain ⟨t,r'⟩:=z
   rw [hc] at h
   simp only at h
   by_cases hok:∃ m,Lib.atoiAll t = .ok m
   case neg =>
    cases ha:Lib.atoiAll t with
    | ok m=>exact absurd ⟨m,ha⟩ hok
    | _=>rw [ha] at h;cases h
   case pos =>
     obtain ⟨m,ha⟩:=hok
     rw [ha] at h
     simp only at h
     split at h
     case isFalse=>cases h
     rename_i hit
     injection h with h
     injection h with e1 e2
     subst e1 e2 hit
     have hb:=Lib.atoiAll_bounds ha
     have hl:=vw hc
     have htl:(Lib.itoa m).length ≤ 1000000000:=by
      have:=congrArg List.length hl.1
      simp at this
      omega
     have c1:=JU s _ r' hs hc
     have c2:=JT _ m htl ha
     have c3:=vd m hb.1 hb.2
     clear hl hc ha hs htl hb
     generalize Lib.itoa m = t at *
     refine qe (C:=C1) Tryd.func30 rfl _ Tryd.ntmps30 (Nat.le_of_ble_eq_true rfl) _ Tryd.results30 1 rfl rfl ?_
     repeat' (first|refine ql ?_|(first|refine xsF Tryd.func59 (c1 ..) ?_|refine xsF Tryd.func60 (c2 ..) ?_|refine xsF Tryd.func53 (c3 ..) ?_|(apply qx;apply zY;(first|exact .inl ⟨rfl,rfl⟩|exact .inr ⟨rfl,rfl⟩);exact Tryd.underlying90;(first|exact .inl rfl|exact .inr rfl);exact nle rfl))|((first|(apply qb;rfl;rfl;exact nle rfl)|(apply qa;rfl;rfl;exact nle rfl)|refine xsC ?_ ?_);all_goals (intro hc;have hp:=hc;try simp at hp;try (exfalso;omega)))|refine jj ?_ ?_)
     all_goals try (exfalso;simp at hc;done)
     all_goals ((apply qv (rs:=[.tmp 2]) [] 1;(case hr=>(repeat (first|exact qm|(apply qn;rfl)|(apply qk;rfl;rfl;rfl;rfl;rfl))));(case hL=>rfl);(case hh=>refine yy (q:=0) rfl (qd rfl) ?_ qg;all_goals (first|(with_reducible rfl)|rfl));(case hi=>exact rfl);(case hz=>first|rfl|(simp [jw,AV.ren,AV.ren.renL,qV,qi,qI];done))))
theorem kg (t:qp) (ht:t.length ≤ 1000000000):(∃ n,Lib.atoiAll t = .ok n ∧ yL n ∧ zu C.P 60 [.v (str t)] (.tup [.v (.int .i64 n),.v .nilIface])) ∨ ∃ n,(∀ m, ¬ Lib.atoiAll t = .ok m) ∧ yL n ∧ zu C.P 60 [.v (str t)] (.tup [.v (.int .i64 n),.errv]):=by
 cases h:Lib.atoiAll t with
 | ok n=>exact .inl ⟨n,rfl,Lib.atoiAll_bounds h,JT t n ht h⟩
 | range=>exact .inr ⟨_,by simp,Lib.atoiSat_bounds t,Ve t ht h⟩
 | _=>exact .inr ⟨0,by simp,⟨by decide,by decide⟩,Vf t ht h⟩
set_option maxHeartbeats 2000000 in
theorem yQ (s:qp) (hs:s.length ≤ 1000000000) (h:ji s = none):xf C1.P 30 [.op 0 0 0] [j3 s] vS VA:=by
 unfold ji at h
 cases hc:vb s with
 | none =>
   have c1:=Vi s hc
   rcases kg s hs with ⟨n,ha,hb,c2⟩|⟨n,ha,hb,c2⟩
   all_goals
    have c3:=vd n hb.1 hb.2
    clear h hc ha hb
    generalize Lib.itoa n = t2 at *
    refine qA (C:=C1) Tryd.func30 rfl _ Tryd.ntmps30 (Nat.le_of_ble_eq_true rfl) 1 rfl rfl ?_
    repeat' (first|refine ql ?_|(first|refine xsF Tryd.func59 (c1 ..) ?_|refine xsF Tryd.func60 (c2 ..) ?_|refine ZK Tryd.func60 (c2 ..) ?_|refine xsF Tryd.func53 (c3 ..) ?_|(apply qx;apply zY;(first|exact .inl ⟨rfl,rfl⟩|exact .inr ⟨rfl,rfl⟩);exact Tryd.underlying90;(first|exact .inl rfl|exact .inr rfl);exact nle rfl)|(apply qx;apply vi;rfl;kernel_rfl;exact nle rfl)|((refine xl 33 [] rfl ⟨rfl,yn⟩ ?_);(repeat (first|exact qH 33 rfl|exact ⟨33,rfl⟩|refine qJ (d:=33) rfl (nle rfl) ?_|(apply qT;exact nle rfl;refine ⟨?_,?_⟩;(first|exact fun h=>absurd h Bool.false_ne_true|(intro _;kernel_rfl)))));done))|((first|(apply qb;rfl;rfl;exact nle rfl)|(apply qa;rfl;rfl;exact nle rfl)|refine xsC ?_ ?_);all_goals (intro hc;have hp:=hc;try simp at hp;try (exfalso;omega)))|refine jj ?_ ?_)
 | some z =>
   obtain ⟨t,r⟩:=z
   rw [hc] at h
   simp only at h
   have c1:=JU s t r hs hc
   have htl:t.length ≤ 1000000000:=by
    have:=congrArg List.length (vw hc).1
    simp at this
    omega
   rcases kg t htl with ⟨n,ha,hb,c2⟩|⟨n,ha,hb,c2⟩
   ·rw [ha] at h
    simp only at h
    have hne:¬ Lib.itoa n = t:=fun e=>by rw [if_pos e] at h;cases h
    have c3:=vd n hb.1 hb.2
    clear h hc ha hb
    generalize Lib.itoa n = t2 at *
    refine qA (C:=C1) Tryd.func30 rfl _ Tryd.ntmps30 (Nat.le_of_ble_eq_true rfl) 1 rfl rfl ?_
    repeat' (first|refine ql ?_|(first|refine xsF Tryd.func59 (c1 ..) ?_|refine xsF Tryd.func60 (c2 ..) ?_|refine ZK Tryd.func60 (c2 ..) ?_|refine xsF Tryd.func53 (c3 ..) ?_|(apply qx;apply zY;(first|exact .inl ⟨rfl,rfl⟩|exact .inr ⟨rfl,rfl⟩);exact Tryd.underlying90;(first|exact .inl rfl|exact .inr rfl);exact nle rfl)|(apply qx;apply vi;rfl;kernel_rfl;exact nle rfl)|((refine xl 33 [] rfl ⟨rfl,yn⟩ ?_);(repeat (first|exact qH 33 rfl|exact ⟨33,rfl⟩|refine qJ (d:=33) rfl (nle rfl) ?_|(apply qT;exact nle rfl;refine ⟨?_,?_⟩;(first|exact fun h=>absurd h Bool.false_ne_true|(intro _;kernel_rfl)))));done))|((first|(apply qb;rfl;rfl;exact nle rfl)|(apply qa;rfl;rfl;exact nle rfl)|refine xsC ?_ ?_);all_goals (intro hc;have hp:=hc;try simp at hp;try (exfalso;omega)))|refine jj ?_ ?_)
    all_goals ((exfalso;simp_all;done))
   ·have c3:=vd n hb.1 hb.2
    clear h hc ha hb
    generalize Lib.itoa n = t2 at *
    refine qA (C:=C1) Tryd.func30 rfl _ Tryd.ntmps30 (Nat.le_of_ble_eq_true rfl) 1 rfl rfl ?_
    repeat' (first|refine ql ?_|(first|refine xsF Tryd.func59 (c1 ..) ?_|refine xsF Tryd.func60 (c2 ..) ?_|refine ZK Tryd.func60 (c2 ..) ?_|refine xsF Tryd.func53 (c3 ..) ?_|(apply qx;apply zY;(first|exact .inl ⟨rfl,rfl⟩|exact .inr ⟨rfl,rfl⟩);exact Tryd.underlying90;(first|exact .inl rfl|exact .inr rfl);exact nle rfl)|(apply qx;apply vi;rfl;kernel_rfl;exact nle rfl)|((refine xl 33 [] rfl ⟨rfl,yn⟩ ?_);(repeat (first|exact qH 33 rfl|exact ⟨33,rfl⟩|refine qJ (d:=33) rfl (nle rfl) ?_|(apply qT;exact nle rfl;refine ⟨?_,?_⟩;(first|exact fun h=>absurd h Bool.false_ne_true|(intro _;kernel_rfl)))));done))|((first|(apply qb;rfl;rfl;exact nle rfl)|(apply qa;rfl;rfl;exact nle rfl)|refine xsC ?_ ?_);all_goals (intro hc;have hp:=hc;try simp at hp;try (exfalso;omega)))|refine jj ?_ ?_)
theorem kr {most n:Int} {s r:qp} (h:ji s = some (n,r)):(xx most s = some (n,r) ∧ 0 ≤ n ∧ n ≤ most) ∨ (xx most s = none ∧ (n < 0 ∨ most < n)):=by
 unfold xx
 rw [h]
 simp only
 by_cases hb:n < 0 ∨ most < n
 ·rw [if_pos hb];exact .inr ⟨rfl,hb⟩
 ·rw [if_neg hb];exact .inl ⟨rfl,by omega,by omega⟩
theorem Yy {most:Int} {s:qp} (h:xx most s = none):ji s = none ∨ ∃ n r,ji s = some (n,r) ∧ (n < 0 ∨ most < n):=by
 cases hn:ji s with
 | none=>exact .inl rfl
 | some z =>
   obtain ⟨n,r⟩:=z
   rcases kr (most:=most) hn with ⟨h1,_⟩|⟨_,h2⟩
   ·rw [h1] at h;cases h
   ·exact .inr ⟨n,r,rfl,h2⟩
theorem qR {s r:qp} {n:Int} (h:ji s = some (n,r)):r.length ≤ s.length:=by
 rw [(zG h).1,List.length_append];omega
end Go.Proofs.YtahbbnfmbohmmaaDoor
set_option linter.unusedSimpArgs false
set_option linter.unnecessarySimpa false
set_option linter.unusedVariables false
set_option maxHeartbeats 1000000
namespace Go.Proofs.YtahbbnfmbohmmaaDoor
open Go.Ab Go.RowKit
set_option maxRecDepth 10000
attribute [local irreducible] Awp jV jt jv Red qz Go.Ab.Fin qu Rz x0 ju jn ResOk jG jo yi qM
theorem Yc (most:Int) (s r:qp) (n:Int) (hs:s.length ≤ 1000000000) (h:xx most s = some (n,r)):qu C1.P 61 [.op 0 0 0,.v (.int .i64 most)] [j3 s] (.v (.int .i64 n)) [j3 r]:=by
 obtain ⟨h1,h2,h3⟩ : ji s = some (n,r) ∧ 0 ≤ n ∧ n ≤ most:=by
  have hh:=h
  unfold xx at hh
  cases hn:ji s with
  | none=>rw [hn] at hh;cases hh
  | some z =>
    obtain ⟨m,r'⟩:=z
    rcases kr (most:=most) hn with ⟨e,a,b⟩|⟨e,_⟩
    ·rw [e] at h;injection h with h;injection h with x y;subst x y;exact ⟨rfl,a,b⟩
    ·rw [e] at h;cases h
 have c1:=jY s r n hs h1
 clear h h1
 refine qe (C:=C1) Tryd.func61 rfl _ Tryd.ntmps61 (Nat.le_of_ble_eq_true rfl) _ Tryd.results61 1 rfl rfl ?_
 repeat' (first|refine ql ?_|(first|(apply qc Tryd.func30 rfl rfl;intro hIsFn;refine qS 0 hIsFn (c1) ?_))|((first|(apply qb;rfl;rfl;exact nle rfl)|(apply qa;rfl;rfl;exact nle rfl)|refine xsC ?_ ?_);all_goals (intro hc;have hp:=hc;try simp at hp;try (exfalso;omega)))|refine jj ?_ ?_)
 all_goals try (exfalso;omega)
 all_goals ((apply qv (rs:=[.tmp 4]) [] 1;(case hr=>(repeat (first|exact qm|(apply qn;rfl)|(apply qk;rfl;rfl;rfl;rfl;rfl))));(case hL=>rfl);(case hh=>refine yy (q:=0) rfl (qd rfl) ?_ qg;all_goals (first|(with_reducible rfl)|rfl));(case hi=>exact rfl);(case hz=>first|rfl|(simp [jw,AV.ren,AV.ren.renL,qV,qi,qI];done))))
theorem wy (most:Int) (s:qp) (hs:s.length ≤ 1000000000) (h:xx most s = none):xf C1.P 61 [.op 0 0 0,.v (.int .i64 most)] [j3 s] vS VA:=by
 rcases Yy h with h1|⟨n,r,h1,h2⟩
 ·have c1:=yQ s hs h1
  refine qA (C:=C1) Tryd.func61 rfl _ Tryd.ntmps61 (Nat.le_of_ble_eq_true rfl) 1 rfl rfl ?_
  repeat' (first|refine ql ?_|(first|((refine jT (first:=[]) (cap:=[]) 0 [] (jd Tryd.func30 rfl rfl) (c1) rfl (⟨rfl,yn⟩) ?_);(repeat (first|exact qH 7 rfl|exact ⟨7,rfl⟩|refine qJ (d:=7) rfl (nle rfl) ?_|(apply qT;exact nle rfl;refine ⟨?_,?_⟩;(first|exact fun h=>absurd h Bool.false_ne_true|(intro _;kernel_rfl)))));done))|((first|(apply qb;rfl;rfl;exact nle rfl)|(apply qa;rfl;rfl;exact nle rfl)|refine xsC ?_ ?_);all_goals (intro hc;have hp:=hc;try simp at hp;try (exfalso;omega)))|refine jj ?_ ?_)
 ·have c1:=jY s r n hs h1
  clear h h1
  refine qA (C:=C1) Tryd.func61 rfl _ Tryd.ntmps61 (Nat.le_of_ble_eq_true rfl) 1 rfl rfl ?_
  repeat' (first|refine ql ?_|(first|(apply qc Tryd.func30 rfl rfl;intro hIsFn;refine qS 0 hIsFn (c1) ?_)|(apply qx;apply vi;rfl;kernel_rfl;exact nle rfl)|((refine xl 6 [] rfl ⟨rfl,yn⟩ ?_);(repeat (first|exact qH 6 rfl|exact ⟨6,rfl⟩|refine qJ (d:=6) rfl (nle rfl) ?_|(apply qT;exact nle rfl;refine ⟨?_,?_⟩;(first|exact fun h=>absurd h Bool.false_ne_true|(intro _;kernel_rfl)))));done))|((first|(apply qb;rfl;rfl;exact nle rfl)|(apply qa;rfl;rfl;exact nle rfl)|refine xsC ?_ ?_);all_goals (intro hc;have hp:=hc;try simp at hp;try (exfalso;omega)))|refine jj ?_ ?_)
  all_goals ((exfalso;omega))
end Go.Proofs.YtahbbnfmbohmmaaDoor
set_option linter.unusedSimpArgs false
set_option linter.unnecessarySimpa false
set_option linter.unusedVariables false
set_option maxHeartbeats 1000000
namespace Go.Proofs.YtahbbnfmbohmmaaDoor
open Go.Ab Go.RowKit
set_option maxRecDepth 10000
attribute [local irreducible] Awp jV jt jv Red qz Go.Ab.Fin qu Rz x0 ju jn ResOk jG jo yi qM
theorem X0 {s:qp} {t r:qp} (h:qG s = some (t,r)) : ∃ (k:Nat) (r0:qp),xx s.length s = some ((k:Int),r0) ∧ k ≤ r0.length ∧ t = r0.take k ∧ r = r0.drop k:=by
 unfold qG at h
 split at h
 ·cases h
 ·rename_i n r0 hc
  split at h
  ·cases h
  ·rename_i hb
   injection h with h
   injection h with h1 h2
   obtain ⟨_,_,h0,_⟩:=yM hc
   refine ⟨n.toNat,r0,by rw [hc,Int.toNat_of_nonneg h0],by omega,h1.symm,h2.symm⟩
theorem YT {s:qp} (h:qG s = none):xx s.length s = none ∨ ∃ (k:Nat) (r0:qp),xx s.length s = some ((k:Int),r0) ∧ r0.length < k ∧ k ≤ s.length:=by
 cases hc:xx s.length s with
 | none=>exact .inl rfl
 | some z =>
   obtain ⟨n,r0⟩:=z
   right
   obtain ⟨_,_,h0,h1⟩:=yM hc
   unfold qG at h
   rw [hc] at h
   simp only at h
   split at h
   ·rename_i hb
    exact ⟨n.toNat,r0,by rw [Int.toNat_of_nonneg h0],by omega,by omega⟩
   ·cases h
theorem ku {most:Int} {s r:qp} {n:Int} (h:xx most s = some (n,r)):r.length ≤ s.length:=by
 rw [(yM h).1,List.length_append];omega
set_option maxHeartbeats 1000000 in
theorem je (s t r:qp) (hs:s.length ≤ 1000000000) (h:qG s = some (t,r)):qu C1.P 31 [.op 0 0 0] [j3 s] (.v (str t)) [j3 r]:=by
 obtain ⟨k,r0,h1,h2,rfl,rfl⟩:=X0 h
 have c1:=Yc _ s r0 k hs h1
 have hr:=ku h1
 clear h h1
 refine qe (C:=C1) Tryd.func31 rfl _ Tryd.ntmps31 (Nat.le_of_ble_eq_true rfl) _ Tryd.results31 1 rfl rfl ?_
 repeat' (first|refine ql ?_|(first|(apply qc Tryd.func61 rfl rfl;intro hIsFn;refine qS 0 hIsFn (c1) ?_)|(refine XD ?_))|((first|(apply qb;rfl;rfl;exact nle rfl)|(apply qa;rfl;rfl;exact nle rfl)|refine xsC ?_ ?_);all_goals (intro hc;have hp:=hc;try simp at hp;try (exfalso;omega)))|refine jj ?_ ?_)
 all_goals try (exfalso;omega)
 all_goals ((apply qv (rs:=[.tmp 2]) [] 1;(case hr=>(repeat (first|exact qm|(apply qn;rfl)|(apply qk;rfl;rfl;rfl;rfl;rfl))));(case hL=>rfl);(case hh=>refine yy (q:=0) rfl (qd rfl) ?_ qg;all_goals (first|(with_reducible rfl)|first|(rw [List.take_length];done)|rfl));(case hi=>exact rfl);(case hz=>first|rfl|(simp [jw,AV.ren,AV.ren.renL,qV,qi,qI];done))))
theorem yF (s:qp) (hs:s.length ≤ 1000000000) (h:qG s = none):xf C1.P 31 [.op 0 0 0] [j3 s] vS VA:=by
 rcases YT h with h1|⟨k,r0,h1,h2,h3⟩
 ·have c1:=wy _ s hs h1
  refine qA (C:=C1) Tryd.func31 rfl _ Tryd.ntmps31 (Nat.le_of_ble_eq_true rfl) 1 rfl rfl ?_
  repeat' (first|refine ql ?_|(first|((refine jT (first:=[]) (cap:=[]) 0 [] (jd Tryd.func61 rfl rfl) (c1) rfl (⟨rfl,yn⟩) ?_);(repeat (first|exact qH 11 rfl|exact ⟨11,rfl⟩|refine qJ (d:=11) rfl (nle rfl) ?_|(apply qT;exact nle rfl;refine ⟨?_,?_⟩;(first|exact fun h=>absurd h Bool.false_ne_true|(intro _;kernel_rfl)))));done))|((first|(apply qb;rfl;rfl;exact nle rfl)|(apply qa;rfl;rfl;exact nle rfl)|refine xsC ?_ ?_);all_goals (intro hc;have hp:=hc;try simp at hp;try (exfalso;omega)))|refine jj ?_ ?_)
 ·have c1:=Yc _ s r0 k hs h1
  clear h h1
  refine qA (C:=C1) Tryd.func31 rfl _ Tryd.ntmps31 (Nat.le_of_ble_eq_true rfl) 1 rfl rfl ?_
  repeat' (first|refine ql ?_|(first|(apply qc Tryd.func61 rfl rfl;intro hIsFn;refine qS 0 hIsFn (c1) ?_)|(apply qx;apply vi;rfl;kernel_rfl;exact nle rfl)|((refine xl 11 [] rfl ⟨rfl,yn⟩ ?_);(repeat (first|exact qH 11 rfl|exact ⟨11,rfl⟩|refine qJ (d:=11) rfl (nle rfl) ?_|(apply qT;exact nle rfl;refine ⟨?_,?_⟩;(first|exact fun h=>absurd h Bool.false_ne_true|(intro _;kernel_rfl)))));done)|(refine XD ?_))|((first|(apply qb;rfl;rfl;exact nle rfl)|(apply qa;rfl;rfl;exact nle rfl)|refine xsC ?_ ?_);all_goals (intro hc;have hp:=hc;try simp at hp;try (exfalso;omega)))|refine jj ?_ ?_)
  all_goals ((exfalso;omega))
end Go.Proofs.YtahbbnfmbohmmaaDoor
