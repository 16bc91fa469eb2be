import Derived.Test.YtahbbnfmbohmmaaDoorMz16
import Derived.Test.YtahbbnfmbohmmaaDoorMz14
import Derived.Test.YtahbbnfmbohmmaaDoorMz19
import Derived.Test.YtahbbnfmbohmmaaDoorMz3
set_option linter.unusedSimpArgs false
set_option linter.unnecessarySimpa false
set_option linter.unusedVariables false
set_option maxHeartbeats 1000000
namespace Go.Proofs.YtahbbnfmbohmmaaDoor
open Go.Ab Go.RowKit
set_option maxRecDepth 10000
def vx:List PanicEntry:=[{ v := .iface 100 (.agg #[]),recovered:=false }]
@[reducible] def jL (s:qh):HB := .own true 1 [[.v (str s)]]
@[reducible] def XJ:List HB → Prop:=fun H=>H = []
theorem j3 {H:List (Nat × HB)} : ∃ H',XJ H' ∧ ∀ n,H'.getD n .dead = qf H n ∨ H'.getD n .dead = .dead:=⟨[],rfl,fun n => .inr rfl⟩
section steps
variable {C' : Cx} {N:Nat} {all:Array Oper} {es:List Eff} {o:Oper} {os:List Oper} {K:List Eff → St → Prop} {ts:List (Nat × AV)} {hs:List (Nat × HB)} {nx:Nat} {gd:List Nat}
theorem jA {f:FuncId} {x:Operand} {first cap:List AV} {args:List Operand} {tys:Array TypeId} {d:Nat} {ty:TypeId} {pos:String} {af:Array Edge} {gg:Option (Nat × Bool)} {ys:List AV} {s:qh} (q:Nat) (keep:List Nat) (hf:IsFn C'.P f)
  (hc:yS C'.P f ys [jL s] vx XJ) (hx:evA (qe ts) x = .clo (.func f) first cap)
  (hdie:C'.die vx [] ((q,.dead) :: (q :: keep).map fun n=>(n,qf hs n)))
  (k:jU C' N all (⟨gd ++ (qK x ++ args.flatMap qK ++ []),q :: keep,some d,jE,[],[]⟩ :: es) ⟨(d,jE) :: ts,hs,nx⟩ os K)
  (hq:qf hs q = jL s:=by rfl)
  (hz:qN (jf 0 [q]) (q :: keep) (qf hs) (first ++ args.map (evA (qe ts)) ++ cap) ys:=by ((repeat' (first|exact jb|apply qR|exact ja rfl|exact jD|(apply qm;apply qS;exact .inr (of_decide_eq_true rfl))|(apply qm;apply jO;exact .inr (of_decide_eq_true rfl))|(apply qm;apply jc;exact .inr (of_decide_eq_true rfl))|apply jm|apply jn))<;>fail)) (hN:d < N:=by exact nle rfl):jo C' N all gd es ⟨ts,hs,nx⟩ ⟨some d,.call ⟨.value x,args.toArray,tys⟩,ty,pos,af,gg⟩ os K:=by
 refine Qo (H:=[jL s]) (HP:=XJ) (ch:=vx) (xs:=first ++ args.map (evA (qe ts)) ++ cap) _ (q :: keep) [q] [] rfl hN (yz f hf x args tys first cap hx) rfl (by simp) (fun n hn=>by simp at hn;simp [hn]) hz ?_ hc ?_ (by simp) k
 ·have hg:xL (jf 0 [q]) (qf hs) [q] [jL s]:=je (jL s) jR (qO (qH rfl)) hq rfl
  exact fun i n hb hi hj=>vf hg i n hb hi hj
 ·rintro H' rfl
  refine ⟨[(q,.dead)],rfl,fun i n hb hz=>?_,hdie⟩
  have:hb = .dead:=by
   cases i with
   | zero=>simp at hz;exact hz.2.symm
   | succ i=>simp at hz
  subst this
  exact jB
theorem qF {f:FuncId} {args:List Operand} {tys:Array TypeId} {d:Nat} {ty:TypeId} {pos:String} {af:Array Edge} {gg:Option (Nat × Bool)} {ys:List AV} {v:AV} {s r:qh} (q:Nat) (hf:IsFn C'.P f)
  (hc:qr C'.P f ys [jL s] v [jL r])
  (k:jU C' N all (⟨gd ++ (qK (.func f) ++ args.flatMap qK),[q],some d,v,[(q,jL r)],[]⟩ :: es) ⟨(d,v) :: ts,(q,jL r) :: hs,nx⟩ os K)
  (hq:qf hs q = jL s:=by rfl)
  (hz:qN (jf 0 [q]) [q] (qf hs) (args.map (evA (qe ts))) ys:=by ((repeat' (first|exact jb|apply qR|exact ja rfl|exact jD|(apply qm;apply qS;exact .inr (of_decide_eq_true rfl))|(apply qm;apply jO;exact .inr (of_decide_eq_true rfl))|(apply qm;apply jc;exact .inr (of_decide_eq_true rfl))|apply jm|apply jn))<;>fail)) (hr:v.ren (y2 (jf 0 [q])) = v:=by rfl) (hN:d < N:=by exact nle rfl):xK C' N all gd es ⟨ts,hs,nx⟩ f args d tys ty pos af gg os K :=
 yL [q] [] [(q,jL r)] nx v hf hc hz (je (jL s) jR (qO (qH rfl)) hq rfl) (qJ (qO (qH rfl)) jF) k hr rfl rfl (Nat.le_of_ble_eq_true rfl) (by simp) rfl (fun n hn=>by cases hn) (Nat.le_refl _) hN
end steps
theorem j9 {L:List (Nat × Nat)} {nh:Nat} {σ:St} {q q' : Nat} {s s' : qh} {rest:List (Nat × HB)} (hq:qf σ.hs q = jL s) (h1:Maps L nh q q') (hs:s = s') (hr:jM L nh σ rest):jM L nh σ ((q',jL s') :: rest):=by
 subst hs
 exact ⟨⟨q,h1,by rw [hq];exact ⟨id,rfl,jP (qH rfl) jW⟩⟩,hr⟩
attribute [local irreducible] Awp jU jo jz Red qt Go.Ab.Fin qr Rz vl jt jj ResOk jy jg yi qN
set_option maxHeartbeats 1000000 in
theorem jG (s r:qh) (n:Int) (hs:s.length ≤ 1000000000) (h:qW s = some (n,r)):qr C1.P 30 [.op 0 0 0] [jL s] (.v (.int .i64 n)) [jL r]:=by
 unfold qW at h
 cases hc:xJ s with
 | none=>rw [hc] at h;cases h
 | some z =>
   obtain ⟨t,r'⟩:=z
   rw [hc] at h
   simp only at h
   cases ha:Lib.atoiAll t with
   | «syntax»=>rw [ha] at h;cases h
   | range=>rw [ha] at h;cases h
   | ok m =>
     rw [ha] at h
     simp only at h
     split at h
     case isFalse=>cases h
     rename_i hit
     injection h with h
     injection h with e1 e2
     subst e1 e2 hit
     have hb:=Lib.atoiAll_bounds ha
     have hl:=vb hc
     have htl:(Lib.itoa m).length ≤ 1000000000:=by
      have:=congrArg List.length hl.1
      simp at this
      omega
     have c1:=Je s _ r' hs hc
     have c2:=Jd _ m htl ha
     have c3:=xM m hb.1 hb.2
     clear hl hc ha hs htl hb
     generalize Lib.itoa m = t at *
     refine qc (C:=C1) Tryd.func30 rfl _ Tryd.ntmps30 (Nat.le_of_ble_eq_true rfl) _ Tryd.results30 1 rfl rfl ?_
     repeat' (first|refine ql ?_|(first|refine xsF Tryd.func59 (c1 ..) ?_|refine xsF Tryd.func60 (c2 ..) ?_|refine xsF Tryd.func53 (c3 ..) ?_|(apply qq;apply zC;(first|exact .inl ⟨rfl,rfl⟩|exact .inr ⟨rfl,rfl⟩);exact Tryd.underlying90;(first|exact .inl rfl|exact .inr rfl);exact nle rfl))|((first|refine g_sp_t ?_ ?_|refine g_sp_f ?_ ?_|refine xsC ?_ ?_);all_goals (intro hc;have hp:=hc;try simp at hp;try (exfalso;omega)))|refine jl ?_ ?_)
     all_goals try (exfalso;simp at hc;done)
     all_goals ((apply qv (rs:=[.tmp 2]) [] 1;(case hr=>(repeat (first|exact qo|(apply qp;rfl)|(apply qk;rfl;rfl;rfl;rfl;rfl))));(case hL=>rfl);(case hh=>refine j9 (q:=0) rfl (qd rfl) ?_ qg;all_goals (first|(with_reducible rfl)|rfl));(case hi=>exact rfl);(case hz=>first|rfl|(simp [jC,AV.ren,AV.ren.renL,qY,qe,qT];done))))
theorem zJ (t:qh) (ht:t.length ≤ 1000000000):(∃ n,Lib.atoiAll t = .ok n ∧ xg n ∧ zp C.P 60 [.v (str t)] (.tup [.v (.int .i64 n),.v .nilIface])) ∨ ∃ n,(∀ m, ¬ Lib.atoiAll t = .ok m) ∧ xg n ∧ zp C.P 60 [.v (str t)] (.tup [.v (.int .i64 n),.errv]):=by
 cases h:Lib.atoiAll t with
 | ok n=>exact .inl ⟨n,rfl,Lib.atoiAll_bounds h,Jd t n ht h⟩
 | «syntax»=>exact .inr ⟨0,by simp,⟨by decide,by decide⟩,Xp t ht h⟩
 | range=>exact .inr ⟨_,by simp,Lib.atoiSat_bounds t,Xo t ht h⟩
set_option maxHeartbeats 2000000 in
theorem yv (s:qh) (hs:s.length ≤ 1000000000) (h:qW s = none):yS C1.P 30 [.op 0 0 0] [jL s] vx XJ:=by
 unfold qW at h
 cases hc:xJ s with
 | none =>
   have c1:=Xs s hc
   rcases zJ s hs with ⟨n,ha,hb,c2⟩|⟨n,ha,hb,c2⟩
   all_goals
    have c3:=xM n hb.1 hb.2
    clear h hc ha hb
    generalize Lib.itoa n = t2 at *
    refine qu (C:=C1) Tryd.func30 rfl _ Tryd.ntmps30 (Nat.le_of_ble_eq_true rfl) 1 rfl rfl ?_
    repeat' (first|refine ql ?_|(first|refine xsF Tryd.func59 (c1 ..) ?_|refine xsF Tryd.func60 (c2 ..) ?_|refine VP Tryd.func60 (c2 ..) ?_|refine xsF Tryd.func53 (c3 ..) ?_|(apply qq;apply zC;(first|exact .inl ⟨rfl,rfl⟩|exact .inr ⟨rfl,rfl⟩);exact Tryd.underlying90;(first|exact .inl rfl|exact .inr rfl);exact nle rfl)|(apply qq;apply xR;rfl;kernel_rfl;exact nle rfl)|((refine yZ 33 [] rfl ⟨rfl,j3⟩ ?_);(repeat (first|exact qA 33 rfl|exact ⟨33,rfl⟩|refine qB (d:=33) rfl (nle rfl) ?_|(apply qG;exact nle rfl;refine ⟨?_,?_⟩;(first|exact fun h=>absurd h Bool.false_ne_true|(intro _;kernel_rfl)))));done))|((first|refine g_sp_t ?_ ?_|refine g_sp_f ?_ ?_|refine xsC ?_ ?_);all_goals (intro hc;have hp:=hc;try simp at hp;try (exfalso;omega)))|refine jl ?_ ?_)
 | some z =>
   obtain ⟨t,r⟩:=z
   rw [hc] at h
   simp only at h
   have c1:=Je s t r hs hc
   have htl:t.length ≤ 1000000000:=by
    have:=congrArg List.length (vb hc).1
    simp at this
    omega
   rcases zJ t htl with ⟨n,ha,hb,c2⟩|⟨n,ha,hb,c2⟩
   ·rw [ha] at h
    simp only at h
    have hne:¬ Lib.itoa n = t:=fun e=>by rw [if_pos e] at h;cases h
    have c3:=xM n hb.1 hb.2
    clear h hc ha hb
    generalize Lib.itoa n = t2 at *
    refine qu (C:=C1) Tryd.func30 rfl _ Tryd.ntmps30 (Nat.le_of_ble_eq_true rfl) 1 rfl rfl ?_
    repeat' (first|refine ql ?_|(first|refine xsF Tryd.func59 (c1 ..) ?_|refine xsF Tryd.func60 (c2 ..) ?_|refine VP Tryd.func60 (c2 ..) ?_|refine xsF Tryd.func53 (c3 ..) ?_|(apply qq;apply zC;(first|exact .inl ⟨rfl,rfl⟩|exact .inr ⟨rfl,rfl⟩);exact Tryd.underlying90;(first|exact .inl rfl|exact .inr rfl);exact nle rfl)|(apply qq;apply xR;rfl;kernel_rfl;exact nle rfl)|((refine yZ 33 [] rfl ⟨rfl,j3⟩ ?_);(repeat (first|exact qA 33 rfl|exact ⟨33,rfl⟩|refine qB (d:=33) rfl (nle rfl) ?_|(apply qG;exact nle rfl;refine ⟨?_,?_⟩;(first|exact fun h=>absurd h Bool.false_ne_true|(intro _;kernel_rfl)))));done))|((first|refine g_sp_t ?_ ?_|refine g_sp_f ?_ ?_|refine xsC ?_ ?_);all_goals (intro hc;have hp:=hc;try simp at hp;try (exfalso;omega)))|refine jl ?_ ?_)
    all_goals ((exfalso;simp_all;done))
   ·have c3:=xM n hb.1 hb.2
    clear h hc ha hb
    generalize Lib.itoa n = t2 at *
    refine qu (C:=C1) Tryd.func30 rfl _ Tryd.ntmps30 (Nat.le_of_ble_eq_true rfl) 1 rfl rfl ?_
    repeat' (first|refine ql ?_|(first|refine xsF Tryd.func59 (c1 ..) ?_|refine xsF Tryd.func60 (c2 ..) ?_|refine VP Tryd.func60 (c2 ..) ?_|refine xsF Tryd.func53 (c3 ..) ?_|(apply qq;apply zC;(first|exact .inl ⟨rfl,rfl⟩|exact .inr ⟨rfl,rfl⟩);exact Tryd.underlying90;(first|exact .inl rfl|exact .inr rfl);exact nle rfl)|(apply qq;apply xR;rfl;kernel_rfl;exact nle rfl)|((refine yZ 33 [] rfl ⟨rfl,j3⟩ ?_);(repeat (first|exact qA 33 rfl|exact ⟨33,rfl⟩|refine qB (d:=33) rfl (nle rfl) ?_|(apply qG;exact nle rfl;refine ⟨?_,?_⟩;(first|exact fun h=>absurd h Bool.false_ne_true|(intro _;kernel_rfl)))));done))|((first|refine g_sp_t ?_ ?_|refine g_sp_f ?_ ?_|refine xsC ?_ ?_);all_goals (intro hc;have hp:=hc;try simp at hp;try (exfalso;omega)))|refine jl ?_ ?_)
theorem zS {most n:Int} {s r:qh} (h:qW s = some (n,r)):(xe most s = some (n,r) ∧ 0 ≤ n ∧ n ≤ most) ∨ (xe most s = none ∧ (n < 0 ∨ most < n)):=by
 unfold xe
 rw [h]
 simp only
 by_cases hb:n < 0 ∨ most < n
 ·rw [if_pos hb];exact .inr ⟨rfl,hb⟩
 ·rw [if_neg hb];exact .inl ⟨rfl,by omega,by omega⟩
theorem JQ {most:Int} {s:qh} (h:xe most s = none):qW s = none ∨ ∃ n r,qW s = some (n,r) ∧ (n < 0 ∨ most < n):=by
 cases hn:qW s with
 | none=>exact .inl rfl
 | some z =>
   obtain ⟨n,r⟩:=z
   rcases zS (most:=most) hn with ⟨h1,_⟩|⟨_,h2⟩
   ·rw [h1] at h;cases h
   ·exact .inr ⟨n,r,rfl,h2⟩
theorem qE {s r:qh} {n:Int} (h:qW s = some (n,r)):r.length ≤ s.length:=by
 rw [(zh h).1,List.length_append];omega
end Go.Proofs.YtahbbnfmbohmmaaDoor
set_option linter.unusedSimpArgs false
set_option linter.unnecessarySimpa false
set_option linter.unusedVariables false
set_option maxHeartbeats 1000000
namespace Go.Proofs.YtahbbnfmbohmmaaDoor
open Go.Ab Go.RowKit
set_option maxRecDepth 10000
attribute [local irreducible] Awp jU jo jz Red qt Go.Ab.Fin qr Rz vl jt jj ResOk jy jg yi qN
theorem Jw (most:Int) (s r:qh) (n:Int) (hs:s.length ≤ 1000000000) (h:xe most s = some (n,r)):qr C1.P 61 [.op 0 0 0,.v (.int .i64 most)] [jL s] (.v (.int .i64 n)) [jL r]:=by
 obtain ⟨h1,h2,h3⟩ : qW s = some (n,r) ∧ 0 ≤ n ∧ n ≤ most:=by
  have hh:=h
  unfold xe at hh
  cases hn:qW s with
  | none=>rw [hn] at hh;cases hh
  | some z =>
    obtain ⟨m,r'⟩:=z
    rcases zS (most:=most) hn with ⟨e,a,b⟩|⟨e,_⟩
    ·rw [e] at h;injection h with h;injection h with x y;subst x y;exact ⟨rfl,a,b⟩
    ·rw [e] at h;cases h
 have c1:=jG s r n hs h1
 clear h h1
 refine qc (C:=C1) Tryd.func61 rfl _ Tryd.ntmps61 (Nat.le_of_ble_eq_true rfl) _ Tryd.results61 1 rfl rfl ?_
 repeat' (first|refine ql ?_|(first|(apply qa Tryd.func30 rfl rfl;intro hIsFn;refine qF 0 hIsFn (c1) ?_))|((first|refine g_sp_t ?_ ?_|refine g_sp_f ?_ ?_|refine xsC ?_ ?_);all_goals (intro hc;have hp:=hc;try simp at hp;try (exfalso;omega)))|refine jl ?_ ?_)
 all_goals try (exfalso;omega)
 all_goals ((apply qv (rs:=[.tmp 4]) [] 1;(case hr=>(repeat (first|exact qo|(apply qp;rfl)|(apply qk;rfl;rfl;rfl;rfl;rfl))));(case hL=>rfl);(case hh=>refine j9 (q:=0) rfl (qd rfl) ?_ qg;all_goals (first|(with_reducible rfl)|rfl));(case hi=>exact rfl);(case hz=>first|rfl|(simp [jC,AV.ren,AV.ren.renL,qY,qe,qT];done))))
theorem kS (most:Int) (s:qh) (hs:s.length ≤ 1000000000) (h:xe most s = none):yS C1.P 61 [.op 0 0 0,.v (.int .i64 most)] [jL s] vx XJ:=by
 rcases JQ h with h1|⟨n,r,h1,h2⟩
 ·have c1:=yv s hs h1
  refine qu (C:=C1) Tryd.func61 rfl _ Tryd.ntmps61 (Nat.le_of_ble_eq_true rfl) 1 rfl rfl ?_
  repeat' (first|refine ql ?_|(first|((refine jA (first:=[]) (cap:=[]) 0 [] (qU Tryd.func30 rfl rfl) (c1) rfl (⟨rfl,j3⟩) ?_);(repeat (first|exact qA 7 rfl|exact ⟨7,rfl⟩|refine qB (d:=7) rfl (nle rfl) ?_|(apply qG;exact nle rfl;refine ⟨?_,?_⟩;(first|exact fun h=>absurd h Bool.false_ne_true|(intro _;kernel_rfl)))));done))|((first|refine g_sp_t ?_ ?_|refine g_sp_f ?_ ?_|refine xsC ?_ ?_);all_goals (intro hc;have hp:=hc;try simp at hp;try (exfalso;omega)))|refine jl ?_ ?_)
 ·have c1:=jG s r n hs h1
  clear h h1
  refine qu (C:=C1) Tryd.func61 rfl _ Tryd.ntmps61 (Nat.le_of_ble_eq_true rfl) 1 rfl rfl ?_
  repeat' (first|refine ql ?_|(first|(apply qa Tryd.func30 rfl rfl;intro hIsFn;refine qF 0 hIsFn (c1) ?_)|(apply qq;apply xR;rfl;kernel_rfl;exact nle rfl)|((refine yZ 6 [] rfl ⟨rfl,j3⟩ ?_);(repeat (first|exact qA 6 rfl|exact ⟨6,rfl⟩|refine qB (d:=6) rfl (nle rfl) ?_|(apply qG;exact nle rfl;refine ⟨?_,?_⟩;(first|exact fun h=>absurd h Bool.false_ne_true|(intro _;kernel_rfl)))));done))|((first|refine g_sp_t ?_ ?_|refine g_sp_f ?_ ?_|refine xsC ?_ ?_);all_goals (intro hc;have hp:=hc;try simp at hp;try (exfalso;omega)))|refine jl ?_ ?_)
  all_goals ((exfalso;omega))
end Go.Proofs.YtahbbnfmbohmmaaDoor
set_option linter.unusedSimpArgs false
set_option linter.unnecessarySimpa false
set_option linter.unusedVariables false
set_option maxHeartbeats 1000000
namespace Go.Proofs.YtahbbnfmbohmmaaDoor
open Go.Ab Go.RowKit
set_option maxRecDepth 10000
attribute [local irreducible] Awp jU jo jz Red qt Go.Ab.Fin qr Rz vl jt jj ResOk jy jg yi qN
theorem Xc {s:qh} {t r:qh} (h:qz s = some (t,r)) : ∃ (k:Nat) (r0:qh),xe s.length s = some ((k:Int),r0) ∧ k ≤ r0.length ∧ t = r0.take k ∧ r = r0.drop k:=by
 unfold qz at h
 split at h
 ·cases h
 ·rename_i n r0 hc
  split at h
  ·cases h
  ·rename_i hb
   injection h with h
   injection h with h1 h2
   obtain ⟨_,_,h0,_⟩:=yq hc
   refine ⟨n.toNat,r0,by rw [hc,Int.toNat_of_nonneg h0],by omega,h1.symm,h2.symm⟩
theorem Yd {s:qh} (h:qz s = none):xe s.length s = none ∨ ∃ (k:Nat) (r0:qh),xe s.length s = some ((k:Int),r0) ∧ r0.length < k ∧ k ≤ s.length:=by
 cases hc:xe s.length s with
 | none=>exact .inl rfl
 | some z =>
   obtain ⟨n,r0⟩:=z
   right
   obtain ⟨_,_,h0,h1⟩:=yq hc
   unfold qz at h
   rw [hc] at h
   simp only at h
   split at h
   ·rename_i hb
    exact ⟨n.toNat,r0,by rw [Int.toNat_of_nonneg h0],by omega,by omega⟩
   ·cases h
theorem zT {most:Int} {s r:qh} {n:Int} (h:xe most s = some (n,r)):r.length ≤ s.length:=by
 rw [(yq h).1,List.length_append];omega
set_option maxHeartbeats 1000000 in
theorem qV (s t r:qh) (hs:s.length ≤ 1000000000) (h:qz s = some (t,r)):qr C1.P 31 [.op 0 0 0] [jL s] (.v (str t)) [jL r]:=by
 obtain ⟨k,r0,h1,h2,rfl,rfl⟩:=Xc h
 have c1:=Jw _ s r0 k hs h1
 have hr:=zT h1
 clear h h1
 refine qc (C:=C1) Tryd.func31 rfl _ Tryd.ntmps31 (Nat.le_of_ble_eq_true rfl) _ Tryd.results31 1 rfl rfl ?_
 repeat' (first|refine ql ?_|(first|(apply qa Tryd.func61 rfl rfl;intro hIsFn;refine qF 0 hIsFn (c1) ?_)|(refine YU ?_))|((first|refine g_sp_t ?_ ?_|refine g_sp_f ?_ ?_|refine xsC ?_ ?_);all_goals (intro hc;have hp:=hc;try simp at hp;try (exfalso;omega)))|refine jl ?_ ?_)
 all_goals try (exfalso;omega)
 all_goals ((apply qv (rs:=[.tmp 2]) [] 1;(case hr=>(repeat (first|exact qo|(apply qp;rfl)|(apply qk;rfl;rfl;rfl;rfl;rfl))));(case hL=>rfl);(case hh=>refine j9 (q:=0) rfl (qd rfl) ?_ qg;all_goals (first|(with_reducible rfl)|first|(rw [List.take_length];done)|rfl));(case hi=>exact rfl);(case hz=>first|rfl|(simp [jC,AV.ren,AV.ren.renL,qY,qe,qT];done))))
theorem yf (s:qh) (hs:s.length ≤ 1000000000) (h:qz s = none):yS C1.P 31 [.op 0 0 0] [jL s] vx XJ:=by
 rcases Yd h with h1|⟨k,r0,h1,h2,h3⟩
 ·have c1:=kS _ s hs h1
  refine qu (C:=C1) Tryd.func31 rfl _ Tryd.ntmps31 (Nat.le_of_ble_eq_true rfl) 1 rfl rfl ?_
  repeat' (first|refine ql ?_|(first|((refine jA (first:=[]) (cap:=[]) 0 [] (qU Tryd.func61 rfl rfl) (c1) rfl (⟨rfl,j3⟩) ?_);(repeat (first|exact qA 11 rfl|exact ⟨11,rfl⟩|refine qB (d:=11) rfl (nle rfl) ?_|(apply qG;exact nle rfl;refine ⟨?_,?_⟩;(first|exact fun h=>absurd h Bool.false_ne_true|(intro _;kernel_rfl)))));done))|((first|refine g_sp_t ?_ ?_|refine g_sp_f ?_ ?_|refine xsC ?_ ?_);all_goals (intro hc;have hp:=hc;try simp at hp;try (exfalso;omega)))|refine jl ?_ ?_)
 ·have c1:=Jw _ s r0 k hs h1
  clear h h1
  refine qu (C:=C1) Tryd.func31 rfl _ Tryd.ntmps31 (Nat.le_of_ble_eq_true rfl) 1 rfl rfl ?_
  repeat' (first|refine ql ?_|(first|(apply qa Tryd.func61 rfl rfl;intro hIsFn;refine qF 0 hIsFn (c1) ?_)|(apply qq;apply xR;rfl;kernel_rfl;exact nle rfl)|((refine yZ 11 [] rfl ⟨rfl,j3⟩ ?_);(repeat (first|exact qA 11 rfl|exact ⟨11,rfl⟩|refine qB (d:=11) rfl (nle rfl) ?_|(apply qG;exact nle rfl;refine ⟨?_,?_⟩;(first|exact fun h=>absurd h Bool.false_ne_true|(intro _;kernel_rfl)))));done)|(refine YU ?_))|((first|refine g_sp_t ?_ ?_|refine g_sp_f ?_ ?_|refine xsC ?_ ?_);all_goals (intro hc;have hp:=hc;try simp at hp;try (exfalso;omega)))|refine jl ?_ ?_)
  all_goals ((exfalso;omega))
end Go.Proofs.YtahbbnfmbohmmaaDoor
