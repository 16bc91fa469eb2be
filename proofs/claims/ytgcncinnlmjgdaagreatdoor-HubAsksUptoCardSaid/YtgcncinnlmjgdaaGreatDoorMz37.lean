import Derived.Test.YtgcncinnlmjgdaaGreatDoorMz32
import Derived.Test.YtgcncinnlmjgdaaGreatDoorMz30
import Derived.Test.YtgcncinnlmjgdaaGreatDoorMz35
import Derived.Test.YtgcncinnlmjgdaaGreatDoorMz3
set_option linter.unusedSimpArgs false
set_option linter.unnecessarySimpa false
set_option linter.unusedVariables false
set_option maxHeartbeats 2000000
set_option maxRecDepth 10000
namespace Go.Proofs.YtgcncinnlmjgdaaGreatDoor
open Go.Ab Go.RowKit
def Qt:List PanicEntry:=[{ v := .iface 173 (.agg #[]),recovered:=false }]
@[reducible] def jZ (s:qb):HB := .own true 1 [[.v (str s)]]
@[reducible] def noH:List HB → Prop:=fun H=>H = []
theorem yo {H:List (Nat × HB)} : ∃ H',noH H' ∧ ∀ n,H'.getD n .dead = qh H n ∨ H'.getD n .dead = .dead:=⟨[],rfl,fun n => .inr rfl⟩
section steps
variable {C' : Cx} {N:Nat} {all:Array Oper} {es:List Eff} {o:Oper} {os:List Oper} {K:List Eff → St → Prop} {ts:List (Nat × AV)} {hs:List (Nat × HB)} {nx:Nat} {gd:List Nat}
theorem j7 {f:FuncId} {x:Operand} {first cap:List AV} {args:List Operand} {tys:Array TypeId} {d:Nat} {ty:TypeId} {pos:String} {af:Array Edge} {gg:Option (Nat × Bool)} {ys:List AV} {s:qb} (q:Nat) (keep:List Nat) (hf:IsFn C'.P f)
  (hc:vj C'.P f ys [jZ s] Qt noH) (hx:evA (qm ts) x = .clo (.func f) first cap)
  (hdie:C'.die Qt [] ((q,.dead) :: (q :: keep).map fun n=>(n,qh hs n)))
  (k:j9 C' N all (⟨gd ++ (qW x ++ args.flatMap qW ++ []),q :: keep,some d,xw,[],[]⟩ :: es) ⟨(d,xw) :: ts,hs,nx⟩ os K)
  (hq:qh hs q = jZ s:=by rfl)
  (hz:qX (j6 0 [q]) (q :: keep) (qh hs) (first ++ args.map (evA (qm ts)) ++ cap) ys:=by ((repeat' (first|exact jL|apply jo|exact jK rfl|exact ym|(apply qv;apply jB;exact .inr (of_decide_eq_true rfl))|(apply qv;apply yr;exact .inr (of_decide_eq_true rfl))|(apply qv;apply jC;exact .inr (of_decide_eq_true rfl))|apply j3|apply j4))<;>fail)) (hN:d < N:=by exact nle rfl):jr C' N all gd es ⟨ts,hs,nx⟩ ⟨some d,.call ⟨.value x,args.toArray,tys⟩,ty,pos,af,gg⟩ os K:=by
 refine W9 (H:=[jZ s]) (HP:=noH) (ch:=Qt) (xs:=first ++ args.map (evA (qm ts)) ++ cap) _ (q :: keep) [q] [] rfl hN (xd f hf x args tys first cap hx) rfl (by simp) (fun n hn=>by simp at hn;simp [hn]) hz ?_ hc ?_ (by simp) k
 ·have hg:Q0 (j6 0 [q]) (qh hs) [q] [jZ s]:=jY (jZ s) xn (jt (jR rfl)) hq rfl;exact fun i n hb hi hj=>Jp hg i n hb hi hj
 ·rintro H' rfl;refine ⟨[(q,.dead)],rfl,fun i n hb hz=>?_,hdie⟩
  have:hb = .dead:=by
   cases i with
   | zero=>simp at hz;exact hz.2.symm
   | succ i=>simp at hz
  subst this;exact yG
theorem qT {f:FuncId} {args:List Operand} {tys:Array TypeId} {d:Nat} {ty:TypeId} {pos:String} {af:Array Edge} {gg:Option (Nat × Bool)} {ys:List AV} {v:AV} {s r:qb} (q:Nat) (hf:IsFn C'.P f)
  (hc:qf C'.P f ys [jZ s] v [jZ r])
  (k:j9 C' N all (⟨gd ++ (qW (.func f) ++ args.flatMap qW),[q],some d,v,[(q,jZ r)],[]⟩ :: es) ⟨(d,v) :: ts,(q,jZ r) :: hs,nx⟩ os K)
  (hq:qh hs q = jZ s:=by rfl)
  (hz:qX (j6 0 [q]) [q] (qh hs) (args.map (evA (qm ts))) ys:=by ((repeat' (first|exact jL|apply jo|exact jK rfl|exact ym|(apply qv;apply jB;exact .inr (of_decide_eq_true rfl))|(apply qv;apply yr;exact .inr (of_decide_eq_true rfl))|(apply qv;apply jC;exact .inr (of_decide_eq_true rfl))|apply j3|apply j4))<;>fail)) (hr:v.ren (zq (j6 0 [q])) = v:=by rfl) (hN:d < N:=by exact nle rfl):kC C' N all gd es ⟨ts,hs,nx⟩ f args d tys ty pos af gg os K :=
 vc [q] [] [(q,jZ r)] nx v hf hc hz (jY (jZ s) xn (jt (jR rfl)) hq rfl) (qY (jt (jR rfl)) yM) k hr rfl rfl (Nat.le_of_ble_eq_true rfl) (by simp) rfl (fun n hn=>by cases hn) (Nat.le_refl _) hN
end steps
theorem Xf {L:List (Nat × Nat)} {nh:Nat} {σ:St} {q q' : Nat} {s s' : qb} {rest:List (Nat × HB)} (hq:qh σ.hs q = jZ s) (h1:Maps L nh q q') (hs:s = s') (hr:yd L nh σ rest):yd L nh σ ((q',jZ s') :: rest):=by
 subst hs;exact ⟨⟨q,h1,by rw [hq];exact ⟨id,rfl,yL (jR rfl) xg⟩⟩,hr⟩
attribute [local irreducible] Awp j9 jr ye Red qz Go.Ab.Fin qf Rz wz jF jU ResOk yA j1 xR qX
theorem yc (s r:qb) (n:Int) (hs:s.length ≤ 1000000000) (h:je s = some (n,r)):qf C1.P 40 [.op 0 0 0] [jZ s] (.v (.int .i64 n)) [jZ r]:=by
 unfold je at h
 cases hc:Yn s with
 | none=>rw [hc] at h;cases h
 | some z =>
   obtain ⟨t,r'⟩:=z;rw [hc] at h;simp only at h;by_cases hok : ∃ m,Lib.atoiAll t = .ok m
   case neg =>
    cases ha:Lib.atoiAll t with
    | ok m=>exact absurd ⟨m,ha⟩ hok
    | _=>rw [ha] at h;cases h
   case pos =>
    obtain ⟨m,ha⟩:=hok;rw [ha] at h;simp only at h;split at h
    case isFalse=>cases h
    rename_i hit;injection h with h;injection h with e1 e2;subst e1 e2 hit;have hb:=Lib.atoiAll_bounds ha;have hl:=Y8 hc
    have htl:(Lib.itoa m).length ≤ 1000000000:=by
     have:=congrArg List.length hl.1;simp at this;omega
    have c1:=qgZ s _ r' hs hc;have c2:=qgX _ m htl ha;have c3:=Yu m hb.1 hb.2;clear hl hc ha hs htl hb;generalize Lib.itoa m = t at *;refine qJ (C:=C1) 1 ?_
    repeat' (first|refine qo ?_|(first|refine jT (c1 ..) ?_|refine jT (c2 ..) ?_|refine jT (c3 ..) ?_|(apply qa;apply KP;(first|exact .inl ⟨rfl,rfl⟩|exact .inr ⟨rfl,rfl⟩);exact Tryz.underlying161;(first|exact .inl rfl|exact .inr rfl);exact nle rfl))|(refine xsS ?_ ?_;all_goals first|exact False.elim|intro hp hc)|refine xsA ?_ ?_)
    all_goals try (exfalso;simp at hc;done)
    all_goals ((exact yp (rs:=[.tmp 2]) [] 1 qc2))
theorem Wa (t:qb) (ht:t.length ≤ 1000000000):(∃ n,Lib.atoiAll t = .ok n ∧ kv n ∧ jN C.P 109 [.v (str t)] (.tup [.v (.int .i64 n),.v .nilIface])) ∨ ∃ n,(∀ m, ¬ Lib.atoiAll t = .ok m) ∧ kv n ∧ jN C.P 109 [.v (str t)] (.tup [.v (.int .i64 n),.errv]):=by
 cases h:Lib.atoiAll t with
 | ok n=>exact .inl ⟨n,rfl,Lib.atoiAll_bounds h,qgX t n ht h⟩
 | range=>exact .inr ⟨_,by simp,Lib.atoiSat_bounds t,qma t ht h⟩
 | _=>exact .inr ⟨0,by simp,⟨by decide,by decide⟩,qmb t ht h⟩
theorem xD (s:qb) (hs:s.length ≤ 1000000000) (h:je s = none):vj C1.P 40 [.op 0 0 0] [jZ s] Qt noH:=by
 unfold je at h
 cases hc:Yn s with
 | none =>
   have c1:=qmf s hc
   rcases Wa s hs with ⟨n,ha,hb,c2⟩|⟨n,ha,hb,c2⟩
   all_goals
    have c3:=Yu n hb.1 hb.2;clear h hc ha hb;generalize Lib.itoa n = t2 at *;refine qu (C:=C1) Tryz.func40 rfl _ Tryz.ntmps40 (Nat.le_of_ble_eq_true rfl) 1 rfl rfl ?_
    repeat' (first|refine qo ?_|(first|refine jT (c1 ..) ?_|refine jT (c2 ..) ?_|refine yS (c2 ..) ?_|refine jT (c3 ..) ?_|(apply qa;apply KP;(first|exact .inl ⟨rfl,rfl⟩|exact .inr ⟨rfl,rfl⟩);exact Tryz.underlying161;(first|exact .inl rfl|exact .inr rfl);exact nle rfl)|(apply qa;apply Yz;rfl;kernel_rfl;exact nle rfl)|((refine QK 33 [] rfl ⟨rfl,yo⟩ ?_);(repeat (first|exact qE 33 rfl|exact ⟨33,rfl⟩|refine qG (d:=33) rfl (nle rfl) ?_|(apply qL;exact nle rfl;refine ⟨?_,?_⟩;(first|exact fun h=>absurd h Bool.false_ne_true|(intro _;kernel_rfl)))));done))|(refine xsS ?_ ?_;all_goals first|exact False.elim|intro hp hc)|refine xsA ?_ ?_)
 | some z =>
   obtain ⟨t,r⟩:=z;rw [hc] at h;simp only at h;have c1:=qgZ s t r hs hc
   have htl:t.length ≤ 1000000000:=by
    have:=congrArg List.length (Y8 hc).1;simp at this;omega
   rcases Wa t htl with ⟨n,ha,hb,c2⟩|⟨n,ha,hb,c2⟩
   ·rw [ha] at h;simp only at h;have hne:¬ Lib.itoa n = t:=fun e=>by rw [if_pos e] at h;cases h
    have c3:=Yu n hb.1 hb.2;clear h hc ha hb;generalize Lib.itoa n = t2 at *;refine qu (C:=C1) Tryz.func40 rfl _ Tryz.ntmps40 (Nat.le_of_ble_eq_true rfl) 1 rfl rfl ?_
    repeat' (first|refine qo ?_|(first|refine jT (c1 ..) ?_|refine jT (c2 ..) ?_|refine yS (c2 ..) ?_|refine jT (c3 ..) ?_|(apply qa;apply KP;(first|exact .inl ⟨rfl,rfl⟩|exact .inr ⟨rfl,rfl⟩);exact Tryz.underlying161;(first|exact .inl rfl|exact .inr rfl);exact nle rfl)|(apply qa;apply Yz;rfl;kernel_rfl;exact nle rfl)|((refine QK 33 [] rfl ⟨rfl,yo⟩ ?_);(repeat (first|exact qE 33 rfl|exact ⟨33,rfl⟩|refine qG (d:=33) rfl (nle rfl) ?_|(apply qL;exact nle rfl;refine ⟨?_,?_⟩;(first|exact fun h=>absurd h Bool.false_ne_true|(intro _;kernel_rfl)))));done))|(refine xsS ?_ ?_;all_goals first|exact False.elim|intro hp hc)|refine xsA ?_ ?_)
    all_goals ((exfalso;simp_all;done))
   ·have c3:=Yu n hb.1 hb.2;clear h hc ha hb;generalize Lib.itoa n = t2 at *;refine qu (C:=C1) Tryz.func40 rfl _ Tryz.ntmps40 (Nat.le_of_ble_eq_true rfl) 1 rfl rfl ?_
    repeat' (first|refine qo ?_|(first|refine jT (c1 ..) ?_|refine jT (c2 ..) ?_|refine yS (c2 ..) ?_|refine jT (c3 ..) ?_|(apply qa;apply KP;(first|exact .inl ⟨rfl,rfl⟩|exact .inr ⟨rfl,rfl⟩);exact Tryz.underlying161;(first|exact .inl rfl|exact .inr rfl);exact nle rfl)|(apply qa;apply Yz;rfl;kernel_rfl;exact nle rfl)|((refine QK 33 [] rfl ⟨rfl,yo⟩ ?_);(repeat (first|exact qE 33 rfl|exact ⟨33,rfl⟩|refine qG (d:=33) rfl (nle rfl) ?_|(apply qL;exact nle rfl;refine ⟨?_,?_⟩;(first|exact fun h=>absurd h Bool.false_ne_true|(intro _;kernel_rfl)))));done))|(refine xsS ?_ ?_;all_goals first|exact False.elim|intro hp hc)|refine xsA ?_ ?_)
theorem Wv {most n:Int} {s r:qb} (h:je s = some (n,r)):(wV most s = some (n,r) ∧ 0 ≤ n ∧ n ≤ most) ∨ (wV most s = none ∧ (n < 0 ∨ most < n)):=by
 unfold wV;rw [h];simp only;by_cases hb:n < 0 ∨ most < n
 ·rw [if_pos hb];exact .inr ⟨rfl,hb⟩
 ·rw [if_neg hb];exact .inl ⟨rfl,by omega,by omega⟩
theorem qiy {most:Int} {s:qb} (h:wV most s = none):je s = none ∨ ∃ n r,je s = some (n,r) ∧ (n < 0 ∨ most < n):=by
 cases hn:je s with
 | none=>exact .inl rfl
 | some z =>
   obtain ⟨n,r⟩:=z
   rcases Wv (most:=most) hn with ⟨h1,_⟩|⟨_,h2⟩
   ·rw [h1] at h;cases h
   ·exact .inr ⟨n,r,rfl,h2⟩
theorem qw {s r:qb} {n:Int} (h:je s = some (n,r)):r.length ≤ s.length:=by
 rw [(ZT h).1,List.length_append];omega
theorem V7 (most:Int) (s r:qb) (n:Int) (hs:s.length ≤ 1000000000) (h:wV most s = some (n,r)):qf C1.P 110 [.op 0 0 0,.v (.int .i64 most)] [jZ s] (.v (.int .i64 n)) [jZ r]:=by
 obtain ⟨h1,h2,h3⟩ : je s = some (n,r) ∧ 0 ≤ n ∧ n ≤ most:=by
  have hh:=h;unfold wV at hh
  cases hn:je s with
  | none=>rw [hn] at hh;cases hh
  | some z =>
    obtain ⟨m,r'⟩:=z
    rcases Wv (most:=most) hn with ⟨e,a,b⟩|⟨e,_⟩
    ·rw [e] at h;injection h with h;injection h with x y;subst x y;exact ⟨rfl,a,b⟩
    ·rw [e] at h;cases h
 have c1:=yc s r n hs h1;clear h h1;refine qJ (C:=C1) 1 ?_
 repeat' (first|refine qo ?_|(first|(refine qT 0 qi (c1) ?_))|(refine xsS ?_ ?_;all_goals first|exact False.elim|intro hp hc)|refine xsA ?_ ?_)
 all_goals try (exfalso;omega)
 all_goals ((exact yp (rs:=[.tmp 4]) [] 1 qc2))
theorem Jv (most:Int) (s:qb) (hs:s.length ≤ 1000000000) (h:wV most s = none):vj C1.P 110 [.op 0 0 0,.v (.int .i64 most)] [jZ s] Qt noH:=by
 rcases qiy h with h1|⟨n,r,h1,h2⟩
 ·have c1:=xD s hs h1;refine qu (C:=C1) Tryz.func110 rfl _ Tryz.ntmps110 (Nat.le_of_ble_eq_true rfl) 1 rfl rfl ?_
  repeat' (first|refine qo ?_|(first|((refine j7 (first:=[]) (cap:=[]) 0 [] (qr Tryz.func40 rfl rfl) (c1) rfl (⟨rfl,yo⟩) ?_);(repeat (first|exact qE 7 rfl|exact ⟨7,rfl⟩|refine qG (d:=7) rfl (nle rfl) ?_|(apply qL;exact nle rfl;refine ⟨?_,?_⟩;(first|exact fun h=>absurd h Bool.false_ne_true|(intro _;kernel_rfl)))));done))|(refine xsS ?_ ?_;all_goals first|exact False.elim|intro hp hc)|refine xsA ?_ ?_)
 ·have c1:=yc s r n hs h1;clear h h1;refine qu (C:=C1) Tryz.func110 rfl _ Tryz.ntmps110 (Nat.le_of_ble_eq_true rfl) 1 rfl rfl ?_
  repeat' (first|refine qo ?_|(first|(refine qT 0 qi (c1) ?_)|(apply qa;apply Yz;rfl;kernel_rfl;exact nle rfl)|((refine QK 6 [] rfl ⟨rfl,yo⟩ ?_);(repeat (first|exact qE 6 rfl|exact ⟨6,rfl⟩|refine qG (d:=6) rfl (nle rfl) ?_|(apply qL;exact nle rfl;refine ⟨?_,?_⟩;(first|exact fun h=>absurd h Bool.false_ne_true|(intro _;kernel_rfl)))));done))|(refine xsS ?_ ?_;all_goals first|exact False.elim|intro hp hc)|refine xsA ?_ ?_)
  all_goals ((exfalso;omega))
theorem qlN {s:qb} {t r:qb} (h:jm s = some (t,r)) : ∃ (k:Nat) (r0:qb),wV s.length s = some ((k:Int),r0) ∧ k ≤ r0.length ∧ t = r0.take k ∧ r = r0.drop k:=by
 unfold jm at h;split at h
 ·cases h
 ·rename_i n r0 hc;split at h
  ·cases h
  ·rename_i hb;injection h with h;injection h with h1 h2;obtain ⟨_,_,h0,_⟩:=zA hc;refine ⟨n.toNat,r0,by rw [hc,Int.toNat_of_nonneg h0],by omega,h1.symm,h2.symm⟩
theorem qjt {s:qb} (h:jm s = none):wV s.length s = none ∨ ∃ (k:Nat) (r0:qb),wV s.length s = some ((k:Int),r0) ∧ r0.length < k ∧ k ≤ s.length:=by
 cases hc:wV s.length s with
 | none=>exact .inl rfl
 | some z =>
   obtain ⟨n,r0⟩:=z;right;obtain ⟨_,_,h0,h1⟩:=zA hc;unfold jm at h;rw [hc] at h;simp only at h;split at h
   ·rename_i hb;exact ⟨n.toNat,r0,by rw [Int.toNat_of_nonneg h0],by omega,by omega⟩
   ·cases h
theorem Qv {most:Int} {s r:qb} {n:Int} (h:wV most s = some (n,r)):r.length ≤ s.length:=by
 rw [(zA h).1,List.length_append];omega
theorem jS (s t r:qb) (hs:s.length ≤ 1000000000) (h:jm s = some (t,r)):qf C1.P 44 [.op 0 0 0] [jZ s] (.v (str t)) [jZ r]:=by
 obtain ⟨k,r0,h1,h2,rfl,rfl⟩:=qlN h;have c1:=V7 _ s r0 k hs h1;have hr:=Qv h1;clear h h1;refine qJ (C:=C1) 1 ?_
 repeat' (first|refine qo ?_|(first|(refine qT 0 qi (c1) ?_)|(refine qhD ?_))|(refine xsS ?_ ?_;all_goals first|exact False.elim|intro hp hc)|refine xsA ?_ ?_)
 all_goals try (exfalso;omega)
 all_goals ((exact yp (rs:=[.tmp 2]) [] 1 (by refine Xf (q:=0) rfl (qp rfl) ?_ qn;all_goals (first|(with_reducible rfl)|first|(rw [List.take_length];done)|rfl))))
theorem xZ (s:qb) (hs:s.length ≤ 1000000000) (h:jm s = none):vj C1.P 44 [.op 0 0 0] [jZ s] Qt noH:=by
 rcases qjt h with h1|⟨k,r0,h1,h2,h3⟩
 ·have c1:=Jv _ s hs h1;refine qu (C:=C1) Tryz.func44 rfl _ Tryz.ntmps44 (Nat.le_of_ble_eq_true rfl) 1 rfl rfl ?_
  repeat' (first|refine qo ?_|(first|((refine j7 (first:=[]) (cap:=[]) 0 [] (qr Tryz.func110 rfl rfl) (c1) rfl (⟨rfl,yo⟩) ?_);(repeat (first|exact qE 11 rfl|exact ⟨11,rfl⟩|refine qG (d:=11) rfl (nle rfl) ?_|(apply qL;exact nle rfl;refine ⟨?_,?_⟩;(first|exact fun h=>absurd h Bool.false_ne_true|(intro _;kernel_rfl)))));done))|(refine xsS ?_ ?_;all_goals first|exact False.elim|intro hp hc)|refine xsA ?_ ?_)
 ·have c1:=V7 _ s r0 k hs h1;clear h h1;refine qu (C:=C1) Tryz.func44 rfl _ Tryz.ntmps44 (Nat.le_of_ble_eq_true rfl) 1 rfl rfl ?_
  repeat' (first|refine qo ?_|(first|(refine qT 0 qi (c1) ?_)|(apply qa;apply Yz;rfl;kernel_rfl;exact nle rfl)|((refine QK 11 [] rfl ⟨rfl,yo⟩ ?_);(repeat (first|exact qE 11 rfl|exact ⟨11,rfl⟩|refine qG (d:=11) rfl (nle rfl) ?_|(apply qL;exact nle rfl;refine ⟨?_,?_⟩;(first|exact fun h=>absurd h Bool.false_ne_true|(intro _;kernel_rfl)))));done)|(refine qhD ?_))|(refine xsS ?_ ?_;all_goals first|exact False.elim|intro hp hc)|refine xsA ?_ ?_)
  all_goals ((exfalso;omega))
theorem V8 (s r:qb) (b:Bool) (hs:s.length ≤ 1000000000) (h:ky s = some (b,r)):qf C1.P 41 [.op 0 0 0] [jZ s] (.v (.bool b)) [jZ r]:=by
 obtain ⟨n,h1,rfl⟩ : ∃ n,wV 1 s = some (n,r) ∧ b = decide (n = 1):=by
  unfold ky at h;split at h
  ·cases h
  ·rename_i n r' hc;injection h with h;injection h with x y;subst x y;exact ⟨n,hc,rfl⟩
 have c1:=V7 _ s r n hs h1;clear h h1;refine qJ (C:=C1) 1 ?_
 repeat' (first|refine qo ?_|(first|(refine qT 0 qi (c1) ?_))|(refine xsS ?_ ?_;all_goals first|exact False.elim|intro hp hc)|refine xsA ?_ ?_)
 all_goals ((exact yp (rs:=[.tmp 2]) [] 1 qc2))
theorem Z1 (s:qb) (hs:s.length ≤ 1000000000) (h:ky s = none):vj C1.P 41 [.op 0 0 0] [jZ s] Qt noH:=by
 have h1:wV 1 s = none:=by
  unfold ky at h;split at h
  ·assumption
  ·cases h
 have c1:=Jv _ s hs h1;refine qu (C:=C1) Tryz.func41 rfl _ Tryz.ntmps41 (Nat.le_of_ble_eq_true rfl) 1 rfl rfl ?_
 repeat' (first|refine qo ?_|(first|((refine j7 (first:=[]) (cap:=[]) 0 [] (qr Tryz.func110 rfl rfl) (c1) rfl (⟨rfl,yo⟩) ?_);(repeat (first|exact qE 4 rfl|exact ⟨4,rfl⟩|refine qG (d:=4) rfl (nle rfl) ?_|(apply qL;exact nle rfl;refine ⟨?_,?_⟩;(first|exact fun h=>absurd h Bool.false_ne_true|(intro _;kernel_rfl)))));done))|(refine xsS ?_ ?_;all_goals first|exact False.elim|intro hp hc)|refine xsA ?_ ?_)
end Go.Proofs.YtgcncinnlmjgdaaGreatDoor
