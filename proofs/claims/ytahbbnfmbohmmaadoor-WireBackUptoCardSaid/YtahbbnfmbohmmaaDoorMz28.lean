import Derived.Test.YtahbbnfmbohmmaaDoorMz26
import Derived.Test.YtahbbnfmbohmmaaDoorMz22
set_option linter.unusedSimpArgs false
set_option linter.unnecessarySimpa false
set_option linter.unusedVariables false
set_option maxHeartbeats 1000000
namespace Go.Proofs.YtahbbnfmbohmmaaDoor
open Go.Ab Go.RowKit
set_option maxRecDepth 10000
section steps
variable {C' : Cx} {N:Nat} {all:Array Oper} {es:List Eff} {o:Oper} {os:List Oper} {K:List Eff → St → Prop} {ts:List (Nat × AV)} {hs:List (Nat × HB)} {nx:Nat} {gd:List Nat}
theorem J6 {q b:Nat} {s:qj} (hq:qm hs q = jo s) (hb:qm hs b = qP q):vy (jv 0 [q,b]) (qm hs) [q,b] [jo s,qP 0] :=
 jr (jo s) (jr (qP q) yb (qW (qi (qT (.inr (List.mem_cons_self ..))) qU)) hb rfl) (qW (jf rfl)) hq rfl
theorem Vm {q b:Nat} {r:qj}:zj (xj (jv 0 [q,b])) [(q,jo r),(b,qP q)] [jo r,qP 0] :=
 qM (qW (jf rfl)) (qM (qW (qi (qT (.inr (List.mem_cons_self ..))) qU)) jP)
theorem QI {f:FuncId} {args:List Operand} {tys:Array TypeId} {d:Nat} {ty:TypeId} {pos:String} {af:Array Edge} {gg:Option (Nat × Bool)} {ys:List AV} {v:AV} {s r:qj} (q b:Nat) (hf:IsFn C'.P f)
  (hc:qp C'.P f ys [jo s,qP 0] v [jo r,qP 0])
  (k:jE C' N all (⟨gd ++ (ji (.func f) ++ args.flatMap ji),[q,b],some d,v,[(q,jo r),(b,qP q)],[]⟩ :: es) ⟨(d,v) :: ts,(q,jo r) :: (b,qP q) :: hs,nx⟩ os K)
  (hq:qm hs q = jo s:=by rfl) (hb:qm hs b = qP q:=by rfl) (hne:decide (q ≠ b) = true:=by rfl)
  (hz:qB (jv 0 [q,b]) [q,b] (qm hs) (args.map (evA (qn ts))) ys:=by ((repeat' (first|exact je|apply qX|exact jd rfl|exact jF|(apply qo;apply qT;exact .inr (of_decide_eq_true rfl))|(apply qo;apply jN;exact .inr (of_decide_eq_true rfl))|(apply qo;apply jn;exact .inr (of_decide_eq_true rfl))|apply jw|apply jx))<;>fail)) (hr:v.ren (xj (jv 0 [q,b])) = v:=by rfl) (hN:d < N:=by exact nle rfl):vp C' N all gd es ⟨ts,hs,nx⟩ f args d tys ty pos af gg os K :=
 yV [q,b] [] [(q,jo r),(b,qP q)] nx v hf hc hz (J6 hq hb) Vm k hr rfl rfl (Nat.le_of_ble_eq_true rfl) (by have:=of_decide_eq_true hne;simp [this]) rfl (fun n hn=>by cases hn) (Nat.le_refl _) hN
theorem zy {f:FuncId} {fn:Func} {x:Operand} {first cap:List AV} {args:List Operand} {tys:Array TypeId} {d:Nat} {ty:TypeId} {pos:String} {af:Array Edge} {gg:Option (Nat × Bool)} {ys:List AV} {v:AV} {s r:qj} (q b:Nat) (hf:C'.P.funcs[f]? = some fn)
  (hc:qp C'.P f ys [jo s,qP 0] v [jo r,qP 0])
  (k:jE C' N all (⟨gd ++ (ji x ++ args.flatMap ji),[q,b],some d,v,[(q,jo r),(b,qP q)],[]⟩ :: es) ⟨(d,v) :: ts,(q,jo r) :: (b,qP q) :: hs,nx⟩ os K)
  (hx:evA (qn ts) x = .clo (.func f) first cap:=by rfl) (hb0:fn.body.isNone = false:=by rfl) (hn0:(fn.name == "runtime.NumGoroutine") = false:=by rfl)
  (hq:qm hs q = jo s:=by rfl) (hb:qm hs b = qP q:=by rfl) (hne:decide (q ≠ b) = true:=by rfl)
  (hz:qB (jv 0 [q,b]) [q,b] (qm hs) (first ++ args.map (evA (qn ts)) ++ cap) ys:=by ((repeat' (first|exact je|apply qX|exact jd rfl|exact jF|(apply qo;apply qT;exact .inr (of_decide_eq_true rfl))|(apply qo;apply jN;exact .inr (of_decide_eq_true rfl))|(apply qo;apply jn;exact .inr (of_decide_eq_true rfl))|apply jw|apply jx))<;>fail)) (hr:v.ren (xj (jv 0 [q,b])) = v:=by rfl) (hN:d < N:=by exact nle rfl):qY C' N all gd es ⟨ts,hs,nx⟩ ⟨some d,.call ⟨.value x,args.toArray,tys⟩,ty,pos,af,gg⟩ os K :=
 zx [q,b] [] [(q,jo r),(b,qP q)] nx v hf hc hz (J6 hq hb) Vm k hx hb0 hn0 hr rfl rfl (Nat.le_of_ble_eq_true rfl) (by have:=of_decide_eq_true hne;simp [this]) rfl (fun n hn=>by cases hn) (Nat.le_refl _) hN
theorem zL {f:FuncId} {x:Operand} {first cap:List AV} {args:List Operand} {tys:Array TypeId} {d:Nat} {ty:TypeId} {pos:String} {af:Array Edge} {gg:Option (Nat × Bool)} {ys:List AV} {s:qj} (q b:Nat) (keep:List Nat) (hf:IsFn C'.P f)
  (hc:yq C'.P f ys [jo s,qP 0] xX Xl) (hx:evA (qn ts) x = .clo (.func f) first cap)
  (hdie:C'.die xX [] ([(q,.dead),(b,.dead)] ++ (q :: b :: keep).map fun n=>(n,qm hs n)))
  (k:jE C' N all (⟨gd ++ (ji x ++ args.flatMap ji ++ []),q :: b :: keep,some d,j1,[],[]⟩ :: es) ⟨(d,j1) :: ts,hs,nx⟩ os K)
  (hq:qm hs q = jo s:=by rfl) (hb:qm hs b = qP q:=by rfl) (hne:decide (q ≠ b) = true:=by rfl)
  (hz:qB (jv 0 [q,b]) (q :: b :: keep) (qm hs) (first ++ args.map (evA (qn ts)) ++ cap) ys:=by ((repeat' (first|exact je|apply qX|exact jd rfl|exact jF|(apply qo;apply qT;exact .inr (of_decide_eq_true rfl))|(apply qo;apply jN;exact .inr (of_decide_eq_true rfl))|(apply qo;apply jn;exact .inr (of_decide_eq_true rfl))|apply jw|apply jx))<;>fail)) (hN:d < N:=by exact nle rfl):qY C' N all gd es ⟨ts,hs,nx⟩ ⟨some d,.call ⟨.value x,args.toArray,tys⟩,ty,pos,af,gg⟩ os K:=by
 refine QN (H:=[jo s,qP 0]) (HP:=Xl) (ch:=xX) (xs:=first ++ args.map (evA (qn ts)) ++ cap) _ (q :: b :: keep) [q,b] [] rfl hN (xa f hf x args tys first cap hx) rfl (by have:=of_decide_eq_true hne;simp [this]) (fun n hn=>by simp at hn;rcases hn with rfl|rfl<;>simp) hz ?_ hc ?_ (by simp) k
 ·exact fun i n hb' hi hj=>vC (J6 hq hb) i n hb' hi hj
 ·rintro H' rfl
  refine ⟨[(q,.dead),(b,.dead)],rfl,fun i n hb hz=>?_,hdie⟩
  have:hb = .dead:=by
   rcases i with _|_|i
   ·simp at hz;exact hz.2.symm
   ·simp at hz;exact hz.2.symm
   ·simp at hz
  subst this
  exact jO
end steps
theorem yH {L:List (Nat × Nat)} {nh:Nat} {σ:St} {q q' b b' : Nat} {s s' : qj} {rest:List (Nat × HB)} (hq:qm σ.hs q = jo s) (hb:qm σ.hs b = qP q) (h1:Maps L nh q q') (h2:Maps L nh b b') (hs:s = s') (hl:j4 L nh σ rest):j4 L nh σ ((q',jo s') :: (b',qP q') :: rest):=yr hq h1 hs (vr hb h1 h2 hl)
theorem xx {L:List (Nat × Nat)} {nh:Nat} {σ:St} {q q' b b' n n' k:Nat} {ex:Bool} {s s' : qj} {rows rows' : List (List AV)} {rest:List (Nat × HB)} (hq:qm σ.hs q = jo s) (hb:qm σ.hs b = qP q) (hn:qm σ.hs n = .own ex k rows) (h1:Maps L nh q q') (hB:Maps L nh b b') (h2:Maps L nh n n') (hs:s = s') (hr:rows = rows') (hp : ∀ row,row ∈ rows' → AV.pure.pureL row = true) (hl:j4 L nh σ rest):j4 L nh σ ((q',jo s') :: (b',qP q') :: (n',.own false k rows') :: rest):=by
 subst hr
 exact yH hq hb h1 hB hs ⟨⟨n,h2,by rw [hn];exact ⟨(fun h=>by cases h),rfl,xN hp⟩⟩,hl⟩
theorem Kc {s r:qj} {x:_} (h:kf s = some (x,r)) : ∃ s1 s2 s3,qR s = some (x.path,s1) ∧ xp s1 = some (x.fold,s2) ∧ qR s2 = some (x.text,s3) ∧ qO s3 = some (x.ver,r):=by
 unfold kf at h
 repeat' (split at h)
 all_goals first
  | (cases h;done)
  | skip
 rename_i h1 _ _ _ h2 _ _ _ h3 _ _ _ h4
 injection h with h
 injection h with e1 e2
 subst e1 e2
 exact ⟨_,_,_,h1,h2,h3,h4⟩
theorem V5 {s:qj} (h:kf s = none):qR s = none ∨ ∃ a s1,qR s = some (a,s1) ∧ (xp s1 = none ∨ ∃ b s2,xp s1 = some (b,s2) ∧ (qR s2 = none ∨ ∃ c s3,qR s2 = some (c,s3) ∧ (qO s3 = none))):=by
 unfold kf at h
 cases h1:qR s with
 | none=>exact .inl rfl
 | some z =>
   obtain ⟨v1,s1⟩:=z
   rw [h1] at h
   simp only at h
   refine .inr ⟨v1,s1,rfl,?_⟩
   cases h2:xp s1 with
   | none=>exact .inl rfl
   | some z =>
     obtain ⟨v2,s2⟩:=z
     rw [h2] at h
     simp only at h
     refine .inr ⟨v2,s2,rfl,?_⟩
     cases h3:qR s2 with
     | none=>exact .inl rfl
     | some z =>
       obtain ⟨v3,s3⟩:=z
       rw [h3] at h
       simp only at h
       refine .inr ⟨v3,s3,rfl,?_⟩
       cases h4:qO s3 with
       | none=>rfl
       | some z =>
         rw [h4] at h
         cases h
theorem Z4 {s r:qj} {x:_} (h:ke s = some (x,r)) : ∃ s1 s2,qO s = some (x.num,s1) ∧ qR s1 = some (x.key,s2) ∧ xZ s2 = some (x.chs,r):=by
 unfold ke at h
 repeat' (split at h)
 all_goals first
  | (cases h;done)
  | skip
 rename_i h1 _ _ _ h2 _ _ _ h3
 injection h with h
 injection h with e1 e2
 subst e1 e2
 exact ⟨_,_,h1,h2,h3⟩
theorem V3 {s:qj} (h:ke s = none):qO s = none ∨ ∃ a s1,qO s = some (a,s1) ∧ (qR s1 = none ∨ ∃ b s2,qR s1 = some (b,s2) ∧ (xZ s2 = none)):=by
 unfold ke at h
 cases h1:qO s with
 | none=>exact .inl rfl
 | some z =>
   obtain ⟨v1,s1⟩:=z
   rw [h1] at h
   simp only at h
   refine .inr ⟨v1,s1,rfl,?_⟩
   cases h2:qR s1 with
   | none=>exact .inl rfl
   | some z =>
     obtain ⟨v2,s2⟩:=z
     rw [h2] at h
     simp only at h
     refine .inr ⟨v2,s2,rfl,?_⟩
     cases h3:xZ s2 with
     | none=>rfl
     | some z =>
       rw [h3] at h
       cases h
theorem kA {s r:qj} {c:Ent} (h:kf s = some (c,r)):r.length ≤ s.length:=by
 rw [(rd_ent.of _ _ _ h).1,List.length_append];omega
theorem kz {s r:qj} {c:Com} (h:ke s = some (c,r)):r.length ≤ s.length:=by
 rw [(rd_com.of _ _ _ h).1,List.length_append];omega
attribute [local irreducible] Awp jE qY qK Red qA Go.Ab.Fin qp Rz yL qJ qE ResOk jl qL jA qB
set_option maxHeartbeats 2000000 in
theorem WQ (s r:qj) (c:Ent) (hs:s.length ≤ 1000000000) (h:kf s = some (c,r)):qp C2.P 46 [.op 1 0 0] [jo s,qP 0] (.agg c.row) [jo r,qP 0]:=by
 obtain ⟨s1,s2,s3,h1,h2,h3,h4⟩:=Kc h
 obtain ⟨v1,v2,v3,v4⟩:=c
 dsimp only at *
 have c1:=jj s _ s1 (by omega) h1
 have l1:=qv h1
 have c2:=kO s1 s2 _ (by omega) h2
 have l2:=yc h2
 have c3:=jj s2 _ s3 (by omega) h3
 have l3:=qv h3
 have c4:=jt s3 r _ (by omega) h4
 have l4:=qr h4
 clear h h1 h2 h3 h4
 unfold Ent.row
 refine qf (C:=C2) Tryd.func46 rfl _ Tryd.ntmps46 (Nat.le_of_ble_eq_true rfl) _ Tryd.results46 2 rfl rfl ?_
 repeat' (first|(first|(apply qc Tryd.func31 rfl rfl;intro hIsFn;refine qH 0 hIsFn (c1) ?_)|(apply qc Tryd.func44 rfl rfl;intro hIsFn;refine qH 0 hIsFn (c2) ?_)|(apply qc Tryd.func31 rfl rfl;intro hIsFn;refine qH 0 hIsFn (c3) ?_)|(apply qc Tryd.func30 rfl rfl;intro hIsFn;refine qH 0 hIsFn (c4) ?_)|(apply qt;apply (yg (cs:=[.v (str v1),.v (.bool v2),.v (str v3),.v (.int .i64 v4)]));rfl;rfl;rfl;kernel_rfl;exact nle rfl))|refine qk ?_|((first|(apply qb;rfl;rfl;exact nle rfl)|(apply qa;rfl;rfl;exact nle rfl)|refine xsC ?_ ?_);all_goals (intro hc;have hp:=hc;try simp at hp;try (exfalso;omega)))|refine jm ?_ ?_)
 all_goals ((apply qD (rs:=[.cell 1 76]) [] 2;(case hr=>(repeat (first|exact qw|(apply qx;rfl)|(apply qu;rfl;rfl;rfl;rfl;rfl))));(case hL=>rfl);(case hh=>(refine yH (q:=0) (b:=1) rfl rfl (qd rfl) (qd rfl) ?_ qh;all_goals rfl));(case hi=>exact rfl);(case hz=>first|rfl|(simp [jQ,AV.ren,AV.ren.renL,js,qn,jh];done))))
set_option maxHeartbeats 2000000 in
theorem Zm (s:qj) (hs:s.length ≤ 1000000000) (h:kf s = none):yq C2.P 46 [.op 1 0 0] [jo s,qP 0] xX Xl:=by
 rcases V5 h with h1|⟨v1,s1,h1,h2|⟨v2,s2,h2,h3|⟨v3,s3,h3,h4⟩⟩⟩
 ·have cd:=yh s (by omega) h1
  clear h h1
  refine qq (C:=C2) Tryd.func46 rfl _ Tryd.ntmps46 (Nat.le_of_ble_eq_true rfl) 2 rfl rfl ?_
  repeat' (first|refine qk ?_|(first|((refine jq (first:=[]) (cap:=[]) 0 [] (qG Tryd.func31 rfl rfl) (cd) rfl (⟨rfl,jD⟩) ?_);(repeat (first|exact qy 3 rfl|exact ⟨3,rfl⟩|(apply jz;apply qt;apply qQ;rfl;rfl;rfl;(first|rfl|assumption|(apply qe;assumption)|(apply qe;apply qe;assumption));(conv=>lhs;whnf);exact nle rfl)|refine qz (d:=3) rfl (nle rfl) ?_|(apply qC;exact nle rfl;refine ⟨?_,?_⟩;(first|exact fun h=>absurd h Bool.false_ne_true|(intro _;kernel_rfl)))));done))|((first|(apply qb;rfl;rfl;exact nle rfl)|(apply qa;rfl;rfl;exact nle rfl)|refine xsC ?_ ?_);all_goals (intro hc;have hp:=hc;try simp at hp;try (exfalso;omega)))|refine jm ?_ ?_)
 ·have c1:=jj s _ s1 (by omega) h1
  have l1:=qv h1
  have cd:=wn s1 (by omega) h2
  clear h h1 h2
  refine qq (C:=C2) Tryd.func46 rfl _ Tryd.ntmps46 (Nat.le_of_ble_eq_true rfl) 2 rfl rfl ?_
  repeat' (first|refine qk ?_|(first|(apply qc Tryd.func31 rfl rfl;intro hIsFn;refine qH 0 hIsFn (c1) ?_)|((refine jq (first:=[]) (cap:=[]) 0 [] (qG Tryd.func44 rfl rfl) (cd) rfl (⟨rfl,jD⟩) ?_);(repeat (first|exact qy 5 rfl|exact ⟨5,rfl⟩|(apply jz;apply qt;apply qQ;rfl;rfl;rfl;(first|rfl|assumption|(apply qe;assumption)|(apply qe;apply qe;assumption));(conv=>lhs;whnf);exact nle rfl)|refine qz (d:=5) rfl (nle rfl) ?_|(apply qC;exact nle rfl;refine ⟨?_,?_⟩;(first|exact fun h=>absurd h Bool.false_ne_true|(intro _;kernel_rfl)))));done))|((first|(apply qb;rfl;rfl;exact nle rfl)|(apply qa;rfl;rfl;exact nle rfl)|refine xsC ?_ ?_);all_goals (intro hc;have hp:=hc;try simp at hp;try (exfalso;omega)))|refine jm ?_ ?_)
 ·have c1:=jj s _ s1 (by omega) h1
  have l1:=qv h1
  have c2:=kO s1 s2 _ (by omega) h2
  have l2:=yc h2
  have cd:=yh s2 (by omega) h3
  clear h h1 h2 h3
  refine qq (C:=C2) Tryd.func46 rfl _ Tryd.ntmps46 (Nat.le_of_ble_eq_true rfl) 2 rfl rfl ?_
  repeat' (first|refine qk ?_|(first|(apply qc Tryd.func31 rfl rfl;intro hIsFn;refine qH 0 hIsFn (c1) ?_)|(apply qc Tryd.func44 rfl rfl;intro hIsFn;refine qH 0 hIsFn (c2) ?_)|((refine jq (first:=[]) (cap:=[]) 0 [] (qG Tryd.func31 rfl rfl) (cd) rfl (⟨rfl,jD⟩) ?_);(repeat (first|exact qy 7 rfl|exact ⟨7,rfl⟩|(apply jz;apply qt;apply qQ;rfl;rfl;rfl;(first|rfl|assumption|(apply qe;assumption)|(apply qe;apply qe;assumption));(conv=>lhs;whnf);exact nle rfl)|refine qz (d:=7) rfl (nle rfl) ?_|(apply qC;exact nle rfl;refine ⟨?_,?_⟩;(first|exact fun h=>absurd h Bool.false_ne_true|(intro _;kernel_rfl)))));done))|((first|(apply qb;rfl;rfl;exact nle rfl)|(apply qa;rfl;rfl;exact nle rfl)|refine xsC ?_ ?_);all_goals (intro hc;have hp:=hc;try simp at hp;try (exfalso;omega)))|refine jm ?_ ?_)
 ·have c1:=jj s _ s1 (by omega) h1
  have l1:=qv h1
  have c2:=kO s1 s2 _ (by omega) h2
  have l2:=yc h2
  have c3:=jj s2 _ s3 (by omega) h3
  have l3:=qv h3
  have cd:=j8 s3 (by omega) h4
  clear h h1 h2 h3 h4
  refine qq (C:=C2) Tryd.func46 rfl _ Tryd.ntmps46 (Nat.le_of_ble_eq_true rfl) 2 rfl rfl ?_
  repeat' (first|refine qk ?_|(first|(apply qc Tryd.func31 rfl rfl;intro hIsFn;refine qH 0 hIsFn (c1) ?_)|(apply qc Tryd.func44 rfl rfl;intro hIsFn;refine qH 0 hIsFn (c2) ?_)|(apply qc Tryd.func31 rfl rfl;intro hIsFn;refine qH 0 hIsFn (c3) ?_)|((refine jq (first:=[]) (cap:=[]) 0 [] (qG Tryd.func30 rfl rfl) (cd) rfl (⟨rfl,jD⟩) ?_);(repeat (first|exact qy 9 rfl|exact ⟨9,rfl⟩|(apply jz;apply qt;apply qQ;rfl;rfl;rfl;(first|rfl|assumption|(apply qe;assumption)|(apply qe;apply qe;assumption));(conv=>lhs;whnf);exact nle rfl)|refine qz (d:=9) rfl (nle rfl) ?_|(apply qC;exact nle rfl;refine ⟨?_,?_⟩;(first|exact fun h=>absurd h Bool.false_ne_true|(intro _;kernel_rfl)))));done))|((first|(apply qb;rfl;rfl;exact nle rfl)|(apply qa;rfl;rfl;exact nle rfl)|refine xsC ?_ ?_);all_goals (intro hc;have hp:=hc;try simp at hp;try (exfalso;omega)))|refine jm ?_ ?_)
set_option maxHeartbeats 2000000 in
theorem WP (s r:qj) (c:Com) (hs:s.length ≤ 1000000000) (h:ke s = some (c,r)):qp C2.P 48 [.op 1 0 0] [jo s,qP 0] (.agg c.row) [jo r,qP 0]:=by
 obtain ⟨s1,s2,h1,h2,h3⟩:=Z4 h
 obtain ⟨v1,v2,v3⟩:=c
 dsimp only at *
 have c1:=jt s s1 _ (by omega) h1
 have l1:=qr h1
 have c2:=jj s1 _ s2 (by omega) h2
 have l2:=qv h2
 have c3:=Ju s2 r _ (by omega) h3
 have l3:=Jh h3
 clear h h1 h2 h3
 unfold Com.row
 refine qf (C:=C2) Tryd.func48 rfl _ Tryd.ntmps48 (Nat.le_of_ble_eq_true rfl) _ Tryd.results48 2 rfl rfl ?_
 repeat' (first|(first|(apply qc Tryd.func30 rfl rfl;intro hIsFn;refine qH 0 hIsFn (c1) ?_)|(apply qc Tryd.func31 rfl rfl;intro hIsFn;refine qH 0 hIsFn (c2) ?_)|(apply qc Tryd.func32 rfl rfl;intro hIsFn;refine qH 0 hIsFn (c3) ?_)|(apply qt;apply (yg (cs:=[.v (.int .i64 v1),.v (str v2),ya v3]));rfl;rfl;rfl;kernel_rfl;exact nle rfl))|refine qk ?_|((first|(apply qb;rfl;rfl;exact nle rfl)|(apply qa;rfl;rfl;exact nle rfl)|refine xsC ?_ ?_);all_goals (intro hc;have hp:=hc;try simp at hp;try (exfalso;omega)))|refine jm ?_ ?_)
 all_goals ((apply qD (rs:=[.cell 1 80]) [] 2;(case hr=>(repeat (first|exact qw|(apply qx;rfl)|(apply qu;rfl;rfl;rfl;rfl;rfl))));(case hL=>rfl);(case hh=>(refine yH (q:=0) (b:=1) rfl rfl (qd rfl) (qd rfl) ?_ qh;all_goals rfl));(case hi=>exact rfl);(case hz=>first|rfl|(simp [jQ,AV.ren,AV.ren.renL,js,qn,jh];done))))
set_option maxHeartbeats 2000000 in
theorem Zl (s:qj) (hs:s.length ≤ 1000000000) (h:ke s = none):yq C2.P 48 [.op 1 0 0] [jo s,qP 0] xX Xl:=by
 rcases V3 h with h1|⟨v1,s1,h1,h2|⟨v2,s2,h2,h3⟩⟩
 ·have cd:=j8 s (by omega) h1
  clear h h1
  refine qq (C:=C2) Tryd.func48 rfl _ Tryd.ntmps48 (Nat.le_of_ble_eq_true rfl) 2 rfl rfl ?_
  repeat' (first|refine qk ?_|(first|((refine jq (first:=[]) (cap:=[]) 0 [] (qG Tryd.func30 rfl rfl) (cd) rfl (⟨rfl,jD⟩) ?_);(repeat (first|exact qy 3 rfl|exact ⟨3,rfl⟩|(apply jz;apply qt;apply qQ;rfl;rfl;rfl;(first|rfl|assumption|(apply qe;assumption)|(apply qe;apply qe;assumption));(conv=>lhs;whnf);exact nle rfl)|refine qz (d:=3) rfl (nle rfl) ?_|(apply qC;exact nle rfl;refine ⟨?_,?_⟩;(first|exact fun h=>absurd h Bool.false_ne_true|(intro _;kernel_rfl)))));done))|((first|(apply qb;rfl;rfl;exact nle rfl)|(apply qa;rfl;rfl;exact nle rfl)|refine xsC ?_ ?_);all_goals (intro hc;have hp:=hc;try simp at hp;try (exfalso;omega)))|refine jm ?_ ?_)
 ·have c1:=jt s s1 _ (by omega) h1
  have l1:=qr h1
  have cd:=yh s1 (by omega) h2
  clear h h1 h2
  refine qq (C:=C2) Tryd.func48 rfl _ Tryd.ntmps48 (Nat.le_of_ble_eq_true rfl) 2 rfl rfl ?_
  repeat' (first|refine qk ?_|(first|(apply qc Tryd.func30 rfl rfl;intro hIsFn;refine qH 0 hIsFn (c1) ?_)|((refine jq (first:=[]) (cap:=[]) 0 [] (qG Tryd.func31 rfl rfl) (cd) rfl (⟨rfl,jD⟩) ?_);(repeat (first|exact qy 5 rfl|exact ⟨5,rfl⟩|(apply jz;apply qt;apply qQ;rfl;rfl;rfl;(first|rfl|assumption|(apply qe;assumption)|(apply qe;apply qe;assumption));(conv=>lhs;whnf);exact nle rfl)|refine qz (d:=5) rfl (nle rfl) ?_|(apply qC;exact nle rfl;refine ⟨?_,?_⟩;(first|exact fun h=>absurd h Bool.false_ne_true|(intro _;kernel_rfl)))));done))|((first|(apply qb;rfl;rfl;exact nle rfl)|(apply qa;rfl;rfl;exact nle rfl)|refine xsC ?_ ?_);all_goals (intro hc;have hp:=hc;try simp at hp;try (exfalso;omega)))|refine jm ?_ ?_)
 ·have c1:=jt s s1 _ (by omega) h1
  have l1:=qr h1
  have c2:=jj s1 _ s2 (by omega) h2
  have l2:=qv h2
  have cd:=zW s2 (by omega) h3
  clear h h1 h2 h3
  refine qq (C:=C2) Tryd.func48 rfl _ Tryd.ntmps48 (Nat.le_of_ble_eq_true rfl) 2 rfl rfl ?_
  repeat' (first|refine qk ?_|(first|(apply qc Tryd.func30 rfl rfl;intro hIsFn;refine qH 0 hIsFn (c1) ?_)|(apply qc Tryd.func31 rfl rfl;intro hIsFn;refine qH 0 hIsFn (c2) ?_)|((refine jq (first:=[]) (cap:=[]) 0 [] (qG Tryd.func32 rfl rfl) (cd) rfl (⟨rfl,jD⟩) ?_);(repeat (first|exact qy 7 rfl|exact ⟨7,rfl⟩|(apply jz;apply qt;apply qQ;rfl;rfl;rfl;(first|rfl|assumption|(apply qe;assumption)|(apply qe;apply qe;assumption));(conv=>lhs;whnf);exact nle rfl)|refine qz (d:=7) rfl (nle rfl) ?_|(apply qC;exact nle rfl;refine ⟨?_,?_⟩;(first|exact fun h=>absurd h Bool.false_ne_true|(intro _;kernel_rfl)))));done))|((first|(apply qb;rfl;rfl;exact nle rfl)|(apply qa;rfl;rfl;exact nle rfl)|refine xsC ?_ ?_);all_goals (intro hc;have hp:=hc;try simp at hp;try (exfalso;omega)))|refine jm ?_ ?_)
end Go.Proofs.YtahbbnfmbohmmaaDoor
set_option linter.unusedSimpArgs false
set_option linter.unnecessarySimpa false
set_option linter.unusedVariables false
set_option maxHeartbeats 1000000
namespace Go.Proofs.YtahbbnfmbohmmaaDoor
open Go.Ab Go.RowKit
set_option maxRecDepth 10000
attribute [local irreducible] Awp jE qY qK Red qA Go.Ab.Fin qp Rz yL qJ qE ResOk jl qL jA qB
theorem zq (l:List Ent) : ∀ row,row ∈ l.map Ent.row → AV.pure.pureL row = true:=fun row h=>by
 obtain ⟨c,_,rfl⟩:=List.mem_map.1 h
 rfl
theorem JP (c:Com):AV.pure.pureL c.row = true:=by first|rfl|(unfold Com.row ya;simp [AV.pure.pureL,AV.pure,xY];done)|(unfold Com.row ya;simp [AV.pure.pureL,AV.pure];exact xY c.chs)
theorem zn (l:List Com) : ∀ row,row ∈ l.map Com.row → AV.pure.pureL row = true:=fun row h=>by
 obtain ⟨c,_,rfl⟩:=List.mem_map.1 h
 exact JP c
set_option maxHeartbeats 4000000 in
theorem Qa (s r:qj) (l:List Ent) (hs:s.length ≤ 1000000000) (h:kT s = some (l,r)):qp C2.P 45 [.op 0 0 0,.v (.int .i64 60),.clo (.func 46) [] [.op 1 0 0]] [jo s,qP 0] (jX l) [jo r,qP 0]:=by
 obtain ⟨m,s0,h1,hm,h2⟩:=QC h
 have c1:=kN _ s s0 m hs h1
 have hl0:=x0 h1
 have hpl : ∀ s x r,kf s = some (x,r) → r.length ≤ s.length:=fun _ _ _ h=>kA h
 have hlm:=(jR hpl h2).1
 clear h h1
 refine qf (C:=C2) Tryd.func45 rfl _ Tryd.ntmps45 (Nat.le_of_ble_eq_true rfl) _ Tryd.results45 2 rfl rfl ?_
 repeat' (first|refine qk ?_|(first|(apply qc Tryd.func61 rfl rfl;intro hIsFn;refine qH 0 hIsFn (c1) ?_))|((first|(apply qb;rfl;rfl;exact nle rfl)|(apply qa;rfl;rfl;exact nle rfl)|refine xsC ?_ ?_);all_goals (intro hc;have hp:=hc;try simp at hp;try (exfalso;omega)))|refine jm ?_ ?_)
 (refine Awp.red (qS (τ:=⟨[(7,.sl true []),(10,.v (.int .i64 (m:Int))),(11,.v (.int .i64 ((0:Nat):Int))),(2,.clo (.func 46) [] [.op 1 0 0])],[(0,jo s0),(1,qP 0)],2⟩) [] rfl ?gts2 ?ghs2) ?_;(case gts2=>(repeat (first|exact ql|refine qZ ?_|refine ym ?_|refine jH ?_|refine yu ?_|refine jI ?_ ?_|refine yf ?_ ?_));all_goals first|rfl|exact yz ql (qd rfl));(case ghs2=>refine yH (q:=0) (b:=1) rfl rfl (qd rfl) (qd rfl) ?_ qh;all_goals (first|(with_reducible rfl)|rfl)))
 refine jW (fun n σ => ∃ (i:Nat) (r' : qj),i ≤ m ∧ n = m - i ∧ jL kf s0 i = some (l.take i,r') ∧ ((i = 0 ∧ σ = ⟨[(7,.sl true []),(10,.v (.int .i64 (m:Int))),(11,.v (.int .i64 ((0:Nat):Int))),(2,.clo (.func 46) [] [.op 1 0 0])],[(0,jo s0),(1,qP 0)],2⟩) ∨ (0 < i ∧ σ = ⟨[(7,.os 2 0 i),(10,.v (.int .i64 (m:Int))),(11,.v (.int .i64 (i:Int))),(2,.clo (.func 46) [] [.op 1 0 0])],[(0,jo r'),(1,qP 0),(2,.own false 4 ((l.take i).map Ent.row))],3⟩))) m ⟨0,s0,Nat.zero_le _,rfl,rfl,.inl ⟨rfl,rfl⟩⟩ ?_
 rintro n σ ⟨i,r',hi,rfl,hrep,hst⟩
 by_cases hlt:i < m
 ·obtain ⟨x,r2,hx,hrep2,htk⟩:=xT h2 hlt hrep
  have hr1:=(jR hpl hrep).2
  have c2:=WQ r' r2 x (by omega) hx
  have hrr:r2.length ≤ r'.length:=kA hx
  rcases hst with ⟨rfl,rfl⟩|⟨hp,rfl⟩
  ·obtain rfl:s0 = r':=by
    simp only [jL] at hrep
    injection hrep with hrep
    injection hrep
   clear h2 hrep hx hpl
   repeat' (first|refine qk ?_|(first|(refine ye ?_)|(refine zy (first:=[]) (cap:=[.op 1 0 0]) 0 1 Tryd.func46 (c2) ?_)|(refine wd ?_))|((first|(apply qb;rfl;rfl;exact nle rfl)|(apply qa;rfl;rfl;exact nle rfl)|refine xsC ?_ ?_);all_goals (intro hc;have hp:=hc;try simp at hp;try (exfalso;omega)))|refine jm ?_ ?_)
   all_goals try (exfalso;omega)
   all_goals (refine ⟨m - (0 + 1),⟨[(7,.os 2 0 (0 + 1)),(10,.v (.int .i64 (m:Int))),(11,.v (.int .i64 ((0 + 1:Nat):Int))),(2,.clo (.func 46) [] [.op 1 0 0])],[(0,jo r2),(1,qP 0),(2,.own false 4 ((l.take (0 + 1)).map Ent.row))],3⟩,by omega,?_,⟨0 + 1,r2,by omega,rfl,by rw [htk];exact hrep2,.inr ⟨Nat.succ_pos _,rfl⟩⟩⟩;refine qS [(2,2)] rfl ?gts ?ghs;(case gts=>(repeat (first|exact ql|refine qZ ?_|refine ym ?_|refine jH ?_|refine yu ?_|refine jI ?_ ?_|refine yf ?_ ?_));all_goals first|rfl|(simp;omega)|exact yz ql (qd rfl));(case ghs=>refine xx (q:=0) (b:=1) (n:=2) rfl rfl rfl (qd rfl) (qd rfl) (qd rfl) ?_ ?_ ?_ qh;all_goals (first|(with_reducible rfl)|(rw [htk];simp;done)|exact zq _)))
  ·have hlen:(l.take i).length = i:=by rw [List.length_take];omega
   have hml:((l.take i).map Ent.row).length = i:=by rw [List.length_map];exact hlen
   clear h2 hrep hx hpl
   repeat' (first|refine qk ?_|(first|(refine ye ?_)|(refine zy (first:=[]) (cap:=[.op 1 0 0]) 0 1 Tryd.func46 (c2) ?_)|(refine we ?_))|((first|(apply qb;rfl;rfl;exact nle rfl)|(apply qa;rfl;rfl;exact nle rfl)|refine xsC ?_ ?_);all_goals (intro hc;have hp:=hc;try simp at hp;try (exfalso;omega)))|refine jm ?_ ?_)
   all_goals try (exfalso;omega)
   all_goals (refine ⟨m - (i + 1),⟨[(7,.os 2 0 (i + 1)),(10,.v (.int .i64 (m:Int))),(11,.v (.int .i64 ((i + 1:Nat):Int))),(2,.clo (.func 46) [] [.op 1 0 0])],[(0,jo r2),(1,qP 0),(2,.own false 4 ((l.take (i + 1)).map Ent.row))],3⟩,by omega,?_,⟨i + 1,r2,by omega,rfl,by rw [htk];exact hrep2,.inr ⟨Nat.succ_pos _,rfl⟩⟩⟩;refine qS [(3,2)] rfl ?gts ?ghs;(case gts=>(repeat (first|exact ql|refine qZ ?_|refine ym ?_|refine jH ?_|refine yu ?_|refine jI ?_ ?_|refine yf ?_ ?_));all_goals first|rfl|(simp;omega)|exact yz ql (qd rfl));(case ghs=>refine xx (q:=0) (b:=1) (n:=3) rfl rfl rfl (qd rfl) (qd rfl) (qd rfl) ?_ ?_ ?_ qh;all_goals (first|(with_reducible rfl)|(rw [htk,List.take_of_length_le (Nat.le_of_eq hml),List.map_append];rfl)|exact zq _)))
 ·obtain rfl:i = m:=by omega
  rw [h2] at hrep
  injection hrep with hrep
  injection hrep with e1 e2
  subst e2
  rw [← e1] at hst
  clear e1
  rcases hst with ⟨rfl,rfl⟩|⟨hp,rfl⟩
  ·obtain rfl:l = []:=List.eq_nil_of_length_eq_zero hlm
   obtain rfl:s0 = r:=by
    simp only [jL] at h2
    injection h2 with h2
    injection h2
   clear h2
   unfold jX
   refine Awp.red (qS (τ:=⟨[(7,.sl false []),(10,.v (.int .i64 ((0:Nat):Int))),(11,.v (.int .i64 ((0:Nat):Int)))],[(0,jo s0),(1,qP 0)],2⟩) [] rfl ?gts9 ?ghs9) ?_
   case gts9 =>
    refine W6 ?_
    (repeat (first|exact ql|refine qZ ?_|refine ym ?_|refine jH ?_|refine yu ?_|refine jI ?_ ?_|refine yf ?_ ?_))
    all_goals rfl
   case ghs9=>refine yH (q:=0) (b:=1) rfl rfl (qd rfl) (qd rfl) ?_ qh;all_goals (first|(with_reducible rfl)|rfl)
   repeat' (first|refine qk ?_|fail|((first|(apply qb;rfl;rfl;exact nle rfl)|(apply qa;rfl;rfl;exact nle rfl)|refine xsC ?_ ?_);all_goals (intro hc;have hp:=hc;try simp at hp;try (exfalso;omega)))|refine jm ?_ ?_)
   all_goals try (exfalso;omega)
   all_goals ((apply qD (rs:=[.tmp 6]) [] 2;(case hr=>(repeat (first|exact qw|(apply qx;rfl)|(apply qu;rfl;rfl;rfl;rfl;rfl))));(case hL=>rfl);(case hh=>refine yH (q:=0) (b:=1) rfl rfl (qd rfl) (qd rfl) ?_ qh;all_goals (first|(with_reducible rfl)|rfl));(case hi=>exact rfl);(case hz=>first|rfl|(simp [jQ,AV.ren,AV.ren.renL,js,qn,jh];done))))
  ·clear h2
   unfold jX
   refine Awp.red (km 2 rfl (zq l)) ?_
   refine Awp.red (X4 7 2 rfl rfl (by rw [List.length_map];omega)) ?_
   repeat' (first|refine qk ?_|fail|((first|(apply qb;rfl;rfl;exact nle rfl)|(apply qa;rfl;rfl;exact nle rfl)|refine xsC ?_ ?_);all_goals (intro hc;have hp:=hc;try simp at hp;try (exfalso;omega)))|refine jm ?_ ?_)
   all_goals try (exfalso;omega)
   all_goals ((apply qD (rs:=[.tmp 6]) [] 2;(case hr=>(repeat (first|exact qw|(apply qx;rfl)|(apply qu;rfl;rfl;rfl;rfl;rfl))));(case hL=>rfl);(case hh=>refine yH (q:=0) (b:=1) rfl rfl (qd rfl) (qd rfl) ?_ qh;all_goals (first|(with_reducible rfl)|rfl));(case hi=>exact rfl);(case hz=>first|rfl|(simp [jQ,AV.ren,AV.ren.renL,js,qn,jh];done))))
set_option maxHeartbeats 4000000 in
theorem Y4 (s:qj) (hs:s.length ≤ 1000000000) (h:kT s = none):yq C2.P 45 [.op 0 0 0,.v (.int .i64 60),.clo (.func 46) [] [.op 1 0 0]] [jo s,qP 0] xX Xl:=by
 rcases k9 h with h1|⟨m,k,s0,l,r,h1,hm,hkm,h2,h3⟩
 ·have c1:=vG _ s hs h1
  refine qq (C:=C2) Tryd.func45 rfl _ Tryd.ntmps45 (Nat.le_of_ble_eq_true rfl) 2 rfl rfl ?_
  repeat' (first|refine qk ?_|(first|((refine jq (first:=[]) (cap:=[]) 0 [] (qG Tryd.func61 rfl rfl) (c1) rfl (⟨rfl,jD⟩) ?_);(repeat (first|exact qy 10 rfl|exact ⟨10,rfl⟩|refine qz (d:=10) rfl (nle rfl) ?_|(apply qC;exact nle rfl;refine ⟨?_,?_⟩;(first|exact fun h=>absurd h Bool.false_ne_true|(intro _;kernel_rfl)))));done))|((first|(apply qb;rfl;rfl;exact nle rfl)|(apply qa;rfl;rfl;exact nle rfl)|refine xsC ?_ ?_);all_goals (intro hc;have hp:=hc;try simp at hp;try (exfalso;omega)))|refine jm ?_ ?_)
 ·have c1:=kN _ s s0 m hs h1
  have hl0:=x0 h1
  have hpl : ∀ s x r,kf s = some (x,r) → r.length ≤ s.length:=fun _ _ _ h=>kA h
  have hlm:=(jR hpl h2).1
  clear h h1
  refine qq (C:=C2) Tryd.func45 rfl _ Tryd.ntmps45 (Nat.le_of_ble_eq_true rfl) 2 rfl rfl ?_
  repeat' (first|refine qk ?_|(first|(apply qc Tryd.func61 rfl rfl;intro hIsFn;refine qH 0 hIsFn (c1) ?_))|((first|(apply qb;rfl;rfl;exact nle rfl)|(apply qa;rfl;rfl;exact nle rfl)|refine xsC ?_ ?_);all_goals (intro hc;have hp:=hc;try simp at hp;try (exfalso;omega)))|refine jm ?_ ?_)
  (refine Awp.red (qS (τ:=⟨[(7,.sl true []),(10,.v (.int .i64 (m:Int))),(11,.v (.int .i64 ((0:Nat):Int))),(2,.clo (.func 46) [] [.op 1 0 0])],[(0,jo s0),(1,qP 0)],2⟩) [] rfl ?gts2 ?ghs2) ?_;(case gts2=>(repeat (first|exact ql|refine qZ ?_|refine ym ?_|refine jH ?_|refine yu ?_|refine jI ?_ ?_|refine yf ?_ ?_));all_goals first|rfl|exact yz ql (qd rfl));(case ghs2=>refine yH (q:=0) (b:=1) rfl rfl (qd rfl) (qd rfl) ?_ qh;all_goals (first|(with_reducible rfl)|rfl)))
  refine jW (fun n σ => ∃ (i:Nat) (r' : qj),i ≤ k ∧ n = k - i ∧ jL kf s0 i = some (l.take i,r') ∧ ((i = 0 ∧ σ = ⟨[(7,.sl true []),(10,.v (.int .i64 (m:Int))),(11,.v (.int .i64 ((0:Nat):Int))),(2,.clo (.func 46) [] [.op 1 0 0])],[(0,jo s0),(1,qP 0)],2⟩) ∨ (0 < i ∧ σ = ⟨[(7,.os 2 0 i),(10,.v (.int .i64 (m:Int))),(11,.v (.int .i64 (i:Int))),(2,.clo (.func 46) [] [.op 1 0 0])],[(0,jo r'),(1,qP 0),(2,.own false 4 ((l.take i).map Ent.row))],3⟩))) k ⟨0,s0,Nat.zero_le _,rfl,rfl,.inl ⟨rfl,rfl⟩⟩ ?_
  rintro n σ ⟨i,r',hi,rfl,hrep,hst⟩
  by_cases hlt:i < k
  ·obtain ⟨x,r2,hx,hrep2,htk⟩:=xT h2 hlt hrep
   have hr1:=(jR hpl hrep).2
   have c2:=WQ r' r2 x (by omega) hx
   have hrr:r2.length ≤ r'.length:=kA hx
   rcases hst with ⟨rfl,rfl⟩|⟨hp,rfl⟩
   ·obtain rfl:s0 = r':=by
     simp only [jL] at hrep
     injection hrep with hrep
     injection hrep
    clear h2 hrep hx hpl
    repeat' (first|refine qk ?_|(first|(refine ye ?_)|(refine zy (first:=[]) (cap:=[.op 1 0 0]) 0 1 Tryd.func46 (c2) ?_)|(refine wd ?_))|((first|(apply qb;rfl;rfl;exact nle rfl)|(apply qa;rfl;rfl;exact nle rfl)|refine xsC ?_ ?_);all_goals (intro hc;have hp:=hc;try simp at hp;try (exfalso;omega)))|refine jm ?_ ?_)
    all_goals try (exfalso;omega)
    all_goals (refine ⟨k - (0 + 1),⟨[(7,.os 2 0 (0 + 1)),(10,.v (.int .i64 (m:Int))),(11,.v (.int .i64 ((0 + 1:Nat):Int))),(2,.clo (.func 46) [] [.op 1 0 0])],[(0,jo r2),(1,qP 0),(2,.own false 4 ((l.take (0 + 1)).map Ent.row))],3⟩,by omega,?_,⟨0 + 1,r2,by omega,rfl,by rw [htk];exact hrep2,.inr ⟨Nat.succ_pos _,rfl⟩⟩⟩;refine qS [(2,2)] rfl ?gts ?ghs;(case gts=>(repeat (first|exact ql|refine qZ ?_|refine ym ?_|refine jH ?_|refine yu ?_|refine jI ?_ ?_|refine yf ?_ ?_));all_goals first|rfl|(simp;omega)|exact yz ql (qd rfl));(case ghs=>refine xx (q:=0) (b:=1) (n:=2) rfl rfl rfl (qd rfl) (qd rfl) (qd rfl) ?_ ?_ ?_ qh;all_goals (first|(with_reducible rfl)|(rw [htk];simp;done)|exact zq _)))
   ·have hlen:(l.take i).length = i:=by rw [List.length_take];omega
    have hml:((l.take i).map Ent.row).length = i:=by rw [List.length_map];exact hlen
    clear h2 hrep hx hpl
    repeat' (first|refine qk ?_|(first|(refine ye ?_)|(refine zy (first:=[]) (cap:=[.op 1 0 0]) 0 1 Tryd.func46 (c2) ?_)|(refine we ?_))|((first|(apply qb;rfl;rfl;exact nle rfl)|(apply qa;rfl;rfl;exact nle rfl)|refine xsC ?_ ?_);all_goals (intro hc;have hp:=hc;try simp at hp;try (exfalso;omega)))|refine jm ?_ ?_)
    all_goals try (exfalso;omega)
    all_goals (refine ⟨k - (i + 1),⟨[(7,.os 2 0 (i + 1)),(10,.v (.int .i64 (m:Int))),(11,.v (.int .i64 ((i + 1:Nat):Int))),(2,.clo (.func 46) [] [.op 1 0 0])],[(0,jo r2),(1,qP 0),(2,.own false 4 ((l.take (i + 1)).map Ent.row))],3⟩,by omega,?_,⟨i + 1,r2,by omega,rfl,by rw [htk];exact hrep2,.inr ⟨Nat.succ_pos _,rfl⟩⟩⟩;refine qS [(3,2)] rfl ?gts ?ghs;(case gts=>(repeat (first|exact ql|refine qZ ?_|refine ym ?_|refine jH ?_|refine yu ?_|refine jI ?_ ?_|refine yf ?_ ?_));all_goals first|rfl|(simp;omega)|exact yz ql (qd rfl));(case ghs=>refine xx (q:=0) (b:=1) (n:=3) rfl rfl rfl (qd rfl) (qd rfl) (qd rfl) ?_ ?_ ?_ qh;all_goals (first|(with_reducible rfl)|(rw [htk,List.take_of_length_le (Nat.le_of_eq hml),List.map_append];rfl)|exact zq _)))
  ·obtain rfl:i = k:=by omega
   rw [h2] at hrep
   injection hrep with hrep
   injection hrep with e1 e2
   subst e2
   have hr1:=(jR hpl h2).2
   have c2:=Zm r (by omega) h3
   clear e1 hpl
   rcases hst with ⟨rfl,rfl⟩|⟨hp,rfl⟩
   ·obtain rfl:s0 = r:=by
     simp only [jL] at h2
     injection h2 with h2
     injection h2
    clear h2
    repeat' (first|refine qk ?_|(first|((refine zL (first:=[]) (cap:=[.op 1 0 0]) 0 1 [] (qG Tryd.func46 rfl rfl) (c2) rfl (⟨rfl,jD⟩) ?_);(repeat (first|exact qy 15 rfl|exact ⟨15,rfl⟩|(apply jz;apply qt;apply qQ;rfl;rfl;rfl;(first|rfl|assumption|(apply qe;assumption)|(apply qe;apply qe;assumption));(conv=>lhs;whnf);exact nle rfl)|refine qz (d:=15) rfl (nle rfl) ?_|(apply qC;exact nle rfl;refine ⟨?_,?_⟩;(first|exact fun h=>absurd h Bool.false_ne_true|(intro _;kernel_rfl)))));done))|((first|(apply qb;rfl;rfl;exact nle rfl)|(apply qa;rfl;rfl;exact nle rfl)|refine xsC ?_ ?_);all_goals (intro hc;have hp:=hc;try simp at hp;try (exfalso;omega)))|refine jm ?_ ?_)
    all_goals (exfalso;omega)
   ·clear h2
    repeat' (first|refine qk ?_|(first|((refine zL (first:=[]) (cap:=[.op 1 0 0]) 0 1 [] (qG Tryd.func46 rfl rfl) (c2) rfl (⟨rfl,jD⟩) ?_);(repeat (first|exact qy 15 rfl|exact ⟨15,rfl⟩|(apply jz;apply qt;apply qQ;rfl;rfl;rfl;(first|rfl|assumption|(apply qe;assumption)|(apply qe;apply qe;assumption));(conv=>lhs;whnf);exact nle rfl)|refine qz (d:=15) rfl (nle rfl) ?_|(apply qC;exact nle rfl;refine ⟨?_,?_⟩;(first|exact fun h=>absurd h Bool.false_ne_true|(intro _;kernel_rfl)))));done))|((first|(apply qb;rfl;rfl;exact nle rfl)|(apply qa;rfl;rfl;exact nle rfl)|refine xsC ?_ ?_);all_goals (intro hc;have hp:=hc;try simp at hp;try (exfalso;omega)))|refine jm ?_ ?_)
    all_goals (exfalso;omega)
set_option maxHeartbeats 4000000 in
theorem Yg (s r:qj) (l:List Com) (hs:s.length ≤ 1000000000) (h:vz s = some (l,r)):qp C2.P 47 [.op 0 0 0,.v (.int .i64 10),.clo (.func 48) [] [.op 1 0 0]] [jo s,qP 0] (j3 l) [jo r,qP 0]:=by
 obtain ⟨m,s0,h1,hm,h2⟩:=QC h
 have c1:=kN _ s s0 m hs h1
 have hl0:=x0 h1
 have hpl : ∀ s x r,ke s = some (x,r) → r.length ≤ s.length:=fun _ _ _ h=>kz h
 have hlm:=(jR hpl h2).1
 clear h h1
 refine qf (C:=C2) Tryd.func47 rfl _ Tryd.ntmps47 (Nat.le_of_ble_eq_true rfl) _ Tryd.results47 2 rfl rfl ?_
 repeat' (first|refine qk ?_|(first|(apply qc Tryd.func61 rfl rfl;intro hIsFn;refine qH 0 hIsFn (c1) ?_))|((first|(apply qb;rfl;rfl;exact nle rfl)|(apply qa;rfl;rfl;exact nle rfl)|refine xsC ?_ ?_);all_goals (intro hc;have hp:=hc;try simp at hp;try (exfalso;omega)))|refine jm ?_ ?_)
 (refine Awp.red (qS (τ:=⟨[(7,.sl true []),(10,.v (.int .i64 (m:Int))),(11,.v (.int .i64 ((0:Nat):Int))),(2,.clo (.func 48) [] [.op 1 0 0])],[(0,jo s0),(1,qP 0)],2⟩) [] rfl ?gts2 ?ghs2) ?_;(case gts2=>(repeat (first|exact ql|refine qZ ?_|refine ym ?_|refine jH ?_|refine yu ?_|refine jI ?_ ?_|refine yf ?_ ?_));all_goals first|rfl|exact yz ql (qd rfl));(case ghs2=>refine yH (q:=0) (b:=1) rfl rfl (qd rfl) (qd rfl) ?_ qh;all_goals (first|(with_reducible rfl)|rfl)))
 refine jW (fun n σ => ∃ (i:Nat) (r' : qj),i ≤ m ∧ n = m - i ∧ jL ke s0 i = some (l.take i,r') ∧ ((i = 0 ∧ σ = ⟨[(7,.sl true []),(10,.v (.int .i64 (m:Int))),(11,.v (.int .i64 ((0:Nat):Int))),(2,.clo (.func 48) [] [.op 1 0 0])],[(0,jo s0),(1,qP 0)],2⟩) ∨ (0 < i ∧ σ = ⟨[(7,.os 2 0 i),(10,.v (.int .i64 (m:Int))),(11,.v (.int .i64 (i:Int))),(2,.clo (.func 48) [] [.op 1 0 0])],[(0,jo r'),(1,qP 0),(2,.own false 3 ((l.take i).map Com.row))],3⟩))) m ⟨0,s0,Nat.zero_le _,rfl,rfl,.inl ⟨rfl,rfl⟩⟩ ?_
 rintro n σ ⟨i,r',hi,rfl,hrep,hst⟩
 by_cases hlt:i < m
 ·obtain ⟨x,r2,hx,hrep2,htk⟩:=xT h2 hlt hrep
  have hr1:=(jR hpl hrep).2
  have c2:=WP r' r2 x (by omega) hx
  have hrr:r2.length ≤ r'.length:=kz hx
  rcases hst with ⟨rfl,rfl⟩|⟨hp,rfl⟩
  ·obtain rfl:s0 = r':=by
    simp only [jL] at hrep
    injection hrep with hrep
    injection hrep
   clear h2 hrep hx hpl
   repeat' (first|refine qk ?_|(first|(refine ye ?_)|(refine zy (first:=[]) (cap:=[.op 1 0 0]) 0 1 Tryd.func48 (c2) ?_)|(refine wd ?_))|((first|(apply qb;rfl;rfl;exact nle rfl)|(apply qa;rfl;rfl;exact nle rfl)|refine xsC ?_ ?_);all_goals (intro hc;have hp:=hc;try simp at hp;try (exfalso;omega)))|refine jm ?_ ?_)
   all_goals try (exfalso;omega)
   all_goals (refine ⟨m - (0 + 1),⟨[(7,.os 2 0 (0 + 1)),(10,.v (.int .i64 (m:Int))),(11,.v (.int .i64 ((0 + 1:Nat):Int))),(2,.clo (.func 48) [] [.op 1 0 0])],[(0,jo r2),(1,qP 0),(2,.own false 3 ((l.take (0 + 1)).map Com.row))],3⟩,by omega,?_,⟨0 + 1,r2,by omega,rfl,by rw [htk];exact hrep2,.inr ⟨Nat.succ_pos _,rfl⟩⟩⟩;refine qS [(2,2)] rfl ?gts ?ghs;(case gts=>(repeat (first|exact ql|refine qZ ?_|refine ym ?_|refine jH ?_|refine yu ?_|refine jI ?_ ?_|refine yf ?_ ?_));all_goals first|rfl|(simp;omega)|exact yz ql (qd rfl));(case ghs=>refine xx (q:=0) (b:=1) (n:=2) rfl rfl rfl (qd rfl) (qd rfl) (qd rfl) ?_ ?_ ?_ qh;all_goals (first|(with_reducible rfl)|(rw [htk];simp;done)|exact zn _)))
  ·have hlen:(l.take i).length = i:=by rw [List.length_take];omega
   have hml:((l.take i).map Com.row).length = i:=by rw [List.length_map];exact hlen
   clear h2 hrep hx hpl
   repeat' (first|refine qk ?_|(first|(refine ye ?_)|(refine zy (first:=[]) (cap:=[.op 1 0 0]) 0 1 Tryd.func48 (c2) ?_)|(refine we ?_))|((first|(apply qb;rfl;rfl;exact nle rfl)|(apply qa;rfl;rfl;exact nle rfl)|refine xsC ?_ ?_);all_goals (intro hc;have hp:=hc;try simp at hp;try (exfalso;omega)))|refine jm ?_ ?_)
   all_goals try (exfalso;omega)
   all_goals (refine ⟨m - (i + 1),⟨[(7,.os 2 0 (i + 1)),(10,.v (.int .i64 (m:Int))),(11,.v (.int .i64 ((i + 1:Nat):Int))),(2,.clo (.func 48) [] [.op 1 0 0])],[(0,jo r2),(1,qP 0),(2,.own false 3 ((l.take (i + 1)).map Com.row))],3⟩,by omega,?_,⟨i + 1,r2,by omega,rfl,by rw [htk];exact hrep2,.inr ⟨Nat.succ_pos _,rfl⟩⟩⟩;refine qS [(3,2)] rfl ?gts ?ghs;(case gts=>(repeat (first|exact ql|refine qZ ?_|refine ym ?_|refine jH ?_|refine yu ?_|refine jI ?_ ?_|refine yf ?_ ?_));all_goals first|rfl|(simp;omega)|exact yz ql (qd rfl));(case ghs=>refine xx (q:=0) (b:=1) (n:=3) rfl rfl rfl (qd rfl) (qd rfl) (qd rfl) ?_ ?_ ?_ qh;all_goals (first|(with_reducible rfl)|(rw [htk,List.take_of_length_le (Nat.le_of_eq hml),List.map_append];rfl)|exact zn _)))
 ·obtain rfl:i = m:=by omega
  rw [h2] at hrep
  injection hrep with hrep
  injection hrep with e1 e2
  subst e2
  rw [← e1] at hst
  clear e1
  rcases hst with ⟨rfl,rfl⟩|⟨hp,rfl⟩
  ·obtain rfl:l = []:=List.eq_nil_of_length_eq_zero hlm
   obtain rfl:s0 = r:=by
    simp only [jL] at h2
    injection h2 with h2
    injection h2
   clear h2
   unfold j3
   refine Awp.red (qS (τ:=⟨[(7,.sl false []),(10,.v (.int .i64 ((0:Nat):Int))),(11,.v (.int .i64 ((0:Nat):Int)))],[(0,jo s0),(1,qP 0)],2⟩) [] rfl ?gts9 ?ghs9) ?_
   case gts9 =>
    refine W6 ?_
    (repeat (first|exact ql|refine qZ ?_|refine ym ?_|refine jH ?_|refine yu ?_|refine jI ?_ ?_|refine yf ?_ ?_))
    all_goals rfl
   case ghs9=>refine yH (q:=0) (b:=1) rfl rfl (qd rfl) (qd rfl) ?_ qh;all_goals (first|(with_reducible rfl)|rfl)
   repeat' (first|refine qk ?_|fail|((first|(apply qb;rfl;rfl;exact nle rfl)|(apply qa;rfl;rfl;exact nle rfl)|refine xsC ?_ ?_);all_goals (intro hc;have hp:=hc;try simp at hp;try (exfalso;omega)))|refine jm ?_ ?_)
   all_goals try (exfalso;omega)
   all_goals ((apply qD (rs:=[.tmp 6]) [] 2;(case hr=>(repeat (first|exact qw|(apply qx;rfl)|(apply qu;rfl;rfl;rfl;rfl;rfl))));(case hL=>rfl);(case hh=>refine yH (q:=0) (b:=1) rfl rfl (qd rfl) (qd rfl) ?_ qh;all_goals (first|(with_reducible rfl)|rfl));(case hi=>exact rfl);(case hz=>first|rfl|(simp [jQ,AV.ren,AV.ren.renL,js,qn,jh];done))))
  ·clear h2
   unfold j3
   refine Awp.red (km 2 rfl (zn l)) ?_
   refine Awp.red (X4 7 2 rfl rfl (by rw [List.length_map];omega)) ?_
   repeat' (first|refine qk ?_|fail|((first|(apply qb;rfl;rfl;exact nle rfl)|(apply qa;rfl;rfl;exact nle rfl)|refine xsC ?_ ?_);all_goals (intro hc;have hp:=hc;try simp at hp;try (exfalso;omega)))|refine jm ?_ ?_)
   all_goals try (exfalso;omega)
   all_goals ((apply qD (rs:=[.tmp 6]) [] 2;(case hr=>(repeat (first|exact qw|(apply qx;rfl)|(apply qu;rfl;rfl;rfl;rfl;rfl))));(case hL=>rfl);(case hh=>refine yH (q:=0) (b:=1) rfl rfl (qd rfl) (qd rfl) ?_ qh;all_goals (first|(with_reducible rfl)|rfl));(case hi=>exact rfl);(case hz=>first|rfl|(simp [jQ,AV.ren,AV.ren.renL,js,qn,jh];done))))
set_option maxHeartbeats 4000000 in
theorem Y5 (s:qj) (hs:s.length ≤ 1000000000) (h:vz s = none):yq C2.P 47 [.op 0 0 0,.v (.int .i64 10),.clo (.func 48) [] [.op 1 0 0]] [jo s,qP 0] xX Xl:=by
 rcases k9 h with h1|⟨m,k,s0,l,r,h1,hm,hkm,h2,h3⟩
 ·have c1:=vG _ s hs h1
  refine qq (C:=C2) Tryd.func47 rfl _ Tryd.ntmps47 (Nat.le_of_ble_eq_true rfl) 2 rfl rfl ?_
  repeat' (first|refine qk ?_|(first|((refine jq (first:=[]) (cap:=[]) 0 [] (qG Tryd.func61 rfl rfl) (c1) rfl (⟨rfl,jD⟩) ?_);(repeat (first|exact qy 10 rfl|exact ⟨10,rfl⟩|refine qz (d:=10) rfl (nle rfl) ?_|(apply qC;exact nle rfl;refine ⟨?_,?_⟩;(first|exact fun h=>absurd h Bool.false_ne_true|(intro _;kernel_rfl)))));done))|((first|(apply qb;rfl;rfl;exact nle rfl)|(apply qa;rfl;rfl;exact nle rfl)|refine xsC ?_ ?_);all_goals (intro hc;have hp:=hc;try simp at hp;try (exfalso;omega)))|refine jm ?_ ?_)
 ·have c1:=kN _ s s0 m hs h1
  have hl0:=x0 h1
  have hpl : ∀ s x r,ke s = some (x,r) → r.length ≤ s.length:=fun _ _ _ h=>kz h
  have hlm:=(jR hpl h2).1
  clear h h1
  refine qq (C:=C2) Tryd.func47 rfl _ Tryd.ntmps47 (Nat.le_of_ble_eq_true rfl) 2 rfl rfl ?_
  repeat' (first|refine qk ?_|(first|(apply qc Tryd.func61 rfl rfl;intro hIsFn;refine qH 0 hIsFn (c1) ?_))|((first|(apply qb;rfl;rfl;exact nle rfl)|(apply qa;rfl;rfl;exact nle rfl)|refine xsC ?_ ?_);all_goals (intro hc;have hp:=hc;try simp at hp;try (exfalso;omega)))|refine jm ?_ ?_)
  (refine Awp.red (qS (τ:=⟨[(7,.sl true []),(10,.v (.int .i64 (m:Int))),(11,.v (.int .i64 ((0:Nat):Int))),(2,.clo (.func 48) [] [.op 1 0 0])],[(0,jo s0),(1,qP 0)],2⟩) [] rfl ?gts2 ?ghs2) ?_;(case gts2=>(repeat (first|exact ql|refine qZ ?_|refine ym ?_|refine jH ?_|refine yu ?_|refine jI ?_ ?_|refine yf ?_ ?_));all_goals first|rfl|exact yz ql (qd rfl));(case ghs2=>refine yH (q:=0) (b:=1) rfl rfl (qd rfl) (qd rfl) ?_ qh;all_goals (first|(with_reducible rfl)|rfl)))
  refine jW (fun n σ => ∃ (i:Nat) (r' : qj),i ≤ k ∧ n = k - i ∧ jL ke s0 i = some (l.take i,r') ∧ ((i = 0 ∧ σ = ⟨[(7,.sl true []),(10,.v (.int .i64 (m:Int))),(11,.v (.int .i64 ((0:Nat):Int))),(2,.clo (.func 48) [] [.op 1 0 0])],[(0,jo s0),(1,qP 0)],2⟩) ∨ (0 < i ∧ σ = ⟨[(7,.os 2 0 i),(10,.v (.int .i64 (m:Int))),(11,.v (.int .i64 (i:Int))),(2,.clo (.func 48) [] [.op 1 0 0])],[(0,jo r'),(1,qP 0),(2,.own false 3 ((l.take i).map Com.row))],3⟩))) k ⟨0,s0,Nat.zero_le _,rfl,rfl,.inl ⟨rfl,rfl⟩⟩ ?_
  rintro n σ ⟨i,r',hi,rfl,hrep,hst⟩
  by_cases hlt:i < k
  ·obtain ⟨x,r2,hx,hrep2,htk⟩:=xT h2 hlt hrep
   have hr1:=(jR hpl hrep).2
   have c2:=WP r' r2 x (by omega) hx
   have hrr:r2.length ≤ r'.length:=kz hx
   rcases hst with ⟨rfl,rfl⟩|⟨hp,rfl⟩
   ·obtain rfl:s0 = r':=by
     simp only [jL] at hrep
     injection hrep with hrep
     injection hrep
    clear h2 hrep hx hpl
    repeat' (first|refine qk ?_|(first|(refine ye ?_)|(refine zy (first:=[]) (cap:=[.op 1 0 0]) 0 1 Tryd.func48 (c2) ?_)|(refine wd ?_))|((first|(apply qb;rfl;rfl;exact nle rfl)|(apply qa;rfl;rfl;exact nle rfl)|refine xsC ?_ ?_);all_goals (intro hc;have hp:=hc;try simp at hp;try (exfalso;omega)))|refine jm ?_ ?_)
    all_goals try (exfalso;omega)
    all_goals (refine ⟨k - (0 + 1),⟨[(7,.os 2 0 (0 + 1)),(10,.v (.int .i64 (m:Int))),(11,.v (.int .i64 ((0 + 1:Nat):Int))),(2,.clo (.func 48) [] [.op 1 0 0])],[(0,jo r2),(1,qP 0),(2,.own false 3 ((l.take (0 + 1)).map Com.row))],3⟩,by omega,?_,⟨0 + 1,r2,by omega,rfl,by rw [htk];exact hrep2,.inr ⟨Nat.succ_pos _,rfl⟩⟩⟩;refine qS [(2,2)] rfl ?gts ?ghs;(case gts=>(repeat (first|exact ql|refine qZ ?_|refine ym ?_|refine jH ?_|refine yu ?_|refine jI ?_ ?_|refine yf ?_ ?_));all_goals first|rfl|(simp;omega)|exact yz ql (qd rfl));(case ghs=>refine xx (q:=0) (b:=1) (n:=2) rfl rfl rfl (qd rfl) (qd rfl) (qd rfl) ?_ ?_ ?_ qh;all_goals (first|(with_reducible rfl)|(rw [htk];simp;done)|exact zn _)))
   ·have hlen:(l.take i).length = i:=by rw [List.length_take];omega
    have hml:((l.take i).map Com.row).length = i:=by rw [List.length_map];exact hlen
    clear h2 hrep hx hpl
    repeat' (first|refine qk ?_|(first|(refine ye ?_)|(refine zy (first:=[]) (cap:=[.op 1 0 0]) 0 1 Tryd.func48 (c2) ?_)|(refine we ?_))|((first|(apply qb;rfl;rfl;exact nle rfl)|(apply qa;rfl;rfl;exact nle rfl)|refine xsC ?_ ?_);all_goals (intro hc;have hp:=hc;try simp at hp;try (exfalso;omega)))|refine jm ?_ ?_)
    all_goals try (exfalso;omega)
    all_goals (refine ⟨k - (i + 1),⟨[(7,.os 2 0 (i + 1)),(10,.v (.int .i64 (m:Int))),(11,.v (.int .i64 ((i + 1:Nat):Int))),(2,.clo (.func 48) [] [.op 1 0 0])],[(0,jo r2),(1,qP 0),(2,.own false 3 ((l.take (i + 1)).map Com.row))],3⟩,by omega,?_,⟨i + 1,r2,by omega,rfl,by rw [htk];exact hrep2,.inr ⟨Nat.succ_pos _,rfl⟩⟩⟩;refine qS [(3,2)] rfl ?gts ?ghs;(case gts=>(repeat (first|exact ql|refine qZ ?_|refine ym ?_|refine jH ?_|refine yu ?_|refine jI ?_ ?_|refine yf ?_ ?_));all_goals first|rfl|(simp;omega)|exact yz ql (qd rfl));(case ghs=>refine xx (q:=0) (b:=1) (n:=3) rfl rfl rfl (qd rfl) (qd rfl) (qd rfl) ?_ ?_ ?_ qh;all_goals (first|(with_reducible rfl)|(rw [htk,List.take_of_length_le (Nat.le_of_eq hml),List.map_append];rfl)|exact zn _)))
  ·obtain rfl:i = k:=by omega
   rw [h2] at hrep
   injection hrep with hrep
   injection hrep with e1 e2
   subst e2
   have hr1:=(jR hpl h2).2
   have c2:=Zl r (by omega) h3
   clear e1 hpl
   rcases hst with ⟨rfl,rfl⟩|⟨hp,rfl⟩
   ·obtain rfl:s0 = r:=by
     simp only [jL] at h2
     injection h2 with h2
     injection h2
    clear h2
    repeat' (first|refine qk ?_|(first|((refine zL (first:=[]) (cap:=[.op 1 0 0]) 0 1 [] (qG Tryd.func48 rfl rfl) (c2) rfl (⟨rfl,jD⟩) ?_);(repeat (first|exact qy 15 rfl|exact ⟨15,rfl⟩|(apply jz;apply qt;apply qQ;rfl;rfl;rfl;(first|rfl|assumption|(apply qe;assumption)|(apply qe;apply qe;assumption));(conv=>lhs;whnf);exact nle rfl)|refine qz (d:=15) rfl (nle rfl) ?_|(apply qC;exact nle rfl;refine ⟨?_,?_⟩;(first|exact fun h=>absurd h Bool.false_ne_true|(intro _;kernel_rfl)))));done))|((first|(apply qb;rfl;rfl;exact nle rfl)|(apply qa;rfl;rfl;exact nle rfl)|refine xsC ?_ ?_);all_goals (intro hc;have hp:=hc;try simp at hp;try (exfalso;omega)))|refine jm ?_ ?_)
    all_goals (exfalso;omega)
   ·clear h2
    repeat' (first|refine qk ?_|(first|((refine zL (first:=[]) (cap:=[.op 1 0 0]) 0 1 [] (qG Tryd.func48 rfl rfl) (c2) rfl (⟨rfl,jD⟩) ?_);(repeat (first|exact qy 15 rfl|exact ⟨15,rfl⟩|(apply jz;apply qt;apply qQ;rfl;rfl;rfl;(first|rfl|assumption|(apply qe;assumption)|(apply qe;apply qe;assumption));(conv=>lhs;whnf);exact nle rfl)|refine qz (d:=15) rfl (nle rfl) ?_|(apply qC;exact nle rfl;refine ⟨?_,?_⟩;(first|exact fun h=>absurd h Bool.false_ne_true|(intro _;kernel_rfl)))));done))|((first|(apply qb;rfl;rfl;exact nle rfl)|(apply qa;rfl;rfl;exact nle rfl)|refine xsC ?_ ?_);all_goals (intro hc;have hp:=hc;try simp at hp;try (exfalso;omega)))|refine jm ?_ ?_)
    all_goals (exfalso;omega)
end Go.Proofs.YtahbbnfmbohmmaaDoor
