import Derived.Test.YtahbbnfmbohmmaaDoorMz26
import Derived.Test.YtahbbnfmbohmmaaDoorMz22
set_option linter.unusedSimpArgs false
set_option linter.unnecessarySimpa false
set_option linter.unusedVariables false
set_option maxHeartbeats 1000000
namespace Go.Proofs.YtahbbnfmbohmmaaDoor
open Go.Ab Go.RowKit
set_option maxRecDepth 10000
section steps
variable {C' : Cx} {N:Nat} {all:Array Oper} {es:List Eff} {o:Oper} {os:List Oper} {K:List Eff → St → Prop} {ts:List (Nat × AV)} {hs:List (Nat × HB)} {nx:Nat} {gd:List Nat}
theorem Ys {q b:Nat} {s:qo} (hq:qq hs q = jx s) (hb:qq hs b = qY q):vG (jE 0 [q,b]) (qq hs) [q,b] [jx s,qY 0] :=
 jA (jx s) (jA (qY q) yt (qX (ql (jf (.inr (List.mem_cons_self ..))) qT)) hb rfl) (qX (qE rfl)) hq rfl
theorem VH {q b:Nat} {r:qo}:zu (xw (jE 0 [q,b])) [(q,jx r),(b,qY q)] [jx r,qY 0] :=
 qV (qX (qE rfl)) (qV (qX (ql (jf (.inr (List.mem_cons_self ..))) qT)) ye)
theorem Q3 {f:FuncId} {args:List Operand} {tys:Array TypeId} {d:Nat} {ty:TypeId} {pos:String} {af:Array Edge} {gg:Option (Nat × Bool)} {ys:List AV} {v:AV} {s r:qo} (q b:Nat) (hf:IsFn C'.P f)
  (hc:qt C'.P f ys [jx s,qY 0] v [jx r,qY 0])
  (k:jU C' N all (⟨gd ++ (jp (.func f) ++ args.flatMap jp),[q,b],some d,v,[(q,jx r),(b,qY q)],[]⟩ :: es) ⟨(d,v) :: ts,(q,jx r) :: (b,qY q) :: hs,nx⟩ os K)
  (hq:qq hs q = jx s:=by rfl) (hb:qq hs b = qY q:=by rfl) (hne:decide (q ≠ b) = true:=by rfl)
  (hz:qG (jE 0 [q,b]) [q,b] (qq hs) (args.map (evA (qr ts))) ys:=by ((repeat' (first|exact jr|apply jj|exact jq rfl|exact jY|(apply qv;apply jf;exact .inr (of_decide_eq_true rfl))|(apply qv;apply yc;exact .inr (of_decide_eq_true rfl))|(apply qv;apply jn;exact .inr (of_decide_eq_true rfl))|apply jF|apply jG))<;>fail)) (hr:v.ren (xw (jE 0 [q,b])) = v:=by rfl) (hN:d < N:=by exact nle rfl):vw C' N all gd es ⟨ts,hs,nx⟩ f args d tys ty pos af gg os K :=
 xf [q,b] [] [(q,jx r),(b,qY q)] nx v hf hc hz (Ys hq hb) VH k hr rfl rfl (Nat.le_of_ble_eq_true rfl) (by have:=of_decide_eq_true hne;simp [this]) rfl (fun n hn=>by cases hn) (Nat.le_refl _) hN
theorem zH {f:FuncId} {fn:Func} {x:Operand} {first cap:List AV} {args:List Operand} {tys:Array TypeId} {d:Nat} {ty:TypeId} {pos:String} {af:Array Edge} {gg:Option (Nat × Bool)} {ys:List AV} {v:AV} {s r:qo} (q b:Nat) (hf:C'.P.funcs[f]? = some fn)
  (hc:qt C'.P f ys [jx s,qY 0] v [jx r,qY 0])
  (k:jU C' N all (⟨gd ++ (jp x ++ args.flatMap jp),[q,b],some d,v,[(q,jx r),(b,qY q)],[]⟩ :: es) ⟨(d,v) :: ts,(q,jx r) :: (b,qY q) :: hs,nx⟩ os K)
  (hx:evA (qr ts) x = .clo (.func f) first cap:=by rfl) (hb0:fn.body.isNone = false:=by rfl) (hn0:(fn.name == "runtime.NumGoroutine") = false:=by rfl)
  (hq:qq hs q = jx s:=by rfl) (hb:qq hs b = qY q:=by rfl) (hne:decide (q ≠ b) = true:=by rfl)
  (hz:qG (jE 0 [q,b]) [q,b] (qq hs) (first ++ args.map (evA (qr ts)) ++ cap) ys:=by ((repeat' (first|exact jr|apply jj|exact jq rfl|exact jY|(apply qv;apply jf;exact .inr (of_decide_eq_true rfl))|(apply qv;apply yc;exact .inr (of_decide_eq_true rfl))|(apply qv;apply jn;exact .inr (of_decide_eq_true rfl))|apply jF|apply jG))<;>fail)) (hr:v.ren (xw (jE 0 [q,b])) = v:=by rfl) (hN:d < N:=by exact nle rfl):jl C' N all gd es ⟨ts,hs,nx⟩ ⟨some d,.call ⟨.value x,args.toArray,tys⟩,ty,pos,af,gg⟩ os K :=
 zG [q,b] [] [(q,jx r),(b,qY q)] nx v hf hc hz (Ys hq hb) VH k hx hb0 hn0 hr rfl rfl (Nat.le_of_ble_eq_true rfl) (by have:=of_decide_eq_true hne;simp [this]) rfl (fun n hn=>by cases hn) (Nat.le_refl _) hN
theorem zW {f:FuncId} {x:Operand} {first cap:List AV} {args:List Operand} {tys:Array TypeId} {d:Nat} {ty:TypeId} {pos:String} {af:Array Edge} {gg:Option (Nat × Bool)} {ys:List AV} {s:qo} (q b:Nat) (keep:List Nat) (hf:IsFn C'.P f)
  (hc:yJ C'.P f ys [jx s,qY 0] vf XI) (hx:evA (qr ts) x = .clo (.func f) first cap)
  (hdie:C'.die vf [] ([(q,.dead),(b,.dead)] ++ (q :: b :: keep).map fun n=>(n,qq hs n)))
  (k:jU C' N all (⟨gd ++ (jp x ++ args.flatMap jp ++ []),q :: b :: keep,some d,yn,[],[]⟩ :: es) ⟨(d,yn) :: ts,hs,nx⟩ os K)
  (hq:qq hs q = jx s:=by rfl) (hb:qq hs b = qY q:=by rfl) (hne:decide (q ≠ b) = true:=by rfl)
  (hz:qG (jE 0 [q,b]) (q :: b :: keep) (qq hs) (first ++ args.map (evA (qr ts)) ++ cap) ys:=by ((repeat' (first|exact jr|apply jj|exact jq rfl|exact jY|(apply qv;apply jf;exact .inr (of_decide_eq_true rfl))|(apply qv;apply yc;exact .inr (of_decide_eq_true rfl))|(apply qv;apply jn;exact .inr (of_decide_eq_true rfl))|apply jF|apply jG))<;>fail)) (hN:d < N:=by exact nle rfl):jl C' N all gd es ⟨ts,hs,nx⟩ ⟨some d,.call ⟨.value x,args.toArray,tys⟩,ty,pos,af,gg⟩ os K:=by
 refine Q8 (H:=[jx s,qY 0]) (HP:=XI) (ch:=vf) (xs:=first ++ args.map (evA (qr ts)) ++ cap) _ (q :: b :: keep) [q,b] [] rfl hN (xn f hf x args tys first cap hx) rfl (by have:=of_decide_eq_true hne;simp [this]) (fun n hn=>by simp at hn;rcases hn with rfl|rfl<;>simp) hz ?_ hc ?_ (by simp) k
 ·exact fun i n hb' hi hj=>vJ (Ys hq hb) i n hb' hi hj
 ·rintro H' rfl
  refine ⟨[(q,.dead),(b,.dead)],rfl,fun i n hb hz=>?_,hdie⟩
  have:hb = .dead:=by
   rcases i with _|_|i
   ·simp at hz;exact hz.2.symm
   ·simp at hz;exact hz.2.symm
   ·simp at hz
  subst this
  exact yd
end steps
theorem yV {L:List (Nat × Nat)} {nh:Nat} {σ:St} {q q' b b' : Nat} {s s' : qo} {rest:List (Nat × HB)} (hq:qq σ.hs q = jx s) (hb:qq σ.hs b = qY q) (h1:Maps L nh q q') (h2:Maps L nh b b') (hs:s = s') (hl:jZ L nh σ rest):jZ L nh σ ((q',jx s') :: (b',qY q') :: rest):=yK hq h1 hs (vz hb h1 h2 hl)
theorem xG {L:List (Nat × Nat)} {nh:Nat} {σ:St} {q q' b b' n n' k:Nat} {ex:Bool} {s s' : qo} {rows rows' : List (List AV)} {rest:List (Nat × HB)} (hq:qq σ.hs q = jx s) (hb:qq σ.hs b = qY q) (hn:qq σ.hs n = .own ex k rows) (h1:Maps L nh q q') (hB:Maps L nh b b') (h2:Maps L nh n n') (hs:s = s') (hr:rows = rows') (hp : ∀ row,row ∈ rows' → AV.pure.pureL row = true) (hl:jZ L nh σ rest):jZ L nh σ ((q',jx s') :: (b',qY q') :: (n',.own false k rows') :: rest):=by
 subst hr
 exact yV hq hb h1 hB hs ⟨⟨n,h2,by rw [hn];exact ⟨(fun h=>by cases h),rfl,yY hp⟩⟩,hl⟩
theorem KF {s r:qo} {x:_} (h:zq s = some (x,r)) : ∃ s1 s2 s3,ja s = some (x.path,s1) ∧ xl s1 = some (x.fold,s2) ∧ ja s2 = some (x.text,s3) ∧ qR s3 = some (x.ver,r):=by
 unfold zq at h
 repeat' (split at h)
 all_goals first
  | (cases h;done)
  | skip
 rename_i h1 _ _ _ h2 _ _ _ h3 _ _ _ h4
 injection h with h
 injection h with e1 e2
 subst e1 e2
 exact ⟨_,_,_,h1,h2,h3,h4⟩
theorem ZC {s:qo} (h:zq s = none):ja s = none ∨ ∃ a s1,ja s = some (a,s1) ∧ (xl s1 = none ∨ ∃ b s2,xl s1 = some (b,s2) ∧ (ja s2 = none ∨ ∃ c s3,ja s2 = some (c,s3) ∧ (qR s3 = none))):=by
 unfold zq at h
 cases h1:ja s with
 | none=>exact .inl rfl
 | some z =>
   obtain ⟨v1,s1⟩:=z
   rw [h1] at h
   simp only at h
   refine .inr ⟨v1,s1,rfl,?_⟩
   cases h2:xl s1 with
   | none=>exact .inl rfl
   | some z =>
     obtain ⟨v2,s2⟩:=z
     rw [h2] at h
     simp only at h
     refine .inr ⟨v2,s2,rfl,?_⟩
     cases h3:ja s2 with
     | none=>exact .inl rfl
     | some z =>
       obtain ⟨v3,s3⟩:=z
       rw [h3] at h
       simp only at h
       refine .inr ⟨v3,s3,rfl,?_⟩
       cases h4:qR s3 with
       | none=>rfl
       | some z =>
         rw [h4] at h
         cases h
theorem Ky {s r:qo} {x:_} (h:zo s = some (x,r)) : ∃ s1 s2,qR s = some (x.num,s1) ∧ ja s1 = some (x.key,s2) ∧ xV s2 = some (x.chs,r):=by
 unfold zo at h
 repeat' (split at h)
 all_goals first
  | (cases h;done)
  | skip
 rename_i h1 _ _ _ h2 _ _ _ h3
 injection h with h
 injection h with e1 e2
 subst e1 e2
 exact ⟨_,_,h1,h2,h3⟩
theorem Zy {s:qo} (h:zo s = none):qR s = none ∨ ∃ a s1,qR s = some (a,s1) ∧ (ja s1 = none ∨ ∃ b s2,ja s1 = some (b,s2) ∧ (xV s2 = none)):=by
 unfold zo at h
 cases h1:qR s with
 | none=>exact .inl rfl
 | some z =>
   obtain ⟨v1,s1⟩:=z
   rw [h1] at h
   simp only at h
   refine .inr ⟨v1,s1,rfl,?_⟩
   cases h2:ja s1 with
   | none=>exact .inl rfl
   | some z =>
     obtain ⟨v2,s2⟩:=z
     rw [h2] at h
     simp only at h
     refine .inr ⟨v2,s2,rfl,?_⟩
     cases h3:xV s2 with
     | none=>rfl
     | some z =>
       rw [h3] at h
       cases h
theorem kO {s r:qo} {c:Ent} (h:zq s = some (c,r)):r.length ≤ s.length:=by
 rw [(rd_ent.of _ _ _ h).1,List.length_append];omega
theorem kM {s r:qo} {c:Com} (h:zo s = some (c,r)):r.length ≤ s.length:=by
 rw [(rd_com.of _ _ _ h).1,List.length_append];omega
attribute [local irreducible] Awp jU jl qQ Red qD Go.Ab.Fin qt Rz yZ qO qJ ResOk jt qU jN qG
set_option maxHeartbeats 2000000 in
theorem qax (s r:qo) (c:Ent) (hs:s.length ≤ 1000000000) (h:zq s = some (c,r)):qt C2.P 46 [.op 1 0 0] [jx s,qY 0] (.agg c.row) [jx r,qY 0]:=by
 obtain ⟨s1,s2,s3,h1,h2,h3,h4⟩:=KF h
 obtain ⟨v1,v2,v3,v4⟩:=c
 dsimp only at *
 have c1:=js s _ s1 (by omega) h1
 have l1:=qz h1
 have c2:=k8 s1 s2 _ (by omega) h2
 have l2:=yu h2
 have c3:=js s2 _ s3 (by omega) h3
 have l3:=qz h3
 have c4:=jD s3 r _ (by omega) h4
 have l4:=qx h4
 clear h h1 h2 h3 h4
 unfold Ent.row
 refine qf (C:=C2) Tryd.func46 rfl _ Tryd.ntmps46 (Nat.le_of_ble_eq_true rfl) _ Tryd.results46 2 rfl rfl ?_
 repeat' (first|(first|(apply qc Tryd.func31 rfl rfl;intro hIsFn;refine qN 0 hIsFn (c1) ?_)|(apply qc Tryd.func44 rfl rfl;intro hIsFn;refine qN 0 hIsFn (c2) ?_)|(apply qc Tryd.func31 rfl rfl;intro hIsFn;refine qN 0 hIsFn (c3) ?_)|(apply qc Tryd.func30 rfl rfl;intro hIsFn;refine qN 0 hIsFn (c4) ?_)|(apply qp;apply (yr (cs:=[.v (str v1),.v (.bool v2),.v (str v3),.v (.int .i64 v4)]));rfl;rfl;rfl;kernel_rfl;exact nle rfl))|refine qi ?_|((first|(apply qb;rfl;rfl;exact nle rfl)|(apply qa;rfl;rfl;exact nle rfl)|refine xsC ?_ ?_);all_goals (intro hc;have hp:=hc;try simp at hp;try (exfalso;omega)))|refine qS ?_ ?_)
 all_goals ((apply qu (rs:=[.cell 1 76]) [] 2;(case hr=>(repeat (first|exact qm|(apply qn;rfl)|(apply qj;rfl;rfl;rfl;rfl;rfl))));(case hL=>rfl);(case hh=>(refine yV (q:=0) (b:=1) rfl rfl (qd rfl) (qd rfl) ?_ qe;all_goals rfl));(case hi=>exact rfl);(case hz=>first|rfl|(simp [ju,AV.ren,AV.ren.renL,qP,qr,qL];done))))
set_option maxHeartbeats 2000000 in
theorem ZT (s:qo) (hs:s.length ≤ 1000000000) (h:zq s = none):yJ C2.P 46 [.op 1 0 0] [jx s,qY 0] vf XI:=by
 rcases ZC h with h1|⟨v1,s1,h1,h2|⟨v2,s2,h2,h3|⟨v3,s3,h3,h4⟩⟩⟩
 ·have cd:=yy s (by omega) h1
  clear h h1
  refine qw (C:=C2) Tryd.func46 rfl _ Tryd.ntmps46 (Nat.le_of_ble_eq_true rfl) 2 rfl rfl ?_
  repeat' (first|refine qi ?_|(first|((refine jz (first:=[]) (cap:=[]) 0 [] (qM Tryd.func31 rfl rfl) (cd) rfl (⟨rfl,jP⟩) ?_);(repeat (first|exact qB 3 rfl|exact ⟨3,rfl⟩|(apply jL;apply qp;apply jb;rfl;rfl;rfl;(first|rfl|assumption|(apply qg;assumption)|(apply qg;apply qg;assumption));(conv=>lhs;whnf);exact nle rfl)|refine qC (d:=3) rfl (nle rfl) ?_|(apply qH;exact nle rfl;refine ⟨?_,?_⟩;(first|exact fun h=>absurd h Bool.false_ne_true|(intro _;kernel_rfl)))));done))|((first|(apply qb;rfl;rfl;exact nle rfl)|(apply qa;rfl;rfl;exact nle rfl)|refine xsC ?_ ?_);all_goals (intro hc;have hp:=hc;try simp at hp;try (exfalso;omega)))|refine qS ?_ ?_)
 ·have c1:=js s _ s1 (by omega) h1
  have l1:=qz h1
  have cd:=wO s1 (by omega) h2
  clear h h1 h2
  refine qw (C:=C2) Tryd.func46 rfl _ Tryd.ntmps46 (Nat.le_of_ble_eq_true rfl) 2 rfl rfl ?_
  repeat' (first|refine qi ?_|(first|(apply qc Tryd.func31 rfl rfl;intro hIsFn;refine qN 0 hIsFn (c1) ?_)|((refine jz (first:=[]) (cap:=[]) 0 [] (qM Tryd.func44 rfl rfl) (cd) rfl (⟨rfl,jP⟩) ?_);(repeat (first|exact qB 5 rfl|exact ⟨5,rfl⟩|(apply jL;apply qp;apply jb;rfl;rfl;rfl;(first|rfl|assumption|(apply qg;assumption)|(apply qg;apply qg;assumption));(conv=>lhs;whnf);exact nle rfl)|refine qC (d:=5) rfl (nle rfl) ?_|(apply qH;exact nle rfl;refine ⟨?_,?_⟩;(first|exact fun h=>absurd h Bool.false_ne_true|(intro _;kernel_rfl)))));done))|((first|(apply qb;rfl;rfl;exact nle rfl)|(apply qa;rfl;rfl;exact nle rfl)|refine xsC ?_ ?_);all_goals (intro hc;have hp:=hc;try simp at hp;try (exfalso;omega)))|refine qS ?_ ?_)
 ·have c1:=js s _ s1 (by omega) h1
  have l1:=qz h1
  have c2:=k8 s1 s2 _ (by omega) h2
  have l2:=yu h2
  have cd:=yy s2 (by omega) h3
  clear h h1 h2 h3
  refine qw (C:=C2) Tryd.func46 rfl _ Tryd.ntmps46 (Nat.le_of_ble_eq_true rfl) 2 rfl rfl ?_
  repeat' (first|refine qi ?_|(first|(apply qc Tryd.func31 rfl rfl;intro hIsFn;refine qN 0 hIsFn (c1) ?_)|(apply qc Tryd.func44 rfl rfl;intro hIsFn;refine qN 0 hIsFn (c2) ?_)|((refine jz (first:=[]) (cap:=[]) 0 [] (qM Tryd.func31 rfl rfl) (cd) rfl (⟨rfl,jP⟩) ?_);(repeat (first|exact qB 7 rfl|exact ⟨7,rfl⟩|(apply jL;apply qp;apply jb;rfl;rfl;rfl;(first|rfl|assumption|(apply qg;assumption)|(apply qg;apply qg;assumption));(conv=>lhs;whnf);exact nle rfl)|refine qC (d:=7) rfl (nle rfl) ?_|(apply qH;exact nle rfl;refine ⟨?_,?_⟩;(first|exact fun h=>absurd h Bool.false_ne_true|(intro _;kernel_rfl)))));done))|((first|(apply qb;rfl;rfl;exact nle rfl)|(apply qa;rfl;rfl;exact nle rfl)|refine xsC ?_ ?_);all_goals (intro hc;have hp:=hc;try simp at hp;try (exfalso;omega)))|refine qS ?_ ?_)
 ·have c1:=js s _ s1 (by omega) h1
  have l1:=qz h1
  have c2:=k8 s1 s2 _ (by omega) h2
  have l2:=yu h2
  have c3:=js s2 _ s3 (by omega) h3
  have l3:=qz h3
  have cd:=yp s3 (by omega) h4
  clear h h1 h2 h3 h4
  refine qw (C:=C2) Tryd.func46 rfl _ Tryd.ntmps46 (Nat.le_of_ble_eq_true rfl) 2 rfl rfl ?_
  repeat' (first|refine qi ?_|(first|(apply qc Tryd.func31 rfl rfl;intro hIsFn;refine qN 0 hIsFn (c1) ?_)|(apply qc Tryd.func44 rfl rfl;intro hIsFn;refine qN 0 hIsFn (c2) ?_)|(apply qc Tryd.func31 rfl rfl;intro hIsFn;refine qN 0 hIsFn (c3) ?_)|((refine jz (first:=[]) (cap:=[]) 0 [] (qM Tryd.func30 rfl rfl) (cd) rfl (⟨rfl,jP⟩) ?_);(repeat (first|exact qB 9 rfl|exact ⟨9,rfl⟩|(apply jL;apply qp;apply jb;rfl;rfl;rfl;(first|rfl|assumption|(apply qg;assumption)|(apply qg;apply qg;assumption));(conv=>lhs;whnf);exact nle rfl)|refine qC (d:=9) rfl (nle rfl) ?_|(apply qH;exact nle rfl;refine ⟨?_,?_⟩;(first|exact fun h=>absurd h Bool.false_ne_true|(intro _;kernel_rfl)))));done))|((first|(apply qb;rfl;rfl;exact nle rfl)|(apply qa;rfl;rfl;exact nle rfl)|refine xsC ?_ ?_);all_goals (intro hc;have hp:=hc;try simp at hp;try (exfalso;omega)))|refine qS ?_ ?_)
set_option maxHeartbeats 2000000 in
theorem qaw (s r:qo) (c:Com) (hs:s.length ≤ 1000000000) (h:zo s = some (c,r)):qt C2.P 48 [.op 1 0 0] [jx s,qY 0] (.agg c.row) [jx r,qY 0]:=by
 obtain ⟨s1,s2,h1,h2,h3⟩:=Ky h
 obtain ⟨v1,v2,v3⟩:=c
 dsimp only at *
 have c1:=jD s s1 _ (by omega) h1
 have l1:=qx h1
 have c2:=js s1 _ s2 (by omega) h2
 have l2:=qz h2
 have c3:=JR s2 r _ (by omega) h3
 have l3:=JE h3
 clear h h1 h2 h3
 unfold Com.row
 refine qf (C:=C2) Tryd.func48 rfl _ Tryd.ntmps48 (Nat.le_of_ble_eq_true rfl) _ Tryd.results48 2 rfl rfl ?_
 repeat' (first|(first|(apply qc Tryd.func30 rfl rfl;intro hIsFn;refine qN 0 hIsFn (c1) ?_)|(apply qc Tryd.func31 rfl rfl;intro hIsFn;refine qN 0 hIsFn (c2) ?_)|(apply qc Tryd.func32 rfl rfl;intro hIsFn;refine qN 0 hIsFn (c3) ?_)|(apply qp;apply (yr (cs:=[.v (.int .i64 v1),.v (str v2),j5 v3]));rfl;rfl;rfl;kernel_rfl;exact nle rfl))|refine qi ?_|((first|(apply qb;rfl;rfl;exact nle rfl)|(apply qa;rfl;rfl;exact nle rfl)|refine xsC ?_ ?_);all_goals (intro hc;have hp:=hc;try simp at hp;try (exfalso;omega)))|refine qS ?_ ?_)
 all_goals ((apply qu (rs:=[.cell 1 80]) [] 2;(case hr=>(repeat (first|exact qm|(apply qn;rfl)|(apply qj;rfl;rfl;rfl;rfl;rfl))));(case hL=>rfl);(case hh=>(refine yV (q:=0) (b:=1) rfl rfl (qd rfl) (qd rfl) ?_ qe;all_goals rfl));(case hi=>exact rfl);(case hz=>first|rfl|(simp [ju,AV.ren,AV.ren.renL,qP,qr,qL];done))))
set_option maxHeartbeats 2000000 in
theorem ZS (s:qo) (hs:s.length ≤ 1000000000) (h:zo s = none):yJ C2.P 48 [.op 1 0 0] [jx s,qY 0] vf XI:=by
 rcases Zy h with h1|⟨v1,s1,h1,h2|⟨v2,s2,h2,h3⟩⟩
 ·have cd:=yp s (by omega) h1
  clear h h1
  refine qw (C:=C2) Tryd.func48 rfl _ Tryd.ntmps48 (Nat.le_of_ble_eq_true rfl) 2 rfl rfl ?_
  repeat' (first|refine qi ?_|(first|((refine jz (first:=[]) (cap:=[]) 0 [] (qM Tryd.func30 rfl rfl) (cd) rfl (⟨rfl,jP⟩) ?_);(repeat (first|exact qB 3 rfl|exact ⟨3,rfl⟩|(apply jL;apply qp;apply jb;rfl;rfl;rfl;(first|rfl|assumption|(apply qg;assumption)|(apply qg;apply qg;assumption));(conv=>lhs;whnf);exact nle rfl)|refine qC (d:=3) rfl (nle rfl) ?_|(apply qH;exact nle rfl;refine ⟨?_,?_⟩;(first|exact fun h=>absurd h Bool.false_ne_true|(intro _;kernel_rfl)))));done))|((first|(apply qb;rfl;rfl;exact nle rfl)|(apply qa;rfl;rfl;exact nle rfl)|refine xsC ?_ ?_);all_goals (intro hc;have hp:=hc;try simp at hp;try (exfalso;omega)))|refine qS ?_ ?_)
 ·have c1:=jD s s1 _ (by omega) h1
  have l1:=qx h1
  have cd:=yy s1 (by omega) h2
  clear h h1 h2
  refine qw (C:=C2) Tryd.func48 rfl _ Tryd.ntmps48 (Nat.le_of_ble_eq_true rfl) 2 rfl rfl ?_
  repeat' (first|refine qi ?_|(first|(apply qc Tryd.func30 rfl rfl;intro hIsFn;refine qN 0 hIsFn (c1) ?_)|((refine jz (first:=[]) (cap:=[]) 0 [] (qM Tryd.func31 rfl rfl) (cd) rfl (⟨rfl,jP⟩) ?_);(repeat (first|exact qB 5 rfl|exact ⟨5,rfl⟩|(apply jL;apply qp;apply jb;rfl;rfl;rfl;(first|rfl|assumption|(apply qg;assumption)|(apply qg;apply qg;assumption));(conv=>lhs;whnf);exact nle rfl)|refine qC (d:=5) rfl (nle rfl) ?_|(apply qH;exact nle rfl;refine ⟨?_,?_⟩;(first|exact fun h=>absurd h Bool.false_ne_true|(intro _;kernel_rfl)))));done))|((first|(apply qb;rfl;rfl;exact nle rfl)|(apply qa;rfl;rfl;exact nle rfl)|refine xsC ?_ ?_);all_goals (intro hc;have hp:=hc;try simp at hp;try (exfalso;omega)))|refine qS ?_ ?_)
 ·have c1:=jD s s1 _ (by omega) h1
  have l1:=qx h1
  have c2:=js s1 _ s2 (by omega) h2
  have l2:=qz h2
  have cd:=kl s2 (by omega) h3
  clear h h1 h2 h3
  refine qw (C:=C2) Tryd.func48 rfl _ Tryd.ntmps48 (Nat.le_of_ble_eq_true rfl) 2 rfl rfl ?_
  repeat' (first|refine qi ?_|(first|(apply qc Tryd.func30 rfl rfl;intro hIsFn;refine qN 0 hIsFn (c1) ?_)|(apply qc Tryd.func31 rfl rfl;intro hIsFn;refine qN 0 hIsFn (c2) ?_)|((refine jz (first:=[]) (cap:=[]) 0 [] (qM Tryd.func32 rfl rfl) (cd) rfl (⟨rfl,jP⟩) ?_);(repeat (first|exact qB 7 rfl|exact ⟨7,rfl⟩|(apply jL;apply qp;apply jb;rfl;rfl;rfl;(first|rfl|assumption|(apply qg;assumption)|(apply qg;apply qg;assumption));(conv=>lhs;whnf);exact nle rfl)|refine qC (d:=7) rfl (nle rfl) ?_|(apply qH;exact nle rfl;refine ⟨?_,?_⟩;(first|exact fun h=>absurd h Bool.false_ne_true|(intro _;kernel_rfl)))));done))|((first|(apply qb;rfl;rfl;exact nle rfl)|(apply qa;rfl;rfl;exact nle rfl)|refine xsC ?_ ?_);all_goals (intro hc;have hp:=hc;try simp at hp;try (exfalso;omega)))|refine qS ?_ ?_)
end Go.Proofs.YtahbbnfmbohmmaaDoor
set_option linter.unusedSimpArgs false
set_option linter.unnecessarySimpa false
set_option linter.unusedVariables false
set_option maxHeartbeats 1000000
namespace Go.Proofs.YtahbbnfmbohmmaaDoor
open Go.Ab Go.RowKit
set_option maxRecDepth 10000
attribute [local irreducible] Awp jU jl qQ Red qD Go.Ab.Fin qt Rz yZ qO qJ ResOk jt qU jN qG
theorem vj (l:List Ent) : ∀ row,row ∈ l.map Ent.row → AV.pure.pureL row = true:=fun row h=>by
 obtain ⟨c,_,rfl⟩:=List.mem_map.1 h
 rfl
theorem Ya (c:Com):AV.pure.pureL c.row = true:=by first|rfl|(unfold Com.row j5;simp [AV.pure.pureL,AV.pure,vg];done)|(unfold Com.row j5;simp [AV.pure.pureL,AV.pure];exact vg c.chs)
theorem vi (l:List Com) : ∀ row,row ∈ l.map Com.row → AV.pure.pureL row = true:=fun row h=>by
 obtain ⟨c,_,rfl⟩:=List.mem_map.1 h
 exact Ya c
set_option maxHeartbeats 4000000 in
theorem Qp (s r:qo) (l:List Ent) (hs:s.length ≤ 1000000000) (h:kF s = some (l,r)):qt C2.P 45 [.op 0 0 0,.v (.int .i64 60),.clo (.func 46) [] [.op 1 0 0]] [jx s,qY 0] (yf l) [jx r,qY 0]:=by
 obtain ⟨m,s0,h1,hm,h2⟩:=QW h
 have c1:=k7 _ s s0 m hs h1
 have hl0:=vh h1
 have hpl : ∀ s x r,zq s = some (x,r) → r.length ≤ s.length:=fun _ _ _ h=>kO h
 have hlm:=(yg hpl h2).1
 clear h h1
 refine qf (C:=C2) Tryd.func45 rfl _ Tryd.ntmps45 (Nat.le_of_ble_eq_true rfl) _ Tryd.results45 2 rfl rfl ?_
 repeat' (first|refine qi ?_|(first|(apply qc Tryd.func61 rfl rfl;intro hIsFn;refine qN 0 hIsFn (c1) ?_))|((first|(apply qb;rfl;rfl;exact nle rfl)|(apply qa;rfl;rfl;exact nle rfl)|refine xsC ?_ ?_);all_goals (intro hc;have hp:=hc;try simp at hp;try (exfalso;omega)))|refine qS ?_ ?_)
 (refine Awp.red (qy (τ:=⟨[(7,.sl true []),(10,.v (.int .i64 (m:Int))),(11,.v (.int .i64 ((0:Nat):Int))),(2,.clo (.func 46) [] [.op 1 0 0])],[(0,jx s0),(1,qY 0)],2⟩) [] rfl ?gts2 ?ghs2) ?_;(case gts2=>(repeat (first|exact qh|refine qA ?_|refine jI ?_|refine jd ?_|refine jK ?_|refine je ?_ ?_|refine jy ?_ ?_));all_goals first|rfl|exact yO qh (qd rfl));(case ghs2=>refine yV (q:=0) (b:=1) rfl rfl (qd rfl) (qd rfl) ?_ qe;all_goals (first|(with_reducible rfl)|rfl)))
 refine jC (fun n σ => ∃ (i:Nat) (r' : qo),i ≤ m ∧ n = m - i ∧ jT zq s0 i = some (l.take i,r') ∧ ((i = 0 ∧ σ = ⟨[(7,.sl true []),(10,.v (.int .i64 (m:Int))),(11,.v (.int .i64 ((0:Nat):Int))),(2,.clo (.func 46) [] [.op 1 0 0])],[(0,jx s0),(1,qY 0)],2⟩) ∨ (0 < i ∧ σ = ⟨[(7,.os 2 0 i),(10,.v (.int .i64 (m:Int))),(11,.v (.int .i64 (i:Int))),(2,.clo (.func 46) [] [.op 1 0 0])],[(0,jx r'),(1,qY 0),(2,.own false 4 ((l.take i).map Ent.row))],3⟩))) m ⟨0,s0,Nat.zero_le _,rfl,rfl,.inl ⟨rfl,rfl⟩⟩ ?_
 rintro n σ ⟨i,r',hi,rfl,hrep,hst⟩
 by_cases hlt:i < m
 ·obtain ⟨x,r2,hx,hrep2,htk⟩:=vb h2 hlt hrep
  have hr1:=(yg hpl hrep).2
  have c2:=qax r' r2 x (by omega) hx
  have hrr:r2.length ≤ r'.length:=kO hx
  rcases hst with ⟨rfl,rfl⟩|⟨hp,rfl⟩
  ·obtain rfl:s0 = r':=by
    simp only [jT] at hrep
    injection hrep with hrep
    injection hrep
   clear h2 hrep hx hpl
   repeat' (first|refine qi ?_|(first|(refine ya ?_)|(refine zH (first:=[]) (cap:=[.op 1 0 0]) 0 1 Tryd.func46 (c2) ?_)|(refine kB ?_))|((first|(apply qb;rfl;rfl;exact nle rfl)|(apply qa;rfl;rfl;exact nle rfl)|refine xsC ?_ ?_);all_goals (intro hc;have hp:=hc;try simp at hp;try (exfalso;omega)))|refine qS ?_ ?_)
   all_goals try (exfalso;omega)
   all_goals (refine ⟨m - (0 + 1),⟨[(7,.os 2 0 (0 + 1)),(10,.v (.int .i64 (m:Int))),(11,.v (.int .i64 ((0 + 1:Nat):Int))),(2,.clo (.func 46) [] [.op 1 0 0])],[(0,jx r2),(1,qY 0),(2,.own false 4 ((l.take (0 + 1)).map Ent.row))],3⟩,by omega,?_,⟨0 + 1,r2,by omega,rfl,by rw [htk];exact hrep2,.inr ⟨Nat.succ_pos _,rfl⟩⟩⟩;refine qy [(2,2)] rfl ?gts ?ghs;(case gts=>(repeat (first|exact qh|refine qA ?_|refine jI ?_|refine jd ?_|refine jK ?_|refine je ?_ ?_|refine jy ?_ ?_));all_goals first|rfl|(simp;omega)|exact yO qh (qd rfl));(case ghs=>refine xG (q:=0) (b:=1) (n:=2) rfl rfl rfl (qd rfl) (qd rfl) (qd rfl) ?_ ?_ ?_ qe;all_goals (first|(with_reducible rfl)|(rw [htk];simp;done)|exact vj _)))
  ·have hlen:(l.take i).length = i:=by rw [List.length_take];omega
   have hml:((l.take i).map Ent.row).length = i:=by rw [List.length_map];exact hlen
   clear h2 hrep hx hpl
   repeat' (first|refine qi ?_|(first|(refine ya ?_)|(refine zH (first:=[]) (cap:=[.op 1 0 0]) 0 1 Tryd.func46 (c2) ?_)|(refine zd ?_))|((first|(apply qb;rfl;rfl;exact nle rfl)|(apply qa;rfl;rfl;exact nle rfl)|refine xsC ?_ ?_);all_goals (intro hc;have hp:=hc;try simp at hp;try (exfalso;omega)))|refine qS ?_ ?_)
   all_goals try (exfalso;omega)
   all_goals (refine ⟨m - (i + 1),⟨[(7,.os 2 0 (i + 1)),(10,.v (.int .i64 (m:Int))),(11,.v (.int .i64 ((i + 1:Nat):Int))),(2,.clo (.func 46) [] [.op 1 0 0])],[(0,jx r2),(1,qY 0),(2,.own false 4 ((l.take (i + 1)).map Ent.row))],3⟩,by omega,?_,⟨i + 1,r2,by omega,rfl,by rw [htk];exact hrep2,.inr ⟨Nat.succ_pos _,rfl⟩⟩⟩;refine qy [(3,2)] rfl ?gts ?ghs;(case gts=>(repeat (first|exact qh|refine qA ?_|refine jI ?_|refine jd ?_|refine jK ?_|refine je ?_ ?_|refine jy ?_ ?_));all_goals first|rfl|(simp;omega)|exact yO qh (qd rfl));(case ghs=>refine xG (q:=0) (b:=1) (n:=3) rfl rfl rfl (qd rfl) (qd rfl) (qd rfl) ?_ ?_ ?_ qe;all_goals (first|(with_reducible rfl)|(rw [htk,List.take_of_length_le (Nat.le_of_eq hml),List.map_append];rfl)|exact vj _)))
 ·obtain rfl:i = m:=by omega
  rw [h2] at hrep
  injection hrep with hrep
  injection hrep with e1 e2
  subst e2
  rw [← e1] at hst
  clear e1
  rcases hst with ⟨rfl,rfl⟩|⟨hp,rfl⟩
  ·obtain rfl:l = []:=List.eq_nil_of_length_eq_zero hlm
   obtain rfl:s0 = r:=by
    simp only [jT] at h2
    injection h2 with h2
    injection h2
   clear h2
   unfold yf
   refine Awp.red (qy (τ:=⟨[(7,.sl false []),(10,.v (.int .i64 ((0:Nat):Int))),(11,.v (.int .i64 ((0:Nat):Int)))],[(0,jx s0),(1,qY 0)],2⟩) [] rfl ?gts9 ?ghs9) ?_
   case gts9 =>
    refine W3 ?_
    (repeat (first|exact qh|refine qA ?_|refine jI ?_|refine jd ?_|refine jK ?_|refine je ?_ ?_|refine jy ?_ ?_))
    all_goals rfl
   case ghs9=>refine yV (q:=0) (b:=1) rfl rfl (qd rfl) (qd rfl) ?_ qe;all_goals (first|(with_reducible rfl)|rfl)
   repeat' (first|refine qi ?_|fail|((first|(apply qb;rfl;rfl;exact nle rfl)|(apply qa;rfl;rfl;exact nle rfl)|refine xsC ?_ ?_);all_goals (intro hc;have hp:=hc;try simp at hp;try (exfalso;omega)))|refine qS ?_ ?_)
   all_goals try (exfalso;omega)
   all_goals ((apply qu (rs:=[.tmp 6]) [] 2;(case hr=>(repeat (first|exact qm|(apply qn;rfl)|(apply qj;rfl;rfl;rfl;rfl;rfl))));(case hL=>rfl);(case hh=>refine yV (q:=0) (b:=1) rfl rfl (qd rfl) (qd rfl) ?_ qe;all_goals (first|(with_reducible rfl)|rfl));(case hi=>exact rfl);(case hz=>first|rfl|(simp [ju,AV.ren,AV.ren.renL,qP,qr,qL];done))))
  ·clear h2
   unfold yf
   refine Awp.red (xj 2 rfl (vj l)) ?_
   refine Awp.red (YD 7 2 rfl rfl (by rw [List.length_map];omega)) ?_
   repeat' (first|refine qi ?_|fail|((first|(apply qb;rfl;rfl;exact nle rfl)|(apply qa;rfl;rfl;exact nle rfl)|refine xsC ?_ ?_);all_goals (intro hc;have hp:=hc;try simp at hp;try (exfalso;omega)))|refine qS ?_ ?_)
   all_goals try (exfalso;omega)
   all_goals ((apply qu (rs:=[.tmp 6]) [] 2;(case hr=>(repeat (first|exact qm|(apply qn;rfl)|(apply qj;rfl;rfl;rfl;rfl;rfl))));(case hL=>rfl);(case hh=>refine yV (q:=0) (b:=1) rfl rfl (qd rfl) (qd rfl) ?_ qe;all_goals (first|(with_reducible rfl)|rfl));(case hi=>exact rfl);(case hz=>first|rfl|(simp [ju,AV.ren,AV.ren.renL,qP,qr,qL];done))))
set_option maxHeartbeats 4000000 in
theorem Xr (s:qo) (hs:s.length ≤ 1000000000) (h:kF s = none):yJ C2.P 45 [.op 0 0 0,.v (.int .i64 60),.clo (.func 46) [] [.op 1 0 0]] [jx s,qY 0] vf XI:=by
 rcases wz h with h1|⟨m,k,s0,l,r,h1,hm,hkm,h2,h3⟩
 ·have c1:=vP _ s hs h1
  refine qw (C:=C2) Tryd.func45 rfl _ Tryd.ntmps45 (Nat.le_of_ble_eq_true rfl) 2 rfl rfl ?_
  repeat' (first|refine qi ?_|(first|((refine jz (first:=[]) (cap:=[]) 0 [] (qM Tryd.func61 rfl rfl) (c1) rfl (⟨rfl,jP⟩) ?_);(repeat (first|exact qB 10 rfl|exact ⟨10,rfl⟩|refine qC (d:=10) rfl (nle rfl) ?_|(apply qH;exact nle rfl;refine ⟨?_,?_⟩;(first|exact fun h=>absurd h Bool.false_ne_true|(intro _;kernel_rfl)))));done))|((first|(apply qb;rfl;rfl;exact nle rfl)|(apply qa;rfl;rfl;exact nle rfl)|refine xsC ?_ ?_);all_goals (intro hc;have hp:=hc;try simp at hp;try (exfalso;omega)))|refine qS ?_ ?_)
 ·have c1:=k7 _ s s0 m hs h1
  have hl0:=vh h1
  have hpl : ∀ s x r,zq s = some (x,r) → r.length ≤ s.length:=fun _ _ _ h=>kO h
  have hlm:=(yg hpl h2).1
  clear h h1
  refine qw (C:=C2) Tryd.func45 rfl _ Tryd.ntmps45 (Nat.le_of_ble_eq_true rfl) 2 rfl rfl ?_
  repeat' (first|refine qi ?_|(first|(apply qc Tryd.func61 rfl rfl;intro hIsFn;refine qN 0 hIsFn (c1) ?_))|((first|(apply qb;rfl;rfl;exact nle rfl)|(apply qa;rfl;rfl;exact nle rfl)|refine xsC ?_ ?_);all_goals (intro hc;have hp:=hc;try simp at hp;try (exfalso;omega)))|refine qS ?_ ?_)
  (refine Awp.red (qy (τ:=⟨[(7,.sl true []),(10,.v (.int .i64 (m:Int))),(11,.v (.int .i64 ((0:Nat):Int))),(2,.clo (.func 46) [] [.op 1 0 0])],[(0,jx s0),(1,qY 0)],2⟩) [] rfl ?gts2 ?ghs2) ?_;(case gts2=>(repeat (first|exact qh|refine qA ?_|refine jI ?_|refine jd ?_|refine jK ?_|refine je ?_ ?_|refine jy ?_ ?_));all_goals first|rfl|exact yO qh (qd rfl));(case ghs2=>refine yV (q:=0) (b:=1) rfl rfl (qd rfl) (qd rfl) ?_ qe;all_goals (first|(with_reducible rfl)|rfl)))
  refine jC (fun n σ => ∃ (i:Nat) (r' : qo),i ≤ k ∧ n = k - i ∧ jT zq s0 i = some (l.take i,r') ∧ ((i = 0 ∧ σ = ⟨[(7,.sl true []),(10,.v (.int .i64 (m:Int))),(11,.v (.int .i64 ((0:Nat):Int))),(2,.clo (.func 46) [] [.op 1 0 0])],[(0,jx s0),(1,qY 0)],2⟩) ∨ (0 < i ∧ σ = ⟨[(7,.os 2 0 i),(10,.v (.int .i64 (m:Int))),(11,.v (.int .i64 (i:Int))),(2,.clo (.func 46) [] [.op 1 0 0])],[(0,jx r'),(1,qY 0),(2,.own false 4 ((l.take i).map Ent.row))],3⟩))) k ⟨0,s0,Nat.zero_le _,rfl,rfl,.inl ⟨rfl,rfl⟩⟩ ?_
  rintro n σ ⟨i,r',hi,rfl,hrep,hst⟩
  by_cases hlt:i < k
  ·obtain ⟨x,r2,hx,hrep2,htk⟩:=vb h2 hlt hrep
   have hr1:=(yg hpl hrep).2
   have c2:=qax r' r2 x (by omega) hx
   have hrr:r2.length ≤ r'.length:=kO hx
   rcases hst with ⟨rfl,rfl⟩|⟨hp,rfl⟩
   ·obtain rfl:s0 = r':=by
     simp only [jT] at hrep
     injection hrep with hrep
     injection hrep
    clear h2 hrep hx hpl
    repeat' (first|refine qi ?_|(first|(refine ya ?_)|(refine zH (first:=[]) (cap:=[.op 1 0 0]) 0 1 Tryd.func46 (c2) ?_)|(refine kB ?_))|((first|(apply qb;rfl;rfl;exact nle rfl)|(apply qa;rfl;rfl;exact nle rfl)|refine xsC ?_ ?_);all_goals (intro hc;have hp:=hc;try simp at hp;try (exfalso;omega)))|refine qS ?_ ?_)
    all_goals try (exfalso;omega)
    all_goals (refine ⟨k - (0 + 1),⟨[(7,.os 2 0 (0 + 1)),(10,.v (.int .i64 (m:Int))),(11,.v (.int .i64 ((0 + 1:Nat):Int))),(2,.clo (.func 46) [] [.op 1 0 0])],[(0,jx r2),(1,qY 0),(2,.own false 4 ((l.take (0 + 1)).map Ent.row))],3⟩,by omega,?_,⟨0 + 1,r2,by omega,rfl,by rw [htk];exact hrep2,.inr ⟨Nat.succ_pos _,rfl⟩⟩⟩;refine qy [(2,2)] rfl ?gts ?ghs;(case gts=>(repeat (first|exact qh|refine qA ?_|refine jI ?_|refine jd ?_|refine jK ?_|refine je ?_ ?_|refine jy ?_ ?_));all_goals first|rfl|(simp;omega)|exact yO qh (qd rfl));(case ghs=>refine xG (q:=0) (b:=1) (n:=2) rfl rfl rfl (qd rfl) (qd rfl) (qd rfl) ?_ ?_ ?_ qe;all_goals (first|(with_reducible rfl)|(rw [htk];simp;done)|exact vj _)))
   ·have hlen:(l.take i).length = i:=by rw [List.length_take];omega
    have hml:((l.take i).map Ent.row).length = i:=by rw [List.length_map];exact hlen
    clear h2 hrep hx hpl
    repeat' (first|refine qi ?_|(first|(refine ya ?_)|(refine zH (first:=[]) (cap:=[.op 1 0 0]) 0 1 Tryd.func46 (c2) ?_)|(refine zd ?_))|((first|(apply qb;rfl;rfl;exact nle rfl)|(apply qa;rfl;rfl;exact nle rfl)|refine xsC ?_ ?_);all_goals (intro hc;have hp:=hc;try simp at hp;try (exfalso;omega)))|refine qS ?_ ?_)
    all_goals try (exfalso;omega)
    all_goals (refine ⟨k - (i + 1),⟨[(7,.os 2 0 (i + 1)),(10,.v (.int .i64 (m:Int))),(11,.v (.int .i64 ((i + 1:Nat):Int))),(2,.clo (.func 46) [] [.op 1 0 0])],[(0,jx r2),(1,qY 0),(2,.own false 4 ((l.take (i + 1)).map Ent.row))],3⟩,by omega,?_,⟨i + 1,r2,by omega,rfl,by rw [htk];exact hrep2,.inr ⟨Nat.succ_pos _,rfl⟩⟩⟩;refine qy [(3,2)] rfl ?gts ?ghs;(case gts=>(repeat (first|exact qh|refine qA ?_|refine jI ?_|refine jd ?_|refine jK ?_|refine je ?_ ?_|refine jy ?_ ?_));all_goals first|rfl|(simp;omega)|exact yO qh (qd rfl));(case ghs=>refine xG (q:=0) (b:=1) (n:=3) rfl rfl rfl (qd rfl) (qd rfl) (qd rfl) ?_ ?_ ?_ qe;all_goals (first|(with_reducible rfl)|(rw [htk,List.take_of_length_le (Nat.le_of_eq hml),List.map_append];rfl)|exact vj _)))
  ·obtain rfl:i = k:=by omega
   rw [h2] at hrep
   injection hrep with hrep
   injection hrep with e1 e2
   subst e2
   have hr1:=(yg hpl h2).2
   have c2:=ZT r (by omega) h3
   clear e1 hpl
   rcases hst with ⟨rfl,rfl⟩|⟨hp,rfl⟩
   ·obtain rfl:s0 = r:=by
     simp only [jT] at h2
     injection h2 with h2
     injection h2
    clear h2
    repeat' (first|refine qi ?_|(first|((refine zW (first:=[]) (cap:=[.op 1 0 0]) 0 1 [] (qM Tryd.func46 rfl rfl) (c2) rfl (⟨rfl,jP⟩) ?_);(repeat (first|exact qB 15 rfl|exact ⟨15,rfl⟩|(apply jL;apply qp;apply jb;rfl;rfl;rfl;(first|rfl|assumption|(apply qg;assumption)|(apply qg;apply qg;assumption));(conv=>lhs;whnf);exact nle rfl)|refine qC (d:=15) rfl (nle rfl) ?_|(apply qH;exact nle rfl;refine ⟨?_,?_⟩;(first|exact fun h=>absurd h Bool.false_ne_true|(intro _;kernel_rfl)))));done))|((first|(apply qb;rfl;rfl;exact nle rfl)|(apply qa;rfl;rfl;exact nle rfl)|refine xsC ?_ ?_);all_goals (intro hc;have hp:=hc;try simp at hp;try (exfalso;omega)))|refine qS ?_ ?_)
    all_goals (exfalso;omega)
   ·clear h2
    repeat' (first|refine qi ?_|(first|((refine zW (first:=[]) (cap:=[.op 1 0 0]) 0 1 [] (qM Tryd.func46 rfl rfl) (c2) rfl (⟨rfl,jP⟩) ?_);(repeat (first|exact qB 15 rfl|exact ⟨15,rfl⟩|(apply jL;apply qp;apply jb;rfl;rfl;rfl;(first|rfl|assumption|(apply qg;assumption)|(apply qg;apply qg;assumption));(conv=>lhs;whnf);exact nle rfl)|refine qC (d:=15) rfl (nle rfl) ?_|(apply qH;exact nle rfl;refine ⟨?_,?_⟩;(first|exact fun h=>absurd h Bool.false_ne_true|(intro _;kernel_rfl)))));done))|((first|(apply qb;rfl;rfl;exact nle rfl)|(apply qa;rfl;rfl;exact nle rfl)|refine xsC ?_ ?_);all_goals (intro hc;have hp:=hc;try simp at hp;try (exfalso;omega)))|refine qS ?_ ?_)
    all_goals (exfalso;omega)
set_option maxHeartbeats 4000000 in
theorem YC (s r:qo) (l:List Com) (hs:s.length ≤ 1000000000) (h:vx s = some (l,r)):qt C2.P 47 [.op 0 0 0,.v (.int .i64 10),.clo (.func 48) [] [.op 1 0 0]] [jx s,qY 0] (yh l) [jx r,qY 0]:=by
 obtain ⟨m,s0,h1,hm,h2⟩:=QW h
 have c1:=k7 _ s s0 m hs h1
 have hl0:=vh h1
 have hpl : ∀ s x r,zo s = some (x,r) → r.length ≤ s.length:=fun _ _ _ h=>kM h
 have hlm:=(yg hpl h2).1
 clear h h1
 refine qf (C:=C2) Tryd.func47 rfl _ Tryd.ntmps47 (Nat.le_of_ble_eq_true rfl) _ Tryd.results47 2 rfl rfl ?_
 repeat' (first|refine qi ?_|(first|(apply qc Tryd.func61 rfl rfl;intro hIsFn;refine qN 0 hIsFn (c1) ?_))|((first|(apply qb;rfl;rfl;exact nle rfl)|(apply qa;rfl;rfl;exact nle rfl)|refine xsC ?_ ?_);all_goals (intro hc;have hp:=hc;try simp at hp;try (exfalso;omega)))|refine qS ?_ ?_)
 (refine Awp.red (qy (τ:=⟨[(7,.sl true []),(10,.v (.int .i64 (m:Int))),(11,.v (.int .i64 ((0:Nat):Int))),(2,.clo (.func 48) [] [.op 1 0 0])],[(0,jx s0),(1,qY 0)],2⟩) [] rfl ?gts2 ?ghs2) ?_;(case gts2=>(repeat (first|exact qh|refine qA ?_|refine jI ?_|refine jd ?_|refine jK ?_|refine je ?_ ?_|refine jy ?_ ?_));all_goals first|rfl|exact yO qh (qd rfl));(case ghs2=>refine yV (q:=0) (b:=1) rfl rfl (qd rfl) (qd rfl) ?_ qe;all_goals (first|(with_reducible rfl)|rfl)))
 refine jC (fun n σ => ∃ (i:Nat) (r' : qo),i ≤ m ∧ n = m - i ∧ jT zo s0 i = some (l.take i,r') ∧ ((i = 0 ∧ σ = ⟨[(7,.sl true []),(10,.v (.int .i64 (m:Int))),(11,.v (.int .i64 ((0:Nat):Int))),(2,.clo (.func 48) [] [.op 1 0 0])],[(0,jx s0),(1,qY 0)],2⟩) ∨ (0 < i ∧ σ = ⟨[(7,.os 2 0 i),(10,.v (.int .i64 (m:Int))),(11,.v (.int .i64 (i:Int))),(2,.clo (.func 48) [] [.op 1 0 0])],[(0,jx r'),(1,qY 0),(2,.own false 3 ((l.take i).map Com.row))],3⟩))) m ⟨0,s0,Nat.zero_le _,rfl,rfl,.inl ⟨rfl,rfl⟩⟩ ?_
 rintro n σ ⟨i,r',hi,rfl,hrep,hst⟩
 by_cases hlt:i < m
 ·obtain ⟨x,r2,hx,hrep2,htk⟩:=vb h2 hlt hrep
  have hr1:=(yg hpl hrep).2
  have c2:=qaw r' r2 x (by omega) hx
  have hrr:r2.length ≤ r'.length:=kM hx
  rcases hst with ⟨rfl,rfl⟩|⟨hp,rfl⟩
  ·obtain rfl:s0 = r':=by
    simp only [jT] at hrep
    injection hrep with hrep
    injection hrep
   clear h2 hrep hx hpl
   repeat' (first|refine qi ?_|(first|(refine ya ?_)|(refine zH (first:=[]) (cap:=[.op 1 0 0]) 0 1 Tryd.func48 (c2) ?_)|(refine kB ?_))|((first|(apply qb;rfl;rfl;exact nle rfl)|(apply qa;rfl;rfl;exact nle rfl)|refine xsC ?_ ?_);all_goals (intro hc;have hp:=hc;try simp at hp;try (exfalso;omega)))|refine qS ?_ ?_)
   all_goals try (exfalso;omega)
   all_goals (refine ⟨m - (0 + 1),⟨[(7,.os 2 0 (0 + 1)),(10,.v (.int .i64 (m:Int))),(11,.v (.int .i64 ((0 + 1:Nat):Int))),(2,.clo (.func 48) [] [.op 1 0 0])],[(0,jx r2),(1,qY 0),(2,.own false 3 ((l.take (0 + 1)).map Com.row))],3⟩,by omega,?_,⟨0 + 1,r2,by omega,rfl,by rw [htk];exact hrep2,.inr ⟨Nat.succ_pos _,rfl⟩⟩⟩;refine qy [(2,2)] rfl ?gts ?ghs;(case gts=>(repeat (first|exact qh|refine qA ?_|refine jI ?_|refine jd ?_|refine jK ?_|refine je ?_ ?_|refine jy ?_ ?_));all_goals first|rfl|(simp;omega)|exact yO qh (qd rfl));(case ghs=>refine xG (q:=0) (b:=1) (n:=2) rfl rfl rfl (qd rfl) (qd rfl) (qd rfl) ?_ ?_ ?_ qe;all_goals (first|(with_reducible rfl)|(rw [htk];simp;done)|exact vi _)))
  ·have hlen:(l.take i).length = i:=by rw [List.length_take];omega
   have hml:((l.take i).map Com.row).length = i:=by rw [List.length_map];exact hlen
   clear h2 hrep hx hpl
   repeat' (first|refine qi ?_|(first|(refine ya ?_)|(refine zH (first:=[]) (cap:=[.op 1 0 0]) 0 1 Tryd.func48 (c2) ?_)|(refine zd ?_))|((first|(apply qb;rfl;rfl;exact nle rfl)|(apply qa;rfl;rfl;exact nle rfl)|refine xsC ?_ ?_);all_goals (intro hc;have hp:=hc;try simp at hp;try (exfalso;omega)))|refine qS ?_ ?_)
   all_goals try (exfalso;omega)
   all_goals (refine ⟨m - (i + 1),⟨[(7,.os 2 0 (i + 1)),(10,.v (.int .i64 (m:Int))),(11,.v (.int .i64 ((i + 1:Nat):Int))),(2,.clo (.func 48) [] [.op 1 0 0])],[(0,jx r2),(1,qY 0),(2,.own false 3 ((l.take (i + 1)).map Com.row))],3⟩,by omega,?_,⟨i + 1,r2,by omega,rfl,by rw [htk];exact hrep2,.inr ⟨Nat.succ_pos _,rfl⟩⟩⟩;refine qy [(3,2)] rfl ?gts ?ghs;(case gts=>(repeat (first|exact qh|refine qA ?_|refine jI ?_|refine jd ?_|refine jK ?_|refine je ?_ ?_|refine jy ?_ ?_));all_goals first|rfl|(simp;omega)|exact yO qh (qd rfl));(case ghs=>refine xG (q:=0) (b:=1) (n:=3) rfl rfl rfl (qd rfl) (qd rfl) (qd rfl) ?_ ?_ ?_ qe;all_goals (first|(with_reducible rfl)|(rw [htk,List.take_of_length_le (Nat.le_of_eq hml),List.map_append];rfl)|exact vi _)))
 ·obtain rfl:i = m:=by omega
  rw [h2] at hrep
  injection hrep with hrep
  injection hrep with e1 e2
  subst e2
  rw [← e1] at hst
  clear e1
  rcases hst with ⟨rfl,rfl⟩|⟨hp,rfl⟩
  ·obtain rfl:l = []:=List.eq_nil_of_length_eq_zero hlm
   obtain rfl:s0 = r:=by
    simp only [jT] at h2
    injection h2 with h2
    injection h2
   clear h2
   unfold yh
   refine Awp.red (qy (τ:=⟨[(7,.sl false []),(10,.v (.int .i64 ((0:Nat):Int))),(11,.v (.int .i64 ((0:Nat):Int)))],[(0,jx s0),(1,qY 0)],2⟩) [] rfl ?gts9 ?ghs9) ?_
   case gts9 =>
    refine W3 ?_
    (repeat (first|exact qh|refine qA ?_|refine jI ?_|refine jd ?_|refine jK ?_|refine je ?_ ?_|refine jy ?_ ?_))
    all_goals rfl
   case ghs9=>refine yV (q:=0) (b:=1) rfl rfl (qd rfl) (qd rfl) ?_ qe;all_goals (first|(with_reducible rfl)|rfl)
   repeat' (first|refine qi ?_|fail|((first|(apply qb;rfl;rfl;exact nle rfl)|(apply qa;rfl;rfl;exact nle rfl)|refine xsC ?_ ?_);all_goals (intro hc;have hp:=hc;try simp at hp;try (exfalso;omega)))|refine qS ?_ ?_)
   all_goals try (exfalso;omega)
   all_goals ((apply qu (rs:=[.tmp 6]) [] 2;(case hr=>(repeat (first|exact qm|(apply qn;rfl)|(apply qj;rfl;rfl;rfl;rfl;rfl))));(case hL=>rfl);(case hh=>refine yV (q:=0) (b:=1) rfl rfl (qd rfl) (qd rfl) ?_ qe;all_goals (first|(with_reducible rfl)|rfl));(case hi=>exact rfl);(case hz=>first|rfl|(simp [ju,AV.ren,AV.ren.renL,qP,qr,qL];done))))
  ·clear h2
   unfold yh
   refine Awp.red (xj 2 rfl (vi l)) ?_
   refine Awp.red (YD 7 2 rfl rfl (by rw [List.length_map];omega)) ?_
   repeat' (first|refine qi ?_|fail|((first|(apply qb;rfl;rfl;exact nle rfl)|(apply qa;rfl;rfl;exact nle rfl)|refine xsC ?_ ?_);all_goals (intro hc;have hp:=hc;try simp at hp;try (exfalso;omega)))|refine qS ?_ ?_)
   all_goals try (exfalso;omega)
   all_goals ((apply qu (rs:=[.tmp 6]) [] 2;(case hr=>(repeat (first|exact qm|(apply qn;rfl)|(apply qj;rfl;rfl;rfl;rfl;rfl))));(case hL=>rfl);(case hh=>refine yV (q:=0) (b:=1) rfl rfl (qd rfl) (qd rfl) ?_ qe;all_goals (first|(with_reducible rfl)|rfl));(case hi=>exact rfl);(case hz=>first|rfl|(simp [ju,AV.ren,AV.ren.renL,qP,qr,qL];done))))
set_option maxHeartbeats 4000000 in
theorem Xs (s:qo) (hs:s.length ≤ 1000000000) (h:vx s = none):yJ C2.P 47 [.op 0 0 0,.v (.int .i64 10),.clo (.func 48) [] [.op 1 0 0]] [jx s,qY 0] vf XI:=by
 rcases wz h with h1|⟨m,k,s0,l,r,h1,hm,hkm,h2,h3⟩
 ·have c1:=vP _ s hs h1
  refine qw (C:=C2) Tryd.func47 rfl _ Tryd.ntmps47 (Nat.le_of_ble_eq_true rfl) 2 rfl rfl ?_
  repeat' (first|refine qi ?_|(first|((refine jz (first:=[]) (cap:=[]) 0 [] (qM Tryd.func61 rfl rfl) (c1) rfl (⟨rfl,jP⟩) ?_);(repeat (first|exact qB 10 rfl|exact ⟨10,rfl⟩|refine qC (d:=10) rfl (nle rfl) ?_|(apply qH;exact nle rfl;refine ⟨?_,?_⟩;(first|exact fun h=>absurd h Bool.false_ne_true|(intro _;kernel_rfl)))));done))|((first|(apply qb;rfl;rfl;exact nle rfl)|(apply qa;rfl;rfl;exact nle rfl)|refine xsC ?_ ?_);all_goals (intro hc;have hp:=hc;try simp at hp;try (exfalso;omega)))|refine qS ?_ ?_)
 ·have c1:=k7 _ s s0 m hs h1
  have hl0:=vh h1
  have hpl : ∀ s x r,zo s = some (x,r) → r.length ≤ s.length:=fun _ _ _ h=>kM h
  have hlm:=(yg hpl h2).1
  clear h h1
  refine qw (C:=C2) Tryd.func47 rfl _ Tryd.ntmps47 (Nat.le_of_ble_eq_true rfl) 2 rfl rfl ?_
  repeat' (first|refine qi ?_|(first|(apply qc Tryd.func61 rfl rfl;intro hIsFn;refine qN 0 hIsFn (c1) ?_))|((first|(apply qb;rfl;rfl;exact nle rfl)|(apply qa;rfl;rfl;exact nle rfl)|refine xsC ?_ ?_);all_goals (intro hc;have hp:=hc;try simp at hp;try (exfalso;omega)))|refine qS ?_ ?_)
  (refine Awp.red (qy (τ:=⟨[(7,.sl true []),(10,.v (.int .i64 (m:Int))),(11,.v (.int .i64 ((0:Nat):Int))),(2,.clo (.func 48) [] [.op 1 0 0])],[(0,jx s0),(1,qY 0)],2⟩) [] rfl ?gts2 ?ghs2) ?_;(case gts2=>(repeat (first|exact qh|refine qA ?_|refine jI ?_|refine jd ?_|refine jK ?_|refine je ?_ ?_|refine jy ?_ ?_));all_goals first|rfl|exact yO qh (qd rfl));(case ghs2=>refine yV (q:=0) (b:=1) rfl rfl (qd rfl) (qd rfl) ?_ qe;all_goals (first|(with_reducible rfl)|rfl)))
  refine jC (fun n σ => ∃ (i:Nat) (r' : qo),i ≤ k ∧ n = k - i ∧ jT zo s0 i = some (l.take i,r') ∧ ((i = 0 ∧ σ = ⟨[(7,.sl true []),(10,.v (.int .i64 (m:Int))),(11,.v (.int .i64 ((0:Nat):Int))),(2,.clo (.func 48) [] [.op 1 0 0])],[(0,jx s0),(1,qY 0)],2⟩) ∨ (0 < i ∧ σ = ⟨[(7,.os 2 0 i),(10,.v (.int .i64 (m:Int))),(11,.v (.int .i64 (i:Int))),(2,.clo (.func 48) [] [.op 1 0 0])],[(0,jx r'),(1,qY 0),(2,.own false 3 ((l.take i).map Com.row))],3⟩))) k ⟨0,s0,Nat.zero_le _,rfl,rfl,.inl ⟨rfl,rfl⟩⟩ ?_
  rintro n σ ⟨i,r',hi,rfl,hrep,hst⟩
  by_cases hlt:i < k
  ·obtain ⟨x,r2,hx,hrep2,htk⟩:=vb h2 hlt hrep
   have hr1:=(yg hpl hrep).2
   have c2:=qaw r' r2 x (by omega) hx
   have hrr:r2.length ≤ r'.length:=kM hx
   rcases hst with ⟨rfl,rfl⟩|⟨hp,rfl⟩
   ·obtain rfl:s0 = r':=by
     simp only [jT] at hrep
     injection hrep with hrep
     injection hrep
    clear h2 hrep hx hpl
    repeat' (first|refine qi ?_|(first|(refine ya ?_)|(refine zH (first:=[]) (cap:=[.op 1 0 0]) 0 1 Tryd.func48 (c2) ?_)|(refine kB ?_))|((first|(apply qb;rfl;rfl;exact nle rfl)|(apply qa;rfl;rfl;exact nle rfl)|refine xsC ?_ ?_);all_goals (intro hc;have hp:=hc;try simp at hp;try (exfalso;omega)))|refine qS ?_ ?_)
    all_goals try (exfalso;omega)
    all_goals (refine ⟨k - (0 + 1),⟨[(7,.os 2 0 (0 + 1)),(10,.v (.int .i64 (m:Int))),(11,.v (.int .i64 ((0 + 1:Nat):Int))),(2,.clo (.func 48) [] [.op 1 0 0])],[(0,jx r2),(1,qY 0),(2,.own false 3 ((l.take (0 + 1)).map Com.row))],3⟩,by omega,?_,⟨0 + 1,r2,by omega,rfl,by rw [htk];exact hrep2,.inr ⟨Nat.succ_pos _,rfl⟩⟩⟩;refine qy [(2,2)] rfl ?gts ?ghs;(case gts=>(repeat (first|exact qh|refine qA ?_|refine jI ?_|refine jd ?_|refine jK ?_|refine je ?_ ?_|refine jy ?_ ?_));all_goals first|rfl|(simp;omega)|exact yO qh (qd rfl));(case ghs=>refine xG (q:=0) (b:=1) (n:=2) rfl rfl rfl (qd rfl) (qd rfl) (qd rfl) ?_ ?_ ?_ qe;all_goals (first|(with_reducible rfl)|(rw [htk];simp;done)|exact vi _)))
   ·have hlen:(l.take i).length = i:=by rw [List.length_take];omega
    have hml:((l.take i).map Com.row).length = i:=by rw [List.length_map];exact hlen
    clear h2 hrep hx hpl
    repeat' (first|refine qi ?_|(first|(refine ya ?_)|(refine zH (first:=[]) (cap:=[.op 1 0 0]) 0 1 Tryd.func48 (c2) ?_)|(refine zd ?_))|((first|(apply qb;rfl;rfl;exact nle rfl)|(apply qa;rfl;rfl;exact nle rfl)|refine xsC ?_ ?_);all_goals (intro hc;have hp:=hc;try simp at hp;try (exfalso;omega)))|refine qS ?_ ?_)
    all_goals try (exfalso;omega)
    all_goals (refine ⟨k - (i + 1),⟨[(7,.os 2 0 (i + 1)),(10,.v (.int .i64 (m:Int))),(11,.v (.int .i64 ((i + 1:Nat):Int))),(2,.clo (.func 48) [] [.op 1 0 0])],[(0,jx r2),(1,qY 0),(2,.own false 3 ((l.take (i + 1)).map Com.row))],3⟩,by omega,?_,⟨i + 1,r2,by omega,rfl,by rw [htk];exact hrep2,.inr ⟨Nat.succ_pos _,rfl⟩⟩⟩;refine qy [(3,2)] rfl ?gts ?ghs;(case gts=>(repeat (first|exact qh|refine qA ?_|refine jI ?_|refine jd ?_|refine jK ?_|refine je ?_ ?_|refine jy ?_ ?_));all_goals first|rfl|(simp;omega)|exact yO qh (qd rfl));(case ghs=>refine xG (q:=0) (b:=1) (n:=3) rfl rfl rfl (qd rfl) (qd rfl) (qd rfl) ?_ ?_ ?_ qe;all_goals (first|(with_reducible rfl)|(rw [htk,List.take_of_length_le (Nat.le_of_eq hml),List.map_append];rfl)|exact vi _)))
  ·obtain rfl:i = k:=by omega
   rw [h2] at hrep
   injection hrep with hrep
   injection hrep with e1 e2
   subst e2
   have hr1:=(yg hpl h2).2
   have c2:=ZS r (by omega) h3
   clear e1 hpl
   rcases hst with ⟨rfl,rfl⟩|⟨hp,rfl⟩
   ·obtain rfl:s0 = r:=by
     simp only [jT] at h2
     injection h2 with h2
     injection h2
    clear h2
    repeat' (first|refine qi ?_|(first|((refine zW (first:=[]) (cap:=[.op 1 0 0]) 0 1 [] (qM Tryd.func48 rfl rfl) (c2) rfl (⟨rfl,jP⟩) ?_);(repeat (first|exact qB 15 rfl|exact ⟨15,rfl⟩|(apply jL;apply qp;apply jb;rfl;rfl;rfl;(first|rfl|assumption|(apply qg;assumption)|(apply qg;apply qg;assumption));(conv=>lhs;whnf);exact nle rfl)|refine qC (d:=15) rfl (nle rfl) ?_|(apply qH;exact nle rfl;refine ⟨?_,?_⟩;(first|exact fun h=>absurd h Bool.false_ne_true|(intro _;kernel_rfl)))));done))|((first|(apply qb;rfl;rfl;exact nle rfl)|(apply qa;rfl;rfl;exact nle rfl)|refine xsC ?_ ?_);all_goals (intro hc;have hp:=hc;try simp at hp;try (exfalso;omega)))|refine qS ?_ ?_)
    all_goals (exfalso;omega)
   ·clear h2
    repeat' (first|refine qi ?_|(first|((refine zW (first:=[]) (cap:=[.op 1 0 0]) 0 1 [] (qM Tryd.func48 rfl rfl) (c2) rfl (⟨rfl,jP⟩) ?_);(repeat (first|exact qB 15 rfl|exact ⟨15,rfl⟩|(apply jL;apply qp;apply jb;rfl;rfl;rfl;(first|rfl|assumption|(apply qg;assumption)|(apply qg;apply qg;assumption));(conv=>lhs;whnf);exact nle rfl)|refine qC (d:=15) rfl (nle rfl) ?_|(apply qH;exact nle rfl;refine ⟨?_,?_⟩;(first|exact fun h=>absurd h Bool.false_ne_true|(intro _;kernel_rfl)))));done))|((first|(apply qb;rfl;rfl;exact nle rfl)|(apply qa;rfl;rfl;exact nle rfl)|refine xsC ?_ ?_);all_goals (intro hc;have hp:=hc;try simp at hp;try (exfalso;omega)))|refine qS ?_ ?_)
    all_goals (exfalso;omega)
end Go.Proofs.YtahbbnfmbohmmaaDoor
