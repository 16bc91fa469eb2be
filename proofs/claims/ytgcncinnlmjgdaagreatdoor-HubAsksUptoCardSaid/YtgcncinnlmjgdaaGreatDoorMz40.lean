import Derived.Test.YtgcncinnlmjgdaaGreatDoorMz39
import Derived.Test.YtgcncinnlmjgdaaGreatDoorMz36
import Derived.Test.YtgcncinnlmjgdaaGreatDoorMz29
import Derived.Test.YtgcncinnlmjgdaaGreatDoorMz3
import Derived.Lib.ItoaLen
set_option linter.unusedSimpArgs false
set_option linter.unnecessarySimpa false
set_option linter.unusedVariables false
set_option maxHeartbeats 4000000
set_option maxRecDepth 10000
namespace Go.Proofs.YtgcncinnlmjgdaaGreatDoor
open Go.Ab Go.RowKit
theorem WP:kv 0:=⟨by decide,by decide⟩
theorem ZS:noRqt.fit:=⟨WP,by decide,by decide,by decide,by decide,by decide,WP,WP,WP,(fun c h=>by cases h),by decide⟩
section steps
variable {C' : Cx} {N:Nat} {all:Array Oper} {es:List Eff} {o:Oper} {os:List Oper} {K:List Eff → St → Prop} {ts:List (Nat × AV)} {hs:List (Nat × HB)} {nx:Nat} {gd:List Nat}
theorem J5 {f:FuncId} {args:List Operand} {tys:Array TypeId} {d:Nat} {ty:TypeId} {pos:String} {af:Array Edge} {gg:Option (Nat × Bool)} {ys:List AV} {v:AV} {k:Nat} {row row0 row1:List AV} (q:Nat) (hf:IsFn C'.P f)
  (hc:qf C'.P f ys [.own true k [row0]] v [.own true k [row1]]) (hp1:AV.pure.pureL row1 = true)
  (k' : j9 C' N all (⟨gd ++ (qW (.func f) ++ args.flatMap qW),[q],some d,v,[(q,.own true k [row1])],[]⟩ :: es) ⟨(d,v) :: ts,(q,.own true k [row1]) :: hs,nx⟩ os K)
  (hq:qh hs q = .own true k [row]:=by rfl) (hp0:j1 (j6 0 [q]) 0 row row0:=by ((repeat (first|exact jg|refine qe (qy rfl) ?_|refine qe qlw ?_))<;>fail))
  (hz:qX (j6 0 [q]) [q] (qh hs) (args.map (evA (qm ts))) ys:=by ((repeat' (first|exact jL|apply jo|exact jK rfl|exact ym|(apply qv;apply jB;exact .inr (of_decide_eq_true rfl))|(apply qv;apply yr;exact .inr (of_decide_eq_true rfl))|(apply qv;apply jC;exact .inr (of_decide_eq_true rfl))|apply j3|apply j4))<;>fail)) (hr:v.ren (zq (j6 0 [q])) = v:=by rfl) (hN:d < N:=by exact nle rfl):kC C' N all gd es ⟨ts,hs,nx⟩ f args d tys ty pos af gg os K :=
 vc [q] [] [(q,.own true k [row1])] nx v hf hc hz (jY (.own true k [row]) xn (jt hp0) hq rfl) (qY (jt (jR hp1)) yM) k' hr rfl rfl (Nat.le_of_ble_eq_true rfl) (by simp) rfl (fun n hn=>by cases hn) (Nat.le_refl _) hN
end steps
attribute [local irreducible] Awp j9 jr ye Red qz Go.Ab.Fin qf Rz wz jF jU ResOk yA j1 xR qX
theorem Wo (s t:qb) (e:Int) (ok:Bool) (q:Rqt) (hw:qf C.P 38 [.v (str s),.clo (.func 54) [] [.op 0 0 0]] [.own true 10 [noRqt.row]] (.v (.bool ok)) [.own true 10 [q.row]])
  (ha:jN C.P 11 [.agg q.row] (.tup [.v (str t),.v (.int .i64 e)])) :
  jN C.P 16 [.v (str s)] (if ok = true ∧ t = s ∧ e = 0 then .tup [.agg q.row,.v (.int .i64 0)] else .tup [.agg noRqt.row,.v (.int .i64 1)]):=by
 unfold noRqt Rqt.row at hw;unfold Rqt.row at ha;unfold noRqt Rqt.row;obtain ⟨q1,q2,q3,q4,q5,q6,q7,q8,q9,q10⟩:=q;dsimp only at *
 cases ok with
 | false =>
   refine qJ 0 ?_
   repeat' (first|refine qo ?_|(first|(refine J5 1 qi (hw) rfl ?_)|refine jT (ha ..) ?_)|(refine xsS ?_ ?_;all_goals first|exact False.elim|intro hp hc)|refine xsA ?_ ?_)
   all_goals ((exact Jd (rs:=[.cell 2 40,.tmp 3]) (hz:=Vb)))
 | true =>
   by_cases he:e = 0
   ·subst he;by_cases ht:t = s
    ·subst ht;refine qJ 0 ?_
     repeat' (first|refine qo ?_|(first|(refine J5 1 qi (hw) rfl ?_)|refine jT (ha ..) ?_)|(refine xsS ?_ ?_;all_goals first|exact False.elim|intro hp hc)|refine xsA ?_ ?_)
     all_goals try (exfalso;simp at *;done)
     all_goals (rw [if_pos ⟨rfl,rfl,rfl⟩])
     all_goals ((exact Jd (rs:=[.cell 2 40,.tmp 3]) (hz:=Vb)))
    ·refine qJ 0 ?_
     repeat' (first|refine qo ?_|(first|(refine J5 1 qi (hw) rfl ?_)|refine jT (ha ..) ?_)|(refine xsS ?_ ?_;all_goals first|exact False.elim|intro hp hc)|refine xsA ?_ ?_)
     all_goals try (exfalso;simp_all;done)
     all_goals (rw [if_neg (fun h=>ht h.2.1)])
     all_goals ((exact Jd (rs:=[.cell 2 40,.tmp 3]) (hz:=Vb)))
   ·refine qJ 0 ?_
    repeat' (first|refine qo ?_|(first|(refine J5 1 qi (hw) rfl ?_)|refine jT (ha ..) ?_)|(refine xsS ?_ ?_;all_goals first|exact False.elim|intro hp hc)|refine xsA ?_ ?_)
    all_goals try (exfalso;omega)
    all_goals (rw [if_neg (fun h=>he h.2.2)])
    all_goals ((exact Jd (rs:=[.cell 2 40,.tmp 3]) (hz:=Vb)))
theorem vJ (t:qb):t.length ≤ (wK t).length:=by unfold wK;rw [List.length_append];omega
theorem qkV {α:Type} (T:α → qb) {l:List α} {x:α} (h:x ∈ l):(T x).length ≤ (l.flatMap T).length:=by
 induction l with
 | nil=>cases h
 | cons a l ih =>
   rw [List.flatMap_cons,List.length_append];rcases List.mem_cons.1 h with rfl|h
   ·omega
   ·have:=ih h;omega
theorem WX {α:Type} (T:α → qb) {l:List α} {x:α} (h:x ∈ l):(T x).length ≤ (VT T l).length:=by
 unfold VT;rw [List.length_append];have:=qkV T h;omega
theorem qkj {c:Chg} (h:qmy c) (hl:(qb7 c).length ≤ 1000000000):c.fit:=by
 obtain ⟨h1,h2,h3,h4,h5⟩:=h;unfold qb7 at hl;simp only [List.length_append] at hl;have a:=vJ c.path;have b:=vJ c.to;have d:=vJ c.text;exact ⟨h1,by omega,by omega,by omega,h5⟩
theorem qbc {l:List Chg} (h:qhd l) (hl:(qdz l).length ≤ 1000000000) : ∀ c,c ∈ l → c.fit:=fun c hc=>qkj (h.2 c hc) (Nat.le_trans (WX qb7 hc) hl)
theorem qeI {q:Rqt} (h:qoF q) (hl:(qeJ q).length ≤ 1000000000):q.fit:=by
 obtain ⟨h1,h2,h3,h4,h5,h6,h7,h8,h9,h10⟩:=h;unfold qeJ at hl;simp only [List.length_append] at hl;have a:=vJ q.who;have b:=vJ q.folder;have c:=vJ q.name;have d:=vJ q.key;have e:=vJ q.text;exact ⟨h1,by omega,by omega,by omega,by omega,by omega,h7,h8,h9,qbc h10 (by omega),by have:=h10.1;omega⟩
theorem qgW (s:qb) (hs:s.length ≤ 1000000000):jN C.P 16 [.v (str s)] (.tup [.agg (vU s).1.row,.v (.int .i64 (vU s).2)]):=by
 cases hq:qai s with
 | none =>
   have hw:=Kf s (f:=54) Tryz.func54 rfl rfl 10 noRqt.row noRqt.row rfl rfl (qjc s noRqt hs hq);have h:=Wo s _ _ false noRqt hw (qgV noRqt ZS);rw [if_neg (fun h=>by cases h.1)] at h;unfold vU;rw [hq];exact h
 | some p =>
   obtain ⟨q,r⟩:=p;obtain ⟨e1,e2⟩:=rd_rqt.of _ _ _ hq;have hf:q.fit:=qeI e2 (by have:=congrArg List.length e1;rw [List.length_append] at this;omega);have hw:=qg3 s r (f:=54) Tryz.func54 rfl rfl 10 noRqt.row q.row rfl rfl (qpE s r q noRqt hs hq);have h:=Wo s _ _ _ q hw (qgV q hf);unfold vU;rw [hq];dsimp only
   by_cases hr:r = [] ∧ JM q = (s,0)
   ·rw [if_pos hr];rw [if_pos ⟨by simpa using hr.1,by rw [hr.2],by rw [hr.2]⟩] at h;exact h
   ·rw [if_neg hr];rw [if_neg (fun h=>hr ⟨by simpa using h.1,Prod.ext h.2.1 h.2.2⟩)] at h;exact h
end Go.Proofs.YtgcncinnlmjgdaaGreatDoor
namespace Go.Proofs.YtgcncinnlmjgdaaGreatDoor
open Go.Ab Go.RowKit
section steps
variable {C' : Cx} {N:Nat} {all:Array Oper} {es:List Eff} {o:Oper} {os:List Oper} {K:List Eff → St → Prop} {ts:List (Nat × AV)} {hs:List (Nat × HB)} {nx:Nat} {gd:List Nat}
theorem qco {q b:Nat} {s:qb} (hq:qh hs q = jZ s) (hb:qh hs b = ji q):Q0 (j6 0 [q,b]) (qh hs) [q,b] [jZ s,ji 0] :=
 jY (jZ s) (jY (ji q) xn (jt (qe (jB (.inr (List.mem_cons_self ..))) jg)) hb rfl) (jt (jR rfl)) hq rfl
theorem qg9 {q b:Nat} {r:qb}:Yi (zq (j6 0 [q,b])) [(q,jZ r),(b,ji q)] [jZ r,ji 0] :=
 qY (jt (jR rfl)) (qY (jt (qe (jB (.inr (List.mem_cons_self ..))) jg)) yM)
theorem W6 {f:FuncId} {args:List Operand} {tys:Array TypeId} {d:Nat} {ty:TypeId} {pos:String} {af:Array Edge} {gg:Option (Nat × Bool)} {ys:List AV} {v:AV} {s r:qb} (q b:Nat) (hf:IsFn C'.P f)
  (hc:qf C'.P f ys [jZ s,ji 0] v [jZ r,ji 0])
  (k:j9 C' N all (⟨gd ++ (qW (.func f) ++ args.flatMap qW),[q,b],some d,v,[(q,jZ r),(b,ji q)],[]⟩ :: es) ⟨(d,v) :: ts,(q,jZ r) :: (b,ji q) :: hs,nx⟩ os K)
  (hq:qh hs q = jZ s:=by rfl) (hb:qh hs b = ji q:=by rfl) (hne:decide (q ≠ b) = true:=by rfl)
  (hz:qX (j6 0 [q,b]) [q,b] (qh hs) (args.map (evA (qm ts))) ys:=by ((repeat' (first|exact jL|apply jo|exact jK rfl|exact ym|(apply qv;apply jB;exact .inr (of_decide_eq_true rfl))|(apply qv;apply yr;exact .inr (of_decide_eq_true rfl))|(apply qv;apply jC;exact .inr (of_decide_eq_true rfl))|apply j3|apply j4))<;>fail)) (hr:v.ren (zq (j6 0 [q,b])) = v:=by rfl) (hN:d < N:=by exact nle rfl):kC C' N all gd es ⟨ts,hs,nx⟩ f args d tys ty pos af gg os K :=
 vc [q,b] [] [(q,jZ r),(b,ji q)] nx v hf hc hz (qco hq hb) qg9 k hr rfl rfl (Nat.le_of_ble_eq_true rfl) (by have:=of_decide_eq_true hne;simp [this]) rfl (fun n hn=>by cases hn) (Nat.le_refl _) hN
theorem YP {f:FuncId} {fn:Func} {x:Operand} {first cap:List AV} {args:List Operand} {tys:Array TypeId} {d:Nat} {ty:TypeId} {pos:String} {af:Array Edge} {gg:Option (Nat × Bool)} {ys:List AV} {v:AV} {s r:qb} (q b:Nat) (hf:C'.P.funcs[f]? = some fn)
  (hc:qf C'.P f ys [jZ s,ji 0] v [jZ r,ji 0])
  (k:j9 C' N all (⟨gd ++ (qW x ++ args.flatMap qW),[q,b],some d,v,[(q,jZ r),(b,ji q)],[]⟩ :: es) ⟨(d,v) :: ts,(q,jZ r) :: (b,ji q) :: hs,nx⟩ os K)
  (hx:evA (qm ts) x = .clo (.func f) first cap:=by rfl) (hb0:fn.body.isNone = false:=by rfl) (hn0:(fn.name == "runtime.NumGoroutine") = false:=by rfl)
  (hq:qh hs q = jZ s:=by rfl) (hb:qh hs b = ji q:=by rfl) (hne:decide (q ≠ b) = true:=by rfl)
  (hz:qX (j6 0 [q,b]) [q,b] (qh hs) (first ++ args.map (evA (qm ts)) ++ cap) ys:=by ((repeat' (first|exact jL|apply jo|exact jK rfl|exact ym|(apply qv;apply jB;exact .inr (of_decide_eq_true rfl))|(apply qv;apply yr;exact .inr (of_decide_eq_true rfl))|(apply qv;apply jC;exact .inr (of_decide_eq_true rfl))|apply j3|apply j4))<;>fail)) (hr:v.ren (zq (j6 0 [q,b])) = v:=by rfl) (hN:d < N:=by exact nle rfl):jr C' N all gd es ⟨ts,hs,nx⟩ ⟨some d,.call ⟨.value x,args.toArray,tys⟩,ty,pos,af,gg⟩ os K :=
 YM [q,b] [] [(q,jZ r),(b,ji q)] nx v hf hc hz (qco hq hb) qg9 k hx hb0 hn0 hr rfl rfl (Nat.le_of_ble_eq_true rfl) (by have:=of_decide_eq_true hne;simp [this]) rfl (fun n hn=>by cases hn) (Nat.le_refl _) hN
theorem Xk {f:FuncId} {x:Operand} {first cap:List AV} {args:List Operand} {tys:Array TypeId} {d:Nat} {ty:TypeId} {pos:String} {af:Array Edge} {gg:Option (Nat × Bool)} {ys:List AV} {s:qb} (q b:Nat) (keep:List Nat) (hf:IsFn C'.P f)
  (hc:vj C'.P f ys [jZ s,ji 0] Qt noH) (hx:evA (qm ts) x = .clo (.func f) first cap)
  (hdie:C'.die Qt [] ([(q,.dead),(b,.dead)] ++ (q :: b :: keep).map fun n=>(n,qh hs n)))
  (k:j9 C' N all (⟨gd ++ (qW x ++ args.flatMap qW ++ []),q :: b :: keep,some d,xw,[],[]⟩ :: es) ⟨(d,xw) :: ts,hs,nx⟩ os K)
  (hq:qh hs q = jZ s:=by rfl) (hb:qh hs b = ji q:=by rfl) (hne:decide (q ≠ b) = true:=by rfl)
  (hz:qX (j6 0 [q,b]) (q :: b :: keep) (qh hs) (first ++ args.map (evA (qm ts)) ++ cap) ys:=by ((repeat' (first|exact jL|apply jo|exact jK rfl|exact ym|(apply qv;apply jB;exact .inr (of_decide_eq_true rfl))|(apply qv;apply yr;exact .inr (of_decide_eq_true rfl))|(apply qv;apply jC;exact .inr (of_decide_eq_true rfl))|apply j3|apply j4))<;>fail)) (hN:d < N:=by exact nle rfl):jr C' N all gd es ⟨ts,hs,nx⟩ ⟨some d,.call ⟨.value x,args.toArray,tys⟩,ty,pos,af,gg⟩ os K:=by
 refine W9 (H:=[jZ s,ji 0]) (HP:=noH) (ch:=Qt) (xs:=first ++ args.map (evA (qm ts)) ++ cap) _ (q :: b :: keep) [q,b] [] rfl hN (xd f hf x args tys first cap hx) rfl (by have:=of_decide_eq_true hne;simp [this]) (fun n hn=>by simp at hn;rcases hn with rfl|rfl<;>simp) hz ?_ hc ?_ (by simp) k
 ·exact fun i n hb' hi hj=>Jp (qco hq hb) i n hb' hi hj
 ·rintro H' rfl;refine ⟨[(q,.dead),(b,.dead)],rfl,fun i n hb hz=>?_,hdie⟩
  have:hb = .dead:=by
   rcases i with _|_|i
   ·simp at hz;exact hz.2.symm
   ·simp at hz;exact hz.2.symm
   ·simp at hz
  subst this;exact yG
end steps
theorem VN {L:List (Nat × Nat)} {nh:Nat} {σ:St} {q q' b b' : Nat} {s s' : qb} {rest:List (Nat × HB)} (hq:qh σ.hs q = jZ s) (hb:qh σ.hs b = ji q) (h1:Maps L nh q q') (h2:Maps L nh b b') (hs:s = s') (hl:yd L nh σ rest):yd L nh σ ((q',jZ s') :: (b',ji q') :: rest):=Xf hq h1 hs (VM hb h1 h2 hl)
theorem VO {L:List (Nat × Nat)} {nh:Nat} {σ:St} {q q' b b' n n' k:Nat} {ex:Bool} {s s' : qb} {rows rows' : List (List AV)} {rest:List (Nat × HB)} (hq:qh σ.hs q = jZ s) (hb:qh σ.hs b = ji q) (hn:qh σ.hs n = .own ex k rows) (h1:Maps L nh q q') (hB:Maps L nh b b') (h2:Maps L nh n n') (hs:s = s') (hr:rows = rows') (hp : ∀ row,row ∈ rows' → AV.pure.pureL row = true) (hl:yd L nh σ rest):yd L nh σ ((q',jZ s') :: (b',ji q') :: (n',.own false k rows') :: rest):=by
 subst hr;exact VN hq hb h1 hB hs ⟨⟨n,h2,by rw [hn];exact ⟨(fun h=>by cases h),rfl,kp hp⟩⟩,hl⟩
theorem qkF {s r:qb} {x:_} (h:XP s = some (x,r)) : ∃ s1 s2 s3,jm s = some (x.path,s1) ∧ ky s1 = some (x.fold,s2) ∧ jm s2 = some (x.text,s3) ∧ je s3 = some (x.ver,r):=by
 unfold XP at h
 repeat' (split at h)
 all_goals first
  | (cases h;done)
  | skip
 rename_i h1 _ _ _ h2 _ _ _ h3 _ _ _ h4;injection h with h;injection h with e1 e2;subst e1 e2;exact ⟨_,_,_,h1,h2,h3,h4⟩
theorem qiF {s:qb} (h:XP s = none):jm s = none ∨ ∃ a s1,jm s = some (a,s1) ∧ (ky s1 = none ∨ ∃ b s2,ky s1 = some (b,s2) ∧ (jm s2 = none ∨ ∃ c s3,jm s2 = some (c,s3) ∧ (je s3 = none))):=by
 unfold XP at h
 cases h1:jm s with
 | none=>exact .inl rfl
 | some z =>
   obtain ⟨v1,s1⟩:=z;rw [h1] at h;simp only at h;refine .inr ⟨v1,s1,rfl,?_⟩
   cases h2:ky s1 with
   | none=>exact .inl rfl
   | some z =>
     obtain ⟨v2,s2⟩:=z;rw [h2] at h;simp only at h;refine .inr ⟨v2,s2,rfl,?_⟩
     cases h3:jm s2 with
     | none=>exact .inl rfl
     | some z =>
       obtain ⟨v3,s3⟩:=z;rw [h3] at h;simp only at h;refine .inr ⟨v3,s3,rfl,?_⟩
       cases h4:je s3 with
       | none=>rfl
       | some z =>
         rw [h4] at h;cases h
theorem qku {s r:qb} {x:_} (h:XO s = some (x,r)) : ∃ s1 s2,je s = some (x.num,s1) ∧ jm s1 = some (x.key,s2) ∧ Qu s2 = some (x.chs,r):=by
 unfold XO at h
 repeat' (split at h)
 all_goals first
  | (cases h;done)
  | skip
 rename_i h1 _ _ _ h2 _ _ _ h3;injection h with h;injection h with e1 e2;subst e1 e2;exact ⟨_,_,h1,h2,h3⟩
theorem qiA {s:qb} (h:XO s = none):je s = none ∨ ∃ a s1,je s = some (a,s1) ∧ (jm s1 = none ∨ ∃ b s2,jm s1 = some (b,s2) ∧ (Qu s2 = none)):=by
 unfold XO at h
 cases h1:je s with
 | none=>exact .inl rfl
 | some z =>
   obtain ⟨v1,s1⟩:=z;rw [h1] at h;simp only at h;refine .inr ⟨v1,s1,rfl,?_⟩
   cases h2:jm s1 with
   | none=>exact .inl rfl
   | some z =>
     obtain ⟨v2,s2⟩:=z;rw [h2] at h;simp only at h;refine .inr ⟨v2,s2,rfl,?_⟩
     cases h3:Qu s2 with
     | none=>rfl
     | some z =>
       rw [h3] at h;cases h
theorem Vv {s r:qb} {c:Ent} (h:XP s = some (c,r)):r.length ≤ s.length:=by
 rw [(rd_ent.of _ _ _ h).1,List.length_append];omega
theorem Vs {s r:qb} {c:Com} (h:XO s = some (c,r)):r.length ≤ s.length:=by
 rw [(rd_com.of _ _ _ h).1,List.length_append];omega
attribute [local irreducible] Awp j9 jr ye Red qz Go.Ab.Fin qf Rz wz jF jU ResOk yA j1 xR qX
theorem qnR (s r:qb) (c:Ent) (hs:s.length ≤ 1000000000) (h:XP s = some (c,r)):qf C2.P 43 [.op 1 0 0] [jZ s,ji 0] (.agg c.row) [jZ r,ji 0]:=by
 obtain ⟨s1,s2,s3,h1,h2,h3,h4⟩:=qkF h;obtain ⟨v1,v2,v3,v4⟩:=c;dsimp only at *;have c1:=jS s _ s1 (by omega) h1;have l1:=qC h1;have c2:=V8 s1 s2 _ (by omega) h2;have l2:=xQ h2;have c3:=jS s2 _ s3 (by omega) h3;have l3:=qC h3;have c4:=yc s3 r _ (by omega) h4;have l4:=qw h4;clear h h1 h2 h3 h4;unfold Ent.row;refine qJ (C:=C2) 2 ?_
 repeat' (first|(first|(refine qT 0 qi (c1) ?_)|(refine qT 0 qi (c2) ?_)|(refine qT 0 qi (c3) ?_)|(refine qT 0 qi (c4) ?_)|(apply qa;apply (xH (cs:=[.v (str v1),.v (.bool v2),.v (str v3),.v (.int .i64 v4)]));rfl;rfl;rfl;kernel_rfl;exact nle rfl))|refine qo ?_|(refine xsS ?_ ?_;all_goals first|exact False.elim|intro hp hc)|refine xsA ?_ ?_)
 all_goals ((exact yp (rs:=[.cell 1 103]) [] 2 qqh))
theorem qjb (s:qb) (hs:s.length ≤ 1000000000) (h:XP s = none):vj C2.P 43 [.op 1 0 0] [jZ s,ji 0] Qt noH:=by
 rcases qiF h with h1|⟨v1,s1,h1,h2|⟨v2,s2,h2,h3|⟨v3,s3,h3,h4⟩⟩⟩
 ·have cd:=xZ s (by omega) h1;clear h h1;refine qu (C:=C2) Tryz.func43 rfl _ Tryz.ntmps43 (Nat.le_of_ble_eq_true rfl) 2 rfl rfl ?_
  repeat' (first|refine qo ?_|(first|((refine j7 (first:=[]) (cap:=[]) 0 [] (qr Tryz.func44 rfl rfl) (cd) rfl (⟨rfl,yo⟩) ?_);(repeat (first|exact qE 3 rfl|exact ⟨3,rfl⟩|(apply qF;apply qa;apply qZ;rfl;rfl;rfl;(first|rfl|assumption|(apply qd;assumption)|(apply qd;apply qd;assumption));(conv=>lhs;whnf);exact nle rfl)|refine qG (d:=3) rfl (nle rfl) ?_|(apply qL;exact nle rfl;refine ⟨?_,?_⟩;(first|exact fun h=>absurd h Bool.false_ne_true|(intro _;kernel_rfl)))));done))|(refine xsS ?_ ?_;all_goals first|exact False.elim|intro hp hc)|refine xsA ?_ ?_)
 ·have c1:=jS s _ s1 (by omega) h1;have l1:=qC h1;have cd:=Z1 s1 (by omega) h2;clear h h1 h2;refine qu (C:=C2) Tryz.func43 rfl _ Tryz.ntmps43 (Nat.le_of_ble_eq_true rfl) 2 rfl rfl ?_
  repeat' (first|refine qo ?_|(first|(refine qT 0 qi (c1) ?_)|((refine j7 (first:=[]) (cap:=[]) 0 [] (qr Tryz.func41 rfl rfl) (cd) rfl (⟨rfl,yo⟩) ?_);(repeat (first|exact qE 5 rfl|exact ⟨5,rfl⟩|(apply qF;apply qa;apply qZ;rfl;rfl;rfl;(first|rfl|assumption|(apply qd;assumption)|(apply qd;apply qd;assumption));(conv=>lhs;whnf);exact nle rfl)|refine qG (d:=5) rfl (nle rfl) ?_|(apply qL;exact nle rfl;refine ⟨?_,?_⟩;(first|exact fun h=>absurd h Bool.false_ne_true|(intro _;kernel_rfl)))));done))|(refine xsS ?_ ?_;all_goals first|exact False.elim|intro hp hc)|refine xsA ?_ ?_)
 ·have c1:=jS s _ s1 (by omega) h1;have l1:=qC h1;have c2:=V8 s1 s2 _ (by omega) h2;have l2:=xQ h2;have cd:=xZ s2 (by omega) h3;clear h h1 h2 h3;refine qu (C:=C2) Tryz.func43 rfl _ Tryz.ntmps43 (Nat.le_of_ble_eq_true rfl) 2 rfl rfl ?_
  repeat' (first|refine qo ?_|(first|(refine qT 0 qi (c1) ?_)|(refine qT 0 qi (c2) ?_)|((refine j7 (first:=[]) (cap:=[]) 0 [] (qr Tryz.func44 rfl rfl) (cd) rfl (⟨rfl,yo⟩) ?_);(repeat (first|exact qE 7 rfl|exact ⟨7,rfl⟩|(apply qF;apply qa;apply qZ;rfl;rfl;rfl;(first|rfl|assumption|(apply qd;assumption)|(apply qd;apply qd;assumption));(conv=>lhs;whnf);exact nle rfl)|refine qG (d:=7) rfl (nle rfl) ?_|(apply qL;exact nle rfl;refine ⟨?_,?_⟩;(first|exact fun h=>absurd h Bool.false_ne_true|(intro _;kernel_rfl)))));done))|(refine xsS ?_ ?_;all_goals first|exact False.elim|intro hp hc)|refine xsA ?_ ?_)
 ·have c1:=jS s _ s1 (by omega) h1;have l1:=qC h1;have c2:=V8 s1 s2 _ (by omega) h2;have l2:=xQ h2;have c3:=jS s2 _ s3 (by omega) h3;have l3:=qC h3;have cd:=xD s3 (by omega) h4;clear h h1 h2 h3 h4;refine qu (C:=C2) Tryz.func43 rfl _ Tryz.ntmps43 (Nat.le_of_ble_eq_true rfl) 2 rfl rfl ?_
  repeat' (first|refine qo ?_|(first|(refine qT 0 qi (c1) ?_)|(refine qT 0 qi (c2) ?_)|(refine qT 0 qi (c3) ?_)|((refine j7 (first:=[]) (cap:=[]) 0 [] (qr Tryz.func40 rfl rfl) (cd) rfl (⟨rfl,yo⟩) ?_);(repeat (first|exact qE 9 rfl|exact ⟨9,rfl⟩|(apply qF;apply qa;apply qZ;rfl;rfl;rfl;(first|rfl|assumption|(apply qd;assumption)|(apply qd;apply qd;assumption));(conv=>lhs;whnf);exact nle rfl)|refine qG (d:=9) rfl (nle rfl) ?_|(apply qL;exact nle rfl;refine ⟨?_,?_⟩;(first|exact fun h=>absurd h Bool.false_ne_true|(intro _;kernel_rfl)))));done))|(refine xsS ?_ ?_;all_goals first|exact False.elim|intro hp hc)|refine xsA ?_ ?_)
theorem qnQ (s r:qb) (c:Com) (hs:s.length ≤ 1000000000) (h:XO s = some (c,r)):qf C2.P 46 [.op 1 0 0] [jZ s,ji 0] (.agg c.row) [jZ r,ji 0]:=by
 obtain ⟨s1,s2,h1,h2,h3⟩:=qku h;obtain ⟨v1,v2,v3⟩:=c;dsimp only at *;have c1:=yc s s1 _ (by omega) h1;have l1:=qw h1;have c2:=jS s1 _ s2 (by omega) h2;have l2:=qC h2;have c3:=qbD s2 r _ (by omega) h3;have l3:=qbd h3;clear h h1 h2 h3;unfold Com.row;refine qJ (C:=C2) 2 ?_
 repeat' (first|(first|(refine qT 0 qi (c1) ?_)|(refine qT 0 qi (c2) ?_)|(refine qT 0 qi (c3) ?_)|(apply qa;apply (xH (cs:=[.v (.int .i64 v1),.v (str v2),ya v3]));rfl;rfl;rfl;kernel_rfl;exact nle rfl))|refine qo ?_|(refine xsS ?_ ?_;all_goals first|exact False.elim|intro hp hc)|refine xsA ?_ ?_)
 all_goals ((exact yp (rs:=[.cell 1 108]) [] 2 qqh))
theorem qja (s:qb) (hs:s.length ≤ 1000000000) (h:XO s = none):vj C2.P 46 [.op 1 0 0] [jZ s,ji 0] Qt noH:=by
 rcases qiA h with h1|⟨v1,s1,h1,h2|⟨v2,s2,h2,h3⟩⟩
 ·have cd:=xD s (by omega) h1;clear h h1;refine qu (C:=C2) Tryz.func46 rfl _ Tryz.ntmps46 (Nat.le_of_ble_eq_true rfl) 2 rfl rfl ?_
  repeat' (first|refine qo ?_|(first|((refine j7 (first:=[]) (cap:=[]) 0 [] (qr Tryz.func40 rfl rfl) (cd) rfl (⟨rfl,yo⟩) ?_);(repeat (first|exact qE 3 rfl|exact ⟨3,rfl⟩|(apply qF;apply qa;apply qZ;rfl;rfl;rfl;(first|rfl|assumption|(apply qd;assumption)|(apply qd;apply qd;assumption));(conv=>lhs;whnf);exact nle rfl)|refine qG (d:=3) rfl (nle rfl) ?_|(apply qL;exact nle rfl;refine ⟨?_,?_⟩;(first|exact fun h=>absurd h Bool.false_ne_true|(intro _;kernel_rfl)))));done))|(refine xsS ?_ ?_;all_goals first|exact False.elim|intro hp hc)|refine xsA ?_ ?_)
 ·have c1:=yc s s1 _ (by omega) h1;have l1:=qw h1;have cd:=xZ s1 (by omega) h2;clear h h1 h2;refine qu (C:=C2) Tryz.func46 rfl _ Tryz.ntmps46 (Nat.le_of_ble_eq_true rfl) 2 rfl rfl ?_
  repeat' (first|refine qo ?_|(first|(refine qT 0 qi (c1) ?_)|((refine j7 (first:=[]) (cap:=[]) 0 [] (qr Tryz.func44 rfl rfl) (cd) rfl (⟨rfl,yo⟩) ?_);(repeat (first|exact qE 5 rfl|exact ⟨5,rfl⟩|(apply qF;apply qa;apply qZ;rfl;rfl;rfl;(first|rfl|assumption|(apply qd;assumption)|(apply qd;apply qd;assumption));(conv=>lhs;whnf);exact nle rfl)|refine qG (d:=5) rfl (nle rfl) ?_|(apply qL;exact nle rfl;refine ⟨?_,?_⟩;(first|exact fun h=>absurd h Bool.false_ne_true|(intro _;kernel_rfl)))));done))|(refine xsS ?_ ?_;all_goals first|exact False.elim|intro hp hc)|refine xsA ?_ ?_)
 ·have c1:=yc s s1 _ (by omega) h1;have l1:=qw h1;have c2:=jS s1 _ s2 (by omega) h2;have l2:=qC h2;have cd:=XD s2 (by omega) h3;clear h h1 h2 h3;refine qu (C:=C2) Tryz.func46 rfl _ Tryz.ntmps46 (Nat.le_of_ble_eq_true rfl) 2 rfl rfl ?_
  repeat' (first|refine qo ?_|(first|(refine qT 0 qi (c1) ?_)|(refine qT 0 qi (c2) ?_)|((refine j7 (first:=[]) (cap:=[]) 0 [] (qr Tryz.func47 rfl rfl) (cd) rfl (⟨rfl,yo⟩) ?_);(repeat (first|exact qE 7 rfl|exact ⟨7,rfl⟩|(apply qF;apply qa;apply qZ;rfl;rfl;rfl;(first|rfl|assumption|(apply qd;assumption)|(apply qd;apply qd;assumption));(conv=>lhs;whnf);exact nle rfl)|refine qG (d:=7) rfl (nle rfl) ?_|(apply qL;exact nle rfl;refine ⟨?_,?_⟩;(first|exact fun h=>absurd h Bool.false_ne_true|(intro _;kernel_rfl)))));done))|(refine xsS ?_ ?_;all_goals first|exact False.elim|intro hp hc)|refine xsA ?_ ?_)
theorem WD (l:List Ent) : ∀ row,row ∈ l.map Ent.row → AV.pure.pureL row = true:=fun row h=>by
 obtain ⟨c,_,rfl⟩:=List.mem_map.1 h;rfl
theorem qca (c:Com):AV.pure.pureL c.row = true:=by first|rfl|(unfold Com.row ya;simp [AV.pure.pureL,AV.pure,Yw];done)|(unfold Com.row ya;simp [AV.pure.pureL,AV.pure];exact Yw c.chs)
theorem Wx (l:List Com) : ∀ row,row ∈ l.map Com.row → AV.pure.pureL row = true:=fun row h=>by
 obtain ⟨c,_,rfl⟩:=List.mem_map.1 h;exact qca c
theorem K2 (s r:qb) (l:List Ent) (hs:s.length ≤ 1000000000) (h:Zk s = some (l,r)):qf C2.P 42 [.op 0 0 0,.v (.int .i64 60),.clo (.func 43) [] [.op 1 0 0]] [jZ s,ji 0] (qU l) [jZ r,ji 0]:=by
 obtain ⟨m,s0,h1,hm,h2⟩:=WW h;have c1:=V7 _ s s0 m hs h1;have hl0:=Qv h1;have hpl : ∀ s x r,XP s = some (x,r) → r.length ≤ s.length:=fun _ _ _ h=>Vv h
 have hlm:=(y6 hpl h2).1;clear h h1;refine qJ (C:=C2) 2 ?_
 repeat' (first|refine qo ?_|(first|(refine qT 0 qi (c1) ?_))|(refine xsS ?_ ?_;all_goals first|exact False.elim|intro hp hc)|refine xsA ?_ ?_)
 (refine xsK (τ:=⟨[(7,.sl true []),(10,.v (.int .i64 (m:Int))),(11,.v (.int .i64 ((0:Nat):Int))),(2,.clo (.func 43) [] [.op 1 0 0])],[(0,jZ s0),(1,ji 0)],2⟩) [] qnF qeX ?_)
 refine qB (fun n σ => ∃ (i:Nat) (r' : qb),i ≤ m ∧ n = m - i ∧ yQ XP s0 i = some (l.take i,r') ∧ ((i = 0 ∧ σ = ⟨[(7,.sl true []),(10,.v (.int .i64 (m:Int))),(11,.v (.int .i64 ((0:Nat):Int))),(2,.clo (.func 43) [] [.op 1 0 0])],[(0,jZ s0),(1,ji 0)],2⟩) ∨ (0 < i ∧ σ = ⟨[(7,.os 2 0 i),(10,.v (.int .i64 (m:Int))),(11,.v (.int .i64 (i:Int))),(2,.clo (.func 43) [] [.op 1 0 0])],[(0,jZ r'),(1,ji 0),(2,.own false 4 ((l.take i).map Ent.row))],3⟩))) m ⟨0,s0,Nat.zero_le _,rfl,rfl,.inl ⟨rfl,rfl⟩⟩ ?_;rintro n σ ⟨i,r',hi,rfl,hrep,hst⟩;by_cases hlt:i < m
 ·obtain ⟨x,r2,hx,hrep2,htk⟩:=Qm h2 hlt hrep;have hr1:=(y6 hpl hrep).2;have c2:=qnR r' r2 x (by omega) hx;have hrr:r2.length ≤ r'.length:=Vv hx
  rcases hst with ⟨rfl,rfl⟩|⟨hp,rfl⟩
  ·obtain rfl:s0 = r':=by
    simp only [yQ] at hrep;injection hrep with hrep;injection hrep
   clear h2 hrep hx hpl
   repeat' (first|refine qo ?_|(first|(refine jd ?_)|(refine YP (first:=[]) (cap:=[.op 1 0 0]) 0 1 Tryz.func43 (c2) ?_)|(refine vm ?_))|(refine xsS ?_ ?_;all_goals first|exact False.elim|intro hp hc)|refine xsA ?_ ?_)
   all_goals try (exfalso;omega)
   all_goals (refine ⟨m - (0 + 1),⟨[(7,.os 2 0 (0 + 1)),(10,.v (.int .i64 (m:Int))),(11,.v (.int .i64 ((0 + 1:Nat):Int))),(2,.clo (.func 43) [] [.op 1 0 0])],[(0,jZ r2),(1,ji 0),(2,.own false 4 ((l.take (0 + 1)).map Ent.row))],3⟩,by omega,?_,⟨0 + 1,r2,by omega,rfl,by rw [htk];exact hrep2,.inr ⟨Nat.succ_pos _,rfl⟩⟩⟩;refine jH [(2,2)] rfl ?gts ?ghs;(case gts=>exact qeW);(case ghs=>exact qp1))
  ·have hlen:(l.take i).length = i:=by rw [List.length_take];omega
   have hml:((l.take i).map Ent.row).length = i:=by rw [List.length_map];exact hlen
   clear h2 hrep hx hpl
   repeat' (first|refine qo ?_|(first|(refine jd ?_)|(refine YP (first:=[]) (cap:=[.op 1 0 0]) 0 1 Tryz.func43 (c2) ?_)|(refine vF ?_))|(refine xsS ?_ ?_;all_goals first|exact False.elim|intro hp hc)|refine xsA ?_ ?_)
   all_goals try (exfalso;omega)
   all_goals (refine ⟨m - (i + 1),⟨[(7,.os 2 0 (i + 1)),(10,.v (.int .i64 (m:Int))),(11,.v (.int .i64 ((i + 1:Nat):Int))),(2,.clo (.func 43) [] [.op 1 0 0])],[(0,jZ r2),(1,ji 0),(2,.own false 4 ((l.take (i + 1)).map Ent.row))],3⟩,by omega,?_,⟨i + 1,r2,by omega,rfl,by rw [htk];exact hrep2,.inr ⟨Nat.succ_pos _,rfl⟩⟩⟩;refine jH [(3,2)] rfl ?gts ?ghs;(case gts=>exact qeW);(case ghs=>exact qpS))
 ·obtain rfl:i = m:=by omega
  rw [h2] at hrep;injection hrep with hrep;injection hrep with e1 e2;subst e2;rw [← e1] at hst;clear e1
  rcases hst with ⟨rfl,rfl⟩|⟨hp,rfl⟩
  ·obtain rfl:l = []:=List.eq_nil_of_length_eq_zero hlm
   obtain rfl:s0 = r:=by
    simp only [yQ] at h2;injection h2 with h2;injection h2
   clear h2;unfold qU;refine Awp.red (jH (τ:=⟨[(7,.sl false []),(10,.v (.int .i64 ((0:Nat):Int))),(11,.v (.int .i64 ((0:Nat):Int)))],[(0,jZ s0),(1,ji 0)],2⟩) [] rfl ?gts9 ?ghs9) ?_
   case gts9 =>
    refine qov ?_
    (repeat (first|exact qx|refine jz ?_|refine wm ?_|refine QL ?_|refine X2 ?_|refine QM ?_ ?_|refine xy ?_ ?_))
    all_goals rfl
   case ghs9=>refine VN (q:=0) (b:=1) rfl rfl (qp rfl) (qp rfl) ?_ qn;all_goals (first|(with_reducible rfl)|rfl)
   repeat' (first|refine qo ?_|fail|(refine xsS ?_ ?_;all_goals first|exact False.elim|intro hp hc)|refine xsA ?_ ?_)
   all_goals try (exfalso;omega)
   all_goals ((exact yp (rs:=[.tmp 6]) [] 2 qeX))
  ·clear h2;unfold qU;refine Awp.red (QO 2 rfl (WD l)) ?_;refine Awp.red (qgv 7 2 rfl rfl (by rw [List.length_map];omega)) ?_
   repeat' (first|refine qo ?_|fail|(refine xsS ?_ ?_;all_goals first|exact False.elim|intro hp hc)|refine xsA ?_ ?_)
   all_goals try (exfalso;omega)
   all_goals ((exact yp (rs:=[.tmp 6]) [] 2 qeX))
theorem qev (s:qb) (hs:s.length ≤ 1000000000) (h:Zk s = none):vj C2.P 42 [.op 0 0 0,.v (.int .i64 60),.clo (.func 43) [] [.op 1 0 0]] [jZ s,ji 0] Qt noH:=by
 rcases ZP h with h1|⟨m,k,s0,l,r,h1,hm,hkm,h2,h3⟩
 ·have c1:=Jv _ s hs h1;refine qu (C:=C2) Tryz.func42 rfl _ Tryz.ntmps42 (Nat.le_of_ble_eq_true rfl) 2 rfl rfl ?_
  repeat' (first|refine qo ?_|(first|((refine j7 (first:=[]) (cap:=[]) 0 [] (qr Tryz.func110 rfl rfl) (c1) rfl (⟨rfl,yo⟩) ?_);(repeat (first|exact qE 10 rfl|exact ⟨10,rfl⟩|refine qG (d:=10) rfl (nle rfl) ?_|(apply qL;exact nle rfl;refine ⟨?_,?_⟩;(first|exact fun h=>absurd h Bool.false_ne_true|(intro _;kernel_rfl)))));done))|(refine xsS ?_ ?_;all_goals first|exact False.elim|intro hp hc)|refine xsA ?_ ?_)
 ·have c1:=V7 _ s s0 m hs h1;have hl0:=Qv h1;have hpl : ∀ s x r,XP s = some (x,r) → r.length ≤ s.length:=fun _ _ _ h=>Vv h
  have hlm:=(y6 hpl h2).1;clear h h1;refine qu (C:=C2) Tryz.func42 rfl _ Tryz.ntmps42 (Nat.le_of_ble_eq_true rfl) 2 rfl rfl ?_
  repeat' (first|refine qo ?_|(first|(refine qT 0 qi (c1) ?_))|(refine xsS ?_ ?_;all_goals first|exact False.elim|intro hp hc)|refine xsA ?_ ?_)
  (refine xsK (τ:=⟨[(7,.sl true []),(10,.v (.int .i64 (m:Int))),(11,.v (.int .i64 ((0:Nat):Int))),(2,.clo (.func 43) [] [.op 1 0 0])],[(0,jZ s0),(1,ji 0)],2⟩) [] qnF qeX ?_)
  refine qB (fun n σ => ∃ (i:Nat) (r' : qb),i ≤ k ∧ n = k - i ∧ yQ XP s0 i = some (l.take i,r') ∧ ((i = 0 ∧ σ = ⟨[(7,.sl true []),(10,.v (.int .i64 (m:Int))),(11,.v (.int .i64 ((0:Nat):Int))),(2,.clo (.func 43) [] [.op 1 0 0])],[(0,jZ s0),(1,ji 0)],2⟩) ∨ (0 < i ∧ σ = ⟨[(7,.os 2 0 i),(10,.v (.int .i64 (m:Int))),(11,.v (.int .i64 (i:Int))),(2,.clo (.func 43) [] [.op 1 0 0])],[(0,jZ r'),(1,ji 0),(2,.own false 4 ((l.take i).map Ent.row))],3⟩))) k ⟨0,s0,Nat.zero_le _,rfl,rfl,.inl ⟨rfl,rfl⟩⟩ ?_;rintro n σ ⟨i,r',hi,rfl,hrep,hst⟩;by_cases hlt:i < k
  ·obtain ⟨x,r2,hx,hrep2,htk⟩:=Qm h2 hlt hrep;have hr1:=(y6 hpl hrep).2;have c2:=qnR r' r2 x (by omega) hx;have hrr:r2.length ≤ r'.length:=Vv hx
   rcases hst with ⟨rfl,rfl⟩|⟨hp,rfl⟩
   ·obtain rfl:s0 = r':=by
     simp only [yQ] at hrep;injection hrep with hrep;injection hrep
    clear h2 hrep hx hpl
    repeat' (first|refine qo ?_|(first|(refine jd ?_)|(refine YP (first:=[]) (cap:=[.op 1 0 0]) 0 1 Tryz.func43 (c2) ?_)|(refine vm ?_))|(refine xsS ?_ ?_;all_goals first|exact False.elim|intro hp hc)|refine xsA ?_ ?_)
    all_goals try (exfalso;omega)
    all_goals (refine ⟨k - (0 + 1),⟨[(7,.os 2 0 (0 + 1)),(10,.v (.int .i64 (m:Int))),(11,.v (.int .i64 ((0 + 1:Nat):Int))),(2,.clo (.func 43) [] [.op 1 0 0])],[(0,jZ r2),(1,ji 0),(2,.own false 4 ((l.take (0 + 1)).map Ent.row))],3⟩,by omega,?_,⟨0 + 1,r2,by omega,rfl,by rw [htk];exact hrep2,.inr ⟨Nat.succ_pos _,rfl⟩⟩⟩;refine jH [(2,2)] rfl ?gts ?ghs;(case gts=>exact qeW);(case ghs=>exact qp1))
   ·have hlen:(l.take i).length = i:=by rw [List.length_take];omega
    have hml:((l.take i).map Ent.row).length = i:=by rw [List.length_map];exact hlen
    clear h2 hrep hx hpl
    repeat' (first|refine qo ?_|(first|(refine jd ?_)|(refine YP (first:=[]) (cap:=[.op 1 0 0]) 0 1 Tryz.func43 (c2) ?_)|(refine vF ?_))|(refine xsS ?_ ?_;all_goals first|exact False.elim|intro hp hc)|refine xsA ?_ ?_)
    all_goals try (exfalso;omega)
    all_goals (refine ⟨k - (i + 1),⟨[(7,.os 2 0 (i + 1)),(10,.v (.int .i64 (m:Int))),(11,.v (.int .i64 ((i + 1:Nat):Int))),(2,.clo (.func 43) [] [.op 1 0 0])],[(0,jZ r2),(1,ji 0),(2,.own false 4 ((l.take (i + 1)).map Ent.row))],3⟩,by omega,?_,⟨i + 1,r2,by omega,rfl,by rw [htk];exact hrep2,.inr ⟨Nat.succ_pos _,rfl⟩⟩⟩;refine jH [(3,2)] rfl ?gts ?ghs;(case gts=>exact qeW);(case ghs=>exact qpS))
  ·obtain rfl:i = k:=by omega
   rw [h2] at hrep;injection hrep with hrep;injection hrep with e1 e2;subst e2;have hr1:=(y6 hpl h2).2;have c2:=qjb r (by omega) h3;clear e1 hpl
   rcases hst with ⟨rfl,rfl⟩|⟨hp,rfl⟩
   ·obtain rfl:s0 = r:=by
     simp only [yQ] at h2;injection h2 with h2;injection h2
    clear h2
    repeat' (first|refine qo ?_|(first|((refine Xk (first:=[]) (cap:=[.op 1 0 0]) 0 1 [] (qr Tryz.func43 rfl rfl) (c2) rfl (⟨rfl,yo⟩) ?_);(repeat (first|exact qE 15 rfl|exact ⟨15,rfl⟩|(apply qF;apply qa;apply qZ;rfl;rfl;rfl;(first|rfl|assumption|(apply qd;assumption)|(apply qd;apply qd;assumption));(conv=>lhs;whnf);exact nle rfl)|refine qG (d:=15) rfl (nle rfl) ?_|(apply qL;exact nle rfl;refine ⟨?_,?_⟩;(first|exact fun h=>absurd h Bool.false_ne_true|(intro _;kernel_rfl)))));done))|(refine xsS ?_ ?_;all_goals first|exact False.elim|intro hp hc)|refine xsA ?_ ?_)
    all_goals (exfalso;omega)
   ·clear h2
    repeat' (first|refine qo ?_|(first|((refine Xk (first:=[]) (cap:=[.op 1 0 0]) 0 1 [] (qr Tryz.func43 rfl rfl) (c2) rfl (⟨rfl,yo⟩) ?_);(repeat (first|exact qE 15 rfl|exact ⟨15,rfl⟩|(apply qF;apply qa;apply qZ;rfl;rfl;rfl;(first|rfl|assumption|(apply qd;assumption)|(apply qd;apply qd;assumption));(conv=>lhs;whnf);exact nle rfl)|refine qG (d:=15) rfl (nle rfl) ?_|(apply qL;exact nle rfl;refine ⟨?_,?_⟩;(first|exact fun h=>absurd h Bool.false_ne_true|(intro _;kernel_rfl)))));done))|(refine xsS ?_ ?_;all_goals first|exact False.elim|intro hp hc)|refine xsA ?_ ?_)
    all_goals (exfalso;omega)
theorem qcL (s r:qb) (l:List Com) (hs:s.length ≤ 1000000000) (h:Ji s = some (l,r)):qf C2.P 45 [.op 0 0 0,.v (.int .i64 10),.clo (.func 46) [] [.op 1 0 0]] [jZ s,ji 0] (yv l) [jZ r,ji 0]:=by
 obtain ⟨m,s0,h1,hm,h2⟩:=WW h;have c1:=V7 _ s s0 m hs h1;have hl0:=Qv h1;have hpl : ∀ s x r,XO s = some (x,r) → r.length ≤ s.length:=fun _ _ _ h=>Vs h
 have hlm:=(y6 hpl h2).1;clear h h1;refine qJ (C:=C2) 2 ?_
 repeat' (first|refine qo ?_|(first|(refine qT 0 qi (c1) ?_))|(refine xsS ?_ ?_;all_goals first|exact False.elim|intro hp hc)|refine xsA ?_ ?_)
 (refine xsK (τ:=⟨[(7,.sl true []),(10,.v (.int .i64 (m:Int))),(11,.v (.int .i64 ((0:Nat):Int))),(2,.clo (.func 46) [] [.op 1 0 0])],[(0,jZ s0),(1,ji 0)],2⟩) [] qnF qeX ?_)
 refine qB (fun n σ => ∃ (i:Nat) (r' : qb),i ≤ m ∧ n = m - i ∧ yQ XO s0 i = some (l.take i,r') ∧ ((i = 0 ∧ σ = ⟨[(7,.sl true []),(10,.v (.int .i64 (m:Int))),(11,.v (.int .i64 ((0:Nat):Int))),(2,.clo (.func 46) [] [.op 1 0 0])],[(0,jZ s0),(1,ji 0)],2⟩) ∨ (0 < i ∧ σ = ⟨[(7,.os 2 0 i),(10,.v (.int .i64 (m:Int))),(11,.v (.int .i64 (i:Int))),(2,.clo (.func 46) [] [.op 1 0 0])],[(0,jZ r'),(1,ji 0),(2,.own false 3 ((l.take i).map Com.row))],3⟩))) m ⟨0,s0,Nat.zero_le _,rfl,rfl,.inl ⟨rfl,rfl⟩⟩ ?_;rintro n σ ⟨i,r',hi,rfl,hrep,hst⟩;by_cases hlt:i < m
 ·obtain ⟨x,r2,hx,hrep2,htk⟩:=Qm h2 hlt hrep;have hr1:=(y6 hpl hrep).2;have c2:=qnQ r' r2 x (by omega) hx;have hrr:r2.length ≤ r'.length:=Vs hx
  rcases hst with ⟨rfl,rfl⟩|⟨hp,rfl⟩
  ·obtain rfl:s0 = r':=by
    simp only [yQ] at hrep;injection hrep with hrep;injection hrep
   clear h2 hrep hx hpl
   repeat' (first|refine qo ?_|(first|(refine jd ?_)|(refine YP (first:=[]) (cap:=[.op 1 0 0]) 0 1 Tryz.func46 (c2) ?_)|(refine vm ?_))|(refine xsS ?_ ?_;all_goals first|exact False.elim|intro hp hc)|refine xsA ?_ ?_)
   all_goals try (exfalso;omega)
   all_goals (refine ⟨m - (0 + 1),⟨[(7,.os 2 0 (0 + 1)),(10,.v (.int .i64 (m:Int))),(11,.v (.int .i64 ((0 + 1:Nat):Int))),(2,.clo (.func 46) [] [.op 1 0 0])],[(0,jZ r2),(1,ji 0),(2,.own false 3 ((l.take (0 + 1)).map Com.row))],3⟩,by omega,?_,⟨0 + 1,r2,by omega,rfl,by rw [htk];exact hrep2,.inr ⟨Nat.succ_pos _,rfl⟩⟩⟩;refine jH [(2,2)] rfl ?gts ?ghs;(case gts=>exact qeW);(case ghs=>exact qp2))
  ·have hlen:(l.take i).length = i:=by rw [List.length_take];omega
   have hml:((l.take i).map Com.row).length = i:=by rw [List.length_map];exact hlen
   clear h2 hrep hx hpl
   repeat' (first|refine qo ?_|(first|(refine jd ?_)|(refine YP (first:=[]) (cap:=[.op 1 0 0]) 0 1 Tryz.func46 (c2) ?_)|(refine vF ?_))|(refine xsS ?_ ?_;all_goals first|exact False.elim|intro hp hc)|refine xsA ?_ ?_)
   all_goals try (exfalso;omega)
   all_goals (refine ⟨m - (i + 1),⟨[(7,.os 2 0 (i + 1)),(10,.v (.int .i64 (m:Int))),(11,.v (.int .i64 ((i + 1:Nat):Int))),(2,.clo (.func 46) [] [.op 1 0 0])],[(0,jZ r2),(1,ji 0),(2,.own false 3 ((l.take (i + 1)).map Com.row))],3⟩,by omega,?_,⟨i + 1,r2,by omega,rfl,by rw [htk];exact hrep2,.inr ⟨Nat.succ_pos _,rfl⟩⟩⟩;refine jH [(3,2)] rfl ?gts ?ghs;(case gts=>exact qeW);(case ghs=>exact qpT))
 ·obtain rfl:i = m:=by omega
  rw [h2] at hrep;injection hrep with hrep;injection hrep with e1 e2;subst e2;rw [← e1] at hst;clear e1
  rcases hst with ⟨rfl,rfl⟩|⟨hp,rfl⟩
  ·obtain rfl:l = []:=List.eq_nil_of_length_eq_zero hlm
   obtain rfl:s0 = r:=by
    simp only [yQ] at h2;injection h2 with h2;injection h2
   clear h2;unfold yv;refine Awp.red (jH (τ:=⟨[(7,.sl false []),(10,.v (.int .i64 ((0:Nat):Int))),(11,.v (.int .i64 ((0:Nat):Int)))],[(0,jZ s0),(1,ji 0)],2⟩) [] rfl ?gts9 ?ghs9) ?_
   case gts9 =>
    refine qov ?_
    (repeat (first|exact qx|refine jz ?_|refine wm ?_|refine QL ?_|refine X2 ?_|refine QM ?_ ?_|refine xy ?_ ?_))
    all_goals rfl
   case ghs9=>refine VN (q:=0) (b:=1) rfl rfl (qp rfl) (qp rfl) ?_ qn;all_goals (first|(with_reducible rfl)|rfl)
   repeat' (first|refine qo ?_|fail|(refine xsS ?_ ?_;all_goals first|exact False.elim|intro hp hc)|refine xsA ?_ ?_)
   all_goals try (exfalso;omega)
   all_goals ((exact yp (rs:=[.tmp 6]) [] 2 qeX))
  ·clear h2;unfold yv;refine Awp.red (QO 2 rfl (Wx l)) ?_;refine Awp.red (qgv 7 2 rfl rfl (by rw [List.length_map];omega)) ?_
   repeat' (first|refine qo ?_|fail|(refine xsS ?_ ?_;all_goals first|exact False.elim|intro hp hc)|refine xsA ?_ ?_)
   all_goals try (exfalso;omega)
   all_goals ((exact yp (rs:=[.tmp 6]) [] 2 qeX))
theorem qew (s:qb) (hs:s.length ≤ 1000000000) (h:Ji s = none):vj C2.P 45 [.op 0 0 0,.v (.int .i64 10),.clo (.func 46) [] [.op 1 0 0]] [jZ s,ji 0] Qt noH:=by
 rcases ZP h with h1|⟨m,k,s0,l,r,h1,hm,hkm,h2,h3⟩
 ·have c1:=Jv _ s hs h1;refine qu (C:=C2) Tryz.func45 rfl _ Tryz.ntmps45 (Nat.le_of_ble_eq_true rfl) 2 rfl rfl ?_
  repeat' (first|refine qo ?_|(first|((refine j7 (first:=[]) (cap:=[]) 0 [] (qr Tryz.func110 rfl rfl) (c1) rfl (⟨rfl,yo⟩) ?_);(repeat (first|exact qE 10 rfl|exact ⟨10,rfl⟩|refine qG (d:=10) rfl (nle rfl) ?_|(apply qL;exact nle rfl;refine ⟨?_,?_⟩;(first|exact fun h=>absurd h Bool.false_ne_true|(intro _;kernel_rfl)))));done))|(refine xsS ?_ ?_;all_goals first|exact False.elim|intro hp hc)|refine xsA ?_ ?_)
 ·have c1:=V7 _ s s0 m hs h1;have hl0:=Qv h1;have hpl : ∀ s x r,XO s = some (x,r) → r.length ≤ s.length:=fun _ _ _ h=>Vs h
  have hlm:=(y6 hpl h2).1;clear h h1;refine qu (C:=C2) Tryz.func45 rfl _ Tryz.ntmps45 (Nat.le_of_ble_eq_true rfl) 2 rfl rfl ?_
  repeat' (first|refine qo ?_|(first|(refine qT 0 qi (c1) ?_))|(refine xsS ?_ ?_;all_goals first|exact False.elim|intro hp hc)|refine xsA ?_ ?_)
  (refine xsK (τ:=⟨[(7,.sl true []),(10,.v (.int .i64 (m:Int))),(11,.v (.int .i64 ((0:Nat):Int))),(2,.clo (.func 46) [] [.op 1 0 0])],[(0,jZ s0),(1,ji 0)],2⟩) [] qnF qeX ?_)
  refine qB (fun n σ => ∃ (i:Nat) (r' : qb),i ≤ k ∧ n = k - i ∧ yQ XO s0 i = some (l.take i,r') ∧ ((i = 0 ∧ σ = ⟨[(7,.sl true []),(10,.v (.int .i64 (m:Int))),(11,.v (.int .i64 ((0:Nat):Int))),(2,.clo (.func 46) [] [.op 1 0 0])],[(0,jZ s0),(1,ji 0)],2⟩) ∨ (0 < i ∧ σ = ⟨[(7,.os 2 0 i),(10,.v (.int .i64 (m:Int))),(11,.v (.int .i64 (i:Int))),(2,.clo (.func 46) [] [.op 1 0 0])],[(0,jZ r'),(1,ji 0),(2,.own false 3 ((l.take i).map Com.row))],3⟩))) k ⟨0,s0,Nat.zero_le _,rfl,rfl,.inl ⟨rfl,rfl⟩⟩ ?_;rintro n σ ⟨i,r',hi,rfl,hrep,hst⟩;by_cases hlt:i < k
  ·obtain ⟨x,r2,hx,hrep2,htk⟩:=Qm h2 hlt hrep;have hr1:=(y6 hpl hrep).2;have c2:=qnQ r' r2 x (by omega) hx;have hrr:r2.length ≤ r'.length:=Vs hx
   rcases hst with ⟨rfl,rfl⟩|⟨hp,rfl⟩
   ·obtain rfl:s0 = r':=by
     simp only [yQ] at hrep;injection hrep with hrep;injection hrep
    clear h2 hrep hx hpl
    repeat' (first|refine qo ?_|(first|(refine jd ?_)|(refine YP (first:=[]) (cap:=[.op 1 0 0]) 0 1 Tryz.func46 (c2) ?_)|(refine vm ?_))|(refine xsS ?_ ?_;all_goals first|exact False.elim|intro hp hc)|refine xsA ?_ ?_)
    all_goals try (exfalso;omega)
    all_goals (refine ⟨k - (0 + 1),⟨[(7,.os 2 0 (0 + 1)),(10,.v (.int .i64 (m:Int))),(11,.v (.int .i64 ((0 + 1:Nat):Int))),(2,.clo (.func 46) [] [.op 1 0 0])],[(0,jZ r2),(1,ji 0),(2,.own false 3 ((l.take (0 + 1)).map Com.row))],3⟩,by omega,?_,⟨0 + 1,r2,by omega,rfl,by rw [htk];exact hrep2,.inr ⟨Nat.succ_pos _,rfl⟩⟩⟩;refine jH [(2,2)] rfl ?gts ?ghs;(case gts=>exact qeW);(case ghs=>exact qp2))
   ·have hlen:(l.take i).length = i:=by rw [List.length_take];omega
    have hml:((l.take i).map Com.row).length = i:=by rw [List.length_map];exact hlen
    clear h2 hrep hx hpl
    repeat' (first|refine qo ?_|(first|(refine jd ?_)|(refine YP (first:=[]) (cap:=[.op 1 0 0]) 0 1 Tryz.func46 (c2) ?_)|(refine vF ?_))|(refine xsS ?_ ?_;all_goals first|exact False.elim|intro hp hc)|refine xsA ?_ ?_)
    all_goals try (exfalso;omega)
    all_goals (refine ⟨k - (i + 1),⟨[(7,.os 2 0 (i + 1)),(10,.v (.int .i64 (m:Int))),(11,.v (.int .i64 ((i + 1:Nat):Int))),(2,.clo (.func 46) [] [.op 1 0 0])],[(0,jZ r2),(1,ji 0),(2,.own false 3 ((l.take (i + 1)).map Com.row))],3⟩,by omega,?_,⟨i + 1,r2,by omega,rfl,by rw [htk];exact hrep2,.inr ⟨Nat.succ_pos _,rfl⟩⟩⟩;refine jH [(3,2)] rfl ?gts ?ghs;(case gts=>exact qeW);(case ghs=>exact qpT))
  ·obtain rfl:i = k:=by omega
   rw [h2] at hrep;injection hrep with hrep;injection hrep with e1 e2;subst e2;have hr1:=(y6 hpl h2).2;have c2:=qja r (by omega) h3;clear e1 hpl
   rcases hst with ⟨rfl,rfl⟩|⟨hp,rfl⟩
   ·obtain rfl:s0 = r:=by
     simp only [yQ] at h2;injection h2 with h2;injection h2
    clear h2
    repeat' (first|refine qo ?_|(first|((refine Xk (first:=[]) (cap:=[.op 1 0 0]) 0 1 [] (qr Tryz.func46 rfl rfl) (c2) rfl (⟨rfl,yo⟩) ?_);(repeat (first|exact qE 15 rfl|exact ⟨15,rfl⟩|(apply qF;apply qa;apply qZ;rfl;rfl;rfl;(first|rfl|assumption|(apply qd;assumption)|(apply qd;apply qd;assumption));(conv=>lhs;whnf);exact nle rfl)|refine qG (d:=15) rfl (nle rfl) ?_|(apply qL;exact nle rfl;refine ⟨?_,?_⟩;(first|exact fun h=>absurd h Bool.false_ne_true|(intro _;kernel_rfl)))));done))|(refine xsS ?_ ?_;all_goals first|exact False.elim|intro hp hc)|refine xsA ?_ ?_)
    all_goals (exfalso;omega)
   ·clear h2
    repeat' (first|refine qo ?_|(first|((refine Xk (first:=[]) (cap:=[.op 1 0 0]) 0 1 [] (qr Tryz.func46 rfl rfl) (c2) rfl (⟨rfl,yo⟩) ?_);(repeat (first|exact qE 15 rfl|exact ⟨15,rfl⟩|(apply qF;apply qa;apply qZ;rfl;rfl;rfl;(first|rfl|assumption|(apply qd;assumption)|(apply qd;apply qd;assumption));(conv=>lhs;whnf);exact nle rfl)|refine qG (d:=15) rfl (nle rfl) ?_|(apply qL;exact nle rfl;refine ⟨?_,?_⟩;(first|exact fun h=>absurd h Bool.false_ne_true|(intro _;kernel_rfl)))));done))|(refine xsS ?_ ?_;all_goals first|exact False.elim|intro hp hc)|refine xsA ?_ ?_)
    all_goals (exfalso;omega)
end Go.Proofs.YtgcncinnlmjgdaaGreatDoor
namespace Go.Ab
open Go.RowKit
section ops
variable {C:Cx} {N d:Nat} {ty:TypeId} {pos:String} {af:Array Edge} {gd:Option (Nat × Bool)} {t:Nat → AV} {h:Nat → HB}
theorem qnb {row xs:List AV} (hl:xs.length = row.length):kL row 0 xs = xs:=by
 unfold kL;rw [List.take_zero,Nat.zero_add,hl,List.drop_length];simp
theorem zC (T:TypeId) (p x:Operand) (n:Nat) (ex:Bool) (k:Nat) (r:TRec) (row xs:List AV) (hp:evA t p = .op n 0 0) (hn:h n = .own ex k [row]) (hT:qD C.tab T = some r) (hx:evA t x = .agg xs)
  (hc:xs.all jj = true) (hs:xs.length = r.size) (hl:xs.length = row.length) :
  qz C.P N ⟨none,.store T p x,ty,pos,af,gd⟩ t h ⟨qW p ++ qW x,[n],none,.junk,[(n,.own ex k [xs])],[]⟩:=by
 have hxc:cellsOf (evA t x) = xs:=by rw [hx];rfl
 have h1:=Jl (C:=C) (N:=N) (ty:=ty) (pos:=pos) (af:=af) (gd:=gd) T p x n 0 0 ex k [row] r row hp hn hT rfl (by rw [hxc];exact hc) (by rw [hxc];exact hs) (by rw [hxc];omega);rw [hxc,qnb hl] at h1;exact h1
end ops
end Go.Ab
namespace Go.Proofs.YtgcncinnlmjgdaaGreatDoor
open Go.Ab Go.RowKit
theorem wy {s r:qb} {l:List Ent} (h:Zk s = some (l,r)):r.length ≤ s.length:=by
 rw [(rd_tre.of _ _ _ h).1,List.length_append];omega
theorem Jj {s r:qb} {l:List Com} (h:Ji s = some (l,r)):r.length ≤ s.length:=by
 rw [(rd_coms.of _ _ _ h).1,List.length_append];omega
theorem qkE {e:Ent} (h:qkD e) (hl:(Yy e).length ≤ 1000000000):e.fit:=by
 obtain ⟨h1,h2,h3⟩:=h;unfold Yy at hl;simp only [List.length_append] at hl;have a:=vJ e.path;have b:=vJ e.text;exact ⟨by omega,by omega,h3⟩
theorem qkt {c:Com} (h:qks c) (hl:(Ww c).length ≤ 1000000000):c.fit:=by
 obtain ⟨h1,h2,h3⟩:=h;unfold Ww at hl;simp only [List.length_append] at hl;have a:=vJ c.key;exact ⟨h1,by omega,qbc h3 (by omega),by have:=h3.1;omega⟩
theorem Ja {s r:qb} {l:List Ent} (h:Zk s = some (l,r)) (hs:s.length ≤ 1000000000):(∀ x,x ∈ l → x.fit) ∧ l.length ≤ 1000000000:=by
 obtain ⟨e,h1,h2⟩:=rd_tre.of _ _ _ h
 have hl:(VT Yy l).length ≤ 1000000000:=by
  have:=congrArg List.length e;rw [List.length_append] at this;omega
 exact ⟨fun x hx=>qkE (h2 x hx) (Nat.le_trans (WX Yy hx) hl),by omega⟩
theorem Jk {s r:qb} {l:List Com} (h:Ji s = some (l,r)) (hs:s.length ≤ 1000000000):(∀ x,x ∈ l → x.fit) ∧ l.length ≤ 1000000000:=by
 obtain ⟨e,h1,h2⟩:=rd_coms.of _ _ _ h
 have hl:(VT Ww l).length ≤ 1000000000:=by
  have:=congrArg List.length e;rw [List.length_append] at this;omega
 exact ⟨fun x hx=>qkt (h2 x hx) (Nat.le_trans (WX Ww hx) hl),by omega⟩
theorem qdt {s r:qb} {x:_} (h:KE s = some (x,r)) : ∃ s1 s2 s3 s4 s5 s6,je s = some (x.err,s1) ∧ je s1 = some (x.num,s2) ∧ ky s2 = some (x.page.reset,s3) ∧ Zk s3 = some (x.page.tree,s4) ∧ Ji s4 = some (x.page.coms,s5) ∧ je s5 = some (x.page.cur,s6) ∧ ky s6 = some (x.page.more,r):=by
 unfold KE at h
 repeat' (split at h)
 all_goals first
  | (cases h;done)
  | skip
 rename_i h1 _ _ _ h2 _ _ _ h3 _ _ _ h4 _ _ _ h5 _ _ _ h6 _ _ _ h7;injection h with h;injection h with e1 e2;subst e1 e2;exact ⟨_,_,_,_,_,_,h1,h2,h3,h4,h5,h6,h7⟩
theorem qin {s:qb} (h:KE s = none):je s = none ∨ ∃ a s1,je s = some (a,s1) ∧ (je s1 = none ∨ ∃ b s2,je s1 = some (b,s2) ∧ (ky s2 = none ∨ ∃ c s3,ky s2 = some (c,s3) ∧ (Zk s3 = none ∨ ∃ d s4,Zk s3 = some (d,s4) ∧ (Ji s4 = none ∨ ∃ e s5,Ji s4 = some (e,s5) ∧ (je s5 = none ∨ ∃ f s6,je s5 = some (f,s6) ∧ (ky s6 = none)))))):=by
 unfold KE at h
 cases h1:je s with
 | none=>exact .inl rfl
 | some z =>
   obtain ⟨v1,s1⟩:=z;rw [h1] at h;simp only at h;refine .inr ⟨v1,s1,rfl,?_⟩
   cases h2:je s1 with
   | none=>exact .inl rfl
   | some z =>
     obtain ⟨v2,s2⟩:=z;rw [h2] at h;simp only at h;refine .inr ⟨v2,s2,rfl,?_⟩
     cases h3:ky s2 with
     | none=>exact .inl rfl
     | some z =>
       obtain ⟨v3,s3⟩:=z;rw [h3] at h;simp only at h;refine .inr ⟨v3,s3,rfl,?_⟩
       cases h4:Zk s3 with
       | none=>exact .inl rfl
       | some z =>
         obtain ⟨v4,s4⟩:=z;rw [h4] at h;simp only at h;refine .inr ⟨v4,s4,rfl,?_⟩
         cases h5:Ji s4 with
         | none=>exact .inl rfl
         | some z =>
           obtain ⟨v5,s5⟩:=z;rw [h5] at h;simp only at h;refine .inr ⟨v5,s5,rfl,?_⟩
           cases h6:je s5 with
           | none=>exact .inl rfl
           | some z =>
             obtain ⟨v6,s6⟩:=z;rw [h6] at h;simp only at h;refine .inr ⟨v6,s6,rfl,?_⟩
             cases h7:ky s6 with
             | none=>rfl
             | some z =>
               rw [h7] at h;cases h
def Yo (a:Ans) (x1 x2:Bool):List AV:=[.v (.int .i64 a.err),.v (.int .i64 a.num),.v (.bool a.page.reset),.sl x1 (a.page.tree.map Ent.row),.sl x2 (a.page.coms.map Com.row),.v (.int .i64 a.page.cur),.v (.bool a.page.more)]
attribute [local irreducible] Awp j9 jr ye Red qz Go.Ab.Fin qf Rz wz jF jU ResOk yA j1 xR qX
theorem qpD (s r:qb) (a:Ans) (hs:s.length ≤ 1000000000) (h:KE s = some (a,r)):qf C2.P 39 [.op 0 0 0,.op 1 0 0] [jZ s,.own true 7 [[.v (.int .i64 0),.v (.int .i64 0),.v (.bool false),.sl false [],.sl false [],.v (.int .i64 0),.v (.bool false)]]] (.tup []) [jZ r,.own true 7 [a.row]]:=by
 obtain ⟨s1,s2,s3,s4,s5,s6,h1,h2,h3,h4,h5,h6,h7⟩:=qdt h;clear h;obtain ⟨v1,v2,v3,v4,v5,v6,v7⟩:=a;dsimp only at *;have c1:=yc s s1 _ (by omega) h1;have l1:=qw h1;have c2:=yc s1 s2 _ (by omega) h2;have l2:=qw h2;have c3:=V8 s2 s3 _ (by omega) h3;have l3:=xQ h3;have c4:=K2 s3 s4 _ (by omega) h4;have l4:=wy h4;have c5:=qcL s4 s5 _ (by omega) h5;have l5:=Jj h5;have c6:=yc s5 s6 _ (by omega) h6;have l6:=qw h6;have c7:=V8 s6 r _ (by omega) h7;have l7:=xQ h7;clear h1 h2 h3 h4 h5 h6 h7;unfold Ans.row qU yv at *;refine qJ (C:=C2) 2 ?_
 repeat' (first|(first|(apply qP;apply zB;(case hp=>rfl);(case hn=>rfl);(case hT=>exact Xw);(case hx=>(conv=>lhs;whnf));(case hc=>rfl);(case hl=>rfl);(case hs=>rfl);(case hj=>exact nle rfl);(case he=>exact qeY))|(apply qP;apply zC;(case hp=>rfl);(case hn=>rfl);(case hT=>exact Xw);(case hx=>rfl);(case hc=>rfl);(case hs=>rfl);(case hl=>rfl))|(apply qa;apply (xH (T:=48) (cs:=[.v (.int .i64 v1),.v (.int .i64 v2),.v (.bool false),.sl true [],.sl true [],.v (.int .i64 0),.v (.bool false)]));rfl;rfl;rfl;kernel_rfl;exact nle rfl)|(refine qT 0 qi (c1) ?_)|(refine qT 0 qi (c2) ?_)|(refine qT 0 qi (c3) ?_)|(refine W6 0 2 qi (c4) ?_)|(refine W6 0 2 qi (c5) ?_)|(refine qT 0 qi (c6) ?_)|(refine qT 0 qi (c7) ?_))|refine qo ?_|(refine xsS ?_ ?_;all_goals first|exact False.elim|intro hp hc)|refine xsA ?_ ?_)
 all_goals ((exact yp (rs:=[]) [] 2 qqg))
theorem qge (s:qb) (hs:s.length ≤ 1000000000) (h1:je s = none):vj C2.P 39 [.op 0 0 0,.op 1 0 0] [jZ s,.own true 7 [[.v (.int .i64 0),.v (.int .i64 0),.v (.bool false),.sl false [],.sl false [],.v (.int .i64 0),.v (.bool false)]]] Qt (fun H' => ∃ x,H' = [x,.own true 7 [Yo ⟨0,0,⟨false,[],[],0,false⟩⟩ false false]]):=by
 have cd:=xD s (by omega) h1;clear h1;unfold Yo;dsimp only [List.map_nil];refine qu (C:=C2) Tryz.func39 rfl _ Tryz.ntmps39 (Nat.le_of_ble_eq_true rfl) 2 rfl rfl ?_
 repeat' (first|(first|(apply qP;apply zB;(case hp=>rfl);(case hn=>rfl);(case hT=>exact Xw);(case hx=>(conv=>lhs;whnf));(case hc=>rfl);(case hl=>rfl);(case hs=>rfl);(case hj=>exact nle rfl);(case he=>exact qeY))|(apply qP;apply zC;(case hp=>rfl);(case hn=>rfl);(case hT=>exact Xw);(case hx=>rfl);(case hc=>rfl);(case hs=>rfl);(case hl=>rfl))|((refine j7 (first:=[]) (cap:=[]) 0 [1] (qr Tryz.func40 rfl rfl) (cd) rfl (⟨rfl,xE rfl⟩) ?_);(repeat (first|exact qE 4 rfl|exact ⟨4,rfl⟩|(apply qF;apply qa;apply qZ;rfl;rfl;rfl;(first|rfl|assumption|(apply qd;assumption)|(apply qd;apply qd;assumption));(conv=>lhs;whnf);exact nle rfl)|refine qG (d:=4) rfl (nle rfl) ?_|(apply qL;exact nle rfl;refine ⟨?_,?_⟩;(first|exact fun h=>absurd h Bool.false_ne_true|(intro _;kernel_rfl)))));done))|refine qo ?_|(refine xsS ?_ ?_;all_goals first|exact False.elim|intro hp hc)|refine xsA ?_ ?_)
theorem qgf (s:qb) (hs:s.length ≤ 1000000000) {v1:Int} {s1:qb} (h1:je s = some (v1,s1)) (h2:je s1 = none):vj C2.P 39 [.op 0 0 0,.op 1 0 0] [jZ s,.own true 7 [[.v (.int .i64 0),.v (.int .i64 0),.v (.bool false),.sl false [],.sl false [],.v (.int .i64 0),.v (.bool false)]]] Qt (fun H' => ∃ x,H' = [x,.own true 7 [Yo ⟨0,0,⟨false,[],[],0,false⟩⟩ false false]]):=by
 have c1:=yc s s1 _ (by omega) h1;have l1:=qw h1;have cd:=xD s1 (by omega) h2;clear h1 h2;unfold Yo;dsimp only [List.map_nil];refine qu (C:=C2) Tryz.func39 rfl _ Tryz.ntmps39 (Nat.le_of_ble_eq_true rfl) 2 rfl rfl ?_
 repeat' (first|(first|(apply qP;apply zB;(case hp=>rfl);(case hn=>rfl);(case hT=>exact Xw);(case hx=>(conv=>lhs;whnf));(case hc=>rfl);(case hl=>rfl);(case hs=>rfl);(case hj=>exact nle rfl);(case he=>exact qeY))|(apply qP;apply zC;(case hp=>rfl);(case hn=>rfl);(case hT=>exact Xw);(case hx=>rfl);(case hc=>rfl);(case hs=>rfl);(case hl=>rfl))|(refine qT 0 qi (c1) ?_)|((refine j7 (first:=[]) (cap:=[]) 0 [1] (qr Tryz.func40 rfl rfl) (cd) rfl (⟨rfl,xE rfl⟩) ?_);(repeat (first|exact qE 6 rfl|exact ⟨6,rfl⟩|(apply qF;apply qa;apply qZ;rfl;rfl;rfl;(first|rfl|assumption|(apply qd;assumption)|(apply qd;apply qd;assumption));(conv=>lhs;whnf);exact nle rfl)|refine qG (d:=6) rfl (nle rfl) ?_|(apply qL;exact nle rfl;refine ⟨?_,?_⟩;(first|exact fun h=>absurd h Bool.false_ne_true|(intro _;kernel_rfl)))));done))|refine qo ?_|(refine xsS ?_ ?_;all_goals first|exact False.elim|intro hp hc)|refine xsA ?_ ?_)
theorem qgg (s:qb) (hs:s.length ≤ 1000000000) {v1:Int} {v2:Int} {s1:qb} {s2:qb} (h1:je s = some (v1,s1)) (h2:je s1 = some (v2,s2)) (h3:ky s2 = none):vj C2.P 39 [.op 0 0 0,.op 1 0 0] [jZ s,.own true 7 [[.v (.int .i64 0),.v (.int .i64 0),.v (.bool false),.sl false [],.sl false [],.v (.int .i64 0),.v (.bool false)]]] Qt (fun H' => ∃ x,H' = [x,.own true 7 [Yo ⟨v1,v2,⟨false,[],[],0,false⟩⟩ true true]]):=by
 have c1:=yc s s1 _ (by omega) h1;have l1:=qw h1;have c2:=yc s1 s2 _ (by omega) h2;have l2:=qw h2;have cd:=Z1 s2 (by omega) h3;clear h1 h2 h3;unfold Yo;dsimp only [List.map_nil];refine qu (C:=C2) Tryz.func39 rfl _ Tryz.ntmps39 (Nat.le_of_ble_eq_true rfl) 2 rfl rfl ?_
 repeat' (first|(first|(apply qP;apply zB;(case hp=>rfl);(case hn=>rfl);(case hT=>exact Xw);(case hx=>(conv=>lhs;whnf));(case hc=>rfl);(case hl=>rfl);(case hs=>rfl);(case hj=>exact nle rfl);(case he=>exact qeY))|(apply qP;apply zC;(case hp=>rfl);(case hn=>rfl);(case hT=>exact Xw);(case hx=>rfl);(case hc=>rfl);(case hs=>rfl);(case hl=>rfl))|(apply qa;apply (xH (T:=48) (cs:=[.v (.int .i64 v1),.v (.int .i64 v2),.v (.bool false),.sl true [],.sl true [],.v (.int .i64 0),.v (.bool false)]));rfl;rfl;rfl;kernel_rfl;exact nle rfl)|(refine qT 0 qi (c1) ?_)|(refine qT 0 qi (c2) ?_)|((refine j7 (first:=[]) (cap:=[]) 0 [1] (qr Tryz.func41 rfl rfl) (cd) rfl (⟨rfl,xE rfl⟩) ?_);(repeat (first|exact qE 9 rfl|exact ⟨9,rfl⟩|(apply qF;apply qa;apply qZ;rfl;rfl;rfl;(first|rfl|assumption|(apply qd;assumption)|(apply qd;apply qd;assumption));(conv=>lhs;whnf);exact nle rfl)|refine qG (d:=9) rfl (nle rfl) ?_|(apply qL;exact nle rfl;refine ⟨?_,?_⟩;(first|exact fun h=>absurd h Bool.false_ne_true|(intro _;kernel_rfl)))));done))|refine qo ?_|(refine xsS ?_ ?_;all_goals first|exact False.elim|intro hp hc)|refine xsA ?_ ?_)
theorem qgh (s:qb) (hs:s.length ≤ 1000000000) {v1:Int} {v2:Int} {v3:Bool} {s1:qb} {s2:qb} {s3:qb} (h1:je s = some (v1,s1)) (h2:je s1 = some (v2,s2)) (h3:ky s2 = some (v3,s3)) (h4:Zk s3 = none):vj C2.P 39 [.op 0 0 0,.op 1 0 0] [jZ s,.own true 7 [[.v (.int .i64 0),.v (.int .i64 0),.v (.bool false),.sl false [],.sl false [],.v (.int .i64 0),.v (.bool false)]]] Qt (fun H' => ∃ x,H' = [x,.own true 7 [Yo ⟨v1,v2,⟨v3,[],[],0,false⟩⟩ true true]]):=by
 have c1:=yc s s1 _ (by omega) h1;have l1:=qw h1;have c2:=yc s1 s2 _ (by omega) h2;have l2:=qw h2;have c3:=V8 s2 s3 _ (by omega) h3;have l3:=xQ h3;have cd:=qev s3 (by omega) h4;clear h1 h2 h3 h4;unfold Yo;dsimp only [List.map_nil];refine qu (C:=C2) Tryz.func39 rfl _ Tryz.ntmps39 (Nat.le_of_ble_eq_true rfl) 2 rfl rfl ?_
 repeat' (first|(first|(apply qP;apply zB;(case hp=>rfl);(case hn=>rfl);(case hT=>exact Xw);(case hx=>(conv=>lhs;whnf));(case hc=>rfl);(case hl=>rfl);(case hs=>rfl);(case hj=>exact nle rfl);(case he=>exact qeY))|(apply qP;apply zC;(case hp=>rfl);(case hn=>rfl);(case hT=>exact Xw);(case hx=>rfl);(case hc=>rfl);(case hs=>rfl);(case hl=>rfl))|(apply qa;apply (xH (T:=48) (cs:=[.v (.int .i64 v1),.v (.int .i64 v2),.v (.bool false),.sl true [],.sl true [],.v (.int .i64 0),.v (.bool false)]));rfl;rfl;rfl;kernel_rfl;exact nle rfl)|(refine qT 0 qi (c1) ?_)|(refine qT 0 qi (c2) ?_)|(refine qT 0 qi (c3) ?_)|((refine Xk (first:=[]) (cap:=[]) 0 2 [1] (qr Tryz.func42 rfl rfl) (cd) rfl (⟨rfl,xE rfl⟩) ?_);(repeat (first|exact qE 14 rfl|exact ⟨14,rfl⟩|(apply qF;apply qa;apply qZ;rfl;rfl;rfl;(first|rfl|assumption|(apply qd;assumption)|(apply qd;apply qd;assumption));(conv=>lhs;whnf);exact nle rfl)|refine qG (d:=14) rfl (nle rfl) ?_|(apply qL;exact nle rfl;refine ⟨?_,?_⟩;(first|exact fun h=>absurd h Bool.false_ne_true|(intro _;kernel_rfl)))));done))|refine qo ?_|(refine xsS ?_ ?_;all_goals first|exact False.elim|intro hp hc)|refine xsA ?_ ?_)
theorem qgi (s:qb) (hs:s.length ≤ 1000000000) {v1:Int} {v2:Int} {v3:Bool} {v4:List Ent} {s1:qb} {s2:qb} {s3:qb} {s4:qb} (h1:je s = some (v1,s1)) (h2:je s1 = some (v2,s2)) (h3:ky s2 = some (v3,s3)) (h4:Zk s3 = some (v4,s4)) (h5:Ji s4 = none):vj C2.P 39 [.op 0 0 0,.op 1 0 0] [jZ s,.own true 7 [[.v (.int .i64 0),.v (.int .i64 0),.v (.bool false),.sl false [],.sl false [],.v (.int .i64 0),.v (.bool false)]]] Qt (fun H' => ∃ x,H' = [x,.own true 7 [Yo ⟨v1,v2,⟨v3,v4,[],0,false⟩⟩ false true]]):=by
 have c1:=yc s s1 _ (by omega) h1;have l1:=qw h1;have c2:=yc s1 s2 _ (by omega) h2;have l2:=qw h2;have c3:=V8 s2 s3 _ (by omega) h3;have l3:=xQ h3;have c4:=K2 s3 s4 _ (by omega) h4;have l4:=wy h4;have cd:=qew s4 (by omega) h5;clear h1 h2 h3 h4 h5;unfold Yo;dsimp only [List.map_nil];unfold qU at c4;refine qu (C:=C2) Tryz.func39 rfl _ Tryz.ntmps39 (Nat.le_of_ble_eq_true rfl) 2 rfl rfl ?_
 repeat' (first|(first|(apply qP;apply zB;(case hp=>rfl);(case hn=>rfl);(case hT=>exact Xw);(case hx=>(conv=>lhs;whnf));(case hc=>rfl);(case hl=>rfl);(case hs=>rfl);(case hj=>exact nle rfl);(case he=>exact qeY))|(apply qP;apply zC;(case hp=>rfl);(case hn=>rfl);(case hT=>exact Xw);(case hx=>rfl);(case hc=>rfl);(case hs=>rfl);(case hl=>rfl))|(apply qa;apply (xH (T:=48) (cs:=[.v (.int .i64 v1),.v (.int .i64 v2),.v (.bool false),.sl true [],.sl true [],.v (.int .i64 0),.v (.bool false)]));rfl;rfl;rfl;kernel_rfl;exact nle rfl)|(refine qT 0 qi (c1) ?_)|(refine qT 0 qi (c2) ?_)|(refine qT 0 qi (c3) ?_)|(refine W6 0 2 qi (c4) ?_)|((refine Xk (first:=[]) (cap:=[]) 0 2 [1] (qr Tryz.func45 rfl rfl) (cd) rfl (⟨rfl,xE rfl⟩) ?_);(repeat (first|exact qE 19 rfl|exact ⟨19,rfl⟩|(apply qF;apply qa;apply qZ;rfl;rfl;rfl;(first|rfl|assumption|(apply qd;assumption)|(apply qd;apply qd;assumption));(conv=>lhs;whnf);exact nle rfl)|refine qG (d:=19) rfl (nle rfl) ?_|(apply qL;exact nle rfl;refine ⟨?_,?_⟩;(first|exact fun h=>absurd h Bool.false_ne_true|(intro _;kernel_rfl)))));done))|refine qo ?_|(refine xsS ?_ ?_;all_goals first|exact False.elim|intro hp hc)|refine xsA ?_ ?_)
theorem qgj (s:qb) (hs:s.length ≤ 1000000000) {v1:Int} {v2:Int} {v3:Bool} {v4:List Ent} {v5:List Com} {s1:qb} {s2:qb} {s3:qb} {s4:qb} {s5:qb} (h1:je s = some (v1,s1)) (h2:je s1 = some (v2,s2)) (h3:ky s2 = some (v3,s3)) (h4:Zk s3 = some (v4,s4)) (h5:Ji s4 = some (v5,s5)) (h6:je s5 = none):vj C2.P 39 [.op 0 0 0,.op 1 0 0] [jZ s,.own true 7 [[.v (.int .i64 0),.v (.int .i64 0),.v (.bool false),.sl false [],.sl false [],.v (.int .i64 0),.v (.bool false)]]] Qt (fun H' => ∃ x,H' = [x,.own true 7 [Yo ⟨v1,v2,⟨v3,v4,v5,0,false⟩⟩ false false]]):=by
 have c1:=yc s s1 _ (by omega) h1;have l1:=qw h1;have c2:=yc s1 s2 _ (by omega) h2;have l2:=qw h2;have c3:=V8 s2 s3 _ (by omega) h3;have l3:=xQ h3;have c4:=K2 s3 s4 _ (by omega) h4;have l4:=wy h4;have c5:=qcL s4 s5 _ (by omega) h5;have l5:=Jj h5;have cd:=xD s5 (by omega) h6;clear h1 h2 h3 h4 h5 h6;unfold Yo;dsimp only [List.map_nil];unfold qU at c4;unfold yv at c5;refine qu (C:=C2) Tryz.func39 rfl _ Tryz.ntmps39 (Nat.le_of_ble_eq_true rfl) 2 rfl rfl ?_
 repeat' (first|(first|(apply qP;apply zB;(case hp=>rfl);(case hn=>rfl);(case hT=>exact Xw);(case hx=>(conv=>lhs;whnf));(case hc=>rfl);(case hl=>rfl);(case hs=>rfl);(case hj=>exact nle rfl);(case he=>exact qeY))|(apply qP;apply zC;(case hp=>rfl);(case hn=>rfl);(case hT=>exact Xw);(case hx=>rfl);(case hc=>rfl);(case hs=>rfl);(case hl=>rfl))|(apply qa;apply (xH (T:=48) (cs:=[.v (.int .i64 v1),.v (.int .i64 v2),.v (.bool false),.sl true [],.sl true [],.v (.int .i64 0),.v (.bool false)]));rfl;rfl;rfl;kernel_rfl;exact nle rfl)|(refine qT 0 qi (c1) ?_)|(refine qT 0 qi (c2) ?_)|(refine qT 0 qi (c3) ?_)|(refine W6 0 2 qi (c4) ?_)|(refine W6 0 2 qi (c5) ?_)|((refine j7 (first:=[]) (cap:=[]) 0 [1] (qr Tryz.func40 rfl rfl) (cd) rfl (⟨rfl,xE rfl⟩) ?_);(repeat (first|exact qE 23 rfl|exact ⟨23,rfl⟩|(apply qF;apply qa;apply qZ;rfl;rfl;rfl;(first|rfl|assumption|(apply qd;assumption)|(apply qd;apply qd;assumption));(conv=>lhs;whnf);exact nle rfl)|refine qG (d:=23) rfl (nle rfl) ?_|(apply qL;exact nle rfl;refine ⟨?_,?_⟩;(first|exact fun h=>absurd h Bool.false_ne_true|(intro _;kernel_rfl)))));done))|refine qo ?_|(refine xsS ?_ ?_;all_goals first|exact False.elim|intro hp hc)|refine xsA ?_ ?_)
theorem qgk (s:qb) (hs:s.length ≤ 1000000000) {v1:Int} {v2:Int} {v3:Bool} {v4:List Ent} {v5:List Com} {v6:Int} {s1:qb} {s2:qb} {s3:qb} {s4:qb} {s5:qb} {s6:qb} (h1:je s = some (v1,s1)) (h2:je s1 = some (v2,s2)) (h3:ky s2 = some (v3,s3)) (h4:Zk s3 = some (v4,s4)) (h5:Ji s4 = some (v5,s5)) (h6:je s5 = some (v6,s6)) (h7:ky s6 = none):vj C2.P 39 [.op 0 0 0,.op 1 0 0] [jZ s,.own true 7 [[.v (.int .i64 0),.v (.int .i64 0),.v (.bool false),.sl false [],.sl false [],.v (.int .i64 0),.v (.bool false)]]] Qt (fun H' => ∃ x,H' = [x,.own true 7 [Yo ⟨v1,v2,⟨v3,v4,v5,v6,false⟩⟩ false false]]):=by
 have c1:=yc s s1 _ (by omega) h1;have l1:=qw h1;have c2:=yc s1 s2 _ (by omega) h2;have l2:=qw h2;have c3:=V8 s2 s3 _ (by omega) h3;have l3:=xQ h3;have c4:=K2 s3 s4 _ (by omega) h4;have l4:=wy h4;have c5:=qcL s4 s5 _ (by omega) h5;have l5:=Jj h5;have c6:=yc s5 s6 _ (by omega) h6;have l6:=qw h6;have cd:=Z1 s6 (by omega) h7;clear h1 h2 h3 h4 h5 h6 h7;unfold Yo;dsimp only [List.map_nil];unfold qU at c4;unfold yv at c5;refine qu (C:=C2) Tryz.func39 rfl _ Tryz.ntmps39 (Nat.le_of_ble_eq_true rfl) 2 rfl rfl ?_
 repeat' (first|(first|(apply qP;apply zB;(case hp=>rfl);(case hn=>rfl);(case hT=>exact Xw);(case hx=>(conv=>lhs;whnf));(case hc=>rfl);(case hl=>rfl);(case hs=>rfl);(case hj=>exact nle rfl);(case he=>exact qeY))|(apply qP;apply zC;(case hp=>rfl);(case hn=>rfl);(case hT=>exact Xw);(case hx=>rfl);(case hc=>rfl);(case hs=>rfl);(case hl=>rfl))|(apply qa;apply (xH (T:=48) (cs:=[.v (.int .i64 v1),.v (.int .i64 v2),.v (.bool false),.sl true [],.sl true [],.v (.int .i64 0),.v (.bool false)]));rfl;rfl;rfl;kernel_rfl;exact nle rfl)|(refine qT 0 qi (c1) ?_)|(refine qT 0 qi (c2) ?_)|(refine qT 0 qi (c3) ?_)|(refine W6 0 2 qi (c4) ?_)|(refine W6 0 2 qi (c5) ?_)|(refine qT 0 qi (c6) ?_)|((refine j7 (first:=[]) (cap:=[]) 0 [1] (qr Tryz.func41 rfl rfl) (cd) rfl (⟨rfl,xE rfl⟩) ?_);(repeat (first|exact qE 27 rfl|exact ⟨27,rfl⟩|(apply qF;apply qa;apply qZ;rfl;rfl;rfl;(first|rfl|assumption|(apply qd;assumption)|(apply qd;apply qd;assumption));(conv=>lhs;whnf);exact nle rfl)|refine qG (d:=27) rfl (nle rfl) ?_|(apply qL;exact nle rfl;refine ⟨?_,?_⟩;(first|exact fun h=>absurd h Bool.false_ne_true|(intro _;kernel_rfl)))));done))|refine qo ?_|(refine xsS ?_ ?_;all_goals first|exact False.elim|intro hp hc)|refine xsA ?_ ?_)
theorem qi8 (s:qb) (hs:s.length ≤ 1000000000) (h:KE s = none) : ∃ (a:Ans) (x1 x2:Bool),a.fit ∧ vj C2.P 39 [.op 0 0 0,.op 1 0 0] [jZ s,.own true 7 [[.v (.int .i64 0),.v (.int .i64 0),.v (.bool false),.sl false [],.sl false [],.v (.int .i64 0),.v (.bool false)]]] Qt (fun H' => ∃ x,H' = [x,.own true 7 [Yo a x1 x2]]):=by
 have z64:kv 0:=⟨by decide,by decide⟩
 rcases qin h with h1|⟨v1,s1,h1,h2|⟨v2,s2,h2,h3|⟨v3,s3,h3,h4|⟨v4,s4,h4,h5|⟨v5,s5,h5,h6|⟨v6,s6,h6,h7⟩⟩⟩⟩⟩⟩
 ·exact ⟨⟨0,0,⟨false,[],[],0,false⟩⟩,false,false,⟨z64,z64,(fun x hx=>by cases hx),Nat.zero_le _,(fun x hx=>by cases hx),Nat.zero_le _,z64⟩,qge s hs h1⟩
 ·have l1:=qw h1;exact ⟨⟨0,0,⟨false,[],[],0,false⟩⟩,false,false,⟨z64,z64,(fun x hx=>by cases hx),Nat.zero_le _,(fun x hx=>by cases hx),Nat.zero_le _,z64⟩,qgf s hs h1 h2⟩
 ·have l1:=qw h1;have l2:=qw h2;exact ⟨⟨v1,v2,⟨false,[],[],0,false⟩⟩,true,true,⟨(rd_num.of _ _ _ h1).2,(rd_num.of _ _ _ h2).2,(fun x hx=>by cases hx),Nat.zero_le _,(fun x hx=>by cases hx),Nat.zero_le _,z64⟩,qgg s hs h1 h2 h3⟩
 ·have l1:=qw h1;have l2:=qw h2;have l3:=xQ h3;exact ⟨⟨v1,v2,⟨v3,[],[],0,false⟩⟩,true,true,⟨(rd_num.of _ _ _ h1).2,(rd_num.of _ _ _ h2).2,(fun x hx=>by cases hx),Nat.zero_le _,(fun x hx=>by cases hx),Nat.zero_le _,z64⟩,qgh s hs h1 h2 h3 h4⟩
 ·have l1:=qw h1;have l2:=qw h2;have l3:=xQ h3;have l4:=wy h4;exact ⟨⟨v1,v2,⟨v3,v4,[],0,false⟩⟩,false,true,⟨(rd_num.of _ _ _ h1).2,(rd_num.of _ _ _ h2).2,(Ja h4 (by omega)).1,(Ja h4 (by omega)).2,(fun x hx=>by cases hx),Nat.zero_le _,z64⟩,qgi s hs h1 h2 h3 h4 h5⟩
 ·have l1:=qw h1;have l2:=qw h2;have l3:=xQ h3;have l4:=wy h4;have l5:=Jj h5;exact ⟨⟨v1,v2,⟨v3,v4,v5,0,false⟩⟩,false,false,⟨(rd_num.of _ _ _ h1).2,(rd_num.of _ _ _ h2).2,(Ja h4 (by omega)).1,(Ja h4 (by omega)).2,(Jk h5 (by omega)).1,(Jk h5 (by omega)).2,z64⟩,qgj s hs h1 h2 h3 h4 h5 h6⟩
 ·have l1:=qw h1;have l2:=qw h2;have l3:=xQ h3;have l4:=wy h4;have l5:=Jj h5;have l6:=qw h6;exact ⟨⟨v1,v2,⟨v3,v4,v5,v6,false⟩⟩,false,false,⟨(rd_num.of _ _ _ h1).2,(rd_num.of _ _ _ h2).2,(Ja h4 (by omega)).1,(Ja h4 (by omega)).2,(Jk h5 (by omega)).1,(Jk h5 (by omega)).2,(rd_num.of _ _ _ h6).2⟩,qgk s hs h1 h2 h3 h4 h5 h6 h7⟩
theorem qjr (s t:qb) (e:Int) (ok:Bool) (q:Ans) (hw:qf C.P 38 [.v (str s),.clo (.func 39) [] [.op 0 0 0]] [.own true 7 [noAns.row]] (.v (.bool ok)) [.own true 7 [q.row]])
  (ha:jN C.P 18 [.agg q.row] (.tup [.v (str t),.v (.int .i64 e)])) :
  jN C.P 13 [.v (str s)] (if ok = true ∧ t = s ∧ e = 0 then .tup [.agg q.row,.v (.int .i64 0)] else .tup [.agg noAns.row,.v (.int .i64 1)]):=by
 unfold noAns ze Ans.row qU yv at hw;unfold Ans.row qU yv at ha;unfold noAns ze Ans.row qU yv;obtain ⟨q1,q2,q3,q4,q5,q6,q7⟩:=q;dsimp only [List.map_nil] at *
 cases ok with
 | false =>
   refine qJ 0 ?_
   repeat' (first|refine qo ?_|(first|(refine J5 1 qi (hw) rfl ?_)|refine jT (ha ..) ?_)|(refine xsS ?_ ?_;all_goals first|exact False.elim|intro hp hc)|refine xsA ?_ ?_)
   all_goals ((exact Jd (rs:=[.cell 2 48,.tmp 3]) (hz:=Vb)))
 | true =>
   by_cases he:e = 0
   ·subst he;by_cases ht:t = s
    ·subst ht;refine qJ 0 ?_
     repeat' (first|refine qo ?_|(first|(refine J5 1 qi (hw) rfl ?_)|refine jT (ha ..) ?_)|(refine xsS ?_ ?_;all_goals first|exact False.elim|intro hp hc)|refine xsA ?_ ?_)
     all_goals try (exfalso;simp at *;done)
     all_goals (rw [if_pos ⟨rfl,rfl,rfl⟩])
     all_goals ((exact Jd (rs:=[.cell 2 48,.tmp 3]) (hz:=Vb)))
    ·refine qJ 0 ?_
     repeat' (first|refine qo ?_|(first|(refine J5 1 qi (hw) rfl ?_)|refine jT (ha ..) ?_)|(refine xsS ?_ ?_;all_goals first|exact False.elim|intro hp hc)|refine xsA ?_ ?_)
     all_goals try (exfalso;simp_all;done)
     all_goals (rw [if_neg (fun h=>ht h.2.1)])
     all_goals ((exact Jd (rs:=[.cell 2 48,.tmp 3]) (hz:=Vb)))
   ·refine qJ 0 ?_
    repeat' (first|refine qo ?_|(first|(refine J5 1 qi (hw) rfl ?_)|refine jT (ha ..) ?_)|(refine xsS ?_ ?_;all_goals first|exact False.elim|intro hp hc)|refine xsA ?_ ?_)
    all_goals try (exfalso;omega)
    all_goals (rw [if_neg (fun h=>he h.2.2)])
    all_goals ((exact Jd (rs:=[.cell 2 48,.tmp 3]) (hz:=Vb)))
theorem qaZ (s t:qb) (e:Int) (q:Ans) (x1 x2:Bool) (hw:qf C.P 38 [.v (str s),.clo (.func 39) [] [.op 0 0 0]] [.own true 7 [noAns.row]] (.v (.bool false)) [.own true 7 [Yo q x1 x2]])
  (ha:jN C.P 18 [.agg q.row] (.tup [.v (str t),.v (.int .i64 e)])) :
  jN C.P 13 [.v (str s)] (.tup [.agg noAns.row,.v (.int .i64 1)]):=by
 unfold noAns ze Ans.row qU yv Yo at hw;unfold Ans.row qU yv at ha;unfold noAns ze Ans.row qU yv;obtain ⟨q1,q2,q3,q4,q5,q6,q7⟩:=q;dsimp only [List.map_nil] at *;cases x1<;>cases x2
 all_goals (refine qJ 0 ?_)
 all_goals (repeat' (first|refine qo ?_|(first|(refine J5 1 qi (hw) rfl ?_)|refine jT (ha ..) ?_)|(refine xsS ?_ ?_;all_goals first|exact False.elim|intro hp hc)|refine xsA ?_ ?_))
 all_goals ((exact Jd (rs:=[.cell 2 48,.tmp 3]) (hz:=Vb)))
theorem qj6 {s r:qb} {q:Ans} (h:KE s = some (q,r)) (hs:s.length ≤ 1000000000):q.fit:=by
 obtain ⟨s1,s2,s3,s4,s5,s6,h1,h2,h3,h4,h5,h6,h7⟩:=qdt h;have l1:=qw h1;have l2:=qw h2;have l3:=xQ h3;have l4:=wy h4;exact ⟨(rd_num.of _ _ _ h1).2,(rd_num.of _ _ _ h2).2,(Ja h4 (by omega)).1,(Ja h4 (by omega)).2,(Jk h5 (by omega)).1,(Jk h5 (by omega)).2,(rd_num.of _ _ _ h6).2⟩
theorem qn8 (s:qb) (hs:s.length ≤ 1000000000):jN C.P 13 [.v (str s)] (.tup [.agg (qbM s).1.row,.v (.int .i64 (qbM s).2)]):=by
 cases hq:KE s with
 | none =>
   obtain ⟨a,x1,x2,hf,hd⟩:=qi8 s hs hq;have hw:=Kf s (f:=39) Tryz.func39 rfl rfl 7 noAns.row (Yo a x1 x2) rfl rfl hd;have h:=qaZ s _ _ a x1 x2 hw (qb0 a hf);unfold qbM;rw [hq];exact h
 | some p =>
   obtain ⟨q,r⟩:=p;have hf:q.fit:=qj6 hq hs;have hw:=qg3 s r (f:=39) Tryz.func39 rfl rfl 7 noAns.row q.row rfl rfl (qpD s r q hs hq);have h:=qjr s _ _ _ q hw (qb0 q hf);unfold qbM;rw [hq];dsimp only
   by_cases hr:r = [] ∧ Yl q = (s,0)
   ·rw [if_pos hr];rw [if_pos ⟨by simpa using hr.1,by rw [hr.2],by rw [hr.2]⟩] at h;exact h
   ·rw [if_neg hr];rw [if_neg (fun h=>hr ⟨by simpa using h.1,Prod.ext h.2.1 h.2.2⟩)] at h;exact h
theorem qqt {k:Nat} (h:k < 10):Lib.decDigits k = [UInt8.ofNat (48 + k)]:=by rw [Lib.decDigits,dif_pos h]
@[reducible] def wR (w:WS):HB := .own true 3 [[.v (str w.s),.v (.bool w.g),.v (.bool w.f)]]
end Go.Proofs.YtgcncinnlmjgdaaGreatDoor
