import Derived.Test.YtgcncinnlmjgdaaGreatDoorMz37
import Derived.Test.YtgcncinnlmjgdaaGreatDoorMz8
import Derived.Test.YtgcncinnlmjgdaaGreatDoorMz25
set_option linter.unusedSimpArgs false
set_option linter.unnecessarySimpa false
set_option linter.unusedVariables false
set_option maxHeartbeats 4000000
set_option maxRecDepth 10000
namespace Go.Proofs.YtgcncinnlmjgdaaGreatDoor
open Go.Ab Go.RowKit
theorem qC {s r:qb} {t:qb} (h:jm s = some (t,r)):r.length ≤ s.length:=by
 rw [(rd_txt.of _ _ _ h).1,List.length_append];omega
theorem xQ {s r:qb} {t:Bool} (h:ky s = some (t,r)):r.length ≤ s.length:=by
 rw [(rd_yes.of _ _ _ h).1,List.length_append];omega
theorem qkk {s r:qb} {x:_} (h:XN s = some (x,r)) : ∃ s1 s2 s3 s4,je s = some (x.kind,s1) ∧ jm s1 = some (x.path,s2) ∧ jm s2 = some (x.to,s3) ∧ jm s3 = some (x.text,s4) ∧ je s4 = some (x.base,r):=by
 unfold XN at h
 repeat' (split at h)
 all_goals first
  | (cases h;done)
  | skip
 rename_i h1 _ _ _ h2 _ _ _ h3 _ _ _ h4 _ _ _ h5;injection h with h;injection h with e1 e2;subst e1 e2;exact ⟨_,_,_,_,h1,h2,h3,h4,h5⟩
theorem qiw {s:qb} (h:XN s = none):je s = none ∨ ∃ a s1,je s = some (a,s1) ∧ (jm s1 = none ∨ ∃ b s2,jm s1 = some (b,s2) ∧ (jm s2 = none ∨ ∃ c s3,jm s2 = some (c,s3) ∧ (jm s3 = none ∨ ∃ d s4,jm s3 = some (d,s4) ∧ (je s4 = none)))):=by
 unfold XN at h
 cases h1:je s with
 | none=>exact .inl rfl
 | some z =>
   obtain ⟨v1,s1⟩:=z;rw [h1] at h;simp only at h;refine .inr ⟨v1,s1,rfl,?_⟩
   cases h2:jm s1 with
   | none=>exact .inl rfl
   | some z =>
     obtain ⟨v2,s2⟩:=z;rw [h2] at h;simp only at h;refine .inr ⟨v2,s2,rfl,?_⟩
     cases h3:jm s2 with
     | none=>exact .inl rfl
     | some z =>
       obtain ⟨v3,s3⟩:=z;rw [h3] at h;simp only at h;refine .inr ⟨v3,s3,rfl,?_⟩
       cases h4:jm s3 with
       | none=>exact .inl rfl
       | some z =>
         obtain ⟨v4,s4⟩:=z;rw [h4] at h;simp only at h;refine .inr ⟨v4,s4,rfl,?_⟩
         cases h5:je s4 with
         | none=>rfl
         | some z =>
           rw [h5] at h;cases h
theorem Vq {s r:qb} {c:Chg} (h:XN s = some (c,r)):r.length ≤ s.length:=by
 rw [(rd_chg.of _ _ _ h).1,List.length_append];omega
attribute [local irreducible] Awp j9 jr ye Red qz Go.Ab.Fin qf Rz wz jF jU ResOk yA j1 xR qX
theorem qnP (s r:qb) (c:Chg) (hs:s.length ≤ 1000000000) (h:XN s = some (c,r)):qf C1.P 112 [.op 0 0 0] [jZ s] (.agg c.row) [jZ r]:=by
 obtain ⟨s1,s2,s3,s4,h1,h2,h3,h4,h5⟩:=qkk h;obtain ⟨a,b,c,d,e⟩:=c;dsimp only at *;have c1:=yc s s1 _ (by omega) h1;have l1:=qw h1;have c2:=jS s1 _ s2 (by omega) h2;have l2:=qC h2;have c3:=jS s2 _ s3 (by omega) h3;have l3:=qC h3;have c4:=jS s3 _ s4 (by omega) h4;have l4:=qC h4;have c5:=yc s4 r _ (by omega) h5;have l5:=qw h5;clear h h1 h2 h3 h4 h5;unfold Chg.row;refine qJ (C:=C1) 1 ?_
 repeat' (first|refine qo ?_|(first|(refine qT 0 qi (c1) ?_)|(refine qT 0 qi (c2) ?_)|(refine qT 0 qi (c3) ?_)|(refine qT 0 qi (c4) ?_)|(refine qT 0 qi (c5) ?_))|(refine xsS ?_ ?_;all_goals first|exact False.elim|intro hp hc)|refine xsA ?_ ?_)
 all_goals ((exact yp (rs:=[.cell 2 77]) [] 1 qc2))
theorem qi9 (s:qb) (hs:s.length ≤ 1000000000) (h:XN s = none):vj C1.P 112 [.op 0 0 0] [jZ s] Qt noH:=by
 rcases qiw h with h1|⟨v1,s1,h1,h2|⟨v2,s2,h2,h3|⟨v3,s3,h3,h4|⟨v4,s4,h4,h5⟩⟩⟩⟩
 ·have cd:=xD s (by omega) h1;clear h h1;refine qu (C:=C1) Tryz.func112 rfl _ Tryz.ntmps112 (Nat.le_of_ble_eq_true rfl) 1 rfl rfl ?_
  repeat' (first|refine qo ?_|(first|((refine j7 (first:=[]) (cap:=[]) 0 [] (qr Tryz.func40 rfl rfl) (cd) rfl (⟨rfl,yo⟩) ?_);(repeat (first|exact qE 4 rfl|exact ⟨4,rfl⟩|refine qG (d:=4) rfl (nle rfl) ?_|(apply qL;exact nle rfl;refine ⟨?_,?_⟩;(first|exact fun h=>absurd h Bool.false_ne_true|(intro _;kernel_rfl)))));done))|(refine xsS ?_ ?_;all_goals first|exact False.elim|intro hp hc)|refine xsA ?_ ?_)
 ·have c1:=yc s s1 _ (by omega) h1;have l1:=qw h1;have cd:=xZ s1 (by omega) h2;clear h h1 h2;refine qu (C:=C1) Tryz.func112 rfl _ Tryz.ntmps112 (Nat.le_of_ble_eq_true rfl) 1 rfl rfl ?_
  repeat' (first|refine qo ?_|(first|(refine qT 0 qi (c1) ?_)|((refine j7 (first:=[]) (cap:=[]) 0 [] (qr Tryz.func44 rfl rfl) (cd) rfl (⟨rfl,yo⟩) ?_);(repeat (first|exact qE 6 rfl|exact ⟨6,rfl⟩|refine qG (d:=6) rfl (nle rfl) ?_|(apply qL;exact nle rfl;refine ⟨?_,?_⟩;(first|exact fun h=>absurd h Bool.false_ne_true|(intro _;kernel_rfl)))));done))|(refine xsS ?_ ?_;all_goals first|exact False.elim|intro hp hc)|refine xsA ?_ ?_)
 ·have c1:=yc s s1 _ (by omega) h1;have l1:=qw h1;have c2:=jS s1 _ s2 (by omega) h2;have l2:=qC h2;have cd:=xZ s2 (by omega) h3;clear h h1 h2 h3;refine qu (C:=C1) Tryz.func112 rfl _ Tryz.ntmps112 (Nat.le_of_ble_eq_true rfl) 1 rfl rfl ?_
  repeat' (first|refine qo ?_|(first|(refine qT 0 qi (c1) ?_)|(refine qT 0 qi (c2) ?_)|((refine j7 (first:=[]) (cap:=[]) 0 [] (qr Tryz.func44 rfl rfl) (cd) rfl (⟨rfl,yo⟩) ?_);(repeat (first|exact qE 8 rfl|exact ⟨8,rfl⟩|refine qG (d:=8) rfl (nle rfl) ?_|(apply qL;exact nle rfl;refine ⟨?_,?_⟩;(first|exact fun h=>absurd h Bool.false_ne_true|(intro _;kernel_rfl)))));done))|(refine xsS ?_ ?_;all_goals first|exact False.elim|intro hp hc)|refine xsA ?_ ?_)
 ·have c1:=yc s s1 _ (by omega) h1;have l1:=qw h1;have c2:=jS s1 _ s2 (by omega) h2;have l2:=qC h2;have c3:=jS s2 _ s3 (by omega) h3;have l3:=qC h3;have cd:=xZ s3 (by omega) h4;clear h h1 h2 h3 h4;refine qu (C:=C1) Tryz.func112 rfl _ Tryz.ntmps112 (Nat.le_of_ble_eq_true rfl) 1 rfl rfl ?_
  repeat' (first|refine qo ?_|(first|(refine qT 0 qi (c1) ?_)|(refine qT 0 qi (c2) ?_)|(refine qT 0 qi (c3) ?_)|((refine j7 (first:=[]) (cap:=[]) 0 [] (qr Tryz.func44 rfl rfl) (cd) rfl (⟨rfl,yo⟩) ?_);(repeat (first|exact qE 10 rfl|exact ⟨10,rfl⟩|refine qG (d:=10) rfl (nle rfl) ?_|(apply qL;exact nle rfl;refine ⟨?_,?_⟩;(first|exact fun h=>absurd h Bool.false_ne_true|(intro _;kernel_rfl)))));done))|(refine xsS ?_ ?_;all_goals first|exact False.elim|intro hp hc)|refine xsA ?_ ?_)
 ·have c1:=yc s s1 _ (by omega) h1;have l1:=qw h1;have c2:=jS s1 _ s2 (by omega) h2;have l2:=qC h2;have c3:=jS s2 _ s3 (by omega) h3;have l3:=qC h3;have c4:=jS s3 _ s4 (by omega) h4;have l4:=qC h4;have cd:=xD s4 (by omega) h5;clear h h1 h2 h3 h4 h5;refine qu (C:=C1) Tryz.func112 rfl _ Tryz.ntmps112 (Nat.le_of_ble_eq_true rfl) 1 rfl rfl ?_
  repeat' (first|refine qo ?_|(first|(refine qT 0 qi (c1) ?_)|(refine qT 0 qi (c2) ?_)|(refine qT 0 qi (c3) ?_)|(refine qT 0 qi (c4) ?_)|((refine j7 (first:=[]) (cap:=[]) 0 [] (qr Tryz.func40 rfl rfl) (cd) rfl (⟨rfl,yo⟩) ?_);(repeat (first|exact qE 12 rfl|exact ⟨12,rfl⟩|refine qG (d:=12) rfl (nle rfl) ?_|(apply qL;exact nle rfl;refine ⟨?_,?_⟩;(first|exact fun h=>absurd h Bool.false_ne_true|(intro _;kernel_rfl)))));done))|(refine xsS ?_ ?_;all_goals first|exact False.elim|intro hp hc)|refine xsA ?_ ?_)
end Go.Proofs.YtgcncinnlmjgdaaGreatDoor
namespace Go.Proofs.YtgcncinnlmjgdaaGreatDoor
open Go.Ab Go.RowKit
section steps
variable {C' : Cx} {N:Nat} {all:Array Oper} {es:List Eff} {o:Oper} {os:List Oper} {K:List Eff → St → Prop} {ts:List (Nat × AV)} {hs:List (Nat × HB)} {nx:Nat} {gd:List Nat}
theorem qhC {f:FuncId} {fn:Func} {x:Operand} {first cap:List AV} {args:List Operand} {tys:Array TypeId} {d:Nat} {ty:TypeId} {pos:String} {af:Array Edge} {gg:Option (Nat × Bool)} {ys:List AV} {v:AV} {s r:qb} (q:Nat) (hf:C'.P.funcs[f]? = some fn)
  (hc:qf C'.P f ys [jZ s] v [jZ r])
  (k:j9 C' N all (⟨gd ++ (qW x ++ args.flatMap qW),[q],some d,v,[(q,jZ r)],[]⟩ :: es) ⟨(d,v) :: ts,(q,jZ r) :: hs,nx⟩ os K)
  (hx:evA (qm ts) x = .clo (.func f) first cap:=by rfl) (hb0:fn.body.isNone = false:=by rfl) (hn0:(fn.name == "runtime.NumGoroutine") = false:=by rfl)
  (hq:qh hs q = jZ s:=by rfl)
  (hz:qX (j6 0 [q]) [q] (qh hs) (first ++ args.map (evA (qm ts)) ++ cap) ys:=by ((repeat' (first|exact jL|apply jo|exact jK rfl|exact ym|(apply qv;apply jB;exact .inr (of_decide_eq_true rfl))|(apply qv;apply yr;exact .inr (of_decide_eq_true rfl))|(apply qv;apply jC;exact .inr (of_decide_eq_true rfl))|apply j3|apply j4))<;>fail)) (hr:v.ren (zq (j6 0 [q])) = v:=by rfl) (hN:d < N:=by exact nle rfl):jr C' N all gd es ⟨ts,hs,nx⟩ ⟨some d,.call ⟨.value x,args.toArray,tys⟩,ty,pos,af,gg⟩ os K :=
 YM [q] [] [(q,jZ r)] nx v hf hc hz (jY (jZ s) xn (jt (jR rfl)) hq rfl) (qY (jt (jR rfl)) yM) k hx hb0 hn0 hr rfl rfl (Nat.le_of_ble_eq_true rfl) (by simp) rfl (fun n hn=>by cases hn) (Nat.le_refl _) hN
end steps
theorem qeD {α:Type} {p:qb → Option (α × qb)} {s:qb} : ∀ {m:Nat} {l:List α} {r:qb},yQ p s m = some (l,r) → ∀ i,i ≤ m → ∃ r',yQ p s i = some (l.take i,r')
 | 0,l,r,h,i,hi=>by
   obtain rfl:i = 0:=by omega
   simp only [yQ] at h;injection h with h;injection h with h1 h2;exact ⟨s,by subst h1;rfl⟩
 | m + 1,l,r,h,i,hi=>by
   have hh:=h;unfold yQ at hh
   cases hp:yQ p s m with
   | none=>rw [hp] at hh;cases hh
   | some z =>
     obtain ⟨l',r'⟩:=z;rw [hp] at hh;simp only at hh
     cases hx:p r' with
     | none=>rw [hx] at hh;cases hh
     | some y =>
       obtain ⟨x,r''⟩:=y;rw [hx] at hh;injection hh with hh;injection hh with e1 e2;subst e1 e2;by_cases him:i = m + 1
       ·subst him
        have hl:l'.length = m:=by
         have : ∀ (m:Nat) (l:List α) (r:qb),yQ p s m = some (l,r) → l.length = m:=by
          intro m
          induction m with
          | zero=>intro l r h;simp only [yQ] at h;injection h with h;injection h with a _;subst a;rfl
          | succ m ih =>
            intro l r h;unfold yQ at h
            cases hq:yQ p s m with
            | none=>rw [hq] at h;cases h
            | some z =>
              obtain ⟨l2,r2⟩:=z;rw [hq] at h;simp only at h
              cases hy:p r2 with
              | none=>rw [hy] at h;cases h
              | some y =>
                obtain ⟨a,b⟩:=y;rw [hy] at h;injection h with h;injection h with h1 _;subst h1;rw [List.length_append,ih l2 r2 hq];rfl
         exact this m l' r' hp
        exact ⟨r'',by rw [h,List.take_of_length_le (by simp [hl])]⟩
       ·obtain ⟨r3,h3⟩:=qeD hp i (by omega);have hl2:i ≤ l'.length ∨ True := .inr trivial;refine ⟨r3,?_⟩;rw [h3];congr 2
        have hlen : ∀ (m:Nat) (l:List α) (r:qb),yQ p s m = some (l,r) → l.length = m:=by
         intro m
         induction m with
         | zero=>intro l r h;simp only [yQ] at h;injection h with h;injection h with a _;subst a;rfl
         | succ m ih =>
           intro l r h;unfold yQ at h
           cases hq:yQ p s m with
           | none=>rw [hq] at h;cases h
           | some z =>
             obtain ⟨l2,r2⟩:=z;rw [hq] at h;simp only at h
             cases hy:p r2 with
             | none=>rw [hy] at h;cases h
             | some y =>
               obtain ⟨a,b⟩:=y;rw [hy] at h;injection h with h;injection h with h1 _;subst h1;rw [List.length_append,ih l2 r2 hq];rfl
        rw [List.take_append_of_le_length (by rw [hlen m l' r' hp];omega)]
theorem y6 {α:Type} {p:qb → Option (α × qb)} {s:qb} (hp : ∀ s x r,p s = some (x,r) → r.length ≤ s.length) : ∀ {m:Nat} {l:List α} {r:qb},yQ p s m = some (l,r) → l.length = m ∧ r.length ≤ s.length
 | 0,l,r,h=>by
   simp only [yQ] at h;injection h with h;injection h with a b;subst a b;exact ⟨rfl,Nat.le_refl _⟩
 | m + 1,l,r,h=>by
   unfold yQ at h
   cases hq:yQ p s m with
   | none=>rw [hq] at h;cases h
   | some z =>
     obtain ⟨l2,r2⟩:=z;rw [hq] at h;simp only at h
     cases hy:p r2 with
     | none=>rw [hy] at h;cases h
     | some y =>
       obtain ⟨a,b⟩:=y;rw [hy] at h;injection h with h;injection h with h1 h2;subst h1 h2;obtain ⟨i1,i2⟩:=y6 hp hq;exact ⟨by rw [List.length_append,i1];rfl,Nat.le_trans (hp _ _ _ hy) i2⟩
theorem Qm {α:Type} {p:qb → Option (α × qb)} {s:qb} {m:Nat} {l:List α} {r:qb} (h:yQ p s m = some (l,r)) {i:Nat} (hi:i < m) {r' : qb} (h' : yQ p s i = some (l.take i,r')) : ∃ x r'',p r' = some (x,r'') ∧ yQ p s (i + 1) = some (l.take i ++ [x],r'') ∧ l.take (i + 1) = l.take i ++ [x]:=by
 obtain ⟨r3,h3⟩:=qeD h (i + 1) hi;have hh:=h3;unfold yQ at hh;rw [h'] at hh;simp only at hh
 cases hx:p r' with
 | none=>rw [hx] at hh;cases hh
 | some y =>
   obtain ⟨x,r''⟩:=y;rw [hx] at hh;injection hh with hh;injection hh with e1 e2;subst e2;exact ⟨x,r'',rfl,by rw [h3,e1],e1.symm⟩
theorem qbE {α:Type} {p:qb → Option (α × qb)} {s:qb} : ∀ {m:Nat},yQ p s m = none → ∃ k l r,k < m ∧ yQ p s k = some (l,r) ∧ p r = none
 | 0,h=>by cases h
 | m + 1,h=>by
   unfold yQ at h
   cases hq:yQ p s m with
   | none =>
     obtain ⟨k,l,r,h1,h2,h3⟩:=qbE hq;exact ⟨k,l,r,by omega,h2,h3⟩
   | some z =>
     obtain ⟨l,r⟩:=z;rw [hq] at h;simp only at h
     cases hx:p r with
     | none=>exact ⟨m,l,r,by omega,hq,hx⟩
     | some y=>rw [hx] at h;cases h
theorem WW {α:Type} {p:qb → Option (α × qb)} {most:Nat} {s r:qb} {l:List α} (h:qaS p most s = some (l,r)) : ∃ (m:Nat) (s0:qb),wV most s = some ((m:Int),s0) ∧ m ≤ most ∧ yQ p s0 m = some (l,r):=by
 unfold qaS at h;split at h
 ·cases h
 ·rename_i n s0 hc;obtain ⟨_,_,h0,h1⟩:=zA hc;exact ⟨n.toNat,s0,by rw [hc,Int.toNat_of_nonneg h0],by omega,h⟩
theorem ZP {α:Type} {p:qb → Option (α × qb)} {most:Nat} {s:qb} (h:qaS p most s = none):wV most s = none ∨ ∃ (m k:Nat) (s0:qb) (l:List α) (r:qb),wV most s = some ((m:Int),s0) ∧ m ≤ most ∧ k < m ∧ yQ p s0 k = some (l,r) ∧ p r = none:=by
 unfold qaS at h;split at h
 ·left;assumption
 ·rename_i n s0 hc;obtain ⟨_,_,h0,h1⟩:=zA hc;obtain ⟨k,l,r,a,b,c⟩:=qbE h;exact .inr ⟨n.toNat,k,s0,l,r,by rw [hc,Int.toNat_of_nonneg h0],by omega,a,b,c⟩
theorem qhx {L:List (Nat × Nat)} {nh:Nat} {σ:St} {q q' n n' k:Nat} {ex:Bool} {s s' : qb} {rows rows' : List (List AV)} {rest:List (Nat × HB)} (hq:qh σ.hs q = jZ s) (hn:qh σ.hs n = .own ex k rows) (h1:Maps L nh q q') (h2:Maps L nh n n') (hs:s = s') (hr:rows = rows') (hp : ∀ row,row ∈ rows' → AV.pure.pureL row = true) (hl:yd L nh σ rest):yd L nh σ ((q',jZ s') :: (n',.own false k rows') :: rest):=by
 subst hs hr;exact Xf hq h1 rfl ⟨⟨n,h2,by rw [hn];exact ⟨(fun h=>by cases h),rfl,kp hp⟩⟩,hl⟩
attribute [local irreducible] Awp j9 jr ye Red qz Go.Ab.Fin qf Rz wz jF jU ResOk yA j1 xR qX
theorem Yw (l:List Chg) : ∀ row,row ∈ l.map Chg.row → AV.pure.pureL row = true:=fun row h=>by
 obtain ⟨c,_,rfl⟩:=List.mem_map.1 h;rfl
theorem qnf (s r:qb) (l:List Chg) (hs:s.length ≤ 1000000000) (h:Qu s = some (l,r)):qf C1.P 111 [.op 0 0 0,.v (.int .i64 20),.clo (.func 112) [.op 0 0 0] []] [jZ s] (ya l) [jZ r]:=by
 obtain ⟨m,s0,h1,hm,h2⟩:=WW h;have c1:=V7 _ s s0 m hs h1;have hl0:=Qv h1;have hpl : ∀ s x r,XN s = some (x,r) → r.length ≤ s.length:=fun _ _ _ h=>Vq h
 have hlm:=(y6 hpl h2).1;clear h h1;refine qJ (C:=C1) 1 ?_
 repeat' (first|refine qo ?_|(first|(refine qT 0 qi (c1) ?_))|(refine xsS ?_ ?_;all_goals first|exact False.elim|intro hp hc)|refine xsA ?_ ?_)
 (refine xsK (τ:=⟨[(7,.sl true []),(10,.v (.int .i64 (m:Int))),(11,.v (.int .i64 ((0:Nat):Int))),(2,.clo (.func 112) [.op 0 0 0] [])],[(0,jZ s0)],1⟩) [] qpY qc2 ?_)
 refine qB (fun n σ => ∃ (i:Nat) (r' : qb),i ≤ m ∧ n = m - i ∧ yQ XN s0 i = some (l.take i,r') ∧ ((i = 0 ∧ σ = ⟨[(7,.sl true []),(10,.v (.int .i64 (m:Int))),(11,.v (.int .i64 ((0:Nat):Int))),(2,.clo (.func 112) [.op 0 0 0] [])],[(0,jZ s0)],1⟩) ∨ (0 < i ∧ σ = ⟨[(7,.os 1 0 i),(10,.v (.int .i64 (m:Int))),(11,.v (.int .i64 (i:Int))),(2,.clo (.func 112) [.op 0 0 0] [])],[(0,jZ r'),(1,.own false 5 ((l.take i).map Chg.row))],2⟩))) m ⟨0,s0,Nat.zero_le _,rfl,rfl,.inl ⟨rfl,rfl⟩⟩ ?_;rintro n σ ⟨i,r',hi,rfl,hrep,hst⟩;by_cases hlt:i < m
 ·obtain ⟨x,r2,hx,hrep2,htk⟩:=Qm h2 hlt hrep;have hr1:=(y6 hpl hrep).2;have c2:=qnP r' r2 x (by omega) hx;have hrr:r2.length ≤ r'.length:=Vq hx
  rcases hst with ⟨rfl,rfl⟩|⟨hp,rfl⟩
  ·obtain rfl:s0 = r':=by
    simp only [yQ] at hrep;injection hrep with hrep;injection hrep
   clear h2 hrep hx hpl
   repeat' (first|refine qo ?_|(first|(refine jd ?_)|(refine qhC (first:=[.op 0 0 0]) (cap:=[]) 0 Tryz.func112 (c2) ?_)|(refine vm ?_))|(refine xsS ?_ ?_;all_goals first|exact False.elim|intro hp hc)|refine xsA ?_ ?_)
   all_goals try (exfalso;omega)
   all_goals (refine ⟨m - (0 + 1),⟨[(7,.os 1 0 (0 + 1)),(10,.v (.int .i64 (m:Int))),(11,.v (.int .i64 ((0 + 1:Nat):Int))),(2,.clo (.func 112) [.op 0 0 0] [])],[(0,jZ r2),(1,.own false 5 ((l.take (0 + 1)).map Chg.row))],2⟩,by omega,?_,⟨0 + 1,r2,by omega,rfl,by rw [htk];exact hrep2,.inr ⟨Nat.succ_pos _,rfl⟩⟩⟩;refine jH [(1,1)] rfl ?gts ?ghs;(case gts=>exact qnE);(case ghs=>exact qp8))
  ·have hlen:(l.take i).length = i:=by rw [List.length_take];omega
   have hml:((l.take i).map Chg.row).length = i:=by rw [List.length_map];exact hlen
   clear h2 hrep hx hpl
   repeat' (first|refine qo ?_|(first|(refine jd ?_)|(refine qhC (first:=[.op 0 0 0]) (cap:=[]) 0 Tryz.func112 (c2) ?_)|(refine vF ?_))|(refine xsS ?_ ?_;all_goals first|exact False.elim|intro hp hc)|refine xsA ?_ ?_)
   all_goals try (exfalso;omega)
   all_goals (refine ⟨m - (i + 1),⟨[(7,.os 1 0 (i + 1)),(10,.v (.int .i64 (m:Int))),(11,.v (.int .i64 ((i + 1:Nat):Int))),(2,.clo (.func 112) [.op 0 0 0] [])],[(0,jZ r2),(1,.own false 5 ((l.take (i + 1)).map Chg.row))],2⟩,by omega,?_,⟨i + 1,r2,by omega,rfl,by rw [htk];exact hrep2,.inr ⟨Nat.succ_pos _,rfl⟩⟩⟩;refine jH [(2,1)] rfl ?gts ?ghs;(case gts=>exact qnE);(case ghs=>exact qpV))
 ·obtain rfl:i = m:=by omega
  rw [h2] at hrep;injection hrep with hrep;injection hrep with e1 e2;subst e2;rw [← e1] at hst;clear e1
  rcases hst with ⟨rfl,rfl⟩|⟨hp,rfl⟩
  ·obtain rfl:l = []:=List.eq_nil_of_length_eq_zero hlm
   obtain rfl:s0 = r:=by
    simp only [yQ] at h2;injection h2 with h2;injection h2
   clear h2;unfold ya;refine Awp.red (jH (τ:=⟨[(7,.sl false []),(10,.v (.int .i64 ((0:Nat):Int))),(11,.v (.int .i64 ((0:Nat):Int)))],[(0,jZ s0)],1⟩) [] rfl ?gts9 ?ghs9) ?_
   case gts9 =>
    refine qov ?_
    (repeat (first|exact qx|refine jz ?_|refine wm ?_|refine QL ?_|refine X2 ?_|refine QM ?_ ?_|refine xy ?_ ?_))
    all_goals rfl
   case ghs9=>refine Xf (q:=0) rfl (qp rfl) ?_ qn;all_goals (first|(with_reducible rfl)|rfl)
   repeat' (first|refine qo ?_|fail|(refine xsS ?_ ?_;all_goals first|exact False.elim|intro hp hc)|refine xsA ?_ ?_)
   all_goals try (exfalso;omega)
   all_goals ((exact yp (rs:=[.tmp 6]) [] 1 qc2))
  ·clear h2;unfold ya;refine Awp.red (QO 1 rfl (Yw l)) ?_;refine Awp.red (qgv 7 1 rfl rfl (by rw [List.length_map];omega)) ?_
   repeat' (first|refine qo ?_|fail|(refine xsS ?_ ?_;all_goals first|exact False.elim|intro hp hc)|refine xsA ?_ ?_)
   all_goals try (exfalso;omega)
   all_goals ((exact yp (rs:=[.tmp 6]) [] 1 qc2))
theorem qeu (s:qb) (hs:s.length ≤ 1000000000) (h:Qu s = none):vj C1.P 111 [.op 0 0 0,.v (.int .i64 20),.clo (.func 112) [.op 0 0 0] []] [jZ s] Qt noH:=by
 rcases ZP h with h1|⟨m,k,s0,l,r,h1,hm,hkm,h2,h3⟩
 ·have c1:=Jv _ s hs h1;refine qu (C:=C1) Tryz.func111 rfl _ Tryz.ntmps111 (Nat.le_of_ble_eq_true rfl) 1 rfl rfl ?_
  repeat' (first|refine qo ?_|(first|((refine j7 (first:=[]) (cap:=[]) 0 [] (qr Tryz.func110 rfl rfl) (c1) rfl (⟨rfl,yo⟩) ?_);(repeat (first|exact qE 10 rfl|exact ⟨10,rfl⟩|refine qG (d:=10) rfl (nle rfl) ?_|(apply qL;exact nle rfl;refine ⟨?_,?_⟩;(first|exact fun h=>absurd h Bool.false_ne_true|(intro _;kernel_rfl)))));done))|(refine xsS ?_ ?_;all_goals first|exact False.elim|intro hp hc)|refine xsA ?_ ?_)
 ·have c1:=V7 _ s s0 m hs h1;have hl0:=Qv h1;have hpl : ∀ s x r,XN s = some (x,r) → r.length ≤ s.length:=fun _ _ _ h=>Vq h
  have hlm:=(y6 hpl h2).1;clear h h1;refine qu (C:=C1) Tryz.func111 rfl _ Tryz.ntmps111 (Nat.le_of_ble_eq_true rfl) 1 rfl rfl ?_
  repeat' (first|refine qo ?_|(first|(refine qT 0 qi (c1) ?_))|(refine xsS ?_ ?_;all_goals first|exact False.elim|intro hp hc)|refine xsA ?_ ?_)
  (refine xsK (τ:=⟨[(7,.sl true []),(10,.v (.int .i64 (m:Int))),(11,.v (.int .i64 ((0:Nat):Int))),(2,.clo (.func 112) [.op 0 0 0] [])],[(0,jZ s0)],1⟩) [] qpY qc2 ?_)
  refine qB (fun n σ => ∃ (i:Nat) (r' : qb),i ≤ k ∧ n = k - i ∧ yQ XN s0 i = some (l.take i,r') ∧ ((i = 0 ∧ σ = ⟨[(7,.sl true []),(10,.v (.int .i64 (m:Int))),(11,.v (.int .i64 ((0:Nat):Int))),(2,.clo (.func 112) [.op 0 0 0] [])],[(0,jZ s0)],1⟩) ∨ (0 < i ∧ σ = ⟨[(7,.os 1 0 i),(10,.v (.int .i64 (m:Int))),(11,.v (.int .i64 (i:Int))),(2,.clo (.func 112) [.op 0 0 0] [])],[(0,jZ r'),(1,.own false 5 ((l.take i).map Chg.row))],2⟩))) k ⟨0,s0,Nat.zero_le _,rfl,rfl,.inl ⟨rfl,rfl⟩⟩ ?_;rintro n σ ⟨i,r',hi,rfl,hrep,hst⟩;by_cases hlt:i < k
  ·obtain ⟨x,r2,hx,hrep2,htk⟩:=Qm h2 hlt hrep;have hr1:=(y6 hpl hrep).2;have c2:=qnP r' r2 x (by omega) hx;have hrr:r2.length ≤ r'.length:=Vq hx
   rcases hst with ⟨rfl,rfl⟩|⟨hp,rfl⟩
   ·obtain rfl:s0 = r':=by
     simp only [yQ] at hrep;injection hrep with hrep;injection hrep
    clear h2 hrep hx hpl
    repeat' (first|refine qo ?_|(first|(refine jd ?_)|(refine qhC (first:=[.op 0 0 0]) (cap:=[]) 0 Tryz.func112 (c2) ?_)|(refine vm ?_))|(refine xsS ?_ ?_;all_goals first|exact False.elim|intro hp hc)|refine xsA ?_ ?_)
    all_goals try (exfalso;omega)
    all_goals (refine ⟨k - (0 + 1),⟨[(7,.os 1 0 (0 + 1)),(10,.v (.int .i64 (m:Int))),(11,.v (.int .i64 ((0 + 1:Nat):Int))),(2,.clo (.func 112) [.op 0 0 0] [])],[(0,jZ r2),(1,.own false 5 ((l.take (0 + 1)).map Chg.row))],2⟩,by omega,?_,⟨0 + 1,r2,by omega,rfl,by rw [htk];exact hrep2,.inr ⟨Nat.succ_pos _,rfl⟩⟩⟩;refine jH [(1,1)] rfl ?gts ?ghs;(case gts=>exact qnE);(case ghs=>exact qp8))
   ·have hlen:(l.take i).length = i:=by rw [List.length_take];omega
    have hml:((l.take i).map Chg.row).length = i:=by rw [List.length_map];exact hlen
    clear h2 hrep hx hpl
    repeat' (first|refine qo ?_|(first|(refine jd ?_)|(refine qhC (first:=[.op 0 0 0]) (cap:=[]) 0 Tryz.func112 (c2) ?_)|(refine vF ?_))|(refine xsS ?_ ?_;all_goals first|exact False.elim|intro hp hc)|refine xsA ?_ ?_)
    all_goals try (exfalso;omega)
    all_goals (refine ⟨k - (i + 1),⟨[(7,.os 1 0 (i + 1)),(10,.v (.int .i64 (m:Int))),(11,.v (.int .i64 ((i + 1:Nat):Int))),(2,.clo (.func 112) [.op 0 0 0] [])],[(0,jZ r2),(1,.own false 5 ((l.take (i + 1)).map Chg.row))],2⟩,by omega,?_,⟨i + 1,r2,by omega,rfl,by rw [htk];exact hrep2,.inr ⟨Nat.succ_pos _,rfl⟩⟩⟩;refine jH [(2,1)] rfl ?gts ?ghs;(case gts=>exact qnE);(case ghs=>exact qpV))
  ·obtain rfl:i = k:=by omega
   rw [h2] at hrep;injection hrep with hrep;injection hrep with e1 e2;subst e2;have hr1:=(y6 hpl h2).2;have c2:=qi9 r (by omega) h3;clear e1 hpl
   rcases hst with ⟨rfl,rfl⟩|⟨hp,rfl⟩
   ·obtain rfl:s0 = r:=by
     simp only [yQ] at h2;injection h2 with h2;injection h2
    clear h2
    repeat' (first|refine qo ?_|(first|((refine j7 (first:=[.op 0 0 0]) (cap:=[]) 0 [] (qr Tryz.func112 rfl rfl) (c2) rfl (⟨rfl,yo⟩) ?_);(repeat (first|exact qE 15 rfl|exact ⟨15,rfl⟩|refine qG (d:=15) rfl (nle rfl) ?_|(apply qL;exact nle rfl;refine ⟨?_,?_⟩;(first|exact fun h=>absurd h Bool.false_ne_true|(intro _;kernel_rfl)))));done))|(refine xsS ?_ ?_;all_goals first|exact False.elim|intro hp hc)|refine xsA ?_ ?_)
    all_goals (exfalso;omega)
   ·clear h2
    repeat' (first|refine qo ?_|(first|((refine j7 (first:=[.op 0 0 0]) (cap:=[]) 0 [] (qr Tryz.func112 rfl rfl) (c2) rfl (⟨rfl,yo⟩) ?_);(repeat (first|exact qE 15 rfl|exact ⟨15,rfl⟩|refine qG (d:=15) rfl (nle rfl) ?_|(apply qL;exact nle rfl;refine ⟨?_,?_⟩;(first|exact fun h=>absurd h Bool.false_ne_true|(intro _;kernel_rfl)))));done))|(refine xsS ?_ ?_;all_goals first|exact False.elim|intro hp hc)|refine xsA ?_ ?_)
    all_goals (exfalso;omega)
theorem qbD (s r:qb) (l:List Chg) (hs:s.length ≤ 1000000000) (h:Qu s = some (l,r)):qf C1.P 47 [.op 0 0 0] [jZ s] (ya l) [jZ r]:=by
 have c1:=qnf s r l hs h;refine qJ (C:=C1) 1 ?_
 repeat' (first|refine qo ?_|(first|(refine qT 0 qi (c1) ?_))|(refine xsS ?_ ?_;all_goals first|exact False.elim|intro hp hc)|refine xsA ?_ ?_)
 all_goals ((exact yp (rs:=[.tmp 2]) [] 1 qc2))
theorem XD (s:qb) (hs:s.length ≤ 1000000000) (h:Qu s = none):vj C1.P 47 [.op 0 0 0] [jZ s] Qt noH:=by
 have c1:=qeu s hs h;refine qu (C:=C1) Tryz.func47 rfl _ Tryz.ntmps47 (Nat.le_of_ble_eq_true rfl) 1 rfl rfl ?_
 repeat' (first|refine qo ?_|(first|((refine j7 (first:=[]) (cap:=[]) 0 [] (qr Tryz.func111 rfl rfl) (c1) rfl (⟨rfl,yo⟩) ?_);(repeat (first|exact qE 6 rfl|exact ⟨6,rfl⟩|refine qG (d:=6) rfl (nle rfl) ?_|(apply qL;exact nle rfl;refine ⟨?_,?_⟩;(first|exact fun h=>absurd h Bool.false_ne_true|(intro _;kernel_rfl)))));done))|(refine xsS ?_ ?_;all_goals first|exact False.elim|intro hp hc)|refine xsA ?_ ?_)
end Go.Proofs.YtgcncinnlmjgdaaGreatDoor
