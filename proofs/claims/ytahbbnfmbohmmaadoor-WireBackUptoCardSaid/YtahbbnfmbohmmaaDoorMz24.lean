import Derived.Test.YtahbbnfmbohmmaaDoorMz23
import Derived.Test.YtahbbnfmbohmmaaDoorMz13
import Derived.Test.YtahbbnfmbohmmaaDoorMz10
set_option linter.unusedSimpArgs false
set_option linter.unnecessarySimpa false
set_option linter.unusedVariables false
set_option maxHeartbeats 1000000
namespace Go.Proofs.YtahbbnfmbohmmaaDoor
open Go.Ab Go.RowKit
set_option maxRecDepth 10000
theorem qv {s r:qj} {t:qj} (h:qR s = some (t,r)):r.length ≤ s.length:=by
 rw [(rd_txt.of _ _ _ h).1,List.length_append];omega
theorem yc {s r:qj} {t:Bool} (h:xp s = some (t,r)):r.length ≤ s.length:=by
 rw [(rd_yes.of _ _ _ h).1,List.length_append];omega
theorem ZW {s r:qj} {x:_} (h:kb s = some (x,r)) : ∃ s1 s2 s3 s4,qO s = some (x.kind,s1) ∧ qR s1 = some (x.path,s2) ∧ qR s2 = some (x.to,s3) ∧ qR s3 = some (x.text,s4) ∧ qO s4 = some (x.base,r):=by
 unfold kb at h
 repeat' (split at h)
 all_goals first
  | (cases h;done)
  | skip
 rename_i h1 _ _ _ h2 _ _ _ h3 _ _ _ h4 _ _ _ h5
 injection h with h
 injection h with e1 e2
 subst e1 e2
 exact ⟨_,_,_,_,h1,h2,h3,h4,h5⟩
theorem V1 {s:qj} (h:kb s = none):qO s = none ∨ ∃ a s1,qO s = some (a,s1) ∧ (qR s1 = none ∨ ∃ b s2,qR s1 = some (b,s2) ∧ (qR s2 = none ∨ ∃ c s3,qR s2 = some (c,s3) ∧ (qR s3 = none ∨ ∃ d s4,qR s3 = some (d,s4) ∧ (qO s4 = none)))):=by
 unfold kb at h
 cases h1:qO s with
 | none=>exact .inl rfl
 | some z =>
   obtain ⟨v1,s1⟩:=z
   rw [h1] at h
   simp only at h
   refine .inr ⟨v1,s1,rfl,?_⟩
   cases h2:qR s1 with
   | none=>exact .inl rfl
   | some z =>
     obtain ⟨v2,s2⟩:=z
     rw [h2] at h
     simp only at h
     refine .inr ⟨v2,s2,rfl,?_⟩
     cases h3:qR s2 with
     | none=>exact .inl rfl
     | some z =>
       obtain ⟨v3,s3⟩:=z
       rw [h3] at h
       simp only at h
       refine .inr ⟨v3,s3,rfl,?_⟩
       cases h4:qR s3 with
       | none=>exact .inl rfl
       | some z =>
         obtain ⟨v4,s4⟩:=z
         rw [h4] at h
         simp only at h
         refine .inr ⟨v4,s4,rfl,?_⟩
         cases h5:qO s4 with
         | none=>rfl
         | some z =>
           rw [h5] at h
           cases h
theorem kx {s r:qj} {c:Chg} (h:kb s = some (c,r)):r.length ≤ s.length:=by
 rw [(rd_chg.of _ _ _ h).1,List.length_append];omega
attribute [local irreducible] Awp jE qY qK Red qA Go.Ab.Fin qp Rz yL qJ qE ResOk jl qL jA qB
set_option maxHeartbeats 1000000 in
theorem WO (s r:qj) (c:Chg) (hs:s.length ≤ 1000000000) (h:kb s = some (c,r)):qp C1.P 63 [.op 0 0 0] [jo s] (.agg c.row) [jo r]:=by
 obtain ⟨s1,s2,s3,s4,h1,h2,h3,h4,h5⟩:=ZW h
 obtain ⟨a,b,c,d,e⟩:=c
 dsimp only at *
 have c1:=jt s s1 _ (by omega) h1
 have l1:=qr h1
 have c2:=jj s1 _ s2 (by omega) h2
 have l2:=qv h2
 have c3:=jj s2 _ s3 (by omega) h3
 have l3:=qv h3
 have c4:=jj s3 _ s4 (by omega) h4
 have l4:=qv h4
 have c5:=jt s4 r _ (by omega) h5
 have l5:=qr h5
 clear h h1 h2 h3 h4 h5
 unfold Chg.row
 refine qf (C:=C1) Tryd.func63 rfl _ Tryd.ntmps63 (Nat.le_of_ble_eq_true rfl) _ Tryd.results63 1 rfl rfl ?_
 repeat' (first|refine qk ?_|(first|(apply qc Tryd.func30 rfl rfl;intro hIsFn;refine qH 0 hIsFn (c1) ?_)|(apply qc Tryd.func31 rfl rfl;intro hIsFn;refine qH 0 hIsFn (c2) ?_)|(apply qc Tryd.func31 rfl rfl;intro hIsFn;refine qH 0 hIsFn (c3) ?_)|(apply qc Tryd.func31 rfl rfl;intro hIsFn;refine qH 0 hIsFn (c4) ?_)|(apply qc Tryd.func30 rfl rfl;intro hIsFn;refine qH 0 hIsFn (c5) ?_))|((first|(apply qb;rfl;rfl;exact nle rfl)|(apply qa;rfl;rfl;exact nle rfl)|refine xsC ?_ ?_);all_goals (intro hc;have hp:=hc;try simp at hp;try (exfalso;omega)))|refine jm ?_ ?_)
 all_goals ((apply qD (rs:=[.cell 2 97]) [] 1;(case hr=>(repeat (first|exact qw|(apply qx;rfl)|(apply qu;rfl;rfl;rfl;rfl;rfl))));(case hL=>rfl);(case hh=>refine yr (q:=0) rfl (qd rfl) ?_ qh;all_goals (first|(with_reducible rfl)|rfl));(case hi=>exact rfl);(case hz=>first|rfl|(simp [jQ,AV.ren,AV.ren.renL,js,qn,jh];done))))
set_option maxHeartbeats 2000000 in
theorem Zk (s:qj) (hs:s.length ≤ 1000000000) (h:kb s = none):yq C1.P 63 [.op 0 0 0] [jo s] xX Xl:=by
 rcases V1 h with h1|⟨v1,s1,h1,h2|⟨v2,s2,h2,h3|⟨v3,s3,h3,h4|⟨v4,s4,h4,h5⟩⟩⟩⟩
 ·have cd:=j8 s (by omega) h1
  clear h h1
  refine qq (C:=C1) Tryd.func63 rfl _ Tryd.ntmps63 (Nat.le_of_ble_eq_true rfl) 1 rfl rfl ?_
  repeat' (first|refine qk ?_|(first|((refine jq (first:=[]) (cap:=[]) 0 [] (qG Tryd.func30 rfl rfl) (cd) rfl (⟨rfl,jD⟩) ?_);(repeat (first|exact qy 4 rfl|exact ⟨4,rfl⟩|refine qz (d:=4) rfl (nle rfl) ?_|(apply qC;exact nle rfl;refine ⟨?_,?_⟩;(first|exact fun h=>absurd h Bool.false_ne_true|(intro _;kernel_rfl)))));done))|((first|(apply qb;rfl;rfl;exact nle rfl)|(apply qa;rfl;rfl;exact nle rfl)|refine xsC ?_ ?_);all_goals (intro hc;have hp:=hc;try simp at hp;try (exfalso;omega)))|refine jm ?_ ?_)
 ·have c1:=jt s s1 _ (by omega) h1
  have l1:=qr h1
  have cd:=yh s1 (by omega) h2
  clear h h1 h2
  refine qq (C:=C1) Tryd.func63 rfl _ Tryd.ntmps63 (Nat.le_of_ble_eq_true rfl) 1 rfl rfl ?_
  repeat' (first|refine qk ?_|(first|(apply qc Tryd.func30 rfl rfl;intro hIsFn;refine qH 0 hIsFn (c1) ?_)|((refine jq (first:=[]) (cap:=[]) 0 [] (qG Tryd.func31 rfl rfl) (cd) rfl (⟨rfl,jD⟩) ?_);(repeat (first|exact qy 6 rfl|exact ⟨6,rfl⟩|refine qz (d:=6) rfl (nle rfl) ?_|(apply qC;exact nle rfl;refine ⟨?_,?_⟩;(first|exact fun h=>absurd h Bool.false_ne_true|(intro _;kernel_rfl)))));done))|((first|(apply qb;rfl;rfl;exact nle rfl)|(apply qa;rfl;rfl;exact nle rfl)|refine xsC ?_ ?_);all_goals (intro hc;have hp:=hc;try simp at hp;try (exfalso;omega)))|refine jm ?_ ?_)
 ·have c1:=jt s s1 _ (by omega) h1
  have l1:=qr h1
  have c2:=jj s1 _ s2 (by omega) h2
  have l2:=qv h2
  have cd:=yh s2 (by omega) h3
  clear h h1 h2 h3
  refine qq (C:=C1) Tryd.func63 rfl _ Tryd.ntmps63 (Nat.le_of_ble_eq_true rfl) 1 rfl rfl ?_
  repeat' (first|refine qk ?_|(first|(apply qc Tryd.func30 rfl rfl;intro hIsFn;refine qH 0 hIsFn (c1) ?_)|(apply qc Tryd.func31 rfl rfl;intro hIsFn;refine qH 0 hIsFn (c2) ?_)|((refine jq (first:=[]) (cap:=[]) 0 [] (qG Tryd.func31 rfl rfl) (cd) rfl (⟨rfl,jD⟩) ?_);(repeat (first|exact qy 8 rfl|exact ⟨8,rfl⟩|refine qz (d:=8) rfl (nle rfl) ?_|(apply qC;exact nle rfl;refine ⟨?_,?_⟩;(first|exact fun h=>absurd h Bool.false_ne_true|(intro _;kernel_rfl)))));done))|((first|(apply qb;rfl;rfl;exact nle rfl)|(apply qa;rfl;rfl;exact nle rfl)|refine xsC ?_ ?_);all_goals (intro hc;have hp:=hc;try simp at hp;try (exfalso;omega)))|refine jm ?_ ?_)
 ·have c1:=jt s s1 _ (by omega) h1
  have l1:=qr h1
  have c2:=jj s1 _ s2 (by omega) h2
  have l2:=qv h2
  have c3:=jj s2 _ s3 (by omega) h3
  have l3:=qv h3
  have cd:=yh s3 (by omega) h4
  clear h h1 h2 h3 h4
  refine qq (C:=C1) Tryd.func63 rfl _ Tryd.ntmps63 (Nat.le_of_ble_eq_true rfl) 1 rfl rfl ?_
  repeat' (first|refine qk ?_|(first|(apply qc Tryd.func30 rfl rfl;intro hIsFn;refine qH 0 hIsFn (c1) ?_)|(apply qc Tryd.func31 rfl rfl;intro hIsFn;refine qH 0 hIsFn (c2) ?_)|(apply qc Tryd.func31 rfl rfl;intro hIsFn;refine qH 0 hIsFn (c3) ?_)|((refine jq (first:=[]) (cap:=[]) 0 [] (qG Tryd.func31 rfl rfl) (cd) rfl (⟨rfl,jD⟩) ?_);(repeat (first|exact qy 10 rfl|exact ⟨10,rfl⟩|refine qz (d:=10) rfl (nle rfl) ?_|(apply qC;exact nle rfl;refine ⟨?_,?_⟩;(first|exact fun h=>absurd h Bool.false_ne_true|(intro _;kernel_rfl)))));done))|((first|(apply qb;rfl;rfl;exact nle rfl)|(apply qa;rfl;rfl;exact nle rfl)|refine xsC ?_ ?_);all_goals (intro hc;have hp:=hc;try simp at hp;try (exfalso;omega)))|refine jm ?_ ?_)
 ·have c1:=jt s s1 _ (by omega) h1
  have l1:=qr h1
  have c2:=jj s1 _ s2 (by omega) h2
  have l2:=qv h2
  have c3:=jj s2 _ s3 (by omega) h3
  have l3:=qv h3
  have c4:=jj s3 _ s4 (by omega) h4
  have l4:=qv h4
  have cd:=j8 s4 (by omega) h5
  clear h h1 h2 h3 h4 h5
  refine qq (C:=C1) Tryd.func63 rfl _ Tryd.ntmps63 (Nat.le_of_ble_eq_true rfl) 1 rfl rfl ?_
  repeat' (first|refine qk ?_|(first|(apply qc Tryd.func30 rfl rfl;intro hIsFn;refine qH 0 hIsFn (c1) ?_)|(apply qc Tryd.func31 rfl rfl;intro hIsFn;refine qH 0 hIsFn (c2) ?_)|(apply qc Tryd.func31 rfl rfl;intro hIsFn;refine qH 0 hIsFn (c3) ?_)|(apply qc Tryd.func31 rfl rfl;intro hIsFn;refine qH 0 hIsFn (c4) ?_)|((refine jq (first:=[]) (cap:=[]) 0 [] (qG Tryd.func30 rfl rfl) (cd) rfl (⟨rfl,jD⟩) ?_);(repeat (first|exact qy 12 rfl|exact ⟨12,rfl⟩|refine qz (d:=12) rfl (nle rfl) ?_|(apply qC;exact nle rfl;refine ⟨?_,?_⟩;(first|exact fun h=>absurd h Bool.false_ne_true|(intro _;kernel_rfl)))));done))|((first|(apply qb;rfl;rfl;exact nle rfl)|(apply qa;rfl;rfl;exact nle rfl)|refine xsC ?_ ?_);all_goals (intro hc;have hp:=hc;try simp at hp;try (exfalso;omega)))|refine jm ?_ ?_)
end Go.Proofs.YtahbbnfmbohmmaaDoor
set_option linter.unusedSimpArgs false
set_option linter.unnecessarySimpa false
set_option linter.unusedVariables false
namespace Go.Proofs.YtahbbnfmbohmmaaDoor
open Go.Ab Go.RowKit
set_option maxRecDepth 10000
section steps
variable {C' : Cx} {N:Nat} {all:Array Oper} {es:List Eff} {o:Oper} {os:List Oper} {K:List Eff → St → Prop} {ts:List (Nat × AV)} {hs:List (Nat × HB)} {nx:Nat} {gd:List Nat}
theorem VE {f:FuncId} {fn:Func} {x:Operand} {first cap:List AV} {args:List Operand} {tys:Array TypeId} {d:Nat} {ty:TypeId} {pos:String} {af:Array Edge} {gg:Option (Nat × Bool)} {ys:List AV} {v:AV} {s r:qj} (q:Nat) (hf:C'.P.funcs[f]? = some fn)
  (hc:qp C'.P f ys [jo s] v [jo r])
  (k:jE C' N all (⟨gd ++ (ji x ++ args.flatMap ji),[q],some d,v,[(q,jo r)],[]⟩ :: es) ⟨(d,v) :: ts,(q,jo r) :: hs,nx⟩ os K)
  (hx:evA (qn ts) x = .clo (.func f) first cap:=by rfl) (hb0:fn.body.isNone = false:=by rfl) (hn0:(fn.name == "runtime.NumGoroutine") = false:=by rfl)
  (hq:qm hs q = jo s:=by rfl)
  (hz:qB (jv 0 [q]) [q] (qm hs) (first ++ args.map (evA (qn ts)) ++ cap) ys:=by ((repeat' (first|exact je|apply qX|exact jd rfl|exact jF|(apply qo;apply qT;exact .inr (of_decide_eq_true rfl))|(apply qo;apply jN;exact .inr (of_decide_eq_true rfl))|(apply qo;apply jn;exact .inr (of_decide_eq_true rfl))|apply jw|apply jx))<;>fail)) (hr:v.ren (xj (jv 0 [q])) = v:=by rfl) (hN:d < N:=by exact nle rfl):qY C' N all gd es ⟨ts,hs,nx⟩ ⟨some d,.call ⟨.value x,args.toArray,tys⟩,ty,pos,af,gg⟩ os K :=
 zx [q] [] [(q,jo r)] nx v hf hc hz (jr (jo s) yb (qW (jf rfl)) hq rfl) (qM (qW (jf rfl)) jP) k hx hb0 hn0 hr rfl rfl (Nat.le_of_ble_eq_true rfl) (by simp) rfl (fun n hn=>by cases hn) (Nat.le_refl _) hN
end steps
theorem Xb {α:Type} {p:qj → Option (α × qj)} {s:qj} : ∀ {m:Nat} {l:List α} {r:qj},jL p s m = some (l,r) → ∀ i,i ≤ m → ∃ r',jL p s i = some (l.take i,r')
 | 0,l,r,h,i,hi=>by
   obtain rfl:i = 0:=by omega
   simp only [jL] at h
   injection h with h
   injection h with h1 h2
   exact ⟨s,by subst h1;rfl⟩
 | m + 1,l,r,h,i,hi=>by
   have hh:=h
   unfold jL at hh
   cases hp:jL p s m with
   | none=>rw [hp] at hh;cases hh
   | some z =>
     obtain ⟨l',r'⟩:=z
     rw [hp] at hh
     simp only at hh
     cases hx:p r' with
     | none=>rw [hx] at hh;cases hh
     | some y =>
       obtain ⟨x,r''⟩:=y
       rw [hx] at hh
       injection hh with hh
       injection hh with e1 e2
       subst e1 e2
       by_cases him:i = m + 1
       ·subst him
        have hl:l'.length = m:=by
         have : ∀ (m:Nat) (l:List α) (r:qj),jL p s m = some (l,r) → l.length = m:=by
          intro m
          induction m with
          | zero=>intro l r h;simp only [jL] at h;injection h with h;injection h with a _;subst a;rfl
          | succ m ih =>
            intro l r h
            unfold jL at h
            cases hq:jL p s m with
            | none=>rw [hq] at h;cases h
            | some z =>
              obtain ⟨l2,r2⟩:=z
              rw [hq] at h
              simp only at h
              cases hy:p r2 with
              | none=>rw [hy] at h;cases h
              | some y =>
                obtain ⟨a,b⟩:=y
                rw [hy] at h
                injection h with h
                injection h with h1 _
                subst h1
                rw [List.length_append,ih l2 r2 hq]
                rfl
         exact this m l' r' hp
        exact ⟨r'',by rw [h,List.take_of_length_le (by simp [hl])]⟩
       ·obtain ⟨r3,h3⟩:=Xb hp i (by omega)
        have hl2:i ≤ l'.length ∨ True := .inr trivial
        refine ⟨r3,?_⟩
        rw [h3]
        congr 2
        have hlen : ∀ (m:Nat) (l:List α) (r:qj),jL p s m = some (l,r) → l.length = m:=by
         intro m
         induction m with
         | zero=>intro l r h;simp only [jL] at h;injection h with h;injection h with a _;subst a;rfl
         | succ m ih =>
           intro l r h
           unfold jL at h
           cases hq:jL p s m with
           | none=>rw [hq] at h;cases h
           | some z =>
             obtain ⟨l2,r2⟩:=z
             rw [hq] at h
             simp only at h
             cases hy:p r2 with
             | none=>rw [hy] at h;cases h
             | some y =>
               obtain ⟨a,b⟩:=y
               rw [hy] at h
               injection h with h
               injection h with h1 _
               subst h1
               rw [List.length_append,ih l2 r2 hq]
               rfl
        rw [List.take_append_of_le_length (by rw [hlen m l' r' hp];omega)]
theorem jR {α:Type} {p:qj → Option (α × qj)} {s:qj} (hp : ∀ s x r,p s = some (x,r) → r.length ≤ s.length) : ∀ {m:Nat} {l:List α} {r:qj},jL p s m = some (l,r) → l.length = m ∧ r.length ≤ s.length
 | 0,l,r,h=>by
   simp only [jL] at h
   injection h with h
   injection h with a b
   subst a b
   exact ⟨rfl,Nat.le_refl _⟩
 | m + 1,l,r,h=>by
   unfold jL at h
   cases hq:jL p s m with
   | none=>rw [hq] at h;cases h
   | some z =>
     obtain ⟨l2,r2⟩:=z
     rw [hq] at h
     simp only at h
     cases hy:p r2 with
     | none=>rw [hy] at h;cases h
     | some y =>
       obtain ⟨a,b⟩:=y
       rw [hy] at h
       injection h with h
       injection h with h1 h2
       subst h1 h2
       obtain ⟨i1,i2⟩:=jR hp hq
       exact ⟨by rw [List.length_append,i1];rfl,Nat.le_trans (hp _ _ _ hy) i2⟩
theorem xT {α:Type} {p:qj → Option (α × qj)} {s:qj} {m:Nat} {l:List α} {r:qj} (h:jL p s m = some (l,r)) {i:Nat} (hi:i < m) {r' : qj} (h' : jL p s i = some (l.take i,r')) : ∃ x r'',p r' = some (x,r'') ∧ jL p s (i + 1) = some (l.take i ++ [x],r'') ∧ l.take (i + 1) = l.take i ++ [x]:=by
 obtain ⟨r3,h3⟩:=Xb h (i + 1) hi
 have hh:=h3
 unfold jL at hh
 rw [h'] at hh
 simp only at hh
 cases hx:p r' with
 | none=>rw [hx] at hh;cases hh
 | some y =>
   obtain ⟨x,r''⟩:=y
   rw [hx] at hh
   injection hh with hh
   injection hh with e1 e2
   subst e2
   exact ⟨x,r'',rfl,by rw [h3,e1],e1.symm⟩
theorem Jv {α:Type} {p:qj → Option (α × qj)} {s:qj} : ∀ {m:Nat},jL p s m = none → ∃ k l r,k < m ∧ jL p s k = some (l,r) ∧ p r = none
 | 0,h=>by cases h
 | m + 1,h=>by
   unfold jL at h
   cases hq:jL p s m with
   | none =>
     obtain ⟨k,l,r,h1,h2,h3⟩:=Jv hq
     exact ⟨k,l,r,by omega,h2,h3⟩
   | some z =>
     obtain ⟨l,r⟩:=z
     rw [hq] at h
     simp only at h
     cases hx:p r with
     | none=>exact ⟨m,l,r,by omega,hq,hx⟩
     | some y=>rw [hx] at h;cases h
theorem QC {α:Type} {p:qj → Option (α × qj)} {most:Nat} {s r:qj} {l:List α} (h:Q7 p most s = some (l,r)) : ∃ (m:Nat) (s0:qj),xL most s = some ((m:Int),s0) ∧ m ≤ most ∧ jL p s0 m = some (l,r):=by
 unfold Q7 at h
 split at h
 ·cases h
 ·rename_i n s0 hc
  obtain ⟨_,_,h0,h1⟩:=y0 hc
  exact ⟨n.toNat,s0,by rw [hc,Int.toNat_of_nonneg h0],by omega,h⟩
theorem k9 {α:Type} {p:qj → Option (α × qj)} {most:Nat} {s:qj} (h:Q7 p most s = none):xL most s = none ∨ ∃ (m k:Nat) (s0:qj) (l:List α) (r:qj),xL most s = some ((m:Int),s0) ∧ m ≤ most ∧ k < m ∧ jL p s0 k = some (l,r) ∧ p r = none:=by
 unfold Q7 at h
 split at h
 ·left;assumption
 ·rename_i n s0 hc
  obtain ⟨_,_,h0,h1⟩:=y0 hc
  obtain ⟨k,l,r,a,b,c⟩:=Jv h
  exact .inr ⟨n.toNat,k,s0,l,r,by rw [hc,Int.toNat_of_nonneg h0],by omega,a,b,c⟩
end Go.Proofs.YtahbbnfmbohmmaaDoor
set_option linter.unusedSimpArgs false
set_option linter.unnecessarySimpa false
set_option linter.unusedVariables false
set_option maxHeartbeats 1000000
namespace Go.Proofs.YtahbbnfmbohmmaaDoor
open Go.Ab Go.RowKit
set_option maxRecDepth 10000
theorem wU {L:List (Nat × Nat)} {nh:Nat} {σ:St} {q q' n n' k:Nat} {ex:Bool} {s s' : qj} {rows rows' : List (List AV)} {rest:List (Nat × HB)} (hq:qm σ.hs q = jo s) (hn:qm σ.hs n = .own ex k rows) (h1:Maps L nh q q') (h2:Maps L nh n n') (hs:s = s') (hr:rows = rows') (hp : ∀ row,row ∈ rows' → AV.pure.pureL row = true) (hl:j4 L nh σ rest):j4 L nh σ ((q',jo s') :: (n',.own false k rows') :: rest):=by
 subst hs hr
 exact yr hq h1 rfl ⟨⟨n,h2,by rw [hn];exact ⟨(fun h=>by cases h),rfl,xN hp⟩⟩,hl⟩
attribute [local irreducible] Awp jE qY qK Red qA Go.Ab.Fin qp Rz yL qJ qE ResOk jl qL jA qB
theorem xY (l:List Chg) : ∀ row,row ∈ l.map Chg.row → AV.pure.pureL row = true:=fun row h=>by
 obtain ⟨c,_,rfl⟩:=List.mem_map.1 h
 rfl
set_option maxHeartbeats 4000000 in
theorem Wt (s r:qj) (l:List Chg) (hs:s.length ≤ 1000000000) (h:xZ s = some (l,r)):qp C1.P 62 [.op 0 0 0,.v (.int .i64 20),.clo (.func 63) [.op 0 0 0] []] [jo s] (ya l) [jo r]:=by
 obtain ⟨m,s0,h1,hm,h2⟩:=QC h
 have c1:=kN _ s s0 m hs h1
 have hl0:=x0 h1
 have hpl : ∀ s x r,kb s = some (x,r) → r.length ≤ s.length:=fun _ _ _ h=>kx h
 have hlm:=(jR hpl h2).1
 clear h h1
 refine qf (C:=C1) Tryd.func62 rfl _ Tryd.ntmps62 (Nat.le_of_ble_eq_true rfl) _ Tryd.results62 1 rfl rfl ?_
 repeat' (first|refine qk ?_|(first|(apply qc Tryd.func61 rfl rfl;intro hIsFn;refine qH 0 hIsFn (c1) ?_))|((first|(apply qb;rfl;rfl;exact nle rfl)|(apply qa;rfl;rfl;exact nle rfl)|refine xsC ?_ ?_);all_goals (intro hc;have hp:=hc;try simp at hp;try (exfalso;omega)))|refine jm ?_ ?_)
 (refine Awp.red (qS (τ:=⟨[(7,.sl true []),(10,.v (.int .i64 (m:Int))),(11,.v (.int .i64 ((0:Nat):Int))),(2,.clo (.func 63) [.op 0 0 0] [])],[(0,jo s0)],1⟩) [] rfl ?gts2 ?ghs2) ?_;(case gts2=>(repeat (first|exact ql|refine qZ ?_|refine ym ?_|refine jH ?_|refine yu ?_|refine jI ?_ ?_|refine yf ?_ ?_));all_goals first|rfl|exact zz ql (qd rfl));(case ghs2=>refine yr (q:=0) rfl (qd rfl) ?_ qh;all_goals (first|(with_reducible rfl)|rfl)))
 refine jW (fun n σ => ∃ (i:Nat) (r' : qj),i ≤ m ∧ n = m - i ∧ jL kb s0 i = some (l.take i,r') ∧ ((i = 0 ∧ σ = ⟨[(7,.sl true []),(10,.v (.int .i64 (m:Int))),(11,.v (.int .i64 ((0:Nat):Int))),(2,.clo (.func 63) [.op 0 0 0] [])],[(0,jo s0)],1⟩) ∨ (0 < i ∧ σ = ⟨[(7,.os 1 0 i),(10,.v (.int .i64 (m:Int))),(11,.v (.int .i64 (i:Int))),(2,.clo (.func 63) [.op 0 0 0] [])],[(0,jo r'),(1,.own false 5 ((l.take i).map Chg.row))],2⟩))) m ⟨0,s0,Nat.zero_le _,rfl,rfl,.inl ⟨rfl,rfl⟩⟩ ?_
 rintro n σ ⟨i,r',hi,rfl,hrep,hst⟩
 by_cases hlt:i < m
 ·obtain ⟨x,r2,hx,hrep2,htk⟩:=xT h2 hlt hrep
  have hr1:=(jR hpl hrep).2
  have c2:=WO r' r2 x (by omega) hx
  have hrr:r2.length ≤ r'.length:=kx hx
  rcases hst with ⟨rfl,rfl⟩|⟨hp,rfl⟩
  ·obtain rfl:s0 = r':=by
    simp only [jL] at hrep
    injection hrep with hrep
    injection hrep
   clear h2 hrep hx hpl
   repeat' (first|refine qk ?_|(first|(refine ye ?_)|(refine VE (first:=[.op 0 0 0]) (cap:=[]) 0 Tryd.func63 (c2) ?_)|(refine wd ?_))|((first|(apply qb;rfl;rfl;exact nle rfl)|(apply qa;rfl;rfl;exact nle rfl)|refine xsC ?_ ?_);all_goals (intro hc;have hp:=hc;try simp at hp;try (exfalso;omega)))|refine jm ?_ ?_)
   all_goals try (exfalso;omega)
   all_goals (refine ⟨m - (0 + 1),⟨[(7,.os 1 0 (0 + 1)),(10,.v (.int .i64 (m:Int))),(11,.v (.int .i64 ((0 + 1:Nat):Int))),(2,.clo (.func 63) [.op 0 0 0] [])],[(0,jo r2),(1,.own false 5 ((l.take (0 + 1)).map Chg.row))],2⟩,by omega,?_,⟨0 + 1,r2,by omega,rfl,by rw [htk];exact hrep2,.inr ⟨Nat.succ_pos _,rfl⟩⟩⟩;refine qS [(1,1)] rfl ?gts ?ghs;(case gts=>(repeat (first|exact ql|refine qZ ?_|refine ym ?_|refine jH ?_|refine yu ?_|refine jI ?_ ?_|refine yf ?_ ?_));all_goals first|rfl|(simp;omega)|exact zz ql (qd rfl));(case ghs=>refine wU (q:=0) (n:=1) rfl rfl (qd rfl) (qd rfl) ?_ ?_ ?_ qh;all_goals (first|(with_reducible rfl)|(rw [htk];simp;done)|exact xY _)))
  ·have hlen:(l.take i).length = i:=by rw [List.length_take];omega
   have hml:((l.take i).map Chg.row).length = i:=by rw [List.length_map];exact hlen
   clear h2 hrep hx hpl
   repeat' (first|refine qk ?_|(first|(refine ye ?_)|(refine VE (first:=[.op 0 0 0]) (cap:=[]) 0 Tryd.func63 (c2) ?_)|(refine we ?_))|((first|(apply qb;rfl;rfl;exact nle rfl)|(apply qa;rfl;rfl;exact nle rfl)|refine xsC ?_ ?_);all_goals (intro hc;have hp:=hc;try simp at hp;try (exfalso;omega)))|refine jm ?_ ?_)
   all_goals try (exfalso;omega)
   all_goals (refine ⟨m - (i + 1),⟨[(7,.os 1 0 (i + 1)),(10,.v (.int .i64 (m:Int))),(11,.v (.int .i64 ((i + 1:Nat):Int))),(2,.clo (.func 63) [.op 0 0 0] [])],[(0,jo r2),(1,.own false 5 ((l.take (i + 1)).map Chg.row))],2⟩,by omega,?_,⟨i + 1,r2,by omega,rfl,by rw [htk];exact hrep2,.inr ⟨Nat.succ_pos _,rfl⟩⟩⟩;refine qS [(2,1)] rfl ?gts ?ghs;(case gts=>(repeat (first|exact ql|refine qZ ?_|refine ym ?_|refine jH ?_|refine yu ?_|refine jI ?_ ?_|refine yf ?_ ?_));all_goals first|rfl|(simp;omega)|exact zz ql (qd rfl));(case ghs=>refine wU (q:=0) (n:=2) rfl rfl (qd rfl) (qd rfl) ?_ ?_ ?_ qh;all_goals (first|(with_reducible rfl)|(rw [htk,List.take_of_length_le (Nat.le_of_eq hml),List.map_append];rfl)|exact xY _)))
 ·obtain rfl:i = m:=by omega
  rw [h2] at hrep
  injection hrep with hrep
  injection hrep with e1 e2
  subst e2
  rw [← e1] at hst
  clear e1
  rcases hst with ⟨rfl,rfl⟩|⟨hp,rfl⟩
  ·obtain rfl:l = []:=List.eq_nil_of_length_eq_zero hlm
   obtain rfl:s0 = r:=by
    simp only [jL] at h2
    injection h2 with h2
    injection h2
   clear h2
   unfold ya
   refine Awp.red (qS (τ:=⟨[(7,.sl false []),(10,.v (.int .i64 ((0:Nat):Int))),(11,.v (.int .i64 ((0:Nat):Int)))],[(0,jo s0)],1⟩) [] rfl ?gts9 ?ghs9) ?_
   case gts9 =>
    refine W6 ?_
    (repeat (first|exact ql|refine qZ ?_|refine ym ?_|refine jH ?_|refine yu ?_|refine jI ?_ ?_|refine yf ?_ ?_))
    all_goals rfl
   case ghs9=>refine yr (q:=0) rfl (qd rfl) ?_ qh;all_goals (first|(with_reducible rfl)|rfl)
   repeat' (first|refine qk ?_|fail|((first|(apply qb;rfl;rfl;exact nle rfl)|(apply qa;rfl;rfl;exact nle rfl)|refine xsC ?_ ?_);all_goals (intro hc;have hp:=hc;try simp at hp;try (exfalso;omega)))|refine jm ?_ ?_)
   all_goals try (exfalso;omega)
   all_goals ((apply qD (rs:=[.tmp 6]) [] 1;(case hr=>(repeat (first|exact qw|(apply qx;rfl)|(apply qu;rfl;rfl;rfl;rfl;rfl))));(case hL=>rfl);(case hh=>refine yr (q:=0) rfl (qd rfl) ?_ qh;all_goals (first|(with_reducible rfl)|rfl));(case hi=>exact rfl);(case hz=>first|rfl|(simp [jQ,AV.ren,AV.ren.renL,js,qn,jh];done))))
  ·clear h2
   unfold ya
   refine Awp.red (km 1 rfl (xY l)) ?_
   refine Awp.red (X4 7 1 rfl rfl (by rw [List.length_map];omega)) ?_
   repeat' (first|refine qk ?_|fail|((first|(apply qb;rfl;rfl;exact nle rfl)|(apply qa;rfl;rfl;exact nle rfl)|refine xsC ?_ ?_);all_goals (intro hc;have hp:=hc;try simp at hp;try (exfalso;omega)))|refine jm ?_ ?_)
   all_goals try (exfalso;omega)
   all_goals ((apply qD (rs:=[.tmp 6]) [] 1;(case hr=>(repeat (first|exact qw|(apply qx;rfl)|(apply qu;rfl;rfl;rfl;rfl;rfl))));(case hL=>rfl);(case hh=>refine yr (q:=0) rfl (qd rfl) ?_ qh;all_goals (first|(with_reducible rfl)|rfl));(case hi=>exact rfl);(case hz=>first|rfl|(simp [jQ,AV.ren,AV.ren.renL,js,qn,jh];done))))
set_option maxHeartbeats 4000000 in
theorem Y3 (s:qj) (hs:s.length ≤ 1000000000) (h:xZ s = none):yq C1.P 62 [.op 0 0 0,.v (.int .i64 20),.clo (.func 63) [.op 0 0 0] []] [jo s] xX Xl:=by
 rcases k9 h with h1|⟨m,k,s0,l,r,h1,hm,hkm,h2,h3⟩
 ·have c1:=vG _ s hs h1
  refine qq (C:=C1) Tryd.func62 rfl _ Tryd.ntmps62 (Nat.le_of_ble_eq_true rfl) 1 rfl rfl ?_
  repeat' (first|refine qk ?_|(first|((refine jq (first:=[]) (cap:=[]) 0 [] (qG Tryd.func61 rfl rfl) (c1) rfl (⟨rfl,jD⟩) ?_);(repeat (first|exact qy 10 rfl|exact ⟨10,rfl⟩|refine qz (d:=10) rfl (nle rfl) ?_|(apply qC;exact nle rfl;refine ⟨?_,?_⟩;(first|exact fun h=>absurd h Bool.false_ne_true|(intro _;kernel_rfl)))));done))|((first|(apply qb;rfl;rfl;exact nle rfl)|(apply qa;rfl;rfl;exact nle rfl)|refine xsC ?_ ?_);all_goals (intro hc;have hp:=hc;try simp at hp;try (exfalso;omega)))|refine jm ?_ ?_)
 ·have c1:=kN _ s s0 m hs h1
  have hl0:=x0 h1
  have hpl : ∀ s x r,kb s = some (x,r) → r.length ≤ s.length:=fun _ _ _ h=>kx h
  have hlm:=(jR hpl h2).1
  clear h h1
  refine qq (C:=C1) Tryd.func62 rfl _ Tryd.ntmps62 (Nat.le_of_ble_eq_true rfl) 1 rfl rfl ?_
  repeat' (first|refine qk ?_|(first|(apply qc Tryd.func61 rfl rfl;intro hIsFn;refine qH 0 hIsFn (c1) ?_))|((first|(apply qb;rfl;rfl;exact nle rfl)|(apply qa;rfl;rfl;exact nle rfl)|refine xsC ?_ ?_);all_goals (intro hc;have hp:=hc;try simp at hp;try (exfalso;omega)))|refine jm ?_ ?_)
  (refine Awp.red (qS (τ:=⟨[(7,.sl true []),(10,.v (.int .i64 (m:Int))),(11,.v (.int .i64 ((0:Nat):Int))),(2,.clo (.func 63) [.op 0 0 0] [])],[(0,jo s0)],1⟩) [] rfl ?gts2 ?ghs2) ?_;(case gts2=>(repeat (first|exact ql|refine qZ ?_|refine ym ?_|refine jH ?_|refine yu ?_|refine jI ?_ ?_|refine yf ?_ ?_));all_goals first|rfl|exact zz ql (qd rfl));(case ghs2=>refine yr (q:=0) rfl (qd rfl) ?_ qh;all_goals (first|(with_reducible rfl)|rfl)))
  refine jW (fun n σ => ∃ (i:Nat) (r' : qj),i ≤ k ∧ n = k - i ∧ jL kb s0 i = some (l.take i,r') ∧ ((i = 0 ∧ σ = ⟨[(7,.sl true []),(10,.v (.int .i64 (m:Int))),(11,.v (.int .i64 ((0:Nat):Int))),(2,.clo (.func 63) [.op 0 0 0] [])],[(0,jo s0)],1⟩) ∨ (0 < i ∧ σ = ⟨[(7,.os 1 0 i),(10,.v (.int .i64 (m:Int))),(11,.v (.int .i64 (i:Int))),(2,.clo (.func 63) [.op 0 0 0] [])],[(0,jo r'),(1,.own false 5 ((l.take i).map Chg.row))],2⟩))) k ⟨0,s0,Nat.zero_le _,rfl,rfl,.inl ⟨rfl,rfl⟩⟩ ?_
  rintro n σ ⟨i,r',hi,rfl,hrep,hst⟩
  by_cases hlt:i < k
  ·obtain ⟨x,r2,hx,hrep2,htk⟩:=xT h2 hlt hrep
   have hr1:=(jR hpl hrep).2
   have c2:=WO r' r2 x (by omega) hx
   have hrr:r2.length ≤ r'.length:=kx hx
   rcases hst with ⟨rfl,rfl⟩|⟨hp,rfl⟩
   ·obtain rfl:s0 = r':=by
     simp only [jL] at hrep
     injection hrep with hrep
     injection hrep
    clear h2 hrep hx hpl
    repeat' (first|refine qk ?_|(first|(refine ye ?_)|(refine VE (first:=[.op 0 0 0]) (cap:=[]) 0 Tryd.func63 (c2) ?_)|(refine wd ?_))|((first|(apply qb;rfl;rfl;exact nle rfl)|(apply qa;rfl;rfl;exact nle rfl)|refine xsC ?_ ?_);all_goals (intro hc;have hp:=hc;try simp at hp;try (exfalso;omega)))|refine jm ?_ ?_)
    all_goals try (exfalso;omega)
    all_goals (refine ⟨k - (0 + 1),⟨[(7,.os 1 0 (0 + 1)),(10,.v (.int .i64 (m:Int))),(11,.v (.int .i64 ((0 + 1:Nat):Int))),(2,.clo (.func 63) [.op 0 0 0] [])],[(0,jo r2),(1,.own false 5 ((l.take (0 + 1)).map Chg.row))],2⟩,by omega,?_,⟨0 + 1,r2,by omega,rfl,by rw [htk];exact hrep2,.inr ⟨Nat.succ_pos _,rfl⟩⟩⟩;refine qS [(1,1)] rfl ?gts ?ghs;(case gts=>(repeat (first|exact ql|refine qZ ?_|refine ym ?_|refine jH ?_|refine yu ?_|refine jI ?_ ?_|refine yf ?_ ?_));all_goals first|rfl|(simp;omega)|exact zz ql (qd rfl));(case ghs=>refine wU (q:=0) (n:=1) rfl rfl (qd rfl) (qd rfl) ?_ ?_ ?_ qh;all_goals (first|(with_reducible rfl)|(rw [htk];simp;done)|exact xY _)))
   ·have hlen:(l.take i).length = i:=by rw [List.length_take];omega
    have hml:((l.take i).map Chg.row).length = i:=by rw [List.length_map];exact hlen
    clear h2 hrep hx hpl
    repeat' (first|refine qk ?_|(first|(refine ye ?_)|(refine VE (first:=[.op 0 0 0]) (cap:=[]) 0 Tryd.func63 (c2) ?_)|(refine we ?_))|((first|(apply qb;rfl;rfl;exact nle rfl)|(apply qa;rfl;rfl;exact nle rfl)|refine xsC ?_ ?_);all_goals (intro hc;have hp:=hc;try simp at hp;try (exfalso;omega)))|refine jm ?_ ?_)
    all_goals try (exfalso;omega)
    all_goals (refine ⟨k - (i + 1),⟨[(7,.os 1 0 (i + 1)),(10,.v (.int .i64 (m:Int))),(11,.v (.int .i64 ((i + 1:Nat):Int))),(2,.clo (.func 63) [.op 0 0 0] [])],[(0,jo r2),(1,.own false 5 ((l.take (i + 1)).map Chg.row))],2⟩,by omega,?_,⟨i + 1,r2,by omega,rfl,by rw [htk];exact hrep2,.inr ⟨Nat.succ_pos _,rfl⟩⟩⟩;refine qS [(2,1)] rfl ?gts ?ghs;(case gts=>(repeat (first|exact ql|refine qZ ?_|refine ym ?_|refine jH ?_|refine yu ?_|refine jI ?_ ?_|refine yf ?_ ?_));all_goals first|rfl|(simp;omega)|exact zz ql (qd rfl));(case ghs=>refine wU (q:=0) (n:=2) rfl rfl (qd rfl) (qd rfl) ?_ ?_ ?_ qh;all_goals (first|(with_reducible rfl)|(rw [htk,List.take_of_length_le (Nat.le_of_eq hml),List.map_append];rfl)|exact xY _)))
  ·obtain rfl:i = k:=by omega
   rw [h2] at hrep
   injection hrep with hrep
   injection hrep with e1 e2
   subst e2
   have hr1:=(jR hpl h2).2
   have c2:=Zk r (by omega) h3
   clear e1 hpl
   rcases hst with ⟨rfl,rfl⟩|⟨hp,rfl⟩
   ·obtain rfl:s0 = r:=by
     simp only [jL] at h2
     injection h2 with h2
     injection h2
    clear h2
    repeat' (first|refine qk ?_|(first|((refine jq (first:=[.op 0 0 0]) (cap:=[]) 0 [] (qG Tryd.func63 rfl rfl) (c2) rfl (⟨rfl,jD⟩) ?_);(repeat (first|exact qy 15 rfl|exact ⟨15,rfl⟩|refine qz (d:=15) rfl (nle rfl) ?_|(apply qC;exact nle rfl;refine ⟨?_,?_⟩;(first|exact fun h=>absurd h Bool.false_ne_true|(intro _;kernel_rfl)))));done))|((first|(apply qb;rfl;rfl;exact nle rfl)|(apply qa;rfl;rfl;exact nle rfl)|refine xsC ?_ ?_);all_goals (intro hc;have hp:=hc;try simp at hp;try (exfalso;omega)))|refine jm ?_ ?_)
    all_goals (exfalso;omega)
   ·clear h2
    repeat' (first|refine qk ?_|(first|((refine jq (first:=[.op 0 0 0]) (cap:=[]) 0 [] (qG Tryd.func63 rfl rfl) (c2) rfl (⟨rfl,jD⟩) ?_);(repeat (first|exact qy 15 rfl|exact ⟨15,rfl⟩|refine qz (d:=15) rfl (nle rfl) ?_|(apply qC;exact nle rfl;refine ⟨?_,?_⟩;(first|exact fun h=>absurd h Bool.false_ne_true|(intro _;kernel_rfl)))));done))|((first|(apply qb;rfl;rfl;exact nle rfl)|(apply qa;rfl;rfl;exact nle rfl)|refine xsC ?_ ?_);all_goals (intro hc;have hp:=hc;try simp at hp;try (exfalso;omega)))|refine jm ?_ ?_)
    all_goals (exfalso;omega)
theorem Ju (s r:qj) (l:List Chg) (hs:s.length ≤ 1000000000) (h:xZ s = some (l,r)):qp C1.P 32 [.op 0 0 0] [jo s] (ya l) [jo r]:=by
 have c1:=Wt s r l hs h
 refine qf (C:=C1) Tryd.func32 rfl _ Tryd.ntmps32 (Nat.le_of_ble_eq_true rfl) _ Tryd.results32 1 rfl rfl ?_
 repeat' (first|refine qk ?_|(first|(apply qc Tryd.func62 rfl rfl;intro hIsFn;refine qH 0 hIsFn (c1) ?_))|((first|(apply qb;rfl;rfl;exact nle rfl)|(apply qa;rfl;rfl;exact nle rfl)|refine xsC ?_ ?_);all_goals (intro hc;have hp:=hc;try simp at hp;try (exfalso;omega)))|refine jm ?_ ?_)
 all_goals ((apply qD (rs:=[.tmp 2]) [] 1;(case hr=>(repeat (first|exact qw|(apply qx;rfl)|(apply qu;rfl;rfl;rfl;rfl;rfl))));(case hL=>rfl);(case hh=>refine yr (q:=0) rfl (qd rfl) ?_ qh;all_goals (first|(with_reducible rfl)|rfl));(case hi=>exact rfl);(case hz=>first|rfl|(simp [jQ,AV.ren,AV.ren.renL,js,qn,jh];done))))
theorem zW (s:qj) (hs:s.length ≤ 1000000000) (h:xZ s = none):yq C1.P 32 [.op 0 0 0] [jo s] xX Xl:=by
 have c1:=Y3 s hs h
 refine qq (C:=C1) Tryd.func32 rfl _ Tryd.ntmps32 (Nat.le_of_ble_eq_true rfl) 1 rfl rfl ?_
 repeat' (first|refine qk ?_|(first|((refine jq (first:=[]) (cap:=[]) 0 [] (qG Tryd.func62 rfl rfl) (c1) rfl (⟨rfl,jD⟩) ?_);(repeat (first|exact qy 6 rfl|exact ⟨6,rfl⟩|refine qz (d:=6) rfl (nle rfl) ?_|(apply qC;exact nle rfl;refine ⟨?_,?_⟩;(first|exact fun h=>absurd h Bool.false_ne_true|(intro _;kernel_rfl)))));done))|((first|(apply qb;rfl;rfl;exact nle rfl)|(apply qa;rfl;rfl;exact nle rfl)|refine xsC ?_ ?_);all_goals (intro hc;have hp:=hc;try simp at hp;try (exfalso;omega)))|refine jm ?_ ?_)
end Go.Proofs.YtahbbnfmbohmmaaDoor
