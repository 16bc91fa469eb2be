import Derived.Test.YtahbbnfmbohmmaaDoorMz23
import Derived.Test.YtahbbnfmbohmmaaDoorMz13
import Derived.Test.YtahbbnfmbohmmaaDoorMz10
set_option linter.unusedSimpArgs false
set_option linter.unnecessarySimpa false
set_option linter.unusedVariables false
set_option maxHeartbeats 1000000
namespace Go.Proofs.YtahbbnfmbohmmaaDoor
open Go.Ab Go.RowKit
set_option maxRecDepth 10000
theorem qz {s r:qo} {t:qo} (h:ja s = some (t,r)):r.length ≤ s.length:=by
 rw [(rd_txt.of _ _ _ h).1,List.length_append];omega
theorem yu {s r:qo} {t:Bool} (h:xl s = some (t,r)):r.length ≤ s.length:=by
 rw [(rd_yes.of _ _ _ h).1,List.length_append];omega
theorem Kq {s r:qo} {x:_} (h:zn s = some (x,r)) : ∃ s1 s2 s3 s4,qR s = some (x.kind,s1) ∧ ja s1 = some (x.path,s2) ∧ ja s2 = some (x.to,s3) ∧ ja s3 = some (x.text,s4) ∧ qR s4 = some (x.base,r):=by
 unfold zn at h
 repeat' (split at h)
 all_goals first
  | (cases h;done)
  | skip
 rename_i h1 _ _ _ h2 _ _ _ h3 _ _ _ h4 _ _ _ h5
 injection h with h
 injection h with e1 e2
 subst e1 e2
 exact ⟨_,_,_,_,h1,h2,h3,h4,h5⟩
theorem Zv {s:qo} (h:zn s = none):qR s = none ∨ ∃ a s1,qR s = some (a,s1) ∧ (ja s1 = none ∨ ∃ b s2,ja s1 = some (b,s2) ∧ (ja s2 = none ∨ ∃ c s3,ja s2 = some (c,s3) ∧ (ja s3 = none ∨ ∃ d s4,ja s3 = some (d,s4) ∧ (qR s4 = none)))):=by
 unfold zn at h
 cases h1:qR s with
 | none=>exact .inl rfl
 | some z =>
   obtain ⟨v1,s1⟩:=z
   rw [h1] at h
   simp only at h
   refine .inr ⟨v1,s1,rfl,?_⟩
   cases h2:ja s1 with
   | none=>exact .inl rfl
   | some z =>
     obtain ⟨v2,s2⟩:=z
     rw [h2] at h
     simp only at h
     refine .inr ⟨v2,s2,rfl,?_⟩
     cases h3:ja s2 with
     | none=>exact .inl rfl
     | some z =>
       obtain ⟨v3,s3⟩:=z
       rw [h3] at h
       simp only at h
       refine .inr ⟨v3,s3,rfl,?_⟩
       cases h4:ja s3 with
       | none=>exact .inl rfl
       | some z =>
         obtain ⟨v4,s4⟩:=z
         rw [h4] at h
         simp only at h
         refine .inr ⟨v4,s4,rfl,?_⟩
         cases h5:qR s4 with
         | none=>rfl
         | some z =>
           rw [h5] at h
           cases h
theorem kK {s r:qo} {c:Chg} (h:zn s = some (c,r)):r.length ≤ s.length:=by
 rw [(rd_chg.of _ _ _ h).1,List.length_append];omega
attribute [local irreducible] Awp jU jl qQ Red qD Go.Ab.Fin qt Rz yZ qO qJ ResOk jt qU jN qG
set_option maxHeartbeats 1000000 in
theorem qav (s r:qo) (c:Chg) (hs:s.length ≤ 1000000000) (h:zn s = some (c,r)):qt C1.P 63 [.op 0 0 0] [jx s] (.agg c.row) [jx r]:=by
 obtain ⟨s1,s2,s3,s4,h1,h2,h3,h4,h5⟩:=Kq h
 obtain ⟨a,b,c,d,e⟩:=c
 dsimp only at *
 have c1:=jD s s1 _ (by omega) h1
 have l1:=qx h1
 have c2:=js s1 _ s2 (by omega) h2
 have l2:=qz h2
 have c3:=js s2 _ s3 (by omega) h3
 have l3:=qz h3
 have c4:=js s3 _ s4 (by omega) h4
 have l4:=qz h4
 have c5:=jD s4 r _ (by omega) h5
 have l5:=qx h5
 clear h h1 h2 h3 h4 h5
 unfold Chg.row
 refine qf (C:=C1) Tryd.func63 rfl _ Tryd.ntmps63 (Nat.le_of_ble_eq_true rfl) _ Tryd.results63 1 rfl rfl ?_
 repeat' (first|refine qi ?_|(first|(apply qc Tryd.func30 rfl rfl;intro hIsFn;refine qN 0 hIsFn (c1) ?_)|(apply qc Tryd.func31 rfl rfl;intro hIsFn;refine qN 0 hIsFn (c2) ?_)|(apply qc Tryd.func31 rfl rfl;intro hIsFn;refine qN 0 hIsFn (c3) ?_)|(apply qc Tryd.func31 rfl rfl;intro hIsFn;refine qN 0 hIsFn (c4) ?_)|(apply qc Tryd.func30 rfl rfl;intro hIsFn;refine qN 0 hIsFn (c5) ?_))|((first|(apply qb;rfl;rfl;exact nle rfl)|(apply qa;rfl;rfl;exact nle rfl)|refine xsC ?_ ?_);all_goals (intro hc;have hp:=hc;try simp at hp;try (exfalso;omega)))|refine qS ?_ ?_)
 all_goals ((apply qu (rs:=[.cell 2 97]) [] 1;(case hr=>(repeat (first|exact qm|(apply qn;rfl)|(apply qj;rfl;rfl;rfl;rfl;rfl))));(case hL=>rfl);(case hh=>refine yK (q:=0) rfl (qd rfl) ?_ qe;all_goals (first|(with_reducible rfl)|rfl));(case hi=>exact rfl);(case hz=>first|rfl|(simp [ju,AV.ren,AV.ren.renL,qP,qr,qL];done))))
set_option maxHeartbeats 2000000 in
theorem ZR (s:qo) (hs:s.length ≤ 1000000000) (h:zn s = none):yJ C1.P 63 [.op 0 0 0] [jx s] vf XI:=by
 rcases Zv h with h1|⟨v1,s1,h1,h2|⟨v2,s2,h2,h3|⟨v3,s3,h3,h4|⟨v4,s4,h4,h5⟩⟩⟩⟩
 ·have cd:=yp s (by omega) h1
  clear h h1
  refine qw (C:=C1) Tryd.func63 rfl _ Tryd.ntmps63 (Nat.le_of_ble_eq_true rfl) 1 rfl rfl ?_
  repeat' (first|refine qi ?_|(first|((refine jz (first:=[]) (cap:=[]) 0 [] (qM Tryd.func30 rfl rfl) (cd) rfl (⟨rfl,jP⟩) ?_);(repeat (first|exact qB 4 rfl|exact ⟨4,rfl⟩|refine qC (d:=4) rfl (nle rfl) ?_|(apply qH;exact nle rfl;refine ⟨?_,?_⟩;(first|exact fun h=>absurd h Bool.false_ne_true|(intro _;kernel_rfl)))));done))|((first|(apply qb;rfl;rfl;exact nle rfl)|(apply qa;rfl;rfl;exact nle rfl)|refine xsC ?_ ?_);all_goals (intro hc;have hp:=hc;try simp at hp;try (exfalso;omega)))|refine qS ?_ ?_)
 ·have c1:=jD s s1 _ (by omega) h1
  have l1:=qx h1
  have cd:=yy s1 (by omega) h2
  clear h h1 h2
  refine qw (C:=C1) Tryd.func63 rfl _ Tryd.ntmps63 (Nat.le_of_ble_eq_true rfl) 1 rfl rfl ?_
  repeat' (first|refine qi ?_|(first|(apply qc Tryd.func30 rfl rfl;intro hIsFn;refine qN 0 hIsFn (c1) ?_)|((refine jz (first:=[]) (cap:=[]) 0 [] (qM Tryd.func31 rfl rfl) (cd) rfl (⟨rfl,jP⟩) ?_);(repeat (first|exact qB 6 rfl|exact ⟨6,rfl⟩|refine qC (d:=6) rfl (nle rfl) ?_|(apply qH;exact nle rfl;refine ⟨?_,?_⟩;(first|exact fun h=>absurd h Bool.false_ne_true|(intro _;kernel_rfl)))));done))|((first|(apply qb;rfl;rfl;exact nle rfl)|(apply qa;rfl;rfl;exact nle rfl)|refine xsC ?_ ?_);all_goals (intro hc;have hp:=hc;try simp at hp;try (exfalso;omega)))|refine qS ?_ ?_)
 ·have c1:=jD s s1 _ (by omega) h1
  have l1:=qx h1
  have c2:=js s1 _ s2 (by omega) h2
  have l2:=qz h2
  have cd:=yy s2 (by omega) h3
  clear h h1 h2 h3
  refine qw (C:=C1) Tryd.func63 rfl _ Tryd.ntmps63 (Nat.le_of_ble_eq_true rfl) 1 rfl rfl ?_
  repeat' (first|refine qi ?_|(first|(apply qc Tryd.func30 rfl rfl;intro hIsFn;refine qN 0 hIsFn (c1) ?_)|(apply qc Tryd.func31 rfl rfl;intro hIsFn;refine qN 0 hIsFn (c2) ?_)|((refine jz (first:=[]) (cap:=[]) 0 [] (qM Tryd.func31 rfl rfl) (cd) rfl (⟨rfl,jP⟩) ?_);(repeat (first|exact qB 8 rfl|exact ⟨8,rfl⟩|refine qC (d:=8) rfl (nle rfl) ?_|(apply qH;exact nle rfl;refine ⟨?_,?_⟩;(first|exact fun h=>absurd h Bool.false_ne_true|(intro _;kernel_rfl)))));done))|((first|(apply qb;rfl;rfl;exact nle rfl)|(apply qa;rfl;rfl;exact nle rfl)|refine xsC ?_ ?_);all_goals (intro hc;have hp:=hc;try simp at hp;try (exfalso;omega)))|refine qS ?_ ?_)
 ·have c1:=jD s s1 _ (by omega) h1
  have l1:=qx h1
  have c2:=js s1 _ s2 (by omega) h2
  have l2:=qz h2
  have c3:=js s2 _ s3 (by omega) h3
  have l3:=qz h3
  have cd:=yy s3 (by omega) h4
  clear h h1 h2 h3 h4
  refine qw (C:=C1) Tryd.func63 rfl _ Tryd.ntmps63 (Nat.le_of_ble_eq_true rfl) 1 rfl rfl ?_
  repeat' (first|refine qi ?_|(first|(apply qc Tryd.func30 rfl rfl;intro hIsFn;refine qN 0 hIsFn (c1) ?_)|(apply qc Tryd.func31 rfl rfl;intro hIsFn;refine qN 0 hIsFn (c2) ?_)|(apply qc Tryd.func31 rfl rfl;intro hIsFn;refine qN 0 hIsFn (c3) ?_)|((refine jz (first:=[]) (cap:=[]) 0 [] (qM Tryd.func31 rfl rfl) (cd) rfl (⟨rfl,jP⟩) ?_);(repeat (first|exact qB 10 rfl|exact ⟨10,rfl⟩|refine qC (d:=10) rfl (nle rfl) ?_|(apply qH;exact nle rfl;refine ⟨?_,?_⟩;(first|exact fun h=>absurd h Bool.false_ne_true|(intro _;kernel_rfl)))));done))|((first|(apply qb;rfl;rfl;exact nle rfl)|(apply qa;rfl;rfl;exact nle rfl)|refine xsC ?_ ?_);all_goals (intro hc;have hp:=hc;try simp at hp;try (exfalso;omega)))|refine qS ?_ ?_)
 ·have c1:=jD s s1 _ (by omega) h1
  have l1:=qx h1
  have c2:=js s1 _ s2 (by omega) h2
  have l2:=qz h2
  have c3:=js s2 _ s3 (by omega) h3
  have l3:=qz h3
  have c4:=js s3 _ s4 (by omega) h4
  have l4:=qz h4
  have cd:=yp s4 (by omega) h5
  clear h h1 h2 h3 h4 h5
  refine qw (C:=C1) Tryd.func63 rfl _ Tryd.ntmps63 (Nat.le_of_ble_eq_true rfl) 1 rfl rfl ?_
  repeat' (first|refine qi ?_|(first|(apply qc Tryd.func30 rfl rfl;intro hIsFn;refine qN 0 hIsFn (c1) ?_)|(apply qc Tryd.func31 rfl rfl;intro hIsFn;refine qN 0 hIsFn (c2) ?_)|(apply qc Tryd.func31 rfl rfl;intro hIsFn;refine qN 0 hIsFn (c3) ?_)|(apply qc Tryd.func31 rfl rfl;intro hIsFn;refine qN 0 hIsFn (c4) ?_)|((refine jz (first:=[]) (cap:=[]) 0 [] (qM Tryd.func30 rfl rfl) (cd) rfl (⟨rfl,jP⟩) ?_);(repeat (first|exact qB 12 rfl|exact ⟨12,rfl⟩|refine qC (d:=12) rfl (nle rfl) ?_|(apply qH;exact nle rfl;refine ⟨?_,?_⟩;(first|exact fun h=>absurd h Bool.false_ne_true|(intro _;kernel_rfl)))));done))|((first|(apply qb;rfl;rfl;exact nle rfl)|(apply qa;rfl;rfl;exact nle rfl)|refine xsC ?_ ?_);all_goals (intro hc;have hp:=hc;try simp at hp;try (exfalso;omega)))|refine qS ?_ ?_)
end Go.Proofs.YtahbbnfmbohmmaaDoor
set_option linter.unusedSimpArgs false
set_option linter.unnecessarySimpa false
set_option linter.unusedVariables false
namespace Go.Proofs.YtahbbnfmbohmmaaDoor
open Go.Ab Go.RowKit
set_option maxRecDepth 10000
section steps
variable {C' : Cx} {N:Nat} {all:Array Oper} {es:List Eff} {o:Oper} {os:List Oper} {K:List Eff → St → Prop} {ts:List (Nat × AV)} {hs:List (Nat × HB)} {nx:Nat} {gd:List Nat}
theorem V3 {f:FuncId} {fn:Func} {x:Operand} {first cap:List AV} {args:List Operand} {tys:Array TypeId} {d:Nat} {ty:TypeId} {pos:String} {af:Array Edge} {gg:Option (Nat × Bool)} {ys:List AV} {v:AV} {s r:qo} (q:Nat) (hf:C'.P.funcs[f]? = some fn)
  (hc:qt C'.P f ys [jx s] v [jx r])
  (k:jU C' N all (⟨gd ++ (jp x ++ args.flatMap jp),[q],some d,v,[(q,jx r)],[]⟩ :: es) ⟨(d,v) :: ts,(q,jx r) :: hs,nx⟩ os K)
  (hx:evA (qr ts) x = .clo (.func f) first cap:=by rfl) (hb0:fn.body.isNone = false:=by rfl) (hn0:(fn.name == "runtime.NumGoroutine") = false:=by rfl)
  (hq:qq hs q = jx s:=by rfl)
  (hz:qG (jE 0 [q]) [q] (qq hs) (first ++ args.map (evA (qr ts)) ++ cap) ys:=by ((repeat' (first|exact jr|apply jj|exact jq rfl|exact jY|(apply qv;apply jf;exact .inr (of_decide_eq_true rfl))|(apply qv;apply yc;exact .inr (of_decide_eq_true rfl))|(apply qv;apply jn;exact .inr (of_decide_eq_true rfl))|apply jF|apply jG))<;>fail)) (hr:v.ren (xw (jE 0 [q])) = v:=by rfl) (hN:d < N:=by exact nle rfl):jl C' N all gd es ⟨ts,hs,nx⟩ ⟨some d,.call ⟨.value x,args.toArray,tys⟩,ty,pos,af,gg⟩ os K :=
 zG [q] [] [(q,jx r)] nx v hf hc hz (jA (jx s) yt (qX (qE rfl)) hq rfl) (qV (qX (qE rfl)) ye) k hx hb0 hn0 hr rfl rfl (Nat.le_of_ble_eq_true rfl) (by simp) rfl (fun n hn=>by cases hn) (Nat.le_refl _) hN
end steps
theorem Xx {α:Type} {p:qo → Option (α × qo)} {s:qo} : ∀ {m:Nat} {l:List α} {r:qo},jT p s m = some (l,r) → ∀ i,i ≤ m → ∃ r',jT p s i = some (l.take i,r')
 | 0,l,r,h,i,hi=>by
   obtain rfl:i = 0:=by omega
   simp only [jT] at h
   injection h with h
   injection h with h1 h2
   exact ⟨s,by subst h1;rfl⟩
 | m + 1,l,r,h,i,hi=>by
   have hh:=h
   unfold jT at hh
   cases hp:jT p s m with
   | none=>rw [hp] at hh;cases hh
   | some z =>
     obtain ⟨l',r'⟩:=z
     rw [hp] at hh
     simp only at hh
     cases hx:p r' with
     | none=>rw [hx] at hh;cases hh
     | some y =>
       obtain ⟨x,r''⟩:=y
       rw [hx] at hh
       injection hh with hh
       injection hh with e1 e2
       subst e1 e2
       by_cases him:i = m + 1
       ·subst him
        have hl:l'.length = m:=by
         have : ∀ (m:Nat) (l:List α) (r:qo),jT p s m = some (l,r) → l.length = m:=by
          intro m
          induction m with
          | zero=>intro l r h;simp only [jT] at h;injection h with h;injection h with a _;subst a;rfl
          | succ m ih =>
            intro l r h
            unfold jT at h
            cases hq:jT p s m with
            | none=>rw [hq] at h;cases h
            | some z =>
              obtain ⟨l2,r2⟩:=z
              rw [hq] at h
              simp only at h
              cases hy:p r2 with
              | none=>rw [hy] at h;cases h
              | some y =>
                obtain ⟨a,b⟩:=y
                rw [hy] at h
                injection h with h
                injection h with h1 _
                subst h1
                rw [List.length_append,ih l2 r2 hq]
                rfl
         exact this m l' r' hp
        exact ⟨r'',by rw [h,List.take_of_length_le (by simp [hl])]⟩
       ·obtain ⟨r3,h3⟩:=Xx hp i (by omega)
        have hl2:i ≤ l'.length ∨ True := .inr trivial
        refine ⟨r3,?_⟩
        rw [h3]
        congr 2
        have hlen : ∀ (m:Nat) (l:List α) (r:qo),jT p s m = some (l,r) → l.length = m:=by
         intro m
         induction m with
         | zero=>intro l r h;simp only [jT] at h;injection h with h;injection h with a _;subst a;rfl
         | succ m ih =>
           intro l r h
           unfold jT at h
           cases hq:jT p s m with
           | none=>rw [hq] at h;cases h
           | some z =>
             obtain ⟨l2,r2⟩:=z
             rw [hq] at h
             simp only at h
             cases hy:p r2 with
             | none=>rw [hy] at h;cases h
             | some y =>
               obtain ⟨a,b⟩:=y
               rw [hy] at h
               injection h with h
               injection h with h1 _
               subst h1
               rw [List.length_append,ih l2 r2 hq]
               rfl
        rw [List.take_append_of_le_length (by rw [hlen m l' r' hp];omega)]
theorem yg {α:Type} {p:qo → Option (α × qo)} {s:qo} (hp : ∀ s x r,p s = some (x,r) → r.length ≤ s.length) : ∀ {m:Nat} {l:List α} {r:qo},jT p s m = some (l,r) → l.length = m ∧ r.length ≤ s.length
 | 0,l,r,h=>by
   simp only [jT] at h
   injection h with h
   injection h with a b
   subst a b
   exact ⟨rfl,Nat.le_refl _⟩
 | m + 1,l,r,h=>by
   unfold jT at h
   cases hq:jT p s m with
   | none=>rw [hq] at h;cases h
   | some z =>
     obtain ⟨l2,r2⟩:=z
     rw [hq] at h
     simp only at h
     cases hy:p r2 with
     | none=>rw [hy] at h;cases h
     | some y =>
       obtain ⟨a,b⟩:=y
       rw [hy] at h
       injection h with h
       injection h with h1 h2
       subst h1 h2
       obtain ⟨i1,i2⟩:=yg hp hq
       exact ⟨by rw [List.length_append,i1];rfl,Nat.le_trans (hp _ _ _ hy) i2⟩
theorem vb {α:Type} {p:qo → Option (α × qo)} {s:qo} {m:Nat} {l:List α} {r:qo} (h:jT p s m = some (l,r)) {i:Nat} (hi:i < m) {r' : qo} (h' : jT p s i = some (l.take i,r')) : ∃ x r'',p r' = some (x,r'') ∧ jT p s (i + 1) = some (l.take i ++ [x],r'') ∧ l.take (i + 1) = l.take i ++ [x]:=by
 obtain ⟨r3,h3⟩:=Xx h (i + 1) hi
 have hh:=h3
 unfold jT at hh
 rw [h'] at hh
 simp only at hh
 cases hx:p r' with
 | none=>rw [hx] at hh;cases hh
 | some y =>
   obtain ⟨x,r''⟩:=y
   rw [hx] at hh
   injection hh with hh
   injection hh with e1 e2
   subst e2
   exact ⟨x,r'',rfl,by rw [h3,e1],e1.symm⟩
theorem JS {α:Type} {p:qo → Option (α × qo)} {s:qo} : ∀ {m:Nat},jT p s m = none → ∃ k l r,k < m ∧ jT p s k = some (l,r) ∧ p r = none
 | 0,h=>by cases h
 | m + 1,h=>by
   unfold jT at h
   cases hq:jT p s m with
   | none =>
     obtain ⟨k,l,r,h1,h2,h3⟩:=JS hq
     exact ⟨k,l,r,by omega,h2,h3⟩
   | some z =>
     obtain ⟨l,r⟩:=z
     rw [hq] at h
     simp only at h
     cases hx:p r with
     | none=>exact ⟨m,l,r,by omega,hq,hx⟩
     | some y=>rw [hx] at h;cases h
theorem QW {α:Type} {p:qo → Option (α × qo)} {most:Nat} {s r:qo} {l:List α} (h:wy p most s = some (l,r)) : ∃ (m:Nat) (s0:qo),y9 most s = some ((m:Int),s0) ∧ m ≤ most ∧ jT p s0 m = some (l,r):=by
 unfold wy at h
 split at h
 ·cases h
 ·rename_i n s0 hc
  obtain ⟨_,_,h0,h1⟩:=xm hc
  exact ⟨n.toNat,s0,by rw [hc,Int.toNat_of_nonneg h0],by omega,h⟩
theorem wz {α:Type} {p:qo → Option (α × qo)} {most:Nat} {s:qo} (h:wy p most s = none):y9 most s = none ∨ ∃ (m k:Nat) (s0:qo) (l:List α) (r:qo),y9 most s = some ((m:Int),s0) ∧ m ≤ most ∧ k < m ∧ jT p s0 k = some (l,r) ∧ p r = none:=by
 unfold wy at h
 split at h
 ·left;assumption
 ·rename_i n s0 hc
  obtain ⟨_,_,h0,h1⟩:=xm hc
  obtain ⟨k,l,r,a,b,c⟩:=JS h
  exact .inr ⟨n.toNat,k,s0,l,r,by rw [hc,Int.toNat_of_nonneg h0],by omega,a,b,c⟩
end Go.Proofs.YtahbbnfmbohmmaaDoor
set_option linter.unusedSimpArgs false
set_option linter.unnecessarySimpa false
set_option linter.unusedVariables false
set_option maxHeartbeats 1000000
namespace Go.Proofs.YtahbbnfmbohmmaaDoor
open Go.Ab Go.RowKit
set_option maxRecDepth 10000
theorem Qj {L:List (Nat × Nat)} {nh:Nat} {σ:St} {q q' n n' k:Nat} {ex:Bool} {s s' : qo} {rows rows' : List (List AV)} {rest:List (Nat × HB)} (hq:qq σ.hs q = jx s) (hn:qq σ.hs n = .own ex k rows) (h1:Maps L nh q q') (h2:Maps L nh n n') (hs:s = s') (hr:rows = rows') (hp : ∀ row,row ∈ rows' → AV.pure.pureL row = true) (hl:jZ L nh σ rest):jZ L nh σ ((q',jx s') :: (n',.own false k rows') :: rest):=by
 subst hs hr
 exact yK hq h1 rfl ⟨⟨n,h2,by rw [hn];exact ⟨(fun h=>by cases h),rfl,yY hp⟩⟩,hl⟩
attribute [local irreducible] Awp jU jl qQ Red qD Go.Ab.Fin qt Rz yZ qO qJ ResOk jt qU jN qG
theorem vg (l:List Chg) : ∀ row,row ∈ l.map Chg.row → AV.pure.pureL row = true:=fun row h=>by
 obtain ⟨c,_,rfl⟩:=List.mem_map.1 h
 rfl
set_option maxHeartbeats 4000000 in
theorem W6 (s r:qo) (l:List Chg) (hs:s.length ≤ 1000000000) (h:xV s = some (l,r)):qt C1.P 62 [.op 0 0 0,.v (.int .i64 20),.clo (.func 63) [.op 0 0 0] []] [jx s] (j5 l) [jx r]:=by
 obtain ⟨m,s0,h1,hm,h2⟩:=QW h
 have c1:=k7 _ s s0 m hs h1
 have hl0:=vh h1
 have hpl : ∀ s x r,zn s = some (x,r) → r.length ≤ s.length:=fun _ _ _ h=>kK h
 have hlm:=(yg hpl h2).1
 clear h h1
 refine qf (C:=C1) Tryd.func62 rfl _ Tryd.ntmps62 (Nat.le_of_ble_eq_true rfl) _ Tryd.results62 1 rfl rfl ?_
 repeat' (first|refine qi ?_|(first|(apply qc Tryd.func61 rfl rfl;intro hIsFn;refine qN 0 hIsFn (c1) ?_))|((first|(apply qb;rfl;rfl;exact nle rfl)|(apply qa;rfl;rfl;exact nle rfl)|refine xsC ?_ ?_);all_goals (intro hc;have hp:=hc;try simp at hp;try (exfalso;omega)))|refine qS ?_ ?_)
 (refine Awp.red (qy (τ:=⟨[(7,.sl true []),(10,.v (.int .i64 (m:Int))),(11,.v (.int .i64 ((0:Nat):Int))),(2,.clo (.func 63) [.op 0 0 0] [])],[(0,jx s0)],1⟩) [] rfl ?gts2 ?ghs2) ?_;(case gts2=>(repeat (first|exact qh|refine qA ?_|refine jI ?_|refine jd ?_|refine jK ?_|refine je ?_ ?_|refine jy ?_ ?_));all_goals first|rfl|exact zI qh (qd rfl));(case ghs2=>refine yK (q:=0) rfl (qd rfl) ?_ qe;all_goals (first|(with_reducible rfl)|rfl)))
 refine jC (fun n σ => ∃ (i:Nat) (r' : qo),i ≤ m ∧ n = m - i ∧ jT zn s0 i = some (l.take i,r') ∧ ((i = 0 ∧ σ = ⟨[(7,.sl true []),(10,.v (.int .i64 (m:Int))),(11,.v (.int .i64 ((0:Nat):Int))),(2,.clo (.func 63) [.op 0 0 0] [])],[(0,jx s0)],1⟩) ∨ (0 < i ∧ σ = ⟨[(7,.os 1 0 i),(10,.v (.int .i64 (m:Int))),(11,.v (.int .i64 (i:Int))),(2,.clo (.func 63) [.op 0 0 0] [])],[(0,jx r'),(1,.own false 5 ((l.take i).map Chg.row))],2⟩))) m ⟨0,s0,Nat.zero_le _,rfl,rfl,.inl ⟨rfl,rfl⟩⟩ ?_
 rintro n σ ⟨i,r',hi,rfl,hrep,hst⟩
 by_cases hlt:i < m
 ·obtain ⟨x,r2,hx,hrep2,htk⟩:=vb h2 hlt hrep
  have hr1:=(yg hpl hrep).2
  have c2:=qav r' r2 x (by omega) hx
  have hrr:r2.length ≤ r'.length:=kK hx
  rcases hst with ⟨rfl,rfl⟩|⟨hp,rfl⟩
  ·obtain rfl:s0 = r':=by
    simp only [jT] at hrep
    injection hrep with hrep
    injection hrep
   clear h2 hrep hx hpl
   repeat' (first|refine qi ?_|(first|(refine ya ?_)|(refine V3 (first:=[.op 0 0 0]) (cap:=[]) 0 Tryd.func63 (c2) ?_)|(refine kB ?_))|((first|(apply qb;rfl;rfl;exact nle rfl)|(apply qa;rfl;rfl;exact nle rfl)|refine xsC ?_ ?_);all_goals (intro hc;have hp:=hc;try simp at hp;try (exfalso;omega)))|refine qS ?_ ?_)
   all_goals try (exfalso;omega)
   all_goals (refine ⟨m - (0 + 1),⟨[(7,.os 1 0 (0 + 1)),(10,.v (.int .i64 (m:Int))),(11,.v (.int .i64 ((0 + 1:Nat):Int))),(2,.clo (.func 63) [.op 0 0 0] [])],[(0,jx r2),(1,.own false 5 ((l.take (0 + 1)).map Chg.row))],2⟩,by omega,?_,⟨0 + 1,r2,by omega,rfl,by rw [htk];exact hrep2,.inr ⟨Nat.succ_pos _,rfl⟩⟩⟩;refine qy [(1,1)] rfl ?gts ?ghs;(case gts=>(repeat (first|exact qh|refine qA ?_|refine jI ?_|refine jd ?_|refine jK ?_|refine je ?_ ?_|refine jy ?_ ?_));all_goals first|rfl|(simp;omega)|exact zI qh (qd rfl));(case ghs=>refine Qj (q:=0) (n:=1) rfl rfl (qd rfl) (qd rfl) ?_ ?_ ?_ qe;all_goals (first|(with_reducible rfl)|(rw [htk];simp;done)|exact vg _)))
  ·have hlen:(l.take i).length = i:=by rw [List.length_take];omega
   have hml:((l.take i).map Chg.row).length = i:=by rw [List.length_map];exact hlen
   clear h2 hrep hx hpl
   repeat' (first|refine qi ?_|(first|(refine ya ?_)|(refine V3 (first:=[.op 0 0 0]) (cap:=[]) 0 Tryd.func63 (c2) ?_)|(refine zd ?_))|((first|(apply qb;rfl;rfl;exact nle rfl)|(apply qa;rfl;rfl;exact nle rfl)|refine xsC ?_ ?_);all_goals (intro hc;have hp:=hc;try simp at hp;try (exfalso;omega)))|refine qS ?_ ?_)
   all_goals try (exfalso;omega)
   all_goals (refine ⟨m - (i + 1),⟨[(7,.os 1 0 (i + 1)),(10,.v (.int .i64 (m:Int))),(11,.v (.int .i64 ((i + 1:Nat):Int))),(2,.clo (.func 63) [.op 0 0 0] [])],[(0,jx r2),(1,.own false 5 ((l.take (i + 1)).map Chg.row))],2⟩,by omega,?_,⟨i + 1,r2,by omega,rfl,by rw [htk];exact hrep2,.inr ⟨Nat.succ_pos _,rfl⟩⟩⟩;refine qy [(2,1)] rfl ?gts ?ghs;(case gts=>(repeat (first|exact qh|refine qA ?_|refine jI ?_|refine jd ?_|refine jK ?_|refine je ?_ ?_|refine jy ?_ ?_));all_goals first|rfl|(simp;omega)|exact zI qh (qd rfl));(case ghs=>refine Qj (q:=0) (n:=2) rfl rfl (qd rfl) (qd rfl) ?_ ?_ ?_ qe;all_goals (first|(with_reducible rfl)|(rw [htk,List.take_of_length_le (Nat.le_of_eq hml),List.map_append];rfl)|exact vg _)))
 ·obtain rfl:i = m:=by omega
  rw [h2] at hrep
  injection hrep with hrep
  injection hrep with e1 e2
  subst e2
  rw [← e1] at hst
  clear e1
  rcases hst with ⟨rfl,rfl⟩|⟨hp,rfl⟩
  ·obtain rfl:l = []:=List.eq_nil_of_length_eq_zero hlm
   obtain rfl:s0 = r:=by
    simp only [jT] at h2
    injection h2 with h2
    injection h2
   clear h2
   unfold j5
   refine Awp.red (qy (τ:=⟨[(7,.sl false []),(10,.v (.int .i64 ((0:Nat):Int))),(11,.v (.int .i64 ((0:Nat):Int)))],[(0,jx s0)],1⟩) [] rfl ?gts9 ?ghs9) ?_
   case gts9 =>
    refine W3 ?_
    (repeat (first|exact qh|refine qA ?_|refine jI ?_|refine jd ?_|refine jK ?_|refine je ?_ ?_|refine jy ?_ ?_))
    all_goals rfl
   case ghs9=>refine yK (q:=0) rfl (qd rfl) ?_ qe;all_goals (first|(with_reducible rfl)|rfl)
   repeat' (first|refine qi ?_|fail|((first|(apply qb;rfl;rfl;exact nle rfl)|(apply qa;rfl;rfl;exact nle rfl)|refine xsC ?_ ?_);all_goals (intro hc;have hp:=hc;try simp at hp;try (exfalso;omega)))|refine qS ?_ ?_)
   all_goals try (exfalso;omega)
   all_goals ((apply qu (rs:=[.tmp 6]) [] 1;(case hr=>(repeat (first|exact qm|(apply qn;rfl)|(apply qj;rfl;rfl;rfl;rfl;rfl))));(case hL=>rfl);(case hh=>refine yK (q:=0) rfl (qd rfl) ?_ qe;all_goals (first|(with_reducible rfl)|rfl));(case hi=>exact rfl);(case hz=>first|rfl|(simp [ju,AV.ren,AV.ren.renL,qP,qr,qL];done))))
  ·clear h2
   unfold j5
   refine Awp.red (xj 1 rfl (vg l)) ?_
   refine Awp.red (YD 7 1 rfl rfl (by rw [List.length_map];omega)) ?_
   repeat' (first|refine qi ?_|fail|((first|(apply qb;rfl;rfl;exact nle rfl)|(apply qa;rfl;rfl;exact nle rfl)|refine xsC ?_ ?_);all_goals (intro hc;have hp:=hc;try simp at hp;try (exfalso;omega)))|refine qS ?_ ?_)
   all_goals try (exfalso;omega)
   all_goals ((apply qu (rs:=[.tmp 6]) [] 1;(case hr=>(repeat (first|exact qm|(apply qn;rfl)|(apply qj;rfl;rfl;rfl;rfl;rfl))));(case hL=>rfl);(case hh=>refine yK (q:=0) rfl (qd rfl) ?_ qe;all_goals (first|(with_reducible rfl)|rfl));(case hi=>exact rfl);(case hz=>first|rfl|(simp [ju,AV.ren,AV.ren.renL,qP,qr,qL];done))))
set_option maxHeartbeats 4000000 in
theorem Xq (s:qo) (hs:s.length ≤ 1000000000) (h:xV s = none):yJ C1.P 62 [.op 0 0 0,.v (.int .i64 20),.clo (.func 63) [.op 0 0 0] []] [jx s] vf XI:=by
 rcases wz h with h1|⟨m,k,s0,l,r,h1,hm,hkm,h2,h3⟩
 ·have c1:=vP _ s hs h1
  refine qw (C:=C1) Tryd.func62 rfl _ Tryd.ntmps62 (Nat.le_of_ble_eq_true rfl) 1 rfl rfl ?_
  repeat' (first|refine qi ?_|(first|((refine jz (first:=[]) (cap:=[]) 0 [] (qM Tryd.func61 rfl rfl) (c1) rfl (⟨rfl,jP⟩) ?_);(repeat (first|exact qB 10 rfl|exact ⟨10,rfl⟩|refine qC (d:=10) rfl (nle rfl) ?_|(apply qH;exact nle rfl;refine ⟨?_,?_⟩;(first|exact fun h=>absurd h Bool.false_ne_true|(intro _;kernel_rfl)))));done))|((first|(apply qb;rfl;rfl;exact nle rfl)|(apply qa;rfl;rfl;exact nle rfl)|refine xsC ?_ ?_);all_goals (intro hc;have hp:=hc;try simp at hp;try (exfalso;omega)))|refine qS ?_ ?_)
 ·have c1:=k7 _ s s0 m hs h1
  have hl0:=vh h1
  have hpl : ∀ s x r,zn s = some (x,r) → r.length ≤ s.length:=fun _ _ _ h=>kK h
  have hlm:=(yg hpl h2).1
  clear h h1
  refine qw (C:=C1) Tryd.func62 rfl _ Tryd.ntmps62 (Nat.le_of_ble_eq_true rfl) 1 rfl rfl ?_
  repeat' (first|refine qi ?_|(first|(apply qc Tryd.func61 rfl rfl;intro hIsFn;refine qN 0 hIsFn (c1) ?_))|((first|(apply qb;rfl;rfl;exact nle rfl)|(apply qa;rfl;rfl;exact nle rfl)|refine xsC ?_ ?_);all_goals (intro hc;have hp:=hc;try simp at hp;try (exfalso;omega)))|refine qS ?_ ?_)
  (refine Awp.red (qy (τ:=⟨[(7,.sl true []),(10,.v (.int .i64 (m:Int))),(11,.v (.int .i64 ((0:Nat):Int))),(2,.clo (.func 63) [.op 0 0 0] [])],[(0,jx s0)],1⟩) [] rfl ?gts2 ?ghs2) ?_;(case gts2=>(repeat (first|exact qh|refine qA ?_|refine jI ?_|refine jd ?_|refine jK ?_|refine je ?_ ?_|refine jy ?_ ?_));all_goals first|rfl|exact zI qh (qd rfl));(case ghs2=>refine yK (q:=0) rfl (qd rfl) ?_ qe;all_goals (first|(with_reducible rfl)|rfl)))
  refine jC (fun n σ => ∃ (i:Nat) (r' : qo),i ≤ k ∧ n = k - i ∧ jT zn s0 i = some (l.take i,r') ∧ ((i = 0 ∧ σ = ⟨[(7,.sl true []),(10,.v (.int .i64 (m:Int))),(11,.v (.int .i64 ((0:Nat):Int))),(2,.clo (.func 63) [.op 0 0 0] [])],[(0,jx s0)],1⟩) ∨ (0 < i ∧ σ = ⟨[(7,.os 1 0 i),(10,.v (.int .i64 (m:Int))),(11,.v (.int .i64 (i:Int))),(2,.clo (.func 63) [.op 0 0 0] [])],[(0,jx r'),(1,.own false 5 ((l.take i).map Chg.row))],2⟩))) k ⟨0,s0,Nat.zero_le _,rfl,rfl,.inl ⟨rfl,rfl⟩⟩ ?_
  rintro n σ ⟨i,r',hi,rfl,hrep,hst⟩
  by_cases hlt:i < k
  ·obtain ⟨x,r2,hx,hrep2,htk⟩:=vb h2 hlt hrep
   have hr1:=(yg hpl hrep).2
   have c2:=qav r' r2 x (by omega) hx
   have hrr:r2.length ≤ r'.length:=kK hx
   rcases hst with ⟨rfl,rfl⟩|⟨hp,rfl⟩
   ·obtain rfl:s0 = r':=by
     simp only [jT] at hrep
     injection hrep with hrep
     injection hrep
    clear h2 hrep hx hpl
    repeat' (first|refine qi ?_|(first|(refine ya ?_)|(refine V3 (first:=[.op 0 0 0]) (cap:=[]) 0 Tryd.func63 (c2) ?_)|(refine kB ?_))|((first|(apply qb;rfl;rfl;exact nle rfl)|(apply qa;rfl;rfl;exact nle rfl)|refine xsC ?_ ?_);all_goals (intro hc;have hp:=hc;try simp at hp;try (exfalso;omega)))|refine qS ?_ ?_)
    all_goals try (exfalso;omega)
    all_goals (refine ⟨k - (0 + 1),⟨[(7,.os 1 0 (0 + 1)),(10,.v (.int .i64 (m:Int))),(11,.v (.int .i64 ((0 + 1:Nat):Int))),(2,.clo (.func 63) [.op 0 0 0] [])],[(0,jx r2),(1,.own false 5 ((l.take (0 + 1)).map Chg.row))],2⟩,by omega,?_,⟨0 + 1,r2,by omega,rfl,by rw [htk];exact hrep2,.inr ⟨Nat.succ_pos _,rfl⟩⟩⟩;refine qy [(1,1)] rfl ?gts ?ghs;(case gts=>(repeat (first|exact qh|refine qA ?_|refine jI ?_|refine jd ?_|refine jK ?_|refine je ?_ ?_|refine jy ?_ ?_));all_goals first|rfl|(simp;omega)|exact zI qh (qd rfl));(case ghs=>refine Qj (q:=0) (n:=1) rfl rfl (qd rfl) (qd rfl) ?_ ?_ ?_ qe;all_goals (first|(with_reducible rfl)|(rw [htk];simp;done)|exact vg _)))
   ·have hlen:(l.take i).length = i:=by rw [List.length_take];omega
    have hml:((l.take i).map Chg.row).length = i:=by rw [List.length_map];exact hlen
    clear h2 hrep hx hpl
    repeat' (first|refine qi ?_|(first|(refine ya ?_)|(refine V3 (first:=[.op 0 0 0]) (cap:=[]) 0 Tryd.func63 (c2) ?_)|(refine zd ?_))|((first|(apply qb;rfl;rfl;exact nle rfl)|(apply qa;rfl;rfl;exact nle rfl)|refine xsC ?_ ?_);all_goals (intro hc;have hp:=hc;try simp at hp;try (exfalso;omega)))|refine qS ?_ ?_)
    all_goals try (exfalso;omega)
    all_goals (refine ⟨k - (i + 1),⟨[(7,.os 1 0 (i + 1)),(10,.v (.int .i64 (m:Int))),(11,.v (.int .i64 ((i + 1:Nat):Int))),(2,.clo (.func 63) [.op 0 0 0] [])],[(0,jx r2),(1,.own false 5 ((l.take (i + 1)).map Chg.row))],2⟩,by omega,?_,⟨i + 1,r2,by omega,rfl,by rw [htk];exact hrep2,.inr ⟨Nat.succ_pos _,rfl⟩⟩⟩;refine qy [(2,1)] rfl ?gts ?ghs;(case gts=>(repeat (first|exact qh|refine qA ?_|refine jI ?_|refine jd ?_|refine jK ?_|refine je ?_ ?_|refine jy ?_ ?_));all_goals first|rfl|(simp;omega)|exact zI qh (qd rfl));(case ghs=>refine Qj (q:=0) (n:=2) rfl rfl (qd rfl) (qd rfl) ?_ ?_ ?_ qe;all_goals (first|(with_reducible rfl)|(rw [htk,List.take_of_length_le (Nat.le_of_eq hml),List.map_append];rfl)|exact vg _)))
  ·obtain rfl:i = k:=by omega
   rw [h2] at hrep
   injection hrep with hrep
   injection hrep with e1 e2
   subst e2
   have hr1:=(yg hpl h2).2
   have c2:=ZR r (by omega) h3
   clear e1 hpl
   rcases hst with ⟨rfl,rfl⟩|⟨hp,rfl⟩
   ·obtain rfl:s0 = r:=by
     simp only [jT] at h2
     injection h2 with h2
     injection h2
    clear h2
    repeat' (first|refine qi ?_|(first|((refine jz (first:=[.op 0 0 0]) (cap:=[]) 0 [] (qM Tryd.func63 rfl rfl) (c2) rfl (⟨rfl,jP⟩) ?_);(repeat (first|exact qB 15 rfl|exact ⟨15,rfl⟩|refine qC (d:=15) rfl (nle rfl) ?_|(apply qH;exact nle rfl;refine ⟨?_,?_⟩;(first|exact fun h=>absurd h Bool.false_ne_true|(intro _;kernel_rfl)))));done))|((first|(apply qb;rfl;rfl;exact nle rfl)|(apply qa;rfl;rfl;exact nle rfl)|refine xsC ?_ ?_);all_goals (intro hc;have hp:=hc;try simp at hp;try (exfalso;omega)))|refine qS ?_ ?_)
    all_goals (exfalso;omega)
   ·clear h2
    repeat' (first|refine qi ?_|(first|((refine jz (first:=[.op 0 0 0]) (cap:=[]) 0 [] (qM Tryd.func63 rfl rfl) (c2) rfl (⟨rfl,jP⟩) ?_);(repeat (first|exact qB 15 rfl|exact ⟨15,rfl⟩|refine qC (d:=15) rfl (nle rfl) ?_|(apply qH;exact nle rfl;refine ⟨?_,?_⟩;(first|exact fun h=>absurd h Bool.false_ne_true|(intro _;kernel_rfl)))));done))|((first|(apply qb;rfl;rfl;exact nle rfl)|(apply qa;rfl;rfl;exact nle rfl)|refine xsC ?_ ?_);all_goals (intro hc;have hp:=hc;try simp at hp;try (exfalso;omega)))|refine qS ?_ ?_)
    all_goals (exfalso;omega)
theorem JR (s r:qo) (l:List Chg) (hs:s.length ≤ 1000000000) (h:xV s = some (l,r)):qt C1.P 32 [.op 0 0 0] [jx s] (j5 l) [jx r]:=by
 have c1:=W6 s r l hs h
 refine qf (C:=C1) Tryd.func32 rfl _ Tryd.ntmps32 (Nat.le_of_ble_eq_true rfl) _ Tryd.results32 1 rfl rfl ?_
 repeat' (first|refine qi ?_|(first|(apply qc Tryd.func62 rfl rfl;intro hIsFn;refine qN 0 hIsFn (c1) ?_))|((first|(apply qb;rfl;rfl;exact nle rfl)|(apply qa;rfl;rfl;exact nle rfl)|refine xsC ?_ ?_);all_goals (intro hc;have hp:=hc;try simp at hp;try (exfalso;omega)))|refine qS ?_ ?_)
 all_goals ((apply qu (rs:=[.tmp 2]) [] 1;(case hr=>(repeat (first|exact qm|(apply qn;rfl)|(apply qj;rfl;rfl;rfl;rfl;rfl))));(case hL=>rfl);(case hh=>refine yK (q:=0) rfl (qd rfl) ?_ qe;all_goals (first|(with_reducible rfl)|rfl));(case hi=>exact rfl);(case hz=>first|rfl|(simp [ju,AV.ren,AV.ren.renL,qP,qr,qL];done))))
theorem kl (s:qo) (hs:s.length ≤ 1000000000) (h:xV s = none):yJ C1.P 32 [.op 0 0 0] [jx s] vf XI:=by
 have c1:=Xq s hs h
 refine qw (C:=C1) Tryd.func32 rfl _ Tryd.ntmps32 (Nat.le_of_ble_eq_true rfl) 1 rfl rfl ?_
 repeat' (first|refine qi ?_|(first|((refine jz (first:=[]) (cap:=[]) 0 [] (qM Tryd.func62 rfl rfl) (c1) rfl (⟨rfl,jP⟩) ?_);(repeat (first|exact qB 6 rfl|exact ⟨6,rfl⟩|refine qC (d:=6) rfl (nle rfl) ?_|(apply qH;exact nle rfl;refine ⟨?_,?_⟩;(first|exact fun h=>absurd h Bool.false_ne_true|(intro _;kernel_rfl)))));done))|((first|(apply qb;rfl;rfl;exact nle rfl)|(apply qa;rfl;rfl;exact nle rfl)|refine xsC ?_ ?_);all_goals (intro hc;have hp:=hc;try simp at hp;try (exfalso;omega)))|refine qS ?_ ?_)
end Go.Proofs.YtahbbnfmbohmmaaDoor
