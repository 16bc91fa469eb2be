import Derived.Test.YtahbbnfmbohmmaaDoorMz28
import Derived.Test.YtahbbnfmbohmmaaDoorMz8
set_option linter.unusedSimpArgs false
set_option linter.unnecessarySimpa false
set_option linter.unusedVariables false
namespace Go.Ab
open Go.RowKit
section ops
variable {C:Cx} {N d:Nat} {ty:TypeId} {pos:String} {af:Array Edge} {gd:Option (Nat × Bool)} {t:Nat → AV} {h:Nat → HB}
theorem W4 {row xs:List AV} (hl:xs.length = row.length):xE row 0 xs = xs:=by
 unfold xE
 rw [List.take_zero,Nat.zero_add,hl,List.drop_length]
 simp
theorem yU (T:TypeId) (p x:Operand) (n:Nat) (ex:Bool) (k:Nat) (r:TRec) (row xs:List AV) (hp:evA t p = .op n 0 0) (hn:h n = .own ex k [row]) (hT:jw C.tab T = some r) (hx:evA t x = .agg xs)
  (hc:xs.all jo = true) (hs:xs.length = r.size) (hl:xs.length = row.length) :
  qD C.P N ⟨none,.store T p x,ty,pos,af,gd⟩ t h ⟨jp p ++ jp x,[n],none,.junk,[(n,.own ex k [xs])],[]⟩:=by
 have hxc:cellsOf (evA t x) = xs:=by rw [hx];rfl
 have h1:=zC (C:=C) (N:=N) (ty:=ty) (pos:=pos) (af:=af) (gd:=gd) T p x n 0 0 ex k [row] r row hp hn hT rfl (by rw [hxc];exact hc) (by rw [hxc];exact hs) (by rw [hxc];omega)
 rw [hxc,W4 hl] at h1
 exact h1
end ops
end Go.Ab
set_option maxHeartbeats 1000000
namespace Go.Proofs.YtahbbnfmbohmmaaDoor
open Go.Ab Go.RowKit
set_option maxRecDepth 10000
theorem xM {s r:qo} {l:List Ent} (h:kF s = some (l,r)):r.length ≤ s.length:=by
 rw [(rd_tre.of _ _ _ h).1,List.length_append];omega
theorem vH {s r:qo} {l:List Com} (h:vx s = some (l,r)):r.length ≤ s.length:=by
 rw [(rd_coms.of _ _ _ h).1,List.length_append];omega
theorem KD {e:Ent} (h:WK e) (hl:(zA e).length ≤ 1000000000):e.fit:=by
 obtain ⟨h1,h2,h3⟩:=h
 unfold zA at hl
 simp only [List.length_append] at hl
 have a:=yS e.path
 have b:=yS e.text
 exact ⟨by omega,by omega,h3⟩
theorem Kw {c:Com} (h:WH c) (hl:(QI c).length ≤ 1000000000):c.fit:=by
 obtain ⟨h1,h2,h3⟩:=h
 unfold QI at hl
 simp only [List.length_append] at hl
 have a:=yS c.key
 exact ⟨h1,by omega,JD h3 (by omega),by have:=h3.1;omega⟩
theorem vC {s r:qo} {l:List Ent} (h:kF s = some (l,r)) (hs:s.length ≤ 1000000000):(∀ x,x ∈ l → x.fit) ∧ l.length ≤ 1000000000:=by
 obtain ⟨e,h1,h2⟩:=rd_tre.of _ _ _ h
 have hl:(kY zA l).length ≤ 1000000000:=by
  have:=congrArg List.length e
  rw [List.length_append] at this
  omega
 exact ⟨fun x hx=>KD (h2 x hx) (Nat.le_trans (QX zA hx) hl),by omega⟩
theorem vI {s r:qo} {l:List Com} (h:vx s = some (l,r)) (hs:s.length ≤ 1000000000):(∀ x,x ∈ l → x.fit) ∧ l.length ≤ 1000000000:=by
 obtain ⟨e,h1,h2⟩:=rd_coms.of _ _ _ h
 have hl:(kY QI l).length ≤ 1000000000:=by
  have:=congrArg List.length e
  rw [List.length_append] at this
  omega
 exact ⟨fun x hx=>Kw (h2 x hx) (Nat.le_trans (QX QI hx) hl),by omega⟩
theorem YX {s r:qo} {x:_} (h:z8 s = some (x,r)) : ∃ s1 s2 s3 s4 s5 s6,qR s = some (x.err,s1) ∧ qR s1 = some (x.num,s2) ∧ xl s2 = some (x.page.reset,s3) ∧ kF s3 = some (x.page.tree,s4) ∧ vx s4 = some (x.page.coms,s5) ∧ qR s5 = some (x.page.cur,s6) ∧ xl s6 = some (x.page.more,r):=by
 unfold z8 at h
 repeat' (split at h)
 all_goals first
  | (cases h;done)
  | skip
 rename_i h1 _ _ _ h2 _ _ _ h3 _ _ _ h4 _ _ _ h5 _ _ _ h6 _ _ _ h7
 injection h with h
 injection h with e1 e2
 subst e1 e2
 exact ⟨_,_,_,_,_,_,h1,h2,h3,h4,h5,h6,h7⟩
theorem Zo {s:qo} (h:z8 s = none):qR s = none ∨ ∃ a s1,qR s = some (a,s1) ∧ (qR s1 = none ∨ ∃ b s2,qR s1 = some (b,s2) ∧ (xl s2 = none ∨ ∃ c s3,xl s2 = some (c,s3) ∧ (kF s3 = none ∨ ∃ d s4,kF s3 = some (d,s4) ∧ (vx s4 = none ∨ ∃ e s5,vx s4 = some (e,s5) ∧ (qR s5 = none ∨ ∃ f s6,qR s5 = some (f,s6) ∧ (xl s6 = none)))))):=by
 unfold z8 at h
 cases h1:qR s with
 | none=>exact .inl rfl
 | some z =>
   obtain ⟨v1,s1⟩:=z
   rw [h1] at h
   simp only at h
   refine .inr ⟨v1,s1,rfl,?_⟩
   cases h2:qR s1 with
   | none=>exact .inl rfl
   | some z =>
     obtain ⟨v2,s2⟩:=z
     rw [h2] at h
     simp only at h
     refine .inr ⟨v2,s2,rfl,?_⟩
     cases h3:xl s2 with
     | none=>exact .inl rfl
     | some z =>
       obtain ⟨v3,s3⟩:=z
       rw [h3] at h
       simp only at h
       refine .inr ⟨v3,s3,rfl,?_⟩
       cases h4:kF s3 with
       | none=>exact .inl rfl
       | some z =>
         obtain ⟨v4,s4⟩:=z
         rw [h4] at h
         simp only at h
         refine .inr ⟨v4,s4,rfl,?_⟩
         cases h5:vx s4 with
         | none=>exact .inl rfl
         | some z =>
           obtain ⟨v5,s5⟩:=z
           rw [h5] at h
           simp only at h
           refine .inr ⟨v5,s5,rfl,?_⟩
           cases h6:qR s5 with
           | none=>exact .inl rfl
           | some z =>
             obtain ⟨v6,s6⟩:=z
             rw [h6] at h
             simp only at h
             refine .inr ⟨v6,s6,rfl,?_⟩
             cases h7:xl s6 with
             | none=>rfl
             | some z =>
               rw [h7] at h
               cases h
def zt (a:Ans) (x1 x2:Bool):List AV:=[.v (.int .i64 a.err),.v (.int .i64 a.num),.v (.bool a.page.reset),.sl x1 (a.page.tree.map Ent.row),.sl x2 (a.page.coms.map Com.row),.v (.int .i64 a.page.cur),.v (.bool a.page.more)]
attribute [local irreducible] Awp jU jl qQ Red qD Go.Ab.Fin qt Rz yZ qO qJ ResOk jt qU jN qG
set_option maxHeartbeats 4000000 in
theorem qbx (s r:qo) (a:Ans) (hs:s.length ≤ 1000000000) (h:z8 s = some (a,r)):qt C2.P 43 [.op 0 0 0,.op 1 0 0] [jx s,.own true 7 [[.v (.int .i64 0),.v (.int .i64 0),.v (.bool false),.sl false [],.sl false [],.v (.int .i64 0),.v (.bool false)]]] (.tup []) [jx r,.own true 7 [a.row]]:=by
 obtain ⟨s1,s2,s3,s4,s5,s6,h1,h2,h3,h4,h5,h6,h7⟩:=YX h
 clear h
 obtain ⟨v1,v2,v3,v4,v5,v6,v7⟩:=a
 dsimp only at *
 have c1:=jD s s1 _ (by omega) h1
 have l1:=qx h1
 have c2:=jD s1 s2 _ (by omega) h2
 have l2:=qx h2
 have c3:=k8 s2 s3 _ (by omega) h3
 have l3:=yu h3
 have c4:=Qp s3 s4 _ (by omega) h4
 have l4:=xM h4
 have c5:=YC s4 s5 _ (by omega) h5
 have l5:=vH h5
 have c6:=jD s5 s6 _ (by omega) h6
 have l6:=qx h6
 have c7:=k8 s6 r _ (by omega) h7
 have l7:=yu h7
 clear h1 h2 h3 h4 h5 h6 h7
 unfold Ans.row yf yh at *
 refine qf (C:=C2) Tryd.func43 rfl _ Tryd.ntmps43 (Nat.le_of_ble_eq_true rfl) _ Tryd.results43 2 rfl rfl ?_
 repeat' (first|(first|(apply qZ;apply yo;(case hp=>rfl);(case hn=>rfl);(case hT=>(first|rfl|assumption|(apply qg;assumption)|(apply qg;apply qg;assumption)));(case hx=>(conv=>lhs;whnf));(case hc=>rfl);(case hl=>rfl);(case hs=>rfl);(case hj=>exact nle rfl);(case he=>(simp only [Nat.zero_add,Nat.reduceAdd,List.set_cons_zero,List.set_cons_succ]<;>exact rfl)))|(apply qZ;apply yU;(case hp=>rfl);(case hn=>rfl);(case hT=>(first|rfl|assumption|(apply qg;assumption)|(apply qg;apply qg;assumption)));(case hx=>rfl);(case hc=>rfl);(case hs=>rfl);(case hl=>rfl))|(apply qp;apply (yr (T:=40) (cs:=[.v (.int .i64 v1),.v (.int .i64 v2),.v (.bool false),.sl true [],.sl true [],.v (.int .i64 0),.v (.bool false)]));rfl;rfl;rfl;kernel_rfl;exact nle rfl)|(apply qc Tryd.func30 rfl rfl;intro hIsFn;refine qN 0 hIsFn (c1) ?_)|(apply qc Tryd.func30 rfl rfl;intro hIsFn;refine qN 0 hIsFn (c2) ?_)|(apply qc Tryd.func44 rfl rfl;intro hIsFn;refine qN 0 hIsFn (c3) ?_)|(apply qc Tryd.func45 rfl rfl;intro hIsFn;refine Q3 0 2 hIsFn (c4) ?_)|(apply qc Tryd.func47 rfl rfl;intro hIsFn;refine Q3 0 2 hIsFn (c5) ?_)|(apply qc Tryd.func30 rfl rfl;intro hIsFn;refine qN 0 hIsFn (c6) ?_)|(apply qc Tryd.func44 rfl rfl;intro hIsFn;refine qN 0 hIsFn (c7) ?_))|refine qi ?_|((first|(apply qb;rfl;rfl;exact nle rfl)|(apply qa;rfl;rfl;exact nle rfl)|refine xsC ?_ ?_);all_goals (intro hc;have hp:=hc;try simp at hp;try (exfalso;omega)))|refine qS ?_ ?_)
 all_goals ((apply qu (rs:=[]) [] 2;(case hr=>(repeat (first|exact qm|(apply qn;rfl)|(apply qj;rfl;rfl;rfl;rfl;rfl))));(case hL=>rfl);(case hh=>(refine VZ (q:=0) (n:=1) rfl rfl (qd rfl) (qd rfl) ?_ ?_ ?_ qe;all_goals rfl));(case hi=>exact rfl);(case hz=>first|rfl|(simp [ju,AV.ren,AV.ren.renL,qP,qr,qL];done))))
set_option maxHeartbeats 4000000 in
theorem X8 (s:qo) (hs:s.length ≤ 1000000000) (h1:qR s = none):yJ C2.P 43 [.op 0 0 0,.op 1 0 0] [jx s,.own true 7 [[.v (.int .i64 0),.v (.int .i64 0),.v (.bool false),.sl false [],.sl false [],.v (.int .i64 0),.v (.bool false)]]] vf (fun H' => ∃ x,H' = [x,.own true 7 [zt ⟨0,0,⟨false,[],[],0,false⟩⟩ false false]]):=by
 have cd:=yp s (by omega) h1
 clear h1
 unfold zt
 dsimp only [List.map_nil]
 refine qw (C:=C2) Tryd.func43 rfl _ Tryd.ntmps43 (Nat.le_of_ble_eq_true rfl) 2 rfl rfl ?_
 repeat' (first|(first|(apply qZ;apply yo;(case hp=>rfl);(case hn=>rfl);(case hT=>(first|rfl|assumption|(apply qg;assumption)|(apply qg;apply qg;assumption)));(case hx=>(conv=>lhs;whnf));(case hc=>rfl);(case hl=>rfl);(case hs=>rfl);(case hj=>exact nle rfl);(case he=>(simp only [Nat.zero_add,Nat.reduceAdd,List.set_cons_zero,List.set_cons_succ]<;>exact rfl)))|(apply qZ;apply yU;(case hp=>rfl);(case hn=>rfl);(case hT=>(first|rfl|assumption|(apply qg;assumption)|(apply qg;apply qg;assumption)));(case hx=>rfl);(case hc=>rfl);(case hs=>rfl);(case hl=>rfl))|((refine jz (first:=[]) (cap:=[]) 0 [1] (qM Tryd.func30 rfl rfl) (cd) rfl (⟨rfl,yq rfl⟩) ?_);(repeat (first|exact qB 4 rfl|exact ⟨4,rfl⟩|(apply jL;apply qp;apply jb;rfl;rfl;rfl;(first|rfl|assumption|(apply qg;assumption)|(apply qg;apply qg;assumption));(conv=>lhs;whnf);exact nle rfl)|refine qC (d:=4) rfl (nle rfl) ?_|(apply qH;exact nle rfl;refine ⟨?_,?_⟩;(first|exact fun h=>absurd h Bool.false_ne_true|(intro _;kernel_rfl)))));done))|refine qi ?_|((first|(apply qb;rfl;rfl;exact nle rfl)|(apply qa;rfl;rfl;exact nle rfl)|refine xsC ?_ ?_);all_goals (intro hc;have hp:=hc;try simp at hp;try (exfalso;omega)))|refine qS ?_ ?_)
set_option maxHeartbeats 4000000 in
theorem X9 (s:qo) (hs:s.length ≤ 1000000000) {v1:Int} {s1:qo} (h1:qR s = some (v1,s1)) (h2:qR s1 = none):yJ C2.P 43 [.op 0 0 0,.op 1 0 0] [jx s,.own true 7 [[.v (.int .i64 0),.v (.int .i64 0),.v (.bool false),.sl false [],.sl false [],.v (.int .i64 0),.v (.bool false)]]] vf (fun H' => ∃ x,H' = [x,.own true 7 [zt ⟨0,0,⟨false,[],[],0,false⟩⟩ false false]]):=by
 have c1:=jD s s1 _ (by omega) h1
 have l1:=qx h1
 have cd:=yp s1 (by omega) h2
 clear h1 h2
 unfold zt
 dsimp only [List.map_nil]
 refine qw (C:=C2) Tryd.func43 rfl _ Tryd.ntmps43 (Nat.le_of_ble_eq_true rfl) 2 rfl rfl ?_
 repeat' (first|(first|(apply qZ;apply yo;(case hp=>rfl);(case hn=>rfl);(case hT=>(first|rfl|assumption|(apply qg;assumption)|(apply qg;apply qg;assumption)));(case hx=>(conv=>lhs;whnf));(case hc=>rfl);(case hl=>rfl);(case hs=>rfl);(case hj=>exact nle rfl);(case he=>(simp only [Nat.zero_add,Nat.reduceAdd,List.set_cons_zero,List.set_cons_succ]<;>exact rfl)))|(apply qZ;apply yU;(case hp=>rfl);(case hn=>rfl);(case hT=>(first|rfl|assumption|(apply qg;assumption)|(apply qg;apply qg;assumption)));(case hx=>rfl);(case hc=>rfl);(case hs=>rfl);(case hl=>rfl))|(apply qc Tryd.func30 rfl rfl;intro hIsFn;refine qN 0 hIsFn (c1) ?_)|((refine jz (first:=[]) (cap:=[]) 0 [1] (qM Tryd.func30 rfl rfl) (cd) rfl (⟨rfl,yq rfl⟩) ?_);(repeat (first|exact qB 6 rfl|exact ⟨6,rfl⟩|(apply jL;apply qp;apply jb;rfl;rfl;rfl;(first|rfl|assumption|(apply qg;assumption)|(apply qg;apply qg;assumption));(conv=>lhs;whnf);exact nle rfl)|refine qC (d:=6) rfl (nle rfl) ?_|(apply qH;exact nle rfl;refine ⟨?_,?_⟩;(first|exact fun h=>absurd h Bool.false_ne_true|(intro _;kernel_rfl)))));done))|refine qi ?_|((first|(apply qb;rfl;rfl;exact nle rfl)|(apply qa;rfl;rfl;exact nle rfl)|refine xsC ?_ ?_);all_goals (intro hc;have hp:=hc;try simp at hp;try (exfalso;omega)))|refine qS ?_ ?_)
set_option maxHeartbeats 4000000 in
theorem Va (s:qo) (hs:s.length ≤ 1000000000) {v1:Int} {v2:Int} {s1:qo} {s2:qo} (h1:qR s = some (v1,s1)) (h2:qR s1 = some (v2,s2)) (h3:xl s2 = none):yJ C2.P 43 [.op 0 0 0,.op 1 0 0] [jx s,.own true 7 [[.v (.int .i64 0),.v (.int .i64 0),.v (.bool false),.sl false [],.sl false [],.v (.int .i64 0),.v (.bool false)]]] vf (fun H' => ∃ x,H' = [x,.own true 7 [zt ⟨v1,v2,⟨false,[],[],0,false⟩⟩ true true]]):=by
 have c1:=jD s s1 _ (by omega) h1
 have l1:=qx h1
 have c2:=jD s1 s2 _ (by omega) h2
 have l2:=qx h2
 have cd:=wO s2 (by omega) h3
 clear h1 h2 h3
 unfold zt
 dsimp only [List.map_nil]
 refine qw (C:=C2) Tryd.func43 rfl _ Tryd.ntmps43 (Nat.le_of_ble_eq_true rfl) 2 rfl rfl ?_
 repeat' (first|(first|(apply qZ;apply yo;(case hp=>rfl);(case hn=>rfl);(case hT=>(first|rfl|assumption|(apply qg;assumption)|(apply qg;apply qg;assumption)));(case hx=>(conv=>lhs;whnf));(case hc=>rfl);(case hl=>rfl);(case hs=>rfl);(case hj=>exact nle rfl);(case he=>(simp only [Nat.zero_add,Nat.reduceAdd,List.set_cons_zero,List.set_cons_succ]<;>exact rfl)))|(apply qZ;apply yU;(case hp=>rfl);(case hn=>rfl);(case hT=>(first|rfl|assumption|(apply qg;assumption)|(apply qg;apply qg;assumption)));(case hx=>rfl);(case hc=>rfl);(case hs=>rfl);(case hl=>rfl))|(apply qp;apply (yr (T:=40) (cs:=[.v (.int .i64 v1),.v (.int .i64 v2),.v (.bool false),.sl true [],.sl true [],.v (.int .i64 0),.v (.bool false)]));rfl;rfl;rfl;kernel_rfl;exact nle rfl)|(apply qc Tryd.func30 rfl rfl;intro hIsFn;refine qN 0 hIsFn (c1) ?_)|(apply qc Tryd.func30 rfl rfl;intro hIsFn;refine qN 0 hIsFn (c2) ?_)|((refine jz (first:=[]) (cap:=[]) 0 [1] (qM Tryd.func44 rfl rfl) (cd) rfl (⟨rfl,yq rfl⟩) ?_);(repeat (first|exact qB 9 rfl|exact ⟨9,rfl⟩|(apply jL;apply qp;apply jb;rfl;rfl;rfl;(first|rfl|assumption|(apply qg;assumption)|(apply qg;apply qg;assumption));(conv=>lhs;whnf);exact nle rfl)|refine qC (d:=9) rfl (nle rfl) ?_|(apply qH;exact nle rfl;refine ⟨?_,?_⟩;(first|exact fun h=>absurd h Bool.false_ne_true|(intro _;kernel_rfl)))));done))|refine qi ?_|((first|(apply qb;rfl;rfl;exact nle rfl)|(apply qa;rfl;rfl;exact nle rfl)|refine xsC ?_ ?_);all_goals (intro hc;have hp:=hc;try simp at hp;try (exfalso;omega)))|refine qS ?_ ?_)
set_option maxHeartbeats 4000000 in
theorem Vb (s:qo) (hs:s.length ≤ 1000000000) {v1:Int} {v2:Int} {v3:Bool} {s1:qo} {s2:qo} {s3:qo} (h1:qR s = some (v1,s1)) (h2:qR s1 = some (v2,s2)) (h3:xl s2 = some (v3,s3)) (h4:kF s3 = none):yJ C2.P 43 [.op 0 0 0,.op 1 0 0] [jx s,.own true 7 [[.v (.int .i64 0),.v (.int .i64 0),.v (.bool false),.sl false [],.sl false [],.v (.int .i64 0),.v (.bool false)]]] vf (fun H' => ∃ x,H' = [x,.own true 7 [zt ⟨v1,v2,⟨v3,[],[],0,false⟩⟩ true true]]):=by
 have c1:=jD s s1 _ (by omega) h1
 have l1:=qx h1
 have c2:=jD s1 s2 _ (by omega) h2
 have l2:=qx h2
 have c3:=k8 s2 s3 _ (by omega) h3
 have l3:=yu h3
 have cd:=Xr s3 (by omega) h4
 clear h1 h2 h3 h4
 unfold zt
 dsimp only [List.map_nil]
 refine qw (C:=C2) Tryd.func43 rfl _ Tryd.ntmps43 (Nat.le_of_ble_eq_true rfl) 2 rfl rfl ?_
 repeat' (first|(first|(apply qZ;apply yo;(case hp=>rfl);(case hn=>rfl);(case hT=>(first|rfl|assumption|(apply qg;assumption)|(apply qg;apply qg;assumption)));(case hx=>(conv=>lhs;whnf));(case hc=>rfl);(case hl=>rfl);(case hs=>rfl);(case hj=>exact nle rfl);(case he=>(simp only [Nat.zero_add,Nat.reduceAdd,List.set_cons_zero,List.set_cons_succ]<;>exact rfl)))|(apply qZ;apply yU;(case hp=>rfl);(case hn=>rfl);(case hT=>(first|rfl|assumption|(apply qg;assumption)|(apply qg;apply qg;assumption)));(case hx=>rfl);(case hc=>rfl);(case hs=>rfl);(case hl=>rfl))|(apply qp;apply (yr (T:=40) (cs:=[.v (.int .i64 v1),.v (.int .i64 v2),.v (.bool false),.sl true [],.sl true [],.v (.int .i64 0),.v (.bool false)]));rfl;rfl;rfl;kernel_rfl;exact nle rfl)|(apply qc Tryd.func30 rfl rfl;intro hIsFn;refine qN 0 hIsFn (c1) ?_)|(apply qc Tryd.func30 rfl rfl;intro hIsFn;refine qN 0 hIsFn (c2) ?_)|(apply qc Tryd.func44 rfl rfl;intro hIsFn;refine qN 0 hIsFn (c3) ?_)|((refine zW (first:=[]) (cap:=[]) 0 2 [1] (qM Tryd.func45 rfl rfl) (cd) rfl (⟨rfl,yq rfl⟩) ?_);(repeat (first|exact qB 14 rfl|exact ⟨14,rfl⟩|(apply jL;apply qp;apply jb;rfl;rfl;rfl;(first|rfl|assumption|(apply qg;assumption)|(apply qg;apply qg;assumption));(conv=>lhs;whnf);exact nle rfl)|refine qC (d:=14) rfl (nle rfl) ?_|(apply qH;exact nle rfl;refine ⟨?_,?_⟩;(first|exact fun h=>absurd h Bool.false_ne_true|(intro _;kernel_rfl)))));done))|refine qi ?_|((first|(apply qb;rfl;rfl;exact nle rfl)|(apply qa;rfl;rfl;exact nle rfl)|refine xsC ?_ ?_);all_goals (intro hc;have hp:=hc;try simp at hp;try (exfalso;omega)))|refine qS ?_ ?_)
set_option maxHeartbeats 4000000 in
theorem Vc (s:qo) (hs:s.length ≤ 1000000000) {v1:Int} {v2:Int} {v3:Bool} {v4:List Ent} {s1:qo} {s2:qo} {s3:qo} {s4:qo} (h1:qR s = some (v1,s1)) (h2:qR s1 = some (v2,s2)) (h3:xl s2 = some (v3,s3)) (h4:kF s3 = some (v4,s4)) (h5:vx s4 = none):yJ C2.P 43 [.op 0 0 0,.op 1 0 0] [jx s,.own true 7 [[.v (.int .i64 0),.v (.int .i64 0),.v (.bool false),.sl false [],.sl false [],.v (.int .i64 0),.v (.bool false)]]] vf (fun H' => ∃ x,H' = [x,.own true 7 [zt ⟨v1,v2,⟨v3,v4,[],0,false⟩⟩ false true]]):=by
 have c1:=jD s s1 _ (by omega) h1
 have l1:=qx h1
 have c2:=jD s1 s2 _ (by omega) h2
 have l2:=qx h2
 have c3:=k8 s2 s3 _ (by omega) h3
 have l3:=yu h3
 have c4:=Qp s3 s4 _ (by omega) h4
 have l4:=xM h4
 have cd:=Xs s4 (by omega) h5
 clear h1 h2 h3 h4 h5
 unfold zt
 dsimp only [List.map_nil]
 unfold yf at c4
 refine qw (C:=C2) Tryd.func43 rfl _ Tryd.ntmps43 (Nat.le_of_ble_eq_true rfl) 2 rfl rfl ?_
 repeat' (first|(first|(apply qZ;apply yo;(case hp=>rfl);(case hn=>rfl);(case hT=>(first|rfl|assumption|(apply qg;assumption)|(apply qg;apply qg;assumption)));(case hx=>(conv=>lhs;whnf));(case hc=>rfl);(case hl=>rfl);(case hs=>rfl);(case hj=>exact nle rfl);(case he=>(simp only [Nat.zero_add,Nat.reduceAdd,List.set_cons_zero,List.set_cons_succ]<;>exact rfl)))|(apply qZ;apply yU;(case hp=>rfl);(case hn=>rfl);(case hT=>(first|rfl|assumption|(apply qg;assumption)|(apply qg;apply qg;assumption)));(case hx=>rfl);(case hc=>rfl);(case hs=>rfl);(case hl=>rfl))|(apply qp;apply (yr (T:=40) (cs:=[.v (.int .i64 v1),.v (.int .i64 v2),.v (.bool false),.sl true [],.sl true [],.v (.int .i64 0),.v (.bool false)]));rfl;rfl;rfl;kernel_rfl;exact nle rfl)|(apply qc Tryd.func30 rfl rfl;intro hIsFn;refine qN 0 hIsFn (c1) ?_)|(apply qc Tryd.func30 rfl rfl;intro hIsFn;refine qN 0 hIsFn (c2) ?_)|(apply qc Tryd.func44 rfl rfl;intro hIsFn;refine qN 0 hIsFn (c3) ?_)|(apply qc Tryd.func45 rfl rfl;intro hIsFn;refine Q3 0 2 hIsFn (c4) ?_)|((refine zW (first:=[]) (cap:=[]) 0 2 [1] (qM Tryd.func47 rfl rfl) (cd) rfl (⟨rfl,yq rfl⟩) ?_);(repeat (first|exact qB 19 rfl|exact ⟨19,rfl⟩|(apply jL;apply qp;apply jb;rfl;rfl;rfl;(first|rfl|assumption|(apply qg;assumption)|(apply qg;apply qg;assumption));(conv=>lhs;whnf);exact nle rfl)|refine qC (d:=19) rfl (nle rfl) ?_|(apply qH;exact nle rfl;refine ⟨?_,?_⟩;(first|exact fun h=>absurd h Bool.false_ne_true|(intro _;kernel_rfl)))));done))|refine qi ?_|((first|(apply qb;rfl;rfl;exact nle rfl)|(apply qa;rfl;rfl;exact nle rfl)|refine xsC ?_ ?_);all_goals (intro hc;have hp:=hc;try simp at hp;try (exfalso;omega)))|refine qS ?_ ?_)
set_option maxHeartbeats 4000000 in
theorem Vd (s:qo) (hs:s.length ≤ 1000000000) {v1:Int} {v2:Int} {v3:Bool} {v4:List Ent} {v5:List Com} {s1:qo} {s2:qo} {s3:qo} {s4:qo} {s5:qo} (h1:qR s = some (v1,s1)) (h2:qR s1 = some (v2,s2)) (h3:xl s2 = some (v3,s3)) (h4:kF s3 = some (v4,s4)) (h5:vx s4 = some (v5,s5)) (h6:qR s5 = none):yJ C2.P 43 [.op 0 0 0,.op 1 0 0] [jx s,.own true 7 [[.v (.int .i64 0),.v (.int .i64 0),.v (.bool false),.sl false [],.sl false [],.v (.int .i64 0),.v (.bool false)]]] vf (fun H' => ∃ x,H' = [x,.own true 7 [zt ⟨v1,v2,⟨v3,v4,v5,0,false⟩⟩ false false]]):=by
 have c1:=jD s s1 _ (by omega) h1
 have l1:=qx h1
 have c2:=jD s1 s2 _ (by omega) h2
 have l2:=qx h2
 have c3:=k8 s2 s3 _ (by omega) h3
 have l3:=yu h3
 have c4:=Qp s3 s4 _ (by omega) h4
 have l4:=xM h4
 have c5:=YC s4 s5 _ (by omega) h5
 have l5:=vH h5
 have cd:=yp s5 (by omega) h6
 clear h1 h2 h3 h4 h5 h6
 unfold zt
 dsimp only [List.map_nil]
 unfold yf at c4
 unfold yh at c5
 refine qw (C:=C2) Tryd.func43 rfl _ Tryd.ntmps43 (Nat.le_of_ble_eq_true rfl) 2 rfl rfl ?_
 repeat' (first|(first|(apply qZ;apply yo;(case hp=>rfl);(case hn=>rfl);(case hT=>(first|rfl|assumption|(apply qg;assumption)|(apply qg;apply qg;assumption)));(case hx=>(conv=>lhs;whnf));(case hc=>rfl);(case hl=>rfl);(case hs=>rfl);(case hj=>exact nle rfl);(case he=>(simp only [Nat.zero_add,Nat.reduceAdd,List.set_cons_zero,List.set_cons_succ]<;>exact rfl)))|(apply qZ;apply yU;(case hp=>rfl);(case hn=>rfl);(case hT=>(first|rfl|assumption|(apply qg;assumption)|(apply qg;apply qg;assumption)));(case hx=>rfl);(case hc=>rfl);(case hs=>rfl);(case hl=>rfl))|(apply qp;apply (yr (T:=40) (cs:=[.v (.int .i64 v1),.v (.int .i64 v2),.v (.bool false),.sl true [],.sl true [],.v (.int .i64 0),.v (.bool false)]));rfl;rfl;rfl;kernel_rfl;exact nle rfl)|(apply qc Tryd.func30 rfl rfl;intro hIsFn;refine qN 0 hIsFn (c1) ?_)|(apply qc Tryd.func30 rfl rfl;intro hIsFn;refine qN 0 hIsFn (c2) ?_)|(apply qc Tryd.func44 rfl rfl;intro hIsFn;refine qN 0 hIsFn (c3) ?_)|(apply qc Tryd.func45 rfl rfl;intro hIsFn;refine Q3 0 2 hIsFn (c4) ?_)|(apply qc Tryd.func47 rfl rfl;intro hIsFn;refine Q3 0 2 hIsFn (c5) ?_)|((refine jz (first:=[]) (cap:=[]) 0 [1] (qM Tryd.func30 rfl rfl) (cd) rfl (⟨rfl,yq rfl⟩) ?_);(repeat (first|exact qB 23 rfl|exact ⟨23,rfl⟩|(apply jL;apply qp;apply jb;rfl;rfl;rfl;(first|rfl|assumption|(apply qg;assumption)|(apply qg;apply qg;assumption));(conv=>lhs;whnf);exact nle rfl)|refine qC (d:=23) rfl (nle rfl) ?_|(apply qH;exact nle rfl;refine ⟨?_,?_⟩;(first|exact fun h=>absurd h Bool.false_ne_true|(intro _;kernel_rfl)))));done))|refine qi ?_|((first|(apply qb;rfl;rfl;exact nle rfl)|(apply qa;rfl;rfl;exact nle rfl)|refine xsC ?_ ?_);all_goals (intro hc;have hp:=hc;try simp at hp;try (exfalso;omega)))|refine qS ?_ ?_)
set_option maxHeartbeats 4000000 in
theorem Ve (s:qo) (hs:s.length ≤ 1000000000) {v1:Int} {v2:Int} {v3:Bool} {v4:List Ent} {v5:List Com} {v6:Int} {s1:qo} {s2:qo} {s3:qo} {s4:qo} {s5:qo} {s6:qo} (h1:qR s = some (v1,s1)) (h2:qR s1 = some (v2,s2)) (h3:xl s2 = some (v3,s3)) (h4:kF s3 = some (v4,s4)) (h5:vx s4 = some (v5,s5)) (h6:qR s5 = some (v6,s6)) (h7:xl s6 = none):yJ C2.P 43 [.op 0 0 0,.op 1 0 0] [jx s,.own true 7 [[.v (.int .i64 0),.v (.int .i64 0),.v (.bool false),.sl false [],.sl false [],.v (.int .i64 0),.v (.bool false)]]] vf (fun H' => ∃ x,H' = [x,.own true 7 [zt ⟨v1,v2,⟨v3,v4,v5,v6,false⟩⟩ false false]]):=by
 have c1:=jD s s1 _ (by omega) h1
 have l1:=qx h1
 have c2:=jD s1 s2 _ (by omega) h2
 have l2:=qx h2
 have c3:=k8 s2 s3 _ (by omega) h3
 have l3:=yu h3
 have c4:=Qp s3 s4 _ (by omega) h4
 have l4:=xM h4
 have c5:=YC s4 s5 _ (by omega) h5
 have l5:=vH h5
 have c6:=jD s5 s6 _ (by omega) h6
 have l6:=qx h6
 have cd:=wO s6 (by omega) h7
 clear h1 h2 h3 h4 h5 h6 h7
 unfold zt
 dsimp only [List.map_nil]
 unfold yf at c4
 unfold yh at c5
 refine qw (C:=C2) Tryd.func43 rfl _ Tryd.ntmps43 (Nat.le_of_ble_eq_true rfl) 2 rfl rfl ?_
 repeat' (first|(first|(apply qZ;apply yo;(case hp=>rfl);(case hn=>rfl);(case hT=>(first|rfl|assumption|(apply qg;assumption)|(apply qg;apply qg;assumption)));(case hx=>(conv=>lhs;whnf));(case hc=>rfl);(case hl=>rfl);(case hs=>rfl);(case hj=>exact nle rfl);(case he=>(simp only [Nat.zero_add,Nat.reduceAdd,List.set_cons_zero,List.set_cons_succ]<;>exact rfl)))|(apply qZ;apply yU;(case hp=>rfl);(case hn=>rfl);(case hT=>(first|rfl|assumption|(apply qg;assumption)|(apply qg;apply qg;assumption)));(case hx=>rfl);(case hc=>rfl);(case hs=>rfl);(case hl=>rfl))|(apply qp;apply (yr (T:=40) (cs:=[.v (.int .i64 v1),.v (.int .i64 v2),.v (.bool false),.sl true [],.sl true [],.v (.int .i64 0),.v (.bool false)]));rfl;rfl;rfl;kernel_rfl;exact nle rfl)|(apply qc Tryd.func30 rfl rfl;intro hIsFn;refine qN 0 hIsFn (c1) ?_)|(apply qc Tryd.func30 rfl rfl;intro hIsFn;refine qN 0 hIsFn (c2) ?_)|(apply qc Tryd.func44 rfl rfl;intro hIsFn;refine qN 0 hIsFn (c3) ?_)|(apply qc Tryd.func45 rfl rfl;intro hIsFn;refine Q3 0 2 hIsFn (c4) ?_)|(apply qc Tryd.func47 rfl rfl;intro hIsFn;refine Q3 0 2 hIsFn (c5) ?_)|(apply qc Tryd.func30 rfl rfl;intro hIsFn;refine qN 0 hIsFn (c6) ?_)|((refine jz (first:=[]) (cap:=[]) 0 [1] (qM Tryd.func44 rfl rfl) (cd) rfl (⟨rfl,yq rfl⟩) ?_);(repeat (first|exact qB 27 rfl|exact ⟨27,rfl⟩|(apply jL;apply qp;apply jb;rfl;rfl;rfl;(first|rfl|assumption|(apply qg;assumption)|(apply qg;apply qg;assumption));(conv=>lhs;whnf);exact nle rfl)|refine qC (d:=27) rfl (nle rfl) ?_|(apply qH;exact nle rfl;refine ⟨?_,?_⟩;(first|exact fun h=>absurd h Bool.false_ne_true|(intro _;kernel_rfl)))));done))|refine qi ?_|((first|(apply qb;rfl;rfl;exact nle rfl)|(apply qa;rfl;rfl;exact nle rfl)|refine xsC ?_ ?_);all_goals (intro hc;have hp:=hc;try simp at hp;try (exfalso;omega)))|refine qS ?_ ?_)
theorem ZQ (s:qo) (hs:s.length ≤ 1000000000) (h:z8 s = none) : ∃ (a:Ans) (x1 x2:Bool),a.fit ∧ yJ C2.P 43 [.op 0 0 0,.op 1 0 0] [jx s,.own true 7 [[.v (.int .i64 0),.v (.int .i64 0),.v (.bool false),.sl false [],.sl false [],.v (.int .i64 0),.v (.bool false)]]] vf (fun H' => ∃ x,H' = [x,.own true 7 [zt a x1 x2]]):=by
 have z64:y7 0:=⟨by decide,by decide⟩
 rcases Zo h with h1|⟨v1,s1,h1,h2|⟨v2,s2,h2,h3|⟨v3,s3,h3,h4|⟨v4,s4,h4,h5|⟨v5,s5,h5,h6|⟨v6,s6,h6,h7⟩⟩⟩⟩⟩⟩
 ·exact ⟨⟨0,0,⟨false,[],[],0,false⟩⟩,false,false,⟨z64,z64,(fun x hx=>by cases hx),Nat.zero_le _,(fun x hx=>by cases hx),Nat.zero_le _,z64⟩,X8 s hs h1⟩
 ·have l1:=qx h1
  exact ⟨⟨0,0,⟨false,[],[],0,false⟩⟩,false,false,⟨z64,z64,(fun x hx=>by cases hx),Nat.zero_le _,(fun x hx=>by cases hx),Nat.zero_le _,z64⟩,X9 s hs h1 h2⟩
 ·have l1:=qx h1
  have l2:=qx h2
  exact ⟨⟨v1,v2,⟨false,[],[],0,false⟩⟩,true,true,⟨(rd_num.of _ _ _ h1).2,(rd_num.of _ _ _ h2).2,(fun x hx=>by cases hx),Nat.zero_le _,(fun x hx=>by cases hx),Nat.zero_le _,z64⟩,Va s hs h1 h2 h3⟩
 ·have l1:=qx h1
  have l2:=qx h2
  have l3:=yu h3
  exact ⟨⟨v1,v2,⟨v3,[],[],0,false⟩⟩,true,true,⟨(rd_num.of _ _ _ h1).2,(rd_num.of _ _ _ h2).2,(fun x hx=>by cases hx),Nat.zero_le _,(fun x hx=>by cases hx),Nat.zero_le _,z64⟩,Vb s hs h1 h2 h3 h4⟩
 ·have l1:=qx h1
  have l2:=qx h2
  have l3:=yu h3
  have l4:=xM h4
  exact ⟨⟨v1,v2,⟨v3,v4,[],0,false⟩⟩,false,true,⟨(rd_num.of _ _ _ h1).2,(rd_num.of _ _ _ h2).2,(vC h4 (by omega)).1,(vC h4 (by omega)).2,(fun x hx=>by cases hx),Nat.zero_le _,z64⟩,Vc s hs h1 h2 h3 h4 h5⟩
 ·have l1:=qx h1
  have l2:=qx h2
  have l3:=yu h3
  have l4:=xM h4
  have l5:=vH h5
  exact ⟨⟨v1,v2,⟨v3,v4,v5,0,false⟩⟩,false,false,⟨(rd_num.of _ _ _ h1).2,(rd_num.of _ _ _ h2).2,(vC h4 (by omega)).1,(vC h4 (by omega)).2,(vI h5 (by omega)).1,(vI h5 (by omega)).2,z64⟩,Vd s hs h1 h2 h3 h4 h5 h6⟩
 ·have l1:=qx h1
  have l2:=qx h2
  have l3:=yu h3
  have l4:=xM h4
  have l5:=vH h5
  have l6:=qx h6
  exact ⟨⟨v1,v2,⟨v3,v4,v5,v6,false⟩⟩,false,false,⟨(rd_num.of _ _ _ h1).2,(rd_num.of _ _ _ h2).2,(vC h4 (by omega)).1,(vC h4 (by omega)).2,(vI h5 (by omega)).1,(vI h5 (by omega)).2,(rd_num.of _ _ _ h6).2⟩,Ve s hs h1 h2 h3 h4 h5 h6 h7⟩
end Go.Proofs.YtahbbnfmbohmmaaDoor
set_option linter.unusedSimpArgs false
set_option linter.unnecessarySimpa false
set_option linter.unusedVariables false
set_option maxHeartbeats 1000000
namespace Go.Proofs.YtahbbnfmbohmmaaDoor
open Go.Ab Go.RowKit
set_option maxRecDepth 10000
attribute [local irreducible] Awp jU jl qQ Red qD Go.Ab.Fin qt Rz yZ qO qJ ResOk jt qU jN qG
set_option maxHeartbeats 4000000 in
theorem Z4 (s t:qo) (e:Int) (ok:Bool) (q:Ans) (hw:qt C.P 28 [.v (str s),.clo (.func 43) [] [.op 0 0 0]] [.own true 7 [noAns.row]] (.v (.bool ok)) [.own true 7 [q.row]])
  (ha:zm C.P 15 [.agg q.row] (.tup [.v (str t),.v (.int .i64 e)])) :
  zm C.P 17 [.v (str s)] (if ok = true ∧ t = s ∧ e = 0 then .tup [.agg q.row,.v (.int .i64 0)] else .tup [.agg noAns.row,.v (.int .i64 1)]):=by
 unfold noAns JK Ans.row yf yh at hw
 unfold Ans.row yf yh at ha
 unfold noAns JK Ans.row yf yh
 obtain ⟨q1,q2,q3,q4,q5,q6,q7⟩:=q
 dsimp only [List.map_nil] at *
 cases ok with
 | false =>
   refine qf Tryd.func17 rfl _ Tryd.ntmps17 (Nat.le_of_ble_eq_true rfl) _ Tryd.results17 0 rfl rfl ?_
   repeat' (first|refine qi ?_|(first|(apply qc Tryd.func28 rfl rfl;intro hIsFn;refine qF 1 hIsFn (hw) rfl ?_)|refine xsF Tryd.func15 (ha ..) ?_)|((first|(apply qb;rfl;rfl;exact nle rfl)|(apply qa;rfl;rfl;exact nle rfl)|refine xsC ?_ ?_);all_goals (intro hc;have hp:=hc;try simp at hp;try (exfalso;omega)))|refine qS ?_ ?_)
   all_goals ((refine j1 (rs:=[.cell 2 40,.tmp 3]) ?_;(repeat' (first|exact jv|apply jh|exact jg rfl|exact yl|exact xA|apply jQ|apply jX|apply jR|apply jV|apply jB|apply jW|refine xz ?_|apply yv));all_goals rfl))
 | true =>
   by_cases he:e = 0
   ·subst he
    by_cases ht:t = s
    ·subst ht
     refine qf Tryd.func17 rfl _ Tryd.ntmps17 (Nat.le_of_ble_eq_true rfl) _ Tryd.results17 0 rfl rfl ?_
     repeat' (first|refine qi ?_|(first|(apply qc Tryd.func28 rfl rfl;intro hIsFn;refine qF 1 hIsFn (hw) rfl ?_)|refine xsF Tryd.func15 (ha ..) ?_)|((first|(apply qb;rfl;rfl;exact nle rfl)|(apply qa;rfl;rfl;exact nle rfl)|refine xsC ?_ ?_);all_goals (intro hc;have hp:=hc;try simp at hp;try (exfalso;omega)))|refine qS ?_ ?_)
     all_goals try (exfalso;simp at *;done)
     all_goals (rw [if_pos ⟨rfl,rfl,rfl⟩])
     all_goals ((refine j1 (rs:=[.cell 2 40,.tmp 3]) ?_;(repeat' (first|exact jv|apply jh|exact jg rfl|exact yl|exact xA|apply jQ|apply jX|apply jR|apply jV|apply jB|apply jW|refine xz ?_|apply yv));all_goals rfl))
    ·refine qf Tryd.func17 rfl _ Tryd.ntmps17 (Nat.le_of_ble_eq_true rfl) _ Tryd.results17 0 rfl rfl ?_
     repeat' (first|refine qi ?_|(first|(apply qc Tryd.func28 rfl rfl;intro hIsFn;refine qF 1 hIsFn (hw) rfl ?_)|refine xsF Tryd.func15 (ha ..) ?_)|((first|(apply qb;rfl;rfl;exact nle rfl)|(apply qa;rfl;rfl;exact nle rfl)|refine xsC ?_ ?_);all_goals (intro hc;have hp:=hc;try simp at hp;try (exfalso;omega)))|refine qS ?_ ?_)
     all_goals try (exfalso;simp_all;done)
     all_goals (rw [if_neg (fun h=>ht h.2.1)])
     all_goals ((refine j1 (rs:=[.cell 2 40,.tmp 3]) ?_;(repeat' (first|exact jv|apply jh|exact jg rfl|exact yl|exact xA|apply jQ|apply jX|apply jR|apply jV|apply jB|apply jW|refine xz ?_|apply yv));all_goals rfl))
   ·refine qf Tryd.func17 rfl _ Tryd.ntmps17 (Nat.le_of_ble_eq_true rfl) _ Tryd.results17 0 rfl rfl ?_
    repeat' (first|refine qi ?_|(first|(apply qc Tryd.func28 rfl rfl;intro hIsFn;refine qF 1 hIsFn (hw) rfl ?_)|refine xsF Tryd.func15 (ha ..) ?_)|((first|(apply qb;rfl;rfl;exact nle rfl)|(apply qa;rfl;rfl;exact nle rfl)|refine xsC ?_ ?_);all_goals (intro hc;have hp:=hc;try simp at hp;try (exfalso;omega)))|refine qS ?_ ?_)
    all_goals try (exfalso;omega)
    all_goals (rw [if_neg (fun h=>he h.2.2)])
    all_goals ((refine j1 (rs:=[.cell 2 40,.tmp 3]) ?_;(repeat' (first|exact jv|apply jh|exact jg rfl|exact yl|exact xA|apply jQ|apply jX|apply jR|apply jV|apply jB|apply jW|refine xz ?_|apply yv));all_goals rfl))
set_option maxHeartbeats 4000000 in
theorem Jz (s t:qo) (e:Int) (q:Ans) (x1 x2:Bool) (hw:qt C.P 28 [.v (str s),.clo (.func 43) [] [.op 0 0 0]] [.own true 7 [noAns.row]] (.v (.bool false)) [.own true 7 [zt q x1 x2]])
  (ha:zm C.P 15 [.agg q.row] (.tup [.v (str t),.v (.int .i64 e)])) :
  zm C.P 17 [.v (str s)] (.tup [.agg noAns.row,.v (.int .i64 1)]):=by
 unfold noAns JK Ans.row yf yh zt at hw
 unfold Ans.row yf yh at ha
 unfold noAns JK Ans.row yf yh
 obtain ⟨q1,q2,q3,q4,q5,q6,q7⟩:=q
 dsimp only [List.map_nil] at *
 cases x1<;>cases x2
 all_goals (refine qf Tryd.func17 rfl _ Tryd.ntmps17 (Nat.le_of_ble_eq_true rfl) _ Tryd.results17 0 rfl rfl ?_)
 all_goals (repeat' (first|refine qi ?_|(first|(apply qc Tryd.func28 rfl rfl;intro hIsFn;refine qF 1 hIsFn (hw) rfl ?_)|refine xsF Tryd.func15 (ha ..) ?_)|((first|(apply qb;rfl;rfl;exact nle rfl)|(apply qa;rfl;rfl;exact nle rfl)|refine xsC ?_ ?_);all_goals (intro hc;have hp:=hc;try simp at hp;try (exfalso;omega)))|refine qS ?_ ?_))
 all_goals ((refine j1 (rs:=[.cell 2 40,.tmp 3]) ?_;(repeat' (first|exact jv|apply jh|exact jg rfl|exact yl|exact xA|apply jQ|apply jX|apply jR|apply jV|apply jB|apply jW|refine xz ?_|apply yv));all_goals rfl))
theorem JL:noAns.fit:=⟨⟨by decide,by decide⟩,⟨by decide,by decide⟩,(fun x hx=>by cases hx),by decide,(fun x hx=>by cases hx),by decide,⟨by decide,by decide⟩⟩
theorem YW {s r:qo} {q:Ans} (h:z8 s = some (q,r)) (hs:s.length ≤ 1000000000):q.fit:=by
 obtain ⟨s1,s2,s3,s4,s5,s6,h1,h2,h3,h4,h5,h6,h7⟩:=YX h
 have l1:=qx h1
 have l2:=qx h2
 have l3:=yu h3
 have l4:=xM h4
 exact ⟨(rd_num.of _ _ _ h1).2,(rd_num.of _ _ _ h2).2,(vC h4 (by omega)).1,(vC h4 (by omega)).2,(vI h5 (by omega)).1,(vI h5 (by omega)).2,(rd_num.of _ _ _ h6).2⟩
theorem qaB (s:qo) (hs:s.length ≤ 1000000000):zm C.P 17 [.v (str s)] (.tup [.agg (zl s).1.row,.v (.int .i64 (zl s).2)]):=by
 cases hq:z8 s with
 | none =>
   obtain ⟨a,x1,x2,hf,hd⟩:=ZQ s hs hq
   have hw:=wV s (f:=43) Tryd.func43 rfl rfl 7 noAns.row (zt a x1 x2) rfl rfl hd
   have h:=Jz s _ _ a x1 x2 hw (Ke a hf)
   unfold zl
   rw [hq]
   exact h
 | some p =>
   obtain ⟨q,r⟩:=p
   have hf:q.fit:=YW hq hs
   have hw:=VF s r (f:=43) Tryd.func43 rfl rfl 7 noAns.row q.row rfl rfl (qbx s r q hs hq)
   have h:=Z4 s _ _ _ q hw (Ke q hf)
   unfold zl
   rw [hq]
   dsimp only
   by_cases hr:r = [] ∧ xL q = (s,0)
   ·rw [if_pos hr]
    rw [if_pos ⟨by simpa using hr.1,by rw [hr.2],by rw [hr.2]⟩] at h
    exact h
   ·rw [if_neg hr]
    rw [if_neg (fun h=>hr ⟨by simpa using h.1,Prod.ext h.2.1 h.2.2⟩)] at h
    exact h
theorem Z2 (s:qo) (hs:s.length ≤ 1000000000):(zl s).1.fit:=by
 unfold zl
 split
 ·exact JL
 ·rename_i q r hq
  split
  ·exact YW hq hs
  ·exact JL
end Go.Proofs.YtahbbnfmbohmmaaDoor
