import Derived.Test.YtahbbnfmbohmmaaDoorMz28
import Derived.Test.YtahbbnfmbohmmaaDoorMz8
import Derived.Test.YtahbbnfmbohmmaaDoorMz13
import Derived.Test.YtahbbnfmbohmmaaDoorMz26
import Derived.Test.YtahbbnfmbohmmaaDoorMz27
set_option linter.unusedSimpArgs false
set_option linter.unnecessarySimpa false
set_option linter.unusedVariables false
namespace Go.Ab
open Go.RowKit
section ops
variable {C:Cx} {N d:Nat} {ty:TypeId} {pos:String} {af:Array Edge} {gd:Option (Nat × Bool)} {t:Nat → AV} {h:Nat → HB}
theorem Wq {row xs:List AV} (hl:xs.length = row.length):xu row 0 xs = xs:=by
 unfold xu
 rw [List.take_zero,Nat.zero_add,hl,List.drop_length]
 simp
theorem xd (T:TypeId) (p x:Operand) (n:Nat) (ex:Bool) (k:Nat) (r:TRec) (row xs:List AV) (hp:evA t p = .op n 0 0) (hn:h n = .own ex k [row]) (hT:ju C.tab T = some r) (hx:evA t x = .agg xs)
  (hc:xs.all ja = true) (hs:xs.length = r.size) (hl:xs.length = row.length) :
  qA C.P N ⟨none,.store T p x,ty,pos,af,gd⟩ t h ⟨ji p ++ ji x,[n],none,.junk,[(n,.own ex k [xs])],[]⟩:=by
 have hxc:cellsOf (evA t x) = xs:=by rw [hx];rfl
 have h1:=zt (C:=C) (N:=N) (ty:=ty) (pos:=pos) (af:=af) (gd:=gd) T p x n 0 0 ex k [row] r row hp hn hT rfl (by rw [hxc];exact hc) (by rw [hxc];exact hs) (by rw [hxc];omega)
 rw [hxc,Wq hl] at h1
 exact h1
end ops
end Go.Ab
set_option maxHeartbeats 1000000
namespace Go.Proofs.YtahbbnfmbohmmaaDoor
open Go.Ab Go.RowKit
set_option maxRecDepth 10000
theorem xC {s r:qj} {l:List Ent} (h:kT s = some (l,r)):r.length ≤ s.length:=by
 rw [(rd_tre.of _ _ _ h).1,List.length_append];omega
theorem vA {s r:qj} {l:List Com} (h:vz s = some (l,r)):r.length ≤ s.length:=by
 rw [(rd_coms.of _ _ _ h).1,List.length_append];omega
theorem Kb {e:Ent} (h:Ka e) (hl:(zp e).length ≤ 1000000000):e.fit:=by
 obtain ⟨h1,h2,h3⟩:=h
 unfold zp at hl
 simp only [List.length_append] at hl
 have a:=yF e.path
 have b:=yF e.text
 exact ⟨by omega,by omega,h3⟩
theorem Z3 {c:Com} (h:Z2 c) (hl:(Qp c).length ≤ 1000000000):c.fit:=by
 obtain ⟨h1,h2,h3⟩:=h
 unfold Qp at hl
 simp only [List.length_append] at hl
 have a:=yF c.key
 exact ⟨h1,by omega,Jg h3 (by omega),by have:=h3.1;omega⟩
theorem vu {s r:qj} {l:List Ent} (h:kT s = some (l,r)) (hs:s.length ≤ 1000000000):(∀ x,x ∈ l → x.fit) ∧ l.length ≤ 1000000000:=by
 obtain ⟨e,h1,h2⟩:=rd_tre.of _ _ _ h
 have hl:(kJ zp l).length ≤ 1000000000:=by
  have:=congrArg List.length e
  rw [List.length_append] at this
  omega
 exact ⟨fun x hx=>Kb (h2 x hx) (Nat.le_trans (QD zp hx) hl),by omega⟩
theorem vB {s r:qj} {l:List Com} (h:vz s = some (l,r)) (hs:s.length ≤ 1000000000):(∀ x,x ∈ l → x.fit) ∧ l.length ≤ 1000000000:=by
 obtain ⟨e,h1,h2⟩:=rd_coms.of _ _ _ h
 have hl:(kJ Qp l).length ≤ 1000000000:=by
  have:=congrArg List.length e
  rw [List.length_append] at this
  omega
 exact ⟨fun x hx=>Z3 (h2 x hx) (Nat.le_trans (QD Qp hx) hl),by omega⟩
theorem YA {s r:qj} {x:_} (h:wJ s = some (x,r)) : ∃ s1 s2 s3 s4 s5 s6,qO s = some (x.err,s1) ∧ qO s1 = some (x.num,s2) ∧ xp s2 = some (x.page.reset,s3) ∧ kT s3 = some (x.page.tree,s4) ∧ vz s4 = some (x.page.coms,s5) ∧ qO s5 = some (x.page.cur,s6) ∧ xp s6 = some (x.page.more,r):=by
 unfold wJ at h
 repeat' (split at h)
 all_goals first
  | (cases h;done)
  | skip
 rename_i h1 _ _ _ h2 _ _ _ h3 _ _ _ h4 _ _ _ h5 _ _ _ h6 _ _ _ h7
 injection h with h
 injection h with e1 e2
 subst e1 e2
 exact ⟨_,_,_,_,_,_,h1,h2,h3,h4,h5,h6,h7⟩
theorem VU {s:qj} (h:wJ s = none):qO s = none ∨ ∃ a s1,qO s = some (a,s1) ∧ (qO s1 = none ∨ ∃ b s2,qO s1 = some (b,s2) ∧ (xp s2 = none ∨ ∃ c s3,xp s2 = some (c,s3) ∧ (kT s3 = none ∨ ∃ d s4,kT s3 = some (d,s4) ∧ (vz s4 = none ∨ ∃ e s5,vz s4 = some (e,s5) ∧ (qO s5 = none ∨ ∃ f s6,qO s5 = some (f,s6) ∧ (xp s6 = none)))))):=by
 unfold wJ at h
 cases h1:qO s with
 | none=>exact .inl rfl
 | some z =>
   obtain ⟨v1,s1⟩:=z
   rw [h1] at h
   simp only at h
   refine .inr ⟨v1,s1,rfl,?_⟩
   cases h2:qO s1 with
   | none=>exact .inl rfl
   | some z =>
     obtain ⟨v2,s2⟩:=z
     rw [h2] at h
     simp only at h
     refine .inr ⟨v2,s2,rfl,?_⟩
     cases h3:xp s2 with
     | none=>exact .inl rfl
     | some z =>
       obtain ⟨v3,s3⟩:=z
       rw [h3] at h
       simp only at h
       refine .inr ⟨v3,s3,rfl,?_⟩
       cases h4:kT s3 with
       | none=>exact .inl rfl
       | some z =>
         obtain ⟨v4,s4⟩:=z
         rw [h4] at h
         simp only at h
         refine .inr ⟨v4,s4,rfl,?_⟩
         cases h5:vz s4 with
         | none=>exact .inl rfl
         | some z =>
           obtain ⟨v5,s5⟩:=z
           rw [h5] at h
           simp only at h
           refine .inr ⟨v5,s5,rfl,?_⟩
           cases h6:qO s5 with
           | none=>exact .inl rfl
           | some z =>
             obtain ⟨v6,s6⟩:=z
             rw [h6] at h
             simp only at h
             refine .inr ⟨v6,s6,rfl,?_⟩
             cases h7:xp s6 with
             | none=>rfl
             | some z =>
               rw [h7] at h
               cases h
def zh (a:Ans) (x1 x2:Bool):List AV:=[.v (.int .i64 a.err),.v (.int .i64 a.num),.v (.bool a.page.reset),.sl x1 (a.page.tree.map Ent.row),.sl x2 (a.page.coms.map Com.row),.v (.int .i64 a.page.cur),.v (.bool a.page.more)]
attribute [local irreducible] Awp jE qY qK Red qA Go.Ab.Fin qp Rz yL qJ qE ResOk jl qL jA qB
set_option maxHeartbeats 4000000 in
theorem qay (s r:qj) (a:Ans) (hs:s.length ≤ 1000000000) (h:wJ s = some (a,r)):qp C2.P 43 [.op 0 0 0,.op 1 0 0] [jo s,.own true 7 [[.v (.int .i64 0),.v (.int .i64 0),.v (.bool false),.sl false [],.sl false [],.v (.int .i64 0),.v (.bool false)]]] (.tup []) [jo r,.own true 7 [a.row]]:=by
 obtain ⟨s1,s2,s3,s4,s5,s6,h1,h2,h3,h4,h5,h6,h7⟩:=YA h
 clear h
 obtain ⟨v1,v2,v3,v4,v5,v6,v7⟩:=a
 dsimp only at *
 have c1:=jt s s1 _ (by omega) h1
 have l1:=qr h1
 have c2:=jt s1 s2 _ (by omega) h2
 have l2:=qr h2
 have c3:=kO s2 s3 _ (by omega) h3
 have l3:=yc h3
 have c4:=Qa s3 s4 _ (by omega) h4
 have l4:=xC h4
 have c5:=Yg s4 s5 _ (by omega) h5
 have l5:=vA h5
 have c6:=jt s5 s6 _ (by omega) h6
 have l6:=qr h6
 have c7:=kO s6 r _ (by omega) h7
 have l7:=yc h7
 clear h1 h2 h3 h4 h5 h6 h7
 unfold Ans.row jX j3 at *
 refine qf (C:=C2) Tryd.func43 rfl _ Tryd.ntmps43 (Nat.le_of_ble_eq_true rfl) _ Tryd.results43 2 rfl rfl ?_
 repeat' (first|(first|(apply jb;apply xb;(case hp=>rfl);(case hn=>rfl);(case hT=>(first|rfl|assumption|(apply qe;assumption)|(apply qe;apply qe;assumption)));(case hx=>(conv=>lhs;whnf));(case hc=>rfl);(case hl=>rfl);(case hs=>rfl);(case hj=>exact nle rfl);(case he=>(simp only [Nat.zero_add,Nat.reduceAdd,List.set_cons_zero,List.set_cons_succ]<;>exact rfl)))|(apply jb;apply xd;(case hp=>rfl);(case hn=>rfl);(case hT=>(first|rfl|assumption|(apply qe;assumption)|(apply qe;apply qe;assumption)));(case hx=>rfl);(case hc=>rfl);(case hs=>rfl);(case hl=>rfl))|(apply qt;apply (yg (T:=40) (cs:=[.v (.int .i64 v1),.v (.int .i64 v2),.v (.bool false),.sl true [],.sl true [],.v (.int .i64 0),.v (.bool false)]));rfl;rfl;rfl;kernel_rfl;exact nle rfl)|(apply qc Tryd.func30 rfl rfl;intro hIsFn;refine qH 0 hIsFn (c1) ?_)|(apply qc Tryd.func30 rfl rfl;intro hIsFn;refine qH 0 hIsFn (c2) ?_)|(apply qc Tryd.func44 rfl rfl;intro hIsFn;refine qH 0 hIsFn (c3) ?_)|(apply qc Tryd.func45 rfl rfl;intro hIsFn;refine QI 0 2 hIsFn (c4) ?_)|(apply qc Tryd.func47 rfl rfl;intro hIsFn;refine QI 0 2 hIsFn (c5) ?_)|(apply qc Tryd.func30 rfl rfl;intro hIsFn;refine qH 0 hIsFn (c6) ?_)|(apply qc Tryd.func44 rfl rfl;intro hIsFn;refine qH 0 hIsFn (c7) ?_))|refine qk ?_|((first|(apply qb;rfl;rfl;exact nle rfl)|(apply qa;rfl;rfl;exact nle rfl)|refine xsC ?_ ?_);all_goals (intro hc;have hp:=hc;try simp at hp;try (exfalso;omega)))|refine jm ?_ ?_)
 all_goals ((apply qD (rs:=[]) [] 2;(case hr=>(repeat (first|exact qw|(apply qx;rfl)|(apply qu;rfl;rfl;rfl;rfl;rfl))));(case hL=>rfl);(case hh=>(refine Vz (q:=0) (n:=1) rfl rfl (qd rfl) (qd rfl) ?_ ?_ ?_ qh;all_goals rfl));(case hi=>exact rfl);(case hz=>first|rfl|(simp [jQ,AV.ren,AV.ren.renL,js,qn,jh];done))))
set_option maxHeartbeats 4000000 in
theorem XN (s:qj) (hs:s.length ≤ 1000000000) (h1:qO s = none):yq C2.P 43 [.op 0 0 0,.op 1 0 0] [jo s,.own true 7 [[.v (.int .i64 0),.v (.int .i64 0),.v (.bool false),.sl false [],.sl false [],.v (.int .i64 0),.v (.bool false)]]] xX (fun H' => ∃ x,H' = [x,.own true 7 [zh ⟨0,0,⟨false,[],[],0,false⟩⟩ false false]]):=by
 have cd:=j8 s (by omega) h1
 clear h1
 unfold zh
 dsimp only [List.map_nil]
 refine qq (C:=C2) Tryd.func43 rfl _ Tryd.ntmps43 (Nat.le_of_ble_eq_true rfl) 2 rfl rfl ?_
 repeat' (first|(first|(apply jb;apply xb;(case hp=>rfl);(case hn=>rfl);(case hT=>(first|rfl|assumption|(apply qe;assumption)|(apply qe;apply qe;assumption)));(case hx=>(conv=>lhs;whnf));(case hc=>rfl);(case hl=>rfl);(case hs=>rfl);(case hj=>exact nle rfl);(case he=>(simp only [Nat.zero_add,Nat.reduceAdd,List.set_cons_zero,List.set_cons_succ]<;>exact rfl)))|(apply jb;apply xd;(case hp=>rfl);(case hn=>rfl);(case hT=>(first|rfl|assumption|(apply qe;assumption)|(apply qe;apply qe;assumption)));(case hx=>rfl);(case hc=>rfl);(case hs=>rfl);(case hl=>rfl))|((refine jq (first:=[]) (cap:=[]) 0 [1] (qG Tryd.func30 rfl rfl) (cd) rfl (⟨rfl,j9 rfl⟩) ?_);(repeat (first|exact qy 4 rfl|exact ⟨4,rfl⟩|(apply jz;apply qt;apply qQ;rfl;rfl;rfl;(first|rfl|assumption|(apply qe;assumption)|(apply qe;apply qe;assumption));(conv=>lhs;whnf);exact nle rfl)|refine qz (d:=4) rfl (nle rfl) ?_|(apply qC;exact nle rfl;refine ⟨?_,?_⟩;(first|exact fun h=>absurd h Bool.false_ne_true|(intro _;kernel_rfl)))));done))|refine qk ?_|((first|(apply qb;rfl;rfl;exact nle rfl)|(apply qa;rfl;rfl;exact nle rfl)|refine xsC ?_ ?_);all_goals (intro hc;have hp:=hc;try simp at hp;try (exfalso;omega)))|refine jm ?_ ?_)
set_option maxHeartbeats 4000000 in
theorem XO (s:qj) (hs:s.length ≤ 1000000000) {v1:Int} {s1:qj} (h1:qO s = some (v1,s1)) (h2:qO s1 = none):yq C2.P 43 [.op 0 0 0,.op 1 0 0] [jo s,.own true 7 [[.v (.int .i64 0),.v (.int .i64 0),.v (.bool false),.sl false [],.sl false [],.v (.int .i64 0),.v (.bool false)]]] xX (fun H' => ∃ x,H' = [x,.own true 7 [zh ⟨0,0,⟨false,[],[],0,false⟩⟩ false false]]):=by
 have c1:=jt s s1 _ (by omega) h1
 have l1:=qr h1
 have cd:=j8 s1 (by omega) h2
 clear h1 h2
 unfold zh
 dsimp only [List.map_nil]
 refine qq (C:=C2) Tryd.func43 rfl _ Tryd.ntmps43 (Nat.le_of_ble_eq_true rfl) 2 rfl rfl ?_
 repeat' (first|(first|(apply jb;apply xb;(case hp=>rfl);(case hn=>rfl);(case hT=>(first|rfl|assumption|(apply qe;assumption)|(apply qe;apply qe;assumption)));(case hx=>(conv=>lhs;whnf));(case hc=>rfl);(case hl=>rfl);(case hs=>rfl);(case hj=>exact nle rfl);(case he=>(simp only [Nat.zero_add,Nat.reduceAdd,List.set_cons_zero,List.set_cons_succ]<;>exact rfl)))|(apply jb;apply xd;(case hp=>rfl);(case hn=>rfl);(case hT=>(first|rfl|assumption|(apply qe;assumption)|(apply qe;apply qe;assumption)));(case hx=>rfl);(case hc=>rfl);(case hs=>rfl);(case hl=>rfl))|(apply qc Tryd.func30 rfl rfl;intro hIsFn;refine qH 0 hIsFn (c1) ?_)|((refine jq (first:=[]) (cap:=[]) 0 [1] (qG Tryd.func30 rfl rfl) (cd) rfl (⟨rfl,j9 rfl⟩) ?_);(repeat (first|exact qy 6 rfl|exact ⟨6,rfl⟩|(apply jz;apply qt;apply qQ;rfl;rfl;rfl;(first|rfl|assumption|(apply qe;assumption)|(apply qe;apply qe;assumption));(conv=>lhs;whnf);exact nle rfl)|refine qz (d:=6) rfl (nle rfl) ?_|(apply qC;exact nle rfl;refine ⟨?_,?_⟩;(first|exact fun h=>absurd h Bool.false_ne_true|(intro _;kernel_rfl)))));done))|refine qk ?_|((first|(apply qb;rfl;rfl;exact nle rfl)|(apply qa;rfl;rfl;exact nle rfl)|refine xsC ?_ ?_);all_goals (intro hc;have hp:=hc;try simp at hp;try (exfalso;omega)))|refine jm ?_ ?_)
set_option maxHeartbeats 4000000 in
theorem XP (s:qj) (hs:s.length ≤ 1000000000) {v1:Int} {v2:Int} {s1:qj} {s2:qj} (h1:qO s = some (v1,s1)) (h2:qO s1 = some (v2,s2)) (h3:xp s2 = none):yq C2.P 43 [.op 0 0 0,.op 1 0 0] [jo s,.own true 7 [[.v (.int .i64 0),.v (.int .i64 0),.v (.bool false),.sl false [],.sl false [],.v (.int .i64 0),.v (.bool false)]]] xX (fun H' => ∃ x,H' = [x,.own true 7 [zh ⟨v1,v2,⟨false,[],[],0,false⟩⟩ true true]]):=by
 have c1:=jt s s1 _ (by omega) h1
 have l1:=qr h1
 have c2:=jt s1 s2 _ (by omega) h2
 have l2:=qr h2
 have cd:=wn s2 (by omega) h3
 clear h1 h2 h3
 unfold zh
 dsimp only [List.map_nil]
 refine qq (C:=C2) Tryd.func43 rfl _ Tryd.ntmps43 (Nat.le_of_ble_eq_true rfl) 2 rfl rfl ?_
 repeat' (first|(first|(apply jb;apply xb;(case hp=>rfl);(case hn=>rfl);(case hT=>(first|rfl|assumption|(apply qe;assumption)|(apply qe;apply qe;assumption)));(case hx=>(conv=>lhs;whnf));(case hc=>rfl);(case hl=>rfl);(case hs=>rfl);(case hj=>exact nle rfl);(case he=>(simp only [Nat.zero_add,Nat.reduceAdd,List.set_cons_zero,List.set_cons_succ]<;>exact rfl)))|(apply jb;apply xd;(case hp=>rfl);(case hn=>rfl);(case hT=>(first|rfl|assumption|(apply qe;assumption)|(apply qe;apply qe;assumption)));(case hx=>rfl);(case hc=>rfl);(case hs=>rfl);(case hl=>rfl))|(apply qt;apply (yg (T:=40) (cs:=[.v (.int .i64 v1),.v (.int .i64 v2),.v (.bool false),.sl true [],.sl true [],.v (.int .i64 0),.v (.bool false)]));rfl;rfl;rfl;kernel_rfl;exact nle rfl)|(apply qc Tryd.func30 rfl rfl;intro hIsFn;refine qH 0 hIsFn (c1) ?_)|(apply qc Tryd.func30 rfl rfl;intro hIsFn;refine qH 0 hIsFn (c2) ?_)|((refine jq (first:=[]) (cap:=[]) 0 [1] (qG Tryd.func44 rfl rfl) (cd) rfl (⟨rfl,j9 rfl⟩) ?_);(repeat (first|exact qy 9 rfl|exact ⟨9,rfl⟩|(apply jz;apply qt;apply qQ;rfl;rfl;rfl;(first|rfl|assumption|(apply qe;assumption)|(apply qe;apply qe;assumption));(conv=>lhs;whnf);exact nle rfl)|refine qz (d:=9) rfl (nle rfl) ?_|(apply qC;exact nle rfl;refine ⟨?_,?_⟩;(first|exact fun h=>absurd h Bool.false_ne_true|(intro _;kernel_rfl)))));done))|refine qk ?_|((first|(apply qb;rfl;rfl;exact nle rfl)|(apply qa;rfl;rfl;exact nle rfl)|refine xsC ?_ ?_);all_goals (intro hc;have hp:=hc;try simp at hp;try (exfalso;omega)))|refine jm ?_ ?_)
set_option maxHeartbeats 4000000 in
theorem XQ (s:qj) (hs:s.length ≤ 1000000000) {v1:Int} {v2:Int} {v3:Bool} {s1:qj} {s2:qj} {s3:qj} (h1:qO s = some (v1,s1)) (h2:qO s1 = some (v2,s2)) (h3:xp s2 = some (v3,s3)) (h4:kT s3 = none):yq C2.P 43 [.op 0 0 0,.op 1 0 0] [jo s,.own true 7 [[.v (.int .i64 0),.v (.int .i64 0),.v (.bool false),.sl false [],.sl false [],.v (.int .i64 0),.v (.bool false)]]] xX (fun H' => ∃ x,H' = [x,.own true 7 [zh ⟨v1,v2,⟨v3,[],[],0,false⟩⟩ true true]]):=by
 have c1:=jt s s1 _ (by omega) h1
 have l1:=qr h1
 have c2:=jt s1 s2 _ (by omega) h2
 have l2:=qr h2
 have c3:=kO s2 s3 _ (by omega) h3
 have l3:=yc h3
 have cd:=Y4 s3 (by omega) h4
 clear h1 h2 h3 h4
 unfold zh
 dsimp only [List.map_nil]
 refine qq (C:=C2) Tryd.func43 rfl _ Tryd.ntmps43 (Nat.le_of_ble_eq_true rfl) 2 rfl rfl ?_
 repeat' (first|(first|(apply jb;apply xb;(case hp=>rfl);(case hn=>rfl);(case hT=>(first|rfl|assumption|(apply qe;assumption)|(apply qe;apply qe;assumption)));(case hx=>(conv=>lhs;whnf));(case hc=>rfl);(case hl=>rfl);(case hs=>rfl);(case hj=>exact nle rfl);(case he=>(simp only [Nat.zero_add,Nat.reduceAdd,List.set_cons_zero,List.set_cons_succ]<;>exact rfl)))|(apply jb;apply xd;(case hp=>rfl);(case hn=>rfl);(case hT=>(first|rfl|assumption|(apply qe;assumption)|(apply qe;apply qe;assumption)));(case hx=>rfl);(case hc=>rfl);(case hs=>rfl);(case hl=>rfl))|(apply qt;apply (yg (T:=40) (cs:=[.v (.int .i64 v1),.v (.int .i64 v2),.v (.bool false),.sl true [],.sl true [],.v (.int .i64 0),.v (.bool false)]));rfl;rfl;rfl;kernel_rfl;exact nle rfl)|(apply qc Tryd.func30 rfl rfl;intro hIsFn;refine qH 0 hIsFn (c1) ?_)|(apply qc Tryd.func30 rfl rfl;intro hIsFn;refine qH 0 hIsFn (c2) ?_)|(apply qc Tryd.func44 rfl rfl;intro hIsFn;refine qH 0 hIsFn (c3) ?_)|((refine zL (first:=[]) (cap:=[]) 0 2 [1] (qG Tryd.func45 rfl rfl) (cd) rfl (⟨rfl,j9 rfl⟩) ?_);(repeat (first|exact qy 14 rfl|exact ⟨14,rfl⟩|(apply jz;apply qt;apply qQ;rfl;rfl;rfl;(first|rfl|assumption|(apply qe;assumption)|(apply qe;apply qe;assumption));(conv=>lhs;whnf);exact nle rfl)|refine qz (d:=14) rfl (nle rfl) ?_|(apply qC;exact nle rfl;refine ⟨?_,?_⟩;(first|exact fun h=>absurd h Bool.false_ne_true|(intro _;kernel_rfl)))));done))|refine qk ?_|((first|(apply qb;rfl;rfl;exact nle rfl)|(apply qa;rfl;rfl;exact nle rfl)|refine xsC ?_ ?_);all_goals (intro hc;have hp:=hc;try simp at hp;try (exfalso;omega)))|refine jm ?_ ?_)
set_option maxHeartbeats 4000000 in
theorem XR (s:qj) (hs:s.length ≤ 1000000000) {v1:Int} {v2:Int} {v3:Bool} {v4:List Ent} {s1:qj} {s2:qj} {s3:qj} {s4:qj} (h1:qO s = some (v1,s1)) (h2:qO s1 = some (v2,s2)) (h3:xp s2 = some (v3,s3)) (h4:kT s3 = some (v4,s4)) (h5:vz s4 = none):yq C2.P 43 [.op 0 0 0,.op 1 0 0] [jo s,.own true 7 [[.v (.int .i64 0),.v (.int .i64 0),.v (.bool false),.sl false [],.sl false [],.v (.int .i64 0),.v (.bool false)]]] xX (fun H' => ∃ x,H' = [x,.own true 7 [zh ⟨v1,v2,⟨v3,v4,[],0,false⟩⟩ false true]]):=by
 have c1:=jt s s1 _ (by omega) h1
 have l1:=qr h1
 have c2:=jt s1 s2 _ (by omega) h2
 have l2:=qr h2
 have c3:=kO s2 s3 _ (by omega) h3
 have l3:=yc h3
 have c4:=Qa s3 s4 _ (by omega) h4
 have l4:=xC h4
 have cd:=Y5 s4 (by omega) h5
 clear h1 h2 h3 h4 h5
 unfold zh
 dsimp only [List.map_nil]
 unfold jX at c4
 refine qq (C:=C2) Tryd.func43 rfl _ Tryd.ntmps43 (Nat.le_of_ble_eq_true rfl) 2 rfl rfl ?_
 repeat' (first|(first|(apply jb;apply xb;(case hp=>rfl);(case hn=>rfl);(case hT=>(first|rfl|assumption|(apply qe;assumption)|(apply qe;apply qe;assumption)));(case hx=>(conv=>lhs;whnf));(case hc=>rfl);(case hl=>rfl);(case hs=>rfl);(case hj=>exact nle rfl);(case he=>(simp only [Nat.zero_add,Nat.reduceAdd,List.set_cons_zero,List.set_cons_succ]<;>exact rfl)))|(apply jb;apply xd;(case hp=>rfl);(case hn=>rfl);(case hT=>(first|rfl|assumption|(apply qe;assumption)|(apply qe;apply qe;assumption)));(case hx=>rfl);(case hc=>rfl);(case hs=>rfl);(case hl=>rfl))|(apply qt;apply (yg (T:=40) (cs:=[.v (.int .i64 v1),.v (.int .i64 v2),.v (.bool false),.sl true [],.sl true [],.v (.int .i64 0),.v (.bool false)]));rfl;rfl;rfl;kernel_rfl;exact nle rfl)|(apply qc Tryd.func30 rfl rfl;intro hIsFn;refine qH 0 hIsFn (c1) ?_)|(apply qc Tryd.func30 rfl rfl;intro hIsFn;refine qH 0 hIsFn (c2) ?_)|(apply qc Tryd.func44 rfl rfl;intro hIsFn;refine qH 0 hIsFn (c3) ?_)|(apply qc Tryd.func45 rfl rfl;intro hIsFn;refine QI 0 2 hIsFn (c4) ?_)|((refine zL (first:=[]) (cap:=[]) 0 2 [1] (qG Tryd.func47 rfl rfl) (cd) rfl (⟨rfl,j9 rfl⟩) ?_);(repeat (first|exact qy 19 rfl|exact ⟨19,rfl⟩|(apply jz;apply qt;apply qQ;rfl;rfl;rfl;(first|rfl|assumption|(apply qe;assumption)|(apply qe;apply qe;assumption));(conv=>lhs;whnf);exact nle rfl)|refine qz (d:=19) rfl (nle rfl) ?_|(apply qC;exact nle rfl;refine ⟨?_,?_⟩;(first|exact fun h=>absurd h Bool.false_ne_true|(intro _;kernel_rfl)))));done))|refine qk ?_|((first|(apply qb;rfl;rfl;exact nle rfl)|(apply qa;rfl;rfl;exact nle rfl)|refine xsC ?_ ?_);all_goals (intro hc;have hp:=hc;try simp at hp;try (exfalso;omega)))|refine jm ?_ ?_)
set_option maxHeartbeats 4000000 in
theorem XS (s:qj) (hs:s.length ≤ 1000000000) {v1:Int} {v2:Int} {v3:Bool} {v4:List Ent} {v5:List Com} {s1:qj} {s2:qj} {s3:qj} {s4:qj} {s5:qj} (h1:qO s = some (v1,s1)) (h2:qO s1 = some (v2,s2)) (h3:xp s2 = some (v3,s3)) (h4:kT s3 = some (v4,s4)) (h5:vz s4 = some (v5,s5)) (h6:qO s5 = none):yq C2.P 43 [.op 0 0 0,.op 1 0 0] [jo s,.own true 7 [[.v (.int .i64 0),.v (.int .i64 0),.v (.bool false),.sl false [],.sl false [],.v (.int .i64 0),.v (.bool false)]]] xX (fun H' => ∃ x,H' = [x,.own true 7 [zh ⟨v1,v2,⟨v3,v4,v5,0,false⟩⟩ false false]]):=by
 have c1:=jt s s1 _ (by omega) h1
 have l1:=qr h1
 have c2:=jt s1 s2 _ (by omega) h2
 have l2:=qr h2
 have c3:=kO s2 s3 _ (by omega) h3
 have l3:=yc h3
 have c4:=Qa s3 s4 _ (by omega) h4
 have l4:=xC h4
 have c5:=Yg s4 s5 _ (by omega) h5
 have l5:=vA h5
 have cd:=j8 s5 (by omega) h6
 clear h1 h2 h3 h4 h5 h6
 unfold zh
 dsimp only [List.map_nil]
 unfold jX at c4
 unfold j3 at c5
 refine qq (C:=C2) Tryd.func43 rfl _ Tryd.ntmps43 (Nat.le_of_ble_eq_true rfl) 2 rfl rfl ?_
 repeat' (first|(first|(apply jb;apply xb;(case hp=>rfl);(case hn=>rfl);(case hT=>(first|rfl|assumption|(apply qe;assumption)|(apply qe;apply qe;assumption)));(case hx=>(conv=>lhs;whnf));(case hc=>rfl);(case hl=>rfl);(case hs=>rfl);(case hj=>exact nle rfl);(case he=>(simp only [Nat.zero_add,Nat.reduceAdd,List.set_cons_zero,List.set_cons_succ]<;>exact rfl)))|(apply jb;apply xd;(case hp=>rfl);(case hn=>rfl);(case hT=>(first|rfl|assumption|(apply qe;assumption)|(apply qe;apply qe;assumption)));(case hx=>rfl);(case hc=>rfl);(case hs=>rfl);(case hl=>rfl))|(apply qt;apply (yg (T:=40) (cs:=[.v (.int .i64 v1),.v (.int .i64 v2),.v (.bool false),.sl true [],.sl true [],.v (.int .i64 0),.v (.bool false)]));rfl;rfl;rfl;kernel_rfl;exact nle rfl)|(apply qc Tryd.func30 rfl rfl;intro hIsFn;refine qH 0 hIsFn (c1) ?_)|(apply qc Tryd.func30 rfl rfl;intro hIsFn;refine qH 0 hIsFn (c2) ?_)|(apply qc Tryd.func44 rfl rfl;intro hIsFn;refine qH 0 hIsFn (c3) ?_)|(apply qc Tryd.func45 rfl rfl;intro hIsFn;refine QI 0 2 hIsFn (c4) ?_)|(apply qc Tryd.func47 rfl rfl;intro hIsFn;refine QI 0 2 hIsFn (c5) ?_)|((refine jq (first:=[]) (cap:=[]) 0 [1] (qG Tryd.func30 rfl rfl) (cd) rfl (⟨rfl,j9 rfl⟩) ?_);(repeat (first|exact qy 23 rfl|exact ⟨23,rfl⟩|(apply jz;apply qt;apply qQ;rfl;rfl;rfl;(first|rfl|assumption|(apply qe;assumption)|(apply qe;apply qe;assumption));(conv=>lhs;whnf);exact nle rfl)|refine qz (d:=23) rfl (nle rfl) ?_|(apply qC;exact nle rfl;refine ⟨?_,?_⟩;(first|exact fun h=>absurd h Bool.false_ne_true|(intro _;kernel_rfl)))));done))|refine qk ?_|((first|(apply qb;rfl;rfl;exact nle rfl)|(apply qa;rfl;rfl;exact nle rfl)|refine xsC ?_ ?_);all_goals (intro hc;have hp:=hc;try simp at hp;try (exfalso;omega)))|refine jm ?_ ?_)
set_option maxHeartbeats 4000000 in
theorem XT (s:qj) (hs:s.length ≤ 1000000000) {v1:Int} {v2:Int} {v3:Bool} {v4:List Ent} {v5:List Com} {v6:Int} {s1:qj} {s2:qj} {s3:qj} {s4:qj} {s5:qj} {s6:qj} (h1:qO s = some (v1,s1)) (h2:qO s1 = some (v2,s2)) (h3:xp s2 = some (v3,s3)) (h4:kT s3 = some (v4,s4)) (h5:vz s4 = some (v5,s5)) (h6:qO s5 = some (v6,s6)) (h7:xp s6 = none):yq C2.P 43 [.op 0 0 0,.op 1 0 0] [jo s,.own true 7 [[.v (.int .i64 0),.v (.int .i64 0),.v (.bool false),.sl false [],.sl false [],.v (.int .i64 0),.v (.bool false)]]] xX (fun H' => ∃ x,H' = [x,.own true 7 [zh ⟨v1,v2,⟨v3,v4,v5,v6,false⟩⟩ false false]]):=by
 have c1:=jt s s1 _ (by omega) h1
 have l1:=qr h1
 have c2:=jt s1 s2 _ (by omega) h2
 have l2:=qr h2
 have c3:=kO s2 s3 _ (by omega) h3
 have l3:=yc h3
 have c4:=Qa s3 s4 _ (by omega) h4
 have l4:=xC h4
 have c5:=Yg s4 s5 _ (by omega) h5
 have l5:=vA h5
 have c6:=jt s5 s6 _ (by omega) h6
 have l6:=qr h6
 have cd:=wn s6 (by omega) h7
 clear h1 h2 h3 h4 h5 h6 h7
 unfold zh
 dsimp only [List.map_nil]
 unfold jX at c4
 unfold j3 at c5
 refine qq (C:=C2) Tryd.func43 rfl _ Tryd.ntmps43 (Nat.le_of_ble_eq_true rfl) 2 rfl rfl ?_
 repeat' (first|(first|(apply jb;apply xb;(case hp=>rfl);(case hn=>rfl);(case hT=>(first|rfl|assumption|(apply qe;assumption)|(apply qe;apply qe;assumption)));(case hx=>(conv=>lhs;whnf));(case hc=>rfl);(case hl=>rfl);(case hs=>rfl);(case hj=>exact nle rfl);(case he=>(simp only [Nat.zero_add,Nat.reduceAdd,List.set_cons_zero,List.set_cons_succ]<;>exact rfl)))|(apply jb;apply xd;(case hp=>rfl);(case hn=>rfl);(case hT=>(first|rfl|assumption|(apply qe;assumption)|(apply qe;apply qe;assumption)));(case hx=>rfl);(case hc=>rfl);(case hs=>rfl);(case hl=>rfl))|(apply qt;apply (yg (T:=40) (cs:=[.v (.int .i64 v1),.v (.int .i64 v2),.v (.bool false),.sl true [],.sl true [],.v (.int .i64 0),.v (.bool false)]));rfl;rfl;rfl;kernel_rfl;exact nle rfl)|(apply qc Tryd.func30 rfl rfl;intro hIsFn;refine qH 0 hIsFn (c1) ?_)|(apply qc Tryd.func30 rfl rfl;intro hIsFn;refine qH 0 hIsFn (c2) ?_)|(apply qc Tryd.func44 rfl rfl;intro hIsFn;refine qH 0 hIsFn (c3) ?_)|(apply qc Tryd.func45 rfl rfl;intro hIsFn;refine QI 0 2 hIsFn (c4) ?_)|(apply qc Tryd.func47 rfl rfl;intro hIsFn;refine QI 0 2 hIsFn (c5) ?_)|(apply qc Tryd.func30 rfl rfl;intro hIsFn;refine qH 0 hIsFn (c6) ?_)|((refine jq (first:=[]) (cap:=[]) 0 [1] (qG Tryd.func44 rfl rfl) (cd) rfl (⟨rfl,j9 rfl⟩) ?_);(repeat (first|exact qy 27 rfl|exact ⟨27,rfl⟩|(apply jz;apply qt;apply qQ;rfl;rfl;rfl;(first|rfl|assumption|(apply qe;assumption)|(apply qe;apply qe;assumption));(conv=>lhs;whnf);exact nle rfl)|refine qz (d:=27) rfl (nle rfl) ?_|(apply qC;exact nle rfl;refine ⟨?_,?_⟩;(first|exact fun h=>absurd h Bool.false_ne_true|(intro _;kernel_rfl)))));done))|refine qk ?_|((first|(apply qb;rfl;rfl;exact nle rfl)|(apply qa;rfl;rfl;exact nle rfl)|refine xsC ?_ ?_);all_goals (intro hc;have hp:=hc;try simp at hp;try (exfalso;omega)))|refine jm ?_ ?_)
theorem Zj (s:qj) (hs:s.length ≤ 1000000000) (h:wJ s = none) : ∃ (a:Ans) (x1 x2:Bool),a.fit ∧ yq C2.P 43 [.op 0 0 0,.op 1 0 0] [jo s,.own true 7 [[.v (.int .i64 0),.v (.int .i64 0),.v (.bool false),.sl false [],.sl false [],.v (.int .i64 0),.v (.bool false)]]] xX (fun H' => ∃ x,H' = [x,.own true 7 [zh a x1 x2]]):=by
 have z64:xo 0:=⟨by decide,by decide⟩
 rcases VU h with h1|⟨v1,s1,h1,h2|⟨v2,s2,h2,h3|⟨v3,s3,h3,h4|⟨v4,s4,h4,h5|⟨v5,s5,h5,h6|⟨v6,s6,h6,h7⟩⟩⟩⟩⟩⟩
 ·exact ⟨⟨0,0,⟨false,[],[],0,false⟩⟩,false,false,⟨z64,z64,(fun x hx=>by cases hx),Nat.zero_le _,(fun x hx=>by cases hx),Nat.zero_le _,z64⟩,XN s hs h1⟩
 ·have l1:=qr h1
  exact ⟨⟨0,0,⟨false,[],[],0,false⟩⟩,false,false,⟨z64,z64,(fun x hx=>by cases hx),Nat.zero_le _,(fun x hx=>by cases hx),Nat.zero_le _,z64⟩,XO s hs h1 h2⟩
 ·have l1:=qr h1
  have l2:=qr h2
  exact ⟨⟨v1,v2,⟨false,[],[],0,false⟩⟩,true,true,⟨(rd_num.of _ _ _ h1).2,(rd_num.of _ _ _ h2).2,(fun x hx=>by cases hx),Nat.zero_le _,(fun x hx=>by cases hx),Nat.zero_le _,z64⟩,XP s hs h1 h2 h3⟩
 ·have l1:=qr h1
  have l2:=qr h2
  have l3:=yc h3
  exact ⟨⟨v1,v2,⟨v3,[],[],0,false⟩⟩,true,true,⟨(rd_num.of _ _ _ h1).2,(rd_num.of _ _ _ h2).2,(fun x hx=>by cases hx),Nat.zero_le _,(fun x hx=>by cases hx),Nat.zero_le _,z64⟩,XQ s hs h1 h2 h3 h4⟩
 ·have l1:=qr h1
  have l2:=qr h2
  have l3:=yc h3
  have l4:=xC h4
  exact ⟨⟨v1,v2,⟨v3,v4,[],0,false⟩⟩,false,true,⟨(rd_num.of _ _ _ h1).2,(rd_num.of _ _ _ h2).2,(vu h4 (by omega)).1,(vu h4 (by omega)).2,(fun x hx=>by cases hx),Nat.zero_le _,z64⟩,XR s hs h1 h2 h3 h4 h5⟩
 ·have l1:=qr h1
  have l2:=qr h2
  have l3:=yc h3
  have l4:=xC h4
  have l5:=vA h5
  exact ⟨⟨v1,v2,⟨v3,v4,v5,0,false⟩⟩,false,false,⟨(rd_num.of _ _ _ h1).2,(rd_num.of _ _ _ h2).2,(vu h4 (by omega)).1,(vu h4 (by omega)).2,(vB h5 (by omega)).1,(vB h5 (by omega)).2,z64⟩,XS s hs h1 h2 h3 h4 h5 h6⟩
 ·have l1:=qr h1
  have l2:=qr h2
  have l3:=yc h3
  have l4:=xC h4
  have l5:=vA h5
  have l6:=qr h6
  exact ⟨⟨v1,v2,⟨v3,v4,v5,v6,false⟩⟩,false,false,⟨(rd_num.of _ _ _ h1).2,(rd_num.of _ _ _ h2).2,(vu h4 (by omega)).1,(vu h4 (by omega)).2,(vB h5 (by omega)).1,(vB h5 (by omega)).2,(rd_num.of _ _ _ h6).2⟩,XT s hs h1 h2 h3 h4 h5 h6 h7⟩
end Go.Proofs.YtahbbnfmbohmmaaDoor
set_option linter.unusedSimpArgs false
set_option linter.unnecessarySimpa false
set_option linter.unusedVariables false
set_option maxHeartbeats 1000000
namespace Go.Proofs.YtahbbnfmbohmmaaDoor
open Go.Ab Go.RowKit
set_option maxRecDepth 10000
attribute [local irreducible] Awp jE qY qK Red qA Go.Ab.Fin qp Rz yL qJ qE ResOk jl qL jA qB
set_option maxHeartbeats 4000000 in
theorem ZA (s t:qj) (e:Int) (ok:Bool) (q:Ans) (hw:qp C.P 28 [.v (str s),.clo (.func 43) [] [.op 0 0 0]] [.own true 7 [noAns.row]] (.v (.bool ok)) [.own true 7 [q.row]])
  (ha:zb C.P 15 [.agg q.row] (.tup [.v (str t),.v (.int .i64 e)])) :
  zb C.P 17 [.v (str s)] (if ok = true ∧ t = s ∧ e = 0 then .tup [.agg q.row,.v (.int .i64 0)] else .tup [.agg noAns.row,.v (.int .i64 1)]):=by
 unfold noAns YW Ans.row jX j3 at hw
 unfold Ans.row jX j3 at ha
 unfold noAns YW Ans.row jX j3
 obtain ⟨q1,q2,q3,q4,q5,q6,q7⟩:=q
 dsimp only [List.map_nil] at *
 cases ok with
 | false =>
   refine qf Tryd.func17 rfl _ Tryd.ntmps17 (Nat.le_of_ble_eq_true rfl) _ Tryd.results17 0 rfl rfl ?_
   repeat' (first|refine qk ?_|(first|(apply qc Tryd.func28 rfl rfl;intro hIsFn;refine vW 1 hIsFn (hw) rfl ?_)|refine xsF Tryd.func15 (ha ..) ?_)|((first|(apply qb;rfl;rfl;exact nle rfl)|(apply qa;rfl;rfl;exact nle rfl)|refine xsC ?_ ?_);all_goals (intro hc;have hp:=hc;try simp at hp;try (exfalso;omega)))|refine jm ?_ ?_)
   all_goals ((refine yd (rs:=[.cell 2 40,.tmp 3]) ?_;(repeat' (first|exact jC|apply jp|exact jg rfl|exact yo|exact vo|apply jS|apply j7|apply jT|apply j5|apply jG|apply j6|refine vn ?_|apply yM));all_goals rfl))
 | true =>
   by_cases he:e = 0
   ·subst he
    by_cases ht:t = s
    ·subst ht
     refine qf Tryd.func17 rfl _ Tryd.ntmps17 (Nat.le_of_ble_eq_true rfl) _ Tryd.results17 0 rfl rfl ?_
     repeat' (first|refine qk ?_|(first|(apply qc Tryd.func28 rfl rfl;intro hIsFn;refine vW 1 hIsFn (hw) rfl ?_)|refine xsF Tryd.func15 (ha ..) ?_)|((first|(apply qb;rfl;rfl;exact nle rfl)|(apply qa;rfl;rfl;exact nle rfl)|refine xsC ?_ ?_);all_goals (intro hc;have hp:=hc;try simp at hp;try (exfalso;omega)))|refine jm ?_ ?_)
     all_goals try (exfalso;simp at *;done)
     all_goals (rw [if_pos ⟨rfl,rfl,rfl⟩])
     all_goals ((refine yd (rs:=[.cell 2 40,.tmp 3]) ?_;(repeat' (first|exact jC|apply jp|exact jg rfl|exact yo|exact vo|apply jS|apply j7|apply jT|apply j5|apply jG|apply j6|refine vn ?_|apply yM));all_goals rfl))
    ·refine qf Tryd.func17 rfl _ Tryd.ntmps17 (Nat.le_of_ble_eq_true rfl) _ Tryd.results17 0 rfl rfl ?_
     repeat' (first|refine qk ?_|(first|(apply qc Tryd.func28 rfl rfl;intro hIsFn;refine vW 1 hIsFn (hw) rfl ?_)|refine xsF Tryd.func15 (ha ..) ?_)|((first|(apply qb;rfl;rfl;exact nle rfl)|(apply qa;rfl;rfl;exact nle rfl)|refine xsC ?_ ?_);all_goals (intro hc;have hp:=hc;try simp at hp;try (exfalso;omega)))|refine jm ?_ ?_)
     all_goals try (exfalso;simp_all;done)
     all_goals (rw [if_neg (fun h=>ht h.2.1)])
     all_goals ((refine yd (rs:=[.cell 2 40,.tmp 3]) ?_;(repeat' (first|exact jC|apply jp|exact jg rfl|exact yo|exact vo|apply jS|apply j7|apply jT|apply j5|apply jG|apply j6|refine vn ?_|apply yM));all_goals rfl))
   ·refine qf Tryd.func17 rfl _ Tryd.ntmps17 (Nat.le_of_ble_eq_true rfl) _ Tryd.results17 0 rfl rfl ?_
    repeat' (first|refine qk ?_|(first|(apply qc Tryd.func28 rfl rfl;intro hIsFn;refine vW 1 hIsFn (hw) rfl ?_)|refine xsF Tryd.func15 (ha ..) ?_)|((first|(apply qb;rfl;rfl;exact nle rfl)|(apply qa;rfl;rfl;exact nle rfl)|refine xsC ?_ ?_);all_goals (intro hc;have hp:=hc;try simp at hp;try (exfalso;omega)))|refine jm ?_ ?_)
    all_goals try (exfalso;omega)
    all_goals (rw [if_neg (fun h=>he h.2.2)])
    all_goals ((refine yd (rs:=[.cell 2 40,.tmp 3]) ?_;(repeat' (first|exact jC|apply jp|exact jg rfl|exact yo|exact vo|apply jS|apply j7|apply jT|apply j5|apply jG|apply j6|refine vn ?_|apply yM));all_goals rfl))
set_option maxHeartbeats 4000000 in
theorem Jb (s t:qj) (e:Int) (q:Ans) (x1 x2:Bool) (hw:qp C.P 28 [.v (str s),.clo (.func 43) [] [.op 0 0 0]] [.own true 7 [noAns.row]] (.v (.bool false)) [.own true 7 [zh q x1 x2]])
  (ha:zb C.P 15 [.agg q.row] (.tup [.v (str t),.v (.int .i64 e)])) :
  zb C.P 17 [.v (str s)] (.tup [.agg noAns.row,.v (.int .i64 1)]):=by
 unfold noAns YW Ans.row jX j3 zh at hw
 unfold Ans.row jX j3 at ha
 unfold noAns YW Ans.row jX j3
 obtain ⟨q1,q2,q3,q4,q5,q6,q7⟩:=q
 dsimp only [List.map_nil] at *
 cases x1<;>cases x2
 all_goals (refine qf Tryd.func17 rfl _ Tryd.ntmps17 (Nat.le_of_ble_eq_true rfl) _ Tryd.results17 0 rfl rfl ?_)
 all_goals (repeat' (first|refine qk ?_|(first|(apply qc Tryd.func28 rfl rfl;intro hIsFn;refine vW 1 hIsFn (hw) rfl ?_)|refine xsF Tryd.func15 (ha ..) ?_)|((first|(apply qb;rfl;rfl;exact nle rfl)|(apply qa;rfl;rfl;exact nle rfl)|refine xsC ?_ ?_);all_goals (intro hc;have hp:=hc;try simp at hp;try (exfalso;omega)))|refine jm ?_ ?_))
 all_goals ((refine yd (rs:=[.cell 2 40,.tmp 3]) ?_;(repeat' (first|exact jC|apply jp|exact jg rfl|exact yo|exact vo|apply jS|apply j7|apply jT|apply j5|apply jG|apply j6|refine vn ?_|apply yM));all_goals rfl))
theorem Jo:noAns.fit:=⟨⟨by decide,by decide⟩,⟨by decide,by decide⟩,(fun x hx=>by cases hx),by decide,(fun x hx=>by cases hx),by decide,⟨by decide,by decide⟩⟩
theorem Yz {s r:qj} {q:Ans} (h:wJ s = some (q,r)) (hs:s.length ≤ 1000000000):q.fit:=by
 obtain ⟨s1,s2,s3,s4,s5,s6,h1,h2,h3,h4,h5,h6,h7⟩:=YA h
 have l1:=qr h1
 have l2:=qr h2
 have l3:=yc h3
 have l4:=xC h4
 exact ⟨(rd_num.of _ _ _ h1).2,(rd_num.of _ _ _ h2).2,(vu h4 (by omega)).1,(vu h4 (by omega)).2,(vB h5 (by omega)).1,(vB h5 (by omega)).2,(rd_num.of _ _ _ h6).2⟩
theorem ZK (s:qj) (hs:s.length ≤ 1000000000):zb C.P 17 [.v (str s)] (.tup [.agg (xB s).1.row,.v (.int .i64 (xB s).2)]):=by
 cases hq:wJ s with
 | none =>
   obtain ⟨a,x1,x2,hf,hd⟩:=Zj s hs hq
   have hw:=wq s (f:=43) Tryd.func43 rfl rfl 7 noAns.row (zh a x1 x2) rfl rfl hd
   have h:=Jb s _ _ a x1 x2 hw (JG a hf)
   unfold xB
   rw [hq]
   exact h
 | some p =>
   obtain ⟨q,r⟩:=p
   have hf:q.fit:=Yz hq hs
   have hw:=Vk s r (f:=43) Tryd.func43 rfl rfl 7 noAns.row q.row rfl rfl (qay s r q hs hq)
   have h:=ZA s _ _ _ q hw (JG q hf)
   unfold xB
   rw [hq]
   dsimp only
   by_cases hr:r = [] ∧ xh q = (s,0)
   ·rw [if_pos hr]
    rw [if_pos ⟨by simpa using hr.1,by rw [hr.2],by rw [hr.2]⟩] at h
    exact h
   ·rw [if_neg hr]
    rw [if_neg (fun h=>hr ⟨by simpa using h.1,Prod.ext h.2.1 h.2.2⟩)] at h
    exact h
theorem Zy (s:qj) (hs:s.length ≤ 1000000000):(xB s).1.fit:=by
 unfold xB
 split
 ·exact Jo
 ·rename_i q r hq
  split
  ·exact Yz hq hs
  ·exact Jo
end Go.Proofs.YtahbbnfmbohmmaaDoor
set_option linter.unusedSimpArgs false
set_option linter.unusedVariables false
namespace Go.Proofs.YtahbbnfmbohmmaaDoor
open Go.Ab Go.RowKit
theorem vf {a:Int} (h:(Lit.int .i64 a).wf = true):xo a:=by
 simp [Lit.wf] at h
 have e1:IntKind.i64.min = -9223372036854775808:=rfl
 have e2:IntKind.i64.max = 9223372036854775807:=rfl
 exact ⟨by omega,by omega⟩
theorem KP {n:Nat} {xs:List AV} (h:xP C.tab 1000000000 n 97 xs) : ∃ s:Chg,xs = s.row ∧ s.fit:=by
 cases n with
 | zero=>exact h.elim
 | succ n =>
   obtain ⟨_,_,rfl,h0,_,_,rfl,h1,_,_,rfl,h2,_,_,rfl,h3,_,_,rfl,h4,rfl⟩:=(show zf C.tab 0 _ = some _ → JC (xP C.tab 1000000000 n) [(0,3),(1,9),(2,9),(3,9),(4,3)] xs from h) rfl
   obtain ⟨a0,rfl,l0⟩:=xw h0
   obtain ⟨a1,rfl,l1⟩:=yX h1
   obtain ⟨a2,rfl,l2⟩:=yX h2
   obtain ⟨a3,rfl,l3⟩:=yX h3
   obtain ⟨a4,rfl,l4⟩:=xw h4
   exact ⟨⟨a0,a1,a2,a3,a4⟩,rfl,vf l0,l1,l2,l3,vf l4⟩
theorem Jz {n:Nat} {xs:List AV} (h:xP C.tab 1000000000 n 22 xs) : ∃ t:List Chg,xs = [ya t] ∧ (∀ c,c ∈ t → c.fit) ∧ t.length ≤ 1000000000:=by
 cases n with
 | zero=>exact h.elim
 | succ n =>
   obtain ⟨rows,he,hb,hr⟩:=(show (5:Nat) ≠ 0 → ∃ rows,xs = [AV.sl false rows] ∧ rows.length * 64 ≤ 1000000000 ∧ ∀ row,row ∈ rows → xP C.tab 1000000000 n 97 row from h) (by decide)
   obtain ⟨l,rfl,hl⟩:=kR (f:=Chg.row) (ok:=Chg.fit) (fun row hrow=>KP (hr row hrow))
   refine ⟨l,he,hl,?_⟩
   simp at hb;omega
theorem KS {n:Nat} {xs:List AV} (h:xP C.tab 1000000000 n 24 xs) : ∃ r:Rqt,xs = r.row ∧ r.fit:=by
 cases n with
 | zero=>exact h.elim
 | succ n =>
   obtain ⟨_,_,rfl,h0,_,_,rfl,h1,_,_,rfl,h2,_,_,rfl,h3,_,_,rfl,h4,_,_,rfl,h5,_,_,rfl,h6,_,_,rfl,h7,_,_,rfl,h8,_,_,rfl,h9,rfl⟩:=(show zf C.tab 0 _ = some _ → JC (xP C.tab 1000000000 n) [(0,3),(1,9),(2,9),(3,9),(4,9),(5,9),(6,3),(7,3),(8,3),(9,22)] xs from h) rfl
   obtain ⟨a0,rfl,l0⟩:=xw h0
   obtain ⟨a1,rfl,l1⟩:=yX h1
   obtain ⟨a2,rfl,l2⟩:=yX h2
   obtain ⟨a3,rfl,l3⟩:=yX h3
   obtain ⟨a4,rfl,l4⟩:=yX h4
   obtain ⟨a5,rfl,l5⟩:=yX h5
   obtain ⟨a6,rfl,l6⟩:=xw h6
   obtain ⟨a7,rfl,l7⟩:=xw h7
   obtain ⟨a8,rfl,l8⟩:=xw h8
   obtain ⟨a9,rfl,l9,l10⟩:=Jz h9
   exact ⟨⟨a0,a1,a2,a3,a4,a5,a6,a7,a8,a9⟩,rfl,vf l0,l1,l2,l3,l4,l5,vf l6,vf l7,vf l8,l9,l10⟩
theorem KN {y:AV} (h:Yr C.tab 1000000000 24 y) : ∃ c,y = .agg (Rqt.row c) ∧ c.fit:=by
 obtain ⟨n,xs,rfl,h2⟩:=(show ∃ n xs,y = .agg xs ∧ xP C.tab 1000000000 n 24 xs from h)
 obtain ⟨c,rfl,hc⟩:=KS h2
 exact ⟨c,rfl,hc⟩
end Go.Proofs.YtahbbnfmbohmmaaDoor
set_option linter.unusedSimpArgs false
set_option linter.unusedVariables false
namespace Go.Proofs.YtahbbnfmbohmmaaDoor
open Go.Ab Go.RowKit
theorem KR {n:Nat} {xs:List AV} (h:xP C.tab 1000000000 n 76 xs) : ∃ s:Ent,xs = s.row ∧ s.fit:=by
 cases n with
 | zero=>exact h.elim
 | succ n =>
   obtain ⟨_,_,rfl,h0,_,_,rfl,h1,_,_,rfl,h2,_,_,rfl,h3,rfl⟩:=(show zf C.tab 0 _ = some _ → JC (xP C.tab 1000000000 n) [(0,9),(1,4),(2,9),(3,3)] xs from h) rfl
   obtain ⟨a0,rfl,l0⟩:=yX h0
   obtain ⟨a1,rfl⟩:=QY h1
   obtain ⟨a2,rfl,l2⟩:=yX h2
   obtain ⟨a3,rfl,l3⟩:=xw h3
   exact ⟨⟨a0,a1,a2,a3⟩,rfl,l0,l2,vf l3⟩
theorem ZE {n:Nat} {xs:List AV} (h:xP C.tab 1000000000 n 35 xs) : ∃ t:List Ent,xs = [jX t] ∧ (∀ c,c ∈ t → c.fit) ∧ t.length ≤ 1000000000:=by
 cases n with
 | zero=>exact h.elim
 | succ n =>
   obtain ⟨rows,he,hb,hr⟩:=(show (4:Nat) ≠ 0 → ∃ rows,xs = [AV.sl false rows] ∧ rows.length * 48 ≤ 1000000000 ∧ ∀ row,row ∈ rows → xP C.tab 1000000000 n 76 row from h) (by decide)
   obtain ⟨l,rfl,hl⟩:=kR (f:=Ent.row) (ok:=Ent.fit) (fun row hrow=>KR (hr row hrow))
   refine ⟨l,he,hl,?_⟩
   simp at hb;omega
theorem KQ {n:Nat} {xs:List AV} (h:xP C.tab 1000000000 n 80 xs) : ∃ s:Com,xs = s.row ∧ s.fit:=by
 cases n with
 | zero=>exact h.elim
 | succ n =>
   obtain ⟨_,_,rfl,h0,_,_,rfl,h1,_,_,rfl,h2,rfl⟩:=(show zf C.tab 0 _ = some _ → JC (xP C.tab 1000000000 n) [(0,3),(1,9),(2,22)] xs from h) rfl
   obtain ⟨a0,rfl,l0⟩:=xw h0
   obtain ⟨a1,rfl,l1⟩:=yX h1
   obtain ⟨a2,rfl,l2,l3⟩:=Jz h2
   exact ⟨⟨a0,a1,a2⟩,rfl,vf l0,l1,l2,l3⟩
theorem ZD {n:Nat} {xs:List AV} (h:xP C.tab 1000000000 n 36 xs) : ∃ t:List Com,xs = [j3 t] ∧ (∀ c,c ∈ t → c.fit) ∧ t.length ≤ 1000000000:=by
 cases n with
 | zero=>exact h.elim
 | succ n =>
   obtain ⟨rows,he,hb,hr⟩:=(show (3:Nat) ≠ 0 → ∃ rows,xs = [AV.sl false rows] ∧ rows.length * 48 ≤ 1000000000 ∧ ∀ row,row ∈ rows → xP C.tab 1000000000 n 80 row from h) (by decide)
   obtain ⟨l,rfl,hl⟩:=kR (f:=Com.row) (ok:=Com.fit) (fun row hrow=>KQ (hr row hrow))
   refine ⟨l,he,hl,?_⟩
   simp at hb;omega
theorem Vb {n:Nat} {xs:List AV} (h:xP C.tab 1000000000 n 25 xs) : ∃ a,xs = [.v (.int .i64 a)] ∧ (Lit.int .i64 a).wf = true:=by
 cases n with
 | zero=>exact h.elim
 | succ n=>exact (show ∃ a,xs = [.v (.int .i64 a)] ∧ (Lit.int .i64 a).wf = true from h)
theorem KO {n:Nat} {xs:List AV} (h:xP C.tab 1000000000 n 40 xs) : ∃ a:Ans,xs = a.row ∧ a.fit:=by
 cases n with
 | zero=>exact h.elim
 | succ n =>
   obtain ⟨_,_,rfl,h0,_,_,rfl,h1,_,_,rfl,h2,rfl⟩:=(show zf C.tab 0 _ = some _ → JC (xP C.tab 1000000000 n) [(0,25),(1,3),(2,38)] xs from h) rfl
   obtain ⟨b0,rfl,m0⟩:=Vb h0
   obtain ⟨b1,rfl,m1⟩:=xw h1
   cases n with
   | zero=>exact h2.elim
   | succ n =>
     obtain ⟨_,_,rfl,g0,_,_,rfl,g1,_,_,rfl,g2,_,_,rfl,g3,_,_,rfl,g4,rfl⟩:=(show zf C.tab 0 _ = some _ → JC (xP C.tab 1000000000 n) [(0,4),(1,35),(2,36),(3,3),(4,4)] _ from h2) rfl
     obtain ⟨a0,rfl⟩:=QY g0
     obtain ⟨a1,rfl,l1,k1⟩:=ZE g1
     obtain ⟨a2,rfl,l2,k2⟩:=ZD g2
     obtain ⟨a3,rfl,l3⟩:=xw g3
     obtain ⟨a4,rfl⟩:=QY g4
     exact ⟨⟨b0,b1,⟨a0,a1,a2,a3,a4⟩⟩,rfl,vf m0,vf m1,l1,k1,l2,k2,vf l3⟩
theorem KM {y:AV} (h:Yr C.tab 1000000000 40 y) : ∃ c,y = .agg (Ans.row c) ∧ c.fit:=by
 obtain ⟨n,xs,rfl,h2⟩:=(show ∃ n xs,y = .agg xs ∧ xP C.tab 1000000000 n 40 xs from h)
 obtain ⟨c,rfl,hc⟩:=KO h2
 exact ⟨c,rfl,hc⟩
end Go.Proofs.YtahbbnfmbohmmaaDoor
