import Derived.Test.YtahbbnfmbohmmaaDoorMz27
import Derived.Test.YtahbbnfmbohmmaaDoorMz14
import Derived.Test.YtahbbnfmbohmmaaDoorMz8
import Derived.Test.YtahbbnfmbohmmaaDoorMz29
set_option linter.unusedSimpArgs false
set_option linter.unnecessarySimpa false
set_option linter.unusedVariables false
set_option maxHeartbeats 1000000
namespace Go.Proofs.YtahbbnfmbohmmaaDoor
open Go.Ab Go.RowKit
set_option maxRecDepth 10000
attribute [local irreducible] Awp jU jl qQ Red qD Go.Ab.Fin qt Rz yZ qO qJ ResOk jt qU jN qG
end Go.Proofs.YtahbbnfmbohmmaaDoor
set_option linter.unusedSimpArgs false
set_option linter.unnecessarySimpa false
set_option linter.unusedVariables false
set_option maxHeartbeats 1000000
namespace Go.Proofs.YtahbbnfmbohmmaaDoor
open Go.Ab Go.RowKit
set_option maxRecDepth 10000
noncomputable def jM:Code:=match Tryd.f18.body with|some c=>c|none => .skip
theorem qbV:tlW 6 jM = .seq (wd (tlW 6 jM)) (.seq (wd (tlW 7 jM)) (tlW 8 jM)):=by kernel_rfl
theorem qbW:tlW 8 jM = .seq (wd (tlW 8 jM)) (.seq (wd (tlW 9 jM)) (tlW 10 jM)):=by kernel_rfl
theorem qbU:jM = .seq (wd (tlW 0 jM)) (.seq (wd (tlW 1 jM)) (.seq (wd (tlW 2 jM)) (.seq (wd (tlW 3 jM)) (.seq (wd (tlW 4 jM)) (.seq (wd (tlW 5 jM)) (tlW 6 jM)))))):=by kernel_rfl
@[reducible] def z7:List AV:=[.v (.int .i64 0),.v (.int .i64 0),.v (.bool false),.sl true [],.sl true [],.v (.int .i64 0),.v (.bool false)]
@[reducible] def r7 (e n:Int) (r:Bool) (T K:AV):List AV:=[.v (.int .i64 e),.v (.int .i64 n),.v (.bool r),T,K,.v (.int .i64 0),.v (.bool false)]
@[reducible] def Wm (s:qo) (row:List AV) (a:Nat) (b:Bool):St:=⟨[(0,.v (str s)),(2,.op 0 0 0),(4,.op 1 0 0),(5,.op 2 0 0)],[(0,.own true 7 [z7]),(1,yI s a b),(2,.own true 7 [row])],3⟩
@[reducible] noncomputable def Wl (R:AV):Exit → St → Prop:=ZD C #[ResultVar.cell 2 40,ResultVar.tmp 3] 0 R []
theorem VU (s:qo) (hs:s.length ≤ 1000000000) (a:Nat) (ha:a ≤ s.length) (b:Bool) : ∃ (c:Ent) (a1 a2 a3 a4:Nat) (b1 b2 b3 b4:Bool),Js ⟨s.drop a,b⟩ = (c,⟨s.drop a4,b4⟩) ∧ a4 ≤ s.length ∧ c.fit ∧
  qt C1.P 34 [.op 0 0 0] [yI s a b] (.v (str c.path)) [yI s a1 b1] ∧ qt C1.P 49 [.op 0 0 0] [yI s a1 b1] (.v (.bool c.fold)) [yI s a2 b2] ∧
  qt C1.P 34 [.op 0 0 0] [yI s a2 b2] (.v (str c.text)) [yI s a3 b3] ∧ qt C1.P 33 [.op 0 0 0] [yI s a3 b3] (.v (.int .i64 c.ver)) [yI s a4 b4]:=by
 obtain ⟨a1,v1,b1,h1,e1,f1,c1⟩:=wP s hs a ha b
 obtain ⟨a2,v2,b2,h2,e2,c2⟩:=Wh s hs a1 h1 b1
 obtain ⟨a3,v3,b3,h3,e3,f3,c3⟩:=wP s hs a2 h2 b2
 obtain ⟨a4,v4,b4,h4,e4,f4,c4⟩:=xe s hs a3 h3 b3
 refine ⟨⟨v1,v2,v3,v4⟩,a1,a2,a3,a4,b1,b2,b3,b4,?_,h4,⟨f1,f3,f4⟩,c1,c2,c3,c4⟩
 unfold Js
 simp only [e1,e2,e3,e4]
theorem VS (s:qo) (hs:s.length ≤ 1000000000) (a:Nat) (ha:a ≤ s.length) (b:Bool) : ∃ (c:Com) (a1 a2 a3:Nat) (b1 b2 b3:Bool),Jr ⟨s.drop a,b⟩ = (c,⟨s.drop a3,b3⟩) ∧ a3 ≤ s.length ∧ c.fit ∧
  qt C1.P 33 [.op 0 0 0] [yI s a b] (.v (.int .i64 c.num)) [yI s a1 b1] ∧ qt C1.P 34 [.op 0 0 0] [yI s a1 b1] (.v (str c.key)) [yI s a2 b2] ∧
  qt C1.P 35 [.op 0 0 0] [yI s a2 b2] (j5 c.chs) [yI s a3 b3]:=by
 obtain ⟨a1,v1,b1,h1,e1,f1,c1⟩:=xe s hs a ha b
 obtain ⟨a2,v2,b2,h2,e2,f2,c2⟩:=wP s hs a1 h1 b1
 obtain ⟨a3,v3,b3,h3,e3,f3,l3,c3⟩:=Z0 s hs a2 h2 b2
 refine ⟨⟨v1,v2,v3⟩,a1,a2,a3,b1,b2,b3,?_,h3,⟨f1,f2,f3,by dsimp only;omega⟩,c1,c2,c3⟩
 unfold Jr
 simp only [e1,e2,e3]
attribute [local irreducible] Awp jU jl qQ Red qD Go.Ab.Fin qt Rz yZ qO qJ ResOk jt qU jN qG
set_option maxHeartbeats 8000000 in
theorem qaG (R:AV) (s:qo) (hs:s.length ≤ 1000000000) (a:Nat) (ha:a ≤ s.length) (b:Bool) (e n:Int) (r:Bool) : ∃ (a' : Nat) (l:List Ent) (b' : Bool),a' ≤ s.length ∧ vA Js 60 ⟨s.drop a,b⟩ = (l,⟨s.drop a',b'⟩) ∧ (∀ x,x ∈ l → x.fit) ∧ l.length ≤ 60 ∧
  (Awp C 123 (tlW 8 jM) (Wl R) (Wm s (r7 e n r (.sl false (l.map Ent.row)) (.sl true [])) a' b') → Awp C 123 (tlW 6 jM) (Wl R) (Wm s (r7 e n r (.sl true []) (.sl true [])) a b)):=by
 obtain ⟨a1,m,b1,h1,e1,hm,c0⟩:=YI 60 (by decide) s hs a ha b
 obtain ⟨af,l,bf,ef,hf,hfit,hfl⟩:=Qq Js Ent.fit s (fun a b ha=>by
  obtain ⟨c,_,_,_,az,_,_,_,bz,e,h,f,_⟩:=VU s hs a ha b
  exact ⟨az,c,bz,e,h,f⟩) m a1 b1 h1
 refine ⟨af,l,bf,hf,?_,hfit,by omega,fun hT=>?_⟩
 ·unfold vA
  rw [e1]
  exact ef
 clear e1 hfit hfl
 rw [qbV]
 generalize tlW 8 jM = TT at *
 conv=>arg 3;arg 1;whnf
 conv=>arg 3;arg 2;arg 1;whnf
 repeat' (first|refine qi ?_|(first|(apply qc Tryd.func50 rfl rfl;intro hIsFn;refine qF 1 hIsFn (c0) rfl ?_))|((first|(apply qb;rfl;rfl;exact nle rfl)|(apply qa;rfl;rfl;exact nle rfl)|refine xsC ?_ ?_);all_goals (intro hc;have hp:=hc;try simp at hp;try (exfalso;omega)))|refine qS ?_ ?_)
 clear c0
 (refine Awp.red (qy (τ:=⟨[(0,.v (str s)),(2,.op 0 0 0),(4,.op 1 0 0),(5,.op 2 0 0),(6,.v (.int .i64 (m:Int))),(7,.v (.int .i64 ((0:Nat):Int)))],[(0,.own true 7 [z7]),(1,yI s a1 b1),(2,.own true 7 [r7 e n r (.sl true []) (.sl true [])])],3⟩) [(0,0),(1,1),(2,2)] rfl ?gts2 ?ghs2) ?_;(case gts2=>(repeat (first|exact qh|refine qA ?_|refine jI ?_|refine jd ?_|refine jK ?_|refine je ?_ ?_|refine jy ?_ ?_));all_goals rfl);(case ghs2=>(refine ym (q:=0) rfl (qd rfl) (qE rfl) (ji (q:=1) rfl (qd rfl) rfl (ym (q:=2) rfl (qd rfl) (qE rfl) qe)))))
 refine Awp.red (Xu 2 3 4 rfl rfl (Nat.le_of_ble_eq_true rfl) (Nat.le_of_ble_eq_true rfl)) ?_
 (refine Awp.red (qy (τ:=⟨[(0,.v (str s)),(2,.op 0 0 0),(4,.op 1 0 0),(5,.op 2 0 0),(6,.v (.int .i64 (m:Int))),(7,.v (.int .i64 ((0:Nat):Int)))],[(0,.own true 7 [z7]),(1,yI s a1 b1),(2,.own true 7 [r7 e n r (.os 3 0 0) (.sl true [])]),(3,.own false 4 (([]:List Ent).map Ent.row))],4⟩) [(0,0),(1,1),(2,2),(3,3)] rfl ?gts2 ?ghs2) ?_;(case gts2=>(repeat (first|exact qh|refine qA ?_|refine jI ?_|refine jd ?_|refine jK ?_|refine je ?_ ?_|refine jy ?_ ?_));all_goals rfl);(case ghs2=>(refine ym (q:=0) rfl (qd rfl) (qE rfl) (ji (q:=1) rfl (qd rfl) rfl (ym (q:=2) rfl (qd rfl) ?_ (zV (n:=3) rfl (qd rfl) rfl (fun row h=>by cases h) qe)));(repeat (first|exact qT|refine ql (qI rfl) ?_|refine ql (jn (qd rfl)) ?_)))))
 refine jC (fun k σ => ∃ (i ai:Nat) (bi:Bool) (li:List Ent),i ≤ m ∧ k = m - i ∧ ai ≤ s.length ∧ xK Js ⟨s.drop a1,b1⟩ i = (li,⟨s.drop ai,bi⟩) ∧ li.length = i ∧ σ = ⟨[(0,.v (str s)),(2,.op 0 0 0),(4,.op 1 0 0),(5,.op 2 0 0),(6,.v (.int .i64 (m:Int))),(7,.v (.int .i64 (i:Int)))],[(0,.own true 7 [z7]),(1,yI s ai bi),(2,.own true 7 [r7 e n r (.os 3 0 i) (.sl true [])]),(3,.own false 4 (li.map Ent.row))],4⟩) m ⟨0,a1,b1,[],Nat.zero_le _,rfl,h1,rfl,rfl,rfl⟩ ?_
 rintro k σ ⟨i,ai,bi,li,hi,rfl,hai,hrep,hli,rfl⟩
 have stop:(i = m ∨ bi = true) → l = li ∧ af = ai ∧ bf = bi:=by
  intro h
  refine Vt hf hai ?_
  rw [← ef]
  rcases h with rfl|rfl
  ·exact hrep
  ·exact wa hrep m hi
 by_cases hgo:i < m ∧ bi = false
 ·obtain ⟨hlt,rfl⟩:=hgo
  obtain ⟨c,p1,p2,p3,az,d1,d2,d3,bz,ec,hz,_,k1,k2,k3,k4⟩:=VU s hs ai hai false
  have hrep':=Jd hrep rfl ec
  have hml:(li.map Ent.row).length = i:=by rw [List.length_map];exact hli
  clear stop ef hrep ec hT
  repeat' (first|(first|(apply qZ;apply yo;(case hp=>rfl);(case hn=>rfl);(case hT=>(first|rfl|assumption|(apply qg;assumption)|(apply qg;apply qg;assumption)));(case hx=>(conv=>lhs;whnf));(case hc=>rfl);(case hl=>rfl);(case hs=>rfl);(case hj=>exact nle rfl);(case he=>(simp only [Nat.zero_add,Nat.reduceAdd,List.set_cons_zero,List.set_cons_succ]<;>exact rfl)))|(apply yw;apply (wk [.v (str []),.v (.bool false),.v (str []),.v (.int .i64 0)]);(case hT=>rfl);(case hz=>rfl);(case hN=>exact nle rfl))|(refine ya ?_)|(apply qc Tryd.func34 rfl rfl;intro hIsFn;refine qF 1 hIsFn (k1) rfl ?_)|(apply qc Tryd.func49 rfl rfl;intro hIsFn;refine qF 1 hIsFn (k2) rfl ?_)|(apply qc Tryd.func34 rfl rfl;intro hIsFn;refine qF 1 hIsFn (k3) rfl ?_)|(apply qc Tryd.func33 rfl rfl;intro hIsFn;refine qF 1 hIsFn (k4) rfl ?_)|(refine zd ?_))|refine qi ?_|((first|(apply qb;rfl;rfl;exact nle rfl)|(apply qa;rfl;rfl;exact nle rfl)|refine xsC ?_ ?_);all_goals (intro hc;have hp:=hc;try simp at hp;try (exfalso;omega)))|refine qS ?_ ?_)
  all_goals try (exfalso;omega)
  all_goals (refine ⟨m - (i + 1),⟨[(0,.v (str s)),(2,.op 0 0 0),(4,.op 1 0 0),(5,.op 2 0 0),(6,.v (.int .i64 (m:Int))),(7,.v (.int .i64 ((i + 1:Nat):Int)))],[(0,.own true 7 [z7]),(1,yI s az bz),(2,.own true 7 [r7 e n r (.os 3 0 (i + 1)) (.sl true [])]),(3,.own false 4 ((li ++ [c]).map Ent.row))],4⟩,by omega,?_,⟨i + 1,az,bz,li ++ [c],by omega,rfl,hz,hrep',by simp [hli],rfl⟩⟩;refine qy [(0,0),(1,1),(2,2),(5,3)] rfl ?gts ?ghs;(case gts=>(repeat (first|exact qh|refine qA ?_|refine jI ?_|refine jd ?_|refine jK ?_|refine je ?_ ?_|refine jy ?_ ?_));all_goals first|rfl|(simp;omega));(case ghs=>(refine ym (q:=0) rfl (qd rfl) (qE rfl) (ji (q:=1) rfl (qd rfl) rfl (ym (q:=2) rfl (qd rfl) ?_ (zV (n:=5) rfl (qd rfl) (by rw [List.take_of_length_le (Nat.le_of_eq hml),List.map_append];rfl) (vj _) qe)));(repeat (first|exact qT|refine ql (qI rfl) ?_|refine ql (jn (qd rfl)) ?_)))))
 ·have hgo:i = m ∨ bi = true:=by
   by_cases h:i < m
   ·exact .inr (by cases bi with|true=>rfl|false=>exact absurd ⟨h,rfl⟩ hgo)
   ·exact .inl (by omega)
  obtain ⟨rfl,rfl,rfl⟩:=stop hgo
  clear ef hrep stop
  refine Awp.red (xj 3 rfl (vj l)) ?_
  refine Awp.red (V4 2 3 3 rfl rfl rfl (by rw [List.length_map];omega)) ?_
  rcases hgo with hgo|hgo
  all_goals (repeat' (first|refine qi ?_|fail|((first|(apply qb;rfl;rfl;exact nle rfl)|(apply qa;rfl;rfl;exact nle rfl)|refine xsC ?_ ?_);all_goals (intro hc;have hp:=hc;try simp at hp;try (exfalso;omega)))|refine qS ?_ ?_))
  all_goals try (exfalso;first|omega|(simp_all;done))
  all_goals ((refine Awp.red (qy (τ:=⟨[(0,.v (str s)),(2,.op 0 0 0),(4,.op 1 0 0),(5,.op 2 0 0)],[(0,.own true 7 [z7]),(1,yI s af bf),(2,.own true 7 [r7 e n r (.sl false (l.map Ent.row)) (.sl true [])])],3⟩) [(0,0),(1,1),(2,2)] rfl ?gts2 ?ghs2) ?_;(case gts2=>(repeat (first|exact qh|refine qA ?_|refine jI ?_|refine jd ?_|refine jK ?_|refine je ?_ ?_|refine jy ?_ ?_));all_goals rfl);(case ghs2=>(refine ym (q:=0) rfl (qd rfl) (qE rfl) (ji (q:=1) rfl (qd rfl) rfl (ym (q:=2) rfl (qd rfl) (qE rfl) qe)))));exact hT)
set_option maxHeartbeats 8000000 in
theorem qaF (R:AV) (s:qo) (hs:s.length ≤ 1000000000) (a:Nat) (ha:a ≤ s.length) (b:Bool) (e n:Int) (r:Bool) (t:List Ent) : ∃ (a' : Nat) (l:List Com) (b' : Bool),a' ≤ s.length ∧ vA Jr 10 ⟨s.drop a,b⟩ = (l,⟨s.drop a',b'⟩) ∧ (∀ x,x ∈ l → x.fit) ∧ l.length ≤ 10 ∧
  (Awp C 123 (tlW 10 jM) (Wl R) (Wm s (r7 e n r (.sl false (t.map Ent.row)) (.sl false (l.map Com.row))) a' b') → Awp C 123 (tlW 8 jM) (Wl R) (Wm s (r7 e n r (.sl false (t.map Ent.row)) (.sl true [])) a b)):=by
 obtain ⟨a1,m,b1,h1,e1,hm,c0⟩:=YI 10 (by decide) s hs a ha b
 obtain ⟨af,l,bf,ef,hf,hfit,hfl⟩:=Qq Jr Com.fit s (fun a b ha=>by
  obtain ⟨c,_,_,az,_,_,bz,e,h,f,_⟩:=VS s hs a ha b
  exact ⟨az,c,bz,e,h,f⟩) m a1 b1 h1
 refine ⟨af,l,bf,hf,?_,hfit,by omega,fun hT=>?_⟩
 ·unfold vA
  rw [e1]
  exact ef
 clear e1 hfit hfl
 rw [qbW]
 generalize tlW 10 jM = TT at *
 conv=>arg 3;arg 1;whnf
 conv=>arg 3;arg 2;arg 1;whnf
 repeat' (first|refine qi ?_|(first|(apply qc Tryd.func50 rfl rfl;intro hIsFn;refine qF 1 hIsFn (c0) rfl ?_))|((first|(apply qb;rfl;rfl;exact nle rfl)|(apply qa;rfl;rfl;exact nle rfl)|refine xsC ?_ ?_);all_goals (intro hc;have hp:=hc;try simp at hp;try (exfalso;omega)))|refine qS ?_ ?_)
 clear c0
 (refine Awp.red (qy (τ:=⟨[(0,.v (str s)),(2,.op 0 0 0),(4,.op 1 0 0),(5,.op 2 0 0),(6,.v (.int .i64 (m:Int))),(9,.v (.int .i64 ((0:Nat):Int)))],[(0,.own true 7 [z7]),(1,yI s a1 b1),(2,.own true 7 [r7 e n r (.sl false (t.map Ent.row)) (.sl true [])])],3⟩) [(0,0),(1,1),(2,2)] rfl ?gts2 ?ghs2) ?_;(case gts2=>(repeat (first|exact qh|refine qA ?_|refine jI ?_|refine jd ?_|refine jK ?_|refine je ?_ ?_|refine jy ?_ ?_));all_goals rfl);(case ghs2=>(refine ym (q:=0) rfl (qd rfl) (qE rfl) (ji (q:=1) rfl (qd rfl) rfl (ym (q:=2) rfl (qd rfl) (qE rfl) qe)))))
 refine Awp.red (Xu 2 4 3 rfl rfl (Nat.le_of_ble_eq_true rfl) (Nat.le_of_ble_eq_true rfl)) ?_
 (refine Awp.red (qy (τ:=⟨[(0,.v (str s)),(2,.op 0 0 0),(4,.op 1 0 0),(5,.op 2 0 0),(6,.v (.int .i64 (m:Int))),(9,.v (.int .i64 ((0:Nat):Int)))],[(0,.own true 7 [z7]),(1,yI s a1 b1),(2,.own true 7 [r7 e n r (.sl false (t.map Ent.row)) (.os 3 0 0)]),(3,.own false 3 (([]:List Com).map Com.row))],4⟩) [(0,0),(1,1),(2,2),(3,3)] rfl ?gts2 ?ghs2) ?_;(case gts2=>(repeat (first|exact qh|refine qA ?_|refine jI ?_|refine jd ?_|refine jK ?_|refine je ?_ ?_|refine jy ?_ ?_));all_goals rfl);(case ghs2=>(refine ym (q:=0) rfl (qd rfl) (qE rfl) (ji (q:=1) rfl (qd rfl) rfl (ym (q:=2) rfl (qd rfl) ?_ (zV (n:=3) rfl (qd rfl) rfl (fun row h=>by cases h) qe)));(repeat (first|exact qT|refine ql (qI rfl) ?_|refine ql (jn (qd rfl)) ?_)))))
 refine jC (fun k σ => ∃ (i ai:Nat) (bi:Bool) (li:List Com),i ≤ m ∧ k = m - i ∧ ai ≤ s.length ∧ xK Jr ⟨s.drop a1,b1⟩ i = (li,⟨s.drop ai,bi⟩) ∧ li.length = i ∧ σ = ⟨[(0,.v (str s)),(2,.op 0 0 0),(4,.op 1 0 0),(5,.op 2 0 0),(6,.v (.int .i64 (m:Int))),(9,.v (.int .i64 (i:Int)))],[(0,.own true 7 [z7]),(1,yI s ai bi),(2,.own true 7 [r7 e n r (.sl false (t.map Ent.row)) (.os 3 0 i)]),(3,.own false 3 (li.map Com.row))],4⟩) m ⟨0,a1,b1,[],Nat.zero_le _,rfl,h1,rfl,rfl,rfl⟩ ?_
 rintro k σ ⟨i,ai,bi,li,hi,rfl,hai,hrep,hli,rfl⟩
 have stop:(i = m ∨ bi = true) → l = li ∧ af = ai ∧ bf = bi:=by
  intro h
  refine Vt hf hai ?_
  rw [← ef]
  rcases h with rfl|rfl
  ·exact hrep
  ·exact wa hrep m hi
 by_cases hgo:i < m ∧ bi = false
 ·obtain ⟨hlt,rfl⟩:=hgo
  obtain ⟨c,p1,p2,az,d1,d2,bz,ec,hz,_,k1,k2,k3⟩:=VS s hs ai hai false
  have hrep':=Jd hrep rfl ec
  have hml:(li.map Com.row).length = i:=by rw [List.length_map];exact hli
  clear stop ef hrep ec hT
  repeat' (first|(first|(apply qZ;apply yo;(case hp=>rfl);(case hn=>rfl);(case hT=>(first|rfl|assumption|(apply qg;assumption)|(apply qg;apply qg;assumption)));(case hx=>(conv=>lhs;whnf));(case hc=>rfl);(case hl=>rfl);(case hs=>rfl);(case hj=>exact nle rfl);(case he=>(simp only [Nat.zero_add,Nat.reduceAdd,List.set_cons_zero,List.set_cons_succ]<;>exact rfl)))|(apply yw;apply (wk [.v (.int .i64 0),.v (str []),.sl true []]);(case hT=>rfl);(case hz=>rfl);(case hN=>exact nle rfl))|(refine ya ?_)|(apply qc Tryd.func33 rfl rfl;intro hIsFn;refine qF 1 hIsFn (k1) rfl ?_)|(apply qc Tryd.func34 rfl rfl;intro hIsFn;refine qF 1 hIsFn (k2) rfl ?_)|(apply qc Tryd.func35 rfl rfl;intro hIsFn;refine qF 1 hIsFn (k3) rfl ?_)|(refine zd ?_))|refine qi ?_|((first|(apply qb;rfl;rfl;exact nle rfl)|(apply qa;rfl;rfl;exact nle rfl)|refine xsC ?_ ?_);all_goals (intro hc;have hp:=hc;try simp at hp;try (exfalso;omega)))|refine qS ?_ ?_)
  all_goals try (exfalso;omega)
  all_goals (refine ⟨m - (i + 1),⟨[(0,.v (str s)),(2,.op 0 0 0),(4,.op 1 0 0),(5,.op 2 0 0),(6,.v (.int .i64 (m:Int))),(9,.v (.int .i64 ((i + 1:Nat):Int)))],[(0,.own true 7 [z7]),(1,yI s az bz),(2,.own true 7 [r7 e n r (.sl false (t.map Ent.row)) (.os 3 0 (i + 1))]),(3,.own false 3 ((li ++ [c]).map Com.row))],4⟩,by omega,?_,⟨i + 1,az,bz,li ++ [c],by omega,rfl,hz,hrep',by simp [hli],rfl⟩⟩;refine qy [(0,0),(1,1),(2,2),(5,3)] rfl ?gts ?ghs;(case gts=>(repeat (first|exact qh|refine qA ?_|refine jI ?_|refine jd ?_|refine jK ?_|refine je ?_ ?_|refine jy ?_ ?_));all_goals first|rfl|(simp;omega));(case ghs=>(refine ym (q:=0) rfl (qd rfl) (qE rfl) (ji (q:=1) rfl (qd rfl) rfl (ym (q:=2) rfl (qd rfl) ?_ (zV (n:=5) rfl (qd rfl) (by rw [List.take_of_length_le (Nat.le_of_eq hml),List.map_append];rfl) (vi _) qe)));(repeat (first|exact qT|refine ql (qI rfl) ?_|refine ql (jn (qd rfl)) ?_)))))
 ·have hgo:i = m ∨ bi = true:=by
   by_cases h:i < m
   ·exact .inr (by cases bi with|true=>rfl|false=>exact absurd ⟨h,rfl⟩ hgo)
   ·exact .inl (by omega)
  obtain ⟨rfl,rfl,rfl⟩:=stop hgo
  clear ef hrep stop
  refine Awp.red (xj 3 rfl (vi l)) ?_
  refine Awp.red (V4 2 4 3 rfl rfl rfl (by rw [List.length_map];omega)) ?_
  rcases hgo with hgo|hgo
  all_goals (repeat' (first|refine qi ?_|fail|((first|(apply qb;rfl;rfl;exact nle rfl)|(apply qa;rfl;rfl;exact nle rfl)|refine xsC ?_ ?_);all_goals (intro hc;have hp:=hc;try simp at hp;try (exfalso;omega)))|refine qS ?_ ?_))
  all_goals try (exfalso;first|omega|(simp_all;done))
  all_goals ((refine Awp.red (qy (τ:=⟨[(0,.v (str s)),(2,.op 0 0 0),(4,.op 1 0 0),(5,.op 2 0 0)],[(0,.own true 7 [z7]),(1,yI s af bf),(2,.own true 7 [r7 e n r (.sl false (t.map Ent.row)) (.sl false (l.map Com.row))])],3⟩) [(0,0),(1,1),(2,2)] rfl ?gts2 ?ghs2) ?_;(case gts2=>(repeat (first|exact qh|refine qA ?_|refine jI ?_|refine jd ?_|refine jK ?_|refine je ?_ ?_|refine jy ?_ ?_));all_goals rfl);(case ghs2=>(refine ym (q:=0) rfl (qd rfl) (qE rfl) (ji (q:=1) rfl (qd rfl) rfl (ym (q:=2) rfl (qd rfl) (qE rfl) qe)))));exact hT)
end Go.Proofs.YtahbbnfmbohmmaaDoor
set_option linter.unusedSimpArgs false
set_option linter.unnecessarySimpa false
set_option linter.unusedVariables false
set_option maxHeartbeats 1000000
namespace Go.Proofs.YtahbbnfmbohmmaaDoor
open Go.Ab Go.RowKit
set_option maxRecDepth 10000
attribute [local irreducible] Awp jU jl qQ Red qD Go.Ab.Fin qt Rz yZ qO qJ ResOk jt qU jN qG
theorem YV (a b:List Com) (hla:a.length ≤ 1000000000) (hlb:b.length ≤ 1000000000) (ha : ∀ x,x ∈ a → x.chs.length ≤ 1000000000) (hb : ∀ x,x ∈ b → x.chs.length ≤ 1000000000):zm C.P 65 [yh a,yh b] (.v (.bool (decide (a = b)))):=by
 have hma:(a.map Com.row).length = a.length:=List.length_map ..
 have hmb:(b.map Com.row).length = b.length:=List.length_map ..
 refine qf Tryd.func65 rfl _ Tryd.ntmps65 (Nat.le_of_ble_eq_true rfl) _ Tryd.results65 0 rfl rfl ?_
 repeat' (first|refine vF ?_|fail|((first|(apply qb;rfl;rfl;exact nle rfl)|(apply qa;rfl;rfl;exact nle rfl)|refine xsC ?_ ?_);all_goals (intro hc;have hp:=hc;try simp at hp;try (exfalso;omega)))|refine qS ?_ ?_)
 ·apply xa
  rfl
  have hne:¬ a = b:=fun e=>by subst e;simp at *
  simp [hne]
 have hab:a.length = b.length:=by simp at *;omega
 (refine Awp.red (xJ (ts:=[(0,yh a),(1,yh b),(5,.v (.int .i64 ((0:Nat):Int)))]) ?_) ?_;((repeat (first|exact qh|refine qA ?_|refine jy ?_ ?_))))
 refine jC (fun n σ => ∃ i:Nat,i ≤ a.length ∧ n = a.length - i ∧ (a.take i = b.take i) ∧ σ = ⟨[(0,yh a),(1,yh b),(5,.v (.int .i64 (i:Int)))],[],C.nh⟩) a.length ⟨0,Nat.zero_le _,rfl,rfl,rfl⟩ ?_
 rintro n σ ⟨i,hi,rfl,hsofar,rfl⟩
 by_cases hlt:i < a.length
 ·have hlt2:i < b.length:=by omega
  have hr:=yA (f:=Com.row) hlt
  have hr':=yA (f:=Com.row) hlt2
  have hnx:=wQ hlt hlt2 hsofar
  have hsc:=Jo a[i].chs b[i].chs (ha _ (List.getElem_mem _)) (hb _ (List.getElem_mem _))
  have hin:a[i] = b[i] ↔ a[i].num = b[i].num ∧ a[i].key = b[i].key ∧ a[i].chs = b[i].chs:=by
   obtain ⟨x1,x2,x3⟩:=a[i]
   obtain ⟨y1,y2,y3⟩:=b[i]
   simp
  have hne:¬ a[i] = b[i] → ¬ a = b:=fun h e=>h (by subst e;rfl)
  generalize hD:decide (a[i].chs = b[i].chs) = D at *
  repeat' (first|refine vF ?_|(first|refine xsF Tryd.func36 (hsc ..) ?_)|((first|(apply qb;rfl;rfl;exact nle rfl)|(apply qa;rfl;rfl;exact nle rfl)|refine xsC ?_ ?_);all_goals (intro hc;have hp:=hc;try simp at hp;try (exfalso;omega)))|refine qS ?_ ?_)
  all_goals try (exfalso;omega)
  all_goals first
   | (refine ⟨a.length - (i + 1),_,by omega,xJ (ts:=[(0,yh a),(1,yh b),(5,.v (.int .i64 ((i + 1:Nat):Int)))]) ?_,i + 1,by omega,rfl,(hnx (by rw [hin];simp_all)),rfl⟩;((repeat (first|exact qh|refine qA ?_|refine jy ?_ ?_))))
   | (apply xa;rfl;have hx:=hne (by rw [hin];simp_all);simp [hx])
 obtain rfl:i = a.length:=by omega
 have he:a = b:=by rw [List.take_length] at hsofar;rw [hsofar,hab,List.take_length]
 repeat' (first|refine vF ?_|fail|((first|(apply qb;rfl;rfl;exact nle rfl)|(apply qa;rfl;rfl;exact nle rfl)|refine xsC ?_ ?_);all_goals (intro hc;have hp:=hc;try simp at hp;try (exfalso;omega)))|refine qS ?_ ?_)
 all_goals try (exfalso;omega)
 apply xa
 rfl
 simp [he]
theorem XL (a:Pag) (h1:a.tree.length ≤ 1000000000) (h2:a.coms.length ≤ 1000000000) (h3 : ∀ x,x ∈ a.coms → x.chs.length ≤ 1000000000):zm C.P 51 [.agg a.row,.agg a.row] (.v (.bool true)):=by
 have g1:=Jp a.tree a.tree h1 h1
 have g2:=YV a.coms a.coms h2 h2 h3 h3
 rw [decide_eq_true rfl] at g1 g2
 have e0:decide (a.cur = a.cur) = true:=by simp
 refine qf Tryd.func51 rfl _ Tryd.ntmps51 (Nat.le_of_ble_eq_true rfl) _ Tryd.results51 0 rfl rfl ?_
 repeat' (first|refine vF ?_|(first|refine xsF Tryd.func64 (g1 ..) ?_|refine xsF Tryd.func65 (g2 ..) ?_|(refine qbr ?_))|((first|(apply qb;rfl;rfl;exact nle rfl)|(apply qa;rfl;rfl;exact nle rfl)|refine xsC ?_ ?_);all_goals (intro hc;have hp:=hc;try simp at hp;try (exfalso;omega)))|refine qS ?_ ?_)
 all_goals try (exfalso;first|omega|contradiction|(simp_all;done))
 all_goals (apply xa;rfl;first|rfl|(simp_all;done)|(simp_all;cases a.more<;>rfl)|(cases a.more<;>rfl)|(simp;done))
theorem XK (a:Ans) (h:a.fit):zm C.P 19 [.agg a.row,.agg a.row] (.v (.bool true)):=by
 have h1:=XL a.page h.tlen h.clen (fun x hx=>(h.coms x hx).len)
 have e0:decide (a.err = a.err) = true:=by simp
 have e1:decide (a.num = a.num) = true:=by simp
 unfold Pag.row at h1
 refine qf Tryd.func19 rfl _ Tryd.ntmps19 (Nat.le_of_ble_eq_true rfl) _ Tryd.results19 0 rfl rfl ?_
 repeat' (first|refine vF ?_|(first|refine xsF Tryd.func51 (h1 ..) ?_)|((first|(apply qb;rfl;rfl;exact nle rfl)|(apply qa;rfl;rfl;exact nle rfl)|refine xsC ?_ ?_);all_goals (intro hc;have hp:=hc;try simp at hp;try (exfalso;omega)))|refine qS ?_ ?_)
 all_goals try (exfalso;first|omega|contradiction)
 (refine j1 (rs:=[.tmp 4]) ?_;(repeat' (first|exact jv|apply jh|exact jg rfl|exact yl|exact xA|apply jQ|apply jX|apply jR|apply jV|apply jB|apply jW|refine xz ?_|apply yv));all_goals rfl)
set_option maxHeartbeats 8000000 in
theorem qbe (R:AV) (s:qo) (q:Ans) (hq:q.fit) (a az:Nat) (b bz:Bool) (a6:Nat) (b6:Bool) (hcm:q.page.cur = q.page.cur)
  (haz:az ≤ s.length) (hs:s.length ≤ 1000000000) (hR:R = if bz = true ∨ az ≠ s.length ∨ (xL q).2 ≠ 0 then .tup [.agg noAns.row,.v (.int .i64 1)] else .tup [.agg q.row,.v (.int .i64 0)])
  (c6:qt C1.P 33 [.op 0 0 0] [yI s a b] (.v (.int .i64 q.page.cur)) [yI s a6 b6]) (cz:qt C1.P 49 [.op 0 0 0] [yI s a6 b6] (.v (.bool q.page.more)) [yI s az bz]) :
  Awp C 123 (tlW 10 jM) (Wl R) (Wm s (r7 q.err q.num q.page.reset (.sl false (q.page.tree.map Ent.row)) (.sl false (q.page.coms.map Com.row))) a b):=by
 have ca:=Kf q hq
 clear hq hcm
 generalize (xL q).1 = T at *
 generalize (xL q).2 = ee at *
 obtain ⟨q1,q2,q3,q4,q5,q6,q7⟩:=q
 unfold Ans.row yf yh at ca hR
 unfold noAns JK at hR
 dsimp only [List.map_nil] at *
 conv=>arg 3;whnf
 repeat' (first|(first|(apply qZ;apply yo;(case hp=>rfl);(case hn=>rfl);(case hT=>(first|rfl|assumption|(apply qg;assumption)|(apply qg;apply qg;assumption)));(case hx=>(conv=>lhs;whnf));(case hc=>rfl);(case hl=>rfl);(case hs=>rfl);(case hj=>exact nle rfl);(case he=>(simp only [Nat.zero_add,Nat.reduceAdd,List.set_cons_zero,List.set_cons_succ]<;>exact rfl)))|(apply qZ;apply yU;(case hp=>rfl);(case hn=>rfl);(case hT=>(first|rfl|assumption|(apply qg;assumption)|(apply qg;apply qg;assumption)));(case hx=>rfl);(case hc=>rfl);(case hs=>rfl);(case hl=>rfl))|(apply qp;apply (yr (T:=40) (cs:=z7));rfl;rfl;rfl;kernel_rfl;exact nle rfl)|(apply qc Tryd.func33 rfl rfl;intro hIsFn;refine qF 1 hIsFn (c6) rfl ?_)|(apply qc Tryd.func49 rfl rfl;intro hIsFn;refine qF 1 hIsFn (cz) rfl ?_)|refine xsF Tryd.func16 (ca ..) ?_)|refine qi ?_|((first|(apply qb;rfl;rfl;exact nle rfl)|(apply qa;rfl;rfl;exact nle rfl)|refine xsC ?_ ?_);all_goals (intro hc;have hp:=hc;try simp at hp;try (exfalso;omega)))|refine qS ?_ ?_)
 all_goals try (exfalso;omega)
 all_goals first
  | (rw [if_pos (by first|exact .inl (by assumption)|exact .inr (.inl (by omega))|exact .inr (.inr (by omega)))] at hR;subst hR;(refine j1 (rs:=[.cell 2 40,.tmp 3]) ?_;(repeat' (first|exact jv|apply jh|exact jg rfl|exact yl|exact xA|apply jQ|apply jX|apply jR|apply jV|apply jB|apply jW|refine xz ?_|apply yv));all_goals rfl);done)
  | (rw [if_neg (by rintro (h|h|h)<;>first|omega|(exact absurd (by assumption) (fun h'=>by rw [h'] at h;exact absurd h Bool.false_ne_true))|(simp_all;done))] at hR;subst hR;(refine j1 (rs:=[.cell 2 40,.tmp 3]) ?_;(repeat' (first|exact jv|apply jh|exact jg rfl|exact yl|exact xA|apply jQ|apply jX|apply jR|apply jV|apply jB|apply jW|refine xz ?_|apply yv));all_goals rfl);done)
set_option maxHeartbeats 8000000 in
theorem Kg (s:qo) (hs:s.length ≤ 1000000000):zm C.P 18 [.v (str s)] (.tup [.agg (zl s).1.row,.v (.int .i64 (zl s).2)]):=by
 rw [← Z3]
 generalize hR:(AV.tup [.agg (XF s).1.row,.v (.int .i64 (XF s).2)]) = R
 obtain ⟨a1,v1,b1,h1,e1,f1,c1⟩:=xe s hs 0 (Nat.zero_le _) false
 obtain ⟨a2,v2,b2,h2,e2,f2,c2⟩:=xe s hs a1 h1 b1
 obtain ⟨a3,v3,b3,h3,e3,c3⟩:=Wh s hs a2 h2 b2
 obtain ⟨a4,v4,b4,h4,e4,f4,g4,w4⟩:=qaG R s hs a3 h3 b3 v1 v2 v3
 obtain ⟨a5,v5,b5,h5,e5,f5,g5,w5⟩:=qaF R s hs a4 h4 b4 v1 v2 v3 v4
 obtain ⟨a6,v6,b6,h6,e6,f6,c6⟩:=xe s hs a5 h5 b5
 obtain ⟨az,v7,bz,hz,ez,cz⟩:=Wh s hs a6 h6 b6
 have er:Qb ⟨s,false⟩ = (⟨v1,v2,⟨v3,v4,v5,v6,v7⟩⟩,⟨s.drop az,bz⟩):=by
  rw [List.drop_zero] at e1
  unfold Qb
  simp only [e1,e2,e3,e4,e5,e6,ez]
 have hfit:(Ans.mk v1 v2 ⟨v3,v4,v5,v6,v7⟩).fit:=⟨f1,f2,f4,by dsimp only;omega,f5,by dsimp only;omega,f6⟩
 have hx:R = if bz = true ∨ az ≠ s.length ∨ (xL ⟨v1,v2,⟨v3,v4,v5,v6,v7⟩⟩).2 ≠ 0 then .tup [.agg noAns.row,.v (.int .i64 1)] else .tup [.agg (Ans.mk v1 v2 ⟨v3,v4,v5,v6,v7⟩).row,.v (.int .i64 0)]:=by
  rw [← hR]
  unfold XF
  rw [er,z6]
  have:(s.drop az ≠ []) ↔ az ≠ s.length:=by
   rw [ne_eq,List.drop_eq_nil_iff]
   omega
  simp only [this]
  split<;>rfl
 have t3:=w4 (w5 (qbe R s ⟨v1,v2,⟨v3,v4,v5,v6,v7⟩⟩ hfit a5 az b5 bz a6 b6 rfl hz hs hx c6 cz))
 clear hx er e1 e2 e3 e4 e5 e6 ez hR w4 w5 hfit f4 f5 c6 cz
 refine qf Tryd.func18 rfl _ Tryd.ntmps18 (Nat.le_of_ble_eq_true rfl) _ Tryd.results18 0 rfl rfl ?_
 change Awp C 123 jM _ _
 rw [qbU]
 generalize tlW 6 jM = TT at *
 conv=>arg 3;arg 1;whnf
 conv=>arg 3;arg 2;arg 1;whnf
 conv=>arg 3;arg 2;arg 2;arg 1;whnf
 conv=>arg 3;arg 2;arg 2;arg 2;arg 1;whnf
 conv=>arg 3;arg 2;arg 2;arg 2;arg 2;arg 1;whnf
 conv=>arg 3;arg 2;arg 2;arg 2;arg 2;arg 2;arg 1;whnf
 repeat' (first|(first|(apply qZ;apply yo;(case hp=>rfl);(case hn=>rfl);(case hT=>(first|rfl|assumption|(apply qg;assumption)|(apply qg;apply qg;assumption)));(case hx=>(conv=>lhs;whnf));(case hc=>rfl);(case hl=>rfl);(case hs=>rfl);(case hj=>exact nle rfl);(case he=>(simp only [Nat.zero_add,Nat.reduceAdd,List.set_cons_zero,List.set_cons_succ]<;>exact rfl)))|(apply yw;apply (wk z7);(case hT=>rfl);(case hz=>rfl);(case hN=>exact nle rfl))|(apply qc Tryd.func33 rfl rfl;intro hIsFn;refine qF 1 hIsFn (c1) rfl ?_)|(apply qc Tryd.func33 rfl rfl;intro hIsFn;refine qF 1 hIsFn (c2) rfl ?_)|(apply qc Tryd.func49 rfl rfl;intro hIsFn;refine qF 1 hIsFn (c3) rfl ?_))|refine qi ?_|((first|(apply qb;rfl;rfl;exact nle rfl)|(apply qa;rfl;rfl;exact nle rfl)|refine xsC ?_ ?_);all_goals (intro hc;have hp:=hc;try simp at hp;try (exfalso;omega)))|refine qS ?_ ?_)
 all_goals try (exfalso;omega)
 all_goals ((refine Awp.red (qy (τ:=⟨[(0,.v (str s)),(2,.op 0 0 0),(4,.op 1 0 0),(5,.op 2 0 0)],[(0,.own true 7 [z7]),(1,yI s a3 b3),(2,.own true 7 [r7 v1 v2 v3 (.sl true []) (.sl true [])])],3⟩) [(0,0),(1,1),(2,2)] rfl ?gts2 ?ghs2) ?_;(case gts2=>(repeat (first|exact qh|refine qA ?_|refine jI ?_|refine jd ?_|refine jK ?_|refine je ?_ ?_|refine jy ?_ ?_));all_goals rfl);(case ghs2=>(refine ym (q:=0) rfl (qd rfl) (qE rfl) (ji (q:=1) rfl (qd rfl) rfl (ym (q:=2) rfl (qd rfl) (qE rfl) qe)))));exact t3)
theorem X1 (s:qo) (hs:s.length ≤ 1000000000):zm C.P 6 [.v (str s)] (.v (.bool true)):=by
 have c1:=qaB s hs
 have c2:=Kg s hs
 have c3:=Kh
 have hl:=Z2 s hs
 generalize zl s = p at *
 obtain ⟨q,e⟩:=p
 dsimp only at *
 have c4:=XK q hl
 unfold Ans.row yf yh at *
 refine qf Tryd.func6 rfl _ Tryd.ntmps6 (Nat.le_of_ble_eq_true rfl) _ Tryd.results6 0 rfl rfl ?_
 repeat' (first|refine qi ?_|(first|refine xsQ Tryd.func17 (c1 ..) ?_|refine xsQ Tryd.func18 (c2 ..) ?_|refine xsF Tryd.func10 (c3 ..) ?_|refine xsF Tryd.func19 (c4 ..) ?_)|((first|(apply qb;rfl;rfl;exact nle rfl)|(apply qa;rfl;rfl;exact nle rfl)|refine xsC ?_ ?_);all_goals (intro hc;have hp:=hc;try simp at hp;try (exfalso;omega)))|refine qS ?_ ?_)
 all_goals ((refine j1 (rs:=[.tmp 2]) ?_;(repeat' (first|exact jv|apply jh|exact jg rfl|exact yl|exact xA|apply jQ|apply jX|apply jR|apply jV|apply jB|apply jW|refine xz ?_|apply yv));all_goals rfl))
theorem QV (ys:List AV) (h:JZ C.tab 1000000000 [9] ys):zm C.P 6 ys (.v (.bool true)):=by
 obtain ⟨_,_,rfl,h0,rfl⟩:=h
 obtain ⟨a,rfl,ha⟩:=qaj h0
 exact X1 a ha
end Go.Proofs.YtahbbnfmbohmmaaDoor
