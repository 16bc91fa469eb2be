import Derived.Test.YtahbbnfmbohmmaaDoorMz25
import Derived.Test.YtahbbnfmbohmmaaDoorMz13
set_option linter.unusedSimpArgs false
set_option linter.unnecessarySimpa false
set_option linter.unusedVariables false
set_option maxHeartbeats 1000000
namespace Go.Proofs.YtahbbnfmbohmmaaDoor
open Go.Ab Go.RowKit
set_option maxRecDepth 10000
attribute [local irreducible] Awp jE qX qG Red qx Go.Ab.Fin qp Rz yI qE qB ResOk je qJ jx qy
theorem K8:jA = .seq (KA (tlW 0 jA)) (.seq (KA (tlW 1 jA)) (.seq (KA (tlW 2 jA)) (.seq (KA (tlW 3 jA)) (.seq (KA (tlW 4 jA)) (tlW 5 jA))))):=by kernel_rfl
theorem ZD (s:qh) (a:Nat) (b:Bool) (E:Nat) (hE:E ≤ s.length) (v:Int):(xf s a b E v).2.1 ≤ s.length ∧ ((xf s a b E v).1 = 0 ∨ (xf s a b E v).1 = v):=by
 unfold xf
 split
 ·exact ⟨hE,.inl rfl⟩
 ·rename_i h
  refine ⟨?_,.inr rfl⟩
  simp only [not_or,Decidable.not_not] at h
  have:=(List.getElem?_eq_some_iff.1 h.2.1).1
  exact this
set_option maxHeartbeats 4000000 in
theorem KF (s:qh) (hs:s.length ≤ 1000000000) (a E N:Nat) (b neg:Bool) (hneg:Yy (s.drop a) = neg) (ha:a ≤ s.length) (hl:a + yB (s.drop a) ≤ E) (hE:E ≤ s.length) (hd:yv (s.drop (a + yB (s.drop a))) 0 = (N,E - (a + yB (s.drop a)))) :
  qp C1.P 33 [.op 0 0 0] [xT s a b] (.v (.int .i64 (xf s a b E (if neg = true then -(N:Int) else (N:Int))).1)) [xT s (xf s a b E (if neg = true then -(N:Int) else (N:Int))).2.1 (xf s a b E (if neg = true then -(N:Int) else (N:Int))).2.2]:=by
 have hlp:=KG s hs a (a + yB (s.drop a)) E N (by omega) hl hE b neg hd
 generalize hV:(if neg = true then -(N:Int) else (N:Int)) = V at *
 clear hV hd
 refine qe (C:=C1) Tryd.func33 rfl _ Tryd.ntmps33 (Nat.le_of_ble_eq_true rfl) _ Tryd.results33 1 rfl rfl ?_
 change Awp C1 156 jA _ _
 rw [K8]
 generalize tlW 5 jA = T at *
 conv=>arg 3;arg 1;whnf
 conv=>arg 3;arg 2;arg 1;whnf
 conv=>arg 3;arg 2;arg 2;arg 1;whnf
 conv=>arg 3;arg 2;arg 2;arg 2;arg 1;whnf
 conv=>arg 3;arg 2;arg 2;arg 2;arg 2;arg 1;whnf
 by_cases haL:a < s.length
 ·have hgc:s[a]? = some s[a]:=List.getElem?_eq_getElem haL
  have hnc:Yy (s.drop a) = decide (s[a] = 45):=by rw [List.drop_eq_getElem_cons haL];rfl
  rw [hneg] at hnc
  generalize s[a] = c at *
  cases neg with
  | true =>
    have hc:c.toNat = 45:=by
     have:=of_decide_eq_true hnc.symm
     rw [this];rfl
    have hk:yB (s.drop a) = 1:=by unfold yB;rw [hneg,if_pos rfl]
    rw [hk] at hlp
    clear hnc hk hl hneg
    repeat' (first|refine qm ?_|(first|(apply qo;apply ju (i:=a);(case hx=>rfl);(case hy=>exact xe (by omega));(case hT=>rfl);(case he=>rfl);(case hc=>exact hgc);(case hN=>exact nle rfl)))|((first|(apply qb;rfl;rfl;exact nle rfl)|(apply qa;rfl;rfl;exact nle rfl)|refine xsC ?_ ?_);all_goals (intro hc;have hp:=hc;try simp at hp;try (exfalso;omega)))|refine jl ?_ ?_)
    all_goals try (exfalso;omega)
    all_goals ((refine Awp.red (qH (τ:=⟨[(0,.op 0 0 0),(3,.v (.int .i64 (a:Int))),(4,.v (.bool true)),(5,.v (.int .i64 ((0:Nat):Int)))],[(0,xT s (a + 1) b)],1⟩) [] rfl ?gts2 ?ghs2) ?_;(case gts2=>(repeat (first|exact qt|refine qV ?_|refine yh ?_|refine jG ?_|refine yn ?_|refine jH ?_ ?_|refine j8 ?_ ?_));all_goals first|rfl|exact congrArg (fun b=>AV.v (Value.bool b)) (by simp;omega));(case ghs2=>(refine jn (q:=0) rfl (qf rfl) rfl qg)));exact hlp)
  | false =>
    have hc:c.toNat ≠ 45:=by
     have:=of_decide_eq_false hnc.symm
     exact fun h=>this (UInt8.toNat_inj.1 h)
    have hk:yB (s.drop a) = 0:=by unfold yB;rw [hneg,if_neg (by decide)]
    rw [hk] at hlp
    clear hnc hk hl hneg
    repeat' (first|refine qm ?_|(first|(apply qo;apply ju (i:=a);(case hx=>rfl);(case hy=>exact xe (by omega));(case hT=>rfl);(case he=>rfl);(case hc=>exact hgc);(case hN=>exact nle rfl)))|((first|(apply qb;rfl;rfl;exact nle rfl)|(apply qa;rfl;rfl;exact nle rfl)|refine xsC ?_ ?_);all_goals (intro hc;have hp:=hc;try simp at hp;try (exfalso;omega)))|refine jl ?_ ?_)
    all_goals try (exfalso;omega)
    all_goals ((refine Awp.red (qH (τ:=⟨[(0,.op 0 0 0),(3,.v (.int .i64 (a:Int))),(4,.v (.bool false)),(5,.v (.int .i64 ((0:Nat):Int)))],[(0,xT s (a + 0) b)],1⟩) [] rfl ?gts2 ?ghs2) ?_;(case gts2=>(repeat (first|exact qt|refine qV ?_|refine yh ?_|refine jG ?_|refine yn ?_|refine jH ?_ ?_|refine j8 ?_ ?_));all_goals first|rfl|exact congrArg (fun b=>AV.v (Value.bool b)) (by simp;omega));(case ghs2=>(refine jn (q:=0) rfl (qf rfl) rfl qg)));exact hlp)
 ·have hnil:s.drop a = []:=List.drop_eq_nil_of_le (by omega)
  rw [hnil] at hneg hlp
  obtain rfl:false = neg:=hneg
  change Awp C1 156 T _ ⟨[(0,.op 0 0 0),(3,.v (.int .i64 (a:Int))),(4,.v (.bool false)),(5,.v (.int .i64 ((0:Nat):Int)))],[(0,xT s (a + 0) b)],1⟩ at hlp
  clear hnil hl
  repeat' (first|refine qm ?_|fail|((first|(apply qb;rfl;rfl;exact nle rfl)|(apply qa;rfl;rfl;exact nle rfl)|refine xsC ?_ ?_);all_goals (intro hc;have hp:=hc;try simp at hp;try (exfalso;omega)))|refine jl ?_ ?_)
  all_goals try (exfalso;omega)
  all_goals ((refine Awp.red (qH (τ:=⟨[(0,.op 0 0 0),(3,.v (.int .i64 (a:Int))),(4,.v (.bool false)),(5,.v (.int .i64 ((0:Nat):Int)))],[(0,xT s (a + 0) b)],1⟩) [] rfl ?gts2 ?ghs2) ?_;(case gts2=>(repeat (first|exact qt|refine qV ?_|refine yh ?_|refine jG ?_|refine yn ?_|refine jH ?_ ?_|refine j8 ?_ ?_));all_goals first|rfl|exact congrArg (fun b=>AV.v (Value.bool b)) (by simp;omega));(case ghs2=>(refine jn (q:=0) rfl (qf rfl) rfl qg)));exact hlp)
theorem xa (s:qh) (hs:s.length ≤ 1000000000) (a:Nat) (ha:a ≤ s.length) (b:Bool) : ∃ (a' : Nat) (v:Int) (b' : Bool),a' ≤ s.length ∧ yQ ⟨s.drop a,b⟩ = (v,⟨s.drop a',b'⟩) ∧ xN v ∧ qp C1.P 33 [.op 0 0 0] [xT s a b] (.v (.int .i64 v)) [xT s a' b']:=by
 have hk:a + yB (s.drop a) ≤ s.length:=by
  unfold yB
  by_cases h:a < s.length
  ·split<;>omega
  ·rw [List.drop_eq_nil_of_le (by omega)]
   exact ha
 have hdd:(s.drop a).drop (yB (s.drop a)) = s.drop (a + yB (s.drop a)):=List.drop_drop
 have hdl:=JC (s.drop (a + yB (s.drop a))) 0
 rw [List.length_drop] at hdl
 have hb:=zc (s.drop (a + yB (s.drop a))) 0 (by decide)
 have eL:vy (s.drop a) = yB (s.drop a) + (yv (s.drop (a + yB (s.drop a))) 0).2:=by unfold vy;rw [hdd]
 have eV:zI (s.drop a) = if Yy (s.drop a) = true then -((yv (s.drop (a + yB (s.drop a))) 0).1:Int) else ((yv (s.drop (a + yB (s.drop a))) 0).1:Int):=by unfold zI;rw [hdd]
 have hh:=KF s hs a (a + vy (s.drop a)) (yv (s.drop (a + yB (s.drop a))) 0).1 b _ rfl ha (by omega) (by omega) (Prod.ext rfl (by show (yv _ _).2 = _;omega))
 rw [← eV] at hh
 have h2:=ZD s a b (a + vy (s.drop a)) (by omega) (zI (s.drop a))
 refine ⟨_,_,_,h2.1,V0 s a b,?_,hh⟩
 rcases h2.2 with h|h
 ·rw [h];exact ⟨by decide,by decide⟩
 ·rw [h,eV]
  constructor<;>split<;>omega
set_option maxHeartbeats 1000000 in
theorem vX (s:qh) (hs:s.length ≤ 1000000000) (a:Nat) (ha:a ≤ s.length) (b:Bool) : ∃ (a' : Nat) (v:qh) (b' : Bool),a' ≤ s.length ∧ zH ⟨s.drop a,b⟩ = (v,⟨s.drop a',b'⟩) ∧ v.length ≤ 1000000000 ∧ qp C1.P 34 [.op 0 0 0] [xT s a b] (.v (str v)) [xT s a' b']:=by
 obtain ⟨a1,n,b1,h1,e1,hI,c1⟩:=xa s hs a ha b
 by_cases hbad:b1 = true ∨ n < 0 ∨ ((s.length - a1:Nat):Int) < n
 ·refine ⟨a1,[],true,h1,?_,by decide,?_⟩
  ·unfold zH
   rw [e1]
   simp only [List.length_drop]
   rw [if_pos hbad]
  ·clear e1
   refine qe (C:=C1) Tryd.func34 rfl _ Tryd.ntmps34 (Nat.le_of_ble_eq_true rfl) _ Tryd.results34 1 rfl rfl ?_
   cases b1 with
   | true =>
     clear hbad
     repeat' (first|refine qm ?_|(first|(apply qc Tryd.func33 rfl rfl;intro hIsFn;refine qD 0 hIsFn (c1) rfl ?_))|((first|(apply qb;rfl;rfl;exact nle rfl)|(apply qa;rfl;rfl;exact nle rfl)|refine xsC ?_ ?_);all_goals (intro hc;have hp:=hc;try simp at hp;try (exfalso;omega)))|refine jl ?_ ?_)
     all_goals try (exfalso;omega)
     all_goals ((apply qu (rs:=[.tmp 2]) [] 1;(case hr=>(repeat (first|exact qk|(apply ql;rfl)|(apply qi;rfl;rfl;rfl;rfl;rfl))));(case hL=>rfl);(case hh=>(refine jn (q:=0) rfl (qf rfl) rfl qg));(case hi=>exact rfl);(case hz=>first|rfl|(simp [jt,AV.ren,AV.ren.renL,qQ,qj,qK];done))))
   | false =>
     have hbad:n < 0 ∨ ((s.length - a1:Nat):Int) < n:=by
      rcases hbad with h|h|h
      ·cases h
      ·exact .inl h
      ·exact .inr h
     repeat' (first|refine qm ?_|(first|(apply qc Tryd.func33 rfl rfl;intro hIsFn;refine qD 0 hIsFn (c1) rfl ?_))|((first|(apply qb;rfl;rfl;exact nle rfl)|(apply qa;rfl;rfl;exact nle rfl)|refine xsC ?_ ?_);all_goals (intro hc;have hp:=hc;try simp at hp;try (exfalso;omega)))|refine jl ?_ ?_)
     all_goals try (exfalso;omega)
     all_goals ((apply qu (rs:=[.tmp 2]) [] 1;(case hr=>(repeat (first|exact qk|(apply ql;rfl)|(apply qi;rfl;rfl;rfl;rfl;rfl))));(case hL=>rfl);(case hh=>(refine jn (q:=0) rfl (qf rfl) rfl qg));(case hi=>exact rfl);(case hz=>first|rfl|(simp [jt,AV.ren,AV.ren.renL,qQ,qj,qK];done))))
 ·simp only [not_or] at hbad
  obtain ⟨hb1,hn0,hnl⟩:=hbad
  obtain rfl:b1 = false:=by simpa using hb1
  obtain ⟨k,rfl⟩ : ∃ k:Nat,n = (k:Int):=⟨n.toNat,by omega⟩
  refine ⟨a1 + k,(s.take (a1 + k)).drop a1,false,by omega,?_,?_,?_⟩
  ·unfold zH
   rw [e1]
   simp only [List.length_drop]
   rw [if_neg (by simp;omega)]
   rw [List.drop_drop,List.drop_take,Int.toNat_natCast]
   congr 2
   omega
  ·simp only [List.length_drop,List.length_take];omega
  ·clear e1
   refine qe (C:=C1) Tryd.func34 rfl _ Tryd.ntmps34 (Nat.le_of_ble_eq_true rfl) _ Tryd.results34 1 rfl rfl ?_
   repeat' (first|refine qm ?_|(first|(apply qc Tryd.func33 rfl rfl;intro hIsFn;refine qD 0 hIsFn (c1) rfl ?_)|(apply qo;apply xn (a:=a1) (b:=a1 + k);(case hx=>rfl);(case hT=>rfl);(case he=>rfl);(case ha=>(exact ⟨_,xe (by omega)⟩));(case hb=>(exact ⟨_,xe (by omega)⟩));(case hab=>(first|omega|(simp;done)|(simp only [List.length_cons,List.length_nil,List.length_map];omega)|(simp;omega)));(case hbl=>omega);(case hN=>exact nle rfl)))|((first|(apply qb;rfl;rfl;exact nle rfl)|(apply qa;rfl;rfl;exact nle rfl)|refine xsC ?_ ?_);all_goals (intro hc;have hp:=hc;try simp at hp;try (exfalso;omega)))|refine jl ?_ ?_)
   all_goals try (exfalso;omega)
   all_goals ((apply qu (rs:=[.tmp 2]) [] 1;(case hr=>(repeat (first|exact qk|(apply ql;rfl)|(apply qi;rfl;rfl;rfl;rfl;rfl))));(case hL=>rfl);(case hh=>(refine jn (q:=0) rfl (qf rfl) rfl qg));(case hi=>exact rfl);(case hz=>first|rfl|(simp [jt,AV.ren,AV.ren.renL,qQ,qj,qK];done))))
set_option maxHeartbeats 1000000 in
theorem Z2 (M:Nat) (hM:M ≤ 1000) (s:qh) (hs:s.length ≤ 1000000000) (a:Nat) (ha:a ≤ s.length) (b:Bool) : ∃ (a' m:Nat) (b' : Bool),a' ≤ s.length ∧ Qn M ⟨s.drop a,b⟩ = ((m:Int),⟨s.drop a',b'⟩) ∧ m ≤ M ∧ qp C1.P 50 [.op 0 0 0,.v (.int .i64 (M:Int))] [xT s a b] (.v (.int .i64 (m:Int))) [xT s a' b']:=by
 obtain ⟨a1,n,b1,h1,e1,hI,c1⟩:=xa s hs a ha b
 by_cases hbad:b1 = true ∨ n < 0 ∨ (M:Int) < n
 ·refine ⟨a1,0,true,h1,?_,Nat.zero_le _,?_⟩
  ·unfold Qn
   rw [e1]
   simp only
   rw [if_pos hbad]
   rfl
  ·clear e1
   refine qe (C:=C1) Tryd.func50 rfl _ Tryd.ntmps50 (Nat.le_of_ble_eq_true rfl) _ Tryd.results50 1 rfl rfl ?_
   cases b1 with
   | true =>
     clear hbad
     repeat' (first|refine qm ?_|(first|(apply qc Tryd.func33 rfl rfl;intro hIsFn;refine qD 0 hIsFn (c1) rfl ?_))|((first|(apply qb;rfl;rfl;exact nle rfl)|(apply qa;rfl;rfl;exact nle rfl)|refine xsC ?_ ?_);all_goals (intro hc;have hp:=hc;try simp at hp;try (exfalso;omega)))|refine jl ?_ ?_)
     all_goals try (exfalso;omega)
     all_goals ((apply qu (rs:=[.tmp 4]) [] 1;(case hr=>(repeat (first|exact qk|(apply ql;rfl)|(apply qi;rfl;rfl;rfl;rfl;rfl))));(case hL=>rfl);(case hh=>(refine jn (q:=0) rfl (qf rfl) rfl qg));(case hi=>exact rfl);(case hz=>first|rfl|(simp [jt,AV.ren,AV.ren.renL,qQ,qj,qK];done))))
   | false =>
     have hbad:n < 0 ∨ (M:Int) < n:=by
      rcases hbad with h|h|h
      ·cases h
      ·exact .inl h
      ·exact .inr h
     repeat' (first|refine qm ?_|(first|(apply qc Tryd.func33 rfl rfl;intro hIsFn;refine qD 0 hIsFn (c1) rfl ?_))|((first|(apply qb;rfl;rfl;exact nle rfl)|(apply qa;rfl;rfl;exact nle rfl)|refine xsC ?_ ?_);all_goals (intro hc;have hp:=hc;try simp at hp;try (exfalso;omega)))|refine jl ?_ ?_)
     all_goals try (exfalso;omega)
     all_goals ((apply qu (rs:=[.tmp 4]) [] 1;(case hr=>(repeat (first|exact qk|(apply ql;rfl)|(apply qi;rfl;rfl;rfl;rfl;rfl))));(case hL=>rfl);(case hh=>(refine jn (q:=0) rfl (qf rfl) rfl qg));(case hi=>exact rfl);(case hz=>first|rfl|(simp [jt,AV.ren,AV.ren.renL,qQ,qj,qK];done))))
 ·have hbad':=hbad
  simp only [not_or] at hbad
  obtain ⟨hb1,hn0,hnl⟩:=hbad
  obtain rfl:b1 = false:=by simpa using hb1
  obtain ⟨k,rfl⟩ : ∃ k:Nat,n = (k:Int):=⟨n.toNat,by omega⟩
  refine ⟨a1,k,false,h1,?_,by omega,?_⟩
  ·unfold Qn
   rw [e1]
   simp only
   rw [if_neg hbad']
  ·clear e1 hbad'
   refine qe (C:=C1) Tryd.func50 rfl _ Tryd.ntmps50 (Nat.le_of_ble_eq_true rfl) _ Tryd.results50 1 rfl rfl ?_
   repeat' (first|refine qm ?_|(first|(apply qc Tryd.func33 rfl rfl;intro hIsFn;refine qD 0 hIsFn (c1) rfl ?_))|((first|(apply qb;rfl;rfl;exact nle rfl)|(apply qa;rfl;rfl;exact nle rfl)|refine xsC ?_ ?_);all_goals (intro hc;have hp:=hc;try simp at hp;try (exfalso;omega)))|refine jl ?_ ?_)
   all_goals try (exfalso;omega)
   all_goals ((apply qu (rs:=[.tmp 4]) [] 1;(case hr=>(repeat (first|exact qk|(apply ql;rfl)|(apply qi;rfl;rfl;rfl;rfl;rfl))));(case hL=>rfl);(case hh=>(refine jn (q:=0) rfl (qf rfl) rfl qg));(case hi=>exact rfl);(case hz=>first|rfl|(simp [jt,AV.ren,AV.ren.renL,qQ,qj,qK];done))))
end Go.Proofs.YtahbbnfmbohmmaaDoor
set_option linter.unusedSimpArgs false
set_option linter.unnecessarySimpa false
set_option linter.unusedVariables false
set_option maxHeartbeats 1000000
namespace Go.Proofs.YtahbbnfmbohmmaaDoor
open Go.Ab Go.RowKit
set_option maxRecDepth 10000
theorem Xq {α:Type} (q:SC → α × SC) (fit:α → Prop) (s:qh) (h : ∀ a b,a ≤ s.length → ∃ a' x b',q ⟨s.drop a,b⟩ = (x,⟨s.drop a',b'⟩) ∧ a' ≤ s.length ∧ fit x) : ∀ (i a:Nat) (b:Bool),a ≤ s.length → ∃ a' l b',xq q ⟨s.drop a,b⟩ i = (l,⟨s.drop a',b'⟩) ∧ a' ≤ s.length ∧ (∀ x,x ∈ l → fit x) ∧ l.length ≤ i
 | 0,a,b,ha=>⟨a,[],b,rfl,ha,(fun x hx=>by cases hx),Nat.le_refl _⟩
 | i + 1,a,b,ha=>by
   obtain ⟨a1,l,b1,e,h1,h2,h3⟩:=Xq q fit s h i a b ha
   unfold xq
   rw [e]
   cases b1 with
   | true=>exact ⟨a1,l,true,rfl,h1,h2,by omega⟩
   | false =>
     obtain ⟨a2,x,b2,e2,h4,h5⟩:=h a1 false h1
     refine ⟨a2,l ++ [x],b2,?_,h4,?_,by simp;omega⟩
     ·show (if false = true then _ else _) = _
      rw [if_neg (by decide)]
      show (l ++ [(q ⟨s.drop a1,false⟩).1],(q ⟨s.drop a1,false⟩).2) = _
      rw [e2]
     ·intro y hy
      rw [List.mem_append,List.mem_singleton] at hy
      rcases hy with hy|rfl
      ·exact h2 y hy
      ·exact h5
theorem J4 {α:Type} {q:SC → α × SC} {y:SC} {i:Nat} {l:List α} {r:qh} (hb:xq q y i = (l,⟨r,true⟩)) : ∀ m,i ≤ m → xq q y m = (l,⟨r,true⟩)
 | 0,h=>by
   obtain rfl:i = 0:=by omega
   exact hb
 | m + 1,h=>by
   by_cases him:i = m + 1
   ·subst him;exact hb
   ·have:=J4 hb m (by omega)
    unfold xq
    rw [this]
    exact if_pos rfl
theorem Zf {α:Type} {q:SC → α × SC} {y:SC} {i:Nat} {l:List α} {r r' : SC} {x:α} (h:xq q y i = (l,r)) (hb:r.bad = false) (hq:q r = (x,r')):xq q y (i + 1) = (l ++ [x],r'):=by
 unfold xq
 rw [h]
 show (if r.bad = true then _ else (l ++ [(q r).1],(q r).2)) = _
 rw [hb,if_neg (by decide),hq]
theorem KN {α:Type} {s:qh} {l l' : List α} {a a' : Nat} {b b' : Bool} (ha:a ≤ s.length) (ha' : a' ≤ s.length) (h:(l,SC.mk (s.drop a) b) = (l',SC.mk (s.drop a') b')):l = l' ∧ a = a' ∧ b = b':=by
 injection h with h1 h2
 injection h2 with h3 h4
 have:=congrArg List.length h3
 rw [List.length_drop,List.length_drop] at this
 exact ⟨h1,by omega,h4⟩
theorem Xg {L:List (Nat × Nat)} {nh:Nat} {σ:St} {q q' n n' k a' : Nat} {ex b' : Bool} {s' : qh} {x:List AV} {rows rows' : List (List AV)} {rest:List (Nat × HB)} (hq:qn σ.hs q = .own true 3 [x]) (hn:qn σ.hs n = .own ex k rows) (h1:Maps L nh q q') (h2:Maps L nh n n') (hx:x = [.v (str s'),.v (.int .i64 (a' : Int)),.v (.bool b')]) (hr:rows = rows') (hp : ∀ row,row ∈ rows' → AV.pure.pureL row = true) (hl:jN L nh σ rest):jN L nh σ ((q',xT s' a' b') :: (n',.own false k rows') :: rest):=by
 subst hr
 exact jn hq h1 hx ⟨⟨n,h2,by rw [hn];exact ⟨(fun h=>by cases h),rfl,xp hp⟩⟩,hl⟩
attribute [local irreducible] Awp jE qX qG Red qx Go.Ab.Fin qp Rz yI qE qB ResOk je qJ jx qy
theorem Y7 (s:qh) (hs:s.length ≤ 1000000000) (a:Nat) (ha:a ≤ s.length) (b:Bool) : ∃ (c:Chg) (a1 a2 a3 a4 a5:Nat) (b1 b2 b3 b4 b5:Bool),Jz ⟨s.drop a,b⟩ = (c,⟨s.drop a5,b5⟩) ∧ a5 ≤ s.length ∧ c.fit ∧
  qp C1.P 33 [.op 0 0 0] [xT s a b] (.v (.int .i64 c.kind)) [xT s a1 b1] ∧ qp C1.P 34 [.op 0 0 0] [xT s a1 b1] (.v (str c.path)) [xT s a2 b2] ∧
  qp C1.P 34 [.op 0 0 0] [xT s a2 b2] (.v (str c.to)) [xT s a3 b3] ∧ qp C1.P 34 [.op 0 0 0] [xT s a3 b3] (.v (str c.text)) [xT s a4 b4] ∧
  qp C1.P 33 [.op 0 0 0] [xT s a4 b4] (.v (.int .i64 c.base)) [xT s a5 b5]:=by
 obtain ⟨a1,v1,b1,h1,e1,f1,c1⟩:=xa s hs a ha b
 obtain ⟨a2,v2,b2,h2,e2,f2,c2⟩:=vX s hs a1 h1 b1
 obtain ⟨a3,v3,b3,h3,e3,f3,c3⟩:=vX s hs a2 h2 b2
 obtain ⟨a4,v4,b4,h4,e4,f4,c4⟩:=vX s hs a3 h3 b3
 obtain ⟨a5,v5,b5,h5,e5,f5,c5⟩:=xa s hs a4 h4 b4
 refine ⟨⟨v1,v2,v3,v4,v5⟩,a1,a2,a3,a4,a5,b1,b2,b3,b4,b5,?_,h5,⟨f1,f2,f3,f4,f5⟩,c1,c2,c3,c4,c5⟩
 unfold Jz
 simp only [e1,e2,e3,e4,e5]
theorem ko (l:List Chg) : ∀ row,row ∈ l.map Chg.row → AV.pure.pureL row = true:=fun row h=>by
 obtain ⟨c,_,rfl⟩:=List.mem_map.1 h
 rfl
set_option maxHeartbeats 4000000 in
theorem Va (s:qh) (hs:s.length ≤ 1000000000) (a:Nat) (ha:a ≤ s.length) (b:Bool) : ∃ (a' : Nat) (l:List Chg) (b' : Bool),a' ≤ s.length ∧ Y8 ⟨s.drop a,b⟩ = (l,⟨s.drop a',b'⟩) ∧ (∀ c,c ∈ l → c.fit) ∧ l.length ≤ 20 ∧ qp C1.P 35 [.op 0 0 0] [xT s a b] (jz l) [xT s a' b']:=by
 obtain ⟨a1,m,b1,h1,e1,hm,c0⟩:=Z2 20 (by decide) s hs a ha b
 obtain ⟨af,l,bf,ef,hf,hfit,hfl⟩:=Xq Jz Chg.fit s (fun a b ha=>by
  obtain ⟨c,_,_,_,_,a5,_,_,_,_,b5,e,h,f,_⟩:=Y7 s hs a ha b
  exact ⟨a5,c,b5,e,h,f⟩) m a1 b1 h1
 refine ⟨af,l,bf,hf,?_,hfit,by omega,?_⟩
 ·unfold Y8 QB
  rw [e1]
  exact ef
 clear e1 hfit hfl
 refine qe (C:=C1) Tryd.func35 rfl _ Tryd.ntmps35 (Nat.le_of_ble_eq_true rfl) _ Tryd.results35 1 rfl rfl ?_
 repeat' (first|refine qm ?_|(first|(apply qc Tryd.func50 rfl rfl;intro hIsFn;refine qD 0 hIsFn (c0) rfl ?_))|((first|(apply qb;rfl;rfl;exact nle rfl)|(apply qa;rfl;rfl;exact nle rfl)|refine xsC ?_ ?_);all_goals (intro hc;have hp:=hc;try simp at hp;try (exfalso;omega)))|refine jl ?_ ?_)
 clear c0
 (refine Awp.red (qH (τ:=⟨[(0,.op 0 0 0),(3,.sl true []),(4,.v (.int .i64 (m:Int))),(5,.v (.int .i64 ((0:Nat):Int)))],[(0,xT s a1 b1)],1⟩) [] rfl ?gts2 ?ghs2) ?_;(case gts2=>(repeat (first|exact qt|refine qV ?_|refine yh ?_|refine jG ?_|refine yn ?_|refine jH ?_ ?_|refine j8 ?_ ?_));all_goals rfl);(case ghs2=>(refine jn (q:=0) rfl (qf rfl) rfl qg)))
 refine ya (fun k σ => ∃ (i ai:Nat) (bi:Bool) (li:List Chg),i ≤ m ∧ k = m - i ∧ ai ≤ s.length ∧ xq Jz ⟨s.drop a1,b1⟩ i = (li,⟨s.drop ai,bi⟩) ∧ li.length = i ∧ ((i = 0 ∧ σ = ⟨[(0,.op 0 0 0),(3,.sl true []),(4,.v (.int .i64 (m:Int))),(5,.v (.int .i64 ((0:Nat):Int)))],[(0,xT s ai bi)],1⟩) ∨ (0 < i ∧ σ = ⟨[(0,.op 0 0 0),(3,.os 1 0 i),(4,.v (.int .i64 (m:Int))),(5,.v (.int .i64 (i:Int)))],[(0,xT s ai bi),(1,.own false 5 (li.map Chg.row))],2⟩))) m ⟨0,a1,b1,[],Nat.zero_le _,rfl,h1,rfl,rfl,.inl ⟨rfl,rfl⟩⟩ ?_
 rintro k σ ⟨i,ai,bi,li,hi,rfl,hai,hrep,hli,hst⟩
 have stop:(i = m ∨ bi = true) → l = li ∧ af = ai ∧ bf = bi:=by
  intro h
  refine KN hf hai ?_
  rw [← ef]
  rcases h with rfl|rfl
  ·exact hrep
  ·exact J4 hrep m hi
 by_cases hgo:i < m ∧ bi = false
 ·obtain ⟨hlt,rfl⟩:=hgo
  obtain ⟨c,p1,p2,p3,p4,p5,d1,d2,d3,d4,d5,ec,hp5,_,k1,k2,k3,k4,k5⟩:=Y7 s hs ai hai false
  have hrep':=Zf hrep rfl ec
  clear stop ef hrep ec
  rcases hst with ⟨rfl,rfl⟩|⟨hp,rfl⟩
  ·obtain rfl:li = []:=List.eq_nil_of_length_eq_zero hli
   repeat' (first|refine qm ?_|(first|(refine xR ?_)|(apply qc Tryd.func33 rfl rfl;intro hIsFn;refine qD 0 hIsFn (k1) rfl ?_)|(apply qc Tryd.func34 rfl rfl;intro hIsFn;refine qD 0 hIsFn (k2) rfl ?_)|(apply qc Tryd.func34 rfl rfl;intro hIsFn;refine qD 0 hIsFn (k3) rfl ?_)|(apply qc Tryd.func34 rfl rfl;intro hIsFn;refine qD 0 hIsFn (k4) rfl ?_)|(apply qc Tryd.func33 rfl rfl;intro hIsFn;refine qD 0 hIsFn (k5) rfl ?_)|(refine Yz ?_))|((first|(apply qb;rfl;rfl;exact nle rfl)|(apply qa;rfl;rfl;exact nle rfl)|refine xsC ?_ ?_);all_goals (intro hc;have hp:=hc;try simp at hp;try (exfalso;omega)))|refine jl ?_ ?_)
   all_goals try (exfalso;omega)
   all_goals (refine ⟨m - (0 + 1),⟨[(0,.op 0 0 0),(3,.os 1 0 (0 + 1)),(4,.v (.int .i64 (m:Int))),(5,.v (.int .i64 ((0 + 1:Nat):Int)))],[(0,xT s p5 d5),(1,.own false 5 ([c].map Chg.row))],2⟩,by omega,?_,⟨0 + 1,p5,d5,[c],by omega,rfl,hp5,hrep',rfl,.inr ⟨Nat.succ_pos _,rfl⟩⟩⟩;refine qH [(2,1)] rfl ?gts ?ghs;(case gts=>(repeat (first|exact qt|refine qV ?_|refine yh ?_|refine jG ?_|refine yn ?_|refine jH ?_ ?_|refine j8 ?_ ?_));all_goals first|rfl|(simp;omega));(case ghs=>(refine Xg (q:=0) (n:=2) rfl rfl (qf rfl) (qf rfl) rfl rfl (ko _) qg)))
  ·have hml:(li.map Chg.row).length = i:=by rw [List.length_map];exact hli
   repeat' (first|refine qm ?_|(first|(refine xR ?_)|(apply qc Tryd.func33 rfl rfl;intro hIsFn;refine qD 0 hIsFn (k1) rfl ?_)|(apply qc Tryd.func34 rfl rfl;intro hIsFn;refine qD 0 hIsFn (k2) rfl ?_)|(apply qc Tryd.func34 rfl rfl;intro hIsFn;refine qD 0 hIsFn (k3) rfl ?_)|(apply qc Tryd.func34 rfl rfl;intro hIsFn;refine qD 0 hIsFn (k4) rfl ?_)|(apply qc Tryd.func33 rfl rfl;intro hIsFn;refine qD 0 hIsFn (k5) rfl ?_)|(refine YA ?_))|((first|(apply qb;rfl;rfl;exact nle rfl)|(apply qa;rfl;rfl;exact nle rfl)|refine xsC ?_ ?_);all_goals (intro hc;have hp:=hc;try simp at hp;try (exfalso;omega)))|refine jl ?_ ?_)
   all_goals try (exfalso;omega)
   all_goals (refine ⟨m - (i + 1),⟨[(0,.op 0 0 0),(3,.os 1 0 (i + 1)),(4,.v (.int .i64 (m:Int))),(5,.v (.int .i64 ((i + 1:Nat):Int)))],[(0,xT s p5 d5),(1,.own false 5 ((li ++ [c]).map Chg.row))],2⟩,by omega,?_,⟨i + 1,p5,d5,li ++ [c],by omega,rfl,hp5,hrep',by simp [hli],.inr ⟨Nat.succ_pos _,rfl⟩⟩⟩;refine qH [(3,1)] rfl ?gts ?ghs;(case gts=>(repeat (first|exact qt|refine qV ?_|refine yh ?_|refine jG ?_|refine yn ?_|refine jH ?_ ?_|refine j8 ?_ ?_));all_goals first|rfl|(simp;omega));(case ghs=>(refine Xg (q:=0) (n:=3) rfl rfl (qf rfl) (qf rfl) rfl (by rw [List.take_of_length_le (Nat.le_of_eq hml),List.map_append];rfl) (ko _) qg)))
 ·have hgo:i = m ∨ bi = true:=by
   by_cases h:i < m
   ·exact .inr (by cases bi with|true=>rfl|false=>exact absurd ⟨h,rfl⟩ hgo)
   ·exact .inl (by omega)
  obtain ⟨rfl,rfl,rfl⟩:=stop hgo
  clear ef hrep
  rcases hst with ⟨rfl,rfl⟩|⟨hp,rfl⟩
  ·obtain rfl:l = []:=List.eq_nil_of_length_eq_zero hli
   unfold jz
   refine Awp.red (qH (τ:=⟨[(3,.sl false []),(0,.op 0 0 0),(4,.v (.int .i64 (m:Int))),(5,.v (.int .i64 ((0:Nat):Int)))],[(0,xT s af bf)],1⟩) [] rfl ?gts9 ?ghs9) ?_
   case gts9 =>
    refine Wd ?_
    (repeat (first|exact qt|refine qV ?_|refine yh ?_|refine jG ?_|refine yn ?_|refine jH ?_ ?_|refine j8 ?_ ?_))
    all_goals rfl
   case ghs9=>(refine jn (q:=0) rfl (qf rfl) rfl qg)
   rcases hgo with rfl|rfl
   all_goals (repeat' (first|refine qm ?_|fail|((first|(apply qb;rfl;rfl;exact nle rfl)|(apply qa;rfl;rfl;exact nle rfl)|refine xsC ?_ ?_);all_goals (intro hc;have hp:=hc;try simp at hp;try (exfalso;omega)))|refine jl ?_ ?_))
   all_goals try (exfalso;omega)
   all_goals ((apply qu (rs:=[.tmp 2]) [] 1;(case hr=>(repeat (first|exact qk|(apply ql;rfl)|(apply qi;rfl;rfl;rfl;rfl;rfl))));(case hL=>rfl);(case hh=>(refine jn (q:=0) rfl (qf rfl) rfl qg));(case hi=>exact rfl);(case hz=>first|rfl|(simp [jt,AV.ren,AV.ren.renL,qQ,qj,qK];done))))
  ·unfold jz
   refine Awp.red (Qc 1 rfl (ko l)) ?_
   refine Awp.red (V8 3 1 rfl rfl (by rw [List.length_map];omega)) ?_
   rcases hgo with rfl|rfl
   all_goals (repeat' (first|refine qm ?_|fail|((first|(apply qb;rfl;rfl;exact nle rfl)|(apply qa;rfl;rfl;exact nle rfl)|refine xsC ?_ ?_);all_goals (intro hc;have hp:=hc;try simp at hp;try (exfalso;omega)))|refine jl ?_ ?_))
   all_goals try (exfalso;omega)
   all_goals ((apply qu (rs:=[.tmp 2]) [] 1;(case hr=>(repeat (first|exact qk|(apply ql;rfl)|(apply qi;rfl;rfl;rfl;rfl;rfl))));(case hL=>rfl);(case hh=>(refine jn (q:=0) rfl (qf rfl) rfl qg));(case hi=>exact rfl);(case hz=>first|rfl|(simp [jt,AV.ren,AV.ren.renL,qQ,qj,qK];done))))
end Go.Proofs.YtahbbnfmbohmmaaDoor
set_option linter.unusedSimpArgs false
set_option linter.unusedVariables false
namespace Go.Proofs.YtahbbnfmbohmmaaDoor
open Go.Ab Go.RowKit
end Go.Proofs.YtahbbnfmbohmmaaDoor
