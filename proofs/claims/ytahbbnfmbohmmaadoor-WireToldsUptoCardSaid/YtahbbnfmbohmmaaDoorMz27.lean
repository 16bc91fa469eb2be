import Derived.Test.YtahbbnfmbohmmaaDoorMz26
import Derived.Test.YtahbbnfmbohmmaaDoorMz22
set_option linter.unusedSimpArgs false
set_option linter.unnecessarySimpa false
set_option linter.unusedVariables false
set_option maxHeartbeats 1000000
namespace Go.Proofs.YtahbbnfmbohmmaaDoor
open Go.Ab Go.RowKit
set_option maxRecDepth 10000
attribute [local irreducible] Awp jU jl qQ Red qD Go.Ab.Fin qt Rz yZ qO qJ ResOk jt qU jN qG
theorem qbo:j9 = .seq (wd (tlW 0 j9)) (.seq (wd (tlW 1 j9)) (.seq (wd (tlW 2 j9)) (.seq (wd (tlW 3 j9)) (.seq (wd (tlW 4 j9)) (tlW 5 j9))))):=by kernel_rfl
theorem WJ (s:qo) (a:Nat) (b:Bool) (E:Nat) (hE:E ≤ s.length) (v:Int):(xP s a b E v).2.1 ≤ s.length ∧ ((xP s a b E v).1 = 0 ∨ (xP s a b E v).1 = v):=by
 unfold xP
 split
 ·exact ⟨hE,.inl rfl⟩
 ·rename_i h
  refine ⟨?_,.inr rfl⟩
  simp only [not_or,Decidable.not_not] at h
  have:=(List.getElem?_eq_some_iff.1 h.2.1).1
  exact this
set_option maxHeartbeats 4000000 in
theorem qaQ (s:qo) (hs:s.length ≤ 1000000000) (a E N:Nat) (b neg:Bool) (hneg:X4 (s.drop a) = neg) (ha:a ≤ s.length) (hl:a + xu (s.drop a) ≤ E) (hE:E ≤ s.length) (hd:xh (s.drop (a + xu (s.drop a))) 0 = (N,E - (a + xu (s.drop a)))) :
  qt C1.P 33 [.op 0 0 0] [yI s a b] (.v (.int .i64 (xP s a b E (if neg = true then -(N:Int) else (N:Int))).1)) [yI s (xP s a b E (if neg = true then -(N:Int) else (N:Int))).2.1 (xP s a b E (if neg = true then -(N:Int) else (N:Int))).2.2]:=by
 have hlp:=qaR s hs a (a + xu (s.drop a)) E N (by omega) hl hE b neg hd
 generalize hV:(if neg = true then -(N:Int) else (N:Int)) = V at *
 clear hV hd
 refine qf (C:=C1) Tryd.func33 rfl _ Tryd.ntmps33 (Nat.le_of_ble_eq_true rfl) _ Tryd.results33 1 rfl rfl ?_
 change Awp C1 156 j9 _ _
 rw [qbo]
 generalize tlW 5 j9 = T at *
 conv=>arg 3;arg 1;whnf
 conv=>arg 3;arg 2;arg 1;whnf
 conv=>arg 3;arg 2;arg 2;arg 1;whnf
 conv=>arg 3;arg 2;arg 2;arg 2;arg 1;whnf
 conv=>arg 3;arg 2;arg 2;arg 2;arg 2;arg 1;whnf
 by_cases haL:a < s.length
 ·have hgc:s[a]? = some s[a]:=List.getElem?_eq_getElem haL
  have hnc:X4 (s.drop a) = decide (s[a] = 45):=by rw [List.drop_eq_getElem_cons haL];rfl
  rw [hneg] at hnc
  generalize s[a] = c at *
  cases neg with
  | true =>
    have hc:c.toNat = 45:=by
     have:=of_decide_eq_true hnc.symm
     rw [this];rfl
    have hk:xu (s.drop a) = 1:=by unfold xu;rw [hneg,if_pos rfl]
    rw [hk] at hlp
    clear hnc hk hl hneg
    repeat' (first|refine qi ?_|(first|(apply qp;apply j3 (i:=a);(case hx=>rfl);(case hy=>exact xO (by omega));(case hT=>rfl);(case he=>rfl);(case hc=>exact hgc);(case hN=>exact nle rfl)))|((first|(apply qb;rfl;rfl;exact nle rfl)|(apply qa;rfl;rfl;exact nle rfl)|refine xsC ?_ ?_);all_goals (intro hc;have hp:=hc;try simp at hp;try (exfalso;omega)))|refine qS ?_ ?_)
    all_goals try (exfalso;omega)
    all_goals ((refine Awp.red (qy (τ:=⟨[(0,.op 0 0 0),(3,.v (.int .i64 (a:Int))),(4,.v (.bool true)),(5,.v (.int .i64 ((0:Nat):Int)))],[(0,yI s (a + 1) b)],1⟩) [] rfl ?gts2 ?ghs2) ?_;(case gts2=>(repeat (first|exact qh|refine qA ?_|refine jI ?_|refine jd ?_|refine jK ?_|refine je ?_ ?_|refine jy ?_ ?_));all_goals first|rfl|exact congrArg (fun b=>AV.v (Value.bool b)) (by simp;omega));(case ghs2=>(refine ji (q:=0) rfl (qd rfl) rfl qe)));exact hlp)
  | false =>
    have hc:c.toNat ≠ 45:=by
     have:=of_decide_eq_false hnc.symm
     exact fun h=>this (UInt8.toNat_inj.1 h)
    have hk:xu (s.drop a) = 0:=by unfold xu;rw [hneg,if_neg (by decide)]
    rw [hk] at hlp
    clear hnc hk hl hneg
    repeat' (first|refine qi ?_|(first|(apply qp;apply j3 (i:=a);(case hx=>rfl);(case hy=>exact xO (by omega));(case hT=>rfl);(case he=>rfl);(case hc=>exact hgc);(case hN=>exact nle rfl)))|((first|(apply qb;rfl;rfl;exact nle rfl)|(apply qa;rfl;rfl;exact nle rfl)|refine xsC ?_ ?_);all_goals (intro hc;have hp:=hc;try simp at hp;try (exfalso;omega)))|refine qS ?_ ?_)
    all_goals try (exfalso;omega)
    all_goals ((refine Awp.red (qy (τ:=⟨[(0,.op 0 0 0),(3,.v (.int .i64 (a:Int))),(4,.v (.bool false)),(5,.v (.int .i64 ((0:Nat):Int)))],[(0,yI s (a + 0) b)],1⟩) [] rfl ?gts2 ?ghs2) ?_;(case gts2=>(repeat (first|exact qh|refine qA ?_|refine jI ?_|refine jd ?_|refine jK ?_|refine je ?_ ?_|refine jy ?_ ?_));all_goals first|rfl|exact congrArg (fun b=>AV.v (Value.bool b)) (by simp;omega));(case ghs2=>(refine ji (q:=0) rfl (qd rfl) rfl qe)));exact hlp)
 ·have hnil:s.drop a = []:=List.drop_eq_nil_of_le (by omega)
  rw [hnil] at hneg hlp
  obtain rfl:false = neg:=hneg
  change Awp C1 156 T _ ⟨[(0,.op 0 0 0),(3,.v (.int .i64 (a:Int))),(4,.v (.bool false)),(5,.v (.int .i64 ((0:Nat):Int)))],[(0,yI s (a + 0) b)],1⟩ at hlp
  clear hnil hl
  repeat' (first|refine qi ?_|fail|((first|(apply qb;rfl;rfl;exact nle rfl)|(apply qa;rfl;rfl;exact nle rfl)|refine xsC ?_ ?_);all_goals (intro hc;have hp:=hc;try simp at hp;try (exfalso;omega)))|refine qS ?_ ?_)
  all_goals try (exfalso;omega)
  all_goals ((refine Awp.red (qy (τ:=⟨[(0,.op 0 0 0),(3,.v (.int .i64 (a:Int))),(4,.v (.bool false)),(5,.v (.int .i64 ((0:Nat):Int)))],[(0,yI s (a + 0) b)],1⟩) [] rfl ?gts2 ?ghs2) ?_;(case gts2=>(repeat (first|exact qh|refine qA ?_|refine jI ?_|refine jd ?_|refine jK ?_|refine je ?_ ?_|refine jy ?_ ?_));all_goals first|rfl|exact congrArg (fun b=>AV.v (Value.bool b)) (by simp;omega));(case ghs2=>(refine ji (q:=0) rfl (qd rfl) rfl qe)));exact hlp)
theorem xe (s:qo) (hs:s.length ≤ 1000000000) (a:Nat) (ha:a ≤ s.length) (b:Bool) : ∃ (a' : Nat) (v:Int) (b' : Bool),a' ≤ s.length ∧ y4 ⟨s.drop a,b⟩ = (v,⟨s.drop a',b'⟩) ∧ y7 v ∧ qt C1.P 33 [.op 0 0 0] [yI s a b] (.v (.int .i64 v)) [yI s a' b']:=by
 have hk:a + xu (s.drop a) ≤ s.length:=by
  unfold xu
  by_cases h:a < s.length
  ·split<;>omega
  ·rw [List.drop_eq_nil_of_le (by omega)]
   exact ha
 have hdd:(s.drop a).drop (xu (s.drop a)) = s.drop (a + xu (s.drop a)):=List.drop_drop
 have hdl:=Y5 (s.drop (a + xu (s.drop a))) 0
 rw [List.length_drop] at hdl
 have hb:=zS (s.drop (a + xu (s.drop a))) 0 (by decide)
 have eL:zr (s.drop a) = xu (s.drop a) + (xh (s.drop (a + xu (s.drop a))) 0).2:=by unfold zr;rw [hdd]
 have eV:kG (s.drop a) = if X4 (s.drop a) = true then -((xh (s.drop (a + xu (s.drop a))) 0).1:Int) else ((xh (s.drop (a + xu (s.drop a))) 0).1:Int):=by unfold kG;rw [hdd]
 have hh:=qaQ s hs a (a + zr (s.drop a)) (xh (s.drop (a + xu (s.drop a))) 0).1 b _ rfl ha (by omega) (by omega) (Prod.ext rfl (by show (xh _ _).2 = _;omega))
 rw [← eV] at hh
 have h2:=WJ s a b (a + zr (s.drop a)) (by omega) (kG (s.drop a))
 refine ⟨_,_,_,h2.1,KX s a b,?_,hh⟩
 rcases h2.2 with h|h
 ·rw [h];exact ⟨by decide,by decide⟩
 ·rw [h,eV]
  constructor<;>split<;>omega
set_option maxHeartbeats 1000000 in
theorem wP (s:qo) (hs:s.length ≤ 1000000000) (a:Nat) (ha:a ≤ s.length) (b:Bool) : ∃ (a' : Nat) (v:qo) (b' : Bool),a' ≤ s.length ∧ wS ⟨s.drop a,b⟩ = (v,⟨s.drop a',b'⟩) ∧ v.length ≤ 1000000000 ∧ qt C1.P 34 [.op 0 0 0] [yI s a b] (.v (str v)) [yI s a' b']:=by
 obtain ⟨a1,n,b1,h1,e1,hI,c1⟩:=xe s hs a ha b
 by_cases hbad:b1 = true ∨ n < 0 ∨ ((s.length - a1:Nat):Int) < n
 ·refine ⟨a1,[],true,h1,?_,by decide,?_⟩
  ·unfold wS
   rw [e1]
   simp only [List.length_drop]
   rw [if_pos hbad]
  ·clear e1
   refine qf (C:=C1) Tryd.func34 rfl _ Tryd.ntmps34 (Nat.le_of_ble_eq_true rfl) _ Tryd.results34 1 rfl rfl ?_
   cases b1 with
   | true =>
     clear hbad
     repeat' (first|refine qi ?_|(first|(apply qc Tryd.func33 rfl rfl;intro hIsFn;refine qF 0 hIsFn (c1) rfl ?_))|((first|(apply qb;rfl;rfl;exact nle rfl)|(apply qa;rfl;rfl;exact nle rfl)|refine xsC ?_ ?_);all_goals (intro hc;have hp:=hc;try simp at hp;try (exfalso;omega)))|refine qS ?_ ?_)
     all_goals try (exfalso;omega)
     all_goals ((apply qu (rs:=[.tmp 2]) [] 1;(case hr=>(repeat (first|exact qm|(apply qn;rfl)|(apply qj;rfl;rfl;rfl;rfl;rfl))));(case hL=>rfl);(case hh=>(refine ji (q:=0) rfl (qd rfl) rfl qe));(case hi=>exact rfl);(case hz=>first|rfl|(simp [ju,AV.ren,AV.ren.renL,qP,qr,qL];done))))
   | false =>
     have hbad:n < 0 ∨ ((s.length - a1:Nat):Int) < n:=by
      rcases hbad with h|h|h
      ·cases h
      ·exact .inl h
      ·exact .inr h
     repeat' (first|refine qi ?_|(first|(apply qc Tryd.func33 rfl rfl;intro hIsFn;refine qF 0 hIsFn (c1) rfl ?_))|((first|(apply qb;rfl;rfl;exact nle rfl)|(apply qa;rfl;rfl;exact nle rfl)|refine xsC ?_ ?_);all_goals (intro hc;have hp:=hc;try simp at hp;try (exfalso;omega)))|refine qS ?_ ?_)
     all_goals try (exfalso;omega)
     all_goals ((apply qu (rs:=[.tmp 2]) [] 1;(case hr=>(repeat (first|exact qm|(apply qn;rfl)|(apply qj;rfl;rfl;rfl;rfl;rfl))));(case hL=>rfl);(case hh=>(refine ji (q:=0) rfl (qd rfl) rfl qe));(case hi=>exact rfl);(case hz=>first|rfl|(simp [ju,AV.ren,AV.ren.renL,qP,qr,qL];done))))
 ·simp only [not_or] at hbad
  obtain ⟨hb1,hn0,hnl⟩:=hbad
  obtain rfl:b1 = false:=by simpa using hb1
  obtain ⟨k,rfl⟩ : ∃ k:Nat,n = (k:Int):=⟨n.toNat,by omega⟩
  refine ⟨a1 + k,(s.take (a1 + k)).drop a1,false,by omega,?_,?_,?_⟩
  ·unfold wS
   rw [e1]
   simp only [List.length_drop]
   rw [if_neg (by simp;omega)]
   rw [List.drop_drop,List.drop_take,Int.toNat_natCast]
   congr 2
   omega
  ·simp only [List.length_drop,List.length_take];omega
  ·clear e1
   refine qf (C:=C1) Tryd.func34 rfl _ Tryd.ntmps34 (Nat.le_of_ble_eq_true rfl) _ Tryd.results34 1 rfl rfl ?_
   repeat' (first|refine qi ?_|(first|(apply qc Tryd.func33 rfl rfl;intro hIsFn;refine qF 0 hIsFn (c1) rfl ?_)|(apply qp;apply xZ (a:=a1) (b:=a1 + k);(case hx=>rfl);(case hT=>rfl);(case he=>rfl);(case ha=>(exact ⟨_,xO (by omega)⟩));(case hb=>(exact ⟨_,xO (by omega)⟩));(case hab=>(first|omega|(simp;done)|(simp only [List.length_cons,List.length_nil,List.length_map];omega)|(simp;omega)));(case hbl=>omega);(case hN=>exact nle rfl)))|((first|(apply qb;rfl;rfl;exact nle rfl)|(apply qa;rfl;rfl;exact nle rfl)|refine xsC ?_ ?_);all_goals (intro hc;have hp:=hc;try simp at hp;try (exfalso;omega)))|refine qS ?_ ?_)
   all_goals try (exfalso;omega)
   all_goals ((apply qu (rs:=[.tmp 2]) [] 1;(case hr=>(repeat (first|exact qm|(apply qn;rfl)|(apply qj;rfl;rfl;rfl;rfl;rfl))));(case hL=>rfl);(case hh=>(refine ji (q:=0) rfl (qd rfl) rfl qe));(case hi=>exact rfl);(case hz=>first|rfl|(simp [ju,AV.ren,AV.ren.renL,qP,qr,qL];done))))
set_option maxHeartbeats 1000000 in
theorem Wh (s:qo) (hs:s.length ≤ 1000000000) (a:Nat) (ha:a ≤ s.length) (b:Bool) : ∃ (a' : Nat) (v:Bool) (b' : Bool),a' ≤ s.length ∧ YP ⟨s.drop a,b⟩ = (v,⟨s.drop a',b'⟩) ∧ qt C1.P 49 [.op 0 0 0] [yI s a b] (.v (.bool v)) [yI s a' b']:=by
 obtain ⟨a1,n,b1,h1,e1,hI,c1⟩:=xe s hs a ha b
 refine ⟨a1,decide (n = 1),b1 || decide (n < 0) || decide (1 < n),h1,by unfold YP;rw [e1],?_⟩
 clear e1
 refine qf (C:=C1) Tryd.func49 rfl _ Tryd.ntmps49 (Nat.le_of_ble_eq_true rfl) _ Tryd.results49 1 rfl rfl ?_
 cases b1 with
 | true =>
   repeat' (first|refine qi ?_|(first|(apply qc Tryd.func33 rfl rfl;intro hIsFn;refine qF 0 hIsFn (c1) rfl ?_))|((first|(apply qb;rfl;rfl;exact nle rfl)|(apply qa;rfl;rfl;exact nle rfl)|refine xsC ?_ ?_);all_goals (intro hc;have hp:=hc;try simp at hp;try (exfalso;omega)))|refine qS ?_ ?_)
   all_goals try (exfalso;omega)
   all_goals ((apply qu (rs:=[.tmp 2]) [] 1;(case hr=>(repeat (first|exact qm|(apply qn;rfl)|(apply qj;rfl;rfl;rfl;rfl;rfl))));(case hL=>rfl);(case hh=>(refine ji (q:=0) rfl (qd rfl) rfl qe));(case hi=>exact rfl);(case hz=>first|rfl|(simp [ju,AV.ren,AV.ren.renL,qP,qr,qL];done))))
 | false =>
   by_cases hn:n < 0
   ·rw [decide_eq_true hn]
    repeat' (first|refine qi ?_|(first|(apply qc Tryd.func33 rfl rfl;intro hIsFn;refine qF 0 hIsFn (c1) rfl ?_))|((first|(apply qb;rfl;rfl;exact nle rfl)|(apply qa;rfl;rfl;exact nle rfl)|refine xsC ?_ ?_);all_goals (intro hc;have hp:=hc;try simp at hp;try (exfalso;omega)))|refine qS ?_ ?_)
    all_goals try (exfalso;omega)
    all_goals ((apply qu (rs:=[.tmp 2]) [] 1;(case hr=>(repeat (first|exact qm|(apply qn;rfl)|(apply qj;rfl;rfl;rfl;rfl;rfl))));(case hL=>rfl);(case hh=>(refine ji (q:=0) rfl (qd rfl) rfl qe));(case hi=>exact rfl);(case hz=>first|rfl|(simp [ju,AV.ren,AV.ren.renL,qP,qr,qL];done))))
   ·rw [decide_eq_false hn]
    repeat' (first|refine qi ?_|(first|(apply qc Tryd.func33 rfl rfl;intro hIsFn;refine qF 0 hIsFn (c1) rfl ?_))|((first|(apply qb;rfl;rfl;exact nle rfl)|(apply qa;rfl;rfl;exact nle rfl)|refine xsC ?_ ?_);all_goals (intro hc;have hp:=hc;try simp at hp;try (exfalso;omega)))|refine qS ?_ ?_)
    all_goals try (exfalso;omega)
    all_goals ((apply qu (rs:=[.tmp 2]) [] 1;(case hr=>(repeat (first|exact qm|(apply qn;rfl)|(apply qj;rfl;rfl;rfl;rfl;rfl))));(case hL=>rfl);(case hh=>(refine ji (q:=0) rfl (qd rfl) rfl qe));(case hi=>exact rfl);(case hz=>first|rfl|(simp [ju,AV.ren,AV.ren.renL,qP,qr,qL];done))))
set_option maxHeartbeats 1000000 in
theorem YI (M:Nat) (hM:M ≤ 1000) (s:qo) (hs:s.length ≤ 1000000000) (a:Nat) (ha:a ≤ s.length) (b:Bool) : ∃ (a' m:Nat) (b' : Bool),a' ≤ s.length ∧ Jq M ⟨s.drop a,b⟩ = ((m:Int),⟨s.drop a',b'⟩) ∧ m ≤ M ∧ qt C1.P 50 [.op 0 0 0,.v (.int .i64 (M:Int))] [yI s a b] (.v (.int .i64 (m:Int))) [yI s a' b']:=by
 obtain ⟨a1,n,b1,h1,e1,hI,c1⟩:=xe s hs a ha b
 by_cases hbad:b1 = true ∨ n < 0 ∨ (M:Int) < n
 ·refine ⟨a1,0,true,h1,?_,Nat.zero_le _,?_⟩
  ·unfold Jq
   rw [e1]
   simp only
   rw [if_pos hbad]
   rfl
  ·clear e1
   refine qf (C:=C1) Tryd.func50 rfl _ Tryd.ntmps50 (Nat.le_of_ble_eq_true rfl) _ Tryd.results50 1 rfl rfl ?_
   cases b1 with
   | true =>
     clear hbad
     repeat' (first|refine qi ?_|(first|(apply qc Tryd.func33 rfl rfl;intro hIsFn;refine qF 0 hIsFn (c1) rfl ?_))|((first|(apply qb;rfl;rfl;exact nle rfl)|(apply qa;rfl;rfl;exact nle rfl)|refine xsC ?_ ?_);all_goals (intro hc;have hp:=hc;try simp at hp;try (exfalso;omega)))|refine qS ?_ ?_)
     all_goals try (exfalso;omega)
     all_goals ((apply qu (rs:=[.tmp 4]) [] 1;(case hr=>(repeat (first|exact qm|(apply qn;rfl)|(apply qj;rfl;rfl;rfl;rfl;rfl))));(case hL=>rfl);(case hh=>(refine ji (q:=0) rfl (qd rfl) rfl qe));(case hi=>exact rfl);(case hz=>first|rfl|(simp [ju,AV.ren,AV.ren.renL,qP,qr,qL];done))))
   | false =>
     have hbad:n < 0 ∨ (M:Int) < n:=by
      rcases hbad with h|h|h
      ·cases h
      ·exact .inl h
      ·exact .inr h
     repeat' (first|refine qi ?_|(first|(apply qc Tryd.func33 rfl rfl;intro hIsFn;refine qF 0 hIsFn (c1) rfl ?_))|((first|(apply qb;rfl;rfl;exact nle rfl)|(apply qa;rfl;rfl;exact nle rfl)|refine xsC ?_ ?_);all_goals (intro hc;have hp:=hc;try simp at hp;try (exfalso;omega)))|refine qS ?_ ?_)
     all_goals try (exfalso;omega)
     all_goals ((apply qu (rs:=[.tmp 4]) [] 1;(case hr=>(repeat (first|exact qm|(apply qn;rfl)|(apply qj;rfl;rfl;rfl;rfl;rfl))));(case hL=>rfl);(case hh=>(refine ji (q:=0) rfl (qd rfl) rfl qe));(case hi=>exact rfl);(case hz=>first|rfl|(simp [ju,AV.ren,AV.ren.renL,qP,qr,qL];done))))
 ·have hbad':=hbad
  simp only [not_or] at hbad
  obtain ⟨hb1,hn0,hnl⟩:=hbad
  obtain rfl:b1 = false:=by simpa using hb1
  obtain ⟨k,rfl⟩ : ∃ k:Nat,n = (k:Int):=⟨n.toNat,by omega⟩
  refine ⟨a1,k,false,h1,?_,by omega,?_⟩
  ·unfold Jq
   rw [e1]
   simp only
   rw [if_neg hbad']
  ·clear e1 hbad'
   refine qf (C:=C1) Tryd.func50 rfl _ Tryd.ntmps50 (Nat.le_of_ble_eq_true rfl) _ Tryd.results50 1 rfl rfl ?_
   repeat' (first|refine qi ?_|(first|(apply qc Tryd.func33 rfl rfl;intro hIsFn;refine qF 0 hIsFn (c1) rfl ?_))|((first|(apply qb;rfl;rfl;exact nle rfl)|(apply qa;rfl;rfl;exact nle rfl)|refine xsC ?_ ?_);all_goals (intro hc;have hp:=hc;try simp at hp;try (exfalso;omega)))|refine qS ?_ ?_)
   all_goals try (exfalso;omega)
   all_goals ((apply qu (rs:=[.tmp 4]) [] 1;(case hr=>(repeat (first|exact qm|(apply qn;rfl)|(apply qj;rfl;rfl;rfl;rfl;rfl))));(case hL=>rfl);(case hh=>(refine ji (q:=0) rfl (qd rfl) rfl qe));(case hi=>exact rfl);(case hz=>first|rfl|(simp [ju,AV.ren,AV.ren.renL,qP,qr,qL];done))))
end Go.Proofs.YtahbbnfmbohmmaaDoor
set_option linter.unusedSimpArgs false
set_option linter.unnecessarySimpa false
set_option linter.unusedVariables false
set_option maxHeartbeats 1000000
namespace Go.Proofs.YtahbbnfmbohmmaaDoor
open Go.Ab Go.RowKit
set_option maxRecDepth 10000
theorem Qq {α:Type} (q:SC → α × SC) (fit:α → Prop) (s:qo) (h : ∀ a b,a ≤ s.length → ∃ a' x b',q ⟨s.drop a,b⟩ = (x,⟨s.drop a',b'⟩) ∧ a' ≤ s.length ∧ fit x) : ∀ (i a:Nat) (b:Bool),a ≤ s.length → ∃ a' l b',xK q ⟨s.drop a,b⟩ i = (l,⟨s.drop a',b'⟩) ∧ a' ≤ s.length ∧ (∀ x,x ∈ l → fit x) ∧ l.length ≤ i
 | 0,a,b,ha=>⟨a,[],b,rfl,ha,(fun x hx=>by cases hx),Nat.le_refl _⟩
 | i + 1,a,b,ha=>by
   obtain ⟨a1,l,b1,e,h1,h2,h3⟩:=Qq q fit s h i a b ha
   unfold xK
   rw [e]
   cases b1 with
   | true=>exact ⟨a1,l,true,rfl,h1,h2,by omega⟩
   | false =>
     obtain ⟨a2,x,b2,e2,h4,h5⟩:=h a1 false h1
     refine ⟨a2,l ++ [x],b2,?_,h4,?_,by simp;omega⟩
     ·show (if false = true then _ else _) = _
      rw [if_neg (by decide)]
      show (l ++ [(q ⟨s.drop a1,false⟩).1],(q ⟨s.drop a1,false⟩).2) = _
      rw [e2]
     ·intro y hy
      rw [List.mem_append,List.mem_singleton] at hy
      rcases hy with hy|rfl
      ·exact h2 y hy
      ·exact h5
theorem wa {α:Type} {q:SC → α × SC} {y:SC} {i:Nat} {l:List α} {r:qo} (hb:xK q y i = (l,⟨r,true⟩)) : ∀ m,i ≤ m → xK q y m = (l,⟨r,true⟩)
 | 0,h=>by
   obtain rfl:i = 0:=by omega
   exact hb
 | m + 1,h=>by
   by_cases him:i = m + 1
   ·subst him;exact hb
   ·have:=wa hb m (by omega)
    unfold xK
    rw [this]
    exact if_pos rfl
theorem Jd {α:Type} {q:SC → α × SC} {y:SC} {i:Nat} {l:List α} {r r' : SC} {x:α} (h:xK q y i = (l,r)) (hb:r.bad = false) (hq:q r = (x,r')):xK q y (i + 1) = (l ++ [x],r'):=by
 unfold xK
 rw [h]
 show (if r.bad = true then _ else (l ++ [(q r).1],(q r).2)) = _
 rw [hb,if_neg (by decide),hq]
theorem Vt {α:Type} {s:qo} {l l' : List α} {a a' : Nat} {b b' : Bool} (ha:a ≤ s.length) (ha' : a' ≤ s.length) (h:(l,SC.mk (s.drop a) b) = (l',SC.mk (s.drop a') b')):l = l' ∧ a = a' ∧ b = b':=by
 injection h with h1 h2
 injection h2 with h3 h4
 have:=congrArg List.length h3
 rw [List.length_drop,List.length_drop] at this
 exact ⟨h1,by omega,h4⟩
theorem V0 {L:List (Nat × Nat)} {nh:Nat} {σ:St} {q q' n n' k a' : Nat} {ex b' : Bool} {s' : qo} {x:List AV} {rows rows' : List (List AV)} {rest:List (Nat × HB)} (hq:qq σ.hs q = .own true 3 [x]) (hn:qq σ.hs n = .own ex k rows) (h1:Maps L nh q q') (h2:Maps L nh n n') (hx:x = [.v (str s'),.v (.int .i64 (a' : Int)),.v (.bool b')]) (hr:rows = rows') (hp : ∀ row,row ∈ rows' → AV.pure.pureL row = true) (hl:jZ L nh σ rest):jZ L nh σ ((q',yI s' a' b') :: (n',.own false k rows') :: rest):=by
 subst hr
 exact ji hq h1 hx ⟨⟨n,h2,by rw [hn];exact ⟨(fun h=>by cases h),rfl,yY hp⟩⟩,hl⟩
attribute [local irreducible] Awp jU jl qQ Red qD Go.Ab.Fin qt Rz yZ qO qJ ResOk jt qU jN qG
theorem VL (s:qo) (hs:s.length ≤ 1000000000) (a:Nat) (ha:a ≤ s.length) (b:Bool) : ∃ (c:Chg) (a1 a2 a3 a4 a5:Nat) (b1 b2 b3 b4 b5:Bool),Y1 ⟨s.drop a,b⟩ = (c,⟨s.drop a5,b5⟩) ∧ a5 ≤ s.length ∧ c.fit ∧
  qt C1.P 33 [.op 0 0 0] [yI s a b] (.v (.int .i64 c.kind)) [yI s a1 b1] ∧ qt C1.P 34 [.op 0 0 0] [yI s a1 b1] (.v (str c.path)) [yI s a2 b2] ∧
  qt C1.P 34 [.op 0 0 0] [yI s a2 b2] (.v (str c.to)) [yI s a3 b3] ∧ qt C1.P 34 [.op 0 0 0] [yI s a3 b3] (.v (str c.text)) [yI s a4 b4] ∧
  qt C1.P 33 [.op 0 0 0] [yI s a4 b4] (.v (.int .i64 c.base)) [yI s a5 b5]:=by
 obtain ⟨a1,v1,b1,h1,e1,f1,c1⟩:=xe s hs a ha b
 obtain ⟨a2,v2,b2,h2,e2,f2,c2⟩:=wP s hs a1 h1 b1
 obtain ⟨a3,v3,b3,h3,e3,f3,c3⟩:=wP s hs a2 h2 b2
 obtain ⟨a4,v4,b4,h4,e4,f4,c4⟩:=wP s hs a3 h3 b3
 obtain ⟨a5,v5,b5,h5,e5,f5,c5⟩:=xe s hs a4 h4 b4
 refine ⟨⟨v1,v2,v3,v4,v5⟩,a1,a2,a3,a4,a5,b1,b2,b3,b4,b5,?_,h5,⟨f1,f2,f3,f4,f5⟩,c1,c2,c3,c4,c5⟩
 unfold Y1
 simp only [e1,e2,e3,e4,e5]
theorem wo (l:List Chg) : ∀ row,row ∈ l.map Chg.row → AV.pure.pureL row = true:=fun row h=>by
 obtain ⟨c,_,rfl⟩:=List.mem_map.1 h
 rfl
set_option maxHeartbeats 4000000 in
theorem Z0 (s:qo) (hs:s.length ≤ 1000000000) (a:Nat) (ha:a ≤ s.length) (b:Bool) : ∃ (a' : Nat) (l:List Chg) (b' : Bool),a' ≤ s.length ∧ VO ⟨s.drop a,b⟩ = (l,⟨s.drop a',b'⟩) ∧ (∀ c,c ∈ l → c.fit) ∧ l.length ≤ 20 ∧ qt C1.P 35 [.op 0 0 0] [yI s a b] (j5 l) [yI s a' b']:=by
 obtain ⟨a1,m,b1,h1,e1,hm,c0⟩:=YI 20 (by decide) s hs a ha b
 obtain ⟨af,l,bf,ef,hf,hfit,hfl⟩:=Qq Y1 Chg.fit s (fun a b ha=>by
  obtain ⟨c,_,_,_,_,a5,_,_,_,_,b5,e,h,f,_⟩:=VL s hs a ha b
  exact ⟨a5,c,b5,e,h,f⟩) m a1 b1 h1
 refine ⟨af,l,bf,hf,?_,hfit,by omega,?_⟩
 ·unfold VO vA
  rw [e1]
  exact ef
 clear e1 hfit hfl
 refine qf (C:=C1) Tryd.func35 rfl _ Tryd.ntmps35 (Nat.le_of_ble_eq_true rfl) _ Tryd.results35 1 rfl rfl ?_
 repeat' (first|refine qi ?_|(first|(apply qc Tryd.func50 rfl rfl;intro hIsFn;refine qF 0 hIsFn (c0) rfl ?_))|((first|(apply qb;rfl;rfl;exact nle rfl)|(apply qa;rfl;rfl;exact nle rfl)|refine xsC ?_ ?_);all_goals (intro hc;have hp:=hc;try simp at hp;try (exfalso;omega)))|refine qS ?_ ?_)
 clear c0
 (refine Awp.red (qy (τ:=⟨[(0,.op 0 0 0),(3,.sl true []),(4,.v (.int .i64 (m:Int))),(5,.v (.int .i64 ((0:Nat):Int)))],[(0,yI s a1 b1)],1⟩) [] rfl ?gts2 ?ghs2) ?_;(case gts2=>(repeat (first|exact qh|refine qA ?_|refine jI ?_|refine jd ?_|refine jK ?_|refine je ?_ ?_|refine jy ?_ ?_));all_goals rfl);(case ghs2=>(refine ji (q:=0) rfl (qd rfl) rfl qe)))
 refine jC (fun k σ => ∃ (i ai:Nat) (bi:Bool) (li:List Chg),i ≤ m ∧ k = m - i ∧ ai ≤ s.length ∧ xK Y1 ⟨s.drop a1,b1⟩ i = (li,⟨s.drop ai,bi⟩) ∧ li.length = i ∧ ((i = 0 ∧ σ = ⟨[(0,.op 0 0 0),(3,.sl true []),(4,.v (.int .i64 (m:Int))),(5,.v (.int .i64 ((0:Nat):Int)))],[(0,yI s ai bi)],1⟩) ∨ (0 < i ∧ σ = ⟨[(0,.op 0 0 0),(3,.os 1 0 i),(4,.v (.int .i64 (m:Int))),(5,.v (.int .i64 (i:Int)))],[(0,yI s ai bi),(1,.own false 5 (li.map Chg.row))],2⟩))) m ⟨0,a1,b1,[],Nat.zero_le _,rfl,h1,rfl,rfl,.inl ⟨rfl,rfl⟩⟩ ?_
 rintro k σ ⟨i,ai,bi,li,hi,rfl,hai,hrep,hli,hst⟩
 have stop:(i = m ∨ bi = true) → l = li ∧ af = ai ∧ bf = bi:=by
  intro h
  refine Vt hf hai ?_
  rw [← ef]
  rcases h with rfl|rfl
  ·exact hrep
  ·exact wa hrep m hi
 by_cases hgo:i < m ∧ bi = false
 ·obtain ⟨hlt,rfl⟩:=hgo
  obtain ⟨c,p1,p2,p3,p4,p5,d1,d2,d3,d4,d5,ec,hp5,_,k1,k2,k3,k4,k5⟩:=VL s hs ai hai false
  have hrep':=Jd hrep rfl ec
  clear stop ef hrep ec
  rcases hst with ⟨rfl,rfl⟩|⟨hp,rfl⟩
  ·obtain rfl:li = []:=List.eq_nil_of_length_eq_zero hli
   repeat' (first|refine qi ?_|(first|(refine ya ?_)|(apply qc Tryd.func33 rfl rfl;intro hIsFn;refine qF 0 hIsFn (k1) rfl ?_)|(apply qc Tryd.func34 rfl rfl;intro hIsFn;refine qF 0 hIsFn (k2) rfl ?_)|(apply qc Tryd.func34 rfl rfl;intro hIsFn;refine qF 0 hIsFn (k3) rfl ?_)|(apply qc Tryd.func34 rfl rfl;intro hIsFn;refine qF 0 hIsFn (k4) rfl ?_)|(apply qc Tryd.func33 rfl rfl;intro hIsFn;refine qF 0 hIsFn (k5) rfl ?_)|(refine kB ?_))|((first|(apply qb;rfl;rfl;exact nle rfl)|(apply qa;rfl;rfl;exact nle rfl)|refine xsC ?_ ?_);all_goals (intro hc;have hp:=hc;try simp at hp;try (exfalso;omega)))|refine qS ?_ ?_)
   all_goals try (exfalso;omega)
   all_goals (refine ⟨m - (0 + 1),⟨[(0,.op 0 0 0),(3,.os 1 0 (0 + 1)),(4,.v (.int .i64 (m:Int))),(5,.v (.int .i64 ((0 + 1:Nat):Int)))],[(0,yI s p5 d5),(1,.own false 5 ([c].map Chg.row))],2⟩,by omega,?_,⟨0 + 1,p5,d5,[c],by omega,rfl,hp5,hrep',rfl,.inr ⟨Nat.succ_pos _,rfl⟩⟩⟩;refine qy [(2,1)] rfl ?gts ?ghs;(case gts=>(repeat (first|exact qh|refine qA ?_|refine jI ?_|refine jd ?_|refine jK ?_|refine je ?_ ?_|refine jy ?_ ?_));all_goals first|rfl|(simp;omega));(case ghs=>(refine V0 (q:=0) (n:=2) rfl rfl (qd rfl) (qd rfl) rfl rfl (wo _) qe)))
  ·have hml:(li.map Chg.row).length = i:=by rw [List.length_map];exact hli
   repeat' (first|refine qi ?_|(first|(refine ya ?_)|(apply qc Tryd.func33 rfl rfl;intro hIsFn;refine qF 0 hIsFn (k1) rfl ?_)|(apply qc Tryd.func34 rfl rfl;intro hIsFn;refine qF 0 hIsFn (k2) rfl ?_)|(apply qc Tryd.func34 rfl rfl;intro hIsFn;refine qF 0 hIsFn (k3) rfl ?_)|(apply qc Tryd.func34 rfl rfl;intro hIsFn;refine qF 0 hIsFn (k4) rfl ?_)|(apply qc Tryd.func33 rfl rfl;intro hIsFn;refine qF 0 hIsFn (k5) rfl ?_)|(refine zd ?_))|((first|(apply qb;rfl;rfl;exact nle rfl)|(apply qa;rfl;rfl;exact nle rfl)|refine xsC ?_ ?_);all_goals (intro hc;have hp:=hc;try simp at hp;try (exfalso;omega)))|refine qS ?_ ?_)
   all_goals try (exfalso;omega)
   all_goals (refine ⟨m - (i + 1),⟨[(0,.op 0 0 0),(3,.os 1 0 (i + 1)),(4,.v (.int .i64 (m:Int))),(5,.v (.int .i64 ((i + 1:Nat):Int)))],[(0,yI s p5 d5),(1,.own false 5 ((li ++ [c]).map Chg.row))],2⟩,by omega,?_,⟨i + 1,p5,d5,li ++ [c],by omega,rfl,hp5,hrep',by simp [hli],.inr ⟨Nat.succ_pos _,rfl⟩⟩⟩;refine qy [(3,1)] rfl ?gts ?ghs;(case gts=>(repeat (first|exact qh|refine qA ?_|refine jI ?_|refine jd ?_|refine jK ?_|refine je ?_ ?_|refine jy ?_ ?_));all_goals first|rfl|(simp;omega));(case ghs=>(refine V0 (q:=0) (n:=3) rfl rfl (qd rfl) (qd rfl) rfl (by rw [List.take_of_length_le (Nat.le_of_eq hml),List.map_append];rfl) (wo _) qe)))
 ·have hgo:i = m ∨ bi = true:=by
   by_cases h:i < m
   ·exact .inr (by cases bi with|true=>rfl|false=>exact absurd ⟨h,rfl⟩ hgo)
   ·exact .inl (by omega)
  obtain ⟨rfl,rfl,rfl⟩:=stop hgo
  clear ef hrep
  rcases hst with ⟨rfl,rfl⟩|⟨hp,rfl⟩
  ·obtain rfl:l = []:=List.eq_nil_of_length_eq_zero hli
   unfold j5
   refine Awp.red (qy (τ:=⟨[(3,.sl false []),(0,.op 0 0 0),(4,.v (.int .i64 (m:Int))),(5,.v (.int .i64 ((0:Nat):Int)))],[(0,yI s af bf)],1⟩) [] rfl ?gts9 ?ghs9) ?_
   case gts9 =>
    refine W3 ?_
    (repeat (first|exact qh|refine qA ?_|refine jI ?_|refine jd ?_|refine jK ?_|refine je ?_ ?_|refine jy ?_ ?_))
    all_goals rfl
   case ghs9=>(refine ji (q:=0) rfl (qd rfl) rfl qe)
   rcases hgo with rfl|rfl
   all_goals (repeat' (first|refine qi ?_|fail|((first|(apply qb;rfl;rfl;exact nle rfl)|(apply qa;rfl;rfl;exact nle rfl)|refine xsC ?_ ?_);all_goals (intro hc;have hp:=hc;try simp at hp;try (exfalso;omega)))|refine qS ?_ ?_))
   all_goals try (exfalso;omega)
   all_goals ((apply qu (rs:=[.tmp 2]) [] 1;(case hr=>(repeat (first|exact qm|(apply qn;rfl)|(apply qj;rfl;rfl;rfl;rfl;rfl))));(case hL=>rfl);(case hh=>(refine ji (q:=0) rfl (qd rfl) rfl qe));(case hi=>exact rfl);(case hz=>first|rfl|(simp [ju,AV.ren,AV.ren.renL,qP,qr,qL];done))))
  ·unfold j5
   refine Awp.red (xj 1 rfl (wo l)) ?_
   refine Awp.red (YD 3 1 rfl rfl (by rw [List.length_map];omega)) ?_
   rcases hgo with rfl|rfl
   all_goals (repeat' (first|refine qi ?_|fail|((first|(apply qb;rfl;rfl;exact nle rfl)|(apply qa;rfl;rfl;exact nle rfl)|refine xsC ?_ ?_);all_goals (intro hc;have hp:=hc;try simp at hp;try (exfalso;omega)))|refine qS ?_ ?_))
   all_goals try (exfalso;omega)
   all_goals ((apply qu (rs:=[.tmp 2]) [] 1;(case hr=>(repeat (first|exact qm|(apply qn;rfl)|(apply qj;rfl;rfl;rfl;rfl;rfl))));(case hL=>rfl);(case hh=>(refine ji (q:=0) rfl (qd rfl) rfl qe));(case hi=>exact rfl);(case hz=>first|rfl|(simp [ju,AV.ren,AV.ren.renL,qP,qr,qL];done))))
end Go.Proofs.YtahbbnfmbohmmaaDoor
set_option linter.unusedSimpArgs false
set_option linter.unnecessarySimpa false
set_option linter.unusedVariables false
set_option maxHeartbeats 1000000
namespace Go.Proofs.YtahbbnfmbohmmaaDoor
open Go.Ab Go.RowKit
set_option maxRecDepth 10000
theorem Jn (w:WS) (b:Bool):(w.yesR b).s.length ≤ w.s.length + 22:=by
 unfold WS.yesR
 cases b
 ·exact jS w (n:=0) ⟨by decide,by decide⟩
 ·exact jS w (n:=1) ⟨by decide,by decide⟩
theorem Y7 (w:WS) {e:Ent} (h:e.fit):(w.entR e).s.length ≤ w.s.length + 3000:=by
 have h1:=yG w e.path
 have h2:=Jn (w.txtR e.path) e.fold
 have h3:=yG ((w.txtR e.path).yesR e.fold) e.text
 have h4:=jS (((w.txtR e.path).yesR e.fold).txtR e.text) h.ver
 unfold WS.entR
 omega
theorem Y3 (w:WS) {c:Com} (h:c.fit):(w.comR c).s.length ≤ w.s.length + 64000:=by
 have h1:=jS w h.num
 have h2:=yG (w.numR c.num) c.key
 have h3:=Zw ((w.numR c.num).txtR c.key) h.chs
 unfold WS.comR
 omega
noncomputable def jJ:Code:=match Tryd.f16.body with|some c=>c|none => .skip
theorem qbZ:tlW 9 jJ = .seq (wd (tlW 9 jJ)) (.seq (wd (tlW 10 jJ)) (tlW 11 jJ)):=by kernel_rfl
theorem qbY:tlW 7 jJ = .seq (wd (tlW 7 jJ)) (.seq (wd (tlW 8 jJ)) (tlW 9 jJ)):=by kernel_rfl
theorem qbX:jJ = .seq (wd (tlW 0 jJ)) (.seq (wd (tlW 1 jJ)) (.seq (wd (tlW 2 jJ)) (.seq (wd (tlW 3 jJ)) (.seq (wd (tlW 4 jJ)) (.seq (wd (tlW 5 jJ)) (.seq (wd (tlW 6 jJ)) (tlW 7 jJ))))))):=by kernel_rfl
@[reducible] def Ww (p:Pag):List AV:=[.v (.bool p.reset),.sl false (p.tree.map Ent.row),.sl false (p.coms.map Com.row),.v (.int .i64 p.cur),.v (.bool p.more)]
attribute [local irreducible] Awp jU jl qQ Red qD Go.Ab.Fin qt Rz yZ qO qJ ResOk jt qU jN qG
theorem K6 (w:WS) (b:Bool) (hw:w.s.length ≤ 900000000):qt C1.P 42 [.op 0 0 0,.v (.bool b)] [wR w] (.tup []) [wR (w.yesR b)]:=by
 unfold WS.yesR
 cases b
 ·have c:=yx w 0 ⟨by decide,by decide⟩ (by omega)
  refine qf (C:=C1) Tryd.func42 rfl _ Tryd.ntmps42 (Nat.le_of_ble_eq_true rfl) _ Tryd.results42 1 rfl rfl ?_
  repeat' (first|refine qi ?_|(first|(apply qc Tryd.func24 rfl rfl;intro hIsFn;refine qF 0 hIsFn (c) rfl ?_))|((first|(apply qb;rfl;rfl;exact nle rfl)|(apply qa;rfl;rfl;exact nle rfl)|refine xsC ?_ ?_);all_goals (intro hc;have hp:=hc;try simp at hp;try (exfalso;omega)))|refine qS ?_ ?_)
  all_goals ((apply qu (rs:=[]) [] 1;(case hr=>(repeat (first|exact qm|(apply qn;rfl)|(apply qj;rfl;rfl;rfl;rfl;rfl))));(case hL=>rfl);(case hh=>(refine j8 (q:=0) rfl (qd rfl) rfl qe));(case hi=>exact rfl);(case hz=>first|rfl|(simp [ju,AV.ren,AV.ren.renL,qP,qr,qL];done))))
 ·have c:=yx w 1 ⟨by decide,by decide⟩ (by omega)
  refine qf (C:=C1) Tryd.func42 rfl _ Tryd.ntmps42 (Nat.le_of_ble_eq_true rfl) _ Tryd.results42 1 rfl rfl ?_
  repeat' (first|refine qi ?_|(first|(apply qc Tryd.func24 rfl rfl;intro hIsFn;refine qF 0 hIsFn (c) rfl ?_))|((first|(apply qb;rfl;rfl;exact nle rfl)|(apply qa;rfl;rfl;exact nle rfl)|refine xsC ?_ ?_);all_goals (intro hc;have hp:=hc;try simp at hp;try (exfalso;omega)))|refine qS ?_ ?_)
  all_goals ((apply qu (rs:=[]) [] 1;(case hr=>(repeat (first|exact qm|(apply qn;rfl)|(apply qj;rfl;rfl;rfl;rfl;rfl))));(case hL=>rfl);(case hh=>(refine j8 (q:=0) rfl (qd rfl) rfl qe));(case hi=>exact rfl);(case hz=>first|rfl|(simp [ju,AV.ren,AV.ren.renL,qP,qr,qL];done))))
@[reducible] noncomputable def Wn (D:qo × Int):Exit → St → Prop:=ZD C #[ResultVar.tmp 2,ResultVar.tmp 3] 0 (.tup [.v (str D.1),.v (.int .i64 D.2)]) []
@[reducible] def Wo (p:Pag) (w:WS):St:=⟨[(4,.op 0 0 0),(5,.fp [Ww p] 0 0)],[(0,wR w)],1⟩
set_option maxHeartbeats 4000000 in
theorem qbD (p:Pag) (w:WS) (hc:y7 p.cur) (hw:w.s.length ≤ 700000000):Awp C 126 (tlW 11 jJ) (Wn ((w.numR p.cur).yesR p.more).done) (Wo p w):=by
 have l1:=jS w hc
 have c1:=yx w p.cur hc (by omega)
 have c2:=K6 (w.numR p.cur) p.more (by omega)
 have c3:=qaT ((w.numR p.cur).yesR p.more)
 obtain ⟨reset,tree,coms,cur,more⟩:=p
 dsimp only at *
 generalize (w.numR cur).yesR more = w2 at *
 generalize w.numR cur = w1 at *
 clear l1 hc hw
 conv=>arg 3;whnf
 repeat' (first|refine qi ?_|(first|(apply qc Tryd.func24 rfl rfl;intro hIsFn;refine qF 0 hIsFn (c1) rfl ?_)|(apply qc Tryd.func42 rfl rfl;intro hIsFn;refine qF 0 hIsFn (c2) rfl ?_)|(apply qc Tryd.func27 rfl rfl;intro hIsFn;refine qF 0 hIsFn (c3) rfl ?_))|((first|(apply qb;rfl;rfl;exact nle rfl)|(apply qa;rfl;rfl;exact nle rfl)|refine xsC ?_ ?_);all_goals (intro hc;have hp:=hc;try simp at hp;try (exfalso;omega)))|refine qS ?_ ?_)
 all_goals ((refine j1 (rs:=[.tmp 2,.tmp 3]) ?_;(repeat' (first|exact jv|apply jh|exact jg rfl|exact yl|exact xA|apply jQ|apply jX|apply jR|apply jV|apply jB|apply jW|refine xz ?_|apply yv));all_goals rfl))
set_option maxHeartbeats 8000000 in
theorem qaZ (p:Pag) (w:WS) (D:qo × Int) (hfit : ∀ x,x ∈ p.coms → x.fit) (hl:p.coms.length ≤ 10) (hw:w.s.length ≤ 600000000) (hT:Awp C 126 (tlW 11 jJ) (Wn D) (Wo p (p.coms.foldl WS.comR (w.numR p.coms.length)))):Awp C 126 (tlW 9 jJ) (Wn D) (Wo p w):=by
 have hI:y7 (p.coms.length:Int):=⟨by omega,by omega⟩
 have c0:=yx w p.coms.length hI (by omega)
 have l0:=jS w hI
 rw [qbZ]
 generalize tlW 11 jJ = T at *
 conv=>arg 3;arg 1;whnf
 conv=>arg 3;arg 2;arg 1;whnf
 obtain ⟨reset,tree,coms,cur,more⟩:=p
 dsimp only at *
 have hml:(coms.map Com.row).length = coms.length:=List.length_map ..
 rw [← hml] at c0
 rw [← hml] at hT
 rw [← hml] at l0
 generalize w.numR ((coms.map Com.row).length:Int) = v at *
 repeat' (first|refine qi ?_|(first|(apply qc Tryd.func24 rfl rfl;intro hIsFn;refine qF 0 hIsFn (c0) rfl ?_))|((first|(apply qb;rfl;rfl;exact nle rfl)|(apply qa;rfl;rfl;exact nle rfl)|refine xsC ?_ ?_);all_goals (intro hc;have hp:=hc;try simp at hp;try (exfalso;omega)))|refine qS ?_ ?_)
 (refine Awp.red (qy (τ:=⟨[(4,.op 0 0 0),(5,.fp [Ww ⟨reset,tree,coms,cur,more⟩] 0 0),(7,.v (.int .i64 ((0:Nat):Int)))],[(0,wR v)],1⟩) [(0,0)] rfl ?gts2 ?ghs2) ?_;(case gts2=>(repeat (first|exact qh|refine qA ?_|refine jI ?_|refine jd ?_|refine jK ?_|refine je ?_ ?_|refine jy ?_ ?_));all_goals rfl);(case ghs2=>(refine j8 (q:=0) rfl (qd rfl) rfl qe)))
 refine jC (fun n σ => ∃ i:Nat,i ≤ coms.length ∧ n = coms.length - i ∧ σ = ⟨[(4,.op 0 0 0),(5,.fp [Ww ⟨reset,tree,coms,cur,more⟩] 0 0),(7,.v (.int .i64 (i:Int)))],[(0,wR ((coms.take i).foldl WS.comR v))],1⟩) coms.length ⟨0,Nat.zero_le _,rfl,rfl⟩ ?_
 rintro n σ ⟨i,hi,rfl,rfl⟩
 have hb:=yN WS.comR Com.fit 64000 (fun w x hx=>Y3 w hx) (coms.take i) v (fun c hx=>hfit c (List.mem_of_mem_take hx))
 have hti:(coms.take i).length ≤ 10:=by rw [List.length_take];omega
 have hmul:(coms.take i).length * 64000 ≤ 10 * 64000:=Nat.mul_le_mul_right _ hti
 by_cases hlt:i < coms.length
 ·have yA:(coms.map Com.row)[i]? = some (coms[i].row):=by rw [List.getElem?_map,List.getElem?_eq_getElem hlt];rfl
  have hfold:(coms.take (i + 1)).foldl WS.comR v = WS.comR ((coms.take i).foldl WS.comR v) coms[i]:=by
   rw [List.take_succ_eq_append_getElem hlt,List.foldl_append];rfl
  have hf:=hfit coms[i] (List.getElem_mem hlt)
  generalize (coms.take i).foldl WS.comR v = u at *
  generalize coms[i] = x at *
  have hul:u.s.length ≤ 800000000:=by omega
  obtain ⟨x1,x2,x3,x4⟩:=hf
  have l1:=jS u x1
  have l2:=yG (u.numR x.num) x.key
  have c1:=yx u x.num x1 (by omega)
  have c2:=wN (u.numR x.num) x.key x2 (by omega)
  have c3:=ZP ((u.numR x.num).txtR x.key) x.chs x4 x3 (by omega)
  unfold WS.comR at hfold
  generalize ((u.numR x.num).txtR x.key).chgsR x.chs = u3 at *
  generalize (u.numR x.num).txtR x.key = u2 at *
  generalize u.numR x.num = u1 at *
  unfold Com.row at yA
  unfold j5 at yA c3
  clear l1 l2
  clear hT hb hti hul hmul c0 l0 hfit hw
  repeat' (first|refine qi ?_|(first|(apply qc Tryd.func24 rfl rfl;intro hIsFn;refine qF 0 hIsFn (c1) rfl ?_)|(apply qc Tryd.func25 rfl rfl;intro hIsFn;refine qF 0 hIsFn (c2) rfl ?_)|(apply qc Tryd.func26 rfl rfl;intro hIsFn;refine qF 0 hIsFn (c3) rfl ?_))|((first|(apply qb;rfl;rfl;exact nle rfl)|(apply qa;rfl;rfl;exact nle rfl)|refine xsC ?_ ?_);all_goals (intro hc;have hp:=hc;try simp at hp;try (exfalso;omega)))|refine qS ?_ ?_)
  all_goals try (exfalso;omega)
  all_goals (refine ⟨coms.length - (i + 1),⟨[(4,.op 0 0 0),(5,.fp [Ww ⟨reset,tree,coms,cur,more⟩] 0 0),(7,.v (.int .i64 ((i + 1:Nat):Int)))],[(0,wR ((coms.take (i + 1)).foldl WS.comR v))],1⟩,by omega,?_,⟨i + 1,by omega,rfl,rfl⟩⟩;refine qy [(0,0)] rfl ?gts ?ghs;(case gts=>(repeat (first|exact qh|refine qA ?_|refine jI ?_|refine jd ?_|refine jK ?_|refine je ?_ ?_|refine jy ?_ ?_));all_goals first|rfl|(simp;omega));(case ghs=>(refine j8 (q:=0) rfl (qd rfl) hfold.symm qe)))
 ·obtain rfl:i = coms.length:=by omega
  rw [List.take_length]
  clear hb hti hmul c0 l0
  repeat' (first|refine qi ?_|fail|((first|(apply qb;rfl;rfl;exact nle rfl)|(apply qa;rfl;rfl;exact nle rfl)|refine xsC ?_ ?_);all_goals (intro hc;have hp:=hc;try simp at hp;try (exfalso;omega)))|refine qS ?_ ?_)
  all_goals try (exfalso;omega)
  all_goals ((refine Awp.red (qy (τ:=⟨[(4,.op 0 0 0),(5,.fp [Ww ⟨reset,tree,coms,cur,more⟩] 0 0)],[(0,wR (coms.foldl WS.comR v))],1⟩) [(0,0)] rfl ?gts2 ?ghs2) ?_;(case gts2=>(repeat (first|exact qh|refine qA ?_|refine jI ?_|refine jd ?_|refine jK ?_|refine je ?_ ?_|refine jy ?_ ?_));all_goals rfl);(case ghs2=>(refine j8 (q:=0) rfl (qd rfl) rfl qe)));exact hT)
set_option maxHeartbeats 8000000 in
theorem qa0 (p:Pag) (w:WS) (D:qo × Int) (hfit : ∀ x,x ∈ p.tree → x.fit) (hl:p.tree.length ≤ 60) (hw:w.s.length ≤ 500000000) (hT:Awp C 126 (tlW 9 jJ) (Wn D) (Wo p (p.tree.foldl WS.entR (w.numR p.tree.length)))):Awp C 126 (tlW 7 jJ) (Wn D) (Wo p w):=by
 have hI:y7 (p.tree.length:Int):=⟨by omega,by omega⟩
 have c0:=yx w p.tree.length hI (by omega)
 have l0:=jS w hI
 rw [qbY]
 generalize tlW 9 jJ = T at *
 conv=>arg 3;arg 1;whnf
 conv=>arg 3;arg 2;arg 1;whnf
 obtain ⟨reset,tree,coms,cur,more⟩:=p
 dsimp only at *
 have hml:(tree.map Ent.row).length = tree.length:=List.length_map ..
 rw [← hml] at c0
 rw [← hml] at hT
 rw [← hml] at l0
 generalize w.numR ((tree.map Ent.row).length:Int) = v at *
 repeat' (first|refine qi ?_|(first|(apply qc Tryd.func24 rfl rfl;intro hIsFn;refine qF 0 hIsFn (c0) rfl ?_))|((first|(apply qb;rfl;rfl;exact nle rfl)|(apply qa;rfl;rfl;exact nle rfl)|refine xsC ?_ ?_);all_goals (intro hc;have hp:=hc;try simp at hp;try (exfalso;omega)))|refine qS ?_ ?_)
 (refine Awp.red (qy (τ:=⟨[(4,.op 0 0 0),(5,.fp [Ww ⟨reset,tree,coms,cur,more⟩] 0 0),(6,.v (.int .i64 ((0:Nat):Int)))],[(0,wR v)],1⟩) [(0,0)] rfl ?gts2 ?ghs2) ?_;(case gts2=>(repeat (first|exact qh|refine qA ?_|refine jI ?_|refine jd ?_|refine jK ?_|refine je ?_ ?_|refine jy ?_ ?_));all_goals rfl);(case ghs2=>(refine j8 (q:=0) rfl (qd rfl) rfl qe)))
 refine jC (fun n σ => ∃ i:Nat,i ≤ tree.length ∧ n = tree.length - i ∧ σ = ⟨[(4,.op 0 0 0),(5,.fp [Ww ⟨reset,tree,coms,cur,more⟩] 0 0),(6,.v (.int .i64 (i:Int)))],[(0,wR ((tree.take i).foldl WS.entR v))],1⟩) tree.length ⟨0,Nat.zero_le _,rfl,rfl⟩ ?_
 rintro n σ ⟨i,hi,rfl,rfl⟩
 have hb:=yN WS.entR Ent.fit 3000 (fun w x hx=>Y7 w hx) (tree.take i) v (fun c hx=>hfit c (List.mem_of_mem_take hx))
 have hti:(tree.take i).length ≤ 60:=by rw [List.length_take];omega
 have hmul:(tree.take i).length * 3000 ≤ 60 * 3000:=Nat.mul_le_mul_right _ hti
 by_cases hlt:i < tree.length
 ·have yA:(tree.map Ent.row)[i]? = some (tree[i].row):=by rw [List.getElem?_map,List.getElem?_eq_getElem hlt];rfl
  have hfold:(tree.take (i + 1)).foldl WS.entR v = WS.entR ((tree.take i).foldl WS.entR v) tree[i]:=by
   rw [List.take_succ_eq_append_getElem hlt,List.foldl_append];rfl
  have hf:=hfit tree[i] (List.getElem_mem hlt)
  generalize (tree.take i).foldl WS.entR v = u at *
  generalize tree[i] = x at *
  have hul:u.s.length ≤ 800000000:=by omega
  obtain ⟨x1,x2,x3⟩:=hf
  have l1:=yG u x.path
  have l2:=Jn (u.txtR x.path) x.fold
  have l3:=yG ((u.txtR x.path).yesR x.fold) x.text
  have c1:=wN u x.path x1 (by omega)
  have c2:=K6 (u.txtR x.path) x.fold (by omega)
  have c3:=wN ((u.txtR x.path).yesR x.fold) x.text x2 (by omega)
  have c4:=yx (((u.txtR x.path).yesR x.fold).txtR x.text) x.ver x3 (by omega)
  unfold WS.entR at hfold
  generalize (((u.txtR x.path).yesR x.fold).txtR x.text).numR x.ver = u4 at *
  generalize ((u.txtR x.path).yesR x.fold).txtR x.text = u3 at *
  generalize (u.txtR x.path).yesR x.fold = u2 at *
  generalize u.txtR x.path = u1 at *
  unfold Ent.row at yA
  clear l1 l2 l3
  clear hT hb hti hul hmul c0 l0 hfit hw
  repeat' (first|refine qi ?_|(first|(apply qc Tryd.func25 rfl rfl;intro hIsFn;refine qF 0 hIsFn (c1) rfl ?_)|(apply qc Tryd.func42 rfl rfl;intro hIsFn;refine qF 0 hIsFn (c2) rfl ?_)|(apply qc Tryd.func25 rfl rfl;intro hIsFn;refine qF 0 hIsFn (c3) rfl ?_)|(apply qc Tryd.func24 rfl rfl;intro hIsFn;refine qF 0 hIsFn (c4) rfl ?_))|((first|(apply qb;rfl;rfl;exact nle rfl)|(apply qa;rfl;rfl;exact nle rfl)|refine xsC ?_ ?_);all_goals (intro hc;have hp:=hc;try simp at hp;try (exfalso;omega)))|refine qS ?_ ?_)
  all_goals try (exfalso;omega)
  all_goals (refine ⟨tree.length - (i + 1),⟨[(4,.op 0 0 0),(5,.fp [Ww ⟨reset,tree,coms,cur,more⟩] 0 0),(6,.v (.int .i64 ((i + 1:Nat):Int)))],[(0,wR ((tree.take (i + 1)).foldl WS.entR v))],1⟩,by omega,?_,⟨i + 1,by omega,rfl,rfl⟩⟩;refine qy [(0,0)] rfl ?gts ?ghs;(case gts=>(repeat (first|exact qh|refine qA ?_|refine jI ?_|refine jd ?_|refine jK ?_|refine je ?_ ?_|refine jy ?_ ?_));all_goals first|rfl|(simp;omega));(case ghs=>(refine j8 (q:=0) rfl (qd rfl) hfold.symm qe)))
 ·obtain rfl:i = tree.length:=by omega
  rw [List.take_length]
  clear hb hti hmul c0 l0
  repeat' (first|refine qi ?_|fail|((first|(apply qb;rfl;rfl;exact nle rfl)|(apply qa;rfl;rfl;exact nle rfl)|refine xsC ?_ ?_);all_goals (intro hc;have hp:=hc;try simp at hp;try (exfalso;omega)))|refine qS ?_ ?_)
  all_goals try (exfalso;omega)
  all_goals ((refine Awp.red (qy (τ:=⟨[(4,.op 0 0 0),(5,.fp [Ww ⟨reset,tree,coms,cur,more⟩] 0 0)],[(0,wR (tree.foldl WS.entR v))],1⟩) [(0,0)] rfl ?gts2 ?ghs2) ?_;(case gts2=>(repeat (first|exact qh|refine qA ?_|refine jI ?_|refine jd ?_|refine jK ?_|refine je ?_ ?_|refine jy ?_ ?_));all_goals rfl);(case ghs2=>(refine j8 (q:=0) rfl (qd rfl) rfl qe)));exact hT)
set_option maxHeartbeats 4000000 in
theorem Kf (a:Ans) (h:a.fit):zm C.P 16 [.agg a.row] (.tup [.v (str (xL a).1),.v (.int .i64 (xL a).2)]):=by
 rw [← z6]
 unfold Jj
 by_cases hbig:60 < a.page.tree.length ∨ 10 < a.page.coms.length
 ·rw [if_pos hbig]
  have h1:=h.tlen
  have h2:=h.clen
  obtain ⟨err,num,reset,tree,coms,cur,more⟩:=a
  dsimp only at *
  have hml:(tree.map Ent.row).length = tree.length:=List.length_map ..
  have hml2:(coms.map Com.row).length = coms.length:=List.length_map ..
  unfold Ans.row yf yh
  refine qf Tryd.func16 rfl _ Tryd.ntmps16 (Nat.le_of_ble_eq_true rfl) _ Tryd.results16 0 rfl rfl ?_
  repeat' (first|refine qi ?_|fail|((first|(apply qb;rfl;rfl;exact nle rfl)|(apply qa;rfl;rfl;exact nle rfl)|refine xsC ?_ ?_);all_goals (intro hc;have hp:=hc;try simp at hp;try (exfalso;omega)))|refine qS ?_ ?_)
  all_goals try (exfalso;omega)
  all_goals ((refine j1 (rs:=[.tmp 2,.tmp 3]) ?_;(repeat' (first|exact jv|apply jh|exact jg rfl|exact yl|exact xA|apply jQ|apply jX|apply jR|apply jV|apply jB|apply jW|refine xz ?_|apply yv));all_goals rfl))
 ·rw [if_neg hbig]
  have hT:=h.tree
  have hC:=h.coms
  have l0:ws0.s.length = 0:=rfl
  have l1:=jS ws0 h.err
  have l2:=jS (ws0.numR a.err) h.num
  have l3:=Jn ((ws0.numR a.err).numR a.num) a.page.reset
  have c1:=yx ws0 a.err h.err (by omega)
  have c2:=yx (ws0.numR a.err) a.num h.num (by omega)
  have c3:=K6 ((ws0.numR a.err).numR a.num) a.page.reset (by omega)
  unfold WS.ansR
  unfold ws0 at c1
  generalize hw0:ws0 = w0 at *
  generalize hw3:((w0.numR a.err).numR a.num).yesR a.page.reset = w3 at *
  have l4:=jS w3 (n:=a.page.tree.length) ⟨by omega,by omega⟩
  have b4:=yN WS.entR Ent.fit 3000 (fun w x hx=>Y7 w hx) a.page.tree (w3.numR a.page.tree.length) hT
  have m4:a.page.tree.length * 3000 ≤ 60 * 3000:=Nat.mul_le_mul_right _ (by omega)
  generalize hw4:a.page.tree.foldl WS.entR (w3.numR a.page.tree.length) = w4 at *
  have l5:=jS w4 (n:=a.page.coms.length) ⟨by omega,by omega⟩
  have b5:=yN WS.comR Com.fit 64000 (fun w x hx=>Y3 w hx) a.page.coms (w4.numR a.page.coms.length) hC
  have m5:a.page.coms.length * 64000 ≤ 10 * 64000:=Nat.mul_le_mul_right _ (by omega)
  generalize hw5:a.page.coms.foldl WS.comR (w4.numR a.page.coms.length) = w5 at *
  have t3:=qbD a.page w5 h.cur (by omega)
  rw [← hw5] at t3
  have t2:=qaZ a.page w4 _ hC (by omega) (by omega) t3
  rw [← hw4] at t2
  have t1:=qa0 a.page w3 _ hT (by omega) (by omega) t2
  rw [hw4,hw5] at t1
  clear t2 t3 hw5 hw4 hw3 l0 l1 l2 l3 l4 l5 b4 b5 m4 m5 hT hC
  obtain ⟨err,num,reset,tree,coms,cur,more⟩:=a
  dsimp only at *
  generalize ((w5.numR cur).yesR more).done = D at *
  generalize (w0.numR err).numR num = w2 at *
  subst hw0
  generalize hw1:ws0.numR err = w1 at *
  have e1:(WS.mk [] false false).numR err = w1:=hw1
  rw [e1] at c1
  clear hw1 e1 h
  have hml:(tree.map Ent.row).length = tree.length:=List.length_map ..
  have hml2:(coms.map Com.row).length = coms.length:=List.length_map ..
  unfold Ans.row yf yh
  refine qf Tryd.func16 rfl _ Tryd.ntmps16 (Nat.le_of_ble_eq_true rfl) _ Tryd.results16 0 rfl rfl ?_
  change Awp C 126 jJ _ _
  rw [qbX]
  generalize tlW 7 jJ = T at *
  conv=>arg 3;arg 1;whnf
  conv=>arg 3;arg 2;arg 1;whnf
  conv=>arg 3;arg 2;arg 2;arg 1;whnf
  conv=>arg 3;arg 2;arg 2;arg 2;arg 1;whnf
  conv=>arg 3;arg 2;arg 2;arg 2;arg 2;arg 1;whnf
  conv=>arg 3;arg 2;arg 2;arg 2;arg 2;arg 2;arg 1;whnf
  conv=>arg 3;arg 2;arg 2;arg 2;arg 2;arg 2;arg 2;arg 1;whnf
  repeat' (first|refine qi ?_|(first|(apply qc Tryd.func24 rfl rfl;intro hIsFn;refine qF 1 hIsFn (c1) rfl ?_)|(apply qc Tryd.func24 rfl rfl;intro hIsFn;refine qF 1 hIsFn (c2) rfl ?_)|(apply qc Tryd.func42 rfl rfl;intro hIsFn;refine qF 1 hIsFn (c3) rfl ?_))|((first|(apply qb;rfl;rfl;exact nle rfl)|(apply qa;rfl;rfl;exact nle rfl)|refine xsC ?_ ?_);all_goals (intro hc;have hp:=hc;try simp at hp;try (exfalso;omega)))|refine qS ?_ ?_)
  all_goals try (exfalso;omega)
  all_goals (refine xsZ 5 2 ?_)
  all_goals ((refine Awp.red (qy (τ:=⟨[(4,.op 0 0 0),(5,.fp [Ww ⟨reset,tree,coms,cur,more⟩] 0 0)],[(0,wR w3)],1⟩) [(1,0)] rfl ?gts2 ?ghs2) ?_;(case gts2=>(repeat (first|exact qh|refine qA ?_|refine jI ?_|refine jd ?_|refine jK ?_|refine je ?_ ?_|refine jy ?_ ?_));all_goals rfl);(case ghs2=>(refine j8 (q:=1) rfl (qd rfl) rfl qe)));exact t1)
end Go.Proofs.YtahbbnfmbohmmaaDoor
