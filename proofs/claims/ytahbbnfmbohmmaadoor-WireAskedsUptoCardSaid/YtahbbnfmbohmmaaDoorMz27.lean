import Derived.Test.YtahbbnfmbohmmaaDoorMz26
import Derived.Test.YtahbbnfmbohmmaaDoorMz14
import Derived.Test.YtahbbnfmbohmmaaDoorMz8
set_option linter.unusedSimpArgs false
set_option linter.unnecessarySimpa false
set_option linter.unusedVariables false
set_option maxHeartbeats 1000000
namespace Go.Proofs.YtahbbnfmbohmmaaDoor
open Go.Ab Go.RowKit
set_option maxRecDepth 10000
attribute [local irreducible] Awp jE qX qG Red qx Go.Ab.Fin qp Rz yI qE qB ResOk je qJ jx qy
theorem Yg (a b:Rqt) (h5:a.chs.length ≤ 1000000000) (h6:b.chs.length ≤ 1000000000):kg C.P 14 [.agg a.row,.agg b.row] (.v (.bool (decide (a = b)))):=by
 have g3:=Qm a.chs b.chs h5 h6
 have hin:decide (a = b) = (decide (a.kind = b.kind) && decide (a.who = b.who) && decide (a.folder = b.folder) && decide (a.name = b.name) && decide (a.key = b.key) && decide (a.text = b.text) && decide (a.number = b.number) && decide (a.offset = b.offset) && decide (a.base = b.base) && decide (a.chs = b.chs)):=by
  obtain ⟨x1,x2,x3,x4,x5,x6,x7,x8,x9,x10⟩:=a
  obtain ⟨y1,y2,y3,y4,y5,y6,y7,y8,y9,y10⟩:=b
  rw [Bool.eq_iff_iff];simp [and_assoc]
 rw [hin]
 generalize decide (a.chs = b.chs) = D3 at *
 clear hin h5 h6
 refine qe Tryd.func14 rfl _ Tryd.ntmps14 (Nat.le_of_ble_eq_true rfl) _ Tryd.results14 0 rfl rfl ?_
 repeat' (first|refine kf ?_|(first|refine xsF Tryd.func36 (g3 ..) ?_)|((first|(apply qb;rfl;rfl;exact nle rfl)|(apply qa;rfl;rfl;exact nle rfl)|refine xsC ?_ ?_);all_goals (intro hc;have hp:=hc;try simp at hp;try (exfalso;omega)))|refine jl ?_ ?_)
 all_goals (apply zT;rfl;clear g3;simp_all)
set_option maxHeartbeats 4000000 in
theorem Xz (s:qh) (hs:s.length ≤ 1000000000):kg C.P 13 [.v (str s)] (.tup [.agg (yD s).1.row,.v (.int .i64 (yD s).2)]):=by
 rw [← Yi]
 obtain ⟨a1,v1,b1,h1,e1,f1,c1⟩:=xa s hs 0 (Nat.zero_le _) false
 obtain ⟨a2,v2,b2,h2,e2,f2,c2⟩:=vX s hs a1 h1 b1
 obtain ⟨a3,v3,b3,h3,e3,f3,c3⟩:=vX s hs a2 h2 b2
 obtain ⟨a4,v4,b4,h4,e4,f4,c4⟩:=vX s hs a3 h3 b3
 obtain ⟨a5,v5,b5,h5,e5,f5,c5⟩:=vX s hs a4 h4 b4
 obtain ⟨a6,v6,b6,h6,e6,f6,c6⟩:=vX s hs a5 h5 b5
 obtain ⟨a7,v7,b7,h7,e7,f7,c7⟩:=xa s hs a6 h6 b6
 obtain ⟨a8,v8,b8,h8,e8,f8,c8⟩:=xa s hs a7 h7 b7
 obtain ⟨a9,v9,b9,h9,e9,f9,c9⟩:=xa s hs a8 h8 b8
 obtain ⟨az,vz,bz,hz,ez,fz,fl,cz⟩:=Va s hs a9 h9 b9
 have er:kP ⟨s,false⟩ = (⟨v1,v2,v3,v4,v5,v6,v7,v8,v9,vz⟩,⟨s.drop az,bz⟩):=by
  rw [List.drop_zero] at e1
  unfold kP
  simp only [e1,e2,e3,e4,e5,e6,e7,e8,e9,ez]
 have ca:=Zu ⟨v1,v2,v3,v4,v5,v6,v7,v8,v9,vz⟩ ⟨f1,f2,f3,f4,f5,f6,f7,f8,f9,fz,by dsimp only;omega⟩
 have hx:QQ s = if bz = true ∨ az ≠ s.length ∨ (vv ⟨v1,v2,v3,v4,v5,v6,v7,v8,v9,vz⟩).2 ≠ 0 then (noRqt,1) else (⟨v1,v2,v3,v4,v5,v6,v7,v8,v9,vz⟩,0):=by
  unfold QQ
  rw [er,zK]
  have:(s.drop az ≠ []) ↔ az ≠ s.length:=by
   rw [ne_eq,List.drop_eq_nil_iff]
   omega
  simp only [this]
 rw [hx]
 clear hx er e1 e2 e3 e4 e5 e6 e7 e8 e9 ez f1 f2 f3 f4 f5 f6 f7 f8 f9 fz h1 h2 h3 h4 h5 h6 h7 h8 h9
 generalize (vv ⟨v1,v2,v3,v4,v5,v6,v7,v8,v9,vz⟩).1 = T at *
 generalize (vv ⟨v1,v2,v3,v4,v5,v6,v7,v8,v9,vz⟩).2 = ee at *
 unfold Rqt.row jz at ca
 dsimp only at ca
 unfold jz at cz
 refine qe Tryd.func13 rfl _ Tryd.ntmps13 (Nat.le_of_ble_eq_true rfl) _ Tryd.results13 0 rfl rfl ?_
 repeat' (first|(first|(apply xF;apply XO;(case hp=>rfl);(case hn=>rfl);(case hT=>(first|rfl|assumption|(apply qr;assumption)|(apply qr;apply qr;assumption)));(case hx=>(conv=>lhs;whnf));(case hc=>rfl);(case hl=>rfl);(case hs=>rfl);(case hj=>exact nle rfl);(case he=>(simp only [Nat.zero_add,Nat.reduceAdd,List.set_cons_zero,List.set_cons_succ]<;>exact rfl)))|(apply yX;apply (XN [.v (.int .i64 0),.v (str []),.v (str []),.v (str []),.v (str []),.v (str []),.v (.int .i64 0),.v (.int .i64 0),.v (.int .i64 0),.sl true []]);(case hT=>rfl);(case hz=>rfl);(case hN=>exact nle rfl))|(apply qo;apply (xW (T:=24) (cs:=[.v (.int .i64 0),.v (str []),.v (str []),.v (str []),.v (str []),.v (str []),.v (.int .i64 0),.v (.int .i64 0),.v (.int .i64 0),.sl true []]));rfl;rfl;rfl;kernel_rfl;exact nle rfl)|(apply qc Tryd.func33 rfl rfl;intro hIsFn;refine qD 1 hIsFn (c1) rfl ?_)|(apply qc Tryd.func34 rfl rfl;intro hIsFn;refine qD 1 hIsFn (c2) rfl ?_)|(apply qc Tryd.func34 rfl rfl;intro hIsFn;refine qD 1 hIsFn (c3) rfl ?_)|(apply qc Tryd.func34 rfl rfl;intro hIsFn;refine qD 1 hIsFn (c4) rfl ?_)|(apply qc Tryd.func34 rfl rfl;intro hIsFn;refine qD 1 hIsFn (c5) rfl ?_)|(apply qc Tryd.func34 rfl rfl;intro hIsFn;refine qD 1 hIsFn (c6) rfl ?_)|(apply qc Tryd.func33 rfl rfl;intro hIsFn;refine qD 1 hIsFn (c7) rfl ?_)|(apply qc Tryd.func33 rfl rfl;intro hIsFn;refine qD 1 hIsFn (c8) rfl ?_)|(apply qc Tryd.func33 rfl rfl;intro hIsFn;refine qD 1 hIsFn (c9) rfl ?_)|(apply qc Tryd.func35 rfl rfl;intro hIsFn;refine qD 1 hIsFn (cz) rfl ?_)|refine xsQ Tryd.func9 (ca ..) ?_)|refine qm ?_|((first|(apply qb;rfl;rfl;exact nle rfl)|(apply qa;rfl;rfl;exact nle rfl)|refine xsC ?_ ?_);all_goals (intro hc;have hp:=hc;try simp at hp;try (exfalso;omega)))|refine jl ?_ ?_)
 all_goals try (exfalso;omega)
 all_goals first
  | (rw [if_pos (by first|exact .inl (by assumption)|exact .inr (.inl (by omega))|exact .inr (.inr (by omega)))];unfold noRqt Rqt.row jz;dsimp only [List.map_nil];(refine yb (rs:=[.cell 2 24,.tmp 3]) ?_;(repeat' (first|exact jB|apply jm|exact jb rfl|exact yr|exact vB|apply jU|apply j7|apply jV|apply j5|apply jM|apply j6|refine vA ?_|apply yJ));all_goals rfl);done)
  | (rw [if_neg (by rintro (h|h|h)<;>first|omega|(exact absurd (by assumption) (fun h'=>by rw [h'] at h;exact absurd h Bool.false_ne_true))|(simp_all;done))];unfold Rqt.row jz;dsimp only;(refine yb (rs:=[.cell 2 24,.tmp 3]) ?_;(repeat' (first|exact jB|apply jm|exact jb rfl|exact yr|exact vB|apply jU|apply j7|apply jV|apply j5|apply jM|apply j6|refine vA ?_|apply yJ));all_goals rfl);done)
theorem Yh (s:qh) (hs:s.length ≤ 1000000000):(yD s).1.chs.length ≤ 1000000000:=by
 unfold yD
 split
 ·exact Nat.zero_le _
 ·rename_i q r hq
  obtain ⟨e1,e2⟩:=rd_rqt.of _ _ _ hq
  have hf:q.fit:=J5 e2 (by have:=congrArg List.length e1;rw [List.length_append] at this;omega)
  split
  ·exact hf.len
  ·exact Nat.zero_le _
theorem JP (s:qh) (hs:s.length ≤ 1000000000):kg C.P 4 [.v (str s)] (.v (.bool true)):=by
 have c1:=YX s hs
 have c2:=Xz s hs
 have c3:=Vm
 have hl:=Yh s hs
 generalize yD s = p at *
 obtain ⟨q,e⟩:=p
 dsimp only at *
 have c4:=Yg q q hl hl
 rw [decide_eq_true rfl] at c4
 unfold Rqt.row jz at *
 refine qe Tryd.func4 rfl _ Tryd.ntmps4 (Nat.le_of_ble_eq_true rfl) _ Tryd.results4 0 rfl rfl ?_
 repeat' (first|refine qm ?_|(first|refine xsQ Tryd.func12 (c1 ..) ?_|refine xsQ Tryd.func13 (c2 ..) ?_|refine xsF Tryd.func10 (c3 ..) ?_|refine xsF Tryd.func14 (c4 ..) ?_)|((first|(apply qb;rfl;rfl;exact nle rfl)|(apply qa;rfl;rfl;exact nle rfl)|refine xsC ?_ ?_);all_goals (intro hc;have hp:=hc;try simp at hp;try (exfalso;omega)))|refine jl ?_ ?_)
 all_goals ((refine yb (rs:=[.tmp 2]) ?_;(repeat' (first|exact jB|apply jm|exact jb rfl|exact yr|exact vB|apply jU|apply j7|apply jV|apply j5|apply jM|apply j6|refine vA ?_|apply yJ));all_goals rfl))
end Go.Proofs.YtahbbnfmbohmmaaDoor
set_option linter.unusedSimpArgs false
set_option linter.unnecessarySimpa false
set_option linter.unusedVariables false
namespace Go.Proofs.YtahbbnfmbohmmaaDoor
open Go.Ab Go.RowKit
theorem kO (ys:List AV) (h:QO C.tab 1000000000 [9] ys):kg C.P 4 ys (.v (.bool true)):=by
 obtain ⟨_,_,rfl,h0,rfl⟩:=h
 obtain ⟨a,rfl,ha⟩:=Z9 h0
 exact JP a ha
end Go.Proofs.YtahbbnfmbohmmaaDoor
