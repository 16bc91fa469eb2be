import Derived.Test.YtahbbnfmbohmmaaDoorMz27
import Derived.Test.YtahbbnfmbohmmaaDoorMz14
import Derived.Test.YtahbbnfmbohmmaaDoorMz8
import Derived.Test.YtahbbnfmbohmmaaDoorMz29
set_option linter.unusedSimpArgs false
set_option linter.unnecessarySimpa false
set_option linter.unusedVariables false
set_option maxHeartbeats 1000000
namespace Go.Proofs.YtahbbnfmbohmmaaDoor
open Go.Ab Go.RowKit
set_option maxRecDepth 10000
attribute [local irreducible] Awp jE qY qK Red qA Go.Ab.Fin qp Rz yL qJ qE ResOk jl qL jA qB
theorem Xp (a b:Rqt) (h5:a.chs.length ≤ 1000000000) (h6:b.chs.length ≤ 1000000000):zb C.P 14 [.agg a.row,.agg b.row] (.v (.bool (decide (a = b)))):=by
 have g3:=zR a.chs b.chs h5 h6
 have hin:decide (a = b) = (decide (a.kind = b.kind) && decide (a.who = b.who) && decide (a.folder = b.folder) && decide (a.name = b.name) && decide (a.key = b.key) && decide (a.text = b.text) && decide (a.number = b.number) && decide (a.offset = b.offset) && decide (a.base = b.base) && decide (a.chs = b.chs)):=by
  obtain ⟨x1,x2,x3,x4,x5,x6,x7,x8,x9,x10⟩:=a
  obtain ⟨y1,y2,y3,y4,y5,y6,y7,y8,y9,y10⟩:=b
  rw [Bool.eq_iff_iff];simp [and_assoc]
 rw [hin]
 generalize decide (a.chs = b.chs) = D3 at *
 clear hin h5 h6
 refine qf Tryd.func14 rfl _ Tryd.ntmps14 (Nat.le_of_ble_eq_true rfl) _ Tryd.results14 0 rfl rfl ?_
 repeat' (first|refine zi ?_|(first|refine xsF Tryd.func36 (g3 ..) ?_)|((first|(apply qb;rfl;rfl;exact nle rfl)|(apply qa;rfl;rfl;exact nle rfl)|refine xsC ?_ ?_);all_goals (intro hc;have hp:=hc;try simp at hp;try (exfalso;omega)))|refine jm ?_ ?_)
 all_goals (apply yx;rfl;clear g3;simp_all)
end Go.Proofs.YtahbbnfmbohmmaaDoor
set_option linter.unusedSimpArgs false
set_option linter.unnecessarySimpa false
set_option linter.unusedVariables false
set_option maxHeartbeats 1000000
namespace Go.Proofs.YtahbbnfmbohmmaaDoor
open Go.Ab Go.RowKit
set_option maxRecDepth 10000
@[reducible] def z7:List AV:=[.v (.int .i64 0),.v (.int .i64 0),.v (.bool false),.sl true [],.sl true [],.v (.int .i64 0),.v (.bool false)]
@[reducible] def r7 (e n:Int) (r:Bool) (T K:AV):List AV:=[.v (.int .i64 e),.v (.int .i64 n),.v (.bool r),T,K,.v (.int .i64 0),.v (.bool false)]
@[reducible] def qa0 (s:qj) (row:List AV) (a:Nat) (b:Bool):St:=⟨[(0,.v (str s)),(2,.op 0 0 0),(4,.op 1 0 0),(5,.op 2 0 0)],[(0,.own true 7 [z7]),(1,scH s a b),(2,.own true 7 [row])],3⟩
@[reducible] noncomputable def qaZ (R:AV):Exit → St → Prop:=WY C #[ResultVar.cell 2 40,ResultVar.tmp 3] 0 R []
attribute [local irreducible] Awp jE qY qK Red qA Go.Ab.Fin qp Rz yL qJ qE ResOk jl qL jA qB
end Go.Proofs.YtahbbnfmbohmmaaDoor
set_option linter.unusedSimpArgs false
set_option linter.unnecessarySimpa false
set_option linter.unusedVariables false
set_option maxHeartbeats 1000000
namespace Go.Proofs.YtahbbnfmbohmmaaDoor
open Go.Ab Go.RowKit
set_option maxRecDepth 10000
attribute [local irreducible] Awp jE qY qK Red qA Go.Ab.Fin qp Rz yL qJ qE ResOk jl qL jA qB
theorem Yy (a b:List Com) (hla:a.length ≤ 1000000000) (hlb:b.length ≤ 1000000000) (ha : ∀ x,x ∈ a → x.chs.length ≤ 1000000000) (hb : ∀ x,x ∈ b → x.chs.length ≤ 1000000000):zb C.P 65 [j3 a,j3 b] (.v (.bool (decide (a = b)))):=by
 have hma:(a.map Com.row).length = a.length:=List.length_map ..
 have hmb:(b.map Com.row).length = b.length:=List.length_map ..
 refine qf Tryd.func65 rfl _ Tryd.ntmps65 (Nat.le_of_ble_eq_true rfl) _ Tryd.results65 0 rfl rfl ?_
 repeat' (first|refine zi ?_|fail|((first|(apply qb;rfl;rfl;exact nle rfl)|(apply qa;rfl;rfl;exact nle rfl)|refine xsC ?_ ?_);all_goals (intro hc;have hp:=hc;try simp at hp;try (exfalso;omega)))|refine jm ?_ ?_)
 ·apply yx
  rfl
  have hne:¬ a = b:=fun e=>by subst e;simp at *
  simp [hne]
 have hab:a.length = b.length:=by simp at *;omega
 (refine Awp.red (vH (ts:=[(0,j3 a),(1,j3 b),(5,.v (.int .i64 ((0:Nat):Int)))]) ?_) ?_;((repeat (first|exact ql|refine qZ ?_|refine yf ?_ ?_))))
 refine jW (fun n σ => ∃ i:Nat,i ≤ a.length ∧ n = a.length - i ∧ (a.take i = b.take i) ∧ σ = ⟨[(0,j3 a),(1,j3 b),(5,.v (.int .i64 (i:Int)))],[],C.nh⟩) a.length ⟨0,Nat.zero_le _,rfl,rfl,rfl⟩ ?_
 rintro n σ ⟨i,hi,rfl,hsofar,rfl⟩
 by_cases hlt:i < a.length
 ·have hlt2:i < b.length:=by omega
  have hr:=xG (f:=Com.row) hlt
  have hr':=xG (f:=Com.row) hlt2
  have hnx:=wo hlt hlt2 hsofar
  have hsc:=zR a[i].chs b[i].chs (ha _ (List.getElem_mem _)) (hb _ (List.getElem_mem _))
  have hin:a[i] = b[i] ↔ a[i].num = b[i].num ∧ a[i].key = b[i].key ∧ a[i].chs = b[i].chs:=by
   obtain ⟨x1,x2,x3⟩:=a[i]
   obtain ⟨y1,y2,y3⟩:=b[i]
   simp
  have hne:¬ a[i] = b[i] → ¬ a = b:=fun h e=>h (by subst e;rfl)
  generalize hD:decide (a[i].chs = b[i].chs) = D at *
  repeat' (first|refine zi ?_|(first|refine xsF Tryd.func36 (hsc ..) ?_)|((first|(apply qb;rfl;rfl;exact nle rfl)|(apply qa;rfl;rfl;exact nle rfl)|refine xsC ?_ ?_);all_goals (intro hc;have hp:=hc;try simp at hp;try (exfalso;omega)))|refine jm ?_ ?_)
  all_goals try (exfalso;omega)
  all_goals first
   | (refine ⟨a.length - (i + 1),_,by omega,vH (ts:=[(0,j3 a),(1,j3 b),(5,.v (.int .i64 ((i + 1:Nat):Int)))]) ?_,i + 1,by omega,rfl,(hnx (by rw [hin];simp_all)),rfl⟩;((repeat (first|exact ql|refine qZ ?_|refine yf ?_ ?_))))
   | (apply yx;rfl;have hx:=hne (by rw [hin];simp_all);simp [hx])
 obtain rfl:i = a.length:=by omega
 have he:a = b:=by rw [List.take_length] at hsofar;rw [hsofar,hab,List.take_length]
 repeat' (first|refine zi ?_|fail|((first|(apply qb;rfl;rfl;exact nle rfl)|(apply qa;rfl;rfl;exact nle rfl)|refine xsC ?_ ?_);all_goals (intro hc;have hp:=hc;try simp at hp;try (exfalso;omega)))|refine jm ?_ ?_)
 all_goals try (exfalso;omega)
 apply yx
 rfl
 simp [he]
theorem Xo (a:Pag) (h1:a.tree.length ≤ 1000000000) (h2:a.coms.length ≤ 1000000000) (h3 : ∀ x,x ∈ a.coms → x.chs.length ≤ 1000000000):zb C.P 51 [.agg a.row,.agg a.row] (.v (.bool true)):=by
 have g1:=Q2 a.tree a.tree h1 h1
 have g2:=Yy a.coms a.coms h2 h2 h3 h3
 rw [decide_eq_true rfl] at g1 g2
 have e0:decide (a.cur = a.cur) = true:=by simp
 refine qf Tryd.func51 rfl _ Tryd.ntmps51 (Nat.le_of_ble_eq_true rfl) _ Tryd.results51 0 rfl rfl ?_
 repeat' (first|refine zi ?_|(first|refine xsF Tryd.func64 (g1 ..) ?_|refine xsF Tryd.func65 (g2 ..) ?_|(refine qas ?_))|((first|(apply qb;rfl;rfl;exact nle rfl)|(apply qa;rfl;rfl;exact nle rfl)|refine xsC ?_ ?_);all_goals (intro hc;have hp:=hc;try simp at hp;try (exfalso;omega)))|refine jm ?_ ?_)
 all_goals try (exfalso;first|omega|contradiction|(simp_all;done))
 all_goals (apply yx;rfl;first|rfl|(simp_all;done)|(simp_all;cases a.more<;>rfl)|(cases a.more<;>rfl)|(simp;done))
theorem Xn (a:Ans) (h:a.fit):zb C.P 19 [.agg a.row,.agg a.row] (.v (.bool true)):=by
 have h1:=Xo a.page h.tlen h.clen (fun x hx=>(h.coms x hx).len)
 have e0:decide (a.err = a.err) = true:=by simp
 have e1:decide (a.num = a.num) = true:=by simp
 unfold Pag.row at h1
 refine qf Tryd.func19 rfl _ Tryd.ntmps19 (Nat.le_of_ble_eq_true rfl) _ Tryd.results19 0 rfl rfl ?_
 repeat' (first|refine zi ?_|(first|refine xsF Tryd.func51 (h1 ..) ?_)|((first|(apply qb;rfl;rfl;exact nle rfl)|(apply qa;rfl;rfl;exact nle rfl)|refine xsC ?_ ?_);all_goals (intro hc;have hp:=hc;try simp at hp;try (exfalso;omega)))|refine jm ?_ ?_)
 all_goals try (exfalso;first|omega|contradiction)
 (refine yd (rs:=[.tmp 4]) ?_;(repeat' (first|exact jC|apply jp|exact jg rfl|exact yo|exact vo|apply jS|apply j7|apply jT|apply j5|apply jG|apply j6|refine vn ?_|apply yM));all_goals rfl)
end Go.Proofs.YtahbbnfmbohmmaaDoor
set_option linter.unusedSimpArgs false
set_option linter.unnecessarySimpa false
set_option linter.unusedVariables false
set_option maxHeartbeats 1000000
namespace Go.Proofs.YtahbbnfmbohmmaaDoor
open Go.Ab Go.RowKit
set_option maxRecDepth 10000
theorem YJ (w:WS):w.done.1.length ≤ w.s.length:=by
 unfold WS.done
 split
 ·exact Nat.zero_le _
 ·split
  ·exact Nat.zero_le _
  ·exact Nat.le_refl _
theorem ZQ (r:Rqt) (h:r.fit):(vw r).1.length ≤ 1000000000:=by
 rw [← ZR]
 refine Nat.le_trans (YJ _) ?_
 have l0:ws0.s.length = 0:=rfl
 unfold WS.rqtR
 have l1:=jK ws0 h.kind
 generalize ws0.numR r.kind = w1 at *
 have l2:=yE w1 r.who
 generalize w1.txtR r.who = w2 at *
 have l3:=yE w2 r.folder
 generalize w2.txtR r.folder = w3 at *
 have l4:=yE w3 r.name
 generalize w3.txtR r.name = w4 at *
 have l5:=yE w4 r.key
 generalize w4.txtR r.key = w5 at *
 have l6:=yE w5 r.text
 generalize w5.txtR r.text = w6 at *
 have l7:=jK w6 h.number
 generalize w6.numR r.number = w7 at *
 have l8:=jK w7 h.offset
 generalize w7.numR r.offset = w8 at *
 have l9:=jK w8 h.base
 generalize w8.numR r.base = w9 at *
 have lz:=Ji w9 h.chs
 omega
theorem Zt (a:Ans) (h:a.fit):(xh a).1.length ≤ 1000000000:=by
 rw [← Zu]
 unfold Va
 by_cases hbig:60 < a.page.tree.length ∨ 10 < a.page.coms.length
 ·rw [if_pos hbig]
  exact Nat.zero_le _
 ·rw [if_neg hbig]
  refine Nat.le_trans (YJ _) ?_
  have l0:ws0.s.length = 0:=rfl
  unfold WS.ansR
  have l1:=jK ws0 h.err
  generalize ws0.numR a.err = w1 at *
  have l2:=jK w1 h.num
  generalize w1.numR a.num = w2 at *
  have l3:=Q1 w2 a.page.reset
  generalize w2.yesR a.page.reset = w3 at *
  have l4:=jK w3 (n:=a.page.tree.length) ⟨by omega,by omega⟩
  generalize w3.numR a.page.tree.length = w4 at *
  have b4:=xk WS.entR Ent.fit 3000 (fun w x hx=>Kd w hx) a.page.tree w4 h.tree
  have m4:a.page.tree.length * 3000 ≤ 60 * 3000:=Nat.mul_le_mul_right _ (by omega)
  generalize a.page.tree.foldl WS.entR w4 = w5 at *
  have l5:=jK w5 (n:=a.page.coms.length) ⟨by omega,by omega⟩
  generalize w5.numR a.page.coms.length = w6 at *
  have b5:=xk WS.comR Com.fit 64000 (fun w x hx=>Z5 w hx) a.page.coms w6 h.coms
  have m5:a.page.coms.length * 64000 ≤ 10 * 64000:=Nat.mul_le_mul_right _ (by omega)
  generalize a.page.coms.foldl WS.comR w6 = w7 at *
  have l7:=jK w7 h.cur
  generalize w7.numR a.page.cur = w8 at *
  have l8:=Q1 w8 a.page.more
  omega
theorem Xr (s:qj) (hs:s.length ≤ 1000000000):(yw s).1.fit:=by
 unfold yw
 split
 ·exact wb
 ·rename_i q r hq
  obtain ⟨e1,e2⟩:=rd_rqt.of _ _ _ hq
  have hf:q.fit:=Xc e2 (by have:=congrArg List.length e1;rw [List.length_append] at this;omega)
  split
  ·exact hf
  ·exact wb
attribute [local irreducible] Awp jE qY qK Red qA Go.Ab.Fin qp Rz yL qJ qE ResOk jl qL jA qB
set_option maxHeartbeats 8000000 in
theorem Zg (r:Rqt) (a:Ans) (s:qj) (hr:r.fit) (ha:a.fit) (hs:s.length ≤ 1000000000):zb C.P 7 [.agg r.row,.agg a.row,.v (str s)] (.v (.bool true)):=by
 have c0:=ZL
 have c1:=Ys r hr
 have c2:(vw r).2 = 0 → zb C.P 12 [.v (str (vw r).1)] (.tup [.agg r.row,.v (.int .i64 0)]):=fun h=>by
  have:=JD (vw r).1 (ZQ r hr)
  rw [Je (show vw r = ((vw r).1,0) from Prod.ext rfl h)] at this
  exact this
 have c3:=Xp r r hr.len hr.len
 rw [decide_eq_true rfl] at c3
 have c4:=JG a ha
 have c5:(xh a).2 = 0 → zb C.P 17 [.v (str (xh a).1)] (.tup [.agg a.row,.v (.int .i64 0)]):=fun h=>by
  have:=ZK (xh a).1 (Zt a ha)
  rw [Zz (show xh a = ((xh a).1,0) from Prod.ext rfl h)] at this
  exact this
 have c6:=Xn a ha
 have c7:=JD s hs
 have c8:(yw s).2 = 0 → zb C.P 8 [.agg (yw s).1.row] (.tup [.v (str s),.v (.int .i64 0)]):=fun h=>by
  have:=Ys (yw s).1 (Xr s hs)
  rw [VW (show yw s = ((yw s).1,0) from Prod.ext rfl h)] at this
  exact this
 have c9:=ZK s hs
 have cz:(xB s).2 = 0 → zb C.P 15 [.agg (xB s).1.row] (.tup [.v (str s),.v (.int .i64 0)]):=fun h=>by
  have:=JG (xB s).1 (Zy s hs)
  rw [Zv (show xB s = ((xB s).1,0) from Prod.ext rfl h)] at this
  exact this
 clear hr ha
 generalize (vw r).1 = t1 at *
 generalize (vw r).2 = e1 at *
 generalize (xh a).1 = t2 at *
 generalize (xh a).2 = e2 at *
 generalize (yw s).1 = x at *
 generalize (yw s).2 = e3 at *
 generalize (xB s).1 = y at *
 generalize (xB s).2 = e4 at *
 unfold Rqt.row ya at *
 unfold Ans.row jX j3 at *
 refine qf Tryd.func7 rfl _ Tryd.ntmps7 (Nat.le_of_ble_eq_true rfl) _ Tryd.results7 0 rfl rfl ?_
 repeat' (first|refine qk ?_|(first|refine xsF Tryd.func10 (c0 ..) ?_|refine xsF Tryd.func8 (c1 ..) ?_|(apply qc Tryd.func12 rfl rfl;intro hIsFn;refine VD hIsFn ((c2 (by omega)) ..) ?_)|refine xsF Tryd.func14 (c3 ..) ?_|refine xsF Tryd.func15 (c4 ..) ?_|(apply qc Tryd.func17 rfl rfl;intro hIsFn;refine VD hIsFn ((c5 (by omega)) ..) ?_)|refine xsF Tryd.func19 (c6 ..) ?_|refine xsQ Tryd.func12 (c7 ..) ?_|(apply qc Tryd.func8 rfl rfl;intro hIsFn;refine VC hIsFn ((c8 (by omega)) ..) ?_;skip)|refine xsQ Tryd.func17 (c9 ..) ?_|(apply qc Tryd.func15 rfl rfl;intro hIsFn;refine VC hIsFn ((cz (by omega)) ..) ?_;skip))|((first|(apply qb;rfl;rfl;exact nle rfl)|(apply qa;rfl;rfl;exact nle rfl)|refine xsC ?_ ?_);all_goals (intro hc;have hp:=hc;try simp at hp;try (exfalso;omega)))|refine jm ?_ ?_)
 all_goals try (exfalso;first|omega|contradiction|(simp at *;done))
 all_goals ((refine yd (rs:=[.tmp 6]) ?_;(repeat' (first|exact jC|apply jp|exact jg rfl|exact yo|exact vo|apply jS|apply j7|apply jT|apply j5|apply jG|apply j6|refine vn ?_|apply yM));all_goals first|rfl|(simp;done)))
theorem Q6 (ys:List AV) (h:JB C.tab 1000000000 [24,40,9] ys):zb C.P 7 ys (.v (.bool true)):=by
 obtain ⟨_,_,rfl,h0,_,_,rfl,h1,_,_,rfl,h2,rfl⟩:=h
 obtain ⟨r,rfl,hr⟩:=KN h0
 obtain ⟨a,rfl,ha⟩:=KM h1
 obtain ⟨s,rfl,hs⟩:=WG h2
 exact Zg r a s hr ha hs
end Go.Proofs.YtahbbnfmbohmmaaDoor
