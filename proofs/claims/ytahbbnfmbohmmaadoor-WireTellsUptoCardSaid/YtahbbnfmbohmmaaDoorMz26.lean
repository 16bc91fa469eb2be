import Derived.Test.YtahbbnfmbohmmaaDoorMz25
import Derived.Test.YtahbbnfmbohmmaaDoorMz21
set_option linter.unusedSimpArgs false
set_option linter.unnecessarySimpa false
set_option linter.unusedVariables false
set_option maxHeartbeats 1000000
namespace Go.Proofs.YtahbbnfmbohmmaaDoor
open Go.Ab Go.RowKit
set_option maxRecDepth 10000
theorem k8 (w:WS) (b:Bool):(w.yesR b).s.length ≤ w.s.length + 22:=by
 unfold WS.yesR
 cases b
 ·exact jr w (n:=0) ⟨by decide,by decide⟩
 ·exact jr w (n:=1) ⟨by decide,by decide⟩
theorem QN (w:WS) {e:Ent} (h:e.fit):(w.entR e).s.length ≤ w.s.length + 3000:=by
 have h1:=ya w e.path
 have h2:=k8 (w.txtR e.path) e.fold
 have h3:=ya ((w.txtR e.path).yesR e.fold) e.text
 have h4:=jr (((w.txtR e.path).yesR e.fold).txtR e.text) h.ver
 unfold WS.entR
 omega
theorem QK (w:WS) {c:Com} (h:c.fit):(w.comR c).s.length ≤ w.s.length + 64000:=by
 have h1:=jr w h.num
 have h2:=ya (w.numR c.num) c.key
 have h3:=Yx ((w.numR c.num).txtR c.key) h.chs
 unfold WS.comR
 omega
noncomputable def jg:Code:=match Tryd.f16.body with|some c=>c|none => .skip
theorem ZY:tlW 9 jg = .seq (Xt (tlW 9 jg)) (.seq (Xt (tlW 10 jg)) (tlW 11 jg)):=by kernel_rfl
theorem ZX:tlW 7 jg = .seq (Xt (tlW 7 jg)) (.seq (Xt (tlW 8 jg)) (tlW 9 jg)):=by kernel_rfl
theorem ZW:jg = .seq (Xt (tlW 0 jg)) (.seq (Xt (tlW 1 jg)) (.seq (Xt (tlW 2 jg)) (.seq (Xt (tlW 3 jg)) (.seq (Xt (tlW 4 jg)) (.seq (Xt (tlW 5 jg)) (.seq (Xt (tlW 6 jg)) (tlW 7 jg))))))):=by kernel_rfl
@[reducible] def Vb (p:Pag):List AV:=[.v (.bool p.reset),.sl false (p.tree.map Ent.row),.sl false (p.coms.map Com.row),.v (.int .i64 p.cur),.v (.bool p.more)]
attribute [local irreducible] Awp jV jt jv Red qz Go.Ab.Fin qu Rz x0 ju jn ResOk jG jo yi qM
theorem XL (w:WS) (b:Bool) (hw:w.s.length ≤ 900000000):qu C1.P 42 [.op 0 0 0,.v (.bool b)] [wR w] (.tup []) [wR (w.yesR b)]:=by
 unfold WS.yesR
 cases b
 ·have c:=jX w 0 ⟨by decide,by decide⟩ (by omega)
  refine qe (C:=C1) Tryd.func42 rfl _ Tryd.ntmps42 (Nat.le_of_ble_eq_true rfl) _ Tryd.results42 1 rfl rfl ?_
  repeat' (first|refine ql ?_|(first|(apply qc Tryd.func24 rfl rfl;intro hIsFn;refine js 0 hIsFn (c) rfl ?_))|((first|(apply qb;rfl;rfl;exact nle rfl)|(apply qa;rfl;rfl;exact nle rfl)|refine xsC ?_ ?_);all_goals (intro hc;have hp:=hc;try simp at hp;try (exfalso;omega)))|refine jj ?_ ?_)
  all_goals ((apply qv (rs:=[]) [] 1;(case hr=>(repeat (first|exact qm|(apply qn;rfl)|(apply qk;rfl;rfl;rfl;rfl;rfl))));(case hL=>rfl);(case hh=>(refine jA (q:=0) rfl (qd rfl) rfl qg));(case hi=>exact rfl);(case hz=>first|rfl|(simp [jw,AV.ren,AV.ren.renL,qV,qi,qI];done))))
 ·have c:=jX w 1 ⟨by decide,by decide⟩ (by omega)
  refine qe (C:=C1) Tryd.func42 rfl _ Tryd.ntmps42 (Nat.le_of_ble_eq_true rfl) _ Tryd.results42 1 rfl rfl ?_
  repeat' (first|refine ql ?_|(first|(apply qc Tryd.func24 rfl rfl;intro hIsFn;refine js 0 hIsFn (c) rfl ?_))|((first|(apply qb;rfl;rfl;exact nle rfl)|(apply qa;rfl;rfl;exact nle rfl)|refine xsC ?_ ?_);all_goals (intro hc;have hp:=hc;try simp at hp;try (exfalso;omega)))|refine jj ?_ ?_)
  all_goals ((apply qv (rs:=[]) [] 1;(case hr=>(repeat (first|exact qm|(apply qn;rfl)|(apply qk;rfl;rfl;rfl;rfl;rfl))));(case hL=>rfl);(case hh=>(refine jA (q:=0) rfl (qd rfl) rfl qg));(case hi=>exact rfl);(case hz=>first|rfl|(simp [jw,AV.ren,AV.ren.renL,qV,qi,qI];done))))
@[reducible] noncomputable def XY (D:qp × Int):Exit → St → Prop:=Zr C #[ResultVar.tmp 2,ResultVar.tmp 3] 0 (.tup [.v (str D.1),.v (.int .i64 D.2)]) []
@[reducible] def XZ (p:Pag) (w:WS):St:=⟨[(4,.op 0 0 0),(5,.fp [Vb p] 0 0)],[(0,wR w)],1⟩
set_option maxHeartbeats 4000000 in
theorem ZC (p:Pag) (w:WS) (hc:yL p.cur) (hw:w.s.length ≤ 700000000):Awp C 126 (tlW 11 jg) (XY ((w.numR p.cur).yesR p.more).done) (XZ p w):=by
 have l1:=jr w hc
 have c1:=jX w p.cur hc (by omega)
 have c2:=XL (w.numR p.cur) p.more (by omega)
 have c3:=V6 ((w.numR p.cur).yesR p.more)
 obtain ⟨reset,tree,coms,cur,more⟩:=p
 dsimp only at *
 generalize (w.numR cur).yesR more = w2 at *
 generalize w.numR cur = w1 at *
 clear l1 hc hw
 conv=>arg 3;whnf
 repeat' (first|refine ql ?_|(first|(apply qc Tryd.func24 rfl rfl;intro hIsFn;refine js 0 hIsFn (c1) rfl ?_)|(apply qc Tryd.func42 rfl rfl;intro hIsFn;refine js 0 hIsFn (c2) rfl ?_)|(apply qc Tryd.func27 rfl rfl;intro hIsFn;refine js 0 hIsFn (c3) rfl ?_))|((first|(apply qb;rfl;rfl;exact nle rfl)|(apply qa;rfl;rfl;exact nle rfl)|refine xsC ?_ ?_);all_goals (intro hc;have hp:=hc;try simp at hp;try (exfalso;omega)))|refine jj ?_ ?_)
 all_goals ((refine jJ (rs:=[.tmp 2,.tmp 3]) ?_;(repeat' (first|exact jf|apply qO|exact qN rfl|exact j1|exact y7|apply jx|apply jF|apply jy|apply jD|apply jm|apply jE|refine y6 ?_|apply yd));all_goals rfl))
set_option maxHeartbeats 8000000 in
theorem Zb (p:Pag) (w:WS) (D:qp × Int) (hfit : ∀ x,x ∈ p.coms → x.fit) (hl:p.coms.length ≤ 10) (hw:w.s.length ≤ 600000000) (hT:Awp C 126 (tlW 11 jg) (XY D) (XZ p (p.coms.foldl WS.comR (w.numR p.coms.length)))):Awp C 126 (tlW 9 jg) (XY D) (XZ p w):=by
 have hI:yL (p.coms.length:Int):=⟨by omega,by omega⟩
 have c0:=jX w p.coms.length hI (by omega)
 have l0:=jr w hI
 rw [ZY]
 generalize tlW 11 jg = T at *
 conv=>arg 3;arg 1;whnf
 conv=>arg 3;arg 2;arg 1;whnf
 obtain ⟨reset,tree,coms,cur,more⟩:=p
 dsimp only at *
 have hml:(coms.map Com.row).length = coms.length:=List.length_map ..
 rw [← hml] at c0
 rw [← hml] at hT
 rw [← hml] at l0
 generalize w.numR ((coms.map Com.row).length:Int) = v at *
 repeat' (first|refine ql ?_|(first|(apply qc Tryd.func24 rfl rfl;intro hIsFn;refine js 0 hIsFn (c0) rfl ?_))|((first|(apply qb;rfl;rfl;exact nle rfl)|(apply qa;rfl;rfl;exact nle rfl)|refine xsC ?_ ?_);all_goals (intro hc;have hp:=hc;try simp at hp;try (exfalso;omega)))|refine jj ?_ ?_)
 (refine Awp.red (qF (τ:=⟨[(4,.op 0 0 0),(5,.fp [Vb ⟨reset,tree,coms,cur,more⟩] 0 0),(7,.v (.int .i64 ((0:Nat):Int)))],[(0,wR v)],1⟩) [(0,0)] rfl ?gts2 ?ghs2) ?_;(case gts2=>(repeat (first|exact qq|refine jb ?_|refine yq ?_|refine jL ?_|refine yB ?_|refine jM ?_ ?_|refine yp ?_ ?_));all_goals rfl);(case ghs2=>(refine jA (q:=0) rfl (qd rfl) rfl qg)))
 refine j8 (fun n σ => ∃ i:Nat,i ≤ coms.length ∧ n = coms.length - i ∧ σ = ⟨[(4,.op 0 0 0),(5,.fp [Vb ⟨reset,tree,coms,cur,more⟩] 0 0),(7,.v (.int .i64 (i:Int)))],[(0,wR ((coms.take i).foldl WS.comR v))],1⟩) coms.length ⟨0,Nat.zero_le _,rfl,rfl⟩ ?_
 rintro n σ ⟨i,hi,rfl,rfl⟩
 have hb:=yf WS.comR Com.fit 64000 (fun w x hx=>QK w hx) (coms.take i) v (fun c hx=>hfit c (List.mem_of_mem_take hx))
 have hti:(coms.take i).length ≤ 10:=by rw [List.length_take];omega
 have hmul:(coms.take i).length * 64000 ≤ 10 * 64000:=Nat.mul_le_mul_right _ hti
 by_cases hlt:i < coms.length
 ·have yP:(coms.map Com.row)[i]? = some (coms[i].row):=by rw [List.getElem?_map,List.getElem?_eq_getElem hlt];rfl
  have hfold:(coms.take (i + 1)).foldl WS.comR v = WS.comR ((coms.take i).foldl WS.comR v) coms[i]:=by
   rw [List.take_succ_eq_append_getElem hlt,List.foldl_append];rfl
  have hf:=hfit coms[i] (List.getElem_mem hlt)
  generalize (coms.take i).foldl WS.comR v = u at *
  generalize coms[i] = x at *
  have hul:u.s.length ≤ 800000000:=by omega
  obtain ⟨x1,x2,x3,x4⟩:=hf
  have l1:=jr u x1
  have l2:=ya (u.numR x.num) x.key
  have c1:=jX u x.num x1 (by omega)
  have c2:=zM (u.numR x.num) x.key x2 (by omega)
  have c3:=YK ((u.numR x.num).txtR x.key) x.chs x4 x3 (by omega)
  unfold WS.comR at hfold
  generalize ((u.numR x.num).txtR x.key).chgsR x.chs = u3 at *
  generalize (u.numR x.num).txtR x.key = u2 at *
  generalize u.numR x.num = u1 at *
  unfold Com.row at yP
  unfold yt at yP c3
  clear l1 l2
  clear hT hb hti hul hmul c0 l0 hfit hw
  repeat' (first|refine ql ?_|(first|(apply qc Tryd.func24 rfl rfl;intro hIsFn;refine js 0 hIsFn (c1) rfl ?_)|(apply qc Tryd.func25 rfl rfl;intro hIsFn;refine js 0 hIsFn (c2) rfl ?_)|(apply qc Tryd.func26 rfl rfl;intro hIsFn;refine js 0 hIsFn (c3) rfl ?_))|((first|(apply qb;rfl;rfl;exact nle rfl)|(apply qa;rfl;rfl;exact nle rfl)|refine xsC ?_ ?_);all_goals (intro hc;have hp:=hc;try simp at hp;try (exfalso;omega)))|refine jj ?_ ?_)
  all_goals try (exfalso;omega)
  all_goals (refine ⟨coms.length - (i + 1),⟨[(4,.op 0 0 0),(5,.fp [Vb ⟨reset,tree,coms,cur,more⟩] 0 0),(7,.v (.int .i64 ((i + 1:Nat):Int)))],[(0,wR ((coms.take (i + 1)).foldl WS.comR v))],1⟩,by omega,?_,⟨i + 1,by omega,rfl,rfl⟩⟩;refine qF [(0,0)] rfl ?gts ?ghs;(case gts=>(repeat (first|exact qq|refine jb ?_|refine yq ?_|refine jL ?_|refine yB ?_|refine jM ?_ ?_|refine yp ?_ ?_));all_goals first|rfl|(simp;omega));(case ghs=>(refine jA (q:=0) rfl (qd rfl) hfold.symm qg)))
 ·obtain rfl:i = coms.length:=by omega
  rw [List.take_length]
  clear hb hti hmul c0 l0
  repeat' (first|refine ql ?_|fail|((first|(apply qb;rfl;rfl;exact nle rfl)|(apply qa;rfl;rfl;exact nle rfl)|refine xsC ?_ ?_);all_goals (intro hc;have hp:=hc;try simp at hp;try (exfalso;omega)))|refine jj ?_ ?_)
  all_goals try (exfalso;omega)
  all_goals ((refine Awp.red (qF (τ:=⟨[(4,.op 0 0 0),(5,.fp [Vb ⟨reset,tree,coms,cur,more⟩] 0 0)],[(0,wR (coms.foldl WS.comR v))],1⟩) [(0,0)] rfl ?gts2 ?ghs2) ?_;(case gts2=>(repeat (first|exact qq|refine jb ?_|refine yq ?_|refine jL ?_|refine yB ?_|refine jM ?_ ?_|refine yp ?_ ?_));all_goals rfl);(case ghs2=>(refine jA (q:=0) rfl (qd rfl) rfl qg)));exact hT)
set_option maxHeartbeats 8000000 in
theorem Zd (p:Pag) (w:WS) (D:qp × Int) (hfit : ∀ x,x ∈ p.tree → x.fit) (hl:p.tree.length ≤ 60) (hw:w.s.length ≤ 500000000) (hT:Awp C 126 (tlW 9 jg) (XY D) (XZ p (p.tree.foldl WS.entR (w.numR p.tree.length)))):Awp C 126 (tlW 7 jg) (XY D) (XZ p w):=by
 have hI:yL (p.tree.length:Int):=⟨by omega,by omega⟩
 have c0:=jX w p.tree.length hI (by omega)
 have l0:=jr w hI
 rw [ZX]
 generalize tlW 9 jg = T at *
 conv=>arg 3;arg 1;whnf
 conv=>arg 3;arg 2;arg 1;whnf
 obtain ⟨reset,tree,coms,cur,more⟩:=p
 dsimp only at *
 have hml:(tree.map Ent.row).length = tree.length:=List.length_map ..
 rw [← hml] at c0
 rw [← hml] at hT
 rw [← hml] at l0
 generalize w.numR ((tree.map Ent.row).length:Int) = v at *
 repeat' (first|refine ql ?_|(first|(apply qc Tryd.func24 rfl rfl;intro hIsFn;refine js 0 hIsFn (c0) rfl ?_))|((first|(apply qb;rfl;rfl;exact nle rfl)|(apply qa;rfl;rfl;exact nle rfl)|refine xsC ?_ ?_);all_goals (intro hc;have hp:=hc;try simp at hp;try (exfalso;omega)))|refine jj ?_ ?_)
 (refine Awp.red (qF (τ:=⟨[(4,.op 0 0 0),(5,.fp [Vb ⟨reset,tree,coms,cur,more⟩] 0 0),(6,.v (.int .i64 ((0:Nat):Int)))],[(0,wR v)],1⟩) [(0,0)] rfl ?gts2 ?ghs2) ?_;(case gts2=>(repeat (first|exact qq|refine jb ?_|refine yq ?_|refine jL ?_|refine yB ?_|refine jM ?_ ?_|refine yp ?_ ?_));all_goals rfl);(case ghs2=>(refine jA (q:=0) rfl (qd rfl) rfl qg)))
 refine j8 (fun n σ => ∃ i:Nat,i ≤ tree.length ∧ n = tree.length - i ∧ σ = ⟨[(4,.op 0 0 0),(5,.fp [Vb ⟨reset,tree,coms,cur,more⟩] 0 0),(6,.v (.int .i64 (i:Int)))],[(0,wR ((tree.take i).foldl WS.entR v))],1⟩) tree.length ⟨0,Nat.zero_le _,rfl,rfl⟩ ?_
 rintro n σ ⟨i,hi,rfl,rfl⟩
 have hb:=yf WS.entR Ent.fit 3000 (fun w x hx=>QN w hx) (tree.take i) v (fun c hx=>hfit c (List.mem_of_mem_take hx))
 have hti:(tree.take i).length ≤ 60:=by rw [List.length_take];omega
 have hmul:(tree.take i).length * 3000 ≤ 60 * 3000:=Nat.mul_le_mul_right _ hti
 by_cases hlt:i < tree.length
 ·have yP:(tree.map Ent.row)[i]? = some (tree[i].row):=by rw [List.getElem?_map,List.getElem?_eq_getElem hlt];rfl
  have hfold:(tree.take (i + 1)).foldl WS.entR v = WS.entR ((tree.take i).foldl WS.entR v) tree[i]:=by
   rw [List.take_succ_eq_append_getElem hlt,List.foldl_append];rfl
  have hf:=hfit tree[i] (List.getElem_mem hlt)
  generalize (tree.take i).foldl WS.entR v = u at *
  generalize tree[i] = x at *
  have hul:u.s.length ≤ 800000000:=by omega
  obtain ⟨x1,x2,x3⟩:=hf
  have l1:=ya u x.path
  have l2:=k8 (u.txtR x.path) x.fold
  have l3:=ya ((u.txtR x.path).yesR x.fold) x.text
  have c1:=zM u x.path x1 (by omega)
  have c2:=XL (u.txtR x.path) x.fold (by omega)
  have c3:=zM ((u.txtR x.path).yesR x.fold) x.text x2 (by omega)
  have c4:=jX (((u.txtR x.path).yesR x.fold).txtR x.text) x.ver x3 (by omega)
  unfold WS.entR at hfold
  generalize (((u.txtR x.path).yesR x.fold).txtR x.text).numR x.ver = u4 at *
  generalize ((u.txtR x.path).yesR x.fold).txtR x.text = u3 at *
  generalize (u.txtR x.path).yesR x.fold = u2 at *
  generalize u.txtR x.path = u1 at *
  unfold Ent.row at yP
  clear l1 l2 l3
  clear hT hb hti hul hmul c0 l0 hfit hw
  repeat' (first|refine ql ?_|(first|(apply qc Tryd.func25 rfl rfl;intro hIsFn;refine js 0 hIsFn (c1) rfl ?_)|(apply qc Tryd.func42 rfl rfl;intro hIsFn;refine js 0 hIsFn (c2) rfl ?_)|(apply qc Tryd.func25 rfl rfl;intro hIsFn;refine js 0 hIsFn (c3) rfl ?_)|(apply qc Tryd.func24 rfl rfl;intro hIsFn;refine js 0 hIsFn (c4) rfl ?_))|((first|(apply qb;rfl;rfl;exact nle rfl)|(apply qa;rfl;rfl;exact nle rfl)|refine xsC ?_ ?_);all_goals (intro hc;have hp:=hc;try simp at hp;try (exfalso;omega)))|refine jj ?_ ?_)
  all_goals try (exfalso;omega)
  all_goals (refine ⟨tree.length - (i + 1),⟨[(4,.op 0 0 0),(5,.fp [Vb ⟨reset,tree,coms,cur,more⟩] 0 0),(6,.v (.int .i64 ((i + 1:Nat):Int)))],[(0,wR ((tree.take (i + 1)).foldl WS.entR v))],1⟩,by omega,?_,⟨i + 1,by omega,rfl,rfl⟩⟩;refine qF [(0,0)] rfl ?gts ?ghs;(case gts=>(repeat (first|exact qq|refine jb ?_|refine yq ?_|refine jL ?_|refine yB ?_|refine jM ?_ ?_|refine yp ?_ ?_));all_goals first|rfl|(simp;omega));(case ghs=>(refine jA (q:=0) rfl (qd rfl) hfold.symm qg)))
 ·obtain rfl:i = tree.length:=by omega
  rw [List.take_length]
  clear hb hti hmul c0 l0
  repeat' (first|refine ql ?_|fail|((first|(apply qb;rfl;rfl;exact nle rfl)|(apply qa;rfl;rfl;exact nle rfl)|refine xsC ?_ ?_);all_goals (intro hc;have hp:=hc;try simp at hp;try (exfalso;omega)))|refine jj ?_ ?_)
  all_goals try (exfalso;omega)
  all_goals ((refine Awp.red (qF (τ:=⟨[(4,.op 0 0 0),(5,.fp [Vb ⟨reset,tree,coms,cur,more⟩] 0 0)],[(0,wR (tree.foldl WS.entR v))],1⟩) [(0,0)] rfl ?gts2 ?ghs2) ?_;(case gts2=>(repeat (first|exact qq|refine jb ?_|refine yq ?_|refine jL ?_|refine yB ?_|refine jM ?_ ?_|refine yp ?_ ?_));all_goals rfl);(case ghs2=>(refine jA (q:=0) rfl (qd rfl) rfl qg)));exact hT)
set_option maxHeartbeats 4000000 in
theorem Y5 (a:Ans) (h:a.fit):zu C.P 16 [.agg a.row] (.tup [.v (str (yx a).1),.v (.int .i64 (yx a).2)]):=by
 rw [← YR]
 unfold JN
 by_cases hbig:60 < a.page.tree.length ∨ 10 < a.page.coms.length
 ·rw [if_pos hbig]
  have h1:=h.tlen
  have h2:=h.clen
  obtain ⟨err,num,reset,tree,coms,cur,more⟩:=a
  dsimp only at *
  have hml:(tree.map Ent.row).length = tree.length:=List.length_map ..
  have hml2:(coms.map Com.row).length = coms.length:=List.length_map ..
  unfold Ans.row x7 x6
  refine qe Tryd.func16 rfl _ Tryd.ntmps16 (Nat.le_of_ble_eq_true rfl) _ Tryd.results16 0 rfl rfl ?_
  repeat' (first|refine ql ?_|fail|((first|(apply qb;rfl;rfl;exact nle rfl)|(apply qa;rfl;rfl;exact nle rfl)|refine xsC ?_ ?_);all_goals (intro hc;have hp:=hc;try simp at hp;try (exfalso;omega)))|refine jj ?_ ?_)
  all_goals try (exfalso;omega)
  all_goals ((refine jJ (rs:=[.tmp 2,.tmp 3]) ?_;(repeat' (first|exact jf|apply qO|exact qN rfl|exact j1|exact y7|apply jx|apply jF|apply jy|apply jD|apply jm|apply jE|refine y6 ?_|apply yd));all_goals rfl))
 ·rw [if_neg hbig]
  have hT:=h.tree
  have hC:=h.coms
  have l0:ws0.s.length = 0:=rfl
  have l1:=jr ws0 h.err
  have l2:=jr (ws0.numR a.err) h.num
  have l3:=k8 ((ws0.numR a.err).numR a.num) a.page.reset
  have c1:=jX ws0 a.err h.err (by omega)
  have c2:=jX (ws0.numR a.err) a.num h.num (by omega)
  have c3:=XL ((ws0.numR a.err).numR a.num) a.page.reset (by omega)
  unfold WS.ansR
  unfold ws0 at c1
  generalize hw0:ws0 = w0 at *
  generalize hw3:((w0.numR a.err).numR a.num).yesR a.page.reset = w3 at *
  have l4:=jr w3 (n:=a.page.tree.length) ⟨by omega,by omega⟩
  have b4:=yf WS.entR Ent.fit 3000 (fun w x hx=>QN w hx) a.page.tree (w3.numR a.page.tree.length) hT
  have m4:a.page.tree.length * 3000 ≤ 60 * 3000:=Nat.mul_le_mul_right _ (by omega)
  generalize hw4:a.page.tree.foldl WS.entR (w3.numR a.page.tree.length) = w4 at *
  have l5:=jr w4 (n:=a.page.coms.length) ⟨by omega,by omega⟩
  have b5:=yf WS.comR Com.fit 64000 (fun w x hx=>QK w hx) a.page.coms (w4.numR a.page.coms.length) hC
  have m5:a.page.coms.length * 64000 ≤ 10 * 64000:=Nat.mul_le_mul_right _ (by omega)
  generalize hw5:a.page.coms.foldl WS.comR (w4.numR a.page.coms.length) = w5 at *
  have t3:=ZC a.page w5 h.cur (by omega)
  rw [← hw5] at t3
  have t2:=Zb a.page w4 _ hC (by omega) (by omega) t3
  rw [← hw4] at t2
  have t1:=Zd a.page w3 _ hT (by omega) (by omega) t2
  rw [hw4,hw5] at t1
  clear t2 t3 hw5 hw4 hw3 l0 l1 l2 l3 l4 l5 b4 b5 m4 m5 hT hC
  obtain ⟨err,num,reset,tree,coms,cur,more⟩:=a
  dsimp only at *
  generalize ((w5.numR cur).yesR more).done = D at *
  generalize (w0.numR err).numR num = w2 at *
  subst hw0
  generalize hw1:ws0.numR err = w1 at *
  have e1:(WS.mk [] false false).numR err = w1:=hw1
  rw [e1] at c1
  clear hw1 e1 h
  have hml:(tree.map Ent.row).length = tree.length:=List.length_map ..
  have hml2:(coms.map Com.row).length = coms.length:=List.length_map ..
  unfold Ans.row x7 x6
  refine qe Tryd.func16 rfl _ Tryd.ntmps16 (Nat.le_of_ble_eq_true rfl) _ Tryd.results16 0 rfl rfl ?_
  change Awp C 126 jg _ _
  rw [ZW]
  generalize tlW 7 jg = T at *
  conv=>arg 3;arg 1;whnf
  conv=>arg 3;arg 2;arg 1;whnf
  conv=>arg 3;arg 2;arg 2;arg 1;whnf
  conv=>arg 3;arg 2;arg 2;arg 2;arg 1;whnf
  conv=>arg 3;arg 2;arg 2;arg 2;arg 2;arg 1;whnf
  conv=>arg 3;arg 2;arg 2;arg 2;arg 2;arg 2;arg 1;whnf
  conv=>arg 3;arg 2;arg 2;arg 2;arg 2;arg 2;arg 2;arg 1;whnf
  repeat' (first|refine ql ?_|(first|(apply qc Tryd.func24 rfl rfl;intro hIsFn;refine js 1 hIsFn (c1) rfl ?_)|(apply qc Tryd.func24 rfl rfl;intro hIsFn;refine js 1 hIsFn (c2) rfl ?_)|(apply qc Tryd.func42 rfl rfl;intro hIsFn;refine js 1 hIsFn (c3) rfl ?_))|((first|(apply qb;rfl;rfl;exact nle rfl)|(apply qa;rfl;rfl;exact nle rfl)|refine xsC ?_ ?_);all_goals (intro hc;have hp:=hc;try simp at hp;try (exfalso;omega)))|refine jj ?_ ?_)
  all_goals try (exfalso;omega)
  all_goals (refine Z3 5 2 ?_)
  all_goals ((refine Awp.red (qF (τ:=⟨[(4,.op 0 0 0),(5,.fp [Vb ⟨reset,tree,coms,cur,more⟩] 0 0)],[(0,wR w3)],1⟩) [(1,0)] rfl ?gts2 ?ghs2) ?_;(case gts2=>(repeat (first|exact qq|refine jb ?_|refine yq ?_|refine jL ?_|refine yB ?_|refine jM ?_ ?_|refine yp ?_ ?_));all_goals rfl);(case ghs2=>(refine jA (q:=1) rfl (qd rfl) rfl qg)));exact t1)
theorem Jv (a:Ans) (h:a.fit):zu C.P 5 [.agg a.row] (.v (.bool true)):=by
 have c1:=VY a h
 have c2:=Y5 a h
 have c3:=Y7
 have c4:=Y6 (yx a).1 (yx a).1 (yx a).2 (yx a).2
 have e:(decide ((yx a).2 = (yx a).2) && decide ((yx a).1 = if (yx a).2 = 0 then (yx a).1 else [])) = true:=by
  have:(yx a).2 = 0 ∨ (yx a).1 = []:=by
   unfold yx WS.done
   split
   ·exact .inr rfl
   ·split
    ·exact .inr rfl
    ·exact .inl rfl
  rcases this with h|h
  ·simp [h]
  ·rw [h];simp
 rw [e] at c4
 clear e
 generalize (yx a).1 = t at *
 generalize (yx a).2 = e at *
 unfold Ans.row x7 x6 at *
 refine qe Tryd.func5 rfl _ Tryd.ntmps5 (Nat.le_of_ble_eq_true rfl) _ Tryd.results5 0 rfl rfl ?_
 repeat' (first|refine ql ?_|(first|refine xsF Tryd.func15 (c1 ..) ?_|refine xsF Tryd.func16 (c2 ..) ?_|refine xsF Tryd.func10 (c3 ..) ?_|refine xsF Tryd.func11 (c4 ..) ?_)|((first|(apply qb;rfl;rfl;exact nle rfl)|(apply qa;rfl;rfl;exact nle rfl)|refine xsC ?_ ?_);all_goals (intro hc;have hp:=hc;try simp at hp;try (exfalso;omega)))|refine jj ?_ ?_)
 all_goals ((refine jJ (rs:=[.tmp 2]) ?_;(repeat' (first|exact jf|apply qO|exact qN rfl|exact j1|exact y7|apply jx|apply jF|apply jy|apply jD|apply jm|apply jE|refine y6 ?_|apply yd));all_goals rfl))
end Go.Proofs.YtahbbnfmbohmmaaDoor
set_option linter.unusedSimpArgs false
set_option linter.unusedVariables false
namespace Go.Proofs.YtahbbnfmbohmmaaDoor
open Go.Ab Go.RowKit
theorem X6 {n:Nat} {xs:List AV} (h:xr C.tab 1000000000 n 76 xs) : ∃ s:Ent,xs = s.row ∧ s.fit:=by
 cases n with
 | zero=>exact h.elim
 | succ n =>
   obtain ⟨_,_,rfl,h0,_,_,rfl,h1,_,_,rfl,h2,_,_,rfl,h3,rfl⟩:=(show vt C.tab 0 _ = some _ → QA (xr C.tab 1000000000 n) [(0,9),(1,4),(2,9),(3,3)] xs from h) rfl
   obtain ⟨a0,rfl,l0⟩:=vF h0
   obtain ⟨a1,rfl⟩:=k6 h1
   obtain ⟨a2,rfl,l2⟩:=vF h2
   obtain ⟨a3,rfl,l3⟩:=vE h3
   exact ⟨⟨a0,a1,a2,a3⟩,rfl,l0,l2,vZ l3⟩
theorem YX {n:Nat} {xs:List AV} (h:xr C.tab 1000000000 n 35 xs) : ∃ t:List Ent,xs = [x7 t] ∧ (∀ c,c ∈ t → c.fit) ∧ t.length ≤ 1000000000:=by
 cases n with
 | zero=>exact h.elim
 | succ n =>
   obtain ⟨rows,he,hb,hr⟩:=(show (4:Nat) ≠ 0 → ∃ rows,xs = [AV.sl false rows] ∧ rows.length * 48 ≤ 1000000000 ∧ ∀ row,row ∈ rows → xr C.tab 1000000000 n 76 row from h) (by decide)
   obtain ⟨l,rfl,hl⟩:=zr (f:=Ent.row) (ok:=Ent.fit) (fun row hrow=>X6 (hr row hrow))
   refine ⟨l,he,hl,?_⟩
   simp at hb;omega
theorem X5 {n:Nat} {xs:List AV} (h:xr C.tab 1000000000 n 80 xs) : ∃ s:Com,xs = s.row ∧ s.fit:=by
 cases n with
 | zero=>exact h.elim
 | succ n =>
   obtain ⟨_,_,rfl,h0,_,_,rfl,h1,_,_,rfl,h2,rfl⟩:=(show vt C.tab 0 _ = some _ → QA (xr C.tab 1000000000 n) [(0,3),(1,9),(2,22)] xs from h) rfl
   obtain ⟨a0,rfl,l0⟩:=vE h0
   obtain ⟨a1,rfl,l1⟩:=vF h1
   obtain ⟨a2,rfl,l2,l3⟩:=YV h2
   exact ⟨⟨a0,a1,a2⟩,rfl,vZ l0,l1,l2,l3⟩
theorem YW {n:Nat} {xs:List AV} (h:xr C.tab 1000000000 n 36 xs) : ∃ t:List Com,xs = [x6 t] ∧ (∀ c,c ∈ t → c.fit) ∧ t.length ≤ 1000000000:=by
 cases n with
 | zero=>exact h.elim
 | succ n =>
   obtain ⟨rows,he,hb,hr⟩:=(show (3:Nat) ≠ 0 → ∃ rows,xs = [AV.sl false rows] ∧ rows.length * 48 ≤ 1000000000 ∧ ∀ row,row ∈ rows → xr C.tab 1000000000 n 80 row from h) (by decide)
   obtain ⟨l,rfl,hl⟩:=zr (f:=Com.row) (ok:=Com.fit) (fun row hrow=>X5 (hr row hrow))
   refine ⟨l,he,hl,?_⟩
   simp at hb;omega
theorem JO {n:Nat} {xs:List AV} (h:xr C.tab 1000000000 n 25 xs) : ∃ a,xs = [.v (.int .i64 a)] ∧ (Lit.int .i64 a).wf = true:=by
 cases n with
 | zero=>exact h.elim
 | succ n=>exact (show ∃ a,xs = [.v (.int .i64 a)] ∧ (Lit.int .i64 a).wf = true from h)
theorem X3 {n:Nat} {xs:List AV} (h:xr C.tab 1000000000 n 40 xs) : ∃ a:Ans,xs = a.row ∧ a.fit:=by
 cases n with
 | zero=>exact h.elim
 | succ n =>
   obtain ⟨_,_,rfl,h0,_,_,rfl,h1,_,_,rfl,h2,rfl⟩:=(show vt C.tab 0 _ = some _ → QA (xr C.tab 1000000000 n) [(0,25),(1,3),(2,38)] xs from h) rfl
   obtain ⟨b0,rfl,m0⟩:=JO h0
   obtain ⟨b1,rfl,m1⟩:=vE h1
   cases n with
   | zero=>exact h2.elim
   | succ n =>
     obtain ⟨_,_,rfl,g0,_,_,rfl,g1,_,_,rfl,g2,_,_,rfl,g3,_,_,rfl,g4,rfl⟩:=(show vt C.tab 0 _ = some _ → QA (xr C.tab 1000000000 n) [(0,4),(1,35),(2,36),(3,3),(4,4)] _ from h2) rfl
     obtain ⟨a0,rfl⟩:=k6 g0
     obtain ⟨a1,rfl,l1,k1⟩:=YX g1
     obtain ⟨a2,rfl,l2,k2⟩:=YW g2
     obtain ⟨a3,rfl,l3⟩:=vE g3
     obtain ⟨a4,rfl⟩:=k6 g4
     exact ⟨⟨b0,b1,⟨a0,a1,a2,a3,a4⟩⟩,rfl,vZ m0,vZ m1,l1,k1,l2,k2,vZ l3⟩
theorem X2 {y:AV} (h:Yn C.tab 1000000000 40 y) : ∃ c,y = .agg (Ans.row c) ∧ c.fit:=by
 obtain ⟨n,xs,rfl,h2⟩:=(show ∃ n xs,y = .agg xs ∧ xr C.tab 1000000000 n 40 xs from h)
 obtain ⟨c,rfl,hc⟩:=X3 h2
 exact ⟨c,rfl,hc⟩
theorem kJ (ys:List AV) (h:wL C.tab 1000000000 [40] ys):zu C.P 5 ys (.v (.bool true)):=by
 obtain ⟨_,_,rfl,h0,rfl⟩:=h
 obtain ⟨a,rfl,ha⟩:=X2 h0
 exact Jv a ha
end Go.Proofs.YtahbbnfmbohmmaaDoor
