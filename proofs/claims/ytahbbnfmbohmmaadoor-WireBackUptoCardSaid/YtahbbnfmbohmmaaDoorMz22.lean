import Derived.Test.YtahbbnfmbohmmaaDoorMz21
set_option linter.unusedSimpArgs false
set_option linter.unnecessarySimpa false
set_option linter.unusedVariables false
set_option maxHeartbeats 1000000
namespace Go.Proofs.YtahbbnfmbohmmaaDoor
open Go.Ab Go.RowKit
set_option maxRecDepth 10000
attribute [local irreducible] Awp jE qY qK Red qA Go.Ab.Fin qp Rz yL qJ qE ResOk jl qL jA qB
theorem JF (w:WS) (l:List Ent) (hl:l.length ≤ 1000000000) (hg:(w.g || decide (60 < l.length)) = true):qp C3.P 38 [.op 0 0 0,jX l,.v (.int .i64 60),.clo (.func 39) [] [.op 2 0 0]] [tyW (wrB 0 1 w.s w.g w.f),qF w.s,qP 0] (.tup []) [tyW (wrB 0 1 w.s true w.f),qF w.s,qP 0]:=by
 have hml:(l.map Ent.row).length = l.length:=List.length_map ..
 obtain ⟨ws,wg,wf⟩:=w
 dsimp only at *
 cases wg
 all_goals unfold jX
 all_goals (refine qf (C:=C3) Tryd.func38 rfl _ Tryd.ntmps38 (Nat.le_of_ble_eq_true rfl) _ Tryd.results38 3 rfl rfl ?_)
 all_goals (repeat' (first|refine qk ?_|fail|((first|(apply qb;rfl;rfl;exact nle rfl)|(apply qa;rfl;rfl;exact nle rfl)|refine xsC ?_ ?_);all_goals (intro hc;have hp:=hc;try simp at hp;try (exfalso;omega)))|refine jm ?_ ?_))
 all_goals try (exfalso;simp only [Bool.false_or,Bool.true_or,decide_eq_true_eq,hml] at hg;first|omega|(simp at hc;omega);done)
 all_goals ((apply qD (rs:=[]) [] 3;(case hr=>(repeat (first|exact qw|(apply qx;rfl)|(apply qu;rfl;rfl;rfl;rfl;rfl))));(case hL=>rfl);(case hh=>refine yj (q:=0) (m:=1) rfl rfl (qd rfl) (qd rfl) ?_ ?_ ?_ (vr (q:=0) (b:=2) rfl (qd rfl) (qd rfl) qh);all_goals (first|(with_reducible rfl)|rfl|exact hc));(case hi=>exact rfl);(case hz=>first|rfl|(simp [jQ,AV.ren,AV.ren.renL,js,qn,jh];done))))
set_option maxHeartbeats 4000000 in
theorem Yx (w:WS) (l:List Ent) (hfit : ∀ c,c ∈ l → c.fit) (hg:w.g = false) (hl:l.length ≤ 60) (hw:w.s.length ≤ 90000000000000):qp C3.P 38 [.op 0 0 0,jX l,.v (.int .i64 60),.clo (.func 39) [] [.op 2 0 0]] [tyW (wrB 0 1 w.s w.g w.f),qF w.s,qP 0] (.tup []) [tyW (wrB 0 3 (l.foldl WS.ent (w.num l.length)).s (l.foldl WS.ent (w.num l.length)).g (l.foldl WS.ent (w.num l.length)).f),.dead,qP 0,qF (l.foldl WS.ent (w.num l.length)).s]:=by
 have hml:(l.map Ent.row).length = l.length:=List.length_map ..
 have hi64:xo (l.length:Int):=⟨by omega,by omega⟩
 have hn1:=yO w l.length hi64
 have hlen : ∀ i,i ≤ l.length → ((l.take i).foldl WS.ent (w.num l.length)).s.length ≤ 94000000000000:=fun i hi=>by
  have h1:=xk WS.ent Ent.fit 4000000000 (fun w x hx=>Vu w hx) (l.take i) (w.num l.length) (fun x hx=>hfit x (List.mem_of_mem_take hx))
  have h2:(l.take i).length ≤ 60:=by rw [List.length_take];omega
  have h3:(w.num l.length).s.length ≤ w.s.length + 22:=hn1
  have h4:(l.take i).length * 4000000000 ≤ 60 * 4000000000:=Nat.mul_le_mul_right _ h2
  omega
 obtain ⟨ws,wg,wf⟩:=w
 dsimp only at hg hw
 subst hg
 have hnum:=fun g=>jU ⟨ws,g,wf⟩ [((l.map Ent.row).length:Int)] (by simp) (yt (by rw [hml];exact hi64)) (by simp) (by dsimp only;omega)
 refine qf (C:=C3) Tryd.func38 rfl _ Tryd.ntmps38 (Nat.le_of_ble_eq_true rfl) _ Tryd.results38 3 rfl rfl ?_
 repeat' (first|refine qk ?_|(first|(refine ye ?_)|(apply qc Tryd.func20 rfl rfl;intro hIsFn;refine yk 0 1 hIsFn ((hnum (decide ((60:Int) < ((l.map Ent.row).length:Int))))) ?_))|((first|(apply qb;rfl;rfl;exact nle rfl)|(apply qa;rfl;rfl;exact nle rfl)|refine xsC ?_ ?_);all_goals (intro hc;have hp:=hc;try simp at hp;try (exfalso;omega)))|refine jm ?_ ?_)
 all_goals try (exfalso;simp at *;omega)
 (refine Awp.red (qS (τ:=⟨[(32,jX l),(33,.v (.int .i64 (l.length:Int))),(34,.v (.int .i64 ((0:Nat):Int))),(3,.clo (.func 39) [] [.op 2 0 0])],[(0,tyW (wrB 0 3 ((WS.mk ws false wf).num l.length).s ((WS.mk ws false wf).num l.length).g ((WS.mk ws false wf).num l.length).f)),(3,qF ((WS.mk ws false wf).num l.length).s),(2,qP 0)],4⟩) [(3,3)] rfl ?gts2 ?ghs2) ?_;(case gts2=>(repeat (first|exact ql|refine qZ ?_|refine ym ?_|refine jH ?_|refine yu ?_|refine jI ?_ ?_|refine yf ?_ ?_));all_goals first|(rw [hml];done)|exact yz ql (qd rfl));(case ghs2=>refine yj (q:=0) (m:=3) rfl rfl (qd rfl) (qd rfl) ?_ ?_ ?_ (vr (q:=0) (b:=2) rfl (qd rfl) (qd rfl) qh);all_goals (first|(with_reducible rfl)|(rw [hml];rfl)|exact hc)))
 refine jW (fun n σ => ∃ i:Nat,i ≤ l.length ∧ n = l.length - i ∧ σ = ⟨[(32,jX l),(33,.v (.int .i64 (l.length:Int))),(34,.v (.int .i64 (i:Int))),(3,.clo (.func 39) [] [.op 2 0 0])],[(0,tyW (wrB 0 3 ((l.take i).foldl WS.ent ((WS.mk ws false wf).num l.length)).s ((l.take i).foldl WS.ent ((WS.mk ws false wf).num l.length)).g ((l.take i).foldl WS.ent ((WS.mk ws false wf).num l.length)).f)),(3,qF ((l.take i).foldl WS.ent ((WS.mk ws false wf).num l.length)).s),(2,qP 0)],4⟩) l.length ⟨0,Nat.zero_le _,rfl,rfl⟩ ?_
 rintro n σ ⟨i,hi,rfl,rfl⟩
 have hs:=hlen i hi
 by_cases hlt:i < l.length
 ·have hr:=xG (f:=Ent.row) hlt
  have hx:=hfit l[i] (List.getElem_mem hlt)
  have hnx:=k0 WS.ent ((WS.mk ws false wf).num l.length) hlt
  clear hlen hnum
  generalize (l.take i).foldl WS.ent ((WS.mk ws false wf).num l.length) = v at *
  generalize l[i] = x at *
  have hch:=K3 v x hx (by omega)
  repeat' (first|refine qk ?_|(first|(refine Kv (first:=[]) (cap:=[.op 2 0 0]) 0 3 2 Tryd.func39 (hch) ?_))|((first|(apply qb;rfl;rfl;exact nle rfl)|(apply qa;rfl;rfl;exact nle rfl)|refine xsC ?_ ?_);all_goals (intro hc;have hp:=hc;try simp at hp;try (exfalso;omega)))|refine jm ?_ ?_)
  all_goals try (exfalso;omega)
  all_goals (refine ⟨l.length - (i + 1),⟨[(32,jX l),(33,.v (.int .i64 (l.length:Int))),(34,.v (.int .i64 ((i + 1:Nat):Int))),(3,.clo (.func 39) [] [.op 2 0 0])],[(0,tyW (wrB 0 3 (WS.ent v x).s (WS.ent v x).g (WS.ent v x).f)),(3,qF (WS.ent v x).s),(2,qP 0)],4⟩,by omega,?_,⟨i + 1,by omega,rfl,by rw [hnx]⟩⟩;refine qS [(5,3)] rfl ?gts ?ghs;(case gts=>(repeat (first|exact ql|refine qZ ?_|refine ym ?_|refine jH ?_|refine yu ?_|refine jI ?_ ?_|refine yf ?_ ?_));all_goals exact yz ql (qd rfl));(case ghs=>refine yj (q:=0) (m:=5) rfl rfl (qd rfl) (qd rfl) ?_ ?_ ?_ (vr (q:=0) (b:=2) rfl (qd rfl) (qd rfl) qh);all_goals (first|(with_reducible rfl)|rfl)))
 ·obtain rfl:i = l.length:=by omega
  rw [List.take_length]
  clear hlen hnum
  repeat' (first|refine qk ?_|fail|((first|(apply qb;rfl;rfl;exact nle rfl)|(apply qa;rfl;rfl;exact nle rfl)|refine xsC ?_ ?_);all_goals (intro hc;have hp:=hc;try simp at hp;try (exfalso;omega)))|refine jm ?_ ?_)
  all_goals try (exfalso;omega)
  all_goals ((apply qD (rs:=[]) [(3,3)] 4;(case hr=>(repeat (first|exact qw|(apply qx;rfl)|(apply qu;rfl;rfl;rfl;rfl;rfl))));(case hL=>rfl);(case hh=>refine zu (q:=0) (m:=3) (b:=2) rfl rfl rfl (qd rfl) (qd rfl) (qd rfl) (qd rfl) ?_ ?_ ?_ qh;all_goals (first|(with_reducible rfl)|rfl));(case hi=>exact rfl);(case hz=>first|rfl|(simp [jQ,AV.ren,AV.ren.renL,js,qn,jh];done))))
theorem ku (w:WS) (l:List Com) (hl:l.length ≤ 1000000000) (hg:(w.g || decide (10 < l.length)) = true):qp C3.P 40 [.op 0 0 0,j3 l,.v (.int .i64 10),.clo (.func 41) [] [.op 2 0 0]] [tyW (wrB 0 1 w.s w.g w.f),qF w.s,qP 0] (.tup []) [tyW (wrB 0 1 w.s true w.f),qF w.s,qP 0]:=by
 have hml:(l.map Com.row).length = l.length:=List.length_map ..
 obtain ⟨ws,wg,wf⟩:=w
 dsimp only at *
 cases wg
 all_goals unfold j3
 all_goals (refine qf (C:=C3) Tryd.func40 rfl _ Tryd.ntmps40 (Nat.le_of_ble_eq_true rfl) _ Tryd.results40 3 rfl rfl ?_)
 all_goals (repeat' (first|refine qk ?_|fail|((first|(apply qb;rfl;rfl;exact nle rfl)|(apply qa;rfl;rfl;exact nle rfl)|refine xsC ?_ ?_);all_goals (intro hc;have hp:=hc;try simp at hp;try (exfalso;omega)))|refine jm ?_ ?_))
 all_goals try (exfalso;simp only [Bool.false_or,Bool.true_or,decide_eq_true_eq,hml] at hg;first|omega|(simp at hc;omega);done)
 all_goals ((apply qD (rs:=[]) [] 3;(case hr=>(repeat (first|exact qw|(apply qx;rfl)|(apply qu;rfl;rfl;rfl;rfl;rfl))));(case hL=>rfl);(case hh=>refine yj (q:=0) (m:=1) rfl rfl (qd rfl) (qd rfl) ?_ ?_ ?_ (vr (q:=0) (b:=2) rfl (qd rfl) (qd rfl) qh);all_goals (first|(with_reducible rfl)|rfl|exact hc));(case hi=>exact rfl);(case hz=>first|rfl|(simp [jQ,AV.ren,AV.ren.renL,js,qn,jh];done))))
set_option maxHeartbeats 4000000 in
theorem Yw (w:WS) (l:List Com) (hfit : ∀ c,c ∈ l → c.fit) (hg:w.g = false) (hl:l.length ≤ 10) (hw:w.s.length ≤ 90000000000000):qp C3.P 40 [.op 0 0 0,j3 l,.v (.int .i64 10),.clo (.func 41) [] [.op 2 0 0]] [tyW (wrB 0 1 w.s w.g w.f),qF w.s,qP 0] (.tup []) [tyW (wrB 0 3 (l.foldl WS.com (w.num l.length)).s (l.foldl WS.com (w.num l.length)).g (l.foldl WS.com (w.num l.length)).f),.dead,qP 0,qF (l.foldl WS.com (w.num l.length)).s]:=by
 have hml:(l.map Com.row).length = l.length:=List.length_map ..
 have hi64:xo (l.length:Int):=⟨by omega,by omega⟩
 have hn1:=yO w l.length hi64
 have hlen : ∀ i,i ≤ l.length → ((l.take i).foldl WS.com (w.num l.length)).s.length ≤ 94000000000000:=fun i hi=>by
  have h1:=xk WS.com Com.fit 82000000000 (fun w x hx=>Vt w hx) (l.take i) (w.num l.length) (fun x hx=>hfit x (List.mem_of_mem_take hx))
  have h2:(l.take i).length ≤ 10:=by rw [List.length_take];omega
  have h3:(w.num l.length).s.length ≤ w.s.length + 22:=hn1
  have h4:(l.take i).length * 82000000000 ≤ 10 * 82000000000:=Nat.mul_le_mul_right _ h2
  omega
 obtain ⟨ws,wg,wf⟩:=w
 dsimp only at hg hw
 subst hg
 have hnum:=fun g=>jU ⟨ws,g,wf⟩ [((l.map Com.row).length:Int)] (by simp) (yt (by rw [hml];exact hi64)) (by simp) (by dsimp only;omega)
 refine qf (C:=C3) Tryd.func40 rfl _ Tryd.ntmps40 (Nat.le_of_ble_eq_true rfl) _ Tryd.results40 3 rfl rfl ?_
 repeat' (first|refine qk ?_|(first|(refine ye ?_)|(apply qc Tryd.func20 rfl rfl;intro hIsFn;refine yk 0 1 hIsFn ((hnum (decide ((10:Int) < ((l.map Com.row).length:Int))))) ?_))|((first|(apply qb;rfl;rfl;exact nle rfl)|(apply qa;rfl;rfl;exact nle rfl)|refine xsC ?_ ?_);all_goals (intro hc;have hp:=hc;try simp at hp;try (exfalso;omega)))|refine jm ?_ ?_)
 all_goals try (exfalso;simp at *;omega)
 (refine Awp.red (qS (τ:=⟨[(32,j3 l),(33,.v (.int .i64 (l.length:Int))),(34,.v (.int .i64 ((0:Nat):Int))),(3,.clo (.func 41) [] [.op 2 0 0])],[(0,tyW (wrB 0 3 ((WS.mk ws false wf).num l.length).s ((WS.mk ws false wf).num l.length).g ((WS.mk ws false wf).num l.length).f)),(3,qF ((WS.mk ws false wf).num l.length).s),(2,qP 0)],4⟩) [(3,3)] rfl ?gts2 ?ghs2) ?_;(case gts2=>(repeat (first|exact ql|refine qZ ?_|refine ym ?_|refine jH ?_|refine yu ?_|refine jI ?_ ?_|refine yf ?_ ?_));all_goals first|(rw [hml];done)|exact yz ql (qd rfl));(case ghs2=>refine yj (q:=0) (m:=3) rfl rfl (qd rfl) (qd rfl) ?_ ?_ ?_ (vr (q:=0) (b:=2) rfl (qd rfl) (qd rfl) qh);all_goals (first|(with_reducible rfl)|(rw [hml];rfl)|exact hc)))
 refine jW (fun n σ => ∃ i:Nat,i ≤ l.length ∧ n = l.length - i ∧ σ = ⟨[(32,j3 l),(33,.v (.int .i64 (l.length:Int))),(34,.v (.int .i64 (i:Int))),(3,.clo (.func 41) [] [.op 2 0 0])],[(0,tyW (wrB 0 3 ((l.take i).foldl WS.com ((WS.mk ws false wf).num l.length)).s ((l.take i).foldl WS.com ((WS.mk ws false wf).num l.length)).g ((l.take i).foldl WS.com ((WS.mk ws false wf).num l.length)).f)),(3,qF ((l.take i).foldl WS.com ((WS.mk ws false wf).num l.length)).s),(2,qP 0)],4⟩) l.length ⟨0,Nat.zero_le _,rfl,rfl⟩ ?_
 rintro n σ ⟨i,hi,rfl,rfl⟩
 have hs:=hlen i hi
 by_cases hlt:i < l.length
 ·have hr:=xG (f:=Com.row) hlt
  have hx:=hfit l[i] (List.getElem_mem hlt)
  have hnx:=k0 WS.com ((WS.mk ws false wf).num l.length) hlt
  clear hlen hnum
  generalize (l.take i).foldl WS.com ((WS.mk ws false wf).num l.length) = v at *
  generalize l[i] = x at *
  have hch:=K2 v x hx (by omega)
  repeat' (first|refine qk ?_|(first|(refine Kv (first:=[]) (cap:=[.op 2 0 0]) 0 3 2 Tryd.func41 (hch) ?_))|((first|(apply qb;rfl;rfl;exact nle rfl)|(apply qa;rfl;rfl;exact nle rfl)|refine xsC ?_ ?_);all_goals (intro hc;have hp:=hc;try simp at hp;try (exfalso;omega)))|refine jm ?_ ?_)
  all_goals try (exfalso;omega)
  all_goals (refine ⟨l.length - (i + 1),⟨[(32,j3 l),(33,.v (.int .i64 (l.length:Int))),(34,.v (.int .i64 ((i + 1:Nat):Int))),(3,.clo (.func 41) [] [.op 2 0 0])],[(0,tyW (wrB 0 3 (WS.com v x).s (WS.com v x).g (WS.com v x).f)),(3,qF (WS.com v x).s),(2,qP 0)],4⟩,by omega,?_,⟨i + 1,by omega,rfl,by rw [hnx]⟩⟩;refine qS [(5,3)] rfl ?gts ?ghs;(case gts=>(repeat (first|exact ql|refine qZ ?_|refine ym ?_|refine jH ?_|refine yu ?_|refine jI ?_ ?_|refine yf ?_ ?_));all_goals exact yz ql (qd rfl));(case ghs=>refine yj (q:=0) (m:=5) rfl rfl (qd rfl) (qd rfl) ?_ ?_ ?_ (vr (q:=0) (b:=2) rfl (qd rfl) (qd rfl) qh);all_goals (first|(with_reducible rfl)|rfl)))
 ·obtain rfl:i = l.length:=by omega
  rw [List.take_length]
  clear hlen hnum
  repeat' (first|refine qk ?_|fail|((first|(apply qb;rfl;rfl;exact nle rfl)|(apply qa;rfl;rfl;exact nle rfl)|refine xsC ?_ ?_);all_goals (intro hc;have hp:=hc;try simp at hp;try (exfalso;omega)))|refine jm ?_ ?_)
  all_goals try (exfalso;omega)
  all_goals ((apply qD (rs:=[]) [(3,3)] 4;(case hr=>(repeat (first|exact qw|(apply qx;rfl)|(apply qu;rfl;rfl;rfl;rfl;rfl))));(case hL=>rfl);(case hh=>refine zu (q:=0) (m:=3) (b:=2) rfl rfl rfl (qd rfl) (qd rfl) (qd rfl) (qd rfl) ?_ ?_ ?_ qh;all_goals (first|(with_reducible rfl)|rfl));(case hi=>exact rfl);(case hz=>first|rfl|(simp [jQ,AV.ren,AV.ren.renL,js,qn,jh];done))))
end Go.Proofs.YtahbbnfmbohmmaaDoor
set_option linter.unusedSimpArgs false
set_option linter.unnecessarySimpa false
set_option linter.unusedVariables false
set_option maxHeartbeats 1000000
namespace Go.Proofs.YtahbbnfmbohmmaaDoor
open Go.Ab Go.RowKit
set_option maxRecDepth 10000
attribute [local irreducible] Awp jE qY qK Red qA Go.Ab.Fin qp Rz yL qJ qE ResOk jl qL jA qB
structure Ans.fit (a:Ans):Prop where
 err:xo a.err
 num:xo a.num
 tree : ∀ x,x ∈ a.page.tree → x.fit
 tlen:a.page.tree.length ≤ 1000000000
 coms : ∀ x,x ∈ a.page.coms → x.fit
 clen:a.page.coms.length ≤ 1000000000
 cur:xo a.page.cur
theorem VM {n m:Int} (h:xo n) (h' : xo m) : ∀ k,k ∈ [n,m] → xo k:=fun k hk=>by
 simp only [List.mem_cons,List.not_mem_nil,or_false] at hk
 rcases hk with rfl|rfl
 ·exact h
 ·exact h'
theorem qaf (w:WS) (b:Bool):(w.yes b).s ≠ []:=by
 cases b
 ·exact @wX w [0] (by simp)
 ·exact @wX w [1] (by simp)
theorem VB {α:Type} (step:WS → α → WS) (fit:α → Prop) (K M:Nat) (hs : ∀ w x,fit x → (step w x).s.length ≤ w.s.length + K) (w:WS) {l:List α} (h : ∀ x,x ∈ l → fit x) (hM:M ≤ 1000):(w.lst l M step).s.length ≤ w.s.length + 22 + M * K:=by
 cases hg:(w.g || decide (M < l.length)) with
 | true =>
   rw [vV hg]
   show w.s.length ≤ _
   omega
 | false =>
   obtain ⟨e,_,hl⟩:=wa (step:=step) hg
   rw [e]
   have h1:=xk step fit K hs l (w.num l.length) h
   have h2:(w.num l.length).s.length ≤ w.s.length + 22:=yO w _ ⟨by omega,by omega⟩
   have h3:l.length * K ≤ M * K:=Nat.mul_le_mul_right _ hl
   omega
set_option maxHeartbeats 4000000 in
theorem JG (a:Ans) (h:a.fit):zb C.P 15 [.agg a.row] (.tup [.v (str (xh a).1),.v (.int .i64 (xh a).2)]):=by
 have b1:=zw ws0 [a.err,a.num] (VM h.err h.num)
 have b2:=Qb (ws0.nums [a.err,a.num]) a.page.reset
 have b3:=VB WS.ent Ent.fit 4000000000 60 (fun w x hx=>Vu w hx) ((ws0.nums [a.err,a.num]).yes a.page.reset) h.tree (by decide)
 have b4:=VB WS.com Com.fit 82000000000 10 (fun w x hx=>Vt w hx) (((ws0.nums [a.err,a.num]).yes a.page.reset).lst a.page.tree 60 WS.ent) h.coms (by decide)
 have b5:=yO ((((ws0.nums [a.err,a.num]).yes a.page.reset).lst a.page.tree 60 WS.ent).lst a.page.coms 10 WS.com) a.page.cur h.cur
 have b6:=Qb (((((ws0.nums [a.err,a.num]).yes a.page.reset).lst a.page.tree 60 WS.ent).lst a.page.coms 10 WS.com).nums [a.page.cur]) a.page.more
 have e0:ws0.s.length = 0:=rfl
 simp only [List.length_cons,List.length_nil] at b1
 have hE:xh a = ((((((ws0.nums [a.err,a.num]).yes a.page.reset).lst a.page.tree 60 WS.ent).lst a.page.coms 10 WS.com).nums [a.page.cur]).yes a.page.more).done:=rfl
 rw [hE]
 clear hE
 have c1:=Qe [a.err,a.num] (by simp) (VM h.err h.num) (by simp)
 have c2:=Xq (ws0.nums [a.err,a.num]) a.page.reset (by omega)
 have hT:=h.tree
 have hC:=h.coms
 have hTl:=h.tlen
 have hCl:=h.clen
 have hcur:=h.cur
 clear h
 obtain ⟨err,num,reset,tree,coms,cur,more⟩:=a
 dsimp only at *
 generalize ws0.nums [err,num] = wA at *
 generalize wA.yes reset = wB at *
 generalize hwC:wB.lst tree 60 WS.ent = wC at *
 generalize hwD:wC.lst coms 10 WS.com = wD at *
 have c5:=jU wD [cur] (by simp) (yt hcur) (by simp) (by omega)
 generalize wD.nums [cur] = wE at *
 have c6:=Xq wE more (by omega)
 have hne:=qaf wE more
 generalize wE.yes more = wF at *
 have c7:=JE wF hne (by omega)
 generalize wF.done = D at *
 cases hg:(wB.g || decide (60 < tree.length)) with
 | true =>
   have c3:=JF wB tree hTl hg
   rw [vV hg] at hwC
   subst hwC
   have hg2:((WS.mk wB.s true wB.f).g || decide (10 < coms.length)) = true:=rfl
   have c4:=ku ⟨wB.s,true,wB.f⟩ coms hCl hg2
   rw [vV hg2] at hwD
   subst hwD
   clear b1 b2 b3 b4 b5 b6 hT hC hTl hCl hcur hne hg hg2 e0
   dsimp only at *
   unfold Ans.row
   refine qf Tryd.func15 rfl _ Tryd.ntmps15 (Nat.le_of_ble_eq_true rfl) _ Tryd.results15 0 rfl rfl ?_
   repeat' (first|(first|(apply yR;apply (va 53);rfl;rfl;exact nle rfl)|(refine ye ?_)|(apply qc Tryd.func20 rfl rfl;intro hIsFn;refine Jr 1 hIsFn (c1) ?_)|(apply qc Tryd.func37 rfl rfl;intro hIsFn;refine yk 1 3 hIsFn (c2) ?_)|(apply qc Tryd.func38 rfl rfl;intro hIsFn;refine XK 1 5 2 hIsFn (c3) ?_)|(apply qc Tryd.func40 rfl rfl;intro hIsFn;refine XK 1 5 2 hIsFn (c4) ?_)|(apply qc Tryd.func20 rfl rfl;intro hIsFn;refine yk 1 5 hIsFn (c5) ?_)|(apply qc Tryd.func37 rfl rfl;intro hIsFn;refine yk 1 6 hIsFn (c6) ?_)|(apply qc Tryd.func23 rfl rfl;intro hIsFn;refine YY 1 7 hIsFn (c7) ?_))|refine qk ?_|((first|refine xsC ?_ ?_);all_goals (intro hc;have hp:=hc;try simp at hp;try (exfalso;omega)))|refine jm ?_ ?_)
   all_goals ((refine yd (rs:=[.tmp 2,.tmp 3]) ?_;(repeat' (first|exact jC|apply jp|exact jg rfl|exact yo|exact vo|apply jS|apply j7|apply jT|apply j5|apply jG|apply j6|refine vn ?_|apply yM));all_goals rfl))
 | false =>
   obtain ⟨eC,hB,hl⟩:=wa (step:=WS.ent) hg
   have c3:=Yx wB tree hT hB hl (by omega)
   rw [← eC,hwC] at c3
   clear eC hwC
   cases hg2:(wC.g || decide (10 < coms.length)) with
   | true =>
     have c4:=ku wC coms hCl hg2
     rw [vV hg2] at hwD
     subst hwD
     clear b1 b2 b3 b4 b5 b6 hT hC hTl hCl hcur hne hg hg2 e0 hB hl
     dsimp only at *
     unfold Ans.row
     refine qf Tryd.func15 rfl _ Tryd.ntmps15 (Nat.le_of_ble_eq_true rfl) _ Tryd.results15 0 rfl rfl ?_
     repeat' (first|(first|(apply yR;apply (va 53);rfl;rfl;exact nle rfl)|(refine ye ?_)|(apply qc Tryd.func20 rfl rfl;intro hIsFn;refine Jr 1 hIsFn (c1) ?_)|(apply qc Tryd.func37 rfl rfl;intro hIsFn;refine yk 1 3 hIsFn (c2) ?_)|(apply qc Tryd.func38 rfl rfl;intro hIsFn;refine Kt 1 5 2 hIsFn (c3) ?_)|(apply qc Tryd.func40 rfl rfl;intro hIsFn;refine XK 1 6 2 hIsFn (c4) ?_)|(apply qc Tryd.func20 rfl rfl;intro hIsFn;refine yk 1 6 hIsFn (c5) ?_)|(apply qc Tryd.func37 rfl rfl;intro hIsFn;refine yk 1 7 hIsFn (c6) ?_)|(apply qc Tryd.func23 rfl rfl;intro hIsFn;refine YY 1 8 hIsFn (c7) ?_))|refine qk ?_|((first|refine xsC ?_ ?_);all_goals (intro hc;have hp:=hc;try simp at hp;try (exfalso;omega)))|refine jm ?_ ?_)
     all_goals ((refine yd (rs:=[.tmp 2,.tmp 3]) ?_;(repeat' (first|exact jC|apply jp|exact jg rfl|exact yo|exact vo|apply jS|apply j7|apply jT|apply j5|apply jG|apply j6|refine vn ?_|apply yM));all_goals rfl))
   | false =>
     obtain ⟨eD,hCg,hl2⟩:=wa (step:=WS.com) hg2
     have c4:=Yw wC coms hC hCg hl2 (by omega)
     rw [← eD,hwD] at c4
     clear eD hwD
     clear b1 b2 b3 b4 b5 b6 hT hC hTl hCl hcur hne hg hg2 e0 hB hl hCg hl2
     unfold Ans.row
     refine qf Tryd.func15 rfl _ Tryd.ntmps15 (Nat.le_of_ble_eq_true rfl) _ Tryd.results15 0 rfl rfl ?_
     repeat' (first|(first|(apply yR;apply (va 53);rfl;rfl;exact nle rfl)|(refine ye ?_)|(apply qc Tryd.func20 rfl rfl;intro hIsFn;refine Jr 1 hIsFn (c1) ?_)|(apply qc Tryd.func37 rfl rfl;intro hIsFn;refine yk 1 3 hIsFn (c2) ?_)|(apply qc Tryd.func38 rfl rfl;intro hIsFn;refine Kt 1 5 2 hIsFn (c3) ?_)|(apply qc Tryd.func40 rfl rfl;intro hIsFn;refine Kt 1 6 2 hIsFn (c4) ?_)|(apply qc Tryd.func20 rfl rfl;intro hIsFn;refine yk 1 7 hIsFn (c5) ?_)|(apply qc Tryd.func37 rfl rfl;intro hIsFn;refine yk 1 8 hIsFn (c6) ?_)|(apply qc Tryd.func23 rfl rfl;intro hIsFn;refine YY 1 9 hIsFn (c7) ?_))|refine qk ?_|((first|refine xsC ?_ ?_);all_goals (intro hc;have hp:=hc;try simp at hp;try (exfalso;omega)))|refine jm ?_ ?_)
     all_goals ((refine yd (rs:=[.tmp 2,.tmp 3]) ?_;(repeat' (first|exact jC|apply jp|exact jg rfl|exact yo|exact vo|apply jS|apply j7|apply jT|apply j5|apply jG|apply j6|refine vn ?_|apply yM));all_goals rfl))
end Go.Proofs.YtahbbnfmbohmmaaDoor
