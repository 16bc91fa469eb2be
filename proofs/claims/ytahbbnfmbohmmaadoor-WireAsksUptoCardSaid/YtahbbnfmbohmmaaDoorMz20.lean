import Derived.Test.YtahbbnfmbohmmaaDoorMz14
import Derived.Test.YtahbbnfmbohmmaaDoorMz19
import Derived.Lib.ItoaLen
import Derived.Test.YtahbbnfmbohmmaaDoorMz8
set_option linter.unusedSimpArgs false
set_option linter.unnecessarySimpa false
set_option linter.unusedVariables false
set_option maxHeartbeats 1000000
namespace Go.Proofs.YtahbbnfmbohmmaaDoor
open Go.Ab Go.RowKit
set_option maxRecDepth 10000
attribute [local irreducible] Awp jU jo jz Red qt Go.Ab.Fin qr Rz vl jt jj ResOk jy jg yi qN
def j1 (n:Int):List AV:=[.v (.int .i64 n)]
def x7 (s:qh):List AV:=[.v (str s)]
theorem yn {n:Int} (h:xg n):(jx n).length ≤ 22:=by
 have:=Lib.itoa_length_le n h.1 h.2
 simp [jx]
 omega
theorem kP (w:WS) {ns:List Int} {i:Nat} (h:i < ns.length):w.nums (ns.take (i + 1)) = (w.nums (ns.take i)).num ns[i]:=by
 unfold WS.nums
 rw [List.take_succ_eq_append_getElem h,List.foldl_append]
 rfl
theorem vS (w:WS) : ∀ (ns:List Int),(∀ n,n ∈ ns → xg n) → (w.nums ns).s.length ≤ w.s.length + 22 * ns.length
 | [],_=>Nat.le_refl _
 | n :: ns,h=>by
   have h1:=vS (w.num n) ns (fun m hm=>h m (by simp [hm]))
   have h2:=yn (h n (by simp))
   have h3:(w.num n).s.length = w.s.length + (jx n).length:=List.length_append
   show ((w.num n).nums ns).s.length ≤ _
   simp only [List.length_cons]
   omega
theorem vp (w:WS) (ns:List Int) (i:Nat) (h : ∀ n,n ∈ ns → xg n) (hl:ns.length ≤ 10):(w.nums (ns.take i)).s.length ≤ w.s.length + 220:=by
 have h1:=vS w (ns.take i) (fun n hn=>h n (List.mem_of_mem_take hn))
 have h2:(ns.take i).length ≤ 10:=by rw [List.length_take];omega
 omega
set_option maxHeartbeats 4000000 in
theorem yM (w:WS) (ns:List Int) (h0:ns ≠ []) (hn : ∀ n,n ∈ ns → xg n) (hl:ns.length ≤ 10) (hw:w.s.length ≤ 100000000000000):qr C2.P 20 [.op 0 0 0,.sl true (ns.map j1)] [tyW (wrB 0 1 w.s w.g w.f),qI w.s] (.tup []) [tyW (wrB 0 2 (w.nums ns).s (w.nums ns).g (w.nums ns).f),.dead,qI (w.nums ns).s]:=by
 have hml:(ns.map j1).length = ns.length:=List.length_map ..
 have hpos:0 < ns.length:=by cases ns with|nil=>exact absurd rfl h0|cons _ _=>simp
 refine qc (C:=C2) Tryd.func20 rfl _ Tryd.ntmps20 (Nat.le_of_ble_eq_true rfl) _ Tryd.results20 2 rfl rfl ?_
 repeat' (first|refine ql ?_|fail|((first|refine g_sp_t ?_ ?_|refine g_sp_f ?_ ?_|refine xsC ?_ ?_);all_goals (intro hc;have hp:=hc;try simp at hp;try (exfalso;omega)))|refine jl ?_ ?_)
 (refine Awp.red (qZ (τ:=⟨[(0,.op 0 0 0),(6,.sl true (ns.map j1)),(7,.v (.int .i64 (ns.length:Int))),(8,.v (.int .i64 ((0:Nat):Int)))],[(0,tyW (wrB 0 1 w.s w.g w.f)),(1,qI w.s)],2⟩) [] rfl ?gts2 ?ghs2) ?_;(case gts2=>(repeat (first|exact qw|refine jr ?_|refine y4 ?_|refine yd ?_|refine xk ?_|refine ye ?_ ?_|refine y3 ?_ ?_));all_goals rw [hml]);(case ghs2=>refine yu (q:=0) (m:=1) rfl rfl (qd rfl) (qd rfl) ?_ ?_ ?_ qg;all_goals (first|(with_reducible rfl)|fail)))
 refine yy (fun n σ => ∃ i:Nat,i ≤ ns.length ∧ n = ns.length - i ∧ ((i = 0 ∧ σ = ⟨[(0,.op 0 0 0),(6,.sl true (ns.map j1)),(7,.v (.int .i64 (ns.length:Int))),(8,.v (.int .i64 ((0:Nat):Int)))],[(0,tyW (wrB 0 1 w.s w.g w.f)),(1,qI w.s)],2⟩) ∨ (0 < i ∧ σ = ⟨[(0,.op 0 0 0),(6,.sl true (ns.map j1)),(7,.v (.int .i64 (ns.length:Int))),(8,.v (.int .i64 (i:Int)))],[(0,tyW (wrB 0 2 (w.nums (ns.take i)).s (w.nums (ns.take i)).g (w.nums (ns.take i)).f)),(2,qI (w.nums (ns.take i)).s)],3⟩))) ns.length ⟨0,Nat.zero_le _,rfl,.inl ⟨rfl,rfl⟩⟩ ?_
 rintro n σ ⟨i,hi,rfl,hst⟩
 have hs:=vp w ns i hn hl
 by_cases hlt:i < ns.length
 ·have hr:=ze (f:=j1) hlt
  have hx:=hn ns[i] (List.getElem_mem hlt)
  have hnx:=kP w hlt
  rcases hst with ⟨rfl,rfl⟩|⟨hp,rfl⟩
  ·generalize ns[0] = x at *
   rw [show w.nums (ns.take 0) = w from rfl] at hnx
   obtain ⟨ws,wg,wf⟩:=w
   have hb:=yn hx
   have hi21:=Lib.itoa_length_le x hx.1 hx.2
   have hbd:ws.length + (Lib.itoa x ++ [59]).length ≤ 140737488355328:=by have:(jx x).length = (Lib.itoa x ++ [59]).length:=rfl;simp only at hw;omega
   dsimp only at *
   cases wf
   all_goals (repeat' (first|refine ql ?_|(first|refine xsF Tryd.func53 (xM x hx.1 hx.2 ..) ?_|(apply qa Tryd.func52 rfl rfl;intro hIsFn;refine xT 0 1 hIsFn ((xN _ _ _ _ hbd)) ?_))|((first|refine g_sp_t ?_ ?_|refine g_sp_f ?_ ?_|refine xsC ?_ ?_);all_goals (intro hc;have hp:=hc;try simp at hp;try (exfalso;omega)))|refine jl ?_ ?_))
   all_goals try (exfalso;first|omega|(exact h0 (by assumption)))
   all_goals (refine ⟨ns.length - (0 + 1),⟨[(0,.op 0 0 0),(6,.sl true (ns.map j1)),(7,.v (.int .i64 (ns.length:Int))),(8,.v (.int .i64 ((0 + 1:Nat):Int)))],[(0,tyW (wrB 0 2 (ws ++ jx x) wg _)),(2,qI (ws ++ jx x))],3⟩,by omega,?_,⟨1,by omega,rfl,.inr ⟨Nat.zero_lt_one,by rw [hnx];rfl⟩⟩⟩;refine qZ [(2,2)] rfl ?gts ?ghs;(case gts=>(repeat (first|exact qw|refine jr ?_|refine y4 ?_|refine yd ?_|refine xk ?_|refine ye ?_ ?_|refine y3 ?_ ?_));all_goals trace_state);(case ghs=>refine yu (q:=0) (m:=2) rfl rfl (qd rfl) (qd rfl) ?_ ?_ ?_ qg;all_goals (first|(with_reducible rfl)|(simp only [WS.num,vD,hc,Bool.false_or,Bool.true_or];done)|rfl)))
  ·generalize ns[i] = x at *
   generalize w.nums (ns.take i) = v at *
   obtain ⟨ws,wg,wf⟩:=v
   have hb:=yn hx
   have hi21:=Lib.itoa_length_le x hx.1 hx.2
   have hbd:ws.length + (Lib.itoa x ++ [59]).length ≤ 140737488355328:=by have:(jx x).length = (Lib.itoa x ++ [59]).length:=rfl;simp only at hs;omega
   dsimp only at *
   cases wf
   all_goals (repeat' (first|refine ql ?_|(first|refine xsF Tryd.func53 (xM x hx.1 hx.2 ..) ?_|(apply qa Tryd.func52 rfl rfl;intro hIsFn;refine xT 0 2 hIsFn ((xN _ _ _ _ hbd)) ?_))|((first|refine g_sp_t ?_ ?_|refine g_sp_f ?_ ?_|refine xsC ?_ ?_);all_goals (intro hc;have hp:=hc;try simp at hp;try (exfalso;omega)))|refine jl ?_ ?_))
   all_goals try (exfalso;first|omega|(exact h0 (by assumption)))
   all_goals (refine ⟨ns.length - (i + 1),⟨[(0,.op 0 0 0),(6,.sl true (ns.map j1)),(7,.v (.int .i64 (ns.length:Int))),(8,.v (.int .i64 ((i + 1:Nat):Int)))],[(0,tyW (wrB 0 2 (ws ++ jx x) wg _)),(2,qI (ws ++ jx x))],3⟩,by omega,?_,⟨i + 1,by omega,rfl,.inr ⟨Nat.succ_pos _,by rw [hnx];rfl⟩⟩⟩;refine qZ [(3,2)] rfl ?gts ?ghs;(case gts=>(repeat (first|exact qw|refine jr ?_|refine y4 ?_|refine yd ?_|refine xk ?_|refine ye ?_ ?_|refine y3 ?_ ?_));all_goals trace_state);(case ghs=>refine yu (q:=0) (m:=3) rfl rfl (qd rfl) (qd rfl) ?_ ?_ ?_ qg;all_goals (first|(with_reducible rfl)|(simp only [WS.num,vD,hc,Bool.false_or,Bool.true_or];done)|rfl)))
 ·obtain rfl:i = ns.length:=by omega
  rw [List.take_length] at hst
  rcases hst with ⟨h1,_⟩|⟨hp,rfl⟩
  ·omega
  repeat' (first|refine ql ?_|fail|((first|refine g_sp_t ?_ ?_|refine g_sp_f ?_ ?_|refine xsC ?_ ?_);all_goals (intro hc;have hp:=hc;try simp at hp;try (exfalso;omega)))|refine jl ?_ ?_)
  all_goals try (exfalso;first|omega|(exact h0 (by assumption)))
  all_goals ((apply qv (rs:=[]) [(2,2)] 3;(case hr=>(repeat (first|exact qo|(apply qp;rfl)|(apply qk;rfl;rfl;rfl;rfl;rfl))));(case hL=>rfl);(case hh=>refine vR (q:=0) (m:=2) rfl rfl (qd rfl) (qd rfl) (qd rfl) ?_ ?_ ?_ qg;all_goals (first|(with_reducible rfl)|fail));(case hi=>exact rfl);(case hz=>first|rfl|(simp [jC,AV.ren,AV.ren.renL,qY,qe,qT];done))))
end Go.Proofs.YtahbbnfmbohmmaaDoor
set_option linter.unusedSimpArgs false
set_option linter.unnecessarySimpa false
set_option linter.unusedVariables false
set_option maxHeartbeats 1000000
namespace Go.Proofs.YtahbbnfmbohmmaaDoor
open Go.Ab Go.RowKit
set_option maxRecDepth 10000
attribute [local irreducible] Awp jU jo jz Red qt Go.Ab.Fin qr Rz vl jt jj ResOk jy jg yi qN
theorem Xk (ns:List Int) (i:Nat) (h : ∀ n,n ∈ ns → xg n) (hl:ns.length ≤ 10):(ws0.nums (ns.take i)).s.length ≤ 220:=by
 have:=vp ws0 ns i h hl
 have e:ws0.s.length = 0:=rfl
 omega
set_option maxHeartbeats 4000000 in
theorem QE (ns:List Int) (h0:ns ≠ []) (hn : ∀ n,n ∈ ns → xg n) (hl:ns.length ≤ 10):qr C1.P 20 [.op 0 0 0,.sl true (ns.map j1)] [tyW (Xl false false)] (.tup []) [tyW (wrB 0 1 (ws0.nums ns).s (ws0.nums ns).g (ws0.nums ns).f),qI (ws0.nums ns).s]:=by
 have hml:(ns.map j1).length = ns.length:=List.length_map ..
 have hpos:0 < ns.length:=by cases ns with|nil=>exact absurd rfl h0|cons _ _=>simp
 refine qc (C:=C1) Tryd.func20 rfl _ Tryd.ntmps20 (Nat.le_of_ble_eq_true rfl) _ Tryd.results20 1 rfl rfl ?_
 repeat' (first|refine ql ?_|fail|((first|refine g_sp_t ?_ ?_|refine g_sp_f ?_ ?_|refine xsC ?_ ?_);all_goals (intro hc;have hp:=hc;try simp at hp;try (exfalso;omega)))|refine jl ?_ ?_)
 (refine Awp.red (qZ (τ:=⟨[(0,.op 0 0 0),(6,.sl true (ns.map j1)),(7,.v (.int .i64 (ns.length:Int))),(8,.v (.int .i64 ((0:Nat):Int)))],[(0,tyW (Xl false false))],1⟩) [] rfl ?gts2 ?ghs2) ?_;(case gts2=>(repeat (first|exact qw|refine jr ?_|refine y4 ?_|refine yd ?_|refine xk ?_|refine ye ?_ ?_|refine y3 ?_ ?_));all_goals rw [hml]);(case ghs2=>exact XC (q:=0) rfl (qd rfl) qg))
 refine yy (fun n σ => ∃ i:Nat,i ≤ ns.length ∧ n = ns.length - i ∧ ((i = 0 ∧ σ = ⟨[(0,.op 0 0 0),(6,.sl true (ns.map j1)),(7,.v (.int .i64 (ns.length:Int))),(8,.v (.int .i64 ((0:Nat):Int)))],[(0,tyW (Xl false false))],1⟩) ∨ (0 < i ∧ σ = ⟨[(0,.op 0 0 0),(6,.sl true (ns.map j1)),(7,.v (.int .i64 (ns.length:Int))),(8,.v (.int .i64 (i:Int)))],[(0,tyW (wrB 0 1 (ws0.nums (ns.take i)).s (ws0.nums (ns.take i)).g (ws0.nums (ns.take i)).f)),(1,qI (ws0.nums (ns.take i)).s)],2⟩))) ns.length ⟨0,Nat.zero_le _,rfl,.inl ⟨rfl,rfl⟩⟩ ?_
 rintro n σ ⟨i,hi,rfl,hst⟩
 have hs:=Xk ns i hn hl
 by_cases hlt:i < ns.length
 ·have hr:=ze (f:=j1) hlt
  have hx:=hn ns[i] (List.getElem_mem hlt)
  have hnx:=kP ws0 hlt
  rcases hst with ⟨rfl,rfl⟩|⟨hp,rfl⟩
  ·generalize ns[0] = x at *
   rw [show ws0.nums (ns.take 0) = ws0 from rfl] at hnx
   have hb:=yn hx
   have hi21:=Lib.itoa_length_le x hx.1 hx.2
   have hbd:(Lib.itoa x ++ [59]).length ≤ 140737488355328:=by have:(jx x).length = (Lib.itoa x ++ [59]).length:=rfl;omega
   have hne:Lib.itoa x ++ [59] ≠ []:=by simp
   (repeat' (first|refine ql ?_|(first|refine xsF Tryd.func53 (xM x hx.1 hx.2 ..) ?_|(apply qa Tryd.func52 rfl rfl;intro hIsFn;refine YV 0 hIsFn ((Yp _ _ _ hne hbd)) ?_))|((first|refine g_sp_t ?_ ?_|refine g_sp_f ?_ ?_|refine xsC ?_ ?_);all_goals (intro hc;have hp:=hc;try simp at hp;try (exfalso;omega)))|refine jl ?_ ?_))
   all_goals try (exfalso;first|omega|(exact h0 (by assumption)))
   all_goals (refine ⟨ns.length - (0 + 1),⟨[(0,.op 0 0 0),(6,.sl true (ns.map j1)),(7,.v (.int .i64 (ns.length:Int))),(8,.v (.int .i64 ((0 + 1:Nat):Int)))],[(0,tyW (wrB 0 1 ([] ++ jx x) false _)),(1,qI ([] ++ jx x))],2⟩,by omega,?_,⟨1,by omega,rfl,.inr ⟨Nat.zero_lt_one,by rw [hnx];rfl⟩⟩⟩;refine qZ [(1,1)] rfl ?gts ?ghs;(case gts=>(repeat (first|exact qw|refine jr ?_|refine y4 ?_|refine yd ?_|refine xk ?_|refine ye ?_ ?_|refine y3 ?_ ?_));all_goals trace_state);(case ghs=>refine yu (q:=0) (m:=1) rfl rfl (qd rfl) (qd rfl) ?_ ?_ ?_ qg;all_goals (first|(with_reducible rfl)|(simp only [WS.num,ws0,vD,hc,Bool.false_or,Bool.true_or];done)|rfl)))
  ·generalize ns[i] = x at *
   generalize ws0.nums (ns.take i) = v at *
   obtain ⟨ws,wg,wf⟩:=v
   have hb:=yn hx
   have hi21:=Lib.itoa_length_le x hx.1 hx.2
   have hbd:ws.length + (Lib.itoa x ++ [59]).length ≤ 140737488355328:=by have:(jx x).length = (Lib.itoa x ++ [59]).length:=rfl;simp only at hs;omega
   dsimp only at *
   cases wf
   all_goals (repeat' (first|refine ql ?_|(first|refine xsF Tryd.func53 (xM x hx.1 hx.2 ..) ?_|(apply qa Tryd.func52 rfl rfl;intro hIsFn;refine xT 0 1 hIsFn ((xN _ _ _ _ hbd)) ?_))|((first|refine g_sp_t ?_ ?_|refine g_sp_f ?_ ?_|refine xsC ?_ ?_);all_goals (intro hc;have hp:=hc;try simp at hp;try (exfalso;omega)))|refine jl ?_ ?_))
   all_goals try (exfalso;first|omega|(exact h0 (by assumption)))
   all_goals (refine ⟨ns.length - (i + 1),⟨[(0,.op 0 0 0),(6,.sl true (ns.map j1)),(7,.v (.int .i64 (ns.length:Int))),(8,.v (.int .i64 ((i + 1:Nat):Int)))],[(0,tyW (wrB 0 1 (ws ++ jx x) wg _)),(1,qI (ws ++ jx x))],2⟩,by omega,?_,⟨i + 1,by omega,rfl,.inr ⟨Nat.succ_pos _,by rw [hnx];rfl⟩⟩⟩;refine qZ [(2,1)] rfl ?gts ?ghs;(case gts=>(repeat (first|exact qw|refine jr ?_|refine y4 ?_|refine yd ?_|refine xk ?_|refine ye ?_ ?_|refine y3 ?_ ?_));all_goals trace_state);(case ghs=>refine yu (q:=0) (m:=2) rfl rfl (qd rfl) (qd rfl) ?_ ?_ ?_ qg;all_goals (first|(with_reducible rfl)|(simp only [WS.num,vD,hc,Bool.false_or,Bool.true_or];done)|rfl)))
 ·obtain rfl:i = ns.length:=by omega
  rw [List.take_length] at hst
  rcases hst with ⟨h1,_⟩|⟨hp,rfl⟩
  ·omega
  repeat' (first|refine ql ?_|fail|((first|refine g_sp_t ?_ ?_|refine g_sp_f ?_ ?_|refine xsC ?_ ?_);all_goals (intro hc;have hp:=hc;try simp at hp;try (exfalso;omega)))|refine jl ?_ ?_)
  all_goals try (exfalso;first|omega|(exact h0 (by assumption)))
  all_goals ((apply qv (rs:=[]) [(1,1)] 2;(case hr=>(repeat (first|exact qo|(apply qp;rfl)|(apply qk;rfl;rfl;rfl;rfl;rfl))));(case hL=>rfl);(case hh=>refine yu (q:=0) (m:=1) rfl rfl (qd rfl) (qd rfl) ?_ ?_ ?_ qg;all_goals (first|(with_reducible rfl)|fail));(case hi=>exact rfl);(case hz=>first|rfl|(simp [jC,AV.ren,AV.ren.renL,qY,qe,qT];done))))
theorem Ye (w:WS) {l:List qh} {i:Nat} (h:i < l.length):w.txts (l.take (i + 1)) = (w.txts (l.take i)).txt l[i]:=by
 unfold WS.txts
 rw [List.take_succ_eq_append_getElem h,List.foldl_append]
 rfl
theorem x8 (w:WS) : ∀ (l:List qh),(∀ s,s ∈ l → s.length ≤ 1000000000) → (w.txts l).s.length ≤ w.s.length + 1000000022 * l.length
 | [],_=>Nat.le_refl _
 | s :: l,h=>by
   have h1:=x8 (w.txt s) l (fun m hm=>h m (by simp [hm]))
   have h0:=h s (by simp)
   have h2:=yn (n:=(s.length:Int)) ⟨by omega,by omega⟩
   have h3:(w.txt s).s.length = w.s.length + ((jx s.length).length + s.length):=by
    show (w.s ++ (jx s.length ++ s)).length = _
    rw [List.length_append,List.length_append]
   show ((w.txt s).txts l).s.length ≤ _
   simp only [List.length_cons]
   omega
theorem kI (w:WS) (l:List qh) (i:Nat) (h : ∀ s,s ∈ l → s.length ≤ 1000000000) (hl:l.length ≤ 10):(w.txts (l.take i)).s.length ≤ w.s.length + 10000000220:=by
 have h1:=x8 w (l.take i) (fun n hn=>h n (List.mem_of_mem_take hn))
 have h2:(l.take i).length ≤ 10:=by rw [List.length_take];omega
 omega
end Go.Proofs.YtahbbnfmbohmmaaDoor
set_option linter.unusedSimpArgs false
set_option linter.unnecessarySimpa false
set_option linter.unusedVariables false
set_option maxHeartbeats 1000000
namespace Go.Proofs.YtahbbnfmbohmmaaDoor
open Go.Ab Go.RowKit
set_option maxRecDepth 10000
attribute [local irreducible] Awp jU jo jz Red qt Go.Ab.Fin qr Rz vl jt jj ResOk jy jg yi qN
theorem xy {n:Int} (h:xg n) : ∀ m,m ∈ [n] → xg m:=fun m hm=>by simp only [List.mem_singleton] at hm;exact hm ▸ h
set_option maxHeartbeats 4000000 in
theorem Jg (w:WS) (l:List qh) (h0:l ≠ []) (hn : ∀ s,s ∈ l → s.length ≤ 1000000000) (hl:l.length ≤ 10) (hw:w.s.length ≤ 99000000000000):qr C2.P 21 [.op 0 0 0,.sl true (l.map x7)] [tyW (wrB 0 1 w.s w.g w.f),qI w.s] (.tup []) [tyW (wrB 0 2 (w.txts l).s (w.txts l).g (w.txts l).f),.dead,qI (w.txts l).s]:=by
 have hml:(l.map x7).length = l.length:=List.length_map ..
 have hpos:0 < l.length:=by cases l with|nil=>exact absurd rfl h0|cons _ _=>simp
 refine qc (C:=C2) Tryd.func21 rfl _ Tryd.ntmps21 (Nat.le_of_ble_eq_true rfl) _ Tryd.results21 2 rfl rfl ?_
 repeat' (first|refine ql ?_|fail|((first|refine g_sp_t ?_ ?_|refine g_sp_f ?_ ?_|refine xsC ?_ ?_);all_goals (intro hc;have hp:=hc;try simp at hp;try (exfalso;omega)))|refine jl ?_ ?_)
 (refine Awp.red (qZ (τ:=⟨[(0,.op 0 0 0),(6,.sl true (l.map x7)),(7,.v (.int .i64 (l.length:Int))),(8,.v (.int .i64 ((0:Nat):Int)))],[(0,tyW (wrB 0 1 w.s w.g w.f)),(1,qI w.s)],2⟩) [] rfl ?gts2 ?ghs2) ?_;(case gts2=>(repeat (first|exact qw|refine jr ?_|refine y4 ?_|refine yd ?_|refine xk ?_|refine ye ?_ ?_|refine y3 ?_ ?_));all_goals rw [hml]);(case ghs2=>refine yu (q:=0) (m:=1) rfl rfl (qd rfl) (qd rfl) ?_ ?_ ?_ qg;all_goals (first|(with_reducible rfl)|fail)))
 refine yy (fun n σ => ∃ i:Nat,i ≤ l.length ∧ n = l.length - i ∧ ((i = 0 ∧ σ = ⟨[(0,.op 0 0 0),(6,.sl true (l.map x7)),(7,.v (.int .i64 (l.length:Int))),(8,.v (.int .i64 ((0:Nat):Int)))],[(0,tyW (wrB 0 1 w.s w.g w.f)),(1,qI w.s)],2⟩) ∨ (0 < i ∧ σ = ⟨[(0,.op 0 0 0),(6,.sl true (l.map x7)),(7,.v (.int .i64 (l.length:Int))),(8,.v (.int .i64 (i:Int)))],[(0,tyW (wrB 0 2 (w.txts (l.take i)).s (w.txts (l.take i)).g (w.txts (l.take i)).f)),(2,qI (w.txts (l.take i)).s)],3⟩))) l.length ⟨0,Nat.zero_le _,rfl,.inl ⟨rfl,rfl⟩⟩ ?_
 rintro n σ ⟨i,hi,rfl,hst⟩
 have hs:=kI w l i hn hl
 by_cases hlt:i < l.length
 ·have hr:=ze (f:=x7) hlt
  have hx:=hn l[i] (List.getElem_mem hlt)
  have hnx:=Ye w hlt
  rcases hst with ⟨rfl,rfl⟩|⟨hp,rfl⟩
  ·generalize l[0] = x at *
   rw [show w.txts (l.take 0) = w from rfl] at hnx hs
   obtain ⟨ws,wg,wf⟩:=w
   dsimp only at *
   have hi64:xg (x.length:Int):=⟨by omega,by omega⟩
   have hb:=yn hi64
   have hbd : ∀ g f,((WS.mk ws g f).nums [(x.length:Int)]).s.length + x.length ≤ 140737488355328:=fun g f=>by
    have:((WS.mk ws g f).nums [(x.length:Int)]).s.length = ws.length + (jx (x.length:Int)).length:=List.length_append
    omega
   have hwb:ws.length ≤ 100000000000000:=by omega
   have hgt:decide (1000 < x.length) = decide ((1000:Int) < (x.length:Int)):=by rw [decide_eq_decide];omega
   cases wg
   all_goals (repeat' (first|refine ql ?_|(first|(refine xF ?_)|(apply qa Tryd.func20 rfl rfl;intro hIsFn;refine xT 0 1 hIsFn ((yM ⟨ws,_,wf⟩ [(x.length:Int)] (by simp) (xy hi64) (by simp) hwb)) ?_)|(apply qa Tryd.func52 rfl rfl;intro hIsFn;refine xT 0 2 hIsFn ((xN _ _ _ _ (hbd _ _))) ?_))|((first|refine g_sp_t ?_ ?_|refine g_sp_f ?_ ?_|refine xsC ?_ ?_);all_goals (intro hc;have hp:=hc;try simp at hp;try (exfalso;omega)))|refine jl ?_ ?_))
   all_goals try (exfalso;first|omega|(exact h0 (by assumption)))
   all_goals (refine ⟨l.length - (0 + 1),⟨[(0,.op 0 0 0),(6,.sl true (l.map x7)),(7,.v (.int .i64 (l.length:Int))),(8,.v (.int .i64 ((0 + 1:Nat):Int)))],[(0,tyW (wrB 0 2 (ws ++ y7 x) _ _)),(2,qI (ws ++ y7 x))],3⟩,by omega,?_,⟨0 + 1,by omega,rfl,.inr ⟨Nat.succ_pos _,by rw [hnx];rfl⟩⟩⟩;refine qZ [(3,2)] rfl ?gts ?ghs;(case gts=>(repeat (first|exact qw|refine jr ?_|refine y4 ?_|refine yd ?_|refine xk ?_|refine ye ?_ ?_|refine y3 ?_ ?_));all_goals trace_state);(case ghs=>refine yu (q:=0) (m:=3) rfl rfl (qd rfl) (qd rfl) ?_ ?_ ?_ qg;all_goals (first|(with_reducible rfl)|(exact List.append_assoc ws (jx (x.length:Int)) x)|(simp only [WS.txt,WS.nums,List.foldl_cons,List.foldl_nil,WS.num,hgt,hc,Bool.false_or,Bool.true_or];done)|rfl|(show _ = (Bool.or false (decide (1000 < x.length)));rw [Bool.false_or,hgt];rfl))))
  ·generalize l[i] = x at *
   generalize w.txts (l.take i) = v at *
   obtain ⟨ws,wg,wf⟩:=v
   dsimp only at *
   have hi64:xg (x.length:Int):=⟨by omega,by omega⟩
   have hb:=yn hi64
   have hbd : ∀ g f,((WS.mk ws g f).nums [(x.length:Int)]).s.length + x.length ≤ 140737488355328:=fun g f=>by
    have:((WS.mk ws g f).nums [(x.length:Int)]).s.length = ws.length + (jx (x.length:Int)).length:=List.length_append
    omega
   have hwb:ws.length ≤ 100000000000000:=by omega
   have hgt:decide (1000 < x.length) = decide ((1000:Int) < (x.length:Int)):=by rw [decide_eq_decide];omega
   cases wg
   all_goals (repeat' (first|refine ql ?_|(first|(refine xF ?_)|(apply qa Tryd.func20 rfl rfl;intro hIsFn;refine xT 0 2 hIsFn ((yM ⟨ws,_,wf⟩ [(x.length:Int)] (by simp) (xy hi64) (by simp) hwb)) ?_)|(apply qa Tryd.func52 rfl rfl;intro hIsFn;refine xT 0 3 hIsFn ((xN _ _ _ _ (hbd _ _))) ?_))|((first|refine g_sp_t ?_ ?_|refine g_sp_f ?_ ?_|refine xsC ?_ ?_);all_goals (intro hc;have hp:=hc;try simp at hp;try (exfalso;omega)))|refine jl ?_ ?_))
   all_goals try (exfalso;first|omega|(exact h0 (by assumption)))
   all_goals (refine ⟨l.length - (i + 1),⟨[(0,.op 0 0 0),(6,.sl true (l.map x7)),(7,.v (.int .i64 (l.length:Int))),(8,.v (.int .i64 ((i + 1:Nat):Int)))],[(0,tyW (wrB 0 2 (ws ++ y7 x) _ _)),(2,qI (ws ++ y7 x))],3⟩,by omega,?_,⟨i + 1,by omega,rfl,.inr ⟨Nat.succ_pos _,by rw [hnx];rfl⟩⟩⟩;refine qZ [(4,2)] rfl ?gts ?ghs;(case gts=>(repeat (first|exact qw|refine jr ?_|refine y4 ?_|refine yd ?_|refine xk ?_|refine ye ?_ ?_|refine y3 ?_ ?_));all_goals trace_state);(case ghs=>refine yu (q:=0) (m:=4) rfl rfl (qd rfl) (qd rfl) ?_ ?_ ?_ qg;all_goals (first|(with_reducible rfl)|(exact List.append_assoc ws (jx (x.length:Int)) x)|(simp only [WS.txt,WS.nums,List.foldl_cons,List.foldl_nil,WS.num,hgt,hc,Bool.false_or,Bool.true_or];done)|rfl|(show _ = (Bool.or false (decide (1000 < x.length)));rw [Bool.false_or,hgt];rfl))))
 ·obtain rfl:i = l.length:=by omega
  rw [List.take_length] at hst
  rcases hst with ⟨h1,_⟩|⟨hp,rfl⟩
  ·omega
  repeat' (first|refine ql ?_|fail|((first|refine g_sp_t ?_ ?_|refine g_sp_f ?_ ?_|refine xsC ?_ ?_);all_goals (intro hc;have hp:=hc;try simp at hp;try (exfalso;omega)))|refine jl ?_ ?_)
  all_goals try (exfalso;first|omega|(exact h0 (by assumption)))
  all_goals ((apply qv (rs:=[]) [(2,2)] 3;(case hr=>(repeat (first|exact qo|(apply qp;rfl)|(apply qk;rfl;rfl;rfl;rfl;rfl))));(case hL=>rfl);(case hh=>refine vR (q:=0) (m:=2) rfl rfl (qd rfl) (qd rfl) (qd rfl) ?_ ?_ ?_ qg;all_goals (first|(with_reducible rfl)|fail));(case hi=>exact rfl);(case hz=>first|rfl|(simp [jC,AV.ren,AV.ren.renL,qY,qe,qT];done))))
theorem zi (w:WS) (n:Int) (h:xg n):(w.nums [n]).s.length ≤ w.s.length + 22:=by
 have:=vS w [n] (xy h)
 simpa using this
structure Chg.fit (c:Chg):Prop where
 kind:xg c.kind
 path:c.path.length ≤ 1000000000
 tto:c.to.length ≤ 1000000000
 text:c.text.length ≤ 1000000000
 base:xg c.base
theorem Jj (w:WS) {c:Chg} (h:c.fit):(w.chg c).s.length ≤ w.s.length + 4000000000:=by
 have h1:=zi w c.kind h.kind
 have h2:=x8 (w.nums [c.kind]) [c.path,c.to,c.text] (fun s hs=>by
  simp only [List.mem_cons,List.not_mem_nil,or_false] at hs
  rcases hs with rfl|rfl|rfl
  ·exact h.path
  ·exact h.tto
  ·exact h.text)
 have h3:=zi ((w.nums [c.kind]).txts [c.path,c.to,c.text]) c.base h.base
 simp only [List.length_cons,List.length_nil] at h2
 show (((w.nums [c.kind]).txts [c.path,c.to,c.text]).nums [c.base]).s.length ≤ _
 omega
set_option maxHeartbeats 2000000 in
theorem JH (w:WS) (c:Chg) (h:c.fit) (hw:w.s.length ≤ 98000000000000):qr C2.P 55 [.op 0 0 0,.agg c.row] [tyW (wrB 0 1 w.s w.g w.f),qI w.s] (.tup []) [tyW (wrB 0 2 (w.chg c).s (w.chg c).g (w.chg c).f),.dead,qI (w.chg c).s]:=by
 have ht : ∀ s,s ∈ [c.path,c.to,c.text] → s.length ≤ 1000000000:=fun s hs=>by
  simp only [List.mem_cons,List.not_mem_nil,or_false] at hs
  rcases hs with rfl|rfl|rfl
  ·exact h.path
  ·exact h.tto
  ·exact h.text
 have b1:=zi w c.kind h.kind
 have b2:=x8 (w.nums [c.kind]) [c.path,c.to,c.text] ht
 simp only [List.length_cons,List.length_nil] at b2
 have c1:=yM w [c.kind] (by simp) (xy h.kind) (by simp) (by omega)
 have c2:=Jg (w.nums [c.kind]) [c.path,c.to,c.text] (by simp) ht (by simp) (by omega)
 have c3:=yM ((w.nums [c.kind]).txts [c.path,c.to,c.text]) [c.base] (by simp) (xy h.base) (by simp) (by omega)
 have hE:w.chg c = ((w.nums [c.kind]).txts [c.path,c.to,c.text]).nums [c.base]:=rfl
 rw [hE]
 clear hE b1 b2 ht h hw
 unfold Chg.row
 generalize ((w.nums [c.kind]).txts [c.path,c.to,c.text]).nums [c.base] = w3 at *
 generalize (w.nums [c.kind]).txts [c.path,c.to,c.text] = w2 at *
 generalize w.nums [c.kind] = w1 at *
 refine qc (C:=C2) Tryd.func55 rfl _ Tryd.ntmps55 (Nat.le_of_ble_eq_true rfl) _ Tryd.results55 2 rfl rfl ?_
 repeat' (first|refine ql ?_|(first|(refine xF ?_)|(apply qa Tryd.func20 rfl rfl;intro hIsFn;refine xT 0 1 hIsFn (c1) ?_)|(apply qa Tryd.func21 rfl rfl;intro hIsFn;refine xT 0 3 hIsFn (c2) ?_)|(apply qa Tryd.func20 rfl rfl;intro hIsFn;refine xT 0 4 hIsFn (c3) ?_))|((first|refine g_sp_t ?_ ?_|refine g_sp_f ?_ ?_|refine xsC ?_ ?_);all_goals (intro hc;have hp:=hc;try simp at hp;try (exfalso;omega)))|refine jl ?_ ?_)
 all_goals ((apply qv (rs:=[]) [(5,2)] 3;(case hr=>(repeat (first|exact qo|(apply qp;rfl)|(apply qk;rfl;rfl;rfl;rfl;rfl))));(case hL=>rfl);(case hh=>refine vR (q:=0) (m:=5) rfl rfl (qd rfl) (qd rfl) (qd rfl) ?_ ?_ ?_ qg;all_goals (first|(with_reducible rfl)|rfl));(case hi=>exact rfl);(case hz=>first|rfl|(simp [jC,AV.ren,AV.ren.renL,qY,qe,qT];done))))
end Go.Proofs.YtahbbnfmbohmmaaDoor
set_option linter.unusedSimpArgs false
set_option linter.unnecessarySimpa false
set_option linter.unusedVariables false
set_option maxHeartbeats 1000000
namespace Go.Proofs.YtahbbnfmbohmmaaDoor
open Go.Ab Go.RowKit
set_option maxRecDepth 10000
attribute [local irreducible] Awp jU jo jz Red qt Go.Ab.Fin qr Rz vl jt jj ResOk jy jg yi qN
theorem JT {α:Type} (step:WS → α → WS) (w:WS) {l:List α} {i:Nat} (h:i < l.length):(l.take (i + 1)).foldl step w = step ((l.take i).foldl step w) l[i]:=by
 rw [List.take_succ_eq_append_getElem h,List.foldl_append]
 rfl
theorem ka {α:Type} (step:WS → α → WS) (fit:α → Prop) (K:Nat) (hs : ∀ w x,fit x → (step w x).s.length ≤ w.s.length + K) : ∀ (l:List α) (w:WS),(∀ x,x ∈ l → fit x) → (l.foldl step w).s.length ≤ w.s.length + l.length * K
 | [],w,_=>by simp
 | x :: l,w,h=>by
   have h1:=ka step fit K hs l (step w x) (fun y hy=>h y (by simp [hy]))
   have h2:=hs w x (h x (by simp))
   rw [List.foldl_cons,List.length_cons,Nat.add_mul]
   omega
theorem wS (w:WS) (l:List Chg) (hl:l.length ≤ 1000000000) (hg:(w.g || decide (20 < l.length)) = true):qr C2.P 54 [.op 0 0 0,yk l,.v (.int .i64 20),.clo (.func 55) [.op 0 0 0] []] [tyW (wrB 0 1 w.s w.g w.f),qI w.s] (.tup []) [tyW (wrB 0 1 w.s true w.f),qI w.s]:=by
 have hml:(l.map Chg.row).length = l.length:=List.length_map ..
 obtain ⟨ws,wg,wf⟩:=w
 dsimp only at *
 cases wg
 all_goals unfold yk
 all_goals (refine qc (C:=C2) Tryd.func54 rfl _ Tryd.ntmps54 (Nat.le_of_ble_eq_true rfl) _ Tryd.results54 2 rfl rfl ?_)
 all_goals (repeat' (first|refine ql ?_|fail|((first|refine g_sp_t ?_ ?_|refine g_sp_f ?_ ?_|refine xsC ?_ ?_);all_goals (intro hc;have hp:=hc;try simp at hp;try (exfalso;omega)))|refine jl ?_ ?_))
 all_goals try (exfalso;simp only [Bool.false_or,Bool.true_or,decide_eq_true_eq,hml] at hg;first|omega|(simp at hc;omega);done)
 all_goals ((apply qv (rs:=[]) [] 2;(case hr=>(repeat (first|exact qo|(apply qp;rfl)|(apply qk;rfl;rfl;rfl;rfl;rfl))));(case hL=>rfl);(case hh=>refine yu (q:=0) (m:=1) rfl rfl (qd rfl) (qd rfl) ?_ ?_ ?_ qg;all_goals (first|(with_reducible rfl)|rfl|exact hc));(case hi=>exact rfl);(case hz=>first|rfl|(simp [jC,AV.ren,AV.ren.renL,qY,qe,qT];done))))
set_option maxHeartbeats 4000000 in
theorem QD (w:WS) (l:List Chg) (hfit : ∀ c,c ∈ l → c.fit) (hg:w.g = false) (hl:l.length ≤ 20) (hw:w.s.length ≤ 97000000000000):qr C2.P 54 [.op 0 0 0,yk l,.v (.int .i64 20),.clo (.func 55) [.op 0 0 0] []] [tyW (wrB 0 1 w.s w.g w.f),qI w.s] (.tup []) [tyW (wrB 0 2 (l.foldl WS.chg (w.num l.length)).s (l.foldl WS.chg (w.num l.length)).g (l.foldl WS.chg (w.num l.length)).f),.dead,qI (l.foldl WS.chg (w.num l.length)).s]:=by
 have hml:(l.map Chg.row).length = l.length:=List.length_map ..
 have hi64:xg (l.length:Int):=⟨by omega,by omega⟩
 have hn1:=zi w l.length hi64
 have hlen : ∀ i,i ≤ l.length → ((l.take i).foldl WS.chg (w.num l.length)).s.length ≤ 97500000000000:=fun i hi=>by
  have h1:=ka WS.chg Chg.fit 4000000000 (fun w x hx=>Jj w hx) (l.take i) (w.num l.length) (fun x hx=>hfit x (List.mem_of_mem_take hx))
  have h2:(l.take i).length ≤ 20:=by rw [List.length_take];omega
  have h3:(w.num l.length).s.length ≤ w.s.length + 22:=hn1
  have h4:(l.take i).length * 4000000000 ≤ 20 * 4000000000:=Nat.mul_le_mul_right _ h2
  omega
 obtain ⟨ws,wg,wf⟩:=w
 dsimp only at hg hw
 subst hg
 have hnum:=fun g=>yM ⟨ws,g,wf⟩ [((l.map Chg.row).length:Int)] (by simp) (xy (by rw [hml];exact hi64)) (by simp) (by dsimp only;omega)
 refine qc (C:=C2) Tryd.func54 rfl _ Tryd.ntmps54 (Nat.le_of_ble_eq_true rfl) _ Tryd.results54 2 rfl rfl ?_
 repeat' (first|refine ql ?_|(first|(refine xF ?_)|(apply qa Tryd.func20 rfl rfl;intro hIsFn;refine xT 0 1 hIsFn ((hnum (decide ((20:Int) < ((l.map Chg.row).length:Int))))) ?_))|((first|refine g_sp_t ?_ ?_|refine g_sp_f ?_ ?_|refine xsC ?_ ?_);all_goals (intro hc;have hp:=hc;try simp at hp;try (exfalso;omega)))|refine jl ?_ ?_)
 all_goals try (exfalso;simp at *;omega)
 (refine Awp.red (qZ (τ:=⟨[(32,yk l),(33,.v (.int .i64 (l.length:Int))),(34,.v (.int .i64 ((0:Nat):Int))),(3,.clo (.func 55) [.op 0 0 0] [])],[(0,tyW (wrB 0 2 ((WS.mk ws false wf).num l.length).s ((WS.mk ws false wf).num l.length).g ((WS.mk ws false wf).num l.length).f)),(2,qI ((WS.mk ws false wf).num l.length).s)],3⟩) [(2,2)] rfl ?gts2 ?ghs2) ?_;(case gts2=>(repeat (first|exact qw|refine jr ?_|refine y4 ?_|refine yd ?_|refine xk ?_|refine ye ?_ ?_|refine y3 ?_ ?_));all_goals first|(rw [hml];done)|exact xU qw (qd rfl));(case ghs2=>refine yu (q:=0) (m:=2) rfl rfl (qd rfl) (qd rfl) ?_ ?_ ?_ qg;all_goals (first|(with_reducible rfl)|(rw [hml];rfl)|exact hc)))
 refine yy (fun n σ => ∃ i:Nat,i ≤ l.length ∧ n = l.length - i ∧ σ = ⟨[(32,yk l),(33,.v (.int .i64 (l.length:Int))),(34,.v (.int .i64 (i:Int))),(3,.clo (.func 55) [.op 0 0 0] [])],[(0,tyW (wrB 0 2 ((l.take i).foldl WS.chg ((WS.mk ws false wf).num l.length)).s ((l.take i).foldl WS.chg ((WS.mk ws false wf).num l.length)).g ((l.take i).foldl WS.chg ((WS.mk ws false wf).num l.length)).f)),(2,qI ((l.take i).foldl WS.chg ((WS.mk ws false wf).num l.length)).s)],3⟩) l.length ⟨0,Nat.zero_le _,rfl,rfl⟩ ?_
 rintro n σ ⟨i,hi,rfl,rfl⟩
 have hs:=hlen i hi
 by_cases hlt:i < l.length
 ·have hr:=ze (f:=Chg.row) hlt
  have hx:=hfit l[i] (List.getElem_mem hlt)
  have hnx:=JT WS.chg ((WS.mk ws false wf).num l.length) hlt
  clear hlen hnum
  generalize (l.take i).foldl WS.chg ((WS.mk ws false wf).num l.length) = v at *
  generalize l[i] = x at *
  have hch:=JH v x hx (by omega)
  repeat' (first|refine ql ?_|(first|(refine VB (first:=[.op 0 0 0]) (cap:=[]) 0 2 Tryd.func55 (hch) ?_))|((first|refine g_sp_t ?_ ?_|refine g_sp_f ?_ ?_|refine xsC ?_ ?_);all_goals (intro hc;have hp:=hc;try simp at hp;try (exfalso;omega)))|refine jl ?_ ?_)
  all_goals try (exfalso;omega)
  all_goals (refine ⟨l.length - (i + 1),⟨[(32,yk l),(33,.v (.int .i64 (l.length:Int))),(34,.v (.int .i64 ((i + 1:Nat):Int))),(3,.clo (.func 55) [.op 0 0 0] [])],[(0,tyW (wrB 0 2 (v.chg x).s (v.chg x).g (v.chg x).f)),(2,qI (v.chg x).s)],3⟩,by omega,?_,⟨i + 1,by omega,rfl,by rw [hnx]⟩⟩;refine qZ [(4,2)] rfl ?gts ?ghs;(case gts=>(repeat (first|exact qw|refine jr ?_|refine y4 ?_|refine yd ?_|refine xk ?_|refine ye ?_ ?_|refine y3 ?_ ?_));all_goals exact xU qw (qd rfl));(case ghs=>refine yu (q:=0) (m:=4) rfl rfl (qd rfl) (qd rfl) ?_ ?_ ?_ qg;all_goals (first|(with_reducible rfl)|rfl)))
 ·obtain rfl:i = l.length:=by omega
  rw [List.take_length]
  clear hlen hnum
  repeat' (first|refine ql ?_|fail|((first|refine g_sp_t ?_ ?_|refine g_sp_f ?_ ?_|refine xsC ?_ ?_);all_goals (intro hc;have hp:=hc;try simp at hp;try (exfalso;omega)))|refine jl ?_ ?_)
  all_goals try (exfalso;omega)
  all_goals ((apply qv (rs:=[]) [(2,2)] 3;(case hr=>(repeat (first|exact qo|(apply qp;rfl)|(apply qk;rfl;rfl;rfl;rfl;rfl))));(case hL=>rfl);(case hh=>refine vR (q:=0) (m:=2) rfl rfl (qd rfl) (qd rfl) (qd rfl) ?_ ?_ ?_ qg;all_goals (first|(with_reducible rfl)|rfl));(case hi=>exact rfl);(case hz=>first|rfl|(simp [jC,AV.ren,AV.ren.renL,qY,qe,qT];done))))
end Go.Proofs.YtahbbnfmbohmmaaDoor
set_option linter.unusedSimpArgs false
set_option linter.unnecessarySimpa false
set_option linter.unusedVariables false
set_option maxHeartbeats 1000000
namespace Go.Proofs.YtahbbnfmbohmmaaDoor
open Go.Ab Go.RowKit
set_option maxRecDepth 10000
attribute [local irreducible] Awp jU jo jz Red qt Go.Ab.Fin qr Rz vl jt jj ResOk jy jg yi qN
theorem XI {α:Type} {w:WS} {l:List α} {most:Nat} {step:WS → α → WS} (h:(w.g || decide (most < l.length)) = true):w.lst l most step = ⟨w.s,true,w.f⟩:=by unfold WS.lst;rw [if_pos h]
theorem YQ {α:Type} {w:WS} {l:List α} {most:Nat} {step:WS → α → WS} (h:(w.g || decide (most < l.length)) = false):w.lst l most step = l.foldl step (w.num l.length) ∧ w.g = false ∧ l.length ≤ most:=by
 unfold WS.lst
 rw [h,if_neg (by decide)]
 simp only [Bool.or_eq_false_iff,decide_eq_false_iff_not] at h
 exact ⟨rfl,h.1,by omega⟩
theorem zK (w:WS) (l:List Chg) (hl:l.length ≤ 1000000000) (hg:(w.g || decide (20 < l.length)) = true):qr C2.P 22 [.op 0 0 0,yk l] [tyW (wrB 0 1 w.s w.g w.f),qI w.s] (.tup []) [tyW (wrB 0 1 w.s true w.f),qI w.s]:=by
 have hc:=wS w l hl hg
 refine qc (C:=C2) Tryd.func22 rfl _ Tryd.ntmps22 (Nat.le_of_ble_eq_true rfl) _ Tryd.results22 2 rfl rfl ?_
 repeat' (first|refine ql ?_|(first|(apply qa Tryd.func54 rfl rfl;intro hIsFn;refine X3 0 1 hIsFn hc ?_))|((first|refine g_sp_t ?_ ?_|refine g_sp_f ?_ ?_|refine xsC ?_ ?_);all_goals (intro hc;have hp:=hc;try simp at hp;try (exfalso;omega)))|refine jl ?_ ?_)
 all_goals ((apply qv (rs:=[]) [] 2;(case hr=>(repeat (first|exact qo|(apply qp;rfl)|(apply qk;rfl;rfl;rfl;rfl;rfl))));(case hL=>rfl);(case hh=>refine yu (q:=0) (m:=1) rfl rfl (qd rfl) (qd rfl) ?_ ?_ ?_ qg;all_goals (first|(with_reducible rfl)|rfl));(case hi=>exact rfl);(case hz=>first|rfl|(simp [jC,AV.ren,AV.ren.renL,qY,qe,qT];done))))
theorem kA (w:WS) (l:List Chg) (hfit : ∀ c,c ∈ l → c.fit) (hg:(w.g || decide (20 < l.length)) = false) (hw:w.s.length ≤ 97000000000000):qr C2.P 22 [.op 0 0 0,yk l] [tyW (wrB 0 1 w.s w.g w.f),qI w.s] (.tup []) [tyW (wrB 0 2 (w.chgs l).s (w.chgs l).g (w.chgs l).f),.dead,qI (w.chgs l).s]:=by
 obtain ⟨e,h1,h2⟩:=YQ (step:=WS.chg) hg
 have hc:=QD w l hfit h1 h2 hw
 rw [show w.chgs l = _ from e]
 generalize l.foldl WS.chg (w.num l.length) = v at *
 refine qc (C:=C2) Tryd.func22 rfl _ Tryd.ntmps22 (Nat.le_of_ble_eq_true rfl) _ Tryd.results22 2 rfl rfl ?_
 repeat' (first|refine ql ?_|(first|(apply qa Tryd.func54 rfl rfl;intro hIsFn;refine xT 0 1 hIsFn (hc) ?_))|((first|refine g_sp_t ?_ ?_|refine g_sp_f ?_ ?_|refine xsC ?_ ?_);all_goals (intro hc;have hp:=hc;try simp at hp;try (exfalso;omega)))|refine jl ?_ ?_)
 all_goals ((apply qv (rs:=[]) [(2,2)] 3;(case hr=>(repeat (first|exact qo|(apply qp;rfl)|(apply qk;rfl;rfl;rfl;rfl;rfl))));(case hL=>rfl);(case hh=>refine vR (q:=0) (m:=2) rfl rfl (qd rfl) (qd rfl) (qd rfl) ?_ ?_ ?_ qg;all_goals (first|(with_reducible rfl)|rfl));(case hi=>exact rfl);(case hz=>first|rfl|(simp [jC,AV.ren,AV.ren.renL,qY,qe,qT];done))))
theorem Jf (w:WS) (h0:w.s ≠ []) (hl:w.s.length ≤ 100000000000000):qr C2.P 23 [.op 0 0 0] [tyW (wrB 0 1 w.s w.g w.f),qI w.s] (.tup [.v (str w.done.1),.v (.int .i64 w.done.2)]) [.dead,.dead]:=by
 obtain ⟨ws,wg,wf⟩:=w
 dsimp only at *
 have hc:=fun g f=>Ym ws g f h0 (by omega)
 unfold WS.done
 cases wg<;>cases wf
 all_goals (refine qc (C:=C2) Tryd.func23 rfl _ Tryd.ntmps23 (Nat.le_of_ble_eq_true rfl) _ Tryd.results23 2 rfl rfl ?_)
 all_goals (repeat' (first|refine ql ?_|(first|(apply qa Tryd.func56 rfl rfl;intro hIsFn;refine VA 0 1 hIsFn ((hc _ _)) ?_))|((first|refine g_sp_t ?_ ?_|refine g_sp_f ?_ ?_|refine xsC ?_ ?_);all_goals (intro hc;have hp:=hc;try simp at hp;try (exfalso;omega)))|refine jl ?_ ?_))
 all_goals ((apply qv (rs:=[.tmp 2,.tmp 3]) [] 2;(case hr=>(repeat (first|exact qo|(apply qp;rfl)|(apply qk;rfl;rfl;rfl;rfl;rfl))));(case hL=>rfl);(case hh=>exact xW (xW qg (qd rfl)) (qd rfl));(case hi=>exact rfl);(case hz=>first|rfl|(simp [jC,AV.ren,AV.ren.renL,qY,qe,qT];done))))
end Go.Proofs.YtahbbnfmbohmmaaDoor
set_option linter.unusedSimpArgs false
set_option linter.unnecessarySimpa false
set_option linter.unusedVariables false
set_option maxHeartbeats 1000000
namespace Go.Proofs.YtahbbnfmbohmmaaDoor
open Go.Ab Go.RowKit
set_option maxRecDepth 10000
attribute [local irreducible] Awp jU jo jz Red qt Go.Ab.Fin qr Rz vl jt jj ResOk jy jg yi qN
structure Rqt.fit (r:Rqt):Prop where
 kind:xg r.kind
 who:r.who.length ≤ 1000000000
 folder:r.folder.length ≤ 1000000000
 name:r.name.length ≤ 1000000000
 key:r.key.length ≤ 1000000000
 text:r.text.length ≤ 1000000000
 number:xg r.number
 offset:xg r.offset
 base:xg r.base
 chs : ∀ c,c ∈ r.chs → c.fit
 len:r.chs.length ≤ 1000000000
def kG (r:Rqt):WS:=ws0.nums [r.kind]
def kH (r:Rqt):WS:=(kG r).txts [r.who,r.folder,r.name,r.key,r.text]
def y1 (r:Rqt):WS:=(kH r).nums [r.number,r.offset,r.base]
theorem Ju (w:WS) {ns:List Int} (h:ns ≠ []):(w.nums ns).s ≠ []:=by
 have : ∀ (ns:List Int) (w:WS),w.s ≠ [] ∨ ns ≠ [] → (w.nums ns).s ≠ []:=by
  intro ns
  induction ns with
  | nil =>
    intro w h
    rcases h with h|h
    ·exact h
    ·exact absurd rfl h
  | cons n ns ih=>intro w h;exact ih (w.num n) (.inl (by show w.s ++ (Lib.itoa n ++ [59]) ≠ [];simp))
 exact this ns w (.inr h)
theorem Yb (r:Rqt) (h:r.fit):(∀ s,s ∈ [r.who,r.folder,r.name,r.key,r.text] → s.length ≤ 1000000000) ∧ (∀ n,n ∈ [r.number,r.offset,r.base] → xg n) ∧ (kG r).s.length ≤ 22 ∧ (kH r).s.length ≤ 6000000000 ∧ (y1 r).s.length ≤ 7000000000 ∧ (y1 r).s ≠ []:=by
 have q1 : ∀ s,s ∈ [r.who,r.folder,r.name,r.key,r.text] → s.length ≤ 1000000000:=fun s hs=>by
  simp only [List.mem_cons,List.not_mem_nil,or_false] at hs
  rcases hs with rfl|rfl|rfl|rfl|rfl
  ·exact h.who
  ·exact h.folder
  ·exact h.name
  ·exact h.key
  ·exact h.text
 have q2 : ∀ n,n ∈ [r.number,r.offset,r.base] → xg n:=fun s hs=>by
  simp only [List.mem_cons,List.not_mem_nil,or_false] at hs
  rcases hs with rfl|rfl|rfl
  ·exact h.number
  ·exact h.offset
  ·exact h.base
 have b1:(kG r).s.length ≤ 22:=by
  have:=zi ws0 r.kind h.kind
  have e:ws0.s.length = 0:=rfl
  show (ws0.nums [r.kind]).s.length ≤ 22
  omega
 have b2:(kH r).s.length ≤ 6000000000:=by
  have:=x8 (kG r) _ q1
  simp only [List.length_cons,List.length_nil] at this
  show ((kG r).txts _).s.length ≤ _
  omega
 have b3:(y1 r).s.length ≤ 7000000000:=by
  have:=vS (kH r) _ q2
  simp only [List.length_cons,List.length_nil] at this
  show ((kH r).nums _).s.length ≤ _
  omega
 exact ⟨q1,q2,b1,b2,b3,Ju _ (by simp)⟩
set_option maxHeartbeats 2000000 in
theorem Jc (r:Rqt) (h:r.fit):zp C.P 8 [.agg r.row] (.tup [.v (str (yp r).1),.v (.int .i64 (yp r).2)]):=by
 obtain ⟨q1,q2,b1,b2,b3,b4⟩:=Yb r h
 have c1:=QE [r.kind] (by simp) (xy h.kind) (by simp)
 have c2:=Jg (kG r) [r.who,r.folder,r.name,r.key,r.text] (by simp) q1 (by simp) (by omega)
 have c3:=yM (kH r) [r.number,r.offset,r.base] (by simp) q2 (by simp) (by omega)
 have e1:ws0.nums [r.kind] = kG r:=rfl
 have e2:(kG r).txts [r.who,r.folder,r.name,r.key,r.text] = kH r:=rfl
 have e3:(kH r).nums [r.number,r.offset,r.base] = y1 r:=rfl
 have e4:yp r = ((y1 r).chgs r.chs).done:=rfl
 rw [e1] at c1
 rw [e2] at c2
 rw [e3] at c3
 rw [e4]
 cases hg:((y1 r).g || decide (20 < r.chs.length)) with
 | true =>
   have c4:=zK (y1 r) r.chs h.len hg
   have c5:=Jf ⟨(y1 r).s,true,(y1 r).f⟩ b4 (by dsimp only;omega)
   rw [show (y1 r).chgs r.chs = _ from XI hg]
   clear e1 e2 e3 e4 q1 q2 h hg
   generalize kG r = wA at *
   generalize kH r = wB at *
   generalize y1 r = wC at *
   generalize (WS.mk wC.s true wC.f).done = D at *
   unfold Rqt.row
   refine qc Tryd.func8 rfl _ Tryd.ntmps8 (Nat.le_of_ble_eq_true rfl) _ Tryd.results8 0 rfl rfl ?_
   repeat' (first|(first|(apply yY;apply (zX 53);rfl;rfl;exact nle rfl)|(refine xF ?_)|(apply qa Tryd.func20 rfl rfl;intro hIsFn;refine YV 1 hIsFn (c1) ?_)|(apply qa Tryd.func21 rfl rfl;intro hIsFn;refine xT 1 2 hIsFn (c2) ?_)|(apply qa Tryd.func20 rfl rfl;intro hIsFn;refine xT 1 3 hIsFn (c3) ?_)|(apply qa Tryd.func22 rfl rfl;intro hIsFn;refine X3 1 4 hIsFn (c4) ?_)|(apply qa Tryd.func23 rfl rfl;intro hIsFn;refine X4 1 4 hIsFn (c5) ?_))|refine ql ?_|((first|refine xsC ?_ ?_);all_goals (intro hc;have hp:=hc;try simp at hp;try (exfalso;omega)))|refine jl ?_ ?_)
   all_goals ((refine jN (rs:=[.tmp 2,.tmp 3]) ?_;(repeat' (first|exact jd|apply qQ|exact qL rfl|exact jX|exact xn|apply jv|apply jK|apply jw|apply jI|apply ji|apply jJ|refine xm ?_|apply yg));all_goals rfl))
 | false =>
   have c4:=kA (y1 r) r.chs h.chs hg (by omega)
   obtain ⟨ee,_,hl20⟩:=YQ (step:=WS.chg) hg
   have b5:((y1 r).chgs r.chs).s.length ≤ 100000000000000:=by
    have h1:=ka WS.chg Chg.fit 4000000000 (fun w x hx=>Jj w hx) r.chs ((y1 r).num r.chs.length) h.chs
    have h2:((y1 r).num r.chs.length).s.length ≤ (y1 r).s.length + 22:=zi _ _ ⟨by omega,by omega⟩
    have h3:r.chs.length * 4000000000 ≤ 20 * 4000000000:=Nat.mul_le_mul_right _ hl20
    rw [show (y1 r).chgs r.chs = _ from ee]
    omega
   have b6:((y1 r).chgs r.chs).s ≠ []:=by
    rw [show (y1 r).chgs r.chs = _ from ee]
    have : ∀ (l:List Chg) (w:WS),w.s ≠ [] → (l.foldl WS.chg w).s ≠ []:=by
     intro l
     induction l with
     | nil=>exact fun w h=>h
     | cons c l ih=>exact fun w h=>ih _ (Ju _ (by simp))
    exact this _ _ (by show (y1 r).s ++ _ ≠ [];simp [b4])
   have c5:=Jf ((y1 r).chgs r.chs) b6 b5
   clear e1 e2 e3 e4 q1 q2 h hg ee
   generalize (y1 r).chgs r.chs = wD at *
   generalize kG r = wA at *
   generalize kH r = wB at *
   generalize y1 r = wC at *
   generalize wD.done = D at *
   unfold Rqt.row
   refine qc Tryd.func8 rfl _ Tryd.ntmps8 (Nat.le_of_ble_eq_true rfl) _ Tryd.results8 0 rfl rfl ?_
   repeat' (first|(first|(apply yY;apply (zX 53);rfl;rfl;exact nle rfl)|(refine xF ?_)|(apply qa Tryd.func20 rfl rfl;intro hIsFn;refine YV 1 hIsFn (c1) ?_)|(apply qa Tryd.func21 rfl rfl;intro hIsFn;refine xT 1 2 hIsFn (c2) ?_)|(apply qa Tryd.func20 rfl rfl;intro hIsFn;refine xT 1 3 hIsFn (c3) ?_)|(apply qa Tryd.func22 rfl rfl;intro hIsFn;refine xT 1 4 hIsFn (c4) ?_)|(apply qa Tryd.func23 rfl rfl;intro hIsFn;refine X4 1 5 hIsFn (c5) ?_))|refine ql ?_|((first|refine xsC ?_ ?_);all_goals (intro hc;have hp:=hc;try simp at hp;try (exfalso;omega)))|refine jl ?_ ?_)
   all_goals ((refine jN (rs:=[.tmp 2,.tmp 3]) ?_;(repeat' (first|exact jd|apply qQ|exact qL rfl|exact jX|exact xn|apply jv|apply jK|apply jw|apply jI|apply ji|apply jJ|refine xm ?_|apply yg));all_goals rfl))
end Go.Proofs.YtahbbnfmbohmmaaDoor
