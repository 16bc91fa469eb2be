import Derived.Test.YtahbbnfmbohmmaaDoorMz15
import Derived.Test.YtahbbnfmbohmmaaDoorMz20
import Derived.Lib.ItoaLen
import Derived.Test.YtahbbnfmbohmmaaDoorMz13
set_option linter.unusedSimpArgs false
set_option linter.unnecessarySimpa false
set_option linter.unusedVariables false
set_option maxHeartbeats 1000000
namespace Go.Proofs.YtahbbnfmbohmmaaDoor
open Go.Ab Go.RowKit
set_option maxRecDepth 10000
attribute [local irreducible] Awp jE qY qK Red qA Go.Ab.Fin qp Rz yL qJ qE ResOk jl qL jA qB
def yN (n:Int):List AV:=[.v (.int .i64 n)]
def vv (s:qj):List AV:=[.v (str s)]
theorem xl {n:Int} (h:xo n):(jV n).length ≤ 22:=by
 have:=Lib.itoa_length_le n h.1 h.2
 simp [jV]
 omega
theorem Jq (w:WS) {ns:List Int} {i:Nat} (h:i < ns.length):w.nums (ns.take (i + 1)) = (w.nums (ns.take i)).num ns[i]:=by
 unfold WS.nums
 rw [List.take_succ_eq_append_getElem h,List.foldl_append]
 rfl
theorem zw (w:WS) : ∀ (ns:List Int),(∀ n,n ∈ ns → xo n) → (w.nums ns).s.length ≤ w.s.length + 22 * ns.length
 | [],_=>Nat.le_refl _
 | n :: ns,h=>by
   have h1:=zw (w.num n) ns (fun m hm=>h m (by simp [hm]))
   have h2:=xl (h n (by simp))
   have h3:(w.num n).s.length = w.s.length + (jV n).length:=List.length_append
   show ((w.num n).nums ns).s.length ≤ _
   simp only [List.length_cons]
   omega
theorem zU (w:WS) (ns:List Int) (i:Nat) (h : ∀ n,n ∈ ns → xo n) (hl:ns.length ≤ 10):(w.nums (ns.take i)).s.length ≤ w.s.length + 220:=by
 have h1:=zw w (ns.take i) (fun n hn=>h n (List.mem_of_mem_take hn))
 have h2:(ns.take i).length ≤ 10:=by rw [List.length_take];omega
 omega
set_option maxHeartbeats 4000000 in
theorem jU (w:WS) (ns:List Int) (h0:ns ≠ []) (hn : ∀ n,n ∈ ns → xo n) (hl:ns.length ≤ 10) (hw:w.s.length ≤ 100000000000000):qp C2.P 20 [.op 0 0 0,.sl true (ns.map yN)] [tyW (wrB 0 1 w.s w.g w.f),qF w.s] (.tup []) [tyW (wrB 0 2 (w.nums ns).s (w.nums ns).g (w.nums ns).f),.dead,qF (w.nums ns).s]:=by
 have hml:(ns.map yN).length = ns.length:=List.length_map ..
 have hpos:0 < ns.length:=by cases ns with|nil=>exact absurd rfl h0|cons _ _=>simp
 refine qf (C:=C2) Tryd.func20 rfl _ Tryd.ntmps20 (Nat.le_of_ble_eq_true rfl) _ Tryd.results20 2 rfl rfl ?_
 repeat' (first|refine qk ?_|fail|((first|(apply qb;rfl;rfl;exact nle rfl)|(apply qa;rfl;rfl;exact nle rfl)|refine xsC ?_ ?_);all_goals (intro hc;have hp:=hc;try simp at hp;try (exfalso;omega)))|refine jm ?_ ?_)
 (refine Awp.red (qS (τ:=⟨[(0,.op 0 0 0),(6,.sl true (ns.map yN)),(7,.v (.int .i64 (ns.length:Int))),(8,.v (.int .i64 ((0:Nat):Int)))],[(0,tyW (wrB 0 1 w.s w.g w.f)),(1,qF w.s)],2⟩) [] rfl ?gts2 ?ghs2) ?_;(case gts2=>(repeat (first|exact ql|refine qZ ?_|refine ym ?_|refine jH ?_|refine yu ?_|refine jI ?_ ?_|refine yf ?_ ?_));all_goals rw [hml]);(case ghs2=>refine yj (q:=0) (m:=1) rfl rfl (qd rfl) (qd rfl) ?_ ?_ ?_ qh;all_goals (first|(with_reducible rfl)|fail)))
 refine jW (fun n σ => ∃ i:Nat,i ≤ ns.length ∧ n = ns.length - i ∧ ((i = 0 ∧ σ = ⟨[(0,.op 0 0 0),(6,.sl true (ns.map yN)),(7,.v (.int .i64 (ns.length:Int))),(8,.v (.int .i64 ((0:Nat):Int)))],[(0,tyW (wrB 0 1 w.s w.g w.f)),(1,qF w.s)],2⟩) ∨ (0 < i ∧ σ = ⟨[(0,.op 0 0 0),(6,.sl true (ns.map yN)),(7,.v (.int .i64 (ns.length:Int))),(8,.v (.int .i64 (i:Int)))],[(0,tyW (wrB 0 2 (w.nums (ns.take i)).s (w.nums (ns.take i)).g (w.nums (ns.take i)).f)),(2,qF (w.nums (ns.take i)).s)],3⟩))) ns.length ⟨0,Nat.zero_le _,rfl,.inl ⟨rfl,rfl⟩⟩ ?_
 rintro n σ ⟨i,hi,rfl,hst⟩
 have hs:=zU w ns i hn hl
 by_cases hlt:i < ns.length
 ·have hr:=xG (f:=yN) hlt
  have hx:=hn ns[i] (List.getElem_mem hlt)
  have hnx:=Jq w hlt
  rcases hst with ⟨rfl,rfl⟩|⟨hp,rfl⟩
  ·generalize ns[0] = x at *
   rw [show w.nums (ns.take 0) = w from rfl] at hnx
   obtain ⟨ws,wg,wf⟩:=w
   have hb:=xl hx
   have hi21:=Lib.itoa_length_le x hx.1 hx.2
   have hbd:ws.length + (Lib.itoa x ++ [59]).length ≤ 140737488355328:=by have:(jV x).length = (Lib.itoa x ++ [59]).length:=rfl;simp only at hw;omega
   dsimp only at *
   cases wf
   all_goals (repeat' (first|refine qk ?_|(first|refine xsF Tryd.func53 (zl x hx.1 hx.2 ..) ?_|(apply qc Tryd.func52 rfl rfl;intro hIsFn;refine yk 0 1 hIsFn ((zm _ _ _ _ hbd)) ?_))|((first|(apply qb;rfl;rfl;exact nle rfl)|(apply qa;rfl;rfl;exact nle rfl)|refine xsC ?_ ?_);all_goals (intro hc;have hp:=hc;try simp at hp;try (exfalso;omega)))|refine jm ?_ ?_))
   all_goals try (exfalso;first|omega|(exact h0 (by assumption)))
   all_goals (refine ⟨ns.length - (0 + 1),⟨[(0,.op 0 0 0),(6,.sl true (ns.map yN)),(7,.v (.int .i64 (ns.length:Int))),(8,.v (.int .i64 ((0 + 1:Nat):Int)))],[(0,tyW (wrB 0 2 (ws ++ jV x) wg _)),(2,qF (ws ++ jV x))],3⟩,by omega,?_,⟨1,by omega,rfl,.inr ⟨Nat.zero_lt_one,by rw [hnx];rfl⟩⟩⟩;refine qS [(2,2)] rfl ?gts ?ghs;(case gts=>(repeat (first|exact ql|refine qZ ?_|refine ym ?_|refine jH ?_|refine yu ?_|refine jI ?_ ?_|refine yf ?_ ?_));all_goals trace_state);(case ghs=>refine yj (q:=0) (m:=2) rfl rfl (qd rfl) (qd rfl) ?_ ?_ ?_ qh;all_goals (first|(with_reducible rfl)|(simp only [WS.num,wK,hc,Bool.false_or,Bool.true_or];done)|rfl)))
  ·generalize ns[i] = x at *
   generalize w.nums (ns.take i) = v at *
   obtain ⟨ws,wg,wf⟩:=v
   have hb:=xl hx
   have hi21:=Lib.itoa_length_le x hx.1 hx.2
   have hbd:ws.length + (Lib.itoa x ++ [59]).length ≤ 140737488355328:=by have:(jV x).length = (Lib.itoa x ++ [59]).length:=rfl;simp only at hs;omega
   dsimp only at *
   cases wf
   all_goals (repeat' (first|refine qk ?_|(first|refine xsF Tryd.func53 (zl x hx.1 hx.2 ..) ?_|(apply qc Tryd.func52 rfl rfl;intro hIsFn;refine yk 0 2 hIsFn ((zm _ _ _ _ hbd)) ?_))|((first|(apply qb;rfl;rfl;exact nle rfl)|(apply qa;rfl;rfl;exact nle rfl)|refine xsC ?_ ?_);all_goals (intro hc;have hp:=hc;try simp at hp;try (exfalso;omega)))|refine jm ?_ ?_))
   all_goals try (exfalso;first|omega|(exact h0 (by assumption)))
   all_goals (refine ⟨ns.length - (i + 1),⟨[(0,.op 0 0 0),(6,.sl true (ns.map yN)),(7,.v (.int .i64 (ns.length:Int))),(8,.v (.int .i64 ((i + 1:Nat):Int)))],[(0,tyW (wrB 0 2 (ws ++ jV x) wg _)),(2,qF (ws ++ jV x))],3⟩,by omega,?_,⟨i + 1,by omega,rfl,.inr ⟨Nat.succ_pos _,by rw [hnx];rfl⟩⟩⟩;refine qS [(3,2)] rfl ?gts ?ghs;(case gts=>(repeat (first|exact ql|refine qZ ?_|refine ym ?_|refine jH ?_|refine yu ?_|refine jI ?_ ?_|refine yf ?_ ?_));all_goals trace_state);(case ghs=>refine yj (q:=0) (m:=3) rfl rfl (qd rfl) (qd rfl) ?_ ?_ ?_ qh;all_goals (first|(with_reducible rfl)|(simp only [WS.num,wK,hc,Bool.false_or,Bool.true_or];done)|rfl)))
 ·obtain rfl:i = ns.length:=by omega
  rw [List.take_length] at hst
  rcases hst with ⟨h1,_⟩|⟨hp,rfl⟩
  ·omega
  repeat' (first|refine qk ?_|fail|((first|(apply qb;rfl;rfl;exact nle rfl)|(apply qa;rfl;rfl;exact nle rfl)|refine xsC ?_ ?_);all_goals (intro hc;have hp:=hc;try simp at hp;try (exfalso;omega)))|refine jm ?_ ?_)
  all_goals try (exfalso;first|omega|(exact h0 (by assumption)))
  all_goals ((apply qD (rs:=[]) [(2,2)] 3;(case hr=>(repeat (first|exact qw|(apply qx;rfl)|(apply qu;rfl;rfl;rfl;rfl;rfl))));(case hL=>rfl);(case hh=>refine vU (q:=0) (m:=2) rfl rfl (qd rfl) (qd rfl) (qd rfl) ?_ ?_ ?_ qh;all_goals (first|(with_reducible rfl)|fail));(case hi=>exact rfl);(case hz=>first|rfl|(simp [jQ,AV.ren,AV.ren.renL,js,qn,jh];done))))
end Go.Proofs.YtahbbnfmbohmmaaDoor
set_option linter.unusedSimpArgs false
set_option linter.unnecessarySimpa false
set_option linter.unusedVariables false
set_option maxHeartbeats 1000000
namespace Go.Proofs.YtahbbnfmbohmmaaDoor
open Go.Ab Go.RowKit
set_option maxRecDepth 10000
attribute [local irreducible] Awp jE qY qK Red qA Go.Ab.Fin qp Rz yL qJ qE ResOk jl qL jA qB
theorem KV (ns:List Int) (i:Nat) (h : ∀ n,n ∈ ns → xo n) (hl:ns.length ≤ 10):(ws0.nums (ns.take i)).s.length ≤ 220:=by
 have:=zU ws0 ns i h hl
 have e:ws0.s.length = 0:=rfl
 omega
set_option maxHeartbeats 4000000 in
theorem Qe (ns:List Int) (h0:ns ≠ []) (hn : ∀ n,n ∈ ns → xo n) (hl:ns.length ≤ 10):qp C1.P 20 [.op 0 0 0,.sl true (ns.map yN)] [tyW (KW false false)] (.tup []) [tyW (wrB 0 1 (ws0.nums ns).s (ws0.nums ns).g (ws0.nums ns).f),qF (ws0.nums ns).s]:=by
 have hml:(ns.map yN).length = ns.length:=List.length_map ..
 have hpos:0 < ns.length:=by cases ns with|nil=>exact absurd rfl h0|cons _ _=>simp
 refine qf (C:=C1) Tryd.func20 rfl _ Tryd.ntmps20 (Nat.le_of_ble_eq_true rfl) _ Tryd.results20 1 rfl rfl ?_
 repeat' (first|refine qk ?_|fail|((first|(apply qb;rfl;rfl;exact nle rfl)|(apply qa;rfl;rfl;exact nle rfl)|refine xsC ?_ ?_);all_goals (intro hc;have hp:=hc;try simp at hp;try (exfalso;omega)))|refine jm ?_ ?_)
 (refine Awp.red (qS (τ:=⟨[(0,.op 0 0 0),(6,.sl true (ns.map yN)),(7,.v (.int .i64 (ns.length:Int))),(8,.v (.int .i64 ((0:Nat):Int)))],[(0,tyW (KW false false))],1⟩) [] rfl ?gts2 ?ghs2) ?_;(case gts2=>(repeat (first|exact ql|refine qZ ?_|refine ym ?_|refine jH ?_|refine yu ?_|refine jI ?_ ?_|refine yf ?_ ?_));all_goals rw [hml]);(case ghs2=>exact Wj (q:=0) rfl (qd rfl) qh))
 refine jW (fun n σ => ∃ i:Nat,i ≤ ns.length ∧ n = ns.length - i ∧ ((i = 0 ∧ σ = ⟨[(0,.op 0 0 0),(6,.sl true (ns.map yN)),(7,.v (.int .i64 (ns.length:Int))),(8,.v (.int .i64 ((0:Nat):Int)))],[(0,tyW (KW false false))],1⟩) ∨ (0 < i ∧ σ = ⟨[(0,.op 0 0 0),(6,.sl true (ns.map yN)),(7,.v (.int .i64 (ns.length:Int))),(8,.v (.int .i64 (i:Int)))],[(0,tyW (wrB 0 1 (ws0.nums (ns.take i)).s (ws0.nums (ns.take i)).g (ws0.nums (ns.take i)).f)),(1,qF (ws0.nums (ns.take i)).s)],2⟩))) ns.length ⟨0,Nat.zero_le _,rfl,.inl ⟨rfl,rfl⟩⟩ ?_
 rintro n σ ⟨i,hi,rfl,hst⟩
 have hs:=KV ns i hn hl
 by_cases hlt:i < ns.length
 ·have hr:=xG (f:=yN) hlt
  have hx:=hn ns[i] (List.getElem_mem hlt)
  have hnx:=Jq ws0 hlt
  rcases hst with ⟨rfl,rfl⟩|⟨hp,rfl⟩
  ·generalize ns[0] = x at *
   rw [show ws0.nums (ns.take 0) = ws0 from rfl] at hnx
   have hb:=xl hx
   have hi21:=Lib.itoa_length_le x hx.1 hx.2
   have hbd:(Lib.itoa x ++ [59]).length ≤ 140737488355328:=by have:(jV x).length = (Lib.itoa x ++ [59]).length:=rfl;omega
   have hne:Lib.itoa x ++ [59] ≠ []:=by simp
   (repeat' (first|refine qk ?_|(first|refine xsF Tryd.func53 (zl x hx.1 hx.2 ..) ?_|(apply qc Tryd.func52 rfl rfl;intro hIsFn;refine Jr 0 hIsFn ((ZM _ _ _ hne hbd)) ?_))|((first|(apply qb;rfl;rfl;exact nle rfl)|(apply qa;rfl;rfl;exact nle rfl)|refine xsC ?_ ?_);all_goals (intro hc;have hp:=hc;try simp at hp;try (exfalso;omega)))|refine jm ?_ ?_))
   all_goals try (exfalso;first|omega|(exact h0 (by assumption)))
   all_goals (refine ⟨ns.length - (0 + 1),⟨[(0,.op 0 0 0),(6,.sl true (ns.map yN)),(7,.v (.int .i64 (ns.length:Int))),(8,.v (.int .i64 ((0 + 1:Nat):Int)))],[(0,tyW (wrB 0 1 ([] ++ jV x) false _)),(1,qF ([] ++ jV x))],2⟩,by omega,?_,⟨1,by omega,rfl,.inr ⟨Nat.zero_lt_one,by rw [hnx];rfl⟩⟩⟩;refine qS [(1,1)] rfl ?gts ?ghs;(case gts=>(repeat (first|exact ql|refine qZ ?_|refine ym ?_|refine jH ?_|refine yu ?_|refine jI ?_ ?_|refine yf ?_ ?_));all_goals trace_state);(case ghs=>refine yj (q:=0) (m:=1) rfl rfl (qd rfl) (qd rfl) ?_ ?_ ?_ qh;all_goals (first|(with_reducible rfl)|(simp only [WS.num,ws0,wK,hc,Bool.false_or,Bool.true_or];done)|rfl)))
  ·generalize ns[i] = x at *
   generalize ws0.nums (ns.take i) = v at *
   obtain ⟨ws,wg,wf⟩:=v
   have hb:=xl hx
   have hi21:=Lib.itoa_length_le x hx.1 hx.2
   have hbd:ws.length + (Lib.itoa x ++ [59]).length ≤ 140737488355328:=by have:(jV x).length = (Lib.itoa x ++ [59]).length:=rfl;simp only at hs;omega
   dsimp only at *
   cases wf
   all_goals (repeat' (first|refine qk ?_|(first|refine xsF Tryd.func53 (zl x hx.1 hx.2 ..) ?_|(apply qc Tryd.func52 rfl rfl;intro hIsFn;refine yk 0 1 hIsFn ((zm _ _ _ _ hbd)) ?_))|((first|(apply qb;rfl;rfl;exact nle rfl)|(apply qa;rfl;rfl;exact nle rfl)|refine xsC ?_ ?_);all_goals (intro hc;have hp:=hc;try simp at hp;try (exfalso;omega)))|refine jm ?_ ?_))
   all_goals try (exfalso;first|omega|(exact h0 (by assumption)))
   all_goals (refine ⟨ns.length - (i + 1),⟨[(0,.op 0 0 0),(6,.sl true (ns.map yN)),(7,.v (.int .i64 (ns.length:Int))),(8,.v (.int .i64 ((i + 1:Nat):Int)))],[(0,tyW (wrB 0 1 (ws ++ jV x) wg _)),(1,qF (ws ++ jV x))],2⟩,by omega,?_,⟨i + 1,by omega,rfl,.inr ⟨Nat.succ_pos _,by rw [hnx];rfl⟩⟩⟩;refine qS [(2,1)] rfl ?gts ?ghs;(case gts=>(repeat (first|exact ql|refine qZ ?_|refine ym ?_|refine jH ?_|refine yu ?_|refine jI ?_ ?_|refine yf ?_ ?_));all_goals trace_state);(case ghs=>refine yj (q:=0) (m:=2) rfl rfl (qd rfl) (qd rfl) ?_ ?_ ?_ qh;all_goals (first|(with_reducible rfl)|(simp only [WS.num,wK,hc,Bool.false_or,Bool.true_or];done)|rfl)))
 ·obtain rfl:i = ns.length:=by omega
  rw [List.take_length] at hst
  rcases hst with ⟨h1,_⟩|⟨hp,rfl⟩
  ·omega
  repeat' (first|refine qk ?_|fail|((first|(apply qb;rfl;rfl;exact nle rfl)|(apply qa;rfl;rfl;exact nle rfl)|refine xsC ?_ ?_);all_goals (intro hc;have hp:=hc;try simp at hp;try (exfalso;omega)))|refine jm ?_ ?_)
  all_goals try (exfalso;first|omega|(exact h0 (by assumption)))
  all_goals ((apply qD (rs:=[]) [(1,1)] 2;(case hr=>(repeat (first|exact qw|(apply qx;rfl)|(apply qu;rfl;rfl;rfl;rfl;rfl))));(case hL=>rfl);(case hh=>refine yj (q:=0) (m:=1) rfl rfl (qd rfl) (qd rfl) ?_ ?_ ?_ qh;all_goals (first|(with_reducible rfl)|fail));(case hi=>exact rfl);(case hz=>first|rfl|(simp [jQ,AV.ren,AV.ren.renL,js,qn,jh];done))))
theorem ZC (w:WS) {l:List qj} {i:Nat} (h:i < l.length):w.txts (l.take (i + 1)) = (w.txts (l.take i)).txt l[i]:=by
 unfold WS.txts
 rw [List.take_succ_eq_append_getElem h,List.foldl_append]
 rfl
theorem vK (w:WS) : ∀ (l:List qj),(∀ s,s ∈ l → s.length ≤ 1000000000) → (w.txts l).s.length ≤ w.s.length + 1000000022 * l.length
 | [],_=>Nat.le_refl _
 | s :: l,h=>by
   have h1:=vK (w.txt s) l (fun m hm=>h m (by simp [hm]))
   have h0:=h s (by simp)
   have h2:=xl (n:=(s.length:Int)) ⟨by omega,by omega⟩
   have h3:(w.txt s).s.length = w.s.length + ((jV s.length).length + s.length):=by
    show (w.s ++ (jV s.length ++ s)).length = _
    rw [List.length_append,List.length_append]
   show ((w.txt s).txts l).s.length ≤ _
   simp only [List.length_cons]
   omega
theorem Jc (w:WS) (l:List qj) (i:Nat) (h : ∀ s,s ∈ l → s.length ≤ 1000000000) (hl:l.length ≤ 10):(w.txts (l.take i)).s.length ≤ w.s.length + 10000000220:=by
 have h1:=vK w (l.take i) (fun n hn=>h n (List.mem_of_mem_take hn))
 have h2:(l.take i).length ≤ 10:=by rw [List.length_take];omega
 omega
end Go.Proofs.YtahbbnfmbohmmaaDoor
set_option linter.unusedSimpArgs false
set_option linter.unnecessarySimpa false
set_option linter.unusedVariables false
set_option maxHeartbeats 1000000
namespace Go.Proofs.YtahbbnfmbohmmaaDoor
open Go.Ab Go.RowKit
set_option maxRecDepth 10000
attribute [local irreducible] Awp jE qY qK Red qA Go.Ab.Fin qp Rz yL qJ qE ResOk jl qL jA qB
theorem yt {n:Int} (h:xo n) : ∀ m,m ∈ [n] → xo m:=fun m hm=>by simp only [List.mem_singleton] at hm;exact hm ▸ h
set_option maxHeartbeats 4000000 in
theorem kv (w:WS) (l:List qj) (h0:l ≠ []) (hn : ∀ s,s ∈ l → s.length ≤ 1000000000) (hl:l.length ≤ 10) (hw:w.s.length ≤ 99000000000000):qp C2.P 21 [.op 0 0 0,.sl true (l.map vv)] [tyW (wrB 0 1 w.s w.g w.f),qF w.s] (.tup []) [tyW (wrB 0 2 (w.txts l).s (w.txts l).g (w.txts l).f),.dead,qF (w.txts l).s]:=by
 have hml:(l.map vv).length = l.length:=List.length_map ..
 have hpos:0 < l.length:=by cases l with|nil=>exact absurd rfl h0|cons _ _=>simp
 refine qf (C:=C2) Tryd.func21 rfl _ Tryd.ntmps21 (Nat.le_of_ble_eq_true rfl) _ Tryd.results21 2 rfl rfl ?_
 repeat' (first|refine qk ?_|fail|((first|(apply qb;rfl;rfl;exact nle rfl)|(apply qa;rfl;rfl;exact nle rfl)|refine xsC ?_ ?_);all_goals (intro hc;have hp:=hc;try simp at hp;try (exfalso;omega)))|refine jm ?_ ?_)
 (refine Awp.red (qS (τ:=⟨[(0,.op 0 0 0),(6,.sl true (l.map vv)),(7,.v (.int .i64 (l.length:Int))),(8,.v (.int .i64 ((0:Nat):Int)))],[(0,tyW (wrB 0 1 w.s w.g w.f)),(1,qF w.s)],2⟩) [] rfl ?gts2 ?ghs2) ?_;(case gts2=>(repeat (first|exact ql|refine qZ ?_|refine ym ?_|refine jH ?_|refine yu ?_|refine jI ?_ ?_|refine yf ?_ ?_));all_goals rw [hml]);(case ghs2=>refine yj (q:=0) (m:=1) rfl rfl (qd rfl) (qd rfl) ?_ ?_ ?_ qh;all_goals (first|(with_reducible rfl)|fail)))
 refine jW (fun n σ => ∃ i:Nat,i ≤ l.length ∧ n = l.length - i ∧ ((i = 0 ∧ σ = ⟨[(0,.op 0 0 0),(6,.sl true (l.map vv)),(7,.v (.int .i64 (l.length:Int))),(8,.v (.int .i64 ((0:Nat):Int)))],[(0,tyW (wrB 0 1 w.s w.g w.f)),(1,qF w.s)],2⟩) ∨ (0 < i ∧ σ = ⟨[(0,.op 0 0 0),(6,.sl true (l.map vv)),(7,.v (.int .i64 (l.length:Int))),(8,.v (.int .i64 (i:Int)))],[(0,tyW (wrB 0 2 (w.txts (l.take i)).s (w.txts (l.take i)).g (w.txts (l.take i)).f)),(2,qF (w.txts (l.take i)).s)],3⟩))) l.length ⟨0,Nat.zero_le _,rfl,.inl ⟨rfl,rfl⟩⟩ ?_
 rintro n σ ⟨i,hi,rfl,hst⟩
 have hs:=Jc w l i hn hl
 by_cases hlt:i < l.length
 ·have hr:=xG (f:=vv) hlt
  have hx:=hn l[i] (List.getElem_mem hlt)
  have hnx:=ZC w hlt
  rcases hst with ⟨rfl,rfl⟩|⟨hp,rfl⟩
  ·generalize l[0] = x at *
   rw [show w.txts (l.take 0) = w from rfl] at hnx hs
   obtain ⟨ws,wg,wf⟩:=w
   dsimp only at *
   have hi64:xo (x.length:Int):=⟨by omega,by omega⟩
   have hb:=xl hi64
   have hbd : ∀ g f,((WS.mk ws g f).nums [(x.length:Int)]).s.length + x.length ≤ 140737488355328:=fun g f=>by
    have:((WS.mk ws g f).nums [(x.length:Int)]).s.length = ws.length + (jV (x.length:Int)).length:=List.length_append
    omega
   have hwb:ws.length ≤ 100000000000000:=by omega
   have hgt:decide (1000 < x.length) = decide ((1000:Int) < (x.length:Int)):=by rw [decide_eq_decide];omega
   cases wg
   all_goals (repeat' (first|refine qk ?_|(first|(refine ye ?_)|(apply qc Tryd.func20 rfl rfl;intro hIsFn;refine yk 0 1 hIsFn ((jU ⟨ws,_,wf⟩ [(x.length:Int)] (by simp) (yt hi64) (by simp) hwb)) ?_)|(apply qc Tryd.func52 rfl rfl;intro hIsFn;refine yk 0 2 hIsFn ((zm _ _ _ _ (hbd _ _))) ?_))|((first|(apply qb;rfl;rfl;exact nle rfl)|(apply qa;rfl;rfl;exact nle rfl)|refine xsC ?_ ?_);all_goals (intro hc;have hp:=hc;try simp at hp;try (exfalso;omega)))|refine jm ?_ ?_))
   all_goals try (exfalso;first|omega|(exact h0 (by assumption)))
   all_goals (refine ⟨l.length - (0 + 1),⟨[(0,.op 0 0 0),(6,.sl true (l.map vv)),(7,.v (.int .i64 (l.length:Int))),(8,.v (.int .i64 ((0 + 1:Nat):Int)))],[(0,tyW (wrB 0 2 (ws ++ xI x) _ _)),(2,qF (ws ++ xI x))],3⟩,by omega,?_,⟨0 + 1,by omega,rfl,.inr ⟨Nat.succ_pos _,by rw [hnx];rfl⟩⟩⟩;refine qS [(3,2)] rfl ?gts ?ghs;(case gts=>(repeat (first|exact ql|refine qZ ?_|refine ym ?_|refine jH ?_|refine yu ?_|refine jI ?_ ?_|refine yf ?_ ?_));all_goals trace_state);(case ghs=>refine yj (q:=0) (m:=3) rfl rfl (qd rfl) (qd rfl) ?_ ?_ ?_ qh;all_goals (first|(with_reducible rfl)|(exact List.append_assoc ws (jV (x.length:Int)) x)|(simp only [WS.txt,WS.nums,List.foldl_cons,List.foldl_nil,WS.num,hgt,hc,Bool.false_or,Bool.true_or];done)|rfl|(show _ = (Bool.or false (decide (1000 < x.length)));rw [Bool.false_or,hgt];rfl))))
  ·generalize l[i] = x at *
   generalize w.txts (l.take i) = v at *
   obtain ⟨ws,wg,wf⟩:=v
   dsimp only at *
   have hi64:xo (x.length:Int):=⟨by omega,by omega⟩
   have hb:=xl hi64
   have hbd : ∀ g f,((WS.mk ws g f).nums [(x.length:Int)]).s.length + x.length ≤ 140737488355328:=fun g f=>by
    have:((WS.mk ws g f).nums [(x.length:Int)]).s.length = ws.length + (jV (x.length:Int)).length:=List.length_append
    omega
   have hwb:ws.length ≤ 100000000000000:=by omega
   have hgt:decide (1000 < x.length) = decide ((1000:Int) < (x.length:Int)):=by rw [decide_eq_decide];omega
   cases wg
   all_goals (repeat' (first|refine qk ?_|(first|(refine ye ?_)|(apply qc Tryd.func20 rfl rfl;intro hIsFn;refine yk 0 2 hIsFn ((jU ⟨ws,_,wf⟩ [(x.length:Int)] (by simp) (yt hi64) (by simp) hwb)) ?_)|(apply qc Tryd.func52 rfl rfl;intro hIsFn;refine yk 0 3 hIsFn ((zm _ _ _ _ (hbd _ _))) ?_))|((first|(apply qb;rfl;rfl;exact nle rfl)|(apply qa;rfl;rfl;exact nle rfl)|refine xsC ?_ ?_);all_goals (intro hc;have hp:=hc;try simp at hp;try (exfalso;omega)))|refine jm ?_ ?_))
   all_goals try (exfalso;first|omega|(exact h0 (by assumption)))
   all_goals (refine ⟨l.length - (i + 1),⟨[(0,.op 0 0 0),(6,.sl true (l.map vv)),(7,.v (.int .i64 (l.length:Int))),(8,.v (.int .i64 ((i + 1:Nat):Int)))],[(0,tyW (wrB 0 2 (ws ++ xI x) _ _)),(2,qF (ws ++ xI x))],3⟩,by omega,?_,⟨i + 1,by omega,rfl,.inr ⟨Nat.succ_pos _,by rw [hnx];rfl⟩⟩⟩;refine qS [(4,2)] rfl ?gts ?ghs;(case gts=>(repeat (first|exact ql|refine qZ ?_|refine ym ?_|refine jH ?_|refine yu ?_|refine jI ?_ ?_|refine yf ?_ ?_));all_goals trace_state);(case ghs=>refine yj (q:=0) (m:=4) rfl rfl (qd rfl) (qd rfl) ?_ ?_ ?_ qh;all_goals (first|(with_reducible rfl)|(exact List.append_assoc ws (jV (x.length:Int)) x)|(simp only [WS.txt,WS.nums,List.foldl_cons,List.foldl_nil,WS.num,hgt,hc,Bool.false_or,Bool.true_or];done)|rfl|(show _ = (Bool.or false (decide (1000 < x.length)));rw [Bool.false_or,hgt];rfl))))
 ·obtain rfl:i = l.length:=by omega
  rw [List.take_length] at hst
  rcases hst with ⟨h1,_⟩|⟨hp,rfl⟩
  ·omega
  repeat' (first|refine qk ?_|fail|((first|(apply qb;rfl;rfl;exact nle rfl)|(apply qa;rfl;rfl;exact nle rfl)|refine xsC ?_ ?_);all_goals (intro hc;have hp:=hc;try simp at hp;try (exfalso;omega)))|refine jm ?_ ?_)
  all_goals try (exfalso;first|omega|(exact h0 (by assumption)))
  all_goals ((apply qD (rs:=[]) [(2,2)] 3;(case hr=>(repeat (first|exact qw|(apply qx;rfl)|(apply qu;rfl;rfl;rfl;rfl;rfl))));(case hL=>rfl);(case hh=>refine vU (q:=0) (m:=2) rfl rfl (qd rfl) (qd rfl) (qd rfl) ?_ ?_ ?_ qh;all_goals (first|(with_reducible rfl)|fail));(case hi=>exact rfl);(case hz=>first|rfl|(simp [jQ,AV.ren,AV.ren.renL,js,qn,jh];done))))
set_option maxHeartbeats 1000000 in
theorem Xq (w:WS) (b:Bool) (hw:w.s.length ≤ 100000000000000):qp C2.P 37 [.op 0 0 0,.v (.bool b)] [tyW (wrB 0 1 w.s w.g w.f),qF w.s] (.tup []) [tyW (wrB 0 2 (w.yes b).s (w.yes b).g (w.yes b).f),.dead,qF (w.yes b).s]:=by
 cases b
 ·have hc:=jU w [0] (by simp) (yt ⟨by decide,by decide⟩) (by simp) hw
  refine qf (C:=C2) Tryd.func37 rfl _ Tryd.ntmps37 (Nat.le_of_ble_eq_true rfl) _ Tryd.results37 2 rfl rfl ?_
  repeat' (first|refine qk ?_|(first|(refine ye ?_)|(apply qc Tryd.func20 rfl rfl;intro hIsFn;refine yk 0 1 hIsFn (hc) ?_))|((first|(apply qb;rfl;rfl;exact nle rfl)|(apply qa;rfl;rfl;exact nle rfl)|refine xsC ?_ ?_);all_goals (intro hc;have hp:=hc;try simp at hp;try (exfalso;omega)))|refine jm ?_ ?_)
  all_goals ((apply qD (rs:=[]) [(2,2)] 3;(case hr=>(repeat (first|exact qw|(apply qx;rfl)|(apply qu;rfl;rfl;rfl;rfl;rfl))));(case hL=>rfl);(case hh=>refine vU (q:=0) (m:=2) rfl rfl (qd rfl) (qd rfl) (qd rfl) ?_ ?_ ?_ qh;all_goals (first|(with_reducible rfl)|rfl));(case hi=>exact rfl);(case hz=>first|rfl|(simp [jQ,AV.ren,AV.ren.renL,js,qn,jh];done))))
 ·have hc:=jU w [1] (by simp) (yt ⟨by decide,by decide⟩) (by simp) hw
  refine qf (C:=C2) Tryd.func37 rfl _ Tryd.ntmps37 (Nat.le_of_ble_eq_true rfl) _ Tryd.results37 2 rfl rfl ?_
  repeat' (first|refine qk ?_|(first|(refine ye ?_)|(apply qc Tryd.func20 rfl rfl;intro hIsFn;refine yk 0 1 hIsFn (hc) ?_))|((first|(apply qb;rfl;rfl;exact nle rfl)|(apply qa;rfl;rfl;exact nle rfl)|refine xsC ?_ ?_);all_goals (intro hc;have hp:=hc;try simp at hp;try (exfalso;omega)))|refine jm ?_ ?_)
  all_goals ((apply qD (rs:=[]) [(2,2)] 3;(case hr=>(repeat (first|exact qw|(apply qx;rfl)|(apply qu;rfl;rfl;rfl;rfl;rfl))));(case hL=>rfl);(case hh=>refine vU (q:=0) (m:=2) rfl rfl (qd rfl) (qd rfl) (qd rfl) ?_ ?_ ?_ qh;all_goals (first|(with_reducible rfl)|rfl));(case hi=>exact rfl);(case hz=>first|rfl|(simp [jQ,AV.ren,AV.ren.renL,js,qn,jh];done))))
theorem yO (w:WS) (n:Int) (h:xo n):(w.nums [n]).s.length ≤ w.s.length + 22:=by
 have:=zw w [n] (yt h)
 simpa using this
structure Chg.fit (c:Chg):Prop where
 kind:xo c.kind
 path:c.path.length ≤ 1000000000
 tto:c.to.length ≤ 1000000000
 text:c.text.length ≤ 1000000000
 base:xo c.base
theorem JO (w:WS) {c:Chg} (h:c.fit):(w.chg c).s.length ≤ w.s.length + 4000000000:=by
 have h1:=yO w c.kind h.kind
 have h2:=vK (w.nums [c.kind]) [c.path,c.to,c.text] (fun s hs=>by
  simp only [List.mem_cons,List.not_mem_nil,or_false] at hs
  rcases hs with rfl|rfl|rfl
  ·exact h.path
  ·exact h.tto
  ·exact h.text)
 have h3:=yO ((w.nums [c.kind]).txts [c.path,c.to,c.text]) c.base h.base
 simp only [List.length_cons,List.length_nil] at h2
 show (((w.nums [c.kind]).txts [c.path,c.to,c.text]).nums [c.base]).s.length ≤ _
 omega
set_option maxHeartbeats 2000000 in
theorem VR (w:WS) (c:Chg) (h:c.fit) (hw:w.s.length ≤ 98000000000000):qp C2.P 55 [.op 0 0 0,.agg c.row] [tyW (wrB 0 1 w.s w.g w.f),qF w.s] (.tup []) [tyW (wrB 0 2 (w.chg c).s (w.chg c).g (w.chg c).f),.dead,qF (w.chg c).s]:=by
 have ht : ∀ s,s ∈ [c.path,c.to,c.text] → s.length ≤ 1000000000:=fun s hs=>by
  simp only [List.mem_cons,List.not_mem_nil,or_false] at hs
  rcases hs with rfl|rfl|rfl
  ·exact h.path
  ·exact h.tto
  ·exact h.text
 have b1:=yO w c.kind h.kind
 have b2:=vK (w.nums [c.kind]) [c.path,c.to,c.text] ht
 simp only [List.length_cons,List.length_nil] at b2
 have c1:=jU w [c.kind] (by simp) (yt h.kind) (by simp) (by omega)
 have c2:=kv (w.nums [c.kind]) [c.path,c.to,c.text] (by simp) ht (by simp) (by omega)
 have c3:=jU ((w.nums [c.kind]).txts [c.path,c.to,c.text]) [c.base] (by simp) (yt h.base) (by simp) (by omega)
 have hE:w.chg c = ((w.nums [c.kind]).txts [c.path,c.to,c.text]).nums [c.base]:=rfl
 rw [hE]
 clear hE b1 b2 ht h hw
 unfold Chg.row
 generalize ((w.nums [c.kind]).txts [c.path,c.to,c.text]).nums [c.base] = w3 at *
 generalize (w.nums [c.kind]).txts [c.path,c.to,c.text] = w2 at *
 generalize w.nums [c.kind] = w1 at *
 refine qf (C:=C2) Tryd.func55 rfl _ Tryd.ntmps55 (Nat.le_of_ble_eq_true rfl) _ Tryd.results55 2 rfl rfl ?_
 repeat' (first|refine qk ?_|(first|(refine ye ?_)|(apply qc Tryd.func20 rfl rfl;intro hIsFn;refine yk 0 1 hIsFn (c1) ?_)|(apply qc Tryd.func21 rfl rfl;intro hIsFn;refine yk 0 3 hIsFn (c2) ?_)|(apply qc Tryd.func20 rfl rfl;intro hIsFn;refine yk 0 4 hIsFn (c3) ?_))|((first|(apply qb;rfl;rfl;exact nle rfl)|(apply qa;rfl;rfl;exact nle rfl)|refine xsC ?_ ?_);all_goals (intro hc;have hp:=hc;try simp at hp;try (exfalso;omega)))|refine jm ?_ ?_)
 all_goals ((apply qD (rs:=[]) [(5,2)] 3;(case hr=>(repeat (first|exact qw|(apply qx;rfl)|(apply qu;rfl;rfl;rfl;rfl;rfl))));(case hL=>rfl);(case hh=>refine vU (q:=0) (m:=5) rfl rfl (qd rfl) (qd rfl) (qd rfl) ?_ ?_ ?_ qh;all_goals (first|(with_reducible rfl)|rfl));(case hi=>exact rfl);(case hz=>first|rfl|(simp [jQ,AV.ren,AV.ren.renL,js,qn,jh];done))))
end Go.Proofs.YtahbbnfmbohmmaaDoor
set_option linter.unusedSimpArgs false
set_option linter.unnecessarySimpa false
set_option linter.unusedVariables false
set_option maxHeartbeats 1000000
namespace Go.Proofs.YtahbbnfmbohmmaaDoor
open Go.Ab Go.RowKit
set_option maxRecDepth 10000
attribute [local irreducible] Awp jE qY qK Red qA Go.Ab.Fin qp Rz yL qJ qE ResOk jl qL jA qB
theorem k0 {α:Type} (step:WS → α → WS) (w:WS) {l:List α} {i:Nat} (h:i < l.length):(l.take (i + 1)).foldl step w = step ((l.take i).foldl step w) l[i]:=by
 rw [List.take_succ_eq_append_getElem h,List.foldl_append]
 rfl
theorem xk {α:Type} (step:WS → α → WS) (fit:α → Prop) (K:Nat) (hs : ∀ w x,fit x → (step w x).s.length ≤ w.s.length + K) : ∀ (l:List α) (w:WS),(∀ x,x ∈ l → fit x) → (l.foldl step w).s.length ≤ w.s.length + l.length * K
 | [],w,_=>by simp
 | x :: l,w,h=>by
   have h1:=xk step fit K hs l (step w x) (fun y hy=>h y (by simp [hy]))
   have h2:=hs w x (h x (by simp))
   rw [List.foldl_cons,List.length_cons,Nat.add_mul]
   omega
theorem Yv (w:WS) (l:List Chg) (hl:l.length ≤ 1000000000) (hg:(w.g || decide (20 < l.length)) = true):qp C2.P 54 [.op 0 0 0,ya l,.v (.int .i64 20),.clo (.func 55) [.op 0 0 0] []] [tyW (wrB 0 1 w.s w.g w.f),qF w.s] (.tup []) [tyW (wrB 0 1 w.s true w.f),qF w.s]:=by
 have hml:(l.map Chg.row).length = l.length:=List.length_map ..
 obtain ⟨ws,wg,wf⟩:=w
 dsimp only at *
 cases wg
 all_goals unfold ya
 all_goals (refine qf (C:=C2) Tryd.func54 rfl _ Tryd.ntmps54 (Nat.le_of_ble_eq_true rfl) _ Tryd.results54 2 rfl rfl ?_)
 all_goals (repeat' (first|refine qk ?_|fail|((first|(apply qb;rfl;rfl;exact nle rfl)|(apply qa;rfl;rfl;exact nle rfl)|refine xsC ?_ ?_);all_goals (intro hc;have hp:=hc;try simp at hp;try (exfalso;omega)))|refine jm ?_ ?_))
 all_goals try (exfalso;simp only [Bool.false_or,Bool.true_or,decide_eq_true_eq,hml] at hg;first|omega|(simp at hc;omega);done)
 all_goals ((apply qD (rs:=[]) [] 2;(case hr=>(repeat (first|exact qw|(apply qx;rfl)|(apply qu;rfl;rfl;rfl;rfl;rfl))));(case hL=>rfl);(case hh=>refine yj (q:=0) (m:=1) rfl rfl (qd rfl) (qd rfl) ?_ ?_ ?_ qh;all_goals (first|(with_reducible rfl)|rfl|exact hc));(case hi=>exact rfl);(case hz=>first|rfl|(simp [jQ,AV.ren,AV.ren.renL,js,qn,jh];done))))
set_option maxHeartbeats 4000000 in
theorem Xm (w:WS) (l:List Chg) (hfit : ∀ c,c ∈ l → c.fit) (hg:w.g = false) (hl:l.length ≤ 20) (hw:w.s.length ≤ 97000000000000):qp C2.P 54 [.op 0 0 0,ya l,.v (.int .i64 20),.clo (.func 55) [.op 0 0 0] []] [tyW (wrB 0 1 w.s w.g w.f),qF w.s] (.tup []) [tyW (wrB 0 2 (l.foldl WS.chg (w.num l.length)).s (l.foldl WS.chg (w.num l.length)).g (l.foldl WS.chg (w.num l.length)).f),.dead,qF (l.foldl WS.chg (w.num l.length)).s]:=by
 have hml:(l.map Chg.row).length = l.length:=List.length_map ..
 have hi64:xo (l.length:Int):=⟨by omega,by omega⟩
 have hn1:=yO w l.length hi64
 have hlen : ∀ i,i ≤ l.length → ((l.take i).foldl WS.chg (w.num l.length)).s.length ≤ 97500000000000:=fun i hi=>by
  have h1:=xk WS.chg Chg.fit 4000000000 (fun w x hx=>JO w hx) (l.take i) (w.num l.length) (fun x hx=>hfit x (List.mem_of_mem_take hx))
  have h2:(l.take i).length ≤ 20:=by rw [List.length_take];omega
  have h3:(w.num l.length).s.length ≤ w.s.length + 22:=hn1
  have h4:(l.take i).length * 4000000000 ≤ 20 * 4000000000:=Nat.mul_le_mul_right _ h2
  omega
 obtain ⟨ws,wg,wf⟩:=w
 dsimp only at hg hw
 subst hg
 have hnum:=fun g=>jU ⟨ws,g,wf⟩ [((l.map Chg.row).length:Int)] (by simp) (yt (by rw [hml];exact hi64)) (by simp) (by dsimp only;omega)
 refine qf (C:=C2) Tryd.func54 rfl _ Tryd.ntmps54 (Nat.le_of_ble_eq_true rfl) _ Tryd.results54 2 rfl rfl ?_
 repeat' (first|refine qk ?_|(first|(refine ye ?_)|(apply qc Tryd.func20 rfl rfl;intro hIsFn;refine yk 0 1 hIsFn ((hnum (decide ((20:Int) < ((l.map Chg.row).length:Int))))) ?_))|((first|(apply qb;rfl;rfl;exact nle rfl)|(apply qa;rfl;rfl;exact nle rfl)|refine xsC ?_ ?_);all_goals (intro hc;have hp:=hc;try simp at hp;try (exfalso;omega)))|refine jm ?_ ?_)
 all_goals try (exfalso;simp at *;omega)
 (refine Awp.red (qS (τ:=⟨[(32,ya l),(33,.v (.int .i64 (l.length:Int))),(34,.v (.int .i64 ((0:Nat):Int))),(3,.clo (.func 55) [.op 0 0 0] [])],[(0,tyW (wrB 0 2 ((WS.mk ws false wf).num l.length).s ((WS.mk ws false wf).num l.length).g ((WS.mk ws false wf).num l.length).f)),(2,qF ((WS.mk ws false wf).num l.length).s)],3⟩) [(2,2)] rfl ?gts2 ?ghs2) ?_;(case gts2=>(repeat (first|exact ql|refine qZ ?_|refine ym ?_|refine jH ?_|refine yu ?_|refine jI ?_ ?_|refine yf ?_ ?_));all_goals first|(rw [hml];done)|exact zz ql (qd rfl));(case ghs2=>refine yj (q:=0) (m:=2) rfl rfl (qd rfl) (qd rfl) ?_ ?_ ?_ qh;all_goals (first|(with_reducible rfl)|(rw [hml];rfl)|exact hc)))
 refine jW (fun n σ => ∃ i:Nat,i ≤ l.length ∧ n = l.length - i ∧ σ = ⟨[(32,ya l),(33,.v (.int .i64 (l.length:Int))),(34,.v (.int .i64 (i:Int))),(3,.clo (.func 55) [.op 0 0 0] [])],[(0,tyW (wrB 0 2 ((l.take i).foldl WS.chg ((WS.mk ws false wf).num l.length)).s ((l.take i).foldl WS.chg ((WS.mk ws false wf).num l.length)).g ((l.take i).foldl WS.chg ((WS.mk ws false wf).num l.length)).f)),(2,qF ((l.take i).foldl WS.chg ((WS.mk ws false wf).num l.length)).s)],3⟩) l.length ⟨0,Nat.zero_le _,rfl,rfl⟩ ?_
 rintro n σ ⟨i,hi,rfl,rfl⟩
 have hs:=hlen i hi
 by_cases hlt:i < l.length
 ·have hr:=xG (f:=Chg.row) hlt
  have hx:=hfit l[i] (List.getElem_mem hlt)
  have hnx:=k0 WS.chg ((WS.mk ws false wf).num l.length) hlt
  clear hlen hnum
  generalize (l.take i).foldl WS.chg ((WS.mk ws false wf).num l.length) = v at *
  generalize l[i] = x at *
  have hch:=VR v x hx (by omega)
  repeat' (first|refine qk ?_|(first|(refine qau (first:=[.op 0 0 0]) (cap:=[]) 0 2 Tryd.func55 (hch) ?_))|((first|(apply qb;rfl;rfl;exact nle rfl)|(apply qa;rfl;rfl;exact nle rfl)|refine xsC ?_ ?_);all_goals (intro hc;have hp:=hc;try simp at hp;try (exfalso;omega)))|refine jm ?_ ?_)
  all_goals try (exfalso;omega)
  all_goals (refine ⟨l.length - (i + 1),⟨[(32,ya l),(33,.v (.int .i64 (l.length:Int))),(34,.v (.int .i64 ((i + 1:Nat):Int))),(3,.clo (.func 55) [.op 0 0 0] [])],[(0,tyW (wrB 0 2 (v.chg x).s (v.chg x).g (v.chg x).f)),(2,qF (v.chg x).s)],3⟩,by omega,?_,⟨i + 1,by omega,rfl,by rw [hnx]⟩⟩;refine qS [(4,2)] rfl ?gts ?ghs;(case gts=>(repeat (first|exact ql|refine qZ ?_|refine ym ?_|refine jH ?_|refine yu ?_|refine jI ?_ ?_|refine yf ?_ ?_));all_goals exact zz ql (qd rfl));(case ghs=>refine yj (q:=0) (m:=4) rfl rfl (qd rfl) (qd rfl) ?_ ?_ ?_ qh;all_goals (first|(with_reducible rfl)|rfl)))
 ·obtain rfl:i = l.length:=by omega
  rw [List.take_length]
  clear hlen hnum
  repeat' (first|refine qk ?_|fail|((first|(apply qb;rfl;rfl;exact nle rfl)|(apply qa;rfl;rfl;exact nle rfl)|refine xsC ?_ ?_);all_goals (intro hc;have hp:=hc;try simp at hp;try (exfalso;omega)))|refine jm ?_ ?_)
  all_goals try (exfalso;omega)
  all_goals ((apply qD (rs:=[]) [(2,2)] 3;(case hr=>(repeat (first|exact qw|(apply qx;rfl)|(apply qu;rfl;rfl;rfl;rfl;rfl))));(case hL=>rfl);(case hh=>refine vU (q:=0) (m:=2) rfl rfl (qd rfl) (qd rfl) (qd rfl) ?_ ?_ ?_ qh;all_goals (first|(with_reducible rfl)|rfl));(case hi=>exact rfl);(case hz=>first|rfl|(simp [jQ,AV.ren,AV.ren.renL,js,qn,jh];done))))
end Go.Proofs.YtahbbnfmbohmmaaDoor
set_option linter.unusedSimpArgs false
set_option linter.unnecessarySimpa false
set_option linter.unusedVariables false
set_option maxHeartbeats 1000000
namespace Go.Proofs.YtahbbnfmbohmmaaDoor
open Go.Ab Go.RowKit
set_option maxRecDepth 10000
attribute [local irreducible] Awp jE qY qK Red qA Go.Ab.Fin qp Rz yL qJ qE ResOk jl qL jA qB
theorem vV {α:Type} {w:WS} {l:List α} {most:Nat} {step:WS → α → WS} (h:(w.g || decide (most < l.length)) = true):w.lst l most step = ⟨w.s,true,w.f⟩:=by unfold WS.lst;rw [if_pos h]
theorem wa {α:Type} {w:WS} {l:List α} {most:Nat} {step:WS → α → WS} (h:(w.g || decide (most < l.length)) = false):w.lst l most step = l.foldl step (w.num l.length) ∧ w.g = false ∧ l.length ≤ most:=by
 unfold WS.lst
 rw [h,if_neg (by decide)]
 simp only [Bool.or_eq_false_iff,decide_eq_false_iff_not] at h
 exact ⟨rfl,h.1,by omega⟩
theorem zk (w:WS) (l:List Chg) (hl:l.length ≤ 1000000000) (hg:(w.g || decide (20 < l.length)) = true):qp C2.P 22 [.op 0 0 0,ya l] [tyW (wrB 0 1 w.s w.g w.f),qF w.s] (.tup []) [tyW (wrB 0 1 w.s true w.f),qF w.s]:=by
 have hc:=Yv w l hl hg
 refine qf (C:=C2) Tryd.func22 rfl _ Tryd.ntmps22 (Nat.le_of_ble_eq_true rfl) _ Tryd.results22 2 rfl rfl ?_
 repeat' (first|refine qk ?_|(first|(apply qc Tryd.func54 rfl rfl;intro hIsFn;refine Ku 0 1 hIsFn hc ?_))|((first|(apply qb;rfl;rfl;exact nle rfl)|(apply qa;rfl;rfl;exact nle rfl)|refine xsC ?_ ?_);all_goals (intro hc;have hp:=hc;try simp at hp;try (exfalso;omega)))|refine jm ?_ ?_)
 all_goals ((apply qD (rs:=[]) [] 2;(case hr=>(repeat (first|exact qw|(apply qx;rfl)|(apply qu;rfl;rfl;rfl;rfl;rfl))));(case hL=>rfl);(case hh=>refine yj (q:=0) (m:=1) rfl rfl (qd rfl) (qd rfl) ?_ ?_ ?_ qh;all_goals (first|(with_reducible rfl)|rfl));(case hi=>exact rfl);(case hz=>first|rfl|(simp [jQ,AV.ren,AV.ren.renL,js,qn,jh];done))))
theorem zQ (w:WS) (l:List Chg) (hfit : ∀ c,c ∈ l → c.fit) (hg:(w.g || decide (20 < l.length)) = false) (hw:w.s.length ≤ 97000000000000):qp C2.P 22 [.op 0 0 0,ya l] [tyW (wrB 0 1 w.s w.g w.f),qF w.s] (.tup []) [tyW (wrB 0 2 (w.chgs l).s (w.chgs l).g (w.chgs l).f),.dead,qF (w.chgs l).s]:=by
 obtain ⟨e,h1,h2⟩:=wa (step:=WS.chg) hg
 have hc:=Xm w l hfit h1 h2 hw
 rw [show w.chgs l = _ from e]
 generalize l.foldl WS.chg (w.num l.length) = v at *
 refine qf (C:=C2) Tryd.func22 rfl _ Tryd.ntmps22 (Nat.le_of_ble_eq_true rfl) _ Tryd.results22 2 rfl rfl ?_
 repeat' (first|refine qk ?_|(first|(apply qc Tryd.func54 rfl rfl;intro hIsFn;refine yk 0 1 hIsFn (hc) ?_))|((first|(apply qb;rfl;rfl;exact nle rfl)|(apply qa;rfl;rfl;exact nle rfl)|refine xsC ?_ ?_);all_goals (intro hc;have hp:=hc;try simp at hp;try (exfalso;omega)))|refine jm ?_ ?_)
 all_goals ((apply qD (rs:=[]) [(2,2)] 3;(case hr=>(repeat (first|exact qw|(apply qx;rfl)|(apply qu;rfl;rfl;rfl;rfl;rfl))));(case hL=>rfl);(case hh=>refine vU (q:=0) (m:=2) rfl rfl (qd rfl) (qd rfl) (qd rfl) ?_ ?_ ?_ qh;all_goals (first|(with_reducible rfl)|rfl));(case hi=>exact rfl);(case hz=>first|rfl|(simp [jQ,AV.ren,AV.ren.renL,js,qn,jh];done))))
theorem JE (w:WS) (h0:w.s ≠ []) (hl:w.s.length ≤ 100000000000000):qp C2.P 23 [.op 0 0 0] [tyW (wrB 0 1 w.s w.g w.f),qF w.s] (.tup [.v (str w.done.1),.v (.int .i64 w.done.2)]) [.dead,.dead]:=by
 obtain ⟨ws,wg,wf⟩:=w
 dsimp only at *
 have hc:=fun g f=>ZJ ws g f h0 (by omega)
 unfold WS.done
 cases wg<;>cases wf
 all_goals (refine qf (C:=C2) Tryd.func23 rfl _ Tryd.ntmps23 (Nat.le_of_ble_eq_true rfl) _ Tryd.results23 2 rfl rfl ?_)
 all_goals (repeat' (first|refine qk ?_|(first|(apply qc Tryd.func56 rfl rfl;intro hIsFn;refine qat 0 1 hIsFn ((hc _ _)) ?_))|((first|(apply qb;rfl;rfl;exact nle rfl)|(apply qa;rfl;rfl;exact nle rfl)|refine xsC ?_ ?_);all_goals (intro hc;have hp:=hc;try simp at hp;try (exfalso;omega)))|refine jm ?_ ?_))
 all_goals ((apply qD (rs:=[.tmp 2,.tmp 3]) [] 2;(case hr=>(repeat (first|exact qw|(apply qx;rfl)|(apply qu;rfl;rfl;rfl;rfl;rfl))));(case hL=>rfl);(case hh=>exact za (za qh (qd rfl)) (qd rfl));(case hi=>exact rfl);(case hz=>first|rfl|(simp [jQ,AV.ren,AV.ren.renL,js,qn,jh];done))))
end Go.Proofs.YtahbbnfmbohmmaaDoor
set_option linter.unusedSimpArgs false
set_option linter.unnecessarySimpa false
set_option linter.unusedVariables false
set_option maxHeartbeats 1000000
namespace Go.Proofs.YtahbbnfmbohmmaaDoor
open Go.Ab Go.RowKit
set_option maxRecDepth 10000
attribute [local irreducible] Awp jE qY qK Red qA Go.Ab.Fin qp Rz yL qJ qE ResOk jl qL jA qB
structure Rqt.fit (r:Rqt):Prop where
 kind:xo r.kind
 who:r.who.length ≤ 1000000000
 folder:r.folder.length ≤ 1000000000
 name:r.name.length ≤ 1000000000
 key:r.key.length ≤ 1000000000
 text:r.text.length ≤ 1000000000
 number:xo r.number
 offset:xo r.offset
 base:xo r.base
 chs : ∀ c,c ∈ r.chs → c.fit
 len:r.chs.length ≤ 1000000000
def Q9 (r:Rqt):WS:=ws0.nums [r.kind]
def Ja (r:Rqt):WS:=(Q9 r).txts [r.who,r.folder,r.name,r.key,r.text]
def vj (r:Rqt):WS:=(Ja r).nums [r.number,r.offset,r.base]
theorem wX (w:WS) {ns:List Int} (h:ns ≠ []):(w.nums ns).s ≠ []:=by
 have : ∀ (ns:List Int) (w:WS),w.s ≠ [] ∨ ns ≠ [] → (w.nums ns).s ≠ []:=by
  intro ns
  induction ns with
  | nil =>
    intro w h
    rcases h with h|h
    ·exact h
    ·exact absurd rfl h
  | cons n ns ih=>intro w h;exact ih (w.num n) (.inl (by show w.s ++ (Lib.itoa n ++ [59]) ≠ [];simp))
 exact this ns w (.inr h)
theorem Zs (r:Rqt) (h:r.fit):(∀ s,s ∈ [r.who,r.folder,r.name,r.key,r.text] → s.length ≤ 1000000000) ∧ (∀ n,n ∈ [r.number,r.offset,r.base] → xo n) ∧ (Q9 r).s.length ≤ 22 ∧ (Ja r).s.length ≤ 6000000000 ∧ (vj r).s.length ≤ 7000000000 ∧ (vj r).s ≠ []:=by
 have q1 : ∀ s,s ∈ [r.who,r.folder,r.name,r.key,r.text] → s.length ≤ 1000000000:=fun s hs=>by
  simp only [List.mem_cons,List.not_mem_nil,or_false] at hs
  rcases hs with rfl|rfl|rfl|rfl|rfl
  ·exact h.who
  ·exact h.folder
  ·exact h.name
  ·exact h.key
  ·exact h.text
 have q2 : ∀ n,n ∈ [r.number,r.offset,r.base] → xo n:=fun s hs=>by
  simp only [List.mem_cons,List.not_mem_nil,or_false] at hs
  rcases hs with rfl|rfl|rfl
  ·exact h.number
  ·exact h.offset
  ·exact h.base
 have b1:(Q9 r).s.length ≤ 22:=by
  have:=yO ws0 r.kind h.kind
  have e:ws0.s.length = 0:=rfl
  show (ws0.nums [r.kind]).s.length ≤ 22
  omega
 have b2:(Ja r).s.length ≤ 6000000000:=by
  have:=vK (Q9 r) _ q1
  simp only [List.length_cons,List.length_nil] at this
  show ((Q9 r).txts _).s.length ≤ _
  omega
 have b3:(vj r).s.length ≤ 7000000000:=by
  have:=zw (Ja r) _ q2
  simp only [List.length_cons,List.length_nil] at this
  show ((Ja r).nums _).s.length ≤ _
  omega
 exact ⟨q1,q2,b1,b2,b3,wX _ (by simp)⟩
set_option maxHeartbeats 2000000 in
theorem Ys (r:Rqt) (h:r.fit):zb C.P 8 [.agg r.row] (.tup [.v (str (vw r).1),.v (.int .i64 (vw r).2)]):=by
 obtain ⟨q1,q2,b1,b2,b3,b4⟩:=Zs r h
 have c1:=Qe [r.kind] (by simp) (yt h.kind) (by simp)
 have c2:=kv (Q9 r) [r.who,r.folder,r.name,r.key,r.text] (by simp) q1 (by simp) (by omega)
 have c3:=jU (Ja r) [r.number,r.offset,r.base] (by simp) q2 (by simp) (by omega)
 have e1:ws0.nums [r.kind] = Q9 r:=rfl
 have e2:(Q9 r).txts [r.who,r.folder,r.name,r.key,r.text] = Ja r:=rfl
 have e3:(Ja r).nums [r.number,r.offset,r.base] = vj r:=rfl
 have e4:vw r = ((vj r).chgs r.chs).done:=rfl
 rw [e1] at c1
 rw [e2] at c2
 rw [e3] at c3
 rw [e4]
 cases hg:((vj r).g || decide (20 < r.chs.length)) with
 | true =>
   have c4:=zk (vj r) r.chs h.len hg
   have c5:=JE ⟨(vj r).s,true,(vj r).f⟩ b4 (by dsimp only;omega)
   rw [show (vj r).chgs r.chs = _ from vV hg]
   clear e1 e2 e3 e4 q1 q2 h hg
   generalize Q9 r = wA at *
   generalize Ja r = wB at *
   generalize vj r = wC at *
   generalize (WS.mk wC.s true wC.f).done = D at *
   unfold Rqt.row
   refine qf Tryd.func8 rfl _ Tryd.ntmps8 (Nat.le_of_ble_eq_true rfl) _ Tryd.results8 0 rfl rfl ?_
   repeat' (first|(first|(apply yR;apply (va 53);rfl;rfl;exact nle rfl)|(refine ye ?_)|(apply qc Tryd.func20 rfl rfl;intro hIsFn;refine Jr 1 hIsFn (c1) ?_)|(apply qc Tryd.func21 rfl rfl;intro hIsFn;refine yk 1 2 hIsFn (c2) ?_)|(apply qc Tryd.func20 rfl rfl;intro hIsFn;refine yk 1 3 hIsFn (c3) ?_)|(apply qc Tryd.func22 rfl rfl;intro hIsFn;refine Ku 1 4 hIsFn (c4) ?_)|(apply qc Tryd.func23 rfl rfl;intro hIsFn;refine YY 1 4 hIsFn (c5) ?_))|refine qk ?_|((first|refine xsC ?_ ?_);all_goals (intro hc;have hp:=hc;try simp at hp;try (exfalso;omega)))|refine jm ?_ ?_)
   all_goals ((refine yd (rs:=[.tmp 2,.tmp 3]) ?_;(repeat' (first|exact jC|apply jp|exact jg rfl|exact yo|exact vo|apply jS|apply j7|apply jT|apply j5|apply jG|apply j6|refine vn ?_|apply yM));all_goals rfl))
 | false =>
   have c4:=zQ (vj r) r.chs h.chs hg (by omega)
   obtain ⟨ee,_,hl20⟩:=wa (step:=WS.chg) hg
   have b5:((vj r).chgs r.chs).s.length ≤ 100000000000000:=by
    have h1:=xk WS.chg Chg.fit 4000000000 (fun w x hx=>JO w hx) r.chs ((vj r).num r.chs.length) h.chs
    have h2:((vj r).num r.chs.length).s.length ≤ (vj r).s.length + 22:=yO _ _ ⟨by omega,by omega⟩
    have h3:r.chs.length * 4000000000 ≤ 20 * 4000000000:=Nat.mul_le_mul_right _ hl20
    rw [show (vj r).chgs r.chs = _ from ee]
    omega
   have b6:((vj r).chgs r.chs).s ≠ []:=by
    rw [show (vj r).chgs r.chs = _ from ee]
    have : ∀ (l:List Chg) (w:WS),w.s ≠ [] → (l.foldl WS.chg w).s ≠ []:=by
     intro l
     induction l with
     | nil=>exact fun w h=>h
     | cons c l ih=>exact fun w h=>ih _ (wX _ (by simp))
    exact this _ _ (by show (vj r).s ++ _ ≠ [];simp [b4])
   have c5:=JE ((vj r).chgs r.chs) b6 b5
   clear e1 e2 e3 e4 q1 q2 h hg ee
   generalize (vj r).chgs r.chs = wD at *
   generalize Q9 r = wA at *
   generalize Ja r = wB at *
   generalize vj r = wC at *
   generalize wD.done = D at *
   unfold Rqt.row
   refine qf Tryd.func8 rfl _ Tryd.ntmps8 (Nat.le_of_ble_eq_true rfl) _ Tryd.results8 0 rfl rfl ?_
   repeat' (first|(first|(apply yR;apply (va 53);rfl;rfl;exact nle rfl)|(refine ye ?_)|(apply qc Tryd.func20 rfl rfl;intro hIsFn;refine Jr 1 hIsFn (c1) ?_)|(apply qc Tryd.func21 rfl rfl;intro hIsFn;refine yk 1 2 hIsFn (c2) ?_)|(apply qc Tryd.func20 rfl rfl;intro hIsFn;refine yk 1 3 hIsFn (c3) ?_)|(apply qc Tryd.func22 rfl rfl;intro hIsFn;refine yk 1 4 hIsFn (c4) ?_)|(apply qc Tryd.func23 rfl rfl;intro hIsFn;refine YY 1 5 hIsFn (c5) ?_))|refine qk ?_|((first|refine xsC ?_ ?_);all_goals (intro hc;have hp:=hc;try simp at hp;try (exfalso;omega)))|refine jm ?_ ?_)
   all_goals ((refine yd (rs:=[.tmp 2,.tmp 3]) ?_;(repeat' (first|exact jC|apply jp|exact jg rfl|exact yo|exact vo|apply jS|apply j7|apply jT|apply j5|apply jG|apply j6|refine vn ?_|apply yM));all_goals rfl))
end Go.Proofs.YtahbbnfmbohmmaaDoor
set_option linter.unusedSimpArgs false
set_option linter.unnecessarySimpa false
set_option linter.unusedVariables false
namespace Go.Proofs.YtahbbnfmbohmmaaDoor
open Go.Ab Go.RowKit
noncomputable def C3:Cx := { C with nh:=3 }
@[reducible] def qP (q:Nat):HB := .own true 1 [[.op q 0 0]]
section steps
variable {C' : Cx} {N:Nat} {all:Array Oper} {es:List Eff} {o:Oper} {os:List Oper} {K:List Eff → St → Prop} {ts:List (Nat × AV)} {hs:List (Nat × HB)} {nx:Nat} {gd:List Nat}
theorem J7 {q m b:Nat} {l:qj} {g f:Bool} (hq:qm hs q = tyW (wrB q m l g f)) (hm:qm hs m = qF l) (hb:qm hs b = qP q):vy (jv 0 [q,m,b]) (qm hs) [q,m,b] [tyW (wrB 0 1 l g f),qF l,qP 0] :=
 jr (tyW (wrB q m l g f)) (jr (qF l) (jr (qP q) yb (qW (qi (qT (.inr (List.mem_cons_self ..))) qU)) hb rfl) yB hm rfl) (yi (qi (qT (.inr (List.mem_cons_self ..))) (qi (jn (.inr (List.mem_cons_of_mem _ (List.mem_cons_self ..)))) (qi (qI rfl) (qi (qI rfl) qU))))) hq rfl
theorem Vn {q m b n:Nat} {l:qj} {g f:Bool}:zj (xj (jv 0 [q,m,b,n])) [(q,tyW (wrB q n l g f)),(m,.dead),(b,qP q),(n,qF l)] [tyW (wrB 0 3 l g f),.dead,qP 0,qF l] :=
 qM (yi (qi (qT (.inr (List.mem_cons_self ..))) (qi (jn (.inr (List.mem_cons_of_mem _ (List.mem_cons_of_mem _ (List.mem_cons_of_mem _ (List.mem_cons_self ..)))))) (qi (qI rfl) (qi (qI rfl) qU))))) (qM jO (qM (qW (qi (qT (.inr (List.mem_cons_self ..))) qU)) (qM yB jP)))
theorem QH (q m b nx:Nat) (h:(decide (q < nx) && decide (m < nx) && decide (b < nx) && decide (q ≠ m) && decide (q ≠ b) && decide (m ≠ b)) = true):q < nx ∧ m < nx ∧ b < nx ∧ q ≠ m ∧ q ≠ b ∧ m ≠ b:=by
 simp only [Bool.and_eq_true,decide_eq_true_eq] at h
 exact ⟨h.1.1.1.1.1,h.1.1.1.1.2,h.1.1.1.2,h.1.1.2,h.1.2,h.2⟩
theorem Kt {f:FuncId} {args:List Operand} {tys:Array TypeId} {d:Nat} {ty:TypeId} {pos:String} {af:Array Edge} {gg:Option (Nat × Bool)} {ys:List AV} {r:AV} {l l' : qj} {g g' f0 f1:Bool} (q m b:Nat) (hf:IsFn C'.P f)
  (hc:qp C'.P f ys [tyW (wrB 0 1 l g f0),qF l,qP 0] r [tyW (wrB 0 3 l' g' f1),.dead,qP 0,qF l'])
  (k:jE C' N all (⟨gd ++ (ji (.func f) ++ args.flatMap ji),[q,m,b],some d,r,[(q,tyW (wrB q nx l' g' f1)),(m,.dead),(b,qP q),(nx,qF l')],[nx]⟩ :: es) ⟨(d,r) :: ts,(q,tyW (wrB q nx l' g' f1)) :: (m,.dead) :: (b,qP q) :: (nx,qF l') :: hs,nx + 1⟩ os K)
  (hq:qm hs q = tyW (wrB q m l g f0):=by rfl) (hm:qm hs m = qF l:=by rfl) (hb:qm hs b = qP q:=by rfl)
  (hz:qB (jv 0 [q,m,b]) [q,m,b] (qm hs) (args.map (evA (qn ts))) ys:=by ((repeat' (first|exact je|apply qX|exact jd rfl|exact jF|(apply qo;apply qT;exact .inr (of_decide_eq_true rfl))|(apply qo;apply jN;exact .inr (of_decide_eq_true rfl))|(apply qo;apply jn;exact .inr (of_decide_eq_true rfl))|apply jw|apply jx))<;>fail))
  (hlt:(decide (q < nx) && decide (m < nx) && decide (b < nx) && decide (q ≠ m) && decide (q ≠ b) && decide (m ≠ b)) = true:=by rfl) (hr:r.ren (xj (jv 0 [q,m,b,nx])) = r:=by rfl) (hN:d < N:=by exact nle rfl):vp C' N all gd es ⟨ts,hs,nx⟩ f args d tys ty pos af gg os K:=by
 obtain ⟨h1,h2,h3,h4,h5,h6⟩:=QH q m b nx hlt
 refine yV [q,m,b] [nx] [(q,tyW (wrB q nx l' g' f1)),(m,.dead),(b,qP q),(nx,qF l')] (nx + 1) r hf hc hz (J7 hq hm hb) Vn k hr rfl rfl (Nat.le_of_ble_eq_true rfl) ?_ ?_ ?_ (by omega) hN
 ·simp;omega
 ·simp [yY]
 ·intro n hn;simp at hn;omega
theorem XK {f:FuncId} {args:List Operand} {tys:Array TypeId} {d:Nat} {ty:TypeId} {pos:String} {af:Array Edge} {gg:Option (Nat × Bool)} {ys:List AV} {r:AV} {l:qj} {g g' f0 f1:Bool} (q m b:Nat) (hf:IsFn C'.P f)
  (hc:qp C'.P f ys [tyW (wrB 0 1 l g f0),qF l,qP 0] r [tyW (wrB 0 1 l g' f1),qF l,qP 0])
  (k:jE C' N all (⟨gd ++ (ji (.func f) ++ args.flatMap ji),[q,m,b],some d,r,[(q,tyW (wrB q m l g' f1)),(m,qF l),(b,qP q)],[]⟩ :: es) ⟨(d,r) :: ts,(q,tyW (wrB q m l g' f1)) :: (m,qF l) :: (b,qP q) :: hs,nx⟩ os K)
  (hq:qm hs q = tyW (wrB q m l g f0):=by rfl) (hm:qm hs m = qF l:=by rfl) (hb:qm hs b = qP q:=by rfl)
  (hz:qB (jv 0 [q,m,b]) [q,m,b] (qm hs) (args.map (evA (qn ts))) ys:=by ((repeat' (first|exact je|apply qX|exact jd rfl|exact jF|(apply qo;apply qT;exact .inr (of_decide_eq_true rfl))|(apply qo;apply jN;exact .inr (of_decide_eq_true rfl))|(apply qo;apply jn;exact .inr (of_decide_eq_true rfl))|apply jw|apply jx))<;>fail))
  (hlt:(decide (q < nx) && decide (m < nx) && decide (b < nx) && decide (q ≠ m) && decide (q ≠ b) && decide (m ≠ b)) = true:=by rfl) (hr:r.ren (xj (jv 0 [q,m,b])) = r:=by rfl) (hN:d < N:=by exact nle rfl):vp C' N all gd es ⟨ts,hs,nx⟩ f args d tys ty pos af gg os K:=by
 obtain ⟨h1,h2,h3,h4,h5,h6⟩:=QH q m b nx hlt
 refine yV [q,m,b] [] [(q,tyW (wrB q m l g' f1)),(m,qF l),(b,qP q)] nx r hf hc hz (J7 hq hm hb) (qM (yi (qi (qT (.inr (List.mem_cons_self ..))) (qi (jn (.inr (List.mem_cons_of_mem _ (List.mem_cons_self ..)))) (qi (qI rfl) (qi (qI rfl) qU))))) (qM yB (qM (qW (qi (qT (.inr (List.mem_cons_self ..))) qU)) jP))) k hr rfl rfl (Nat.le_of_ble_eq_true rfl) ?_ rfl (fun n hn=>by cases hn) (Nat.le_refl _) hN
 simp
 omega
theorem Kv {f:FuncId} {fn:Func} {x:Operand} {first cap:List AV} {args:List Operand} {tys:Array TypeId} {d:Nat} {ty:TypeId} {pos:String} {af:Array Edge} {gg:Option (Nat × Bool)} {ys:List AV} {r:AV} {l l' : qj} {g g' f0 f1:Bool} (q m b:Nat) (hf:C'.P.funcs[f]? = some fn)
  (hc:qp C'.P f ys [tyW (wrB 0 1 l g f0),qF l,qP 0] r [tyW (wrB 0 3 l' g' f1),.dead,qP 0,qF l'])
  (k:jE C' N all (⟨gd ++ (ji x ++ args.flatMap ji),[q,m,b],some d,r,[(q,tyW (wrB q nx l' g' f1)),(m,.dead),(b,qP q),(nx,qF l')],[nx]⟩ :: es) ⟨(d,r) :: ts,(q,tyW (wrB q nx l' g' f1)) :: (m,.dead) :: (b,qP q) :: (nx,qF l') :: hs,nx + 1⟩ os K)
  (hx:evA (qn ts) x = .clo (.func f) first cap:=by rfl) (hb0:fn.body.isNone = false:=by rfl) (hn0:(fn.name == "runtime.NumGoroutine") = false:=by rfl)
  (hq:qm hs q = tyW (wrB q m l g f0):=by rfl) (hm:qm hs m = qF l:=by rfl) (hb:qm hs b = qP q:=by rfl)
  (hz:qB (jv 0 [q,m,b]) [q,m,b] (qm hs) (first ++ args.map (evA (qn ts)) ++ cap) ys:=by ((repeat' (first|exact je|apply qX|exact jd rfl|exact jF|(apply qo;apply qT;exact .inr (of_decide_eq_true rfl))|(apply qo;apply jN;exact .inr (of_decide_eq_true rfl))|(apply qo;apply jn;exact .inr (of_decide_eq_true rfl))|apply jw|apply jx))<;>fail))
  (hlt:(decide (q < nx) && decide (m < nx) && decide (b < nx) && decide (q ≠ m) && decide (q ≠ b) && decide (m ≠ b)) = true:=by rfl) (hr:r.ren (xj (jv 0 [q,m,b,nx])) = r:=by rfl) (hN:d < N:=by exact nle rfl):qY C' N all gd es ⟨ts,hs,nx⟩ ⟨some d,.call ⟨.value x,args.toArray,tys⟩,ty,pos,af,gg⟩ os K:=by
 obtain ⟨h1,h2,h3,h4,h5,h6⟩:=QH q m b nx hlt
 refine zx [q,m,b] [nx] [(q,tyW (wrB q nx l' g' f1)),(m,.dead),(b,qP q),(nx,qF l')] (nx + 1) r hf hc hz (J7 hq hm hb) Vn k hx hb0 hn0 hr rfl rfl (Nat.le_of_ble_eq_true rfl) ?_ ?_ ?_ (by omega) hN
 ·simp;omega
 ·simp [yY]
 ·intro n hn;simp at hn;omega
end steps
theorem vr {L:List (Nat × Nat)} {nh:Nat} {σ:St} {q q' b b' : Nat} {rest:List (Nat × HB)} (hb:qm σ.hs b = qP q) (h1:Maps L nh q q') (h2:Maps L nh b b') (hr:j4 L nh σ rest):j4 L nh σ ((b',qP q') :: rest) :=
 ⟨⟨b,h2,by rw [hb];exact qW (qi (qT h1) qU)⟩,hr⟩
theorem zu {L:List (Nat × Nat)} {nh:Nat} {σ:St} {q q' m m' d' b b' : Nat} {l l' : qj} {g g' f f' : Bool} {rest:List (Nat × HB)} (hq:qm σ.hs q = tyW (wrB q m l g f)) (hm:qm σ.hs m = qF l) (hb:qm σ.hs b = qP q) (h1:Maps L nh q q') (h2:Maps L nh m m') (hd:Maps L nh d' d') (h3:Maps L nh b b') (hl:l = l') (hg:g = g') (hf:f = f') (hr:j4 L nh σ rest):j4 L nh σ ((q',tyW (wrB q' m' l' g' f')) :: (d',.dead) :: (b',qP q') :: (m',qF l') :: rest):=by
 subst hl hg hf
 exact Yf (za (vr hb h1 h3 (Y2 hr rfl h2 hm)) hd) (qi (qT h1) (qi (jn h2) (qi (qI rfl) (qi (qI rfl) qU)))) h1 hq
end Go.Proofs.YtahbbnfmbohmmaaDoor
set_option linter.unusedSimpArgs false
set_option linter.unnecessarySimpa false
set_option linter.unusedVariables false
set_option maxHeartbeats 1000000
namespace Go.Proofs.YtahbbnfmbohmmaaDoor
open Go.Ab Go.RowKit
set_option maxRecDepth 10000
attribute [local irreducible] Awp jE qY qK Red qA Go.Ab.Fin qp Rz yL qJ qE ResOk jl qL jA qB
structure Ent.fit (e:Ent):Prop where
 path:e.path.length ≤ 1000000000
 text:e.text.length ≤ 1000000000
 ver:xo e.ver
structure Com.fit (c:Com):Prop where
 num:xo c.num
 key:c.key.length ≤ 1000000000
 chs : ∀ x,x ∈ c.chs → x.fit
 len:c.chs.length ≤ 1000000000
theorem Qb (w:WS) (b:Bool):(w.yes b).s.length ≤ w.s.length + 22:=by
 cases b
 ·exact yO w 0 ⟨by decide,by decide⟩
 ·exact yO w 1 ⟨by decide,by decide⟩
theorem wY {t:qj} (h:t.length ≤ 1000000000) : ∀ s,s ∈ [t] → s.length ≤ 1000000000:=fun s hs=>by
 simp only [List.mem_singleton] at hs
 exact hs ▸ h
theorem vJ (w:WS) {t:qj} (h:t.length ≤ 1000000000):(w.txts [t]).s.length ≤ w.s.length + 1000000022:=by
 have:=vK w [t] (wY h)
 simpa using this
theorem Vu (w:WS) {e:Ent} (h:e.fit):(w.ent e).s.length ≤ w.s.length + 4000000000:=by
 have h1:=vJ w h.path
 have h2:=Qb (w.txts [e.path]) e.fold
 have h3:=vJ ((w.txts [e.path]).yes e.fold) h.text
 have h4:=yO (((w.txts [e.path]).yes e.fold).txts [e.text]) e.ver h.ver
 show ((((w.txts [e.path]).yes e.fold).txts [e.text]).nums [e.ver]).s.length ≤ _
 omega
theorem ZZ (w:WS) {l:List Chg} (h : ∀ c,c ∈ l → c.fit):(w.chgs l).s.length ≤ w.s.length + 80000000022:=by
 cases hg:(w.g || decide (20 < l.length)) with
 | true =>
   rw [show w.chgs l = _ from vV hg]
   exact Nat.le_add_right _ _
 | false =>
   obtain ⟨e,_,h20⟩:=wa (step:=WS.chg) hg
   rw [show w.chgs l = _ from e]
   have h1:=xk WS.chg Chg.fit 4000000000 (fun w x hx=>JO w hx) l (w.num l.length) h
   have h2:(w.num l.length).s.length ≤ w.s.length + 22:=yO w _ ⟨by omega,by omega⟩
   have h3:l.length * 4000000000 ≤ 20 * 4000000000:=Nat.mul_le_mul_right _ h20
   omega
theorem Vt (w:WS) {c:Com} (h:c.fit):(w.com c).s.length ≤ w.s.length + 82000000000:=by
 have h1:=yO w c.num h.num
 have h2:=vJ (w.nums [c.num]) h.key
 have h3:=ZZ ((w.nums [c.num]).txts [c.key]) h.chs
 show (((w.nums [c.num]).txts [c.key]).chgs c.chs).s.length ≤ _
 omega
set_option maxHeartbeats 2000000 in
theorem K3 (w:WS) (e:Ent) (h:e.fit) (hw:w.s.length ≤ 95000000000000):qp C3.P 39 [.agg e.row,.op 2 0 0] [tyW (wrB 0 1 w.s w.g w.f),qF w.s,qP 0] (.tup []) [tyW (wrB 0 3 (w.ent e).s (w.ent e).g (w.ent e).f),.dead,qP 0,qF (w.ent e).s]:=by
 have h1:=vJ w h.path
 have h2:=Qb (w.txts [e.path]) e.fold
 have h3:=vJ ((w.txts [e.path]).yes e.fold) h.text
 have c1:=kv w [e.path] (by simp) (wY h.path) (by simp) (by omega)
 have c2:=Xq (w.txts [e.path]) e.fold (by omega)
 have c3:=kv ((w.txts [e.path]).yes e.fold) [e.text] (by simp) (wY h.text) (by simp) (by omega)
 have c4:=jU (((w.txts [e.path]).yes e.fold).txts [e.text]) [e.ver] (by simp) (yt h.ver) (by simp) (by omega)
 have hE:w.ent e = (((w.txts [e.path]).yes e.fold).txts [e.text]).nums [e.ver]:=rfl
 rw [hE]
 clear hE h1 h2 h3 h hw
 unfold Ent.row
 generalize (((w.txts [e.path]).yes e.fold).txts [e.text]).nums [e.ver] = w4 at *
 generalize ((w.txts [e.path]).yes e.fold).txts [e.text] = w3 at *
 generalize (w.txts [e.path]).yes e.fold = w2 at *
 generalize w.txts [e.path] = w1 at *
 refine qf (C:=C3) Tryd.func39 rfl _ Tryd.ntmps39 (Nat.le_of_ble_eq_true rfl) _ Tryd.results39 3 rfl rfl ?_
 repeat' (first|refine qk ?_|(first|(refine ye ?_)|(apply qc Tryd.func21 rfl rfl;intro hIsFn;refine yk 0 1 hIsFn (c1) ?_)|(apply qc Tryd.func37 rfl rfl;intro hIsFn;refine yk 0 4 hIsFn (c2) ?_)|(apply qc Tryd.func21 rfl rfl;intro hIsFn;refine yk 0 5 hIsFn (c3) ?_)|(apply qc Tryd.func20 rfl rfl;intro hIsFn;refine yk 0 6 hIsFn (c4) ?_))|((first|(apply qb;rfl;rfl;exact nle rfl)|(apply qa;rfl;rfl;exact nle rfl)|refine xsC ?_ ?_);all_goals (intro hc;have hp:=hc;try simp at hp;try (exfalso;omega)))|refine jm ?_ ?_)
 all_goals ((apply qD (rs:=[]) [(7,3)] 4;(case hr=>(repeat (first|exact qw|(apply qx;rfl)|(apply qu;rfl;rfl;rfl;rfl;rfl))));(case hL=>rfl);(case hh=>refine zu (q:=0) (m:=7) (b:=2) rfl rfl rfl (qd rfl) (qd rfl) (qd rfl) (qd rfl) ?_ ?_ ?_ qh;all_goals (first|(with_reducible rfl)|rfl));(case hi=>exact rfl);(case hz=>first|rfl|(simp [jQ,AV.ren,AV.ren.renL,js,qn,jh];done))))
set_option maxHeartbeats 2000000 in
theorem K2 (w:WS) (c:Com) (h:c.fit) (hw:w.s.length ≤ 95000000000000):qp C3.P 41 [.agg c.row,.op 2 0 0] [tyW (wrB 0 1 w.s w.g w.f),qF w.s,qP 0] (.tup []) [tyW (wrB 0 3 (w.com c).s (w.com c).g (w.com c).f),.dead,qP 0,qF (w.com c).s]:=by
 have h1:=yO w c.num h.num
 have h2:=vJ (w.nums [c.num]) h.key
 have c1:=jU w [c.num] (by simp) (yt h.num) (by simp) (by omega)
 have c2:=kv (w.nums [c.num]) [c.key] (by simp) (wY h.key) (by simp) (by omega)
 have hE:w.com c = ((w.nums [c.num]).txts [c.key]).chgs c.chs:=rfl
 rw [hE]
 have hl:=h.len
 have hf:=h.chs
 clear hE h
 unfold Com.row
 generalize hw2:(w.nums [c.num]).txts [c.key] = w2 at *
 generalize w.nums [c.num] = w1 at *
 cases hg:(w2.g || decide (20 < c.chs.length)) with
 | true =>
   have c3:=zk w2 c.chs hl hg
   rw [show w2.chgs c.chs = _ from vV hg]
   clear hl hf hg h1 h2 hw hw2
   refine qf (C:=C3) Tryd.func41 rfl _ Tryd.ntmps41 (Nat.le_of_ble_eq_true rfl) _ Tryd.results41 3 rfl rfl ?_
   repeat' (first|refine qk ?_|(first|(refine ye ?_)|(apply qc Tryd.func20 rfl rfl;intro hIsFn;refine yk 0 1 hIsFn (c1) ?_)|(apply qc Tryd.func21 rfl rfl;intro hIsFn;refine yk 0 4 hIsFn (c2) ?_)|(apply qc Tryd.func22 rfl rfl;intro hIsFn;refine Ku 0 5 hIsFn (c3) ?_))|((first|(apply qb;rfl;rfl;exact nle rfl)|(apply qa;rfl;rfl;exact nle rfl)|refine xsC ?_ ?_);all_goals (intro hc;have hp:=hc;try simp at hp;try (exfalso;omega)))|refine jm ?_ ?_)
   all_goals ((apply qD (rs:=[]) [(5,3)] 4;(case hr=>(repeat (first|exact qw|(apply qx;rfl)|(apply qu;rfl;rfl;rfl;rfl;rfl))));(case hL=>rfl);(case hh=>refine zu (q:=0) (m:=5) (b:=2) rfl rfl rfl (qd rfl) (qd rfl) (qd rfl) (qd rfl) ?_ ?_ ?_ qh;all_goals (first|(with_reducible rfl)|rfl));(case hi=>exact rfl);(case hz=>first|rfl|(simp [jQ,AV.ren,AV.ren.renL,js,qn,jh];done))))
 | false =>
   have c3:=zQ w2 c.chs hf hg (by omega)
   generalize w2.chgs c.chs = w3 at *
   clear hl hf hg h1 h2 hw hw2
   refine qf (C:=C3) Tryd.func41 rfl _ Tryd.ntmps41 (Nat.le_of_ble_eq_true rfl) _ Tryd.results41 3 rfl rfl ?_
   repeat' (first|refine qk ?_|(first|(refine ye ?_)|(apply qc Tryd.func20 rfl rfl;intro hIsFn;refine yk 0 1 hIsFn (c1) ?_)|(apply qc Tryd.func21 rfl rfl;intro hIsFn;refine yk 0 4 hIsFn (c2) ?_)|(apply qc Tryd.func22 rfl rfl;intro hIsFn;refine yk 0 5 hIsFn (c3) ?_))|((first|(apply qb;rfl;rfl;exact nle rfl)|(apply qa;rfl;rfl;exact nle rfl)|refine xsC ?_ ?_);all_goals (intro hc;have hp:=hc;try simp at hp;try (exfalso;omega)))|refine jm ?_ ?_)
   all_goals ((apply qD (rs:=[]) [(6,3)] 4;(case hr=>(repeat (first|exact qw|(apply qx;rfl)|(apply qu;rfl;rfl;rfl;rfl;rfl))));(case hL=>rfl);(case hh=>refine zu (q:=0) (m:=6) (b:=2) rfl rfl rfl (qd rfl) (qd rfl) (qd rfl) (qd rfl) ?_ ?_ ?_ qh;all_goals (first|(with_reducible rfl)|rfl));(case hi=>exact rfl);(case hz=>first|rfl|(simp [jQ,AV.ren,AV.ren.renL,js,qn,jh];done))))
end Go.Proofs.YtahbbnfmbohmmaaDoor
