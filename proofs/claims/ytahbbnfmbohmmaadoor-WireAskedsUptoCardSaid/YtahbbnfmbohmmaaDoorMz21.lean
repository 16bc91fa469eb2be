import Derived.Test.YtahbbnfmbohmmaaDoorMz15
import Derived.Test.YtahbbnfmbohmmaaDoorMz20
import Derived.Lib.ItoaLen
import Derived.Test.YtahbbnfmbohmmaaDoorMz13
set_option linter.unusedSimpArgs false
set_option linter.unnecessarySimpa false
set_option linter.unusedVariables false
set_option maxHeartbeats 1000000
namespace Go.Proofs.YtahbbnfmbohmmaaDoor
open Go.Ab Go.RowKit
set_option maxRecDepth 10000
attribute [local irreducible] Awp jE qX qG Red qx Go.Ab.Fin qp Rz yI qE qB ResOk je qJ jx qy
def yi (n:Int):List AV:=[.v (.int .i64 n)]
def xU (s:qh):List AV:=[.v (str s)]
theorem yG {n:Int} (h:xN n):(jJ n).length ≤ 22:=by
 have:=Lib.itoa_length_le n h.1 h.2
 simp [jJ]
 omega
theorem QD (w:WS) {ns:List Int} {i:Nat} (h:i < ns.length):w.nums (ns.take (i + 1)) = (w.nums (ns.take i)).num ns[i]:=by
 unfold WS.nums
 rw [List.take_succ_eq_append_getElem h,List.foldl_append]
 rfl
theorem z6 (w:WS) : ∀ (ns:List Int),(∀ n,n ∈ ns → xN n) → (w.nums ns).s.length ≤ w.s.length + 22 * ns.length
 | [],_=>Nat.le_refl _
 | n :: ns,h=>by
   have h1:=z6 (w.num n) ns (fun m hm=>h m (by simp [hm]))
   have h2:=yG (h n (by simp))
   have h3:(w.num n).s.length = w.s.length + (jJ n).length:=List.length_append
   show ((w.num n).nums ns).s.length ≤ _
   simp only [List.length_cons]
   omega
theorem zm (w:WS) (ns:List Int) (i:Nat) (h : ∀ n,n ∈ ns → xN n) (hl:ns.length ≤ 10):(w.nums (ns.take i)).s.length ≤ w.s.length + 220:=by
 have h1:=z6 w (ns.take i) (fun n hn=>h n (List.mem_of_mem_take hn))
 have h2:(ns.take i).length ≤ 10:=by rw [List.length_take];omega
 omega
set_option maxHeartbeats 4000000 in
theorem xt (w:WS) (ns:List Int) (h0:ns ≠ []) (hn : ∀ n,n ∈ ns → xN n) (hl:ns.length ≤ 10) (hw:w.s.length ≤ 100000000000000):qp C2.P 20 [.op 0 0 0,.sl true (ns.map yi)] [tyW (wrB 0 1 w.s w.g w.f),qW w.s] (.tup []) [tyW (wrB 0 2 (w.nums ns).s (w.nums ns).g (w.nums ns).f),.dead,qW (w.nums ns).s]:=by
 have hml:(ns.map yi).length = ns.length:=List.length_map ..
 have hpos:0 < ns.length:=by cases ns with|nil=>exact absurd rfl h0|cons _ _=>simp
 refine qe (C:=C2) Tryd.func20 rfl _ Tryd.ntmps20 (Nat.le_of_ble_eq_true rfl) _ Tryd.results20 2 rfl rfl ?_
 repeat' (first|refine qm ?_|fail|((first|(apply qb;rfl;rfl;exact nle rfl)|(apply qa;rfl;rfl;exact nle rfl)|refine xsC ?_ ?_);all_goals (intro hc;have hp:=hc;try simp at hp;try (exfalso;omega)))|refine jl ?_ ?_)
 (refine Awp.red (qH (τ:=⟨[(0,.op 0 0 0),(6,.sl true (ns.map yi)),(7,.v (.int .i64 (ns.length:Int))),(8,.v (.int .i64 ((0:Nat):Int)))],[(0,tyW (wrB 0 1 w.s w.g w.f)),(1,qW w.s)],2⟩) [] rfl ?gts2 ?ghs2) ?_;(case gts2=>(repeat (first|exact qt|refine qV ?_|refine yh ?_|refine jG ?_|refine yn ?_|refine jH ?_ ?_|refine j8 ?_ ?_));all_goals rw [hml]);(case ghs2=>refine yO (q:=0) (m:=1) rfl rfl (qf rfl) (qf rfl) ?_ ?_ ?_ qg;all_goals (first|(with_reducible rfl)|fail)))
 refine ya (fun n σ => ∃ i:Nat,i ≤ ns.length ∧ n = ns.length - i ∧ ((i = 0 ∧ σ = ⟨[(0,.op 0 0 0),(6,.sl true (ns.map yi)),(7,.v (.int .i64 (ns.length:Int))),(8,.v (.int .i64 ((0:Nat):Int)))],[(0,tyW (wrB 0 1 w.s w.g w.f)),(1,qW w.s)],2⟩) ∨ (0 < i ∧ σ = ⟨[(0,.op 0 0 0),(6,.sl true (ns.map yi)),(7,.v (.int .i64 (ns.length:Int))),(8,.v (.int .i64 (i:Int)))],[(0,tyW (wrB 0 2 (w.nums (ns.take i)).s (w.nums (ns.take i)).g (w.nums (ns.take i)).f)),(2,qW (w.nums (ns.take i)).s)],3⟩))) ns.length ⟨0,Nat.zero_le _,rfl,.inl ⟨rfl,rfl⟩⟩ ?_
 rintro n σ ⟨i,hi,rfl,hst⟩
 have hs:=zm w ns i hn hl
 by_cases hlt:i < ns.length
 ·have hr:=vK (f:=yi) hlt
  have hx:=hn ns[i] (List.getElem_mem hlt)
  have hnx:=QD w hlt
  rcases hst with ⟨rfl,rfl⟩|⟨hp,rfl⟩
  ·generalize ns[0] = x at *
   rw [show w.nums (ns.take 0) = w from rfl] at hnx
   obtain ⟨ws,wg,wf⟩:=w
   have hb:=yG hx
   have hi21:=Lib.itoa_length_le x hx.1 hx.2
   have hbd:ws.length + (Lib.itoa x ++ [59]).length ≤ 140737488355328:=by have:(jJ x).length = (Lib.itoa x ++ [59]).length:=rfl;simp only at hw;omega
   dsimp only at *
   cases wf
   all_goals (repeat' (first|refine qm ?_|(first|refine xsF Tryd.func53 (vE x hx.1 hx.2 ..) ?_|(apply qc Tryd.func52 rfl rfl;intro hIsFn;refine vN 0 1 hIsFn ((vF _ _ _ _ hbd)) ?_))|((first|(apply qb;rfl;rfl;exact nle rfl)|(apply qa;rfl;rfl;exact nle rfl)|refine xsC ?_ ?_);all_goals (intro hc;have hp:=hc;try simp at hp;try (exfalso;omega)))|refine jl ?_ ?_))
   all_goals try (exfalso;first|omega|(exact h0 (by assumption)))
   all_goals (refine ⟨ns.length - (0 + 1),⟨[(0,.op 0 0 0),(6,.sl true (ns.map yi)),(7,.v (.int .i64 (ns.length:Int))),(8,.v (.int .i64 ((0 + 1:Nat):Int)))],[(0,tyW (wrB 0 2 (ws ++ jJ x) wg _)),(2,qW (ws ++ jJ x))],3⟩,by omega,?_,⟨1,by omega,rfl,.inr ⟨Nat.zero_lt_one,by rw [hnx];rfl⟩⟩⟩;refine qH [(2,2)] rfl ?gts ?ghs;(case gts=>(repeat (first|exact qt|refine qV ?_|refine yh ?_|refine jG ?_|refine yn ?_|refine jH ?_ ?_|refine j8 ?_ ?_));all_goals trace_state);(case ghs=>refine yO (q:=0) (m:=2) rfl rfl (qf rfl) (qf rfl) ?_ ?_ ?_ qg;all_goals (first|(with_reducible rfl)|(simp only [WS.num,zA,hc,Bool.false_or,Bool.true_or];done)|rfl)))
  ·generalize ns[i] = x at *
   generalize w.nums (ns.take i) = v at *
   obtain ⟨ws,wg,wf⟩:=v
   have hb:=yG hx
   have hi21:=Lib.itoa_length_le x hx.1 hx.2
   have hbd:ws.length + (Lib.itoa x ++ [59]).length ≤ 140737488355328:=by have:(jJ x).length = (Lib.itoa x ++ [59]).length:=rfl;simp only at hs;omega
   dsimp only at *
   cases wf
   all_goals (repeat' (first|refine qm ?_|(first|refine xsF Tryd.func53 (vE x hx.1 hx.2 ..) ?_|(apply qc Tryd.func52 rfl rfl;intro hIsFn;refine vN 0 2 hIsFn ((vF _ _ _ _ hbd)) ?_))|((first|(apply qb;rfl;rfl;exact nle rfl)|(apply qa;rfl;rfl;exact nle rfl)|refine xsC ?_ ?_);all_goals (intro hc;have hp:=hc;try simp at hp;try (exfalso;omega)))|refine jl ?_ ?_))
   all_goals try (exfalso;first|omega|(exact h0 (by assumption)))
   all_goals (refine ⟨ns.length - (i + 1),⟨[(0,.op 0 0 0),(6,.sl true (ns.map yi)),(7,.v (.int .i64 (ns.length:Int))),(8,.v (.int .i64 ((i + 1:Nat):Int)))],[(0,tyW (wrB 0 2 (ws ++ jJ x) wg _)),(2,qW (ws ++ jJ x))],3⟩,by omega,?_,⟨i + 1,by omega,rfl,.inr ⟨Nat.succ_pos _,by rw [hnx];rfl⟩⟩⟩;refine qH [(3,2)] rfl ?gts ?ghs;(case gts=>(repeat (first|exact qt|refine qV ?_|refine yh ?_|refine jG ?_|refine yn ?_|refine jH ?_ ?_|refine j8 ?_ ?_));all_goals trace_state);(case ghs=>refine yO (q:=0) (m:=3) rfl rfl (qf rfl) (qf rfl) ?_ ?_ ?_ qg;all_goals (first|(with_reducible rfl)|(simp only [WS.num,zA,hc,Bool.false_or,Bool.true_or];done)|rfl)))
 ·obtain rfl:i = ns.length:=by omega
  rw [List.take_length] at hst
  rcases hst with ⟨h1,_⟩|⟨hp,rfl⟩
  ·omega
  repeat' (first|refine qm ?_|fail|((first|(apply qb;rfl;rfl;exact nle rfl)|(apply qa;rfl;rfl;exact nle rfl)|refine xsC ?_ ?_);all_goals (intro hc;have hp:=hc;try simp at hp;try (exfalso;omega)))|refine jl ?_ ?_)
  all_goals try (exfalso;first|omega|(exact h0 (by assumption)))
  all_goals ((apply qu (rs:=[]) [(2,2)] 3;(case hr=>(repeat (first|exact qk|(apply ql;rfl)|(apply qi;rfl;rfl;rfl;rfl;rfl))));(case hL=>rfl);(case hh=>refine zZ (q:=0) (m:=2) rfl rfl (qf rfl) (qf rfl) (qf rfl) ?_ ?_ ?_ qg;all_goals (first|(with_reducible rfl)|fail));(case hi=>exact rfl);(case hz=>first|rfl|(simp [jt,AV.ren,AV.ren.renL,qQ,qj,qK];done))))
end Go.Proofs.YtahbbnfmbohmmaaDoor
set_option linter.unusedSimpArgs false
set_option linter.unnecessarySimpa false
set_option linter.unusedVariables false
set_option maxHeartbeats 1000000
namespace Go.Proofs.YtahbbnfmbohmmaaDoor
open Go.Ab Go.RowKit
set_option maxRecDepth 10000
attribute [local irreducible] Awp jE qX qG Red qx Go.Ab.Fin qp Rz yI qE qB ResOk je qJ jx qy
theorem Zs (ns:List Int) (i:Nat) (h : ∀ n,n ∈ ns → xN n) (hl:ns.length ≤ 10):(ws0.nums (ns.take i)).s.length ≤ 220:=by
 have:=zm ws0 ns i h hl
 have e:ws0.s.length = 0:=rfl
 omega
set_option maxHeartbeats 4000000 in
theorem Yf (ns:List Int) (h0:ns ≠ []) (hn : ∀ n,n ∈ ns → xN n) (hl:ns.length ≤ 10):qp C1.P 20 [.op 0 0 0,.sl true (ns.map yi)] [tyW (Zt false false)] (.tup []) [tyW (wrB 0 1 (ws0.nums ns).s (ws0.nums ns).g (ws0.nums ns).f),qW (ws0.nums ns).s]:=by
 have hml:(ns.map yi).length = ns.length:=List.length_map ..
 have hpos:0 < ns.length:=by cases ns with|nil=>exact absurd rfl h0|cons _ _=>simp
 refine qe (C:=C1) Tryd.func20 rfl _ Tryd.ntmps20 (Nat.le_of_ble_eq_true rfl) _ Tryd.results20 1 rfl rfl ?_
 repeat' (first|refine qm ?_|fail|((first|(apply qb;rfl;rfl;exact nle rfl)|(apply qa;rfl;rfl;exact nle rfl)|refine xsC ?_ ?_);all_goals (intro hc;have hp:=hc;try simp at hp;try (exfalso;omega)))|refine jl ?_ ?_)
 (refine Awp.red (qH (τ:=⟨[(0,.op 0 0 0),(6,.sl true (ns.map yi)),(7,.v (.int .i64 (ns.length:Int))),(8,.v (.int .i64 ((0:Nat):Int)))],[(0,tyW (Zt false false))],1⟩) [] rfl ?gts2 ?ghs2) ?_;(case gts2=>(repeat (first|exact qt|refine qV ?_|refine yh ?_|refine jG ?_|refine yn ?_|refine jH ?_ ?_|refine j8 ?_ ?_));all_goals rw [hml]);(case ghs2=>exact ZN (q:=0) rfl (qf rfl) qg))
 refine ya (fun n σ => ∃ i:Nat,i ≤ ns.length ∧ n = ns.length - i ∧ ((i = 0 ∧ σ = ⟨[(0,.op 0 0 0),(6,.sl true (ns.map yi)),(7,.v (.int .i64 (ns.length:Int))),(8,.v (.int .i64 ((0:Nat):Int)))],[(0,tyW (Zt false false))],1⟩) ∨ (0 < i ∧ σ = ⟨[(0,.op 0 0 0),(6,.sl true (ns.map yi)),(7,.v (.int .i64 (ns.length:Int))),(8,.v (.int .i64 (i:Int)))],[(0,tyW (wrB 0 1 (ws0.nums (ns.take i)).s (ws0.nums (ns.take i)).g (ws0.nums (ns.take i)).f)),(1,qW (ws0.nums (ns.take i)).s)],2⟩))) ns.length ⟨0,Nat.zero_le _,rfl,.inl ⟨rfl,rfl⟩⟩ ?_
 rintro n σ ⟨i,hi,rfl,hst⟩
 have hs:=Zs ns i hn hl
 by_cases hlt:i < ns.length
 ·have hr:=vK (f:=yi) hlt
  have hx:=hn ns[i] (List.getElem_mem hlt)
  have hnx:=QD ws0 hlt
  rcases hst with ⟨rfl,rfl⟩|⟨hp,rfl⟩
  ·generalize ns[0] = x at *
   rw [show ws0.nums (ns.take 0) = ws0 from rfl] at hnx
   have hb:=yG hx
   have hi21:=Lib.itoa_length_le x hx.1 hx.2
   have hbd:(Lib.itoa x ++ [59]).length ≤ 140737488355328:=by have:(jJ x).length = (Lib.itoa x ++ [59]).length:=rfl;omega
   have hne:Lib.itoa x ++ [59] ≠ []:=by simp
   (repeat' (first|refine qm ?_|(first|refine xsF Tryd.func53 (vE x hx.1 hx.2 ..) ?_|(apply qc Tryd.func52 rfl rfl;intro hIsFn;refine V2 0 hIsFn ((Vn _ _ _ hne hbd)) ?_))|((first|(apply qb;rfl;rfl;exact nle rfl)|(apply qa;rfl;rfl;exact nle rfl)|refine xsC ?_ ?_);all_goals (intro hc;have hp:=hc;try simp at hp;try (exfalso;omega)))|refine jl ?_ ?_))
   all_goals try (exfalso;first|omega|(exact h0 (by assumption)))
   all_goals (refine ⟨ns.length - (0 + 1),⟨[(0,.op 0 0 0),(6,.sl true (ns.map yi)),(7,.v (.int .i64 (ns.length:Int))),(8,.v (.int .i64 ((0 + 1:Nat):Int)))],[(0,tyW (wrB 0 1 ([] ++ jJ x) false _)),(1,qW ([] ++ jJ x))],2⟩,by omega,?_,⟨1,by omega,rfl,.inr ⟨Nat.zero_lt_one,by rw [hnx];rfl⟩⟩⟩;refine qH [(1,1)] rfl ?gts ?ghs;(case gts=>(repeat (first|exact qt|refine qV ?_|refine yh ?_|refine jG ?_|refine yn ?_|refine jH ?_ ?_|refine j8 ?_ ?_));all_goals trace_state);(case ghs=>refine yO (q:=0) (m:=1) rfl rfl (qf rfl) (qf rfl) ?_ ?_ ?_ qg;all_goals (first|(with_reducible rfl)|(simp only [WS.num,ws0,zA,hc,Bool.false_or,Bool.true_or];done)|rfl)))
  ·generalize ns[i] = x at *
   generalize ws0.nums (ns.take i) = v at *
   obtain ⟨ws,wg,wf⟩:=v
   have hb:=yG hx
   have hi21:=Lib.itoa_length_le x hx.1 hx.2
   have hbd:ws.length + (Lib.itoa x ++ [59]).length ≤ 140737488355328:=by have:(jJ x).length = (Lib.itoa x ++ [59]).length:=rfl;simp only at hs;omega
   dsimp only at *
   cases wf
   all_goals (repeat' (first|refine qm ?_|(first|refine xsF Tryd.func53 (vE x hx.1 hx.2 ..) ?_|(apply qc Tryd.func52 rfl rfl;intro hIsFn;refine vN 0 1 hIsFn ((vF _ _ _ _ hbd)) ?_))|((first|(apply qb;rfl;rfl;exact nle rfl)|(apply qa;rfl;rfl;exact nle rfl)|refine xsC ?_ ?_);all_goals (intro hc;have hp:=hc;try simp at hp;try (exfalso;omega)))|refine jl ?_ ?_))
   all_goals try (exfalso;first|omega|(exact h0 (by assumption)))
   all_goals (refine ⟨ns.length - (i + 1),⟨[(0,.op 0 0 0),(6,.sl true (ns.map yi)),(7,.v (.int .i64 (ns.length:Int))),(8,.v (.int .i64 ((i + 1:Nat):Int)))],[(0,tyW (wrB 0 1 (ws ++ jJ x) wg _)),(1,qW (ws ++ jJ x))],2⟩,by omega,?_,⟨i + 1,by omega,rfl,.inr ⟨Nat.succ_pos _,by rw [hnx];rfl⟩⟩⟩;refine qH [(2,1)] rfl ?gts ?ghs;(case gts=>(repeat (first|exact qt|refine qV ?_|refine yh ?_|refine jG ?_|refine yn ?_|refine jH ?_ ?_|refine j8 ?_ ?_));all_goals trace_state);(case ghs=>refine yO (q:=0) (m:=2) rfl rfl (qf rfl) (qf rfl) ?_ ?_ ?_ qg;all_goals (first|(with_reducible rfl)|(simp only [WS.num,zA,hc,Bool.false_or,Bool.true_or];done)|rfl)))
 ·obtain rfl:i = ns.length:=by omega
  rw [List.take_length] at hst
  rcases hst with ⟨h1,_⟩|⟨hp,rfl⟩
  ·omega
  repeat' (first|refine qm ?_|fail|((first|(apply qb;rfl;rfl;exact nle rfl)|(apply qa;rfl;rfl;exact nle rfl)|refine xsC ?_ ?_);all_goals (intro hc;have hp:=hc;try simp at hp;try (exfalso;omega)))|refine jl ?_ ?_)
  all_goals try (exfalso;first|omega|(exact h0 (by assumption)))
  all_goals ((apply qu (rs:=[]) [(1,1)] 2;(case hr=>(repeat (first|exact qk|(apply ql;rfl)|(apply qi;rfl;rfl;rfl;rfl;rfl))));(case hL=>rfl);(case hh=>refine yO (q:=0) (m:=1) rfl rfl (qf rfl) (qf rfl) ?_ ?_ ?_ qg;all_goals (first|(with_reducible rfl)|fail));(case hi=>exact rfl);(case hz=>first|rfl|(simp [jt,AV.ren,AV.ren.renL,qQ,qj,qK];done))))
theorem Ve (w:WS) {l:List qh} {i:Nat} (h:i < l.length):w.txts (l.take (i + 1)) = (w.txts (l.take i)).txt l[i]:=by
 unfold WS.txts
 rw [List.take_succ_eq_append_getElem h,List.foldl_append]
 rfl
theorem vY (w:WS) : ∀ (l:List qh),(∀ s,s ∈ l → s.length ≤ 1000000000) → (w.txts l).s.length ≤ w.s.length + 1000000022 * l.length
 | [],_=>Nat.le_refl _
 | s :: l,h=>by
   have h1:=vY (w.txt s) l (fun m hm=>h m (by simp [hm]))
   have h0:=h s (by simp)
   have h2:=yG (n:=(s.length:Int)) ⟨by omega,by omega⟩
   have h3:(w.txt s).s.length = w.s.length + ((jJ s.length).length + s.length):=by
    show (w.s ++ (jJ s.length ++ s)).length = _
    rw [List.length_append,List.length_append]
   show ((w.txt s).txts l).s.length ≤ _
   simp only [List.length_cons]
   omega
theorem Qv (w:WS) (l:List qh) (i:Nat) (h : ∀ s,s ∈ l → s.length ≤ 1000000000) (hl:l.length ≤ 10):(w.txts (l.take i)).s.length ≤ w.s.length + 10000000220:=by
 have h1:=vY w (l.take i) (fun n hn=>h n (List.mem_of_mem_take hn))
 have h2:(l.take i).length ≤ 10:=by rw [List.length_take];omega
 omega
end Go.Proofs.YtahbbnfmbohmmaaDoor
set_option linter.unusedSimpArgs false
set_option linter.unnecessarySimpa false
set_option linter.unusedVariables false
set_option maxHeartbeats 1000000
namespace Go.Proofs.YtahbbnfmbohmmaaDoor
open Go.Ab Go.RowKit
set_option maxRecDepth 10000
attribute [local irreducible] Awp jE qX qG Red qx Go.Ab.Fin qp Rz yI qE qB ResOk je qJ jx qy
theorem vl {n:Int} (h:xN n) : ∀ m,m ∈ [n] → xN m:=fun m hm=>by simp only [List.mem_singleton] at hm;exact hm ▸ h
set_option maxHeartbeats 4000000 in
theorem Y1 (w:WS) (l:List qh) (h0:l ≠ []) (hn : ∀ s,s ∈ l → s.length ≤ 1000000000) (hl:l.length ≤ 10) (hw:w.s.length ≤ 99000000000000):qp C2.P 21 [.op 0 0 0,.sl true (l.map xU)] [tyW (wrB 0 1 w.s w.g w.f),qW w.s] (.tup []) [tyW (wrB 0 2 (w.txts l).s (w.txts l).g (w.txts l).f),.dead,qW (w.txts l).s]:=by
 have hml:(l.map xU).length = l.length:=List.length_map ..
 have hpos:0 < l.length:=by cases l with|nil=>exact absurd rfl h0|cons _ _=>simp
 refine qe (C:=C2) Tryd.func21 rfl _ Tryd.ntmps21 (Nat.le_of_ble_eq_true rfl) _ Tryd.results21 2 rfl rfl ?_
 repeat' (first|refine qm ?_|fail|((first|(apply qb;rfl;rfl;exact nle rfl)|(apply qa;rfl;rfl;exact nle rfl)|refine xsC ?_ ?_);all_goals (intro hc;have hp:=hc;try simp at hp;try (exfalso;omega)))|refine jl ?_ ?_)
 (refine Awp.red (qH (τ:=⟨[(0,.op 0 0 0),(6,.sl true (l.map xU)),(7,.v (.int .i64 (l.length:Int))),(8,.v (.int .i64 ((0:Nat):Int)))],[(0,tyW (wrB 0 1 w.s w.g w.f)),(1,qW w.s)],2⟩) [] rfl ?gts2 ?ghs2) ?_;(case gts2=>(repeat (first|exact qt|refine qV ?_|refine yh ?_|refine jG ?_|refine yn ?_|refine jH ?_ ?_|refine j8 ?_ ?_));all_goals rw [hml]);(case ghs2=>refine yO (q:=0) (m:=1) rfl rfl (qf rfl) (qf rfl) ?_ ?_ ?_ qg;all_goals (first|(with_reducible rfl)|fail)))
 refine ya (fun n σ => ∃ i:Nat,i ≤ l.length ∧ n = l.length - i ∧ ((i = 0 ∧ σ = ⟨[(0,.op 0 0 0),(6,.sl true (l.map xU)),(7,.v (.int .i64 (l.length:Int))),(8,.v (.int .i64 ((0:Nat):Int)))],[(0,tyW (wrB 0 1 w.s w.g w.f)),(1,qW w.s)],2⟩) ∨ (0 < i ∧ σ = ⟨[(0,.op 0 0 0),(6,.sl true (l.map xU)),(7,.v (.int .i64 (l.length:Int))),(8,.v (.int .i64 (i:Int)))],[(0,tyW (wrB 0 2 (w.txts (l.take i)).s (w.txts (l.take i)).g (w.txts (l.take i)).f)),(2,qW (w.txts (l.take i)).s)],3⟩))) l.length ⟨0,Nat.zero_le _,rfl,.inl ⟨rfl,rfl⟩⟩ ?_
 rintro n σ ⟨i,hi,rfl,hst⟩
 have hs:=Qv w l i hn hl
 by_cases hlt:i < l.length
 ·have hr:=vK (f:=xU) hlt
  have hx:=hn l[i] (List.getElem_mem hlt)
  have hnx:=Ve w hlt
  rcases hst with ⟨rfl,rfl⟩|⟨hp,rfl⟩
  ·generalize l[0] = x at *
   rw [show w.txts (l.take 0) = w from rfl] at hnx hs
   obtain ⟨ws,wg,wf⟩:=w
   dsimp only at *
   have hi64:xN (x.length:Int):=⟨by omega,by omega⟩
   have hb:=yG hi64
   have hbd : ∀ g f,((WS.mk ws g f).nums [(x.length:Int)]).s.length + x.length ≤ 140737488355328:=fun g f=>by
    have:((WS.mk ws g f).nums [(x.length:Int)]).s.length = ws.length + (jJ (x.length:Int)).length:=List.length_append
    omega
   have hwb:ws.length ≤ 100000000000000:=by omega
   have hgt:decide (1000 < x.length) = decide ((1000:Int) < (x.length:Int)):=by rw [decide_eq_decide];omega
   cases wg
   all_goals (repeat' (first|refine qm ?_|(first|(refine xR ?_)|(apply qc Tryd.func20 rfl rfl;intro hIsFn;refine vN 0 1 hIsFn ((xt ⟨ws,_,wf⟩ [(x.length:Int)] (by simp) (vl hi64) (by simp) hwb)) ?_)|(apply qc Tryd.func52 rfl rfl;intro hIsFn;refine vN 0 2 hIsFn ((vF _ _ _ _ (hbd _ _))) ?_))|((first|(apply qb;rfl;rfl;exact nle rfl)|(apply qa;rfl;rfl;exact nle rfl)|refine xsC ?_ ?_);all_goals (intro hc;have hp:=hc;try simp at hp;try (exfalso;omega)))|refine jl ?_ ?_))
   all_goals try (exfalso;first|omega|(exact h0 (by assumption)))
   all_goals (refine ⟨l.length - (0 + 1),⟨[(0,.op 0 0 0),(6,.sl true (l.map xU)),(7,.v (.int .i64 (l.length:Int))),(8,.v (.int .i64 ((0 + 1:Nat):Int)))],[(0,tyW (wrB 0 2 (ws ++ xM x) _ _)),(2,qW (ws ++ xM x))],3⟩,by omega,?_,⟨0 + 1,by omega,rfl,.inr ⟨Nat.succ_pos _,by rw [hnx];rfl⟩⟩⟩;refine qH [(3,2)] rfl ?gts ?ghs;(case gts=>(repeat (first|exact qt|refine qV ?_|refine yh ?_|refine jG ?_|refine yn ?_|refine jH ?_ ?_|refine j8 ?_ ?_));all_goals trace_state);(case ghs=>refine yO (q:=0) (m:=3) rfl rfl (qf rfl) (qf rfl) ?_ ?_ ?_ qg;all_goals (first|(with_reducible rfl)|(exact List.append_assoc ws (jJ (x.length:Int)) x)|(simp only [WS.txt,WS.nums,List.foldl_cons,List.foldl_nil,WS.num,hgt,hc,Bool.false_or,Bool.true_or];done)|rfl|(show _ = (Bool.or false (decide (1000 < x.length)));rw [Bool.false_or,hgt];rfl))))
  ·generalize l[i] = x at *
   generalize w.txts (l.take i) = v at *
   obtain ⟨ws,wg,wf⟩:=v
   dsimp only at *
   have hi64:xN (x.length:Int):=⟨by omega,by omega⟩
   have hb:=yG hi64
   have hbd : ∀ g f,((WS.mk ws g f).nums [(x.length:Int)]).s.length + x.length ≤ 140737488355328:=fun g f=>by
    have:((WS.mk ws g f).nums [(x.length:Int)]).s.length = ws.length + (jJ (x.length:Int)).length:=List.length_append
    omega
   have hwb:ws.length ≤ 100000000000000:=by omega
   have hgt:decide (1000 < x.length) = decide ((1000:Int) < (x.length:Int)):=by rw [decide_eq_decide];omega
   cases wg
   all_goals (repeat' (first|refine qm ?_|(first|(refine xR ?_)|(apply qc Tryd.func20 rfl rfl;intro hIsFn;refine vN 0 2 hIsFn ((xt ⟨ws,_,wf⟩ [(x.length:Int)] (by simp) (vl hi64) (by simp) hwb)) ?_)|(apply qc Tryd.func52 rfl rfl;intro hIsFn;refine vN 0 3 hIsFn ((vF _ _ _ _ (hbd _ _))) ?_))|((first|(apply qb;rfl;rfl;exact nle rfl)|(apply qa;rfl;rfl;exact nle rfl)|refine xsC ?_ ?_);all_goals (intro hc;have hp:=hc;try simp at hp;try (exfalso;omega)))|refine jl ?_ ?_))
   all_goals try (exfalso;first|omega|(exact h0 (by assumption)))
   all_goals (refine ⟨l.length - (i + 1),⟨[(0,.op 0 0 0),(6,.sl true (l.map xU)),(7,.v (.int .i64 (l.length:Int))),(8,.v (.int .i64 ((i + 1:Nat):Int)))],[(0,tyW (wrB 0 2 (ws ++ xM x) _ _)),(2,qW (ws ++ xM x))],3⟩,by omega,?_,⟨i + 1,by omega,rfl,.inr ⟨Nat.succ_pos _,by rw [hnx];rfl⟩⟩⟩;refine qH [(4,2)] rfl ?gts ?ghs;(case gts=>(repeat (first|exact qt|refine qV ?_|refine yh ?_|refine jG ?_|refine yn ?_|refine jH ?_ ?_|refine j8 ?_ ?_));all_goals trace_state);(case ghs=>refine yO (q:=0) (m:=4) rfl rfl (qf rfl) (qf rfl) ?_ ?_ ?_ qg;all_goals (first|(with_reducible rfl)|(exact List.append_assoc ws (jJ (x.length:Int)) x)|(simp only [WS.txt,WS.nums,List.foldl_cons,List.foldl_nil,WS.num,hgt,hc,Bool.false_or,Bool.true_or];done)|rfl|(show _ = (Bool.or false (decide (1000 < x.length)));rw [Bool.false_or,hgt];rfl))))
 ·obtain rfl:i = l.length:=by omega
  rw [List.take_length] at hst
  rcases hst with ⟨h1,_⟩|⟨hp,rfl⟩
  ·omega
  repeat' (first|refine qm ?_|fail|((first|(apply qb;rfl;rfl;exact nle rfl)|(apply qa;rfl;rfl;exact nle rfl)|refine xsC ?_ ?_);all_goals (intro hc;have hp:=hc;try simp at hp;try (exfalso;omega)))|refine jl ?_ ?_)
  all_goals try (exfalso;first|omega|(exact h0 (by assumption)))
  all_goals ((apply qu (rs:=[]) [(2,2)] 3;(case hr=>(repeat (first|exact qk|(apply ql;rfl)|(apply qi;rfl;rfl;rfl;rfl;rfl))));(case hL=>rfl);(case hh=>refine zZ (q:=0) (m:=2) rfl rfl (qf rfl) (qf rfl) (qf rfl) ?_ ?_ ?_ qg;all_goals (first|(with_reducible rfl)|fail));(case hi=>exact rfl);(case hz=>first|rfl|(simp [jt,AV.ren,AV.ren.renL,qQ,qj,qK];done))))
theorem kw (w:WS) (n:Int) (h:xN n):(w.nums [n]).s.length ≤ w.s.length + 22:=by
 have:=z6 w [n] (vl h)
 simpa using this
structure Chg.fit (c:Chg):Prop where
 kind:xN c.kind
 path:c.path.length ≤ 1000000000
 tto:c.to.length ≤ 1000000000
 text:c.text.length ≤ 1000000000
 base:xN c.base
theorem Y6 (w:WS) {c:Chg} (h:c.fit):(w.chg c).s.length ≤ w.s.length + 4000000000:=by
 have h1:=kw w c.kind h.kind
 have h2:=vY (w.nums [c.kind]) [c.path,c.to,c.text] (fun s hs=>by
  simp only [List.mem_cons,List.not_mem_nil,or_false] at hs
  rcases hs with rfl|rfl|rfl
  ·exact h.path
  ·exact h.tto
  ·exact h.text)
 have h3:=kw ((w.nums [c.kind]).txts [c.path,c.to,c.text]) c.base h.base
 simp only [List.length_cons,List.length_nil] at h2
 show (((w.nums [c.kind]).txts [c.path,c.to,c.text]).nums [c.base]).s.length ≤ _
 omega
set_option maxHeartbeats 2000000 in
theorem XA (w:WS) (c:Chg) (h:c.fit) (hw:w.s.length ≤ 98000000000000):qp C2.P 55 [.op 0 0 0,.agg c.row] [tyW (wrB 0 1 w.s w.g w.f),qW w.s] (.tup []) [tyW (wrB 0 2 (w.chg c).s (w.chg c).g (w.chg c).f),.dead,qW (w.chg c).s]:=by
 have ht : ∀ s,s ∈ [c.path,c.to,c.text] → s.length ≤ 1000000000:=fun s hs=>by
  simp only [List.mem_cons,List.not_mem_nil,or_false] at hs
  rcases hs with rfl|rfl|rfl
  ·exact h.path
  ·exact h.tto
  ·exact h.text
 have b1:=kw w c.kind h.kind
 have b2:=vY (w.nums [c.kind]) [c.path,c.to,c.text] ht
 simp only [List.length_cons,List.length_nil] at b2
 have c1:=xt w [c.kind] (by simp) (vl h.kind) (by simp) (by omega)
 have c2:=Y1 (w.nums [c.kind]) [c.path,c.to,c.text] (by simp) ht (by simp) (by omega)
 have c3:=xt ((w.nums [c.kind]).txts [c.path,c.to,c.text]) [c.base] (by simp) (vl h.base) (by simp) (by omega)
 have hE:w.chg c = ((w.nums [c.kind]).txts [c.path,c.to,c.text]).nums [c.base]:=rfl
 rw [hE]
 clear hE b1 b2 ht h hw
 unfold Chg.row
 generalize ((w.nums [c.kind]).txts [c.path,c.to,c.text]).nums [c.base] = w3 at *
 generalize (w.nums [c.kind]).txts [c.path,c.to,c.text] = w2 at *
 generalize w.nums [c.kind] = w1 at *
 refine qe (C:=C2) Tryd.func55 rfl _ Tryd.ntmps55 (Nat.le_of_ble_eq_true rfl) _ Tryd.results55 2 rfl rfl ?_
 repeat' (first|refine qm ?_|(first|(refine xR ?_)|(apply qc Tryd.func20 rfl rfl;intro hIsFn;refine vN 0 1 hIsFn (c1) ?_)|(apply qc Tryd.func21 rfl rfl;intro hIsFn;refine vN 0 3 hIsFn (c2) ?_)|(apply qc Tryd.func20 rfl rfl;intro hIsFn;refine vN 0 4 hIsFn (c3) ?_))|((first|(apply qb;rfl;rfl;exact nle rfl)|(apply qa;rfl;rfl;exact nle rfl)|refine xsC ?_ ?_);all_goals (intro hc;have hp:=hc;try simp at hp;try (exfalso;omega)))|refine jl ?_ ?_)
 all_goals ((apply qu (rs:=[]) [(5,2)] 3;(case hr=>(repeat (first|exact qk|(apply ql;rfl)|(apply qi;rfl;rfl;rfl;rfl;rfl))));(case hL=>rfl);(case hh=>refine zZ (q:=0) (m:=5) rfl rfl (qf rfl) (qf rfl) (qf rfl) ?_ ?_ ?_ qg;all_goals (first|(with_reducible rfl)|rfl));(case hi=>exact rfl);(case hz=>first|rfl|(simp [jt,AV.ren,AV.ren.renL,qQ,qj,qK];done))))
end Go.Proofs.YtahbbnfmbohmmaaDoor
set_option linter.unusedSimpArgs false
set_option linter.unnecessarySimpa false
set_option linter.unusedVariables false
set_option maxHeartbeats 1000000
namespace Go.Proofs.YtahbbnfmbohmmaaDoor
open Go.Ab Go.RowKit
set_option maxRecDepth 10000
attribute [local irreducible] Awp jE qX qG Red qx Go.Ab.Fin qp Rz yI qE qB ResOk je qJ jx qy
theorem XQ {α:Type} (step:WS → α → WS) (w:WS) {l:List α} {i:Nat} (h:i < l.length):(l.take (i + 1)).foldl step w = step ((l.take i).foldl step w) l[i]:=by
 rw [List.take_succ_eq_append_getElem h,List.foldl_append]
 rfl
theorem wE {α:Type} (step:WS → α → WS) (fit:α → Prop) (K:Nat) (hs : ∀ w x,fit x → (step w x).s.length ≤ w.s.length + K) : ∀ (l:List α) (w:WS),(∀ x,x ∈ l → fit x) → (l.foldl step w).s.length ≤ w.s.length + l.length * K
 | [],w,_=>by simp
 | x :: l,w,h=>by
   have h1:=wE step fit K hs l (step w x) (fun y hy=>h y (by simp [hy]))
   have h2:=hs w x (h x (by simp))
   rw [List.foldl_cons,List.length_cons,Nat.add_mul]
   omega
theorem Ju (w:WS) (l:List Chg) (hl:l.length ≤ 1000000000) (hg:(w.g || decide (20 < l.length)) = true):qp C2.P 54 [.op 0 0 0,jz l,.v (.int .i64 20),.clo (.func 55) [.op 0 0 0] []] [tyW (wrB 0 1 w.s w.g w.f),qW w.s] (.tup []) [tyW (wrB 0 1 w.s true w.f),qW w.s]:=by
 have hml:(l.map Chg.row).length = l.length:=List.length_map ..
 obtain ⟨ws,wg,wf⟩:=w
 dsimp only at *
 cases wg
 all_goals unfold jz
 all_goals (refine qe (C:=C2) Tryd.func54 rfl _ Tryd.ntmps54 (Nat.le_of_ble_eq_true rfl) _ Tryd.results54 2 rfl rfl ?_)
 all_goals (repeat' (first|refine qm ?_|fail|((first|(apply qb;rfl;rfl;exact nle rfl)|(apply qa;rfl;rfl;exact nle rfl)|refine xsC ?_ ?_);all_goals (intro hc;have hp:=hc;try simp at hp;try (exfalso;omega)))|refine jl ?_ ?_))
 all_goals try (exfalso;simp only [Bool.false_or,Bool.true_or,decide_eq_true_eq,hml] at hg;first|omega|(simp at hc;omega);done)
 all_goals ((apply qu (rs:=[]) [] 2;(case hr=>(repeat (first|exact qk|(apply ql;rfl)|(apply qi;rfl;rfl;rfl;rfl;rfl))));(case hL=>rfl);(case hh=>refine yO (q:=0) (m:=1) rfl rfl (qf rfl) (qf rfl) ?_ ?_ ?_ qg;all_goals (first|(with_reducible rfl)|rfl|exact hc));(case hi=>exact rfl);(case hz=>first|rfl|(simp [jt,AV.ren,AV.ren.renL,qQ,qj,qK];done))))
set_option maxHeartbeats 4000000 in
theorem Ye (w:WS) (l:List Chg) (hfit : ∀ c,c ∈ l → c.fit) (hg:w.g = false) (hl:l.length ≤ 20) (hw:w.s.length ≤ 97000000000000):qp C2.P 54 [.op 0 0 0,jz l,.v (.int .i64 20),.clo (.func 55) [.op 0 0 0] []] [tyW (wrB 0 1 w.s w.g w.f),qW w.s] (.tup []) [tyW (wrB 0 2 (l.foldl WS.chg (w.num l.length)).s (l.foldl WS.chg (w.num l.length)).g (l.foldl WS.chg (w.num l.length)).f),.dead,qW (l.foldl WS.chg (w.num l.length)).s]:=by
 have hml:(l.map Chg.row).length = l.length:=List.length_map ..
 have hi64:xN (l.length:Int):=⟨by omega,by omega⟩
 have hn1:=kw w l.length hi64
 have hlen : ∀ i,i ≤ l.length → ((l.take i).foldl WS.chg (w.num l.length)).s.length ≤ 97500000000000:=fun i hi=>by
  have h1:=wE WS.chg Chg.fit 4000000000 (fun w x hx=>Y6 w hx) (l.take i) (w.num l.length) (fun x hx=>hfit x (List.mem_of_mem_take hx))
  have h2:(l.take i).length ≤ 20:=by rw [List.length_take];omega
  have h3:(w.num l.length).s.length ≤ w.s.length + 22:=hn1
  have h4:(l.take i).length * 4000000000 ≤ 20 * 4000000000:=Nat.mul_le_mul_right _ h2
  omega
 obtain ⟨ws,wg,wf⟩:=w
 dsimp only at hg hw
 subst hg
 have hnum:=fun g=>xt ⟨ws,g,wf⟩ [((l.map Chg.row).length:Int)] (by simp) (vl (by rw [hml];exact hi64)) (by simp) (by dsimp only;omega)
 refine qe (C:=C2) Tryd.func54 rfl _ Tryd.ntmps54 (Nat.le_of_ble_eq_true rfl) _ Tryd.results54 2 rfl rfl ?_
 repeat' (first|refine qm ?_|(first|(refine xR ?_)|(apply qc Tryd.func20 rfl rfl;intro hIsFn;refine vN 0 1 hIsFn ((hnum (decide ((20:Int) < ((l.map Chg.row).length:Int))))) ?_))|((first|(apply qb;rfl;rfl;exact nle rfl)|(apply qa;rfl;rfl;exact nle rfl)|refine xsC ?_ ?_);all_goals (intro hc;have hp:=hc;try simp at hp;try (exfalso;omega)))|refine jl ?_ ?_)
 all_goals try (exfalso;simp at *;omega)
 (refine Awp.red (qH (τ:=⟨[(32,jz l),(33,.v (.int .i64 (l.length:Int))),(34,.v (.int .i64 ((0:Nat):Int))),(3,.clo (.func 55) [.op 0 0 0] [])],[(0,tyW (wrB 0 2 ((WS.mk ws false wf).num l.length).s ((WS.mk ws false wf).num l.length).g ((WS.mk ws false wf).num l.length).f)),(2,qW ((WS.mk ws false wf).num l.length).s)],3⟩) [(2,2)] rfl ?gts2 ?ghs2) ?_;(case gts2=>(repeat (first|exact qt|refine qV ?_|refine yh ?_|refine jG ?_|refine yn ?_|refine jH ?_ ?_|refine j8 ?_ ?_));all_goals first|(rw [hml];done)|exact vO qt (qf rfl));(case ghs2=>refine yO (q:=0) (m:=2) rfl rfl (qf rfl) (qf rfl) ?_ ?_ ?_ qg;all_goals (first|(with_reducible rfl)|(rw [hml];rfl)|exact hc)))
 refine ya (fun n σ => ∃ i:Nat,i ≤ l.length ∧ n = l.length - i ∧ σ = ⟨[(32,jz l),(33,.v (.int .i64 (l.length:Int))),(34,.v (.int .i64 (i:Int))),(3,.clo (.func 55) [.op 0 0 0] [])],[(0,tyW (wrB 0 2 ((l.take i).foldl WS.chg ((WS.mk ws false wf).num l.length)).s ((l.take i).foldl WS.chg ((WS.mk ws false wf).num l.length)).g ((l.take i).foldl WS.chg ((WS.mk ws false wf).num l.length)).f)),(2,qW ((l.take i).foldl WS.chg ((WS.mk ws false wf).num l.length)).s)],3⟩) l.length ⟨0,Nat.zero_le _,rfl,rfl⟩ ?_
 rintro n σ ⟨i,hi,rfl,rfl⟩
 have hs:=hlen i hi
 by_cases hlt:i < l.length
 ·have hr:=vK (f:=Chg.row) hlt
  have hx:=hfit l[i] (List.getElem_mem hlt)
  have hnx:=XQ WS.chg ((WS.mk ws false wf).num l.length) hlt
  clear hlen hnum
  generalize (l.take i).foldl WS.chg ((WS.mk ws false wf).num l.length) = v at *
  generalize l[i] = x at *
  have hch:=XA v x hx (by omega)
  repeat' (first|refine qm ?_|(first|(refine Wc (first:=[.op 0 0 0]) (cap:=[]) 0 2 Tryd.func55 (hch) ?_))|((first|(apply qb;rfl;rfl;exact nle rfl)|(apply qa;rfl;rfl;exact nle rfl)|refine xsC ?_ ?_);all_goals (intro hc;have hp:=hc;try simp at hp;try (exfalso;omega)))|refine jl ?_ ?_)
  all_goals try (exfalso;omega)
  all_goals (refine ⟨l.length - (i + 1),⟨[(32,jz l),(33,.v (.int .i64 (l.length:Int))),(34,.v (.int .i64 ((i + 1:Nat):Int))),(3,.clo (.func 55) [.op 0 0 0] [])],[(0,tyW (wrB 0 2 (v.chg x).s (v.chg x).g (v.chg x).f)),(2,qW (v.chg x).s)],3⟩,by omega,?_,⟨i + 1,by omega,rfl,by rw [hnx]⟩⟩;refine qH [(4,2)] rfl ?gts ?ghs;(case gts=>(repeat (first|exact qt|refine qV ?_|refine yh ?_|refine jG ?_|refine yn ?_|refine jH ?_ ?_|refine j8 ?_ ?_));all_goals exact vO qt (qf rfl));(case ghs=>refine yO (q:=0) (m:=4) rfl rfl (qf rfl) (qf rfl) ?_ ?_ ?_ qg;all_goals (first|(with_reducible rfl)|rfl)))
 ·obtain rfl:i = l.length:=by omega
  rw [List.take_length]
  clear hlen hnum
  repeat' (first|refine qm ?_|fail|((first|(apply qb;rfl;rfl;exact nle rfl)|(apply qa;rfl;rfl;exact nle rfl)|refine xsC ?_ ?_);all_goals (intro hc;have hp:=hc;try simp at hp;try (exfalso;omega)))|refine jl ?_ ?_)
  all_goals try (exfalso;omega)
  all_goals ((apply qu (rs:=[]) [(2,2)] 3;(case hr=>(repeat (first|exact qk|(apply ql;rfl)|(apply qi;rfl;rfl;rfl;rfl;rfl))));(case hL=>rfl);(case hh=>refine zZ (q:=0) (m:=2) rfl rfl (qf rfl) (qf rfl) (qf rfl) ?_ ?_ ?_ qg;all_goals (first|(with_reducible rfl)|rfl));(case hi=>exact rfl);(case hz=>first|rfl|(simp [jt,AV.ren,AV.ren.renL,qQ,qj,qK];done))))
end Go.Proofs.YtahbbnfmbohmmaaDoor
set_option linter.unusedSimpArgs false
set_option linter.unnecessarySimpa false
set_option linter.unusedVariables false
set_option maxHeartbeats 1000000
namespace Go.Proofs.YtahbbnfmbohmmaaDoor
open Go.Ab Go.RowKit
set_option maxRecDepth 10000
attribute [local irreducible] Awp jE qX qG Red qx Go.Ab.Fin qp Rz yI qE qB ResOk je qJ jx qy
theorem ZT {α:Type} {w:WS} {l:List α} {most:Nat} {step:WS → α → WS} (h:(w.g || decide (most < l.length)) = true):w.lst l most step = ⟨w.s,true,w.f⟩:=by unfold WS.lst;rw [if_pos h]
theorem VW {α:Type} {w:WS} {l:List α} {most:Nat} {step:WS → α → WS} (h:(w.g || decide (most < l.length)) = false):w.lst l most step = l.foldl step (w.num l.length) ∧ w.g = false ∧ l.length ≤ most:=by
 unfold WS.lst
 rw [h,if_neg (by decide)]
 simp only [Bool.or_eq_false_iff,decide_eq_false_iff_not] at h
 exact ⟨rfl,h.1,by omega⟩
theorem wa (w:WS) (l:List Chg) (hl:l.length ≤ 1000000000) (hg:(w.g || decide (20 < l.length)) = true):qp C2.P 22 [.op 0 0 0,jz l] [tyW (wrB 0 1 w.s w.g w.f),qW w.s] (.tup []) [tyW (wrB 0 1 w.s true w.f),qW w.s]:=by
 have hc:=Ju w l hl hg
 refine qe (C:=C2) Tryd.func22 rfl _ Tryd.ntmps22 (Nat.le_of_ble_eq_true rfl) _ Tryd.results22 2 rfl rfl ?_
 repeat' (first|refine qm ?_|(first|(apply qc Tryd.func54 rfl rfl;intro hIsFn;refine Kk 0 1 hIsFn hc ?_))|((first|(apply qb;rfl;rfl;exact nle rfl)|(apply qa;rfl;rfl;exact nle rfl)|refine xsC ?_ ?_);all_goals (intro hc;have hp:=hc;try simp at hp;try (exfalso;omega)))|refine jl ?_ ?_)
 all_goals ((apply qu (rs:=[]) [] 2;(case hr=>(repeat (first|exact qk|(apply ql;rfl)|(apply qi;rfl;rfl;rfl;rfl;rfl))));(case hL=>rfl);(case hh=>refine yO (q:=0) (m:=1) rfl rfl (qf rfl) (qf rfl) ?_ ?_ ?_ qg;all_goals (first|(with_reducible rfl)|rfl));(case hi=>exact rfl);(case hz=>first|rfl|(simp [jt,AV.ren,AV.ren.renL,qQ,qj,qK];done))))
theorem Ql (w:WS) (l:List Chg) (hfit : ∀ c,c ∈ l → c.fit) (hg:(w.g || decide (20 < l.length)) = false) (hw:w.s.length ≤ 97000000000000):qp C2.P 22 [.op 0 0 0,jz l] [tyW (wrB 0 1 w.s w.g w.f),qW w.s] (.tup []) [tyW (wrB 0 2 (w.chgs l).s (w.chgs l).g (w.chgs l).f),.dead,qW (w.chgs l).s]:=by
 obtain ⟨e,h1,h2⟩:=VW (step:=WS.chg) hg
 have hc:=Ye w l hfit h1 h2 hw
 rw [show w.chgs l = _ from e]
 generalize l.foldl WS.chg (w.num l.length) = v at *
 refine qe (C:=C2) Tryd.func22 rfl _ Tryd.ntmps22 (Nat.le_of_ble_eq_true rfl) _ Tryd.results22 2 rfl rfl ?_
 repeat' (first|refine qm ?_|(first|(apply qc Tryd.func54 rfl rfl;intro hIsFn;refine vN 0 1 hIsFn (hc) ?_))|((first|(apply qb;rfl;rfl;exact nle rfl)|(apply qa;rfl;rfl;exact nle rfl)|refine xsC ?_ ?_);all_goals (intro hc;have hp:=hc;try simp at hp;try (exfalso;omega)))|refine jl ?_ ?_)
 all_goals ((apply qu (rs:=[]) [(2,2)] 3;(case hr=>(repeat (first|exact qk|(apply ql;rfl)|(apply qi;rfl;rfl;rfl;rfl;rfl))));(case hL=>rfl);(case hh=>refine zZ (q:=0) (m:=2) rfl rfl (qf rfl) (qf rfl) (qf rfl) ?_ ?_ ?_ qg;all_goals (first|(with_reducible rfl)|rfl));(case hi=>exact rfl);(case hz=>first|rfl|(simp [jt,AV.ren,AV.ren.renL,qQ,qj,qK];done))))
theorem Y0 (w:WS) (h0:w.s ≠ []) (hl:w.s.length ≤ 100000000000000):qp C2.P 23 [.op 0 0 0] [tyW (wrB 0 1 w.s w.g w.f),qW w.s] (.tup [.v (str w.done.1),.v (.int .i64 w.done.2)]) [.dead,.dead]:=by
 obtain ⟨ws,wg,wf⟩:=w
 dsimp only at *
 have hc:=fun g f=>Vl ws g f h0 (by omega)
 unfold WS.done
 cases wg<;>cases wf
 all_goals (refine qe (C:=C2) Tryd.func23 rfl _ Tryd.ntmps23 (Nat.le_of_ble_eq_true rfl) _ Tryd.results23 2 rfl rfl ?_)
 all_goals (repeat' (first|refine qm ?_|(first|(apply qc Tryd.func56 rfl rfl;intro hIsFn;refine Wb 0 1 hIsFn ((hc _ _)) ?_))|((first|(apply qb;rfl;rfl;exact nle rfl)|(apply qa;rfl;rfl;exact nle rfl)|refine xsC ?_ ?_);all_goals (intro hc;have hp:=hc;try simp at hp;try (exfalso;omega)))|refine jl ?_ ?_))
 all_goals ((apply qu (rs:=[.tmp 2,.tmp 3]) [] 2;(case hr=>(repeat (first|exact qk|(apply ql;rfl)|(apply qi;rfl;rfl;rfl;rfl;rfl))));(case hL=>rfl);(case hh=>exact vR (vR qg (qf rfl)) (qf rfl));(case hi=>exact rfl);(case hz=>first|rfl|(simp [jt,AV.ren,AV.ren.renL,qQ,qj,qK];done))))
end Go.Proofs.YtahbbnfmbohmmaaDoor
set_option linter.unusedSimpArgs false
set_option linter.unnecessarySimpa false
set_option linter.unusedVariables false
set_option maxHeartbeats 1000000
namespace Go.Proofs.YtahbbnfmbohmmaaDoor
open Go.Ab Go.RowKit
set_option maxRecDepth 10000
attribute [local irreducible] Awp jE qX qG Red qx Go.Ab.Fin qp Rz yI qE qB ResOk je qJ jx qy
structure Rqt.fit (r:Rqt):Prop where
 kind:xN r.kind
 who:r.who.length ≤ 1000000000
 folder:r.folder.length ≤ 1000000000
 name:r.name.length ≤ 1000000000
 key:r.key.length ≤ 1000000000
 text:r.text.length ≤ 1000000000
 number:xN r.number
 offset:xN r.offset
 base:xN r.base
 chs : ∀ c,c ∈ r.chs → c.fit
 len:r.chs.length ≤ 1000000000
def Qt (r:Rqt):WS:=ws0.nums [r.kind]
def Qu (r:Rqt):WS:=(Qt r).txts [r.who,r.folder,r.name,r.key,r.text]
def xI (r:Rqt):WS:=(Qu r).nums [r.number,r.offset,r.base]
theorem Xi (w:WS) {ns:List Int} (h:ns ≠ []):(w.nums ns).s ≠ []:=by
 have : ∀ (ns:List Int) (w:WS),w.s ≠ [] ∨ ns ≠ [] → (w.nums ns).s ≠ []:=by
  intro ns
  induction ns with
  | nil =>
    intro w h
    rcases h with h|h
    ·exact h
    ·exact absurd rfl h
  | cons n ns ih=>intro w h;exact ih (w.num n) (.inl (by show w.s ++ (Lib.itoa n ++ [59]) ≠ [];simp))
 exact this ns w (.inr h)
theorem X9 (r:Rqt) (h:r.fit):(∀ s,s ∈ [r.who,r.folder,r.name,r.key,r.text] → s.length ≤ 1000000000) ∧ (∀ n,n ∈ [r.number,r.offset,r.base] → xN n) ∧ (Qt r).s.length ≤ 22 ∧ (Qu r).s.length ≤ 6000000000 ∧ (xI r).s.length ≤ 7000000000 ∧ (xI r).s ≠ []:=by
 have q1 : ∀ s,s ∈ [r.who,r.folder,r.name,r.key,r.text] → s.length ≤ 1000000000:=fun s hs=>by
  simp only [List.mem_cons,List.not_mem_nil,or_false] at hs
  rcases hs with rfl|rfl|rfl|rfl|rfl
  ·exact h.who
  ·exact h.folder
  ·exact h.name
  ·exact h.key
  ·exact h.text
 have q2 : ∀ n,n ∈ [r.number,r.offset,r.base] → xN n:=fun s hs=>by
  simp only [List.mem_cons,List.not_mem_nil,or_false] at hs
  rcases hs with rfl|rfl|rfl
  ·exact h.number
  ·exact h.offset
  ·exact h.base
 have b1:(Qt r).s.length ≤ 22:=by
  have:=kw ws0 r.kind h.kind
  have e:ws0.s.length = 0:=rfl
  show (ws0.nums [r.kind]).s.length ≤ 22
  omega
 have b2:(Qu r).s.length ≤ 6000000000:=by
  have:=vY (Qt r) _ q1
  simp only [List.length_cons,List.length_nil] at this
  show ((Qt r).txts _).s.length ≤ _
  omega
 have b3:(xI r).s.length ≤ 7000000000:=by
  have:=z6 (Qu r) _ q2
  simp only [List.length_cons,List.length_nil] at this
  show ((Qu r).nums _).s.length ≤ _
  omega
 exact ⟨q1,q2,b1,b2,b3,Xi _ (by simp)⟩
set_option maxHeartbeats 2000000 in
theorem Vj (r:Rqt) (h:r.fit):kg C.P 8 [.agg r.row] (.tup [.v (str (vv r).1),.v (.int .i64 (vv r).2)]):=by
 obtain ⟨q1,q2,b1,b2,b3,b4⟩:=X9 r h
 have c1:=Yf [r.kind] (by simp) (vl h.kind) (by simp)
 have c2:=Y1 (Qt r) [r.who,r.folder,r.name,r.key,r.text] (by simp) q1 (by simp) (by omega)
 have c3:=xt (Qu r) [r.number,r.offset,r.base] (by simp) q2 (by simp) (by omega)
 have e1:ws0.nums [r.kind] = Qt r:=rfl
 have e2:(Qt r).txts [r.who,r.folder,r.name,r.key,r.text] = Qu r:=rfl
 have e3:(Qu r).nums [r.number,r.offset,r.base] = xI r:=rfl
 have e4:vv r = ((xI r).chgs r.chs).done:=rfl
 rw [e1] at c1
 rw [e2] at c2
 rw [e3] at c3
 rw [e4]
 cases hg:((xI r).g || decide (20 < r.chs.length)) with
 | true =>
   have c4:=wa (xI r) r.chs h.len hg
   have c5:=Y0 ⟨(xI r).s,true,(xI r).f⟩ b4 (by dsimp only;omega)
   rw [show (xI r).chgs r.chs = _ from ZT hg]
   clear e1 e2 e3 e4 q1 q2 h hg
   generalize Qt r = wA at *
   generalize Qu r = wB at *
   generalize xI r = wC at *
   generalize (WS.mk wC.s true wC.f).done = D at *
   unfold Rqt.row
   refine qe Tryd.func8 rfl _ Tryd.ntmps8 (Nat.le_of_ble_eq_true rfl) _ Tryd.results8 0 rfl rfl ?_
   repeat' (first|(first|(apply yX;apply (ww 53);rfl;rfl;exact nle rfl)|(refine xR ?_)|(apply qc Tryd.func20 rfl rfl;intro hIsFn;refine V2 1 hIsFn (c1) ?_)|(apply qc Tryd.func21 rfl rfl;intro hIsFn;refine vN 1 2 hIsFn (c2) ?_)|(apply qc Tryd.func20 rfl rfl;intro hIsFn;refine vN 1 3 hIsFn (c3) ?_)|(apply qc Tryd.func22 rfl rfl;intro hIsFn;refine Kk 1 4 hIsFn (c4) ?_)|(apply qc Tryd.func23 rfl rfl;intro hIsFn;refine Kl 1 4 hIsFn (c5) ?_))|refine qm ?_|((first|refine xsC ?_ ?_);all_goals (intro hc;have hp:=hc;try simp at hp;try (exfalso;omega)))|refine jl ?_ ?_)
   all_goals ((refine yb (rs:=[.tmp 2,.tmp 3]) ?_;(repeat' (first|exact jB|apply jm|exact jb rfl|exact yr|exact vB|apply jU|apply j7|apply jV|apply j5|apply jM|apply j6|refine vA ?_|apply yJ));all_goals rfl))
 | false =>
   have c4:=Ql (xI r) r.chs h.chs hg (by omega)
   obtain ⟨ee,_,hl20⟩:=VW (step:=WS.chg) hg
   have b5:((xI r).chgs r.chs).s.length ≤ 100000000000000:=by
    have h1:=wE WS.chg Chg.fit 4000000000 (fun w x hx=>Y6 w hx) r.chs ((xI r).num r.chs.length) h.chs
    have h2:((xI r).num r.chs.length).s.length ≤ (xI r).s.length + 22:=kw _ _ ⟨by omega,by omega⟩
    have h3:r.chs.length * 4000000000 ≤ 20 * 4000000000:=Nat.mul_le_mul_right _ hl20
    rw [show (xI r).chgs r.chs = _ from ee]
    omega
   have b6:((xI r).chgs r.chs).s ≠ []:=by
    rw [show (xI r).chgs r.chs = _ from ee]
    have : ∀ (l:List Chg) (w:WS),w.s ≠ [] → (l.foldl WS.chg w).s ≠ []:=by
     intro l
     induction l with
     | nil=>exact fun w h=>h
     | cons c l ih=>exact fun w h=>ih _ (Xi _ (by simp))
    exact this _ _ (by show (xI r).s ++ _ ≠ [];simp [b4])
   have c5:=Y0 ((xI r).chgs r.chs) b6 b5
   clear e1 e2 e3 e4 q1 q2 h hg ee
   generalize (xI r).chgs r.chs = wD at *
   generalize Qt r = wA at *
   generalize Qu r = wB at *
   generalize xI r = wC at *
   generalize wD.done = D at *
   unfold Rqt.row
   refine qe Tryd.func8 rfl _ Tryd.ntmps8 (Nat.le_of_ble_eq_true rfl) _ Tryd.results8 0 rfl rfl ?_
   repeat' (first|(first|(apply yX;apply (ww 53);rfl;rfl;exact nle rfl)|(refine xR ?_)|(apply qc Tryd.func20 rfl rfl;intro hIsFn;refine V2 1 hIsFn (c1) ?_)|(apply qc Tryd.func21 rfl rfl;intro hIsFn;refine vN 1 2 hIsFn (c2) ?_)|(apply qc Tryd.func20 rfl rfl;intro hIsFn;refine vN 1 3 hIsFn (c3) ?_)|(apply qc Tryd.func22 rfl rfl;intro hIsFn;refine vN 1 4 hIsFn (c4) ?_)|(apply qc Tryd.func23 rfl rfl;intro hIsFn;refine Kl 1 5 hIsFn (c5) ?_))|refine qm ?_|((first|refine xsC ?_ ?_);all_goals (intro hc;have hp:=hc;try simp at hp;try (exfalso;omega)))|refine jl ?_ ?_)
   all_goals ((refine yb (rs:=[.tmp 2,.tmp 3]) ?_;(repeat' (first|exact jB|apply jm|exact jb rfl|exact yr|exact vB|apply jU|apply j7|apply jV|apply j5|apply jM|apply j6|refine vA ?_|apply yJ));all_goals rfl))
end Go.Proofs.YtahbbnfmbohmmaaDoor
