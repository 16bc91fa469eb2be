import Derived.Test.YtahbbnfmbohmmaaDoorMz14
import Derived.Test.YtahbbnfmbohmmaaDoorMz19
import Derived.Lib.ItoaLen
import Derived.Test.YtahbbnfmbohmmaaDoorMz8
set_option linter.unusedSimpArgs false
set_option linter.unnecessarySimpa false
set_option linter.unusedVariables false
set_option maxHeartbeats 1000000
namespace Go.Proofs.YtahbbnfmbohmmaaDoor
open Go.Ab Go.RowKit
set_option maxRecDepth 10000
attribute [local irreducible] Awp jW jq jB Red qv Go.Ab.Fin qu Rz vn jv jm ResOk jA ji yk qP
def j4 (n:Int):List AV:=[.v (.int .i64 n)]
def x9 (s:qj):List AV:=[.v (str s)]
theorem yp {n:Int} (h:xi n):(jz n).length ≤ 22:=by
 have:=Lib.itoa_length_le n h.1 h.2
 simp [jz]
 omega
theorem kR (w:WS) {ns:List Int} {i:Nat} (h:i < ns.length):w.nums (ns.take (i + 1)) = (w.nums (ns.take i)).num ns[i]:=by
 unfold WS.nums
 rw [List.take_succ_eq_append_getElem h,List.foldl_append]
 rfl
theorem vU (w:WS) : ∀ (ns:List Int),(∀ n,n ∈ ns → xi n) → (w.nums ns).s.length ≤ w.s.length + 22 * ns.length
 | [],_=>Nat.le_refl _
 | n :: ns,h=>by
   have h1:=vU (w.num n) ns (fun m hm=>h m (by simp [hm]))
   have h2:=yp (h n (by simp))
   have h3:(w.num n).s.length = w.s.length + (jz n).length:=List.length_append
   show ((w.num n).nums ns).s.length ≤ _
   simp only [List.length_cons]
   omega
theorem vr (w:WS) (ns:List Int) (i:Nat) (h : ∀ n,n ∈ ns → xi n) (hl:ns.length ≤ 10):(w.nums (ns.take i)).s.length ≤ w.s.length + 220:=by
 have h1:=vU w (ns.take i) (fun n hn=>h n (List.mem_of_mem_take hn))
 have h2:(ns.take i).length ≤ 10:=by rw [List.length_take];omega
 omega
set_option maxHeartbeats 4000000 in
theorem yO (w:WS) (ns:List Int) (h0:ns ≠ []) (hn : ∀ n,n ∈ ns → xi n) (hl:ns.length ≤ 10) (hw:w.s.length ≤ 100000000000000):qu C2.P 20 [.op 0 0 0,.sl true (ns.map j4)] [tyW (wrB 0 1 w.s w.g w.f),qK w.s] (.tup []) [tyW (wrB 0 2 (w.nums ns).s (w.nums ns).g (w.nums ns).f),.dead,qK (w.nums ns).s]:=by
 have hml:(ns.map j4).length = ns.length:=List.length_map ..
 have hpos:0 < ns.length:=by cases ns with|nil=>exact absurd rfl h0|cons _ _=>simp
 refine qe (C:=C2) Tryd.func20 rfl _ Tryd.ntmps20 (Nat.le_of_ble_eq_true rfl) _ Tryd.results20 2 rfl rfl ?_
 repeat' (first|refine qn ?_|fail|((first|(apply qb;rfl;rfl;exact nle rfl)|(apply qa;rfl;rfl;exact nle rfl)|refine xsC ?_ ?_);all_goals (intro hc;have hp:=hc;try simp at hp;try (exfalso;omega)))|refine jn ?_ ?_)
 (refine Awp.red (jb (τ:=⟨[(0,.op 0 0 0),(6,.sl true (ns.map j4)),(7,.v (.int .i64 (ns.length:Int))),(8,.v (.int .i64 ((0:Nat):Int)))],[(0,tyW (wrB 0 1 w.s w.g w.f)),(1,qK w.s)],2⟩) [] rfl ?gts2 ?ghs2) ?_;(case gts2=>(repeat (first|exact qy|refine jt ?_|refine y6 ?_|refine yf ?_|refine xm ?_|refine yg ?_ ?_|refine y5 ?_ ?_));all_goals rw [hml]);(case ghs2=>refine yw (q:=0) (m:=1) rfl rfl (qf rfl) (qf rfl) ?_ ?_ ?_ qi;all_goals (first|(with_reducible rfl)|fail)))
 refine yA (fun n σ => ∃ i:Nat,i ≤ ns.length ∧ n = ns.length - i ∧ ((i = 0 ∧ σ = ⟨[(0,.op 0 0 0),(6,.sl true (ns.map j4)),(7,.v (.int .i64 (ns.length:Int))),(8,.v (.int .i64 ((0:Nat):Int)))],[(0,tyW (wrB 0 1 w.s w.g w.f)),(1,qK w.s)],2⟩) ∨ (0 < i ∧ σ = ⟨[(0,.op 0 0 0),(6,.sl true (ns.map j4)),(7,.v (.int .i64 (ns.length:Int))),(8,.v (.int .i64 (i:Int)))],[(0,tyW (wrB 0 2 (w.nums (ns.take i)).s (w.nums (ns.take i)).g (w.nums (ns.take i)).f)),(2,qK (w.nums (ns.take i)).s)],3⟩))) ns.length ⟨0,Nat.zero_le _,rfl,.inl ⟨rfl,rfl⟩⟩ ?_
 rintro n σ ⟨i,hi,rfl,hst⟩
 have hs:=vr w ns i hn hl
 by_cases hlt:i < ns.length
 ·have hr:=zg (f:=j4) hlt
  have hx:=hn ns[i] (List.getElem_mem hlt)
  have hnx:=kR w hlt
  rcases hst with ⟨rfl,rfl⟩|⟨hp,rfl⟩
  ·generalize ns[0] = x at *
   rw [show w.nums (ns.take 0) = w from rfl] at hnx
   obtain ⟨ws,wg,wf⟩:=w
   have hb:=yp hx
   have hi21:=Lib.itoa_length_le x hx.1 hx.2
   have hbd:ws.length + (Lib.itoa x ++ [59]).length ≤ 140737488355328:=by have:(jz x).length = (Lib.itoa x ++ [59]).length:=rfl;simp only at hw;omega
   dsimp only at *
   cases wf
   all_goals (repeat' (first|refine qn ?_|(first|refine xsF Tryd.func53 (xO x hx.1 hx.2 ..) ?_|(apply qc Tryd.func52 rfl rfl;intro hIsFn;refine xV 0 1 hIsFn ((xP _ _ _ _ hbd)) ?_))|((first|(apply qb;rfl;rfl;exact nle rfl)|(apply qa;rfl;rfl;exact nle rfl)|refine xsC ?_ ?_);all_goals (intro hc;have hp:=hc;try simp at hp;try (exfalso;omega)))|refine jn ?_ ?_))
   all_goals try (exfalso;first|omega|(exact h0 (by assumption)))
   all_goals (refine ⟨ns.length - (0 + 1),⟨[(0,.op 0 0 0),(6,.sl true (ns.map j4)),(7,.v (.int .i64 (ns.length:Int))),(8,.v (.int .i64 ((0 + 1:Nat):Int)))],[(0,tyW (wrB 0 2 (ws ++ jz x) wg _)),(2,qK (ws ++ jz x))],3⟩,by omega,?_,⟨1,by omega,rfl,.inr ⟨Nat.zero_lt_one,by rw [hnx];rfl⟩⟩⟩;refine jb [(2,2)] rfl ?gts ?ghs;(case gts=>(repeat (first|exact qy|refine jt ?_|refine y6 ?_|refine yf ?_|refine xm ?_|refine yg ?_ ?_|refine y5 ?_ ?_));all_goals trace_state);(case ghs=>refine yw (q:=0) (m:=2) rfl rfl (qf rfl) (qf rfl) ?_ ?_ ?_ qi;all_goals (first|(with_reducible rfl)|(simp only [WS.num,vF,hc,Bool.false_or,Bool.true_or];done)|rfl)))
  ·generalize ns[i] = x at *
   generalize w.nums (ns.take i) = v at *
   obtain ⟨ws,wg,wf⟩:=v
   have hb:=yp hx
   have hi21:=Lib.itoa_length_le x hx.1 hx.2
   have hbd:ws.length + (Lib.itoa x ++ [59]).length ≤ 140737488355328:=by have:(jz x).length = (Lib.itoa x ++ [59]).length:=rfl;simp only at hs;omega
   dsimp only at *
   cases wf
   all_goals (repeat' (first|refine qn ?_|(first|refine xsF Tryd.func53 (xO x hx.1 hx.2 ..) ?_|(apply qc Tryd.func52 rfl rfl;intro hIsFn;refine xV 0 2 hIsFn ((xP _ _ _ _ hbd)) ?_))|((first|(apply qb;rfl;rfl;exact nle rfl)|(apply qa;rfl;rfl;exact nle rfl)|refine xsC ?_ ?_);all_goals (intro hc;have hp:=hc;try simp at hp;try (exfalso;omega)))|refine jn ?_ ?_))
   all_goals try (exfalso;first|omega|(exact h0 (by assumption)))
   all_goals (refine ⟨ns.length - (i + 1),⟨[(0,.op 0 0 0),(6,.sl true (ns.map j4)),(7,.v (.int .i64 (ns.length:Int))),(8,.v (.int .i64 ((i + 1:Nat):Int)))],[(0,tyW (wrB 0 2 (ws ++ jz x) wg _)),(2,qK (ws ++ jz x))],3⟩,by omega,?_,⟨i + 1,by omega,rfl,.inr ⟨Nat.succ_pos _,by rw [hnx];rfl⟩⟩⟩;refine jb [(3,2)] rfl ?gts ?ghs;(case gts=>(repeat (first|exact qy|refine jt ?_|refine y6 ?_|refine yf ?_|refine xm ?_|refine yg ?_ ?_|refine y5 ?_ ?_));all_goals trace_state);(case ghs=>refine yw (q:=0) (m:=3) rfl rfl (qf rfl) (qf rfl) ?_ ?_ ?_ qi;all_goals (first|(with_reducible rfl)|(simp only [WS.num,vF,hc,Bool.false_or,Bool.true_or];done)|rfl)))
 ·obtain rfl:i = ns.length:=by omega
  rw [List.take_length] at hst
  rcases hst with ⟨h1,_⟩|⟨hp,rfl⟩
  ·omega
  repeat' (first|refine qn ?_|fail|((first|(apply qb;rfl;rfl;exact nle rfl)|(apply qa;rfl;rfl;exact nle rfl)|refine xsC ?_ ?_);all_goals (intro hc;have hp:=hc;try simp at hp;try (exfalso;omega)))|refine jn ?_ ?_)
  all_goals try (exfalso;first|omega|(exact h0 (by assumption)))
  all_goals ((apply qx (rs:=[]) [(2,2)] 3;(case hr=>(repeat (first|exact qq|(apply qr;rfl)|(apply qm;rfl;rfl;rfl;rfl;rfl))));(case hL=>rfl);(case hh=>refine vT (q:=0) (m:=2) rfl rfl (qf rfl) (qf rfl) (qf rfl) ?_ ?_ ?_ qi;all_goals (first|(with_reducible rfl)|fail));(case hi=>exact rfl);(case hz=>first|rfl|(simp [jE,AV.ren,AV.ren.renL,ja,qg,qV];done))))
end Go.Proofs.YtahbbnfmbohmmaaDoor
set_option linter.unusedSimpArgs false
set_option linter.unnecessarySimpa false
set_option linter.unusedVariables false
set_option maxHeartbeats 1000000
namespace Go.Proofs.YtahbbnfmbohmmaaDoor
open Go.Ab Go.RowKit
set_option maxRecDepth 10000
attribute [local irreducible] Awp jW jq jB Red qv Go.Ab.Fin qu Rz vn jv jm ResOk jA ji yk qP
theorem Xm (ns:List Int) (i:Nat) (h : ∀ n,n ∈ ns → xi n) (hl:ns.length ≤ 10):(ws0.nums (ns.take i)).s.length ≤ 220:=by
 have:=vr ws0 ns i h hl
 have e:ws0.s.length = 0:=rfl
 omega
set_option maxHeartbeats 4000000 in
theorem QG (ns:List Int) (h0:ns ≠ []) (hn : ∀ n,n ∈ ns → xi n) (hl:ns.length ≤ 10):qu C1.P 20 [.op 0 0 0,.sl true (ns.map j4)] [tyW (Xn false false)] (.tup []) [tyW (wrB 0 1 (ws0.nums ns).s (ws0.nums ns).g (ws0.nums ns).f),qK (ws0.nums ns).s]:=by
 have hml:(ns.map j4).length = ns.length:=List.length_map ..
 have hpos:0 < ns.length:=by cases ns with|nil=>exact absurd rfl h0|cons _ _=>simp
 refine qe (C:=C1) Tryd.func20 rfl _ Tryd.ntmps20 (Nat.le_of_ble_eq_true rfl) _ Tryd.results20 1 rfl rfl ?_
 repeat' (first|refine qn ?_|fail|((first|(apply qb;rfl;rfl;exact nle rfl)|(apply qa;rfl;rfl;exact nle rfl)|refine xsC ?_ ?_);all_goals (intro hc;have hp:=hc;try simp at hp;try (exfalso;omega)))|refine jn ?_ ?_)
 (refine Awp.red (jb (τ:=⟨[(0,.op 0 0 0),(6,.sl true (ns.map j4)),(7,.v (.int .i64 (ns.length:Int))),(8,.v (.int .i64 ((0:Nat):Int)))],[(0,tyW (Xn false false))],1⟩) [] rfl ?gts2 ?ghs2) ?_;(case gts2=>(repeat (first|exact qy|refine jt ?_|refine y6 ?_|refine yf ?_|refine xm ?_|refine yg ?_ ?_|refine y5 ?_ ?_));all_goals rw [hml]);(case ghs2=>exact XE (q:=0) rfl (qf rfl) qi))
 refine yA (fun n σ => ∃ i:Nat,i ≤ ns.length ∧ n = ns.length - i ∧ ((i = 0 ∧ σ = ⟨[(0,.op 0 0 0),(6,.sl true (ns.map j4)),(7,.v (.int .i64 (ns.length:Int))),(8,.v (.int .i64 ((0:Nat):Int)))],[(0,tyW (Xn false false))],1⟩) ∨ (0 < i ∧ σ = ⟨[(0,.op 0 0 0),(6,.sl true (ns.map j4)),(7,.v (.int .i64 (ns.length:Int))),(8,.v (.int .i64 (i:Int)))],[(0,tyW (wrB 0 1 (ws0.nums (ns.take i)).s (ws0.nums (ns.take i)).g (ws0.nums (ns.take i)).f)),(1,qK (ws0.nums (ns.take i)).s)],2⟩))) ns.length ⟨0,Nat.zero_le _,rfl,.inl ⟨rfl,rfl⟩⟩ ?_
 rintro n σ ⟨i,hi,rfl,hst⟩
 have hs:=Xm ns i hn hl
 by_cases hlt:i < ns.length
 ·have hr:=zg (f:=j4) hlt
  have hx:=hn ns[i] (List.getElem_mem hlt)
  have hnx:=kR ws0 hlt
  rcases hst with ⟨rfl,rfl⟩|⟨hp,rfl⟩
  ·generalize ns[0] = x at *
   rw [show ws0.nums (ns.take 0) = ws0 from rfl] at hnx
   have hb:=yp hx
   have hi21:=Lib.itoa_length_le x hx.1 hx.2
   have hbd:(Lib.itoa x ++ [59]).length ≤ 140737488355328:=by have:(jz x).length = (Lib.itoa x ++ [59]).length:=rfl;omega
   have hne:Lib.itoa x ++ [59] ≠ []:=by simp
   (repeat' (first|refine qn ?_|(first|refine xsF Tryd.func53 (xO x hx.1 hx.2 ..) ?_|(apply qc Tryd.func52 rfl rfl;intro hIsFn;refine YX 0 hIsFn ((Yr _ _ _ hne hbd)) ?_))|((first|(apply qb;rfl;rfl;exact nle rfl)|(apply qa;rfl;rfl;exact nle rfl)|refine xsC ?_ ?_);all_goals (intro hc;have hp:=hc;try simp at hp;try (exfalso;omega)))|refine jn ?_ ?_))
   all_goals try (exfalso;first|omega|(exact h0 (by assumption)))
   all_goals (refine ⟨ns.length - (0 + 1),⟨[(0,.op 0 0 0),(6,.sl true (ns.map j4)),(7,.v (.int .i64 (ns.length:Int))),(8,.v (.int .i64 ((0 + 1:Nat):Int)))],[(0,tyW (wrB 0 1 ([] ++ jz x) false _)),(1,qK ([] ++ jz x))],2⟩,by omega,?_,⟨1,by omega,rfl,.inr ⟨Nat.zero_lt_one,by rw [hnx];rfl⟩⟩⟩;refine jb [(1,1)] rfl ?gts ?ghs;(case gts=>(repeat (first|exact qy|refine jt ?_|refine y6 ?_|refine yf ?_|refine xm ?_|refine yg ?_ ?_|refine y5 ?_ ?_));all_goals trace_state);(case ghs=>refine yw (q:=0) (m:=1) rfl rfl (qf rfl) (qf rfl) ?_ ?_ ?_ qi;all_goals (first|(with_reducible rfl)|(simp only [WS.num,ws0,vF,hc,Bool.false_or,Bool.true_or];done)|rfl)))
  ·generalize ns[i] = x at *
   generalize ws0.nums (ns.take i) = v at *
   obtain ⟨ws,wg,wf⟩:=v
   have hb:=yp hx
   have hi21:=Lib.itoa_length_le x hx.1 hx.2
   have hbd:ws.length + (Lib.itoa x ++ [59]).length ≤ 140737488355328:=by have:(jz x).length = (Lib.itoa x ++ [59]).length:=rfl;simp only at hs;omega
   dsimp only at *
   cases wf
   all_goals (repeat' (first|refine qn ?_|(first|refine xsF Tryd.func53 (xO x hx.1 hx.2 ..) ?_|(apply qc Tryd.func52 rfl rfl;intro hIsFn;refine xV 0 1 hIsFn ((xP _ _ _ _ hbd)) ?_))|((first|(apply qb;rfl;rfl;exact nle rfl)|(apply qa;rfl;rfl;exact nle rfl)|refine xsC ?_ ?_);all_goals (intro hc;have hp:=hc;try simp at hp;try (exfalso;omega)))|refine jn ?_ ?_))
   all_goals try (exfalso;first|omega|(exact h0 (by assumption)))
   all_goals (refine ⟨ns.length - (i + 1),⟨[(0,.op 0 0 0),(6,.sl true (ns.map j4)),(7,.v (.int .i64 (ns.length:Int))),(8,.v (.int .i64 ((i + 1:Nat):Int)))],[(0,tyW (wrB 0 1 (ws ++ jz x) wg _)),(1,qK (ws ++ jz x))],2⟩,by omega,?_,⟨i + 1,by omega,rfl,.inr ⟨Nat.succ_pos _,by rw [hnx];rfl⟩⟩⟩;refine jb [(2,1)] rfl ?gts ?ghs;(case gts=>(repeat (first|exact qy|refine jt ?_|refine y6 ?_|refine yf ?_|refine xm ?_|refine yg ?_ ?_|refine y5 ?_ ?_));all_goals trace_state);(case ghs=>refine yw (q:=0) (m:=2) rfl rfl (qf rfl) (qf rfl) ?_ ?_ ?_ qi;all_goals (first|(with_reducible rfl)|(simp only [WS.num,vF,hc,Bool.false_or,Bool.true_or];done)|rfl)))
 ·obtain rfl:i = ns.length:=by omega
  rw [List.take_length] at hst
  rcases hst with ⟨h1,_⟩|⟨hp,rfl⟩
  ·omega
  repeat' (first|refine qn ?_|fail|((first|(apply qb;rfl;rfl;exact nle rfl)|(apply qa;rfl;rfl;exact nle rfl)|refine xsC ?_ ?_);all_goals (intro hc;have hp:=hc;try simp at hp;try (exfalso;omega)))|refine jn ?_ ?_)
  all_goals try (exfalso;first|omega|(exact h0 (by assumption)))
  all_goals ((apply qx (rs:=[]) [(1,1)] 2;(case hr=>(repeat (first|exact qq|(apply qr;rfl)|(apply qm;rfl;rfl;rfl;rfl;rfl))));(case hL=>rfl);(case hh=>refine yw (q:=0) (m:=1) rfl rfl (qf rfl) (qf rfl) ?_ ?_ ?_ qi;all_goals (first|(with_reducible rfl)|fail));(case hi=>exact rfl);(case hz=>first|rfl|(simp [jE,AV.ren,AV.ren.renL,ja,qg,qV];done))))
theorem Yg (w:WS) {l:List qj} {i:Nat} (h:i < l.length):w.txts (l.take (i + 1)) = (w.txts (l.take i)).txt l[i]:=by
 unfold WS.txts
 rw [List.take_succ_eq_append_getElem h,List.foldl_append]
 rfl
theorem va (w:WS) : ∀ (l:List qj),(∀ s,s ∈ l → s.length ≤ 1000000000) → (w.txts l).s.length ≤ w.s.length + 1000000022 * l.length
 | [],_=>Nat.le_refl _
 | s :: l,h=>by
   have h1:=va (w.txt s) l (fun m hm=>h m (by simp [hm]))
   have h0:=h s (by simp)
   have h2:=yp (n:=(s.length:Int)) ⟨by omega,by omega⟩
   have h3:(w.txt s).s.length = w.s.length + ((jz s.length).length + s.length):=by
    show (w.s ++ (jz s.length ++ s)).length = _
    rw [List.length_append,List.length_append]
   show ((w.txt s).txts l).s.length ≤ _
   simp only [List.length_cons]
   omega
theorem kK (w:WS) (l:List qj) (i:Nat) (h : ∀ s,s ∈ l → s.length ≤ 1000000000) (hl:l.length ≤ 10):(w.txts (l.take i)).s.length ≤ w.s.length + 10000000220:=by
 have h1:=va w (l.take i) (fun n hn=>h n (List.mem_of_mem_take hn))
 have h2:(l.take i).length ≤ 10:=by rw [List.length_take];omega
 omega
end Go.Proofs.YtahbbnfmbohmmaaDoor
set_option linter.unusedSimpArgs false
set_option linter.unnecessarySimpa false
set_option linter.unusedVariables false
set_option maxHeartbeats 1000000
namespace Go.Proofs.YtahbbnfmbohmmaaDoor
open Go.Ab Go.RowKit
set_option maxRecDepth 10000
attribute [local irreducible] Awp jW jq jB Red qv Go.Ab.Fin qu Rz vn jv jm ResOk jA ji yk qP
theorem xA {n:Int} (h:xi n) : ∀ m,m ∈ [n] → xi m:=fun m hm=>by simp only [List.mem_singleton] at hm;exact hm ▸ h
set_option maxHeartbeats 4000000 in
theorem Ji (w:WS) (l:List qj) (h0:l ≠ []) (hn : ∀ s,s ∈ l → s.length ≤ 1000000000) (hl:l.length ≤ 10) (hw:w.s.length ≤ 99000000000000):qu C2.P 21 [.op 0 0 0,.sl true (l.map x9)] [tyW (wrB 0 1 w.s w.g w.f),qK w.s] (.tup []) [tyW (wrB 0 2 (w.txts l).s (w.txts l).g (w.txts l).f),.dead,qK (w.txts l).s]:=by
 have hml:(l.map x9).length = l.length:=List.length_map ..
 have hpos:0 < l.length:=by cases l with|nil=>exact absurd rfl h0|cons _ _=>simp
 refine qe (C:=C2) Tryd.func21 rfl _ Tryd.ntmps21 (Nat.le_of_ble_eq_true rfl) _ Tryd.results21 2 rfl rfl ?_
 repeat' (first|refine qn ?_|fail|((first|(apply qb;rfl;rfl;exact nle rfl)|(apply qa;rfl;rfl;exact nle rfl)|refine xsC ?_ ?_);all_goals (intro hc;have hp:=hc;try simp at hp;try (exfalso;omega)))|refine jn ?_ ?_)
 (refine Awp.red (jb (τ:=⟨[(0,.op 0 0 0),(6,.sl true (l.map x9)),(7,.v (.int .i64 (l.length:Int))),(8,.v (.int .i64 ((0:Nat):Int)))],[(0,tyW (wrB 0 1 w.s w.g w.f)),(1,qK w.s)],2⟩) [] rfl ?gts2 ?ghs2) ?_;(case gts2=>(repeat (first|exact qy|refine jt ?_|refine y6 ?_|refine yf ?_|refine xm ?_|refine yg ?_ ?_|refine y5 ?_ ?_));all_goals rw [hml]);(case ghs2=>refine yw (q:=0) (m:=1) rfl rfl (qf rfl) (qf rfl) ?_ ?_ ?_ qi;all_goals (first|(with_reducible rfl)|fail)))
 refine yA (fun n σ => ∃ i:Nat,i ≤ l.length ∧ n = l.length - i ∧ ((i = 0 ∧ σ = ⟨[(0,.op 0 0 0),(6,.sl true (l.map x9)),(7,.v (.int .i64 (l.length:Int))),(8,.v (.int .i64 ((0:Nat):Int)))],[(0,tyW (wrB 0 1 w.s w.g w.f)),(1,qK w.s)],2⟩) ∨ (0 < i ∧ σ = ⟨[(0,.op 0 0 0),(6,.sl true (l.map x9)),(7,.v (.int .i64 (l.length:Int))),(8,.v (.int .i64 (i:Int)))],[(0,tyW (wrB 0 2 (w.txts (l.take i)).s (w.txts (l.take i)).g (w.txts (l.take i)).f)),(2,qK (w.txts (l.take i)).s)],3⟩))) l.length ⟨0,Nat.zero_le _,rfl,.inl ⟨rfl,rfl⟩⟩ ?_
 rintro n σ ⟨i,hi,rfl,hst⟩
 have hs:=kK w l i hn hl
 by_cases hlt:i < l.length
 ·have hr:=zg (f:=x9) hlt
  have hx:=hn l[i] (List.getElem_mem hlt)
  have hnx:=Yg w hlt
  rcases hst with ⟨rfl,rfl⟩|⟨hp,rfl⟩
  ·generalize l[0] = x at *
   rw [show w.txts (l.take 0) = w from rfl] at hnx hs
   obtain ⟨ws,wg,wf⟩:=w
   dsimp only at *
   have hi64:xi (x.length:Int):=⟨by omega,by omega⟩
   have hb:=yp hi64
   have hbd : ∀ g f,((WS.mk ws g f).nums [(x.length:Int)]).s.length + x.length ≤ 140737488355328:=fun g f=>by
    have:((WS.mk ws g f).nums [(x.length:Int)]).s.length = ws.length + (jz (x.length:Int)).length:=List.length_append
    omega
   have hwb:ws.length ≤ 100000000000000:=by omega
   have hgt:decide (1000 < x.length) = decide ((1000:Int) < (x.length:Int)):=by rw [decide_eq_decide];omega
   cases wg
   all_goals (repeat' (first|refine qn ?_|(first|(refine xH ?_)|(apply qc Tryd.func20 rfl rfl;intro hIsFn;refine xV 0 1 hIsFn ((yO ⟨ws,_,wf⟩ [(x.length:Int)] (by simp) (xA hi64) (by simp) hwb)) ?_)|(apply qc Tryd.func52 rfl rfl;intro hIsFn;refine xV 0 2 hIsFn ((xP _ _ _ _ (hbd _ _))) ?_))|((first|(apply qb;rfl;rfl;exact nle rfl)|(apply qa;rfl;rfl;exact nle rfl)|refine xsC ?_ ?_);all_goals (intro hc;have hp:=hc;try simp at hp;try (exfalso;omega)))|refine jn ?_ ?_))
   all_goals try (exfalso;first|omega|(exact h0 (by assumption)))
   all_goals (refine ⟨l.length - (0 + 1),⟨[(0,.op 0 0 0),(6,.sl true (l.map x9)),(7,.v (.int .i64 (l.length:Int))),(8,.v (.int .i64 ((0 + 1:Nat):Int)))],[(0,tyW (wrB 0 2 (ws ++ y9 x) _ _)),(2,qK (ws ++ y9 x))],3⟩,by omega,?_,⟨0 + 1,by omega,rfl,.inr ⟨Nat.succ_pos _,by rw [hnx];rfl⟩⟩⟩;refine jb [(3,2)] rfl ?gts ?ghs;(case gts=>(repeat (first|exact qy|refine jt ?_|refine y6 ?_|refine yf ?_|refine xm ?_|refine yg ?_ ?_|refine y5 ?_ ?_));all_goals trace_state);(case ghs=>refine yw (q:=0) (m:=3) rfl rfl (qf rfl) (qf rfl) ?_ ?_ ?_ qi;all_goals (first|(with_reducible rfl)|(exact List.append_assoc ws (jz (x.length:Int)) x)|(simp only [WS.txt,WS.nums,List.foldl_cons,List.foldl_nil,WS.num,hgt,hc,Bool.false_or,Bool.true_or];done)|rfl|(show _ = (Bool.or false (decide (1000 < x.length)));rw [Bool.false_or,hgt];rfl))))
  ·generalize l[i] = x at *
   generalize w.txts (l.take i) = v at *
   obtain ⟨ws,wg,wf⟩:=v
   dsimp only at *
   have hi64:xi (x.length:Int):=⟨by omega,by omega⟩
   have hb:=yp hi64
   have hbd : ∀ g f,((WS.mk ws g f).nums [(x.length:Int)]).s.length + x.length ≤ 140737488355328:=fun g f=>by
    have:((WS.mk ws g f).nums [(x.length:Int)]).s.length = ws.length + (jz (x.length:Int)).length:=List.length_append
    omega
   have hwb:ws.length ≤ 100000000000000:=by omega
   have hgt:decide (1000 < x.length) = decide ((1000:Int) < (x.length:Int)):=by rw [decide_eq_decide];omega
   cases wg
   all_goals (repeat' (first|refine qn ?_|(first|(refine xH ?_)|(apply qc Tryd.func20 rfl rfl;intro hIsFn;refine xV 0 2 hIsFn ((yO ⟨ws,_,wf⟩ [(x.length:Int)] (by simp) (xA hi64) (by simp) hwb)) ?_)|(apply qc Tryd.func52 rfl rfl;intro hIsFn;refine xV 0 3 hIsFn ((xP _ _ _ _ (hbd _ _))) ?_))|((first|(apply qb;rfl;rfl;exact nle rfl)|(apply qa;rfl;rfl;exact nle rfl)|refine xsC ?_ ?_);all_goals (intro hc;have hp:=hc;try simp at hp;try (exfalso;omega)))|refine jn ?_ ?_))
   all_goals try (exfalso;first|omega|(exact h0 (by assumption)))
   all_goals (refine ⟨l.length - (i + 1),⟨[(0,.op 0 0 0),(6,.sl true (l.map x9)),(7,.v (.int .i64 (l.length:Int))),(8,.v (.int .i64 ((i + 1:Nat):Int)))],[(0,tyW (wrB 0 2 (ws ++ y9 x) _ _)),(2,qK (ws ++ y9 x))],3⟩,by omega,?_,⟨i + 1,by omega,rfl,.inr ⟨Nat.succ_pos _,by rw [hnx];rfl⟩⟩⟩;refine jb [(4,2)] rfl ?gts ?ghs;(case gts=>(repeat (first|exact qy|refine jt ?_|refine y6 ?_|refine yf ?_|refine xm ?_|refine yg ?_ ?_|refine y5 ?_ ?_));all_goals trace_state);(case ghs=>refine yw (q:=0) (m:=4) rfl rfl (qf rfl) (qf rfl) ?_ ?_ ?_ qi;all_goals (first|(with_reducible rfl)|(exact List.append_assoc ws (jz (x.length:Int)) x)|(simp only [WS.txt,WS.nums,List.foldl_cons,List.foldl_nil,WS.num,hgt,hc,Bool.false_or,Bool.true_or];done)|rfl|(show _ = (Bool.or false (decide (1000 < x.length)));rw [Bool.false_or,hgt];rfl))))
 ·obtain rfl:i = l.length:=by omega
  rw [List.take_length] at hst
  rcases hst with ⟨h1,_⟩|⟨hp,rfl⟩
  ·omega
  repeat' (first|refine qn ?_|fail|((first|(apply qb;rfl;rfl;exact nle rfl)|(apply qa;rfl;rfl;exact nle rfl)|refine xsC ?_ ?_);all_goals (intro hc;have hp:=hc;try simp at hp;try (exfalso;omega)))|refine jn ?_ ?_)
  all_goals try (exfalso;first|omega|(exact h0 (by assumption)))
  all_goals ((apply qx (rs:=[]) [(2,2)] 3;(case hr=>(repeat (first|exact qq|(apply qr;rfl)|(apply qm;rfl;rfl;rfl;rfl;rfl))));(case hL=>rfl);(case hh=>refine vT (q:=0) (m:=2) rfl rfl (qf rfl) (qf rfl) (qf rfl) ?_ ?_ ?_ qi;all_goals (first|(with_reducible rfl)|fail));(case hi=>exact rfl);(case hz=>first|rfl|(simp [jE,AV.ren,AV.ren.renL,ja,qg,qV];done))))
theorem zk (w:WS) (n:Int) (h:xi n):(w.nums [n]).s.length ≤ w.s.length + 22:=by
 have:=vU w [n] (xA h)
 simpa using this
structure Chg.fit (c:Chg):Prop where
 kind:xi c.kind
 path:c.path.length ≤ 1000000000
 tto:c.to.length ≤ 1000000000
 text:c.text.length ≤ 1000000000
 base:xi c.base
theorem Jl (w:WS) {c:Chg} (h:c.fit):(w.chg c).s.length ≤ w.s.length + 4000000000:=by
 have h1:=zk w c.kind h.kind
 have h2:=va (w.nums [c.kind]) [c.path,c.to,c.text] (fun s hs=>by
  simp only [List.mem_cons,List.not_mem_nil,or_false] at hs
  rcases hs with rfl|rfl|rfl
  ·exact h.path
  ·exact h.tto
  ·exact h.text)
 have h3:=zk ((w.nums [c.kind]).txts [c.path,c.to,c.text]) c.base h.base
 simp only [List.length_cons,List.length_nil] at h2
 show (((w.nums [c.kind]).txts [c.path,c.to,c.text]).nums [c.base]).s.length ≤ _
 omega
set_option maxHeartbeats 2000000 in
theorem JJ (w:WS) (c:Chg) (h:c.fit) (hw:w.s.length ≤ 98000000000000):qu C2.P 55 [.op 0 0 0,.agg c.row] [tyW (wrB 0 1 w.s w.g w.f),qK w.s] (.tup []) [tyW (wrB 0 2 (w.chg c).s (w.chg c).g (w.chg c).f),.dead,qK (w.chg c).s]:=by
 have ht : ∀ s,s ∈ [c.path,c.to,c.text] → s.length ≤ 1000000000:=fun s hs=>by
  simp only [List.mem_cons,List.not_mem_nil,or_false] at hs
  rcases hs with rfl|rfl|rfl
  ·exact h.path
  ·exact h.tto
  ·exact h.text
 have b1:=zk w c.kind h.kind
 have b2:=va (w.nums [c.kind]) [c.path,c.to,c.text] ht
 simp only [List.length_cons,List.length_nil] at b2
 have c1:=yO w [c.kind] (by simp) (xA h.kind) (by simp) (by omega)
 have c2:=Ji (w.nums [c.kind]) [c.path,c.to,c.text] (by simp) ht (by simp) (by omega)
 have c3:=yO ((w.nums [c.kind]).txts [c.path,c.to,c.text]) [c.base] (by simp) (xA h.base) (by simp) (by omega)
 have hE:w.chg c = ((w.nums [c.kind]).txts [c.path,c.to,c.text]).nums [c.base]:=rfl
 rw [hE]
 clear hE b1 b2 ht h hw
 unfold Chg.row
 generalize ((w.nums [c.kind]).txts [c.path,c.to,c.text]).nums [c.base] = w3 at *
 generalize (w.nums [c.kind]).txts [c.path,c.to,c.text] = w2 at *
 generalize w.nums [c.kind] = w1 at *
 refine qe (C:=C2) Tryd.func55 rfl _ Tryd.ntmps55 (Nat.le_of_ble_eq_true rfl) _ Tryd.results55 2 rfl rfl ?_
 repeat' (first|refine qn ?_|(first|(refine xH ?_)|(apply qc Tryd.func20 rfl rfl;intro hIsFn;refine xV 0 1 hIsFn (c1) ?_)|(apply qc Tryd.func21 rfl rfl;intro hIsFn;refine xV 0 3 hIsFn (c2) ?_)|(apply qc Tryd.func20 rfl rfl;intro hIsFn;refine xV 0 4 hIsFn (c3) ?_))|((first|(apply qb;rfl;rfl;exact nle rfl)|(apply qa;rfl;rfl;exact nle rfl)|refine xsC ?_ ?_);all_goals (intro hc;have hp:=hc;try simp at hp;try (exfalso;omega)))|refine jn ?_ ?_)
 all_goals ((apply qx (rs:=[]) [(5,2)] 3;(case hr=>(repeat (first|exact qq|(apply qr;rfl)|(apply qm;rfl;rfl;rfl;rfl;rfl))));(case hL=>rfl);(case hh=>refine vT (q:=0) (m:=5) rfl rfl (qf rfl) (qf rfl) (qf rfl) ?_ ?_ ?_ qi;all_goals (first|(with_reducible rfl)|rfl));(case hi=>exact rfl);(case hz=>first|rfl|(simp [jE,AV.ren,AV.ren.renL,ja,qg,qV];done))))
end Go.Proofs.YtahbbnfmbohmmaaDoor
set_option linter.unusedSimpArgs false
set_option linter.unnecessarySimpa false
set_option linter.unusedVariables false
set_option maxHeartbeats 1000000
namespace Go.Proofs.YtahbbnfmbohmmaaDoor
open Go.Ab Go.RowKit
set_option maxRecDepth 10000
attribute [local irreducible] Awp jW jq jB Red qv Go.Ab.Fin qu Rz vn jv jm ResOk jA ji yk qP
theorem JV {α:Type} (step:WS → α → WS) (w:WS) {l:List α} {i:Nat} (h:i < l.length):(l.take (i + 1)).foldl step w = step ((l.take i).foldl step w) l[i]:=by
 rw [List.take_succ_eq_append_getElem h,List.foldl_append]
 rfl
theorem ke {α:Type} (step:WS → α → WS) (fit:α → Prop) (K:Nat) (hs : ∀ w x,fit x → (step w x).s.length ≤ w.s.length + K) : ∀ (l:List α) (w:WS),(∀ x,x ∈ l → fit x) → (l.foldl step w).s.length ≤ w.s.length + l.length * K
 | [],w,_=>by simp
 | x :: l,w,h=>by
   have h1:=ke step fit K hs l (step w x) (fun y hy=>h y (by simp [hy]))
   have h2:=hs w x (h x (by simp))
   rw [List.foldl_cons,List.length_cons,Nat.add_mul]
   omega
theorem wV (w:WS) (l:List Chg) (hl:l.length ≤ 1000000000) (hg:(w.g || decide (20 < l.length)) = true):qu C2.P 54 [.op 0 0 0,ym l,.v (.int .i64 20),.clo (.func 55) [.op 0 0 0] []] [tyW (wrB 0 1 w.s w.g w.f),qK w.s] (.tup []) [tyW (wrB 0 1 w.s true w.f),qK w.s]:=by
 have hml:(l.map Chg.row).length = l.length:=List.length_map ..
 obtain ⟨ws,wg,wf⟩:=w
 dsimp only at *
 cases wg
 all_goals unfold ym
 all_goals (refine qe (C:=C2) Tryd.func54 rfl _ Tryd.ntmps54 (Nat.le_of_ble_eq_true rfl) _ Tryd.results54 2 rfl rfl ?_)
 all_goals (repeat' (first|refine qn ?_|fail|((first|(apply qb;rfl;rfl;exact nle rfl)|(apply qa;rfl;rfl;exact nle rfl)|refine xsC ?_ ?_);all_goals (intro hc;have hp:=hc;try simp at hp;try (exfalso;omega)))|refine jn ?_ ?_))
 all_goals try (exfalso;simp only [Bool.false_or,Bool.true_or,decide_eq_true_eq,hml] at hg;first|omega|(simp at hc;omega);done)
 all_goals ((apply qx (rs:=[]) [] 2;(case hr=>(repeat (first|exact qq|(apply qr;rfl)|(apply qm;rfl;rfl;rfl;rfl;rfl))));(case hL=>rfl);(case hh=>refine yw (q:=0) (m:=1) rfl rfl (qf rfl) (qf rfl) ?_ ?_ ?_ qi;all_goals (first|(with_reducible rfl)|rfl|exact hc));(case hi=>exact rfl);(case hz=>first|rfl|(simp [jE,AV.ren,AV.ren.renL,ja,qg,qV];done))))
set_option maxHeartbeats 4000000 in
theorem QF (w:WS) (l:List Chg) (hfit : ∀ c,c ∈ l → c.fit) (hg:w.g = false) (hl:l.length ≤ 20) (hw:w.s.length ≤ 97000000000000):qu C2.P 54 [.op 0 0 0,ym l,.v (.int .i64 20),.clo (.func 55) [.op 0 0 0] []] [tyW (wrB 0 1 w.s w.g w.f),qK w.s] (.tup []) [tyW (wrB 0 2 (l.foldl WS.chg (w.num l.length)).s (l.foldl WS.chg (w.num l.length)).g (l.foldl WS.chg (w.num l.length)).f),.dead,qK (l.foldl WS.chg (w.num l.length)).s]:=by
 have hml:(l.map Chg.row).length = l.length:=List.length_map ..
 have hi64:xi (l.length:Int):=⟨by omega,by omega⟩
 have hn1:=zk w l.length hi64
 have hlen : ∀ i,i ≤ l.length → ((l.take i).foldl WS.chg (w.num l.length)).s.length ≤ 97500000000000:=fun i hi=>by
  have h1:=ke WS.chg Chg.fit 4000000000 (fun w x hx=>Jl w hx) (l.take i) (w.num l.length) (fun x hx=>hfit x (List.mem_of_mem_take hx))
  have h2:(l.take i).length ≤ 20:=by rw [List.length_take];omega
  have h3:(w.num l.length).s.length ≤ w.s.length + 22:=hn1
  have h4:(l.take i).length * 4000000000 ≤ 20 * 4000000000:=Nat.mul_le_mul_right _ h2
  omega
 obtain ⟨ws,wg,wf⟩:=w
 dsimp only at hg hw
 subst hg
 have hnum:=fun g=>yO ⟨ws,g,wf⟩ [((l.map Chg.row).length:Int)] (by simp) (xA (by rw [hml];exact hi64)) (by simp) (by dsimp only;omega)
 refine qe (C:=C2) Tryd.func54 rfl _ Tryd.ntmps54 (Nat.le_of_ble_eq_true rfl) _ Tryd.results54 2 rfl rfl ?_
 repeat' (first|refine qn ?_|(first|(refine xH ?_)|(apply qc Tryd.func20 rfl rfl;intro hIsFn;refine xV 0 1 hIsFn ((hnum (decide ((20:Int) < ((l.map Chg.row).length:Int))))) ?_))|((first|(apply qb;rfl;rfl;exact nle rfl)|(apply qa;rfl;rfl;exact nle rfl)|refine xsC ?_ ?_);all_goals (intro hc;have hp:=hc;try simp at hp;try (exfalso;omega)))|refine jn ?_ ?_)
 all_goals try (exfalso;simp at *;omega)
 (refine Awp.red (jb (τ:=⟨[(32,ym l),(33,.v (.int .i64 (l.length:Int))),(34,.v (.int .i64 ((0:Nat):Int))),(3,.clo (.func 55) [.op 0 0 0] [])],[(0,tyW (wrB 0 2 ((WS.mk ws false wf).num l.length).s ((WS.mk ws false wf).num l.length).g ((WS.mk ws false wf).num l.length).f)),(2,qK ((WS.mk ws false wf).num l.length).s)],3⟩) [(2,2)] rfl ?gts2 ?ghs2) ?_;(case gts2=>(repeat (first|exact qy|refine jt ?_|refine y6 ?_|refine yf ?_|refine xm ?_|refine yg ?_ ?_|refine y5 ?_ ?_));all_goals first|(rw [hml];done)|exact xW qy (qf rfl));(case ghs2=>refine yw (q:=0) (m:=2) rfl rfl (qf rfl) (qf rfl) ?_ ?_ ?_ qi;all_goals (first|(with_reducible rfl)|(rw [hml];rfl)|exact hc)))
 refine yA (fun n σ => ∃ i:Nat,i ≤ l.length ∧ n = l.length - i ∧ σ = ⟨[(32,ym l),(33,.v (.int .i64 (l.length:Int))),(34,.v (.int .i64 (i:Int))),(3,.clo (.func 55) [.op 0 0 0] [])],[(0,tyW (wrB 0 2 ((l.take i).foldl WS.chg ((WS.mk ws false wf).num l.length)).s ((l.take i).foldl WS.chg ((WS.mk ws false wf).num l.length)).g ((l.take i).foldl WS.chg ((WS.mk ws false wf).num l.length)).f)),(2,qK ((l.take i).foldl WS.chg ((WS.mk ws false wf).num l.length)).s)],3⟩) l.length ⟨0,Nat.zero_le _,rfl,rfl⟩ ?_
 rintro n σ ⟨i,hi,rfl,rfl⟩
 have hs:=hlen i hi
 by_cases hlt:i < l.length
 ·have hr:=zg (f:=Chg.row) hlt
  have hx:=hfit l[i] (List.getElem_mem hlt)
  have hnx:=JV WS.chg ((WS.mk ws false wf).num l.length) hlt
  clear hlen hnum
  generalize (l.take i).foldl WS.chg ((WS.mk ws false wf).num l.length) = v at *
  generalize l[i] = x at *
  have hch:=JJ v x hx (by omega)
  repeat' (first|refine qn ?_|(first|(refine VB (first:=[.op 0 0 0]) (cap:=[]) 0 2 Tryd.func55 (hch) ?_))|((first|(apply qb;rfl;rfl;exact nle rfl)|(apply qa;rfl;rfl;exact nle rfl)|refine xsC ?_ ?_);all_goals (intro hc;have hp:=hc;try simp at hp;try (exfalso;omega)))|refine jn ?_ ?_)
  all_goals try (exfalso;omega)
  all_goals (refine ⟨l.length - (i + 1),⟨[(32,ym l),(33,.v (.int .i64 (l.length:Int))),(34,.v (.int .i64 ((i + 1:Nat):Int))),(3,.clo (.func 55) [.op 0 0 0] [])],[(0,tyW (wrB 0 2 (v.chg x).s (v.chg x).g (v.chg x).f)),(2,qK (v.chg x).s)],3⟩,by omega,?_,⟨i + 1,by omega,rfl,by rw [hnx]⟩⟩;refine jb [(4,2)] rfl ?gts ?ghs;(case gts=>(repeat (first|exact qy|refine jt ?_|refine y6 ?_|refine yf ?_|refine xm ?_|refine yg ?_ ?_|refine y5 ?_ ?_));all_goals exact xW qy (qf rfl));(case ghs=>refine yw (q:=0) (m:=4) rfl rfl (qf rfl) (qf rfl) ?_ ?_ ?_ qi;all_goals (first|(with_reducible rfl)|rfl)))
 ·obtain rfl:i = l.length:=by omega
  rw [List.take_length]
  clear hlen hnum
  repeat' (first|refine qn ?_|fail|((first|(apply qb;rfl;rfl;exact nle rfl)|(apply qa;rfl;rfl;exact nle rfl)|refine xsC ?_ ?_);all_goals (intro hc;have hp:=hc;try simp at hp;try (exfalso;omega)))|refine jn ?_ ?_)
  all_goals try (exfalso;omega)
  all_goals ((apply qx (rs:=[]) [(2,2)] 3;(case hr=>(repeat (first|exact qq|(apply qr;rfl)|(apply qm;rfl;rfl;rfl;rfl;rfl))));(case hL=>rfl);(case hh=>refine vT (q:=0) (m:=2) rfl rfl (qf rfl) (qf rfl) (qf rfl) ?_ ?_ ?_ qi;all_goals (first|(with_reducible rfl)|rfl));(case hi=>exact rfl);(case hz=>first|rfl|(simp [jE,AV.ren,AV.ren.renL,ja,qg,qV];done))))
end Go.Proofs.YtahbbnfmbohmmaaDoor
set_option linter.unusedSimpArgs false
set_option linter.unnecessarySimpa false
set_option linter.unusedVariables false
set_option maxHeartbeats 1000000
namespace Go.Proofs.YtahbbnfmbohmmaaDoor
open Go.Ab Go.RowKit
set_option maxRecDepth 10000
attribute [local irreducible] Awp jW jq jB Red qv Go.Ab.Fin qu Rz vn jv jm ResOk jA ji yk qP
theorem XK {α:Type} {w:WS} {l:List α} {most:Nat} {step:WS → α → WS} (h:(w.g || decide (most < l.length)) = true):w.lst l most step = ⟨w.s,true,w.f⟩:=by unfold WS.lst;rw [if_pos h]
theorem YS {α:Type} {w:WS} {l:List α} {most:Nat} {step:WS → α → WS} (h:(w.g || decide (most < l.length)) = false):w.lst l most step = l.foldl step (w.num l.length) ∧ w.g = false ∧ l.length ≤ most:=by
 unfold WS.lst
 rw [h,if_neg (by decide)]
 simp only [Bool.or_eq_false_iff,decide_eq_false_iff_not] at h
 exact ⟨rfl,h.1,by omega⟩
theorem zM (w:WS) (l:List Chg) (hl:l.length ≤ 1000000000) (hg:(w.g || decide (20 < l.length)) = true):qu C2.P 22 [.op 0 0 0,ym l] [tyW (wrB 0 1 w.s w.g w.f),qK w.s] (.tup []) [tyW (wrB 0 1 w.s true w.f),qK w.s]:=by
 have hc:=wV w l hl hg
 refine qe (C:=C2) Tryd.func22 rfl _ Tryd.ntmps22 (Nat.le_of_ble_eq_true rfl) _ Tryd.results22 2 rfl rfl ?_
 repeat' (first|refine qn ?_|(first|(apply qc Tryd.func54 rfl rfl;intro hIsFn;refine X5 0 1 hIsFn hc ?_))|((first|(apply qb;rfl;rfl;exact nle rfl)|(apply qa;rfl;rfl;exact nle rfl)|refine xsC ?_ ?_);all_goals (intro hc;have hp:=hc;try simp at hp;try (exfalso;omega)))|refine jn ?_ ?_)
 all_goals ((apply qx (rs:=[]) [] 2;(case hr=>(repeat (first|exact qq|(apply qr;rfl)|(apply qm;rfl;rfl;rfl;rfl;rfl))));(case hL=>rfl);(case hh=>refine yw (q:=0) (m:=1) rfl rfl (qf rfl) (qf rfl) ?_ ?_ ?_ qi;all_goals (first|(with_reducible rfl)|rfl));(case hi=>exact rfl);(case hz=>first|rfl|(simp [jE,AV.ren,AV.ren.renL,ja,qg,qV];done))))
theorem kC (w:WS) (l:List Chg) (hfit : ∀ c,c ∈ l → c.fit) (hg:(w.g || decide (20 < l.length)) = false) (hw:w.s.length ≤ 97000000000000):qu C2.P 22 [.op 0 0 0,ym l] [tyW (wrB 0 1 w.s w.g w.f),qK w.s] (.tup []) [tyW (wrB 0 2 (w.chgs l).s (w.chgs l).g (w.chgs l).f),.dead,qK (w.chgs l).s]:=by
 obtain ⟨e,h1,h2⟩:=YS (step:=WS.chg) hg
 have hc:=QF w l hfit h1 h2 hw
 rw [show w.chgs l = _ from e]
 generalize l.foldl WS.chg (w.num l.length) = v at *
 refine qe (C:=C2) Tryd.func22 rfl _ Tryd.ntmps22 (Nat.le_of_ble_eq_true rfl) _ Tryd.results22 2 rfl rfl ?_
 repeat' (first|refine qn ?_|(first|(apply qc Tryd.func54 rfl rfl;intro hIsFn;refine xV 0 1 hIsFn (hc) ?_))|((first|(apply qb;rfl;rfl;exact nle rfl)|(apply qa;rfl;rfl;exact nle rfl)|refine xsC ?_ ?_);all_goals (intro hc;have hp:=hc;try simp at hp;try (exfalso;omega)))|refine jn ?_ ?_)
 all_goals ((apply qx (rs:=[]) [(2,2)] 3;(case hr=>(repeat (first|exact qq|(apply qr;rfl)|(apply qm;rfl;rfl;rfl;rfl;rfl))));(case hL=>rfl);(case hh=>refine vT (q:=0) (m:=2) rfl rfl (qf rfl) (qf rfl) (qf rfl) ?_ ?_ ?_ qi;all_goals (first|(with_reducible rfl)|rfl));(case hi=>exact rfl);(case hz=>first|rfl|(simp [jE,AV.ren,AV.ren.renL,ja,qg,qV];done))))
theorem Jh (w:WS) (h0:w.s ≠ []) (hl:w.s.length ≤ 100000000000000):qu C2.P 23 [.op 0 0 0] [tyW (wrB 0 1 w.s w.g w.f),qK w.s] (.tup [.v (str w.done.1),.v (.int .i64 w.done.2)]) [.dead,.dead]:=by
 obtain ⟨ws,wg,wf⟩:=w
 dsimp only at *
 have hc:=fun g f=>Yo ws g f h0 (by omega)
 unfold WS.done
 cases wg<;>cases wf
 all_goals (refine qe (C:=C2) Tryd.func23 rfl _ Tryd.ntmps23 (Nat.le_of_ble_eq_true rfl) _ Tryd.results23 2 rfl rfl ?_)
 all_goals (repeat' (first|refine qn ?_|(first|(apply qc Tryd.func56 rfl rfl;intro hIsFn;refine VA 0 1 hIsFn ((hc _ _)) ?_))|((first|(apply qb;rfl;rfl;exact nle rfl)|(apply qa;rfl;rfl;exact nle rfl)|refine xsC ?_ ?_);all_goals (intro hc;have hp:=hc;try simp at hp;try (exfalso;omega)))|refine jn ?_ ?_))
 all_goals ((apply qx (rs:=[.tmp 2,.tmp 3]) [] 2;(case hr=>(repeat (first|exact qq|(apply qr;rfl)|(apply qm;rfl;rfl;rfl;rfl;rfl))));(case hL=>rfl);(case hh=>exact xY (xY qi (qf rfl)) (qf rfl));(case hi=>exact rfl);(case hz=>first|rfl|(simp [jE,AV.ren,AV.ren.renL,ja,qg,qV];done))))
end Go.Proofs.YtahbbnfmbohmmaaDoor
set_option linter.unusedSimpArgs false
set_option linter.unnecessarySimpa false
set_option linter.unusedVariables false
set_option maxHeartbeats 1000000
namespace Go.Proofs.YtahbbnfmbohmmaaDoor
open Go.Ab Go.RowKit
set_option maxRecDepth 10000
attribute [local irreducible] Awp jW jq jB Red qv Go.Ab.Fin qu Rz vn jv jm ResOk jA ji yk qP
structure Rqt.fit (r:Rqt):Prop where
 kind:xi r.kind
 who:r.who.length ≤ 1000000000
 folder:r.folder.length ≤ 1000000000
 name:r.name.length ≤ 1000000000
 key:r.key.length ≤ 1000000000
 text:r.text.length ≤ 1000000000
 number:xi r.number
 offset:xi r.offset
 base:xi r.base
 chs : ∀ c,c ∈ r.chs → c.fit
 len:r.chs.length ≤ 1000000000
def kI (r:Rqt):WS:=ws0.nums [r.kind]
def kJ (r:Rqt):WS:=(kI r).txts [r.who,r.folder,r.name,r.key,r.text]
def y3 (r:Rqt):WS:=(kJ r).nums [r.number,r.offset,r.base]
theorem Jw (w:WS) {ns:List Int} (h:ns ≠ []):(w.nums ns).s ≠ []:=by
 have : ∀ (ns:List Int) (w:WS),w.s ≠ [] ∨ ns ≠ [] → (w.nums ns).s ≠ []:=by
  intro ns
  induction ns with
  | nil =>
    intro w h
    rcases h with h|h
    ·exact h
    ·exact absurd rfl h
  | cons n ns ih=>intro w h;exact ih (w.num n) (.inl (by show w.s ++ (Lib.itoa n ++ [59]) ≠ [];simp))
 exact this ns w (.inr h)
theorem Yd (r:Rqt) (h:r.fit):(∀ s,s ∈ [r.who,r.folder,r.name,r.key,r.text] → s.length ≤ 1000000000) ∧ (∀ n,n ∈ [r.number,r.offset,r.base] → xi n) ∧ (kI r).s.length ≤ 22 ∧ (kJ r).s.length ≤ 6000000000 ∧ (y3 r).s.length ≤ 7000000000 ∧ (y3 r).s ≠ []:=by
 have q1 : ∀ s,s ∈ [r.who,r.folder,r.name,r.key,r.text] → s.length ≤ 1000000000:=fun s hs=>by
  simp only [List.mem_cons,List.not_mem_nil,or_false] at hs
  rcases hs with rfl|rfl|rfl|rfl|rfl
  ·exact h.who
  ·exact h.folder
  ·exact h.name
  ·exact h.key
  ·exact h.text
 have q2 : ∀ n,n ∈ [r.number,r.offset,r.base] → xi n:=fun s hs=>by
  simp only [List.mem_cons,List.not_mem_nil,or_false] at hs
  rcases hs with rfl|rfl|rfl
  ·exact h.number
  ·exact h.offset
  ·exact h.base
 have b1:(kI r).s.length ≤ 22:=by
  have:=zk ws0 r.kind h.kind
  have e:ws0.s.length = 0:=rfl
  show (ws0.nums [r.kind]).s.length ≤ 22
  omega
 have b2:(kJ r).s.length ≤ 6000000000:=by
  have:=va (kI r) _ q1
  simp only [List.length_cons,List.length_nil] at this
  show ((kI r).txts _).s.length ≤ _
  omega
 have b3:(y3 r).s.length ≤ 7000000000:=by
  have:=vU (kJ r) _ q2
  simp only [List.length_cons,List.length_nil] at this
  show ((kJ r).nums _).s.length ≤ _
  omega
 exact ⟨q1,q2,b1,b2,b3,Jw _ (by simp)⟩
set_option maxHeartbeats 2000000 in
theorem Je (r:Rqt) (h:r.fit):zr C.P 8 [.agg r.row] (.tup [.v (str (yr r).1),.v (.int .i64 (yr r).2)]):=by
 obtain ⟨q1,q2,b1,b2,b3,b4⟩:=Yd r h
 have c1:=QG [r.kind] (by simp) (xA h.kind) (by simp)
 have c2:=Ji (kI r) [r.who,r.folder,r.name,r.key,r.text] (by simp) q1 (by simp) (by omega)
 have c3:=yO (kJ r) [r.number,r.offset,r.base] (by simp) q2 (by simp) (by omega)
 have e1:ws0.nums [r.kind] = kI r:=rfl
 have e2:(kI r).txts [r.who,r.folder,r.name,r.key,r.text] = kJ r:=rfl
 have e3:(kJ r).nums [r.number,r.offset,r.base] = y3 r:=rfl
 have e4:yr r = ((y3 r).chgs r.chs).done:=rfl
 rw [e1] at c1
 rw [e2] at c2
 rw [e3] at c3
 rw [e4]
 cases hg:((y3 r).g || decide (20 < r.chs.length)) with
 | true =>
   have c4:=zM (y3 r) r.chs h.len hg
   have c5:=Jh ⟨(y3 r).s,true,(y3 r).f⟩ b4 (by dsimp only;omega)
   rw [show (y3 r).chgs r.chs = _ from XK hg]
   clear e1 e2 e3 e4 q1 q2 h hg
   generalize kI r = wA at *
   generalize kJ r = wB at *
   generalize y3 r = wC at *
   generalize (WS.mk wC.s true wC.f).done = D at *
   unfold Rqt.row
   refine qe Tryd.func8 rfl _ Tryd.ntmps8 (Nat.le_of_ble_eq_true rfl) _ Tryd.results8 0 rfl rfl ?_
   repeat' (first|(first|(apply y0;apply (zZ 53);rfl;rfl;exact nle rfl)|(refine xH ?_)|(apply qc Tryd.func20 rfl rfl;intro hIsFn;refine YX 1 hIsFn (c1) ?_)|(apply qc Tryd.func21 rfl rfl;intro hIsFn;refine xV 1 2 hIsFn (c2) ?_)|(apply qc Tryd.func20 rfl rfl;intro hIsFn;refine xV 1 3 hIsFn (c3) ?_)|(apply qc Tryd.func22 rfl rfl;intro hIsFn;refine X5 1 4 hIsFn (c4) ?_)|(apply qc Tryd.func23 rfl rfl;intro hIsFn;refine X6 1 4 hIsFn (c5) ?_))|refine qn ?_|((first|refine xsC ?_ ?_);all_goals (intro hc;have hp:=hc;try simp at hp;try (exfalso;omega)))|refine jn ?_ ?_)
   all_goals ((refine jP (rs:=[.tmp 2,.tmp 3]) ?_;(repeat' (first|exact jf|apply qS|exact qN rfl|exact jZ|exact xp|apply jx|apply jM|apply jy|apply jK|apply jl|apply jL|refine xo ?_|apply yi));all_goals rfl))
 | false =>
   have c4:=kC (y3 r) r.chs h.chs hg (by omega)
   obtain ⟨ee,_,hl20⟩:=YS (step:=WS.chg) hg
   have b5:((y3 r).chgs r.chs).s.length ≤ 100000000000000:=by
    have h1:=ke WS.chg Chg.fit 4000000000 (fun w x hx=>Jl w hx) r.chs ((y3 r).num r.chs.length) h.chs
    have h2:((y3 r).num r.chs.length).s.length ≤ (y3 r).s.length + 22:=zk _ _ ⟨by omega,by omega⟩
    have h3:r.chs.length * 4000000000 ≤ 20 * 4000000000:=Nat.mul_le_mul_right _ hl20
    rw [show (y3 r).chgs r.chs = _ from ee]
    omega
   have b6:((y3 r).chgs r.chs).s ≠ []:=by
    rw [show (y3 r).chgs r.chs = _ from ee]
    have : ∀ (l:List Chg) (w:WS),w.s ≠ [] → (l.foldl WS.chg w).s ≠ []:=by
     intro l
     induction l with
     | nil=>exact fun w h=>h
     | cons c l ih=>exact fun w h=>ih _ (Jw _ (by simp))
    exact this _ _ (by show (y3 r).s ++ _ ≠ [];simp [b4])
   have c5:=Jh ((y3 r).chgs r.chs) b6 b5
   clear e1 e2 e3 e4 q1 q2 h hg ee
   generalize (y3 r).chgs r.chs = wD at *
   generalize kI r = wA at *
   generalize kJ r = wB at *
   generalize y3 r = wC at *
   generalize wD.done = D at *
   unfold Rqt.row
   refine qe Tryd.func8 rfl _ Tryd.ntmps8 (Nat.le_of_ble_eq_true rfl) _ Tryd.results8 0 rfl rfl ?_
   repeat' (first|(first|(apply y0;apply (zZ 53);rfl;rfl;exact nle rfl)|(refine xH ?_)|(apply qc Tryd.func20 rfl rfl;intro hIsFn;refine YX 1 hIsFn (c1) ?_)|(apply qc Tryd.func21 rfl rfl;intro hIsFn;refine xV 1 2 hIsFn (c2) ?_)|(apply qc Tryd.func20 rfl rfl;intro hIsFn;refine xV 1 3 hIsFn (c3) ?_)|(apply qc Tryd.func22 rfl rfl;intro hIsFn;refine xV 1 4 hIsFn (c4) ?_)|(apply qc Tryd.func23 rfl rfl;intro hIsFn;refine X6 1 5 hIsFn (c5) ?_))|refine qn ?_|((first|refine xsC ?_ ?_);all_goals (intro hc;have hp:=hc;try simp at hp;try (exfalso;omega)))|refine jn ?_ ?_)
   all_goals ((refine jP (rs:=[.tmp 2,.tmp 3]) ?_;(repeat' (first|exact jf|apply qS|exact qN rfl|exact jZ|exact xp|apply jx|apply jM|apply jy|apply jK|apply jl|apply jL|refine xo ?_|apply yi));all_goals rfl))
end Go.Proofs.YtahbbnfmbohmmaaDoor
