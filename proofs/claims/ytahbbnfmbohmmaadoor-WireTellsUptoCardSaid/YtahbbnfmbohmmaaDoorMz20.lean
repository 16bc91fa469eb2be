import Derived.Test.YtahbbnfmbohmmaaDoorMz14
import Derived.Test.YtahbbnfmbohmmaaDoorMz19
import Derived.Lib.ItoaLen
import Derived.Test.YtahbbnfmbohmmaaDoorMz8
set_option linter.unusedSimpArgs false
set_option linter.unnecessarySimpa false
set_option linter.unusedVariables false
set_option maxHeartbeats 1000000
namespace Go.Proofs.YtahbbnfmbohmmaaDoor
open Go.Ab Go.RowKit
set_option maxRecDepth 10000
attribute [local irreducible] Awp jV jt jv Red qz Go.Ab.Fin qu Rz x0 ju jn ResOk jG jo yi qM
def ym (n:Int):List AV:=[.v (.int .i64 n)]
def xw (s:qp):List AV:=[.v (str s)]
theorem yI {n:Int} (h:yL n):(jR n).length ≤ 22:=by
 have:=Lib.itoa_length_le n h.1 h.2
 simp [jR]
 omega
theorem wu (w:WS) {ns:List Int} {i:Nat} (h:i < ns.length):w.nums (ns.take (i + 1)) = (w.nums (ns.take i)).num ns[i]:=by
 unfold WS.nums
 rw [List.take_succ_eq_append_getElem h,List.foldl_append]
 rfl
theorem vl (w:WS) : ∀ (ns:List Int),(∀ n,n ∈ ns → yL n) → (w.nums ns).s.length ≤ w.s.length + 22 * ns.length
 | [],_=>Nat.le_refl _
 | n :: ns,h=>by
   have h1:=vl (w.num n) ns (fun m hm=>h m (by simp [hm]))
   have h2:=yI (h n (by simp))
   have h3:(w.num n).s.length = w.s.length + (jR n).length:=List.length_append
   show ((w.num n).nums ns).s.length ≤ _
   simp only [List.length_cons]
   omega
theorem vL (w:WS) (ns:List Int) (i:Nat) (h : ∀ n,n ∈ ns → yL n) (hl:ns.length ≤ 10):(w.nums (ns.take i)).s.length ≤ w.s.length + 220:=by
 have h1:=vl w (ns.take i) (fun n hn=>h n (List.mem_of_mem_take hn))
 have h2:(ns.take i).length ≤ 10:=by rw [List.length_take];omega
 omega
set_option maxHeartbeats 4000000 in
theorem jH (w:WS) (ns:List Int) (h0:ns ≠ []) (hn : ∀ n,n ∈ ns → yL n) (hl:ns.length ≤ 10) (hw:w.s.length ≤ 100000000000000):qu C2.P 20 [.op 0 0 0,.sl true (ns.map ym)] [tyW (wrB 0 1 w.s w.g w.f),qw w.s] (.tup []) [tyW (wrB 0 2 (w.nums ns).s (w.nums ns).g (w.nums ns).f),.dead,qw (w.nums ns).s]:=by
 have hml:(ns.map ym).length = ns.length:=List.length_map ..
 have hpos:0 < ns.length:=by cases ns with|nil=>exact absurd rfl h0|cons _ _=>simp
 refine qe (C:=C2) Tryd.func20 rfl _ Tryd.ntmps20 (Nat.le_of_ble_eq_true rfl) _ Tryd.results20 2 rfl rfl ?_
 repeat' (first|refine ql ?_|fail|((first|(apply qb;rfl;rfl;exact nle rfl)|(apply qa;rfl;rfl;exact nle rfl)|refine xsC ?_ ?_);all_goals (intro hc;have hp:=hc;try simp at hp;try (exfalso;omega)))|refine jj ?_ ?_)
 (refine Awp.red (qF (τ:=⟨[(0,.op 0 0 0),(6,.sl true (ns.map ym)),(7,.v (.int .i64 (ns.length:Int))),(8,.v (.int .i64 ((0:Nat):Int)))],[(0,tyW (wrB 0 1 w.s w.g w.f)),(1,qw w.s)],2⟩) [] rfl ?gts2 ?ghs2) ?_;(case gts2=>(repeat (first|exact qq|refine jb ?_|refine yq ?_|refine jL ?_|refine yB ?_|refine jM ?_ ?_|refine yp ?_ ?_));all_goals rw [hml]);(case ghs2=>refine j4 (q:=0) (m:=1) rfl rfl (qd rfl) (qd rfl) ?_ ?_ ?_ qg;all_goals (first|(with_reducible rfl)|fail)))
 refine j8 (fun n σ => ∃ i:Nat,i ≤ ns.length ∧ n = ns.length - i ∧ ((i = 0 ∧ σ = ⟨[(0,.op 0 0 0),(6,.sl true (ns.map ym)),(7,.v (.int .i64 (ns.length:Int))),(8,.v (.int .i64 ((0:Nat):Int)))],[(0,tyW (wrB 0 1 w.s w.g w.f)),(1,qw w.s)],2⟩) ∨ (0 < i ∧ σ = ⟨[(0,.op 0 0 0),(6,.sl true (ns.map ym)),(7,.v (.int .i64 (ns.length:Int))),(8,.v (.int .i64 (i:Int)))],[(0,tyW (wrB 0 2 (w.nums (ns.take i)).s (w.nums (ns.take i)).g (w.nums (ns.take i)).f)),(2,qw (w.nums (ns.take i)).s)],3⟩))) ns.length ⟨0,Nat.zero_le _,rfl,.inl ⟨rfl,rfl⟩⟩ ?_
 rintro n σ ⟨i,hi,rfl,hst⟩
 have hs:=vL w ns i hn hl
 by_cases hlt:i < ns.length
 ·have hr:=yP (f:=ym) hlt
  have hx:=hn ns[i] (List.getElem_mem hlt)
  have hnx:=wu w hlt
  rcases hst with ⟨rfl,rfl⟩|⟨hp,rfl⟩
  ·generalize ns[0] = x at *
   rw [show w.nums (ns.take 0) = w from rfl] at hnx
   obtain ⟨ws,wg,wf⟩:=w
   have hb:=yI hx
   have hi21:=Lib.itoa_length_le x hx.1 hx.2
   have hbd:ws.length + (Lib.itoa x ++ [59]).length ≤ 140737488355328:=by have:(jR x).length = (Lib.itoa x ++ [59]).length:=rfl;simp only at hw;omega
   dsimp only at *
   cases wf
   all_goals (repeat' (first|refine ql ?_|(first|refine xsF Tryd.func53 (vd x hx.1 hx.2 ..) ?_|(apply qc Tryd.func52 rfl rfl;intro hIsFn;refine j5 0 1 hIsFn ((ve _ _ _ _ hbd)) ?_))|((first|(apply qb;rfl;rfl;exact nle rfl)|(apply qa;rfl;rfl;exact nle rfl)|refine xsC ?_ ?_);all_goals (intro hc;have hp:=hc;try simp at hp;try (exfalso;omega)))|refine jj ?_ ?_))
   all_goals try (exfalso;first|omega|(exact h0 (by assumption)))
   all_goals (refine ⟨ns.length - (0 + 1),⟨[(0,.op 0 0 0),(6,.sl true (ns.map ym)),(7,.v (.int .i64 (ns.length:Int))),(8,.v (.int .i64 ((0 + 1:Nat):Int)))],[(0,tyW (wrB 0 2 (ws ++ jR x) wg _)),(2,qw (ws ++ jR x))],3⟩,by omega,?_,⟨1,by omega,rfl,.inr ⟨Nat.zero_lt_one,by rw [hnx];rfl⟩⟩⟩;refine qF [(2,2)] rfl ?gts ?ghs;(case gts=>(repeat (first|exact qq|refine jb ?_|refine yq ?_|refine jL ?_|refine yB ?_|refine jM ?_ ?_|refine yp ?_ ?_));all_goals trace_state);(case ghs=>refine j4 (q:=0) (m:=2) rfl rfl (qd rfl) (qd rfl) ?_ ?_ ?_ qg;all_goals (first|(with_reducible rfl)|(simp only [WS.num,vY,hc,Bool.false_or,Bool.true_or];done)|rfl)))
  ·generalize ns[i] = x at *
   generalize w.nums (ns.take i) = v at *
   obtain ⟨ws,wg,wf⟩:=v
   have hb:=yI hx
   have hi21:=Lib.itoa_length_le x hx.1 hx.2
   have hbd:ws.length + (Lib.itoa x ++ [59]).length ≤ 140737488355328:=by have:(jR x).length = (Lib.itoa x ++ [59]).length:=rfl;simp only at hs;omega
   dsimp only at *
   cases wf
   all_goals (repeat' (first|refine ql ?_|(first|refine xsF Tryd.func53 (vd x hx.1 hx.2 ..) ?_|(apply qc Tryd.func52 rfl rfl;intro hIsFn;refine j5 0 2 hIsFn ((ve _ _ _ _ hbd)) ?_))|((first|(apply qb;rfl;rfl;exact nle rfl)|(apply qa;rfl;rfl;exact nle rfl)|refine xsC ?_ ?_);all_goals (intro hc;have hp:=hc;try simp at hp;try (exfalso;omega)))|refine jj ?_ ?_))
   all_goals try (exfalso;first|omega|(exact h0 (by assumption)))
   all_goals (refine ⟨ns.length - (i + 1),⟨[(0,.op 0 0 0),(6,.sl true (ns.map ym)),(7,.v (.int .i64 (ns.length:Int))),(8,.v (.int .i64 ((i + 1:Nat):Int)))],[(0,tyW (wrB 0 2 (ws ++ jR x) wg _)),(2,qw (ws ++ jR x))],3⟩,by omega,?_,⟨i + 1,by omega,rfl,.inr ⟨Nat.succ_pos _,by rw [hnx];rfl⟩⟩⟩;refine qF [(3,2)] rfl ?gts ?ghs;(case gts=>(repeat (first|exact qq|refine jb ?_|refine yq ?_|refine jL ?_|refine yB ?_|refine jM ?_ ?_|refine yp ?_ ?_));all_goals trace_state);(case ghs=>refine j4 (q:=0) (m:=3) rfl rfl (qd rfl) (qd rfl) ?_ ?_ ?_ qg;all_goals (first|(with_reducible rfl)|(simp only [WS.num,vY,hc,Bool.false_or,Bool.true_or];done)|rfl)))
 ·obtain rfl:i = ns.length:=by omega
  rw [List.take_length] at hst
  rcases hst with ⟨h1,_⟩|⟨hp,rfl⟩
  ·omega
  repeat' (first|refine ql ?_|fail|((first|(apply qb;rfl;rfl;exact nle rfl)|(apply qa;rfl;rfl;exact nle rfl)|refine xsC ?_ ?_);all_goals (intro hc;have hp:=hc;try simp at hp;try (exfalso;omega)))|refine jj ?_ ?_)
  all_goals try (exfalso;first|omega|(exact h0 (by assumption)))
  all_goals ((apply qv (rs:=[]) [(2,2)] 3;(case hr=>(repeat (first|exact qm|(apply qn;rfl)|(apply qk;rfl;rfl;rfl;rfl;rfl))));(case hL=>rfl);(case hh=>refine xR (q:=0) (m:=2) rfl rfl (qd rfl) (qd rfl) (qd rfl) ?_ ?_ ?_ qg;all_goals (first|(with_reducible rfl)|fail));(case hi=>exact rfl);(case hz=>first|rfl|(simp [jw,AV.ren,AV.ren.renL,qV,qi,qI];done))))
end Go.Proofs.YtahbbnfmbohmmaaDoor
set_option linter.unusedSimpArgs false
set_option linter.unnecessarySimpa false
set_option linter.unusedVariables false
set_option maxHeartbeats 1000000
namespace Go.Proofs.YtahbbnfmbohmmaaDoor
open Go.Ab Go.RowKit
set_option maxRecDepth 10000
attribute [local irreducible] Awp jV jt jv Red qz Go.Ab.Fin qu Rz x0 ju jn ResOk jG jo yi qM
theorem Va (ns:List Int) (i:Nat) (h : ∀ n,n ∈ ns → yL n) (hl:ns.length ≤ 10):(ws0.nums (ns.take i)).s.length ≤ 220:=by
 have:=vL ws0 ns i h hl
 have e:ws0.s.length = 0:=rfl
 omega
set_option maxHeartbeats 4000000 in
theorem kh (ns:List Int) (h0:ns ≠ []) (hn : ∀ n,n ∈ ns → yL n) (hl:ns.length ≤ 10):qu C1.P 20 [.op 0 0 0,.sl true (ns.map ym)] [tyW (Vc false false)] (.tup []) [tyW (wrB 0 1 (ws0.nums ns).s (ws0.nums ns).g (ws0.nums ns).f),qw (ws0.nums ns).s]:=by
 have hml:(ns.map ym).length = ns.length:=List.length_map ..
 have hpos:0 < ns.length:=by cases ns with|nil=>exact absurd rfl h0|cons _ _=>simp
 refine qe (C:=C1) Tryd.func20 rfl _ Tryd.ntmps20 (Nat.le_of_ble_eq_true rfl) _ Tryd.results20 1 rfl rfl ?_
 repeat' (first|refine ql ?_|fail|((first|(apply qb;rfl;rfl;exact nle rfl)|(apply qa;rfl;rfl;exact nle rfl)|refine xsC ?_ ?_);all_goals (intro hc;have hp:=hc;try simp at hp;try (exfalso;omega)))|refine jj ?_ ?_)
 (refine Awp.red (qF (τ:=⟨[(0,.op 0 0 0),(6,.sl true (ns.map ym)),(7,.v (.int .i64 (ns.length:Int))),(8,.v (.int .i64 ((0:Nat):Int)))],[(0,tyW (Vc false false))],1⟩) [] rfl ?gts2 ?ghs2) ?_;(case gts2=>(repeat (first|exact qq|refine jb ?_|refine yq ?_|refine jL ?_|refine yB ?_|refine jM ?_ ?_|refine yp ?_ ?_));all_goals rw [hml]);(case ghs2=>exact Vu (q:=0) rfl (qd rfl) qg))
 refine j8 (fun n σ => ∃ i:Nat,i ≤ ns.length ∧ n = ns.length - i ∧ ((i = 0 ∧ σ = ⟨[(0,.op 0 0 0),(6,.sl true (ns.map ym)),(7,.v (.int .i64 (ns.length:Int))),(8,.v (.int .i64 ((0:Nat):Int)))],[(0,tyW (Vc false false))],1⟩) ∨ (0 < i ∧ σ = ⟨[(0,.op 0 0 0),(6,.sl true (ns.map ym)),(7,.v (.int .i64 (ns.length:Int))),(8,.v (.int .i64 (i:Int)))],[(0,tyW (wrB 0 1 (ws0.nums (ns.take i)).s (ws0.nums (ns.take i)).g (ws0.nums (ns.take i)).f)),(1,qw (ws0.nums (ns.take i)).s)],2⟩))) ns.length ⟨0,Nat.zero_le _,rfl,.inl ⟨rfl,rfl⟩⟩ ?_
 rintro n σ ⟨i,hi,rfl,hst⟩
 have hs:=Va ns i hn hl
 by_cases hlt:i < ns.length
 ·have hr:=yP (f:=ym) hlt
  have hx:=hn ns[i] (List.getElem_mem hlt)
  have hnx:=wu ws0 hlt
  rcases hst with ⟨rfl,rfl⟩|⟨hp,rfl⟩
  ·generalize ns[0] = x at *
   rw [show ws0.nums (ns.take 0) = ws0 from rfl] at hnx
   have hb:=yI hx
   have hi21:=Lib.itoa_length_le x hx.1 hx.2
   have hbd:(Lib.itoa x ++ [59]).length ≤ 140737488355328:=by have:(jR x).length = (Lib.itoa x ++ [59]).length:=rfl;omega
   have hne:Lib.itoa x ++ [59] ≠ []:=by simp
   (repeat' (first|refine ql ?_|(first|refine xsF Tryd.func53 (vd x hx.1 hx.2 ..) ?_|(apply qc Tryd.func52 rfl rfl;intro hIsFn;refine wv 0 hIsFn ((Y8 _ _ _ hne hbd)) ?_))|((first|(apply qb;rfl;rfl;exact nle rfl)|(apply qa;rfl;rfl;exact nle rfl)|refine xsC ?_ ?_);all_goals (intro hc;have hp:=hc;try simp at hp;try (exfalso;omega)))|refine jj ?_ ?_))
   all_goals try (exfalso;first|omega|(exact h0 (by assumption)))
   all_goals (refine ⟨ns.length - (0 + 1),⟨[(0,.op 0 0 0),(6,.sl true (ns.map ym)),(7,.v (.int .i64 (ns.length:Int))),(8,.v (.int .i64 ((0 + 1:Nat):Int)))],[(0,tyW (wrB 0 1 ([] ++ jR x) false _)),(1,qw ([] ++ jR x))],2⟩,by omega,?_,⟨1,by omega,rfl,.inr ⟨Nat.zero_lt_one,by rw [hnx];rfl⟩⟩⟩;refine qF [(1,1)] rfl ?gts ?ghs;(case gts=>(repeat (first|exact qq|refine jb ?_|refine yq ?_|refine jL ?_|refine yB ?_|refine jM ?_ ?_|refine yp ?_ ?_));all_goals trace_state);(case ghs=>refine j4 (q:=0) (m:=1) rfl rfl (qd rfl) (qd rfl) ?_ ?_ ?_ qg;all_goals (first|(with_reducible rfl)|(simp only [WS.num,ws0,vY,hc,Bool.false_or,Bool.true_or];done)|rfl)))
  ·generalize ns[i] = x at *
   generalize ws0.nums (ns.take i) = v at *
   obtain ⟨ws,wg,wf⟩:=v
   have hb:=yI hx
   have hi21:=Lib.itoa_length_le x hx.1 hx.2
   have hbd:ws.length + (Lib.itoa x ++ [59]).length ≤ 140737488355328:=by have:(jR x).length = (Lib.itoa x ++ [59]).length:=rfl;simp only at hs;omega
   dsimp only at *
   cases wf
   all_goals (repeat' (first|refine ql ?_|(first|refine xsF Tryd.func53 (vd x hx.1 hx.2 ..) ?_|(apply qc Tryd.func52 rfl rfl;intro hIsFn;refine j5 0 1 hIsFn ((ve _ _ _ _ hbd)) ?_))|((first|(apply qb;rfl;rfl;exact nle rfl)|(apply qa;rfl;rfl;exact nle rfl)|refine xsC ?_ ?_);all_goals (intro hc;have hp:=hc;try simp at hp;try (exfalso;omega)))|refine jj ?_ ?_))
   all_goals try (exfalso;first|omega|(exact h0 (by assumption)))
   all_goals (refine ⟨ns.length - (i + 1),⟨[(0,.op 0 0 0),(6,.sl true (ns.map ym)),(7,.v (.int .i64 (ns.length:Int))),(8,.v (.int .i64 ((i + 1:Nat):Int)))],[(0,tyW (wrB 0 1 (ws ++ jR x) wg _)),(1,qw (ws ++ jR x))],2⟩,by omega,?_,⟨i + 1,by omega,rfl,.inr ⟨Nat.succ_pos _,by rw [hnx];rfl⟩⟩⟩;refine qF [(2,1)] rfl ?gts ?ghs;(case gts=>(repeat (first|exact qq|refine jb ?_|refine yq ?_|refine jL ?_|refine yB ?_|refine jM ?_ ?_|refine yp ?_ ?_));all_goals trace_state);(case ghs=>refine j4 (q:=0) (m:=2) rfl rfl (qd rfl) (qd rfl) ?_ ?_ ?_ qg;all_goals (first|(with_reducible rfl)|(simp only [WS.num,vY,hc,Bool.false_or,Bool.true_or];done)|rfl)))
 ·obtain rfl:i = ns.length:=by omega
  rw [List.take_length] at hst
  rcases hst with ⟨h1,_⟩|⟨hp,rfl⟩
  ·omega
  repeat' (first|refine ql ?_|fail|((first|(apply qb;rfl;rfl;exact nle rfl)|(apply qa;rfl;rfl;exact nle rfl)|refine xsC ?_ ?_);all_goals (intro hc;have hp:=hc;try simp at hp;try (exfalso;omega)))|refine jj ?_ ?_)
  all_goals try (exfalso;first|omega|(exact h0 (by assumption)))
  all_goals ((apply qv (rs:=[]) [(1,1)] 2;(case hr=>(repeat (first|exact qm|(apply qn;rfl)|(apply qk;rfl;rfl;rfl;rfl;rfl))));(case hL=>rfl);(case hh=>refine j4 (q:=0) (m:=1) rfl rfl (qd rfl) (qd rfl) ?_ ?_ ?_ qg;all_goals (first|(with_reducible rfl)|fail));(case hi=>exact rfl);(case hz=>first|rfl|(simp [jw,AV.ren,AV.ren.renL,qV,qi,qI];done))))
theorem YU (w:WS) {l:List qp} {i:Nat} (h:i < l.length):w.txts (l.take (i + 1)) = (w.txts (l.take i)).txt l[i]:=by
 unfold WS.txts
 rw [List.take_succ_eq_append_getElem h,List.foldl_append]
 rfl
theorem xG (w:WS) : ∀ (l:List qp),(∀ s,s ∈ l → s.length ≤ 1000000000) → (w.txts l).s.length ≤ w.s.length + 1000000022 * l.length
 | [],_=>Nat.le_refl _
 | s :: l,h=>by
   have h1:=xG (w.txt s) l (fun m hm=>h m (by simp [hm]))
   have h0:=h s (by simp)
   have h2:=yI (n:=(s.length:Int)) ⟨by omega,by omega⟩
   have h3:(w.txt s).s.length = w.s.length + ((jR s.length).length + s.length):=by
    show (w.s ++ (jR s.length ++ s)).length = _
    rw [List.length_append,List.length_append]
   show ((w.txt s).txts l).s.length ≤ _
   simp only [List.length_cons]
   omega
theorem wi (w:WS) (l:List qp) (i:Nat) (h : ∀ s,s ∈ l → s.length ≤ 1000000000) (hl:l.length ≤ 10):(w.txts (l.take i)).s.length ≤ w.s.length + 10000000220:=by
 have h1:=xG w (l.take i) (fun n hn=>h n (List.mem_of_mem_take hn))
 have h2:(l.take i).length ≤ 10:=by rw [List.length_take];omega
 omega
end Go.Proofs.YtahbbnfmbohmmaaDoor
set_option linter.unusedSimpArgs false
set_option linter.unnecessarySimpa false
set_option linter.unusedVariables false
set_option maxHeartbeats 1000000
namespace Go.Proofs.YtahbbnfmbohmmaaDoor
open Go.Ab Go.RowKit
set_option maxRecDepth 10000
attribute [local irreducible] Awp jV jt jv Red qz Go.Ab.Fin qu Rz x0 ju jn ResOk jG jo yi qM
theorem yc {n:Int} (h:yL n) : ∀ m,m ∈ [n] → yL m:=fun m hm=>by simp only [List.mem_singleton] at hm;exact hm ▸ h
set_option maxHeartbeats 4000000 in
theorem zf (w:WS) (l:List qp) (h0:l ≠ []) (hn : ∀ s,s ∈ l → s.length ≤ 1000000000) (hl:l.length ≤ 10) (hw:w.s.length ≤ 99000000000000):qu C2.P 21 [.op 0 0 0,.sl true (l.map xw)] [tyW (wrB 0 1 w.s w.g w.f),qw w.s] (.tup []) [tyW (wrB 0 2 (w.txts l).s (w.txts l).g (w.txts l).f),.dead,qw (w.txts l).s]:=by
 have hml:(l.map xw).length = l.length:=List.length_map ..
 have hpos:0 < l.length:=by cases l with|nil=>exact absurd rfl h0|cons _ _=>simp
 refine qe (C:=C2) Tryd.func21 rfl _ Tryd.ntmps21 (Nat.le_of_ble_eq_true rfl) _ Tryd.results21 2 rfl rfl ?_
 repeat' (first|refine ql ?_|fail|((first|(apply qb;rfl;rfl;exact nle rfl)|(apply qa;rfl;rfl;exact nle rfl)|refine xsC ?_ ?_);all_goals (intro hc;have hp:=hc;try simp at hp;try (exfalso;omega)))|refine jj ?_ ?_)
 (refine Awp.red (qF (τ:=⟨[(0,.op 0 0 0),(6,.sl true (l.map xw)),(7,.v (.int .i64 (l.length:Int))),(8,.v (.int .i64 ((0:Nat):Int)))],[(0,tyW (wrB 0 1 w.s w.g w.f)),(1,qw w.s)],2⟩) [] rfl ?gts2 ?ghs2) ?_;(case gts2=>(repeat (first|exact qq|refine jb ?_|refine yq ?_|refine jL ?_|refine yB ?_|refine jM ?_ ?_|refine yp ?_ ?_));all_goals rw [hml]);(case ghs2=>refine j4 (q:=0) (m:=1) rfl rfl (qd rfl) (qd rfl) ?_ ?_ ?_ qg;all_goals (first|(with_reducible rfl)|fail)))
 refine j8 (fun n σ => ∃ i:Nat,i ≤ l.length ∧ n = l.length - i ∧ ((i = 0 ∧ σ = ⟨[(0,.op 0 0 0),(6,.sl true (l.map xw)),(7,.v (.int .i64 (l.length:Int))),(8,.v (.int .i64 ((0:Nat):Int)))],[(0,tyW (wrB 0 1 w.s w.g w.f)),(1,qw w.s)],2⟩) ∨ (0 < i ∧ σ = ⟨[(0,.op 0 0 0),(6,.sl true (l.map xw)),(7,.v (.int .i64 (l.length:Int))),(8,.v (.int .i64 (i:Int)))],[(0,tyW (wrB 0 2 (w.txts (l.take i)).s (w.txts (l.take i)).g (w.txts (l.take i)).f)),(2,qw (w.txts (l.take i)).s)],3⟩))) l.length ⟨0,Nat.zero_le _,rfl,.inl ⟨rfl,rfl⟩⟩ ?_
 rintro n σ ⟨i,hi,rfl,hst⟩
 have hs:=wi w l i hn hl
 by_cases hlt:i < l.length
 ·have hr:=yP (f:=xw) hlt
  have hx:=hn l[i] (List.getElem_mem hlt)
  have hnx:=YU w hlt
  rcases hst with ⟨rfl,rfl⟩|⟨hp,rfl⟩
  ·generalize l[0] = x at *
   rw [show w.txts (l.take 0) = w from rfl] at hnx hs
   obtain ⟨ws,wg,wf⟩:=w
   dsimp only at *
   have hi64:yL (x.length:Int):=⟨by omega,by omega⟩
   have hb:=yI hi64
   have hbd : ∀ g f,((WS.mk ws g f).nums [(x.length:Int)]).s.length + x.length ≤ 140737488355328:=fun g f=>by
    have:((WS.mk ws g f).nums [(x.length:Int)]).s.length = ws.length + (jR (x.length:Int)).length:=List.length_append
    omega
   have hwb:ws.length ≤ 100000000000000:=by omega
   have hgt:decide (1000 < x.length) = decide ((1000:Int) < (x.length:Int)):=by rw [decide_eq_decide];omega
   cases wg
   all_goals (repeat' (first|refine ql ?_|(first|(refine yl ?_)|(apply qc Tryd.func20 rfl rfl;intro hIsFn;refine j5 0 1 hIsFn ((jH ⟨ws,_,wf⟩ [(x.length:Int)] (by simp) (yc hi64) (by simp) hwb)) ?_)|(apply qc Tryd.func52 rfl rfl;intro hIsFn;refine j5 0 2 hIsFn ((ve _ _ _ _ (hbd _ _))) ?_))|((first|(apply qb;rfl;rfl;exact nle rfl)|(apply qa;rfl;rfl;exact nle rfl)|refine xsC ?_ ?_);all_goals (intro hc;have hp:=hc;try simp at hp;try (exfalso;omega)))|refine jj ?_ ?_))
   all_goals try (exfalso;first|omega|(exact h0 (by assumption)))
   all_goals (refine ⟨l.length - (0 + 1),⟨[(0,.op 0 0 0),(6,.sl true (l.map xw)),(7,.v (.int .i64 (l.length:Int))),(8,.v (.int .i64 ((0 + 1:Nat):Int)))],[(0,tyW (wrB 0 2 (ws ++ xq x) _ _)),(2,qw (ws ++ xq x))],3⟩,by omega,?_,⟨0 + 1,by omega,rfl,.inr ⟨Nat.succ_pos _,by rw [hnx];rfl⟩⟩⟩;refine qF [(3,2)] rfl ?gts ?ghs;(case gts=>(repeat (first|exact qq|refine jb ?_|refine yq ?_|refine jL ?_|refine yB ?_|refine jM ?_ ?_|refine yp ?_ ?_));all_goals trace_state);(case ghs=>refine j4 (q:=0) (m:=3) rfl rfl (qd rfl) (qd rfl) ?_ ?_ ?_ qg;all_goals (first|(with_reducible rfl)|(exact List.append_assoc ws (jR (x.length:Int)) x)|(simp only [WS.txt,WS.nums,List.foldl_cons,List.foldl_nil,WS.num,hgt,hc,Bool.false_or,Bool.true_or];done)|rfl|(show _ = (Bool.or false (decide (1000 < x.length)));rw [Bool.false_or,hgt];rfl))))
  ·generalize l[i] = x at *
   generalize w.txts (l.take i) = v at *
   obtain ⟨ws,wg,wf⟩:=v
   dsimp only at *
   have hi64:yL (x.length:Int):=⟨by omega,by omega⟩
   have hb:=yI hi64
   have hbd : ∀ g f,((WS.mk ws g f).nums [(x.length:Int)]).s.length + x.length ≤ 140737488355328:=fun g f=>by
    have:((WS.mk ws g f).nums [(x.length:Int)]).s.length = ws.length + (jR (x.length:Int)).length:=List.length_append
    omega
   have hwb:ws.length ≤ 100000000000000:=by omega
   have hgt:decide (1000 < x.length) = decide ((1000:Int) < (x.length:Int)):=by rw [decide_eq_decide];omega
   cases wg
   all_goals (repeat' (first|refine ql ?_|(first|(refine yl ?_)|(apply qc Tryd.func20 rfl rfl;intro hIsFn;refine j5 0 2 hIsFn ((jH ⟨ws,_,wf⟩ [(x.length:Int)] (by simp) (yc hi64) (by simp) hwb)) ?_)|(apply qc Tryd.func52 rfl rfl;intro hIsFn;refine j5 0 3 hIsFn ((ve _ _ _ _ (hbd _ _))) ?_))|((first|(apply qb;rfl;rfl;exact nle rfl)|(apply qa;rfl;rfl;exact nle rfl)|refine xsC ?_ ?_);all_goals (intro hc;have hp:=hc;try simp at hp;try (exfalso;omega)))|refine jj ?_ ?_))
   all_goals try (exfalso;first|omega|(exact h0 (by assumption)))
   all_goals (refine ⟨l.length - (i + 1),⟨[(0,.op 0 0 0),(6,.sl true (l.map xw)),(7,.v (.int .i64 (l.length:Int))),(8,.v (.int .i64 ((i + 1:Nat):Int)))],[(0,tyW (wrB 0 2 (ws ++ xq x) _ _)),(2,qw (ws ++ xq x))],3⟩,by omega,?_,⟨i + 1,by omega,rfl,.inr ⟨Nat.succ_pos _,by rw [hnx];rfl⟩⟩⟩;refine qF [(4,2)] rfl ?gts ?ghs;(case gts=>(repeat (first|exact qq|refine jb ?_|refine yq ?_|refine jL ?_|refine yB ?_|refine jM ?_ ?_|refine yp ?_ ?_));all_goals trace_state);(case ghs=>refine j4 (q:=0) (m:=4) rfl rfl (qd rfl) (qd rfl) ?_ ?_ ?_ qg;all_goals (first|(with_reducible rfl)|(exact List.append_assoc ws (jR (x.length:Int)) x)|(simp only [WS.txt,WS.nums,List.foldl_cons,List.foldl_nil,WS.num,hgt,hc,Bool.false_or,Bool.true_or];done)|rfl|(show _ = (Bool.or false (decide (1000 < x.length)));rw [Bool.false_or,hgt];rfl))))
 ·obtain rfl:i = l.length:=by omega
  rw [List.take_length] at hst
  rcases hst with ⟨h1,_⟩|⟨hp,rfl⟩
  ·omega
  repeat' (first|refine ql ?_|fail|((first|(apply qb;rfl;rfl;exact nle rfl)|(apply qa;rfl;rfl;exact nle rfl)|refine xsC ?_ ?_);all_goals (intro hc;have hp:=hc;try simp at hp;try (exfalso;omega)))|refine jj ?_ ?_)
  all_goals try (exfalso;first|omega|(exact h0 (by assumption)))
  all_goals ((apply qv (rs:=[]) [(2,2)] 3;(case hr=>(repeat (first|exact qm|(apply qn;rfl)|(apply qk;rfl;rfl;rfl;rfl;rfl))));(case hL=>rfl);(case hh=>refine xR (q:=0) (m:=2) rfl rfl (qd rfl) (qd rfl) (qd rfl) ?_ ?_ ?_ qg;all_goals (first|(with_reducible rfl)|fail));(case hi=>exact rfl);(case hz=>first|rfl|(simp [jw,AV.ren,AV.ren.renL,qV,qi,qI];done))))
set_option maxHeartbeats 1000000 in
theorem Ji (w:WS) (b:Bool) (hw:w.s.length ≤ 100000000000000):qu C2.P 37 [.op 0 0 0,.v (.bool b)] [tyW (wrB 0 1 w.s w.g w.f),qw w.s] (.tup []) [tyW (wrB 0 2 (w.yes b).s (w.yes b).g (w.yes b).f),.dead,qw (w.yes b).s]:=by
 cases b
 ·have hc:=jH w [0] (by simp) (yc ⟨by decide,by decide⟩) (by simp) hw
  refine qe (C:=C2) Tryd.func37 rfl _ Tryd.ntmps37 (Nat.le_of_ble_eq_true rfl) _ Tryd.results37 2 rfl rfl ?_
  repeat' (first|refine ql ?_|(first|(refine yl ?_)|(apply qc Tryd.func20 rfl rfl;intro hIsFn;refine j5 0 1 hIsFn (hc) ?_))|((first|(apply qb;rfl;rfl;exact nle rfl)|(apply qa;rfl;rfl;exact nle rfl)|refine xsC ?_ ?_);all_goals (intro hc;have hp:=hc;try simp at hp;try (exfalso;omega)))|refine jj ?_ ?_)
  all_goals ((apply qv (rs:=[]) [(2,2)] 3;(case hr=>(repeat (first|exact qm|(apply qn;rfl)|(apply qk;rfl;rfl;rfl;rfl;rfl))));(case hL=>rfl);(case hh=>refine xR (q:=0) (m:=2) rfl rfl (qd rfl) (qd rfl) (qd rfl) ?_ ?_ ?_ qg;all_goals (first|(with_reducible rfl)|rfl));(case hi=>exact rfl);(case hz=>first|rfl|(simp [jw,AV.ren,AV.ren.renL,qV,qi,qI];done))))
 ·have hc:=jH w [1] (by simp) (yc ⟨by decide,by decide⟩) (by simp) hw
  refine qe (C:=C2) Tryd.func37 rfl _ Tryd.ntmps37 (Nat.le_of_ble_eq_true rfl) _ Tryd.results37 2 rfl rfl ?_
  repeat' (first|refine ql ?_|(first|(refine yl ?_)|(apply qc Tryd.func20 rfl rfl;intro hIsFn;refine j5 0 1 hIsFn (hc) ?_))|((first|(apply qb;rfl;rfl;exact nle rfl)|(apply qa;rfl;rfl;exact nle rfl)|refine xsC ?_ ?_);all_goals (intro hc;have hp:=hc;try simp at hp;try (exfalso;omega)))|refine jj ?_ ?_)
  all_goals ((apply qv (rs:=[]) [(2,2)] 3;(case hr=>(repeat (first|exact qm|(apply qn;rfl)|(apply qk;rfl;rfl;rfl;rfl;rfl))));(case hL=>rfl);(case hh=>refine xR (q:=0) (m:=2) rfl rfl (qd rfl) (qd rfl) (qd rfl) ?_ ?_ ?_ qg;all_goals (first|(with_reducible rfl)|rfl));(case hi=>exact rfl);(case hz=>first|rfl|(simp [jw,AV.ren,AV.ren.renL,qV,qi,qI];done))))
theorem yo (w:WS) (n:Int) (h:yL n):(w.nums [n]).s.length ≤ w.s.length + 22:=by
 have:=vl w [n] (yc h)
 simpa using this
structure Chg.fit (c:Chg):Prop where
 kind:yL c.kind
 path:c.path.length ≤ 1000000000
 tto:c.to.length ≤ 1000000000
 text:c.text.length ≤ 1000000000
 base:yL c.base
theorem wX (w:WS) {c:Chg} (h:c.fit):(w.chg c).s.length ≤ w.s.length + 4000000000:=by
 have h1:=yo w c.kind h.kind
 have h2:=xG (w.nums [c.kind]) [c.path,c.to,c.text] (fun s hs=>by
  simp only [List.mem_cons,List.not_mem_nil,or_false] at hs
  rcases hs with rfl|rfl|rfl
  ·exact h.path
  ·exact h.tto
  ·exact h.text)
 have h3:=yo ((w.nums [c.kind]).txts [c.path,c.to,c.text]) c.base h.base
 simp only [List.length_cons,List.length_nil] at h2
 show (((w.nums [c.kind]).txts [c.path,c.to,c.text]).nums [c.base]).s.length ≤ _
 omega
set_option maxHeartbeats 2000000 in
theorem Yo (w:WS) (c:Chg) (h:c.fit) (hw:w.s.length ≤ 98000000000000):qu C2.P 55 [.op 0 0 0,.agg c.row] [tyW (wrB 0 1 w.s w.g w.f),qw w.s] (.tup []) [tyW (wrB 0 2 (w.chg c).s (w.chg c).g (w.chg c).f),.dead,qw (w.chg c).s]:=by
 have ht : ∀ s,s ∈ [c.path,c.to,c.text] → s.length ≤ 1000000000:=fun s hs=>by
  simp only [List.mem_cons,List.not_mem_nil,or_false] at hs
  rcases hs with rfl|rfl|rfl
  ·exact h.path
  ·exact h.tto
  ·exact h.text
 have b1:=yo w c.kind h.kind
 have b2:=xG (w.nums [c.kind]) [c.path,c.to,c.text] ht
 simp only [List.length_cons,List.length_nil] at b2
 have c1:=jH w [c.kind] (by simp) (yc h.kind) (by simp) (by omega)
 have c2:=zf (w.nums [c.kind]) [c.path,c.to,c.text] (by simp) ht (by simp) (by omega)
 have c3:=jH ((w.nums [c.kind]).txts [c.path,c.to,c.text]) [c.base] (by simp) (yc h.base) (by simp) (by omega)
 have hE:w.chg c = ((w.nums [c.kind]).txts [c.path,c.to,c.text]).nums [c.base]:=rfl
 rw [hE]
 clear hE b1 b2 ht h hw
 unfold Chg.row
 generalize ((w.nums [c.kind]).txts [c.path,c.to,c.text]).nums [c.base] = w3 at *
 generalize (w.nums [c.kind]).txts [c.path,c.to,c.text] = w2 at *
 generalize w.nums [c.kind] = w1 at *
 refine qe (C:=C2) Tryd.func55 rfl _ Tryd.ntmps55 (Nat.le_of_ble_eq_true rfl) _ Tryd.results55 2 rfl rfl ?_
 repeat' (first|refine ql ?_|(first|(refine yl ?_)|(apply qc Tryd.func20 rfl rfl;intro hIsFn;refine j5 0 1 hIsFn (c1) ?_)|(apply qc Tryd.func21 rfl rfl;intro hIsFn;refine j5 0 3 hIsFn (c2) ?_)|(apply qc Tryd.func20 rfl rfl;intro hIsFn;refine j5 0 4 hIsFn (c3) ?_))|((first|(apply qb;rfl;rfl;exact nle rfl)|(apply qa;rfl;rfl;exact nle rfl)|refine xsC ?_ ?_);all_goals (intro hc;have hp:=hc;try simp at hp;try (exfalso;omega)))|refine jj ?_ ?_)
 all_goals ((apply qv (rs:=[]) [(5,2)] 3;(case hr=>(repeat (first|exact qm|(apply qn;rfl)|(apply qk;rfl;rfl;rfl;rfl;rfl))));(case hL=>rfl);(case hh=>refine xR (q:=0) (m:=5) rfl rfl (qd rfl) (qd rfl) (qd rfl) ?_ ?_ ?_ qg;all_goals (first|(with_reducible rfl)|rfl));(case hi=>exact rfl);(case hz=>first|rfl|(simp [jw,AV.ren,AV.ren.renL,qV,qi,qI];done))))
end Go.Proofs.YtahbbnfmbohmmaaDoor
set_option linter.unusedSimpArgs false
set_option linter.unnecessarySimpa false
set_option linter.unusedVariables false
set_option maxHeartbeats 1000000
namespace Go.Proofs.YtahbbnfmbohmmaaDoor
open Go.Ab Go.RowKit
set_option maxRecDepth 10000
attribute [local irreducible] Awp jV jt jv Red qz Go.Ab.Fin qu Rz x0 ju jn ResOk jG jo yi qM
theorem zC {α:Type} (step:WS → α → WS) (w:WS) {l:List α} {i:Nat} (h:i < l.length):(l.take (i + 1)).foldl step w = step ((l.take i).foldl step w) l[i]:=by
 rw [List.take_succ_eq_append_getElem h,List.foldl_append]
 rfl
theorem yf {α:Type} (step:WS → α → WS) (fit:α → Prop) (K:Nat) (hs : ∀ w x,fit x → (step w x).s.length ≤ w.s.length + K) : ∀ (l:List α) (w:WS),(∀ x,x ∈ l → fit x) → (l.foldl step w).s.length ≤ w.s.length + l.length * K
 | [],w,_=>by simp
 | x :: l,w,h=>by
   have h1:=yf step fit K hs l (step w x) (fun y hy=>h y (by simp [hy]))
   have h2:=hs w x (h x (by simp))
   rw [List.foldl_cons,List.length_cons,Nat.add_mul]
   omega
theorem QD (w:WS) (l:List Chg) (hl:l.length ≤ 1000000000) (hg:(w.g || decide (20 < l.length)) = true):qu C2.P 54 [.op 0 0 0,yt l,.v (.int .i64 20),.clo (.func 55) [.op 0 0 0] []] [tyW (wrB 0 1 w.s w.g w.f),qw w.s] (.tup []) [tyW (wrB 0 1 w.s true w.f),qw w.s]:=by
 have hml:(l.map Chg.row).length = l.length:=List.length_map ..
 obtain ⟨ws,wg,wf⟩:=w
 dsimp only at *
 cases wg
 all_goals unfold yt
 all_goals (refine qe (C:=C2) Tryd.func54 rfl _ Tryd.ntmps54 (Nat.le_of_ble_eq_true rfl) _ Tryd.results54 2 rfl rfl ?_)
 all_goals (repeat' (first|refine ql ?_|fail|((first|(apply qb;rfl;rfl;exact nle rfl)|(apply qa;rfl;rfl;exact nle rfl)|refine xsC ?_ ?_);all_goals (intro hc;have hp:=hc;try simp at hp;try (exfalso;omega)))|refine jj ?_ ?_))
 all_goals try (exfalso;simp only [Bool.false_or,Bool.true_or,decide_eq_true_eq,hml] at hg;first|omega|(simp at hc;omega);done)
 all_goals ((apply qv (rs:=[]) [] 2;(case hr=>(repeat (first|exact qm|(apply qn;rfl)|(apply qk;rfl;rfl;rfl;rfl;rfl))));(case hL=>rfl);(case hh=>refine j4 (q:=0) (m:=1) rfl rfl (qd rfl) (qd rfl) ?_ ?_ ?_ qg;all_goals (first|(with_reducible rfl)|rfl|exact hc));(case hi=>exact rfl);(case hz=>first|rfl|(simp [jw,AV.ren,AV.ren.renL,qV,qi,qI];done))))
set_option maxHeartbeats 4000000 in
theorem Jh (w:WS) (l:List Chg) (hfit : ∀ c,c ∈ l → c.fit) (hg:w.g = false) (hl:l.length ≤ 20) (hw:w.s.length ≤ 97000000000000):qu C2.P 54 [.op 0 0 0,yt l,.v (.int .i64 20),.clo (.func 55) [.op 0 0 0] []] [tyW (wrB 0 1 w.s w.g w.f),qw w.s] (.tup []) [tyW (wrB 0 2 (l.foldl WS.chg (w.num l.length)).s (l.foldl WS.chg (w.num l.length)).g (l.foldl WS.chg (w.num l.length)).f),.dead,qw (l.foldl WS.chg (w.num l.length)).s]:=by
 have hml:(l.map Chg.row).length = l.length:=List.length_map ..
 have hi64:yL (l.length:Int):=⟨by omega,by omega⟩
 have hn1:=yo w l.length hi64
 have hlen : ∀ i,i ≤ l.length → ((l.take i).foldl WS.chg (w.num l.length)).s.length ≤ 97500000000000:=fun i hi=>by
  have h1:=yf WS.chg Chg.fit 4000000000 (fun w x hx=>wX w hx) (l.take i) (w.num l.length) (fun x hx=>hfit x (List.mem_of_mem_take hx))
  have h2:(l.take i).length ≤ 20:=by rw [List.length_take];omega
  have h3:(w.num l.length).s.length ≤ w.s.length + 22:=hn1
  have h4:(l.take i).length * 4000000000 ≤ 20 * 4000000000:=Nat.mul_le_mul_right _ h2
  omega
 obtain ⟨ws,wg,wf⟩:=w
 dsimp only at hg hw
 subst hg
 have hnum:=fun g=>jH ⟨ws,g,wf⟩ [((l.map Chg.row).length:Int)] (by simp) (yc (by rw [hml];exact hi64)) (by simp) (by dsimp only;omega)
 refine qe (C:=C2) Tryd.func54 rfl _ Tryd.ntmps54 (Nat.le_of_ble_eq_true rfl) _ Tryd.results54 2 rfl rfl ?_
 repeat' (first|refine ql ?_|(first|(refine yl ?_)|(apply qc Tryd.func20 rfl rfl;intro hIsFn;refine j5 0 1 hIsFn ((hnum (decide ((20:Int) < ((l.map Chg.row).length:Int))))) ?_))|((first|(apply qb;rfl;rfl;exact nle rfl)|(apply qa;rfl;rfl;exact nle rfl)|refine xsC ?_ ?_);all_goals (intro hc;have hp:=hc;try simp at hp;try (exfalso;omega)))|refine jj ?_ ?_)
 all_goals try (exfalso;simp at *;omega)
 (refine Awp.red (qF (τ:=⟨[(32,yt l),(33,.v (.int .i64 (l.length:Int))),(34,.v (.int .i64 ((0:Nat):Int))),(3,.clo (.func 55) [.op 0 0 0] [])],[(0,tyW (wrB 0 2 ((WS.mk ws false wf).num l.length).s ((WS.mk ws false wf).num l.length).g ((WS.mk ws false wf).num l.length).f)),(2,qw ((WS.mk ws false wf).num l.length).s)],3⟩) [(2,2)] rfl ?gts2 ?ghs2) ?_;(case gts2=>(repeat (first|exact qq|refine jb ?_|refine yq ?_|refine jL ?_|refine yB ?_|refine jM ?_ ?_|refine yp ?_ ?_));all_goals first|(rw [hml];done)|exact vm qq (qd rfl));(case ghs2=>refine j4 (q:=0) (m:=2) rfl rfl (qd rfl) (qd rfl) ?_ ?_ ?_ qg;all_goals (first|(with_reducible rfl)|(rw [hml];rfl)|exact hc)))
 refine j8 (fun n σ => ∃ i:Nat,i ≤ l.length ∧ n = l.length - i ∧ σ = ⟨[(32,yt l),(33,.v (.int .i64 (l.length:Int))),(34,.v (.int .i64 (i:Int))),(3,.clo (.func 55) [.op 0 0 0] [])],[(0,tyW (wrB 0 2 ((l.take i).foldl WS.chg ((WS.mk ws false wf).num l.length)).s ((l.take i).foldl WS.chg ((WS.mk ws false wf).num l.length)).g ((l.take i).foldl WS.chg ((WS.mk ws false wf).num l.length)).f)),(2,qw ((l.take i).foldl WS.chg ((WS.mk ws false wf).num l.length)).s)],3⟩) l.length ⟨0,Nat.zero_le _,rfl,rfl⟩ ?_
 rintro n σ ⟨i,hi,rfl,rfl⟩
 have hs:=hlen i hi
 by_cases hlt:i < l.length
 ·have hr:=yP (f:=Chg.row) hlt
  have hx:=hfit l[i] (List.getElem_mem hlt)
  have hnx:=zC WS.chg ((WS.mk ws false wf).num l.length) hlt
  clear hlen hnum
  generalize (l.take i).foldl WS.chg ((WS.mk ws false wf).num l.length) = v at *
  generalize l[i] = x at *
  have hch:=Yo v x hx (by omega)
  repeat' (first|refine ql ?_|(first|(refine Zu (first:=[.op 0 0 0]) (cap:=[]) 0 2 Tryd.func55 (hch) ?_))|((first|(apply qb;rfl;rfl;exact nle rfl)|(apply qa;rfl;rfl;exact nle rfl)|refine xsC ?_ ?_);all_goals (intro hc;have hp:=hc;try simp at hp;try (exfalso;omega)))|refine jj ?_ ?_)
  all_goals try (exfalso;omega)
  all_goals (refine ⟨l.length - (i + 1),⟨[(32,yt l),(33,.v (.int .i64 (l.length:Int))),(34,.v (.int .i64 ((i + 1:Nat):Int))),(3,.clo (.func 55) [.op 0 0 0] [])],[(0,tyW (wrB 0 2 (v.chg x).s (v.chg x).g (v.chg x).f)),(2,qw (v.chg x).s)],3⟩,by omega,?_,⟨i + 1,by omega,rfl,by rw [hnx]⟩⟩;refine qF [(4,2)] rfl ?gts ?ghs;(case gts=>(repeat (first|exact qq|refine jb ?_|refine yq ?_|refine jL ?_|refine yB ?_|refine jM ?_ ?_|refine yp ?_ ?_));all_goals exact vm qq (qd rfl));(case ghs=>refine j4 (q:=0) (m:=4) rfl rfl (qd rfl) (qd rfl) ?_ ?_ ?_ qg;all_goals (first|(with_reducible rfl)|rfl)))
 ·obtain rfl:i = l.length:=by omega
  rw [List.take_length]
  clear hlen hnum
  repeat' (first|refine ql ?_|fail|((first|(apply qb;rfl;rfl;exact nle rfl)|(apply qa;rfl;rfl;exact nle rfl)|refine xsC ?_ ?_);all_goals (intro hc;have hp:=hc;try simp at hp;try (exfalso;omega)))|refine jj ?_ ?_)
  all_goals try (exfalso;omega)
  all_goals ((apply qv (rs:=[]) [(2,2)] 3;(case hr=>(repeat (first|exact qm|(apply qn;rfl)|(apply qk;rfl;rfl;rfl;rfl;rfl))));(case hL=>rfl);(case hh=>refine xR (q:=0) (m:=2) rfl rfl (qd rfl) (qd rfl) (qd rfl) ?_ ?_ ?_ qg;all_goals (first|(with_reducible rfl)|rfl));(case hi=>exact rfl);(case hz=>first|rfl|(simp [jw,AV.ren,AV.ren.renL,qV,qi,qI];done))))
end Go.Proofs.YtahbbnfmbohmmaaDoor
set_option linter.unusedSimpArgs false
set_option linter.unnecessarySimpa false
set_option linter.unusedVariables false
set_option maxHeartbeats 1000000
namespace Go.Proofs.YtahbbnfmbohmmaaDoor
open Go.Ab Go.RowKit
set_option maxRecDepth 10000
attribute [local irreducible] Awp jV jt jv Red qz Go.Ab.Fin qu Rz x0 ju jn ResOk jG jo yi qM
theorem xS {α:Type} {w:WS} {l:List α} {most:Nat} {step:WS → α → WS} (h:(w.g || decide (most < l.length)) = true):w.lst l most step = ⟨w.s,true,w.f⟩:=by unfold WS.lst;rw [if_pos h]
theorem zF {α:Type} {w:WS} {l:List α} {most:Nat} {step:WS → α → WS} (h:(w.g || decide (most < l.length)) = false):w.lst l most step = l.foldl step (w.num l.length) ∧ w.g = false ∧ l.length ≤ most:=by
 unfold WS.lst
 rw [h,if_neg (by decide)]
 simp only [Bool.or_eq_false_iff,decide_eq_false_iff_not] at h
 exact ⟨rfl,h.1,by omega⟩
theorem vc (w:WS) (l:List Chg) (hl:l.length ≤ 1000000000) (hg:(w.g || decide (20 < l.length)) = true):qu C2.P 22 [.op 0 0 0,yt l] [tyW (wrB 0 1 w.s w.g w.f),qw w.s] (.tup []) [tyW (wrB 0 1 w.s true w.f),qw w.s]:=by
 have hc:=QD w l hl hg
 refine qe (C:=C2) Tryd.func22 rfl _ Tryd.ntmps22 (Nat.le_of_ble_eq_true rfl) _ Tryd.results22 2 rfl rfl ?_
 repeat' (first|refine ql ?_|(first|(apply qc Tryd.func54 rfl rfl;intro hIsFn;refine XF 0 1 hIsFn hc ?_))|((first|(apply qb;rfl;rfl;exact nle rfl)|(apply qa;rfl;rfl;exact nle rfl)|refine xsC ?_ ?_);all_goals (intro hc;have hp:=hc;try simp at hp;try (exfalso;omega)))|refine jj ?_ ?_)
 all_goals ((apply qv (rs:=[]) [] 2;(case hr=>(repeat (first|exact qm|(apply qn;rfl)|(apply qk;rfl;rfl;rfl;rfl;rfl))));(case hL=>rfl);(case hh=>refine j4 (q:=0) (m:=1) rfl rfl (qd rfl) (qd rfl) ?_ ?_ ?_ qg;all_goals (first|(with_reducible rfl)|rfl));(case hi=>exact rfl);(case hz=>first|rfl|(simp [jw,AV.ren,AV.ren.renL,qV,qi,qI];done))))
theorem vI (w:WS) (l:List Chg) (hfit : ∀ c,c ∈ l → c.fit) (hg:(w.g || decide (20 < l.length)) = false) (hw:w.s.length ≤ 97000000000000):qu C2.P 22 [.op 0 0 0,yt l] [tyW (wrB 0 1 w.s w.g w.f),qw w.s] (.tup []) [tyW (wrB 0 2 (w.chgs l).s (w.chgs l).g (w.chgs l).f),.dead,qw (w.chgs l).s]:=by
 obtain ⟨e,h1,h2⟩:=zF (step:=WS.chg) hg
 have hc:=Jh w l hfit h1 h2 hw
 rw [show w.chgs l = _ from e]
 generalize l.foldl WS.chg (w.num l.length) = v at *
 refine qe (C:=C2) Tryd.func22 rfl _ Tryd.ntmps22 (Nat.le_of_ble_eq_true rfl) _ Tryd.results22 2 rfl rfl ?_
 repeat' (first|refine ql ?_|(first|(apply qc Tryd.func54 rfl rfl;intro hIsFn;refine j5 0 1 hIsFn (hc) ?_))|((first|(apply qb;rfl;rfl;exact nle rfl)|(apply qa;rfl;rfl;exact nle rfl)|refine xsC ?_ ?_);all_goals (intro hc;have hp:=hc;try simp at hp;try (exfalso;omega)))|refine jj ?_ ?_)
 all_goals ((apply qv (rs:=[]) [(2,2)] 3;(case hr=>(repeat (first|exact qm|(apply qn;rfl)|(apply qk;rfl;rfl;rfl;rfl;rfl))));(case hL=>rfl);(case hh=>refine xR (q:=0) (m:=2) rfl rfl (qd rfl) (qd rfl) (qd rfl) ?_ ?_ ?_ qg;all_goals (first|(with_reducible rfl)|rfl));(case hi=>exact rfl);(case hz=>first|rfl|(simp [jw,AV.ren,AV.ren.renL,qV,qi,qI];done))))
theorem wM (w:WS) (h0:w.s ≠ []) (hl:w.s.length ≤ 100000000000000):qu C2.P 23 [.op 0 0 0] [tyW (wrB 0 1 w.s w.g w.f),qw w.s] (.tup [.v (str w.done.1),.v (.int .i64 w.done.2)]) [.dead,.dead]:=by
 obtain ⟨ws,wg,wf⟩:=w
 dsimp only at *
 have hc:=fun g f=>Y4 ws g f h0 (by omega)
 unfold WS.done
 cases wg<;>cases wf
 all_goals (refine qe (C:=C2) Tryd.func23 rfl _ Tryd.ntmps23 (Nat.le_of_ble_eq_true rfl) _ Tryd.results23 2 rfl rfl ?_)
 all_goals (repeat' (first|refine ql ?_|(first|(apply qc Tryd.func56 rfl rfl;intro hIsFn;refine Zt 0 1 hIsFn ((hc _ _)) ?_))|((first|(apply qb;rfl;rfl;exact nle rfl)|(apply qa;rfl;rfl;exact nle rfl)|refine xsC ?_ ?_);all_goals (intro hc;have hp:=hc;try simp at hp;try (exfalso;omega)))|refine jj ?_ ?_))
 all_goals ((apply qv (rs:=[.tmp 2,.tmp 3]) [] 2;(case hr=>(repeat (first|exact qm|(apply qn;rfl)|(apply qk;rfl;rfl;rfl;rfl;rfl))));(case hL=>rfl);(case hh=>exact xX (xX qg (qd rfl)) (qd rfl));(case hi=>exact rfl);(case hz=>first|rfl|(simp [jw,AV.ren,AV.ren.renL,qV,qi,qI];done))))
end Go.Proofs.YtahbbnfmbohmmaaDoor
set_option linter.unusedSimpArgs false
set_option linter.unnecessarySimpa false
set_option linter.unusedVariables false
set_option maxHeartbeats 1000000
namespace Go.Proofs.YtahbbnfmbohmmaaDoor
open Go.Ab Go.RowKit
set_option maxRecDepth 10000
attribute [local irreducible] Awp jV jt jv Red qz Go.Ab.Fin qu Rz x0 ju jn ResOk jG jo yi qM
structure Rqt.fit (r:Rqt):Prop where
 kind:yL r.kind
 who:r.who.length ≤ 1000000000
 folder:r.folder.length ≤ 1000000000
 name:r.name.length ≤ 1000000000
 key:r.key.length ≤ 1000000000
 text:r.text.length ≤ 1000000000
 number:yL r.number
 offset:yL r.offset
 base:yL r.base
 chs : ∀ c,c ∈ r.chs → c.fit
 len:r.chs.length ≤ 1000000000
def wd (r:Rqt):WS:=ws0.nums [r.kind]
def we (r:Rqt):WS:=(wd r).txts [r.who,r.folder,r.name,r.key,r.text]
def xn (r:Rqt):WS:=(we r).nums [r.number,r.offset,r.base]
theorem z8 (w:WS) {ns:List Int} (h:ns ≠ []):(w.nums ns).s ≠ []:=by
 have : ∀ (ns:List Int) (w:WS),w.s ≠ [] ∨ ns ≠ [] → (w.nums ns).s ≠ []:=by
  intro ns
  induction ns with
  | nil =>
    intro w h
    rcases h with h|h
    ·exact h
    ·exact absurd rfl h
  | cons n ns ih=>intro w h;exact ih (w.num n) (.inl (by show w.s ++ (Lib.itoa n ++ [59]) ≠ [];simp))
 exact this ns w (.inr h)
theorem YQ (r:Rqt) (h:r.fit):(∀ s,s ∈ [r.who,r.folder,r.name,r.key,r.text] → s.length ≤ 1000000000) ∧ (∀ n,n ∈ [r.number,r.offset,r.base] → yL n) ∧ (wd r).s.length ≤ 22 ∧ (we r).s.length ≤ 6000000000 ∧ (xn r).s.length ≤ 7000000000 ∧ (xn r).s ≠ []:=by
 have q1 : ∀ s,s ∈ [r.who,r.folder,r.name,r.key,r.text] → s.length ≤ 1000000000:=fun s hs=>by
  simp only [List.mem_cons,List.not_mem_nil,or_false] at hs
  rcases hs with rfl|rfl|rfl|rfl|rfl
  ·exact h.who
  ·exact h.folder
  ·exact h.name
  ·exact h.key
  ·exact h.text
 have q2 : ∀ n,n ∈ [r.number,r.offset,r.base] → yL n:=fun s hs=>by
  simp only [List.mem_cons,List.not_mem_nil,or_false] at hs
  rcases hs with rfl|rfl|rfl
  ·exact h.number
  ·exact h.offset
  ·exact h.base
 have b1:(wd r).s.length ≤ 22:=by
  have:=yo ws0 r.kind h.kind
  have e:ws0.s.length = 0:=rfl
  show (ws0.nums [r.kind]).s.length ≤ 22
  omega
 have b2:(we r).s.length ≤ 6000000000:=by
  have:=xG (wd r) _ q1
  simp only [List.length_cons,List.length_nil] at this
  show ((wd r).txts _).s.length ≤ _
  omega
 have b3:(xn r).s.length ≤ 7000000000:=by
  have:=vl (we r) _ q2
  simp only [List.length_cons,List.length_nil] at this
  show ((we r).nums _).s.length ≤ _
  omega
 exact ⟨q1,q2,b1,b2,b3,z8 _ (by simp)⟩
set_option maxHeartbeats 2000000 in
theorem Y2 (r:Rqt) (h:r.fit):zu C.P 8 [.agg r.row] (.tup [.v (str (kl r).1),.v (.int .i64 (kl r).2)]):=by
 obtain ⟨q1,q2,b1,b2,b3,b4⟩:=YQ r h
 have c1:=kh [r.kind] (by simp) (yc h.kind) (by simp)
 have c2:=zf (wd r) [r.who,r.folder,r.name,r.key,r.text] (by simp) q1 (by simp) (by omega)
 have c3:=jH (we r) [r.number,r.offset,r.base] (by simp) q2 (by simp) (by omega)
 have e1:ws0.nums [r.kind] = wd r:=rfl
 have e2:(wd r).txts [r.who,r.folder,r.name,r.key,r.text] = we r:=rfl
 have e3:(we r).nums [r.number,r.offset,r.base] = xn r:=rfl
 have e4:kl r = ((xn r).chgs r.chs).done:=rfl
 rw [e1] at c1
 rw [e2] at c2
 rw [e3] at c3
 rw [e4]
 cases hg:((xn r).g || decide (20 < r.chs.length)) with
 | true =>
   have c4:=vc (xn r) r.chs h.len hg
   have c5:=wM ⟨(xn r).s,true,(xn r).f⟩ b4 (by dsimp only;omega)
   rw [show (xn r).chgs r.chs = _ from xS hg]
   clear e1 e2 e3 e4 q1 q2 h hg
   generalize wd r = wA at *
   generalize we r = wB at *
   generalize xn r = wC at *
   generalize (WS.mk wC.s true wC.f).done = D at *
   unfold Rqt.row
   refine qe Tryd.func8 rfl _ Tryd.ntmps8 (Nat.le_of_ble_eq_true rfl) _ Tryd.results8 0 rfl rfl ?_
   repeat' (first|(first|(apply yu;apply (xg 53);rfl;rfl;exact nle rfl)|(refine yl ?_)|(apply qc Tryd.func20 rfl rfl;intro hIsFn;refine wv 1 hIsFn (c1) ?_)|(apply qc Tryd.func21 rfl rfl;intro hIsFn;refine j5 1 2 hIsFn (c2) ?_)|(apply qc Tryd.func20 rfl rfl;intro hIsFn;refine j5 1 3 hIsFn (c3) ?_)|(apply qc Tryd.func22 rfl rfl;intro hIsFn;refine XF 1 4 hIsFn (c4) ?_)|(apply qc Tryd.func23 rfl rfl;intro hIsFn;refine Q0 1 4 hIsFn (c5) ?_))|refine ql ?_|((first|refine xsC ?_ ?_);all_goals (intro hc;have hp:=hc;try simp at hp;try (exfalso;omega)))|refine jj ?_ ?_)
   all_goals ((refine jJ (rs:=[.tmp 2,.tmp 3]) ?_;(repeat' (first|exact jf|apply qO|exact qN rfl|exact j1|exact y7|apply jx|apply jF|apply jy|apply jD|apply jm|apply jE|refine y6 ?_|apply yd));all_goals rfl))
 | false =>
   have c4:=vI (xn r) r.chs h.chs hg (by omega)
   obtain ⟨ee,_,hl20⟩:=zF (step:=WS.chg) hg
   have b5:((xn r).chgs r.chs).s.length ≤ 100000000000000:=by
    have h1:=yf WS.chg Chg.fit 4000000000 (fun w x hx=>wX w hx) r.chs ((xn r).num r.chs.length) h.chs
    have h2:((xn r).num r.chs.length).s.length ≤ (xn r).s.length + 22:=yo _ _ ⟨by omega,by omega⟩
    have h3:r.chs.length * 4000000000 ≤ 20 * 4000000000:=Nat.mul_le_mul_right _ hl20
    rw [show (xn r).chgs r.chs = _ from ee]
    omega
   have b6:((xn r).chgs r.chs).s ≠ []:=by
    rw [show (xn r).chgs r.chs = _ from ee]
    have : ∀ (l:List Chg) (w:WS),w.s ≠ [] → (l.foldl WS.chg w).s ≠ []:=by
     intro l
     induction l with
     | nil=>exact fun w h=>h
     | cons c l ih=>exact fun w h=>ih _ (z8 _ (by simp))
    exact this _ _ (by show (xn r).s ++ _ ≠ [];simp [b4])
   have c5:=wM ((xn r).chgs r.chs) b6 b5
   clear e1 e2 e3 e4 q1 q2 h hg ee
   generalize (xn r).chgs r.chs = wD at *
   generalize wd r = wA at *
   generalize we r = wB at *
   generalize xn r = wC at *
   generalize wD.done = D at *
   unfold Rqt.row
   refine qe Tryd.func8 rfl _ Tryd.ntmps8 (Nat.le_of_ble_eq_true rfl) _ Tryd.results8 0 rfl rfl ?_
   repeat' (first|(first|(apply yu;apply (xg 53);rfl;rfl;exact nle rfl)|(refine yl ?_)|(apply qc Tryd.func20 rfl rfl;intro hIsFn;refine wv 1 hIsFn (c1) ?_)|(apply qc Tryd.func21 rfl rfl;intro hIsFn;refine j5 1 2 hIsFn (c2) ?_)|(apply qc Tryd.func20 rfl rfl;intro hIsFn;refine j5 1 3 hIsFn (c3) ?_)|(apply qc Tryd.func22 rfl rfl;intro hIsFn;refine j5 1 4 hIsFn (c4) ?_)|(apply qc Tryd.func23 rfl rfl;intro hIsFn;refine Q0 1 5 hIsFn (c5) ?_))|refine ql ?_|((first|refine xsC ?_ ?_);all_goals (intro hc;have hp:=hc;try simp at hp;try (exfalso;omega)))|refine jj ?_ ?_)
   all_goals ((refine jJ (rs:=[.tmp 2,.tmp 3]) ?_;(repeat' (first|exact jf|apply qO|exact qN rfl|exact j1|exact y7|apply jx|apply jF|apply jy|apply jD|apply jm|apply jE|refine y6 ?_|apply yd));all_goals rfl))
end Go.Proofs.YtahbbnfmbohmmaaDoor
set_option linter.unusedSimpArgs false
set_option linter.unnecessarySimpa false
set_option linter.unusedVariables false
namespace Go.Proofs.YtahbbnfmbohmmaaDoor
open Go.Ab Go.RowKit
noncomputable def C3:Cx := { C with nh:=3 }
@[reducible] def jP (q:Nat):HB := .own true 1 [[.op q 0 0]]
section steps
variable {C' : Cx} {N:Nat} {all:Array Oper} {es:List Eff} {o:Oper} {os:List Oper} {K:List Eff → St → Prop} {ts:List (Nat × AV)} {hs:List (Nat × HB)} {nx:Nat} {gd:List Nat}
theorem Qj {q m b:Nat} {l:qp} {g f:Bool} (hq:qj hs q = tyW (wrB q m l g f)) (hm:qj hs m = qw l) (hb:qj hs b = jP q):xZ (jl 0 [q,m,b]) (qj hs) [q,m,b] [tyW (wrB 0 1 l g f),qw l,jP 0] :=
 jh (tyW (wrB q m l g f)) (jh (qw l) (jh (jP q) jW (qK (qh (qD (.inr (List.mem_cons_self ..))) qE)) hb rfl) yg hm rfl) (jZ (qh (qD (.inr (List.mem_cons_self ..))) (qh (qY (.inr (List.mem_cons_of_mem _ (List.mem_cons_self ..)))) (qh (qy rfl) (qh (qy rfl) qE))))) hq rfl
theorem JW {q m b n:Nat} {l:qp} {g f:Bool}:vH (yU (jl 0 [q,m,b,n])) [(q,tyW (wrB q n l g f)),(m,.dead),(b,jP q),(n,qw l)] [tyW (wrB 0 3 l g f),.dead,jP 0,qw l] :=
 qB (jZ (qh (qD (.inr (List.mem_cons_self ..))) (qh (qY (.inr (List.mem_cons_of_mem _ (List.mem_cons_of_mem _ (List.mem_cons_of_mem _ (List.mem_cons_self ..)))))) (qh (qy rfl) (qh (qy rfl) qE))))) (qB jN (qB (qK (qh (qD (.inr (List.mem_cons_self ..))) qE)) (qB yg jI)))
theorem kK (q m b nx:Nat) (h:(decide (q < nx) && decide (m < nx) && decide (b < nx) && decide (q ≠ m) && decide (q ≠ b) && decide (m ≠ b)) = true):q < nx ∧ m < nx ∧ b < nx ∧ q ≠ m ∧ q ≠ b ∧ m ≠ b:=by
 simp only [Bool.and_eq_true,decide_eq_true_eq] at h
 exact ⟨h.1.1.1.1.1,h.1.1.1.1.2,h.1.1.1.2,h.1.1.2,h.1.2,h.2⟩
theorem XE {f:FuncId} {args:List Operand} {tys:Array TypeId} {d:Nat} {ty:TypeId} {pos:String} {af:Array Edge} {gg:Option (Nat × Bool)} {ys:List AV} {r:AV} {l l' : qp} {g g' f0 f1:Bool} (q m b:Nat) (hf:IsFn C'.P f)
  (hc:qu C'.P f ys [tyW (wrB 0 1 l g f0),qw l,jP 0] r [tyW (wrB 0 3 l' g' f1),.dead,jP 0,qw l'])
  (k:jV C' N all (⟨gd ++ (qW (.func f) ++ args.flatMap qW),[q,m,b],some d,r,[(q,tyW (wrB q nx l' g' f1)),(m,.dead),(b,jP q),(nx,qw l')],[nx]⟩ :: es) ⟨(d,r) :: ts,(q,tyW (wrB q nx l' g' f1)) :: (m,.dead) :: (b,jP q) :: (nx,qw l') :: hs,nx + 1⟩ os K)
  (hq:qj hs q = tyW (wrB q m l g f0):=by rfl) (hm:qj hs m = qw l:=by rfl) (hb:qj hs b = jP q:=by rfl)
  (hz:qM (jl 0 [q,m,b]) [q,m,b] (qj hs) (args.map (evA (qi ts))) ys:=by ((repeat' (first|exact ja|apply qP|exact qZ rfl|exact jB|(apply qo;apply qD;exact .inr (of_decide_eq_true rfl))|(apply qo;apply jQ;exact .inr (of_decide_eq_true rfl))|(apply qo;apply qY;exact .inr (of_decide_eq_true rfl))|apply jp|apply jq))<;>fail))
  (hlt:(decide (q < nx) && decide (m < nx) && decide (b < nx) && decide (q ≠ m) && decide (q ≠ b) && decide (m ≠ b)) = true:=by rfl) (hr:r.ren (yU (jl 0 [q,m,b,nx])) = r:=by rfl) (hN:d < N:=by exact nle rfl):xz C' N all gd es ⟨ts,hs,nx⟩ f args d tys ty pos af gg os K:=by
 obtain ⟨h1,h2,h3,h4,h5,h6⟩:=kK q m b nx hlt
 refine yJ [q,m,b] [nx] [(q,tyW (wrB q nx l' g' f1)),(m,.dead),(b,jP q),(nx,qw l')] (nx + 1) r hf hc hz (Qj hq hm hb) JW k hr rfl rfl (Nat.le_of_ble_eq_true rfl) ?_ ?_ ?_ (by omega) hN
 ·simp;omega
 ·simp [yA]
 ·intro n hn;simp at hn;omega
theorem Jz {f:FuncId} {args:List Operand} {tys:Array TypeId} {d:Nat} {ty:TypeId} {pos:String} {af:Array Edge} {gg:Option (Nat × Bool)} {ys:List AV} {r:AV} {l:qp} {g g' f0 f1:Bool} (q m b:Nat) (hf:IsFn C'.P f)
  (hc:qu C'.P f ys [tyW (wrB 0 1 l g f0),qw l,jP 0] r [tyW (wrB 0 1 l g' f1),qw l,jP 0])
  (k:jV C' N all (⟨gd ++ (qW (.func f) ++ args.flatMap qW),[q,m,b],some d,r,[(q,tyW (wrB q m l g' f1)),(m,qw l),(b,jP q)],[]⟩ :: es) ⟨(d,r) :: ts,(q,tyW (wrB q m l g' f1)) :: (m,qw l) :: (b,jP q) :: hs,nx⟩ os K)
  (hq:qj hs q = tyW (wrB q m l g f0):=by rfl) (hm:qj hs m = qw l:=by rfl) (hb:qj hs b = jP q:=by rfl)
  (hz:qM (jl 0 [q,m,b]) [q,m,b] (qj hs) (args.map (evA (qi ts))) ys:=by ((repeat' (first|exact ja|apply qP|exact qZ rfl|exact jB|(apply qo;apply qD;exact .inr (of_decide_eq_true rfl))|(apply qo;apply jQ;exact .inr (of_decide_eq_true rfl))|(apply qo;apply qY;exact .inr (of_decide_eq_true rfl))|apply jp|apply jq))<;>fail))
  (hlt:(decide (q < nx) && decide (m < nx) && decide (b < nx) && decide (q ≠ m) && decide (q ≠ b) && decide (m ≠ b)) = true:=by rfl) (hr:r.ren (yU (jl 0 [q,m,b])) = r:=by rfl) (hN:d < N:=by exact nle rfl):xz C' N all gd es ⟨ts,hs,nx⟩ f args d tys ty pos af gg os K:=by
 obtain ⟨h1,h2,h3,h4,h5,h6⟩:=kK q m b nx hlt
 refine yJ [q,m,b] [] [(q,tyW (wrB q m l g' f1)),(m,qw l),(b,jP q)] nx r hf hc hz (Qj hq hm hb) (qB (jZ (qh (qD (.inr (List.mem_cons_self ..))) (qh (qY (.inr (List.mem_cons_of_mem _ (List.mem_cons_self ..)))) (qh (qy rfl) (qh (qy rfl) qE))))) (qB yg (qB (qK (qh (qD (.inr (List.mem_cons_self ..))) qE)) jI))) k hr rfl rfl (Nat.le_of_ble_eq_true rfl) ?_ rfl (fun n hn=>by cases hn) (Nat.le_refl _) hN
 simp
 omega
theorem XG {f:FuncId} {fn:Func} {x:Operand} {first cap:List AV} {args:List Operand} {tys:Array TypeId} {d:Nat} {ty:TypeId} {pos:String} {af:Array Edge} {gg:Option (Nat × Bool)} {ys:List AV} {r:AV} {l l' : qp} {g g' f0 f1:Bool} (q m b:Nat) (hf:C'.P.funcs[f]? = some fn)
  (hc:qu C'.P f ys [tyW (wrB 0 1 l g f0),qw l,jP 0] r [tyW (wrB 0 3 l' g' f1),.dead,jP 0,qw l'])
  (k:jV C' N all (⟨gd ++ (qW x ++ args.flatMap qW),[q,m,b],some d,r,[(q,tyW (wrB q nx l' g' f1)),(m,.dead),(b,jP q),(nx,qw l')],[nx]⟩ :: es) ⟨(d,r) :: ts,(q,tyW (wrB q nx l' g' f1)) :: (m,.dead) :: (b,jP q) :: (nx,qw l') :: hs,nx + 1⟩ os K)
  (hx:evA (qi ts) x = .clo (.func f) first cap:=by rfl) (hb0:fn.body.isNone = false:=by rfl) (hn0:(fn.name == "runtime.NumGoroutine") = false:=by rfl)
  (hq:qj hs q = tyW (wrB q m l g f0):=by rfl) (hm:qj hs m = qw l:=by rfl) (hb:qj hs b = jP q:=by rfl)
  (hz:qM (jl 0 [q,m,b]) [q,m,b] (qj hs) (first ++ args.map (evA (qi ts)) ++ cap) ys:=by ((repeat' (first|exact ja|apply qP|exact qZ rfl|exact jB|(apply qo;apply qD;exact .inr (of_decide_eq_true rfl))|(apply qo;apply jQ;exact .inr (of_decide_eq_true rfl))|(apply qo;apply qY;exact .inr (of_decide_eq_true rfl))|apply jp|apply jq))<;>fail))
  (hlt:(decide (q < nx) && decide (m < nx) && decide (b < nx) && decide (q ≠ m) && decide (q ≠ b) && decide (m ≠ b)) = true:=by rfl) (hr:r.ren (yU (jl 0 [q,m,b,nx])) = r:=by rfl) (hN:d < N:=by exact nle rfl):jt C' N all gd es ⟨ts,hs,nx⟩ ⟨some d,.call ⟨.value x,args.toArray,tys⟩,ty,pos,af,gg⟩ os K:=by
 obtain ⟨h1,h2,h3,h4,h5,h6⟩:=kK q m b nx hlt
 refine zp [q,m,b] [nx] [(q,tyW (wrB q nx l' g' f1)),(m,.dead),(b,jP q),(nx,qw l')] (nx + 1) r hf hc hz (Qj hq hm hb) JW k hx hb0 hn0 hr rfl rfl (Nat.le_of_ble_eq_true rfl) ?_ ?_ ?_ (by omega) hN
 ·simp;omega
 ·simp [yA]
 ·intro n hn;simp at hn;omega
end steps
theorem xQ {L:List (Nat × Nat)} {nh:Nat} {σ:St} {q q' b b' : Nat} {rest:List (Nat × HB)} (hb:qj σ.hs b = jP q) (h1:Maps L nh q q') (h2:Maps L nh b b') (hr:jS L nh σ rest):jS L nh σ ((b',jP q') :: rest) :=
 ⟨⟨b,h2,by rw [hb];exact qK (qh (qD h1) qE)⟩,hr⟩
theorem vj {L:List (Nat × Nat)} {nh:Nat} {σ:St} {q q' m m' d' b b' : Nat} {l l' : qp} {g g' f f' : Bool} {rest:List (Nat × HB)} (hq:qj σ.hs q = tyW (wrB q m l g f)) (hm:qj σ.hs m = qw l) (hb:qj σ.hs b = jP q) (h1:Maps L nh q q') (h2:Maps L nh m m') (hd:Maps L nh d' d') (h3:Maps L nh b b') (hl:l = l') (hg:g = g') (hf:f = f') (hr:jS L nh σ rest):jS L nh σ ((q',tyW (wrB q' m' l' g' f')) :: (d',.dead) :: (b',jP q') :: (m',qw l') :: rest):=by
 subst hl hg hf
 exact Qp (xX (xQ hb h1 h3 (Q4 hr rfl h2 hm)) hd) (qh (qD h1) (qh (qY h2) (qh (qy rfl) (qh (qy rfl) qE)))) h1 hq
end Go.Proofs.YtahbbnfmbohmmaaDoor
set_option linter.unusedSimpArgs false
set_option linter.unnecessarySimpa false
set_option linter.unusedVariables false
set_option maxHeartbeats 1000000
namespace Go.Proofs.YtahbbnfmbohmmaaDoor
open Go.Ab Go.RowKit
set_option maxRecDepth 10000
attribute [local irreducible] Awp jV jt jv Red qz Go.Ab.Fin qu Rz x0 ju jn ResOk jG jo yi qM
structure Ent.fit (e:Ent):Prop where
 path:e.path.length ≤ 1000000000
 text:e.text.length ≤ 1000000000
 ver:yL e.ver
structure Com.fit (c:Com):Prop where
 num:yL c.num
 key:c.key.length ≤ 1000000000
 chs : ∀ x,x ∈ c.chs → x.fit
 len:c.chs.length ≤ 1000000000
theorem ke (w:WS) (b:Bool):(w.yes b).s.length ≤ w.s.length + 22:=by
 cases b
 ·exact yo w 0 ⟨by decide,by decide⟩
 ·exact yo w 1 ⟨by decide,by decide⟩
theorem ka {t:qp} (h:t.length ≤ 1000000000) : ∀ s,s ∈ [t] → s.length ≤ 1000000000:=fun s hs=>by
 simp only [List.mem_singleton] at hs
 exact hs ▸ h
theorem xF (w:WS) {t:qp} (h:t.length ≤ 1000000000):(w.txts [t]).s.length ≤ w.s.length + 1000000022:=by
 have:=xG w [t] (ka h)
 simpa using this
theorem J2 (w:WS) {e:Ent} (h:e.fit):(w.ent e).s.length ≤ w.s.length + 4000000000:=by
 have h1:=xF w h.path
 have h2:=ke (w.txts [e.path]) e.fold
 have h3:=xF ((w.txts [e.path]).yes e.fold) h.text
 have h4:=yo (((w.txts [e.path]).yes e.fold).txts [e.text]) e.ver h.ver
 show ((((w.txts [e.path]).yes e.fold).txts [e.text]).nums [e.ver]).s.length ≤ _
 omega
theorem Xj (w:WS) {l:List Chg} (h : ∀ c,c ∈ l → c.fit):(w.chgs l).s.length ≤ w.s.length + 80000000022:=by
 cases hg:(w.g || decide (20 < l.length)) with
 | true =>
   rw [show w.chgs l = _ from xS hg]
   exact Nat.le_add_right _ _
 | false =>
   obtain ⟨e,_,h20⟩:=zF (step:=WS.chg) hg
   rw [show w.chgs l = _ from e]
   have h1:=yf WS.chg Chg.fit 4000000000 (fun w x hx=>wX w hx) l (w.num l.length) h
   have h2:(w.num l.length).s.length ≤ w.s.length + 22:=yo w _ ⟨by omega,by omega⟩
   have h3:l.length * 4000000000 ≤ 20 * 4000000000:=Nat.mul_le_mul_right _ h20
   omega
theorem J1 (w:WS) {c:Com} (h:c.fit):(w.com c).s.length ≤ w.s.length + 82000000000:=by
 have h1:=yo w c.num h.num
 have h2:=xF (w.nums [c.num]) h.key
 have h3:=Xj ((w.nums [c.num]).txts [c.key]) h.chs
 show (((w.nums [c.num]).txts [c.key]).chgs c.chs).s.length ≤ _
 omega
set_option maxHeartbeats 2000000 in
theorem Vk (w:WS) (e:Ent) (h:e.fit) (hw:w.s.length ≤ 95000000000000):qu C3.P 39 [.agg e.row,.op 2 0 0] [tyW (wrB 0 1 w.s w.g w.f),qw w.s,jP 0] (.tup []) [tyW (wrB 0 3 (w.ent e).s (w.ent e).g (w.ent e).f),.dead,jP 0,qw (w.ent e).s]:=by
 have h1:=xF w h.path
 have h2:=ke (w.txts [e.path]) e.fold
 have h3:=xF ((w.txts [e.path]).yes e.fold) h.text
 have c1:=zf w [e.path] (by simp) (ka h.path) (by simp) (by omega)
 have c2:=Ji (w.txts [e.path]) e.fold (by omega)
 have c3:=zf ((w.txts [e.path]).yes e.fold) [e.text] (by simp) (ka h.text) (by simp) (by omega)
 have c4:=jH (((w.txts [e.path]).yes e.fold).txts [e.text]) [e.ver] (by simp) (yc h.ver) (by simp) (by omega)
 have hE:w.ent e = (((w.txts [e.path]).yes e.fold).txts [e.text]).nums [e.ver]:=rfl
 rw [hE]
 clear hE h1 h2 h3 h hw
 unfold Ent.row
 generalize (((w.txts [e.path]).yes e.fold).txts [e.text]).nums [e.ver] = w4 at *
 generalize ((w.txts [e.path]).yes e.fold).txts [e.text] = w3 at *
 generalize (w.txts [e.path]).yes e.fold = w2 at *
 generalize w.txts [e.path] = w1 at *
 refine qe (C:=C3) Tryd.func39 rfl _ Tryd.ntmps39 (Nat.le_of_ble_eq_true rfl) _ Tryd.results39 3 rfl rfl ?_
 repeat' (first|refine ql ?_|(first|(refine yl ?_)|(apply qc Tryd.func21 rfl rfl;intro hIsFn;refine j5 0 1 hIsFn (c1) ?_)|(apply qc Tryd.func37 rfl rfl;intro hIsFn;refine j5 0 4 hIsFn (c2) ?_)|(apply qc Tryd.func21 rfl rfl;intro hIsFn;refine j5 0 5 hIsFn (c3) ?_)|(apply qc Tryd.func20 rfl rfl;intro hIsFn;refine j5 0 6 hIsFn (c4) ?_))|((first|(apply qb;rfl;rfl;exact nle rfl)|(apply qa;rfl;rfl;exact nle rfl)|refine xsC ?_ ?_);all_goals (intro hc;have hp:=hc;try simp at hp;try (exfalso;omega)))|refine jj ?_ ?_)
 all_goals ((apply qv (rs:=[]) [(7,3)] 4;(case hr=>(repeat (first|exact qm|(apply qn;rfl)|(apply qk;rfl;rfl;rfl;rfl;rfl))));(case hL=>rfl);(case hh=>refine vj (q:=0) (m:=7) (b:=2) rfl rfl rfl (qd rfl) (qd rfl) (qd rfl) (qd rfl) ?_ ?_ ?_ qg;all_goals (first|(with_reducible rfl)|rfl));(case hi=>exact rfl);(case hz=>first|rfl|(simp [jw,AV.ren,AV.ren.renL,qV,qi,qI];done))))
set_option maxHeartbeats 2000000 in
theorem Vj (w:WS) (c:Com) (h:c.fit) (hw:w.s.length ≤ 95000000000000):qu C3.P 41 [.agg c.row,.op 2 0 0] [tyW (wrB 0 1 w.s w.g w.f),qw w.s,jP 0] (.tup []) [tyW (wrB 0 3 (w.com c).s (w.com c).g (w.com c).f),.dead,jP 0,qw (w.com c).s]:=by
 have h1:=yo w c.num h.num
 have h2:=xF (w.nums [c.num]) h.key
 have c1:=jH w [c.num] (by simp) (yc h.num) (by simp) (by omega)
 have c2:=zf (w.nums [c.num]) [c.key] (by simp) (ka h.key) (by simp) (by omega)
 have hE:w.com c = ((w.nums [c.num]).txts [c.key]).chgs c.chs:=rfl
 rw [hE]
 have hl:=h.len
 have hf:=h.chs
 clear hE h
 unfold Com.row
 generalize hw2:(w.nums [c.num]).txts [c.key] = w2 at *
 generalize w.nums [c.num] = w1 at *
 cases hg:(w2.g || decide (20 < c.chs.length)) with
 | true =>
   have c3:=vc w2 c.chs hl hg
   rw [show w2.chgs c.chs = _ from xS hg]
   clear hl hf hg h1 h2 hw hw2
   refine qe (C:=C3) Tryd.func41 rfl _ Tryd.ntmps41 (Nat.le_of_ble_eq_true rfl) _ Tryd.results41 3 rfl rfl ?_
   repeat' (first|refine ql ?_|(first|(refine yl ?_)|(apply qc Tryd.func20 rfl rfl;intro hIsFn;refine j5 0 1 hIsFn (c1) ?_)|(apply qc Tryd.func21 rfl rfl;intro hIsFn;refine j5 0 4 hIsFn (c2) ?_)|(apply qc Tryd.func22 rfl rfl;intro hIsFn;refine XF 0 5 hIsFn (c3) ?_))|((first|(apply qb;rfl;rfl;exact nle rfl)|(apply qa;rfl;rfl;exact nle rfl)|refine xsC ?_ ?_);all_goals (intro hc;have hp:=hc;try simp at hp;try (exfalso;omega)))|refine jj ?_ ?_)
   all_goals ((apply qv (rs:=[]) [(5,3)] 4;(case hr=>(repeat (first|exact qm|(apply qn;rfl)|(apply qk;rfl;rfl;rfl;rfl;rfl))));(case hL=>rfl);(case hh=>refine vj (q:=0) (m:=5) (b:=2) rfl rfl rfl (qd rfl) (qd rfl) (qd rfl) (qd rfl) ?_ ?_ ?_ qg;all_goals (first|(with_reducible rfl)|rfl));(case hi=>exact rfl);(case hz=>first|rfl|(simp [jw,AV.ren,AV.ren.renL,qV,qi,qI];done))))
 | false =>
   have c3:=vI w2 c.chs hf hg (by omega)
   generalize w2.chgs c.chs = w3 at *
   clear hl hf hg h1 h2 hw hw2
   refine qe (C:=C3) Tryd.func41 rfl _ Tryd.ntmps41 (Nat.le_of_ble_eq_true rfl) _ Tryd.results41 3 rfl rfl ?_
   repeat' (first|refine ql ?_|(first|(refine yl ?_)|(apply qc Tryd.func20 rfl rfl;intro hIsFn;refine j5 0 1 hIsFn (c1) ?_)|(apply qc Tryd.func21 rfl rfl;intro hIsFn;refine j5 0 4 hIsFn (c2) ?_)|(apply qc Tryd.func22 rfl rfl;intro hIsFn;refine j5 0 5 hIsFn (c3) ?_))|((first|(apply qb;rfl;rfl;exact nle rfl)|(apply qa;rfl;rfl;exact nle rfl)|refine xsC ?_ ?_);all_goals (intro hc;have hp:=hc;try simp at hp;try (exfalso;omega)))|refine jj ?_ ?_)
   all_goals ((apply qv (rs:=[]) [(6,3)] 4;(case hr=>(repeat (first|exact qm|(apply qn;rfl)|(apply qk;rfl;rfl;rfl;rfl;rfl))));(case hL=>rfl);(case hh=>refine vj (q:=0) (m:=6) (b:=2) rfl rfl rfl (qd rfl) (qd rfl) (qd rfl) (qd rfl) ?_ ?_ ?_ qg;all_goals (first|(with_reducible rfl)|rfl));(case hi=>exact rfl);(case hz=>first|rfl|(simp [jw,AV.ren,AV.ren.renL,qV,qi,qI];done))))
end Go.Proofs.YtahbbnfmbohmmaaDoor
