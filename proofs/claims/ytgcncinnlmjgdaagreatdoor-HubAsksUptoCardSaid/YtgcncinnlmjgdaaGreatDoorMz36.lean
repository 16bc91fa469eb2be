import Derived.Test.YtgcncinnlmjgdaaGreatDoorMz30
import Derived.Test.YtgcncinnlmjgdaaGreatDoorMz35
import Derived.Lib.ItoaLen
import Derived.Test.YtgcncinnlmjgdaaGreatDoorMz8
set_option linter.unusedSimpArgs false
set_option linter.unnecessarySimpa false
set_option linter.unusedVariables false
set_option maxHeartbeats 4000000
set_option maxRecDepth 10000
namespace Go.Proofs.YtgcncinnlmjgdaaGreatDoor
open Go.Ab Go.RowKit
attribute [local irreducible] Awp j9 jr ye Red qz Go.Ab.Fin qf Rz wz jF jU ResOk yA j1 xR qX
def vV (n:Int):List AV:=[.v (.int .i64 n)]
def Jb (s:qb):List AV:=[.v (str s)]
theorem kn {n:Int} (h:kv n):(xj n).length ≤ 22:=by
 have:=Lib.itoa_length_le n h.1 h.2;simp [xj];omega
theorem qbu (w:WS) {ns:List Int} {i:Nat} (h:i < ns.length):w.nums (ns.take (i + 1)) = (w.nums (ns.take i)).num ns[i]:=by
 unfold WS.nums;rw [List.take_succ_eq_append_getElem h,List.foldl_append];rfl
theorem YL (w:WS) : ∀ (ns:List Int),(∀ n,n ∈ ns → kv n) → (w.nums ns).s.length ≤ w.s.length + 22 * ns.length
 | [],_=>Nat.le_refl _
 | n :: ns,h=>by
   have h1:=YL (w.num n) ns (fun m hm=>h m (by simp [hm]));have h2:=kn (h n (by simp));have h3:(w.num n).s.length = w.s.length + (xj n).length:=List.length_append;show ((w.num n).nums ns).s.length ≤ _;simp only [List.length_cons];omega
theorem XB (w:WS) (ns:List Int) (i:Nat) (h : ∀ n,n ∈ ns → kv n) (hl:ns.length ≤ 10):(w.nums (ns.take i)).s.length ≤ w.s.length + 220:=by
 have h1:=YL w (ns.take i) (fun n hn=>h n (List.mem_of_mem_take hn));have h2:(ns.take i).length ≤ 10:=by rw [List.length_take];omega
 omega
theorem xi (w:WS) (ns:List Int) (h0:ns ≠ []) (hn : ∀ n,n ∈ ns → kv n) (hl:ns.length ≤ 10) (hw:w.s.length ≤ 100000000000000):qf C2.P 33 [.op 0 0 0,.sl true (ns.map vV)] [tyW (wrB 0 1 w.s w.g w.f),qS w.s] (.tup []) [tyW (wrB 0 2 (w.nums ns).s (w.nums ns).g (w.nums ns).f),.dead,qS (w.nums ns).s]:=by
 have hml:(ns.map vV).length = ns.length:=List.length_map ..;have hpos:0 < ns.length:=by cases ns with|nil=>exact absurd rfl h0|cons _ _=>simp
 refine qJ (C:=C2) 2 ?_
 repeat' (first|refine qo ?_|fail|(refine xsS ?_ ?_;all_goals first|exact False.elim|intro hp hc)|refine xsA ?_ ?_)
 (refine xsK (τ:=⟨[(0,.op 0 0 0),(6,.sl true (ns.map vV)),(7,.v (.int .i64 (ns.length:Int))),(8,.v (.int .i64 ((0:Nat):Int)))],[(0,tyW (wrB 0 1 w.s w.g w.f)),(1,qS w.s)],2⟩) [] qoN qoR ?_)
 refine qB (fun n σ => ∃ i:Nat,i ≤ ns.length ∧ n = ns.length - i ∧ ((i = 0 ∧ σ = ⟨[(0,.op 0 0 0),(6,.sl true (ns.map vV)),(7,.v (.int .i64 (ns.length:Int))),(8,.v (.int .i64 ((0:Nat):Int)))],[(0,tyW (wrB 0 1 w.s w.g w.f)),(1,qS w.s)],2⟩) ∨ (0 < i ∧ σ = ⟨[(0,.op 0 0 0),(6,.sl true (ns.map vV)),(7,.v (.int .i64 (ns.length:Int))),(8,.v (.int .i64 (i:Int)))],[(0,tyW (wrB 0 2 (w.nums (ns.take i)).s (w.nums (ns.take i)).g (w.nums (ns.take i)).f)),(2,qS (w.nums (ns.take i)).s)],3⟩))) ns.length ⟨0,Nat.zero_le _,rfl,.inl ⟨rfl,rfl⟩⟩ ?_;rintro n σ ⟨i,hi,rfl,hst⟩;have hs:=XB w ns i hn hl;by_cases hlt:i < ns.length
 ·have hr:=qK (f:=vV) hlt;have hx:=hn ns[i] (List.getElem_mem hlt);have hnx:=qbu w hlt
  rcases hst with ⟨rfl,rfl⟩|⟨hp,rfl⟩
  ·generalize ns[0] = x at *;rw [show w.nums (ns.take 0) = w from rfl] at hnx;obtain ⟨ws,wg,wf⟩:=w;have hb:=kn hx;have hi21:=Lib.itoa_length_le x hx.1 hx.2;have hbd:ws.length + (Lib.itoa x ++ [59]).length ≤ 140737488355328:=by have:(xj x).length = (Lib.itoa x ++ [59]).length:=rfl;simp only at hw;omega
   dsimp only at *;cases wf
   all_goals (repeat' (first|refine qo ?_|(first|refine jT (Yu x hx.1 hx.2 ..) ?_|(refine vd 0 1 qi ((Yv _ _ _ _ hbd)) ?_))|(refine xsS ?_ ?_;all_goals first|exact False.elim|intro hp hc)|refine xsA ?_ ?_))
   all_goals try (exfalso;first|omega|(exact h0 (by assumption)))
   all_goals (refine ⟨ns.length - (0 + 1),⟨[(0,.op 0 0 0),(6,.sl true (ns.map vV)),(7,.v (.int .i64 (ns.length:Int))),(8,.v (.int .i64 ((0 + 1:Nat):Int)))],[(0,tyW (wrB 0 2 (ws ++ xj x) wg _)),(2,qS (ws ++ xj x))],3⟩,by omega,?_,⟨1,by omega,rfl,.inr ⟨Nat.zero_lt_one,by rw [hnx];rfl⟩⟩⟩;refine jH [(2,2)] rfl ?gts ?ghs;(case gts=>exact qjy);(case ghs=>exact qp0))
  ·generalize ns[i] = x at *;generalize w.nums (ns.take i) = v at *;obtain ⟨ws,wg,wf⟩:=v;have hb:=kn hx;have hi21:=Lib.itoa_length_le x hx.1 hx.2;have hbd:ws.length + (Lib.itoa x ++ [59]).length ≤ 140737488355328:=by have:(xj x).length = (Lib.itoa x ++ [59]).length:=rfl;simp only at hs;omega
   dsimp only at *;cases wf
   all_goals (repeat' (first|refine qo ?_|(first|refine jT (Yu x hx.1 hx.2 ..) ?_|(refine vd 0 2 qi ((Yv _ _ _ _ hbd)) ?_))|(refine xsS ?_ ?_;all_goals first|exact False.elim|intro hp hc)|refine xsA ?_ ?_))
   all_goals try (exfalso;first|omega|(exact h0 (by assumption)))
   all_goals (refine ⟨ns.length - (i + 1),⟨[(0,.op 0 0 0),(6,.sl true (ns.map vV)),(7,.v (.int .i64 (ns.length:Int))),(8,.v (.int .i64 ((i + 1:Nat):Int)))],[(0,tyW (wrB 0 2 (ws ++ xj x) wg _)),(2,qS (ws ++ xj x))],3⟩,by omega,?_,⟨i + 1,by omega,rfl,.inr ⟨Nat.succ_pos _,by rw [hnx];rfl⟩⟩⟩;refine jH [(3,2)] rfl ?gts ?ghs;(case gts=>exact qjy);(case ghs=>refine kH (q:=0) (m:=3) rfl rfl (qp rfl) (qp rfl) ?_ ?_ ?_ qn;all_goals (first|(with_reducible rfl)|(simp only [WS.num,WG,hc,Bool.false_or,Bool.true_or];done)|rfl)))
 ·obtain rfl:i = ns.length:=by omega
  rw [List.take_length] at hst
  rcases hst with ⟨h1,_⟩|⟨hp,rfl⟩
  ·omega
  repeat' (first|refine qo ?_|fail|(refine xsS ?_ ?_;all_goals first|exact False.elim|intro hp hc)|refine xsA ?_ ?_)
  all_goals try (exfalso;first|omega|(exact h0 (by assumption)))
  all_goals ((exact yp (rs:=[]) [(2,2)] 3 qqa))
theorem ql6 (ns:List Int) (i:Nat) (h : ∀ n,n ∈ ns → kv n) (hl:ns.length ≤ 10):(ws0.nums (ns.take i)).s.length ≤ 220:=by
 have:=XB ws0 ns i h hl;have e:ws0.s.length = 0:=rfl;omega
theorem Wf (ns:List Int) (h0:ns ≠ []) (hn : ∀ n,n ∈ ns → kv n) (hl:ns.length ≤ 10):qf C1.P 33 [.op 0 0 0,.sl true (ns.map vV)] [tyW (wr0 false false)] (.tup []) [tyW (wrB 0 1 (ws0.nums ns).s (ws0.nums ns).g (ws0.nums ns).f),qS (ws0.nums ns).s]:=by
 have hml:(ns.map vV).length = ns.length:=List.length_map ..;have hpos:0 < ns.length:=by cases ns with|nil=>exact absurd rfl h0|cons _ _=>simp
 refine qJ (C:=C1) 1 ?_
 repeat' (first|refine qo ?_|fail|(refine xsS ?_ ?_;all_goals first|exact False.elim|intro hp hc)|refine xsA ?_ ?_)
 (refine xsK (τ:=⟨[(0,.op 0 0 0),(6,.sl true (ns.map vV)),(7,.v (.int .i64 (ns.length:Int))),(8,.v (.int .i64 ((0:Nat):Int)))],[(0,tyW (wr0 false false))],1⟩) [] qoN (by exact qmT (q:=0) rfl (qp rfl) qn) ?_)
 refine qB (fun n σ => ∃ i:Nat,i ≤ ns.length ∧ n = ns.length - i ∧ ((i = 0 ∧ σ = ⟨[(0,.op 0 0 0),(6,.sl true (ns.map vV)),(7,.v (.int .i64 (ns.length:Int))),(8,.v (.int .i64 ((0:Nat):Int)))],[(0,tyW (wr0 false false))],1⟩) ∨ (0 < i ∧ σ = ⟨[(0,.op 0 0 0),(6,.sl true (ns.map vV)),(7,.v (.int .i64 (ns.length:Int))),(8,.v (.int .i64 (i:Int)))],[(0,tyW (wrB 0 1 (ws0.nums (ns.take i)).s (ws0.nums (ns.take i)).g (ws0.nums (ns.take i)).f)),(1,qS (ws0.nums (ns.take i)).s)],2⟩))) ns.length ⟨0,Nat.zero_le _,rfl,.inl ⟨rfl,rfl⟩⟩ ?_;rintro n σ ⟨i,hi,rfl,hst⟩;have hs:=ql6 ns i hn hl;by_cases hlt:i < ns.length
 ·have hr:=qK (f:=vV) hlt;have hx:=hn ns[i] (List.getElem_mem hlt);have hnx:=qbu ws0 hlt
  rcases hst with ⟨rfl,rfl⟩|⟨hp,rfl⟩
  ·generalize ns[0] = x at *;rw [show ws0.nums (ns.take 0) = ws0 from rfl] at hnx;have hb:=kn hx;have hi21:=Lib.itoa_length_le x hx.1 hx.2;have hbd:(Lib.itoa x ++ [59]).length ≤ 140737488355328:=by have:(xj x).length = (Lib.itoa x ++ [59]).length:=rfl;omega
   have hne:Lib.itoa x ++ [59] ≠ []:=by simp
   (repeat' (first|refine qo ?_|(first|refine jT (Yu x hx.1 hx.2 ..) ?_|(refine qbv 0 qi ((qj2 _ _ _ hne hbd)) ?_))|(refine xsS ?_ ?_;all_goals first|exact False.elim|intro hp hc)|refine xsA ?_ ?_))
   all_goals try (exfalso;first|omega|(exact h0 (by assumption)))
   all_goals (refine ⟨ns.length - (0 + 1),⟨[(0,.op 0 0 0),(6,.sl true (ns.map vV)),(7,.v (.int .i64 (ns.length:Int))),(8,.v (.int .i64 ((0 + 1:Nat):Int)))],[(0,tyW (wrB 0 1 ([] ++ xj x) false _)),(1,qS ([] ++ xj x))],2⟩,by omega,?_,⟨1,by omega,rfl,.inr ⟨Nat.zero_lt_one,by rw [hnx];rfl⟩⟩⟩;refine jH [(1,1)] rfl ?gts ?ghs;(case gts=>exact qjy);(case ghs=>refine kH (q:=0) (m:=1) rfl rfl (qp rfl) (qp rfl) ?_ ?_ ?_ qn;all_goals (first|(with_reducible rfl)|(simp only [WS.num,ws0,WG,hc,Bool.false_or,Bool.true_or];done)|rfl)))
  ·generalize ns[i] = x at *;generalize ws0.nums (ns.take i) = v at *;obtain ⟨ws,wg,wf⟩:=v;have hb:=kn hx;have hi21:=Lib.itoa_length_le x hx.1 hx.2;have hbd:ws.length + (Lib.itoa x ++ [59]).length ≤ 140737488355328:=by have:(xj x).length = (Lib.itoa x ++ [59]).length:=rfl;simp only at hs;omega
   dsimp only at *;cases wf
   all_goals (repeat' (first|refine qo ?_|(first|refine jT (Yu x hx.1 hx.2 ..) ?_|(refine vd 0 1 qi ((Yv _ _ _ _ hbd)) ?_))|(refine xsS ?_ ?_;all_goals first|exact False.elim|intro hp hc)|refine xsA ?_ ?_))
   all_goals try (exfalso;first|omega|(exact h0 (by assumption)))
   all_goals (refine ⟨ns.length - (i + 1),⟨[(0,.op 0 0 0),(6,.sl true (ns.map vV)),(7,.v (.int .i64 (ns.length:Int))),(8,.v (.int .i64 ((i + 1:Nat):Int)))],[(0,tyW (wrB 0 1 (ws ++ xj x) wg _)),(1,qS (ws ++ xj x))],2⟩,by omega,?_,⟨i + 1,by omega,rfl,.inr ⟨Nat.succ_pos _,by rw [hnx];rfl⟩⟩⟩;refine jH [(2,1)] rfl ?gts ?ghs;(case gts=>exact qjy);(case ghs=>exact qp0))
 ·obtain rfl:i = ns.length:=by omega
  rw [List.take_length] at hst
  rcases hst with ⟨h1,_⟩|⟨hp,rfl⟩
  ·omega
  repeat' (first|refine qo ?_|fail|(refine xsS ?_ ?_;all_goals first|exact False.elim|intro hp hc)|refine xsA ?_ ?_)
  all_goals try (exfalso;first|omega|(exact h0 (by assumption)))
  all_goals ((exact yp (rs:=[]) [(1,1)] 2 qoR))
theorem qju (w:WS) {l:List qb} {i:Nat} (h:i < l.length):w.txts (l.take (i + 1)) = (w.txts (l.take i)).txt l[i]:=by
 unfold WS.txts;rw [List.take_succ_eq_append_getElem h,List.foldl_append];rfl
theorem JI (w:WS) : ∀ (l:List qb),(∀ s,s ∈ l → s.length ≤ 1000000000) → (w.txts l).s.length ≤ w.s.length + 1000000022 * l.length
 | [],_=>Nat.le_refl _
 | s :: l,h=>by
   have h1:=JI (w.txt s) l (fun m hm=>h m (by simp [hm]));have h0:=h s (by simp);have h2:=kn (n:=(s.length:Int)) ⟨by omega,by omega⟩
   have h3:(w.txt s).s.length = w.s.length + ((xj s.length).length + s.length):=by
    show (w.s ++ (xj s.length ++ s)).length = _;rw [List.length_append,List.length_append]
   show ((w.txt s).txts l).s.length ≤ _;simp only [List.length_cons];omega
theorem qa0 (w:WS) (l:List qb) (i:Nat) (h : ∀ s,s ∈ l → s.length ≤ 1000000000) (hl:l.length ≤ 10):(w.txts (l.take i)).s.length ≤ w.s.length + 10000000220:=by
 have h1:=JI w (l.take i) (fun n hn=>h n (List.mem_of_mem_take hn));have h2:(l.take i).length ≤ 10:=by rw [List.length_take];omega
 omega
theorem vr {n:Int} (h:kv n) : ∀ m,m ∈ [n] → kv m:=fun m hm=>by simp only [List.mem_singleton] at hm;exact hm ▸ h
theorem Vi (w:WS) (l:List qb) (h0:l ≠ []) (hn : ∀ s,s ∈ l → s.length ≤ 1000000000) (hl:l.length ≤ 10) (hw:w.s.length ≤ 99000000000000):qf C2.P 34 [.op 0 0 0,.sl true (l.map Jb)] [tyW (wrB 0 1 w.s w.g w.f),qS w.s] (.tup []) [tyW (wrB 0 2 (w.txts l).s (w.txts l).g (w.txts l).f),.dead,qS (w.txts l).s]:=by
 have hml:(l.map Jb).length = l.length:=List.length_map ..;have hpos:0 < l.length:=by cases l with|nil=>exact absurd rfl h0|cons _ _=>simp
 refine qJ (C:=C2) 2 ?_
 repeat' (first|refine qo ?_|fail|(refine xsS ?_ ?_;all_goals first|exact False.elim|intro hp hc)|refine xsA ?_ ?_)
 (refine xsK (τ:=⟨[(0,.op 0 0 0),(6,.sl true (l.map Jb)),(7,.v (.int .i64 (l.length:Int))),(8,.v (.int .i64 ((0:Nat):Int)))],[(0,tyW (wrB 0 1 w.s w.g w.f)),(1,qS w.s)],2⟩) [] qoN qoR ?_)
 refine qB (fun n σ => ∃ i:Nat,i ≤ l.length ∧ n = l.length - i ∧ ((i = 0 ∧ σ = ⟨[(0,.op 0 0 0),(6,.sl true (l.map Jb)),(7,.v (.int .i64 (l.length:Int))),(8,.v (.int .i64 ((0:Nat):Int)))],[(0,tyW (wrB 0 1 w.s w.g w.f)),(1,qS w.s)],2⟩) ∨ (0 < i ∧ σ = ⟨[(0,.op 0 0 0),(6,.sl true (l.map Jb)),(7,.v (.int .i64 (l.length:Int))),(8,.v (.int .i64 (i:Int)))],[(0,tyW (wrB 0 2 (w.txts (l.take i)).s (w.txts (l.take i)).g (w.txts (l.take i)).f)),(2,qS (w.txts (l.take i)).s)],3⟩))) l.length ⟨0,Nat.zero_le _,rfl,.inl ⟨rfl,rfl⟩⟩ ?_;rintro n σ ⟨i,hi,rfl,hst⟩;have hs:=qa0 w l i hn hl;by_cases hlt:i < l.length
 ·have hr:=qK (f:=Jb) hlt;have hx:=hn l[i] (List.getElem_mem hlt);have hnx:=qju w hlt
  rcases hst with ⟨rfl,rfl⟩|⟨hp,rfl⟩
  ·generalize l[0] = x at *;rw [show w.txts (l.take 0) = w from rfl] at hnx hs;obtain ⟨ws,wg,wf⟩:=w;dsimp only at *
   have hi64:kv (x.length:Int):=⟨by omega,by omega⟩
   have hb:=kn hi64
   have hbd : ∀ g f,((WS.mk ws g f).nums [(x.length:Int)]).s.length + x.length ≤ 140737488355328:=fun g f=>by
    have:((WS.mk ws g f).nums [(x.length:Int)]).s.length = ws.length + (xj (x.length:Int)).length:=List.length_append;omega
   have hwb:ws.length ≤ 100000000000000:=by omega
   have hgt:decide (1000 < x.length) = decide ((1000:Int) < (x.length:Int)):=by rw [decide_eq_decide];omega
   cases wg
   all_goals (repeat' (first|refine qo ?_|(first|(refine jd ?_)|(refine vd 0 1 qi ((xi ⟨ws,_,wf⟩ [(x.length:Int)] (by simp) (vr hi64) (by simp) hwb)) ?_)|(refine vd 0 2 qi ((Yv _ _ _ _ (hbd _ _))) ?_))|(refine xsS ?_ ?_;all_goals first|exact False.elim|intro hp hc)|refine xsA ?_ ?_))
   all_goals try (exfalso;first|omega|(exact h0 (by assumption)))
   all_goals (refine ⟨l.length - (0 + 1),⟨[(0,.op 0 0 0),(6,.sl true (l.map Jb)),(7,.v (.int .i64 (l.length:Int))),(8,.v (.int .i64 ((0 + 1:Nat):Int)))],[(0,tyW (wrB 0 2 (ws ++ wK x) _ _)),(2,qS (ws ++ wK x))],3⟩,by omega,?_,⟨0 + 1,by omega,rfl,.inr ⟨Nat.succ_pos _,by rw [hnx];rfl⟩⟩⟩;refine jH [(3,2)] rfl ?gts ?ghs;(case gts=>exact qjy);(case ghs=>refine kH (q:=0) (m:=3) rfl rfl (qp rfl) (qp rfl) ?_ ?_ ?_ qn;all_goals (first|(with_reducible rfl)|(exact List.append_assoc ws (xj (x.length:Int)) x)|(simp only [WS.txt,WS.nums,List.foldl_cons,List.foldl_nil,WS.num,hgt,hc,Bool.false_or,Bool.true_or];done)|rfl|(show _ = (Bool.or false (decide (1000 < x.length)));rw [Bool.false_or,hgt];rfl))))
  ·generalize l[i] = x at *;generalize w.txts (l.take i) = v at *;obtain ⟨ws,wg,wf⟩:=v;dsimp only at *
   have hi64:kv (x.length:Int):=⟨by omega,by omega⟩
   have hb:=kn hi64
   have hbd : ∀ g f,((WS.mk ws g f).nums [(x.length:Int)]).s.length + x.length ≤ 140737488355328:=fun g f=>by
    have:((WS.mk ws g f).nums [(x.length:Int)]).s.length = ws.length + (xj (x.length:Int)).length:=List.length_append;omega
   have hwb:ws.length ≤ 100000000000000:=by omega
   have hgt:decide (1000 < x.length) = decide ((1000:Int) < (x.length:Int)):=by rw [decide_eq_decide];omega
   cases wg
   all_goals (repeat' (first|refine qo ?_|(first|(refine jd ?_)|(refine vd 0 2 qi ((xi ⟨ws,_,wf⟩ [(x.length:Int)] (by simp) (vr hi64) (by simp) hwb)) ?_)|(refine vd 0 3 qi ((Yv _ _ _ _ (hbd _ _))) ?_))|(refine xsS ?_ ?_;all_goals first|exact False.elim|intro hp hc)|refine xsA ?_ ?_))
   all_goals try (exfalso;first|omega|(exact h0 (by assumption)))
   all_goals (refine ⟨l.length - (i + 1),⟨[(0,.op 0 0 0),(6,.sl true (l.map Jb)),(7,.v (.int .i64 (l.length:Int))),(8,.v (.int .i64 ((i + 1:Nat):Int)))],[(0,tyW (wrB 0 2 (ws ++ wK x) _ _)),(2,qS (ws ++ wK x))],3⟩,by omega,?_,⟨i + 1,by omega,rfl,.inr ⟨Nat.succ_pos _,by rw [hnx];rfl⟩⟩⟩;refine jH [(4,2)] rfl ?gts ?ghs;(case gts=>exact qjy);(case ghs=>refine kH (q:=0) (m:=4) rfl rfl (qp rfl) (qp rfl) ?_ ?_ ?_ qn;all_goals (first|(with_reducible rfl)|(exact List.append_assoc ws (xj (x.length:Int)) x)|(simp only [WS.txt,WS.nums,List.foldl_cons,List.foldl_nil,WS.num,hgt,hc,Bool.false_or,Bool.true_or];done)|rfl|(show _ = (Bool.or false (decide (1000 < x.length)));rw [Bool.false_or,hgt];rfl))))
 ·obtain rfl:i = l.length:=by omega
  rw [List.take_length] at hst
  rcases hst with ⟨h1,_⟩|⟨hp,rfl⟩
  ·omega
  repeat' (first|refine qo ?_|fail|(refine xsS ?_ ?_;all_goals first|exact False.elim|intro hp hc)|refine xsA ?_ ?_)
  all_goals try (exfalso;first|omega|(exact h0 (by assumption)))
  all_goals ((exact yp (rs:=[]) [(2,2)] 3 qqa))
theorem qfh (w:WS) (b:Bool) (hw:w.s.length ≤ 100000000000000):qf C2.P 59 [.op 0 0 0,.v (.bool b)] [tyW (wrB 0 1 w.s w.g w.f),qS w.s] (.tup []) [tyW (wrB 0 2 (w.yes b).s (w.yes b).g (w.yes b).f),.dead,qS (w.yes b).s]:=by
 cases b
 ·have hc:=xi w [0] (by simp) (vr ⟨by decide,by decide⟩) (by simp) hw;refine qJ (C:=C2) 2 ?_
  repeat' (first|refine qo ?_|(first|(refine jd ?_)|(refine vd 0 1 qi (hc) ?_))|(refine xsS ?_ ?_;all_goals first|exact False.elim|intro hp hc)|refine xsA ?_ ?_)
  all_goals ((exact yp (rs:=[]) [(2,2)] 3 qnG))
 ·have hc:=xi w [1] (by simp) (vr ⟨by decide,by decide⟩) (by simp) hw;refine qJ (C:=C2) 2 ?_
  repeat' (first|refine qo ?_|(first|(refine jd ?_)|(refine vd 0 1 qi (hc) ?_))|(refine xsS ?_ ?_;all_goals first|exact False.elim|intro hp hc)|refine xsA ?_ ?_)
  all_goals ((exact yp (rs:=[]) [(2,2)] 3 qnG))
theorem vW (w:WS) (n:Int) (h:kv n):(w.nums [n]).s.length ≤ w.s.length + 22:=by
 have:=YL w [n] (vr h);simpa using this
structure Chg.fit (c:Chg):Prop where
 kind:kv c.kind
 path:c.path.length ≤ 1000000000
 tto:c.to.length ≤ 1000000000
 text:c.text.length ≤ 1000000000
 base:kv c.base
theorem qb8 (w:WS) {c:Chg} (h:c.fit):(w.chg c).s.length ≤ w.s.length + 4000000000:=by
 have h1:=vW w c.kind h.kind
 have h2:=JI (w.nums [c.kind]) [c.path,c.to,c.text] (fun s hs=>by
  simp only [List.mem_cons,List.not_mem_nil,or_false] at hs;rcases hs with rfl|rfl|rfl
  ·exact h.path
  ·exact h.tto
  ·exact h.text)
 have h3:=vW ((w.nums [c.kind]).txts [c.path,c.to,c.text]) c.base h.base;simp only [List.length_cons,List.length_nil] at h2;show (((w.nums [c.kind]).txts [c.path,c.to,c.text]).nums [c.base]).s.length ≤ _;omega
theorem qh1 (w:WS) (c:Chg) (h:c.fit) (hw:w.s.length ≤ 98000000000000):qf C2.P 95 [.op 0 0 0,.agg c.row] [tyW (wrB 0 1 w.s w.g w.f),qS w.s] (.tup []) [tyW (wrB 0 2 (w.chg c).s (w.chg c).g (w.chg c).f),.dead,qS (w.chg c).s]:=by
 have ht : ∀ s,s ∈ [c.path,c.to,c.text] → s.length ≤ 1000000000:=fun s hs=>by
  simp only [List.mem_cons,List.not_mem_nil,or_false] at hs;rcases hs with rfl|rfl|rfl
  ·exact h.path
  ·exact h.tto
  ·exact h.text
 have b1:=vW w c.kind h.kind;have b2:=JI (w.nums [c.kind]) [c.path,c.to,c.text] ht;simp only [List.length_cons,List.length_nil] at b2;have c1:=xi w [c.kind] (by simp) (vr h.kind) (by simp) (by omega);have c2:=Vi (w.nums [c.kind]) [c.path,c.to,c.text] (by simp) ht (by simp) (by omega);have c3:=xi ((w.nums [c.kind]).txts [c.path,c.to,c.text]) [c.base] (by simp) (vr h.base) (by simp) (by omega);have hE:w.chg c = ((w.nums [c.kind]).txts [c.path,c.to,c.text]).nums [c.base]:=rfl;rw [hE];clear hE b1 b2 ht h hw;unfold Chg.row;generalize ((w.nums [c.kind]).txts [c.path,c.to,c.text]).nums [c.base] = w3 at *;generalize (w.nums [c.kind]).txts [c.path,c.to,c.text] = w2 at *;generalize w.nums [c.kind] = w1 at *;refine qJ (C:=C2) 2 ?_
 repeat' (first|refine qo ?_|(first|(refine jd ?_)|(refine vd 0 1 qi (c1) ?_)|(refine vd 0 3 qi (c2) ?_)|(refine vd 0 4 qi (c3) ?_))|(refine xsS ?_ ?_;all_goals first|exact False.elim|intro hp hc)|refine xsA ?_ ?_)
 all_goals ((exact yp (rs:=[]) [(5,2)] 3 (by refine qcu (q:=0) (m:=5) rfl rfl (qp rfl) (qp rfl) (qp rfl) ?_ ?_ ?_ qn;all_goals (first|(with_reducible rfl)|rfl))))
theorem ZG {α:Type} (step:WS → α → WS) (w:WS) {l:List α} {i:Nat} (h:i < l.length):(l.take (i + 1)).foldl step w = step ((l.take i).foldl step w) l[i]:=by
 rw [List.take_succ_eq_append_getElem h,List.foldl_append];rfl
theorem kf {α:Type} (step:WS → α → WS) (fit:α → Prop) (K:Nat) (hs : ∀ w x,fit x → (step w x).s.length ≤ w.s.length + K) : ∀ (l:List α) (w:WS),(∀ x,x ∈ l → fit x) → (l.foldl step w).s.length ≤ w.s.length + l.length * K
 | [],w,_=>by simp
 | x :: l,w,h=>by
   have h1:=kf step fit K hs l (step w x) (fun y hy=>h y (by simp [hy]));have h2:=hs w x (h x (by simp));rw [List.foldl_cons,List.length_cons,Nat.add_mul];omega
theorem qdm (w:WS) (l:List Chg) (hl:l.length ≤ 1000000000) (hg:(w.g || decide (20 < l.length)) = true):qf C2.P 94 [.op 0 0 0,ya l,.v (.int .i64 20),.clo (.func 95) [.op 0 0 0] []] [tyW (wrB 0 1 w.s w.g w.f),qS w.s] (.tup []) [tyW (wrB 0 1 w.s true w.f),qS w.s]:=by
 have hml:(l.map Chg.row).length = l.length:=List.length_map ..;obtain ⟨ws,wg,wf⟩:=w;dsimp only at *;cases wg
 all_goals unfold ya
 all_goals (refine qJ (C:=C2) 2 ?_)
 all_goals (repeat' (first|refine qo ?_|fail|(refine xsS ?_ ?_;all_goals first|exact False.elim|intro hp hc)|refine xsA ?_ ?_))
 all_goals try (exfalso;simp only [Bool.false_or,Bool.true_or,decide_eq_true_eq,hml] at hg;first|omega|(simp at hc;omega);done)
 all_goals ((exact yp (rs:=[]) [] 2 (by refine kH (q:=0) (m:=1) rfl rfl (qp rfl) (qp rfl) ?_ ?_ ?_ qn;all_goals (first|(with_reducible rfl)|rfl|exact hc))))
theorem qfd (w:WS) (l:List Chg) (hfit : ∀ c,c ∈ l → c.fit) (hg:w.g = false) (hl:l.length ≤ 20) (hw:w.s.length ≤ 97000000000000):qf C2.P 94 [.op 0 0 0,ya l,.v (.int .i64 20),.clo (.func 95) [.op 0 0 0] []] [tyW (wrB 0 1 w.s w.g w.f),qS w.s] (.tup []) [tyW (wrB 0 2 (l.foldl WS.chg (w.num l.length)).s (l.foldl WS.chg (w.num l.length)).g (l.foldl WS.chg (w.num l.length)).f),.dead,qS (l.foldl WS.chg (w.num l.length)).s]:=by
 have hml:(l.map Chg.row).length = l.length:=List.length_map ..
 have hi64:kv (l.length:Int):=⟨by omega,by omega⟩
 have hn1:=vW w l.length hi64
 have hlen : ∀ i,i ≤ l.length → ((l.take i).foldl WS.chg (w.num l.length)).s.length ≤ 97500000000000:=fun i hi=>by
  have h1:=kf WS.chg Chg.fit 4000000000 (fun w x hx=>qb8 w hx) (l.take i) (w.num l.length) (fun x hx=>hfit x (List.mem_of_mem_take hx));have h2:(l.take i).length ≤ 20:=by rw [List.length_take];omega
  have h3:(w.num l.length).s.length ≤ w.s.length + 22:=hn1;have h4:(l.take i).length * 4000000000 ≤ 20 * 4000000000:=Nat.mul_le_mul_right _ h2;omega
 obtain ⟨ws,wg,wf⟩:=w;dsimp only at hg hw;subst hg;have hnum:=fun g=>xi ⟨ws,g,wf⟩ [((l.map Chg.row).length:Int)] (by simp) (vr (by rw [hml];exact hi64)) (by simp) (by dsimp only;omega)
 refine qJ (C:=C2) 2 ?_
 repeat' (first|refine qo ?_|(first|(refine jd ?_)|(refine vd 0 1 qi ((hnum (decide ((20:Int) < ((l.map Chg.row).length:Int))))) ?_))|(refine xsS ?_ ?_;all_goals first|exact False.elim|intro hp hc)|refine xsA ?_ ?_)
 all_goals try (exfalso;simp at *;omega)
 (refine xsK (τ:=⟨[(32,ya l),(33,.v (.int .i64 (l.length:Int))),(34,.v (.int .i64 ((0:Nat):Int))),(3,.clo (.func 95) [.op 0 0 0] [])],[(0,tyW (wrB 0 2 ((WS.mk ws false wf).num l.length).s ((WS.mk ws false wf).num l.length).g ((WS.mk ws false wf).num l.length).f)),(2,qS ((WS.mk ws false wf).num l.length).s)],3⟩) [(2,2)] (by (repeat (first|exact qx|refine jz ?_|refine wm ?_|refine QL ?_|refine X2 ?_|refine QM ?_ ?_|refine xy ?_ ?_));all_goals first|(rw [hml];done)|exact qcA qx (qp rfl)) (by refine kH (q:=0) (m:=2) rfl rfl (qp rfl) (qp rfl) ?_ ?_ ?_ qn;all_goals (first|(with_reducible rfl)|(rw [hml];rfl)|exact hc)) ?_)
 refine qB (fun n σ => ∃ i:Nat,i ≤ l.length ∧ n = l.length - i ∧ σ = ⟨[(32,ya l),(33,.v (.int .i64 (l.length:Int))),(34,.v (.int .i64 (i:Int))),(3,.clo (.func 95) [.op 0 0 0] [])],[(0,tyW (wrB 0 2 ((l.take i).foldl WS.chg ((WS.mk ws false wf).num l.length)).s ((l.take i).foldl WS.chg ((WS.mk ws false wf).num l.length)).g ((l.take i).foldl WS.chg ((WS.mk ws false wf).num l.length)).f)),(2,qS ((l.take i).foldl WS.chg ((WS.mk ws false wf).num l.length)).s)],3⟩) l.length ⟨0,Nat.zero_le _,rfl,rfl⟩ ?_;rintro n σ ⟨i,hi,rfl,rfl⟩;have hs:=hlen i hi;by_cases hlt:i < l.length
 ·have hr:=qK (f:=Chg.row) hlt;have hx:=hfit l[i] (List.getElem_mem hlt);have hnx:=ZG WS.chg ((WS.mk ws false wf).num l.length) hlt;clear hlen hnum;generalize (l.take i).foldl WS.chg ((WS.mk ws false wf).num l.length) = v at *;generalize l[i] = x at *;have hch:=qh1 v x hx (by omega)
  repeat' (first|refine qo ?_|(first|(refine qpx (first:=[.op 0 0 0]) (cap:=[]) 0 2 Tryz.func95 (hch) ?_))|(refine xsS ?_ ?_;all_goals first|exact False.elim|intro hp hc)|refine xsA ?_ ?_)
  all_goals try (exfalso;omega)
  all_goals (refine ⟨l.length - (i + 1),⟨[(32,ya l),(33,.v (.int .i64 (l.length:Int))),(34,.v (.int .i64 ((i + 1:Nat):Int))),(3,.clo (.func 95) [.op 0 0 0] [])],[(0,tyW (wrB 0 2 (v.chg x).s (v.chg x).g (v.chg x).f)),(2,qS (v.chg x).s)],3⟩,by omega,?_,⟨i + 1,by omega,rfl,by rw [hnx]⟩⟩;refine jH [(4,2)] rfl ?gts ?ghs;(case gts=>(repeat (first|exact qx|refine jz ?_|refine wm ?_|refine QL ?_|refine X2 ?_|refine QM ?_ ?_|refine xy ?_ ?_));all_goals exact qcA qx (qp rfl));(case ghs=>refine kH (q:=0) (m:=4) rfl rfl (qp rfl) (qp rfl) ?_ ?_ ?_ qn;all_goals (first|(with_reducible rfl)|rfl)))
 ·obtain rfl:i = l.length:=by omega
  rw [List.take_length];clear hlen hnum
  repeat' (first|refine qo ?_|fail|(refine xsS ?_ ?_;all_goals first|exact False.elim|intro hp hc)|refine xsA ?_ ?_)
  all_goals try (exfalso;omega)
  all_goals ((exact yp (rs:=[]) [(2,2)] 3 qnG))
theorem J2 {α:Type} {w:WS} {l:List α} {most:Nat} {step:WS → α → WS} (h:(w.g || decide (most < l.length)) = true):w.lst l most step = ⟨w.s,true,w.f⟩:=by unfold WS.lst;rw [if_pos h]
theorem ZQ {α:Type} {w:WS} {l:List α} {most:Nat} {step:WS → α → WS} (h:(w.g || decide (most < l.length)) = false):w.lst l most step = l.foldl step (w.num l.length) ∧ w.g = false ∧ l.length ≤ most:=by
 unfold WS.lst;rw [h,if_neg (by decide)];simp only [Bool.or_eq_false_iff,decide_eq_false_iff_not] at h;exact ⟨rfl,h.1,by omega⟩
theorem Yq (w:WS) (l:List Chg) (hl:l.length ≤ 1000000000) (hg:(w.g || decide (20 < l.length)) = true):qf C2.P 35 [.op 0 0 0,ya l] [tyW (wrB 0 1 w.s w.g w.f),qS w.s] (.tup []) [tyW (wrB 0 1 w.s true w.f),qS w.s]:=by
 have hc:=qdm w l hl hg;refine qJ (C:=C2) 2 ?_
 repeat' (first|refine qo ?_|(first|(refine qlj 0 1 qi hc ?_))|(refine xsS ?_ ?_;all_goals first|exact False.elim|intro hp hc)|refine xsA ?_ ?_)
 all_goals ((exact yp (rs:=[]) [] 2 (by refine kH (q:=0) (m:=1) rfl rfl (qp rfl) (qp rfl) ?_ ?_ ?_ qn;all_goals (first|(with_reducible rfl)|rfl))))
theorem Xy (w:WS) (l:List Chg) (hfit : ∀ c,c ∈ l → c.fit) (hg:(w.g || decide (20 < l.length)) = false) (hw:w.s.length ≤ 97000000000000):qf C2.P 35 [.op 0 0 0,ya l] [tyW (wrB 0 1 w.s w.g w.f),qS w.s] (.tup []) [tyW (wrB 0 2 (w.chgs l).s (w.chgs l).g (w.chgs l).f),.dead,qS (w.chgs l).s]:=by
 obtain ⟨e,h1,h2⟩:=ZQ (step:=WS.chg) hg;have hc:=qfd w l hfit h1 h2 hw;rw [show w.chgs l = _ from e];generalize l.foldl WS.chg (w.num l.length) = v at *;refine qJ (C:=C2) 2 ?_
 repeat' (first|refine qo ?_|(first|(refine vd 0 1 qi (hc) ?_))|(refine xsS ?_ ?_;all_goals first|exact False.elim|intro hp hc)|refine xsA ?_ ?_)
 all_goals ((exact yp (rs:=[]) [(2,2)] 3 qnG))
theorem qbW (w:WS) (h0:w.s ≠ []) (hl:w.s.length ≤ 100000000000000):qf C2.P 36 [.op 0 0 0] [tyW (wrB 0 1 w.s w.g w.f),qS w.s] (.tup [.v (str w.done.1),.v (.int .i64 w.done.2)]) [.dead,.dead]:=by
 obtain ⟨ws,wg,wf⟩:=w;dsimp only at *;have hc:=fun g f=>qjY ws g f h0 (by omega)
 unfold WS.done;cases wg<;>cases wf
 all_goals (refine qJ (C:=C2) 2 ?_)
 all_goals (repeat' (first|refine qo ?_|(first|(refine qpw 0 1 qi ((hc _ _)) ?_))|(refine xsS ?_ ?_;all_goals first|exact False.elim|intro hp hc)|refine xsA ?_ ?_))
 all_goals ((exact yp (rs:=[.tmp 2,.tmp 3]) [] 2 (by exact X6 (X6 qn (qp rfl)) (qp rfl))))
structure Rqt.fit (r:Rqt):Prop where
 kind:kv r.kind
 who:r.who.length ≤ 1000000000
 folder:r.folder.length ≤ 1000000000
 name:r.name.length ≤ 1000000000
 key:r.key.length ≤ 1000000000
 text:r.text.length ≤ 1000000000
 number:kv r.number
 offset:kv r.offset
 base:kv r.base
 chs : ∀ c,c ∈ r.chs → c.fit
 len:r.chs.length ≤ 1000000000
def qaW (r:Rqt):WS:=ws0.nums [r.kind]
def qaX (r:Rqt):WS:=(qaW r).txts [r.who,r.folder,r.name,r.key,r.text]
def QP (r:Rqt):WS:=(qaX r).nums [r.number,r.offset,r.base]
theorem KY (w:WS) {ns:List Int} (h:ns ≠ []):(w.nums ns).s ≠ []:=by
 have : ∀ (ns:List Int) (w:WS),w.s ≠ [] ∨ ns ≠ [] → (w.nums ns).s ≠ []:=by
  intro ns
  induction ns with
  | nil =>
    intro w h;rcases h with h|h
    ·exact h
    ·exact absurd rfl h
  | cons n ns ih=>intro w h;exact ih (w.num n) (.inl (by show w.s ++ (Lib.itoa n ++ [59]) ≠ [];simp))
 exact this ns w (.inr h)
theorem qjj (r:Rqt) (h:r.fit):(∀ s,s ∈ [r.who,r.folder,r.name,r.key,r.text] → s.length ≤ 1000000000) ∧ (∀ n,n ∈ [r.number,r.offset,r.base] → kv n) ∧ (qaW r).s.length ≤ 22 ∧ (qaX r).s.length ≤ 6000000000 ∧ (QP r).s.length ≤ 7000000000 ∧ (QP r).s ≠ []:=by
 have q1 : ∀ s,s ∈ [r.who,r.folder,r.name,r.key,r.text] → s.length ≤ 1000000000:=fun s hs=>by
  simp only [List.mem_cons,List.not_mem_nil,or_false] at hs;rcases hs with rfl|rfl|rfl|rfl|rfl
  ·exact h.who
  ·exact h.folder
  ·exact h.name
  ·exact h.key
  ·exact h.text
 have q2 : ∀ n,n ∈ [r.number,r.offset,r.base] → kv n:=fun s hs=>by
  simp only [List.mem_cons,List.not_mem_nil,or_false] at hs;rcases hs with rfl|rfl|rfl
  ·exact h.number
  ·exact h.offset
  ·exact h.base
 have b1:(qaW r).s.length ≤ 22:=by
  have:=vW ws0 r.kind h.kind;have e:ws0.s.length = 0:=rfl;show (ws0.nums [r.kind]).s.length ≤ 22;omega
 have b2:(qaX r).s.length ≤ 6000000000:=by
  have:=JI (qaW r) _ q1;simp only [List.length_cons,List.length_nil] at this;show ((qaW r).txts _).s.length ≤ _;omega
 have b3:(QP r).s.length ≤ 7000000000:=by
  have:=YL (qaX r) _ q2;simp only [List.length_cons,List.length_nil] at this;show ((qaX r).nums _).s.length ≤ _;omega
 exact ⟨q1,q2,b1,b2,b3,KY _ (by simp)⟩
theorem qgV (r:Rqt) (h:r.fit):jN C.P 11 [.agg r.row] (.tup [.v (str (JM r).1),.v (.int .i64 (JM r).2)]):=by
 obtain ⟨q1,q2,b1,b2,b3,b4⟩:=qjj r h;have c1:=Wf [r.kind] (by simp) (vr h.kind) (by simp);have c2:=Vi (qaW r) [r.who,r.folder,r.name,r.key,r.text] (by simp) q1 (by simp) (by omega);have c3:=xi (qaX r) [r.number,r.offset,r.base] (by simp) q2 (by simp) (by omega);have e1:ws0.nums [r.kind] = qaW r:=rfl;have e2:(qaW r).txts [r.who,r.folder,r.name,r.key,r.text] = qaX r:=rfl;have e3:(qaX r).nums [r.number,r.offset,r.base] = QP r:=rfl;have e4:JM r = ((QP r).chgs r.chs).done:=rfl;rw [e1] at c1;rw [e2] at c2;rw [e3] at c3;rw [e4]
 cases hg:((QP r).g || decide (20 < r.chs.length)) with
 | true =>
   have c4:=Yq (QP r) r.chs h.len hg;have c5:=qbW ⟨(QP r).s,true,(QP r).f⟩ b4 (by dsimp only;omega);rw [show (QP r).chgs r.chs = _ from J2 hg];clear e1 e2 e3 e4 q1 q2 h hg;generalize qaW r = wA at *;generalize qaX r = wB at *;generalize QP r = wC at *;generalize (WS.mk wC.s true wC.f).done = D at *;unfold Rqt.row;refine qJ 0 ?_
   repeat' (first|(first|(apply j5;apply (Qy 89);rfl;rfl;exact nle rfl)|(refine jd ?_)|(refine qbv 1 qi (c1) ?_)|(refine vd 1 2 qi (c2) ?_)|(refine vd 1 3 qi (c3) ?_)|(refine qlj 1 4 qi (c4) ?_)|(refine qee 1 4 qi (c5) ?_))|refine qo ?_|(refine xsS ?_ ?_;all_goals first|exact False.elim|intro hp hc)|refine xsA ?_ ?_)
   all_goals ((exact Jd (rs:=[.tmp 2,.tmp 3]) (hz:=Vb)))
 | false =>
   have c4:=Xy (QP r) r.chs h.chs hg (by omega);obtain ⟨ee,_,hl20⟩:=ZQ (step:=WS.chg) hg
   have b5:((QP r).chgs r.chs).s.length ≤ 100000000000000:=by
    have h1:=kf WS.chg Chg.fit 4000000000 (fun w x hx=>qb8 w hx) r.chs ((QP r).num r.chs.length) h.chs;have h2:((QP r).num r.chs.length).s.length ≤ (QP r).s.length + 22:=vW _ _ ⟨by omega,by omega⟩;have h3:r.chs.length * 4000000000 ≤ 20 * 4000000000:=Nat.mul_le_mul_right _ hl20;rw [show (QP r).chgs r.chs = _ from ee];omega
   have b6:((QP r).chgs r.chs).s ≠ []:=by
    rw [show (QP r).chgs r.chs = _ from ee]
    have : ∀ (l:List Chg) (w:WS),w.s ≠ [] → (l.foldl WS.chg w).s ≠ []:=by
     intro l
     induction l with
     | nil=>exact fun w h=>h
     | cons c l ih=>exact fun w h=>ih _ (KY _ (by simp))
    exact this _ _ (by show (QP r).s ++ _ ≠ [];simp [b4])
   have c5:=qbW ((QP r).chgs r.chs) b6 b5;clear e1 e2 e3 e4 q1 q2 h hg ee;generalize (QP r).chgs r.chs = wD at *;generalize qaW r = wA at *;generalize qaX r = wB at *;generalize QP r = wC at *;generalize wD.done = D at *;unfold Rqt.row;refine qJ 0 ?_
   repeat' (first|(first|(apply j5;apply (Qy 89);rfl;rfl;exact nle rfl)|(refine jd ?_)|(refine qbv 1 qi (c1) ?_)|(refine vd 1 2 qi (c2) ?_)|(refine vd 1 3 qi (c3) ?_)|(refine vd 1 4 qi (c4) ?_)|(refine qee 1 5 qi (c5) ?_))|refine qo ?_|(refine xsS ?_ ?_;all_goals first|exact False.elim|intro hp hc)|refine xsA ?_ ?_)
   all_goals ((exact Jd (rs:=[.tmp 2,.tmp 3]) (hz:=Vb)))
end Go.Proofs.YtgcncinnlmjgdaaGreatDoor
namespace Go.Proofs.YtgcncinnlmjgdaaGreatDoor
open Go.Ab Go.RowKit
noncomputable def C3:Cx := { C with nh:=3 }
@[reducible] def ji (q:Nat):HB := .own true 1 [[.op q 0 0]]
section steps
variable {C' : Cx} {N:Nat} {all:Array Oper} {es:List Eff} {o:Oper} {os:List Oper} {K:List Eff → St → Prop} {ts:List (Nat × AV)} {hs:List (Nat × HB)} {nx:Nat} {gd:List Nat}
theorem qcp {q m b:Nat} {l:qb} {g f:Bool} (hq:qh hs q = tyW (wrB q m l g f)) (hm:qh hs m = qS l) (hb:qh hs b = ji q):Q0 (j6 0 [q,m,b]) (qh hs) [q,m,b] [tyW (wrB 0 1 l g f),qS l,ji 0] :=
 jY (tyW (wrB q m l g f)) (jY (qS l) (jY (ji q) xn (jt (qe (jB (.inr (List.mem_cons_self ..))) jg)) hb rfl) wq hm rfl) (zh (qe (jB (.inr (List.mem_cons_self ..))) (qe (jC (.inr (List.mem_cons_of_mem _ (List.mem_cons_self ..)))) (qe (qy rfl) (qe (qy rfl) jg))))) hq rfl
theorem qha {q m b n:Nat} {l:qb} {g f:Bool}:Yi (zq (j6 0 [q,m,b,n])) [(q,tyW (wrB q n l g f)),(m,.dead),(b,ji q),(n,qS l)] [tyW (wrB 0 3 l g f),.dead,ji 0,qS l] :=
 qY (zh (qe (jB (.inr (List.mem_cons_self ..))) (qe (jC (.inr (List.mem_cons_of_mem _ (List.mem_cons_of_mem _ (List.mem_cons_of_mem _ (List.mem_cons_self ..)))))) (qe (qy rfl) (qe (qy rfl) jg))))) (qY yG (qY (jt (qe (jB (.inr (List.mem_cons_self ..))) jg)) (qY wq yM)))
theorem W5 (q m b nx:Nat) (h:(decide (q < nx) && decide (m < nx) && decide (b < nx) && decide (q ≠ m) && decide (q ≠ b) && decide (m ≠ b)) = true):q < nx ∧ m < nx ∧ b < nx ∧ q ≠ m ∧ q ≠ b ∧ m ≠ b:=by
 simp only [Bool.and_eq_true,decide_eq_true_eq] at h;exact ⟨h.1.1.1.1.1,h.1.1.1.1.2,h.1.1.1.2,h.1.1.2,h.1.2,h.2⟩
theorem qli {f:FuncId} {args:List Operand} {tys:Array TypeId} {d:Nat} {ty:TypeId} {pos:String} {af:Array Edge} {gg:Option (Nat × Bool)} {ys:List AV} {r:AV} {l l' : qb} {g g' f0 f1:Bool} (q m b:Nat) (hf:IsFn C'.P f)
  (hc:qf C'.P f ys [tyW (wrB 0 1 l g f0),qS l,ji 0] r [tyW (wrB 0 3 l' g' f1),.dead,ji 0,qS l'])
  (k:j9 C' N all (⟨gd ++ (qW (.func f) ++ args.flatMap qW),[q,m,b],some d,r,[(q,tyW (wrB q nx l' g' f1)),(m,.dead),(b,ji q),(nx,qS l')],[nx]⟩ :: es) ⟨(d,r) :: ts,(q,tyW (wrB q nx l' g' f1)) :: (m,.dead) :: (b,ji q) :: (nx,qS l') :: hs,nx + 1⟩ os K)
  (hq:qh hs q = tyW (wrB q m l g f0):=by rfl) (hm:qh hs m = qS l:=by rfl) (hb:qh hs b = ji q:=by rfl)
  (hz:qX (j6 0 [q,m,b]) [q,m,b] (qh hs) (args.map (evA (qm ts))) ys:=by ((repeat' (first|exact jL|apply jo|exact jK rfl|exact ym|(apply qv;apply jB;exact .inr (of_decide_eq_true rfl))|(apply qv;apply yr;exact .inr (of_decide_eq_true rfl))|(apply qv;apply jC;exact .inr (of_decide_eq_true rfl))|apply j3|apply j4))<;>fail))
  (hlt:(decide (q < nx) && decide (m < nx) && decide (b < nx) && decide (q ≠ m) && decide (q ≠ b) && decide (m ≠ b)) = true:=by rfl) (hr:r.ren (zq (j6 0 [q,m,b,nx])) = r:=by rfl) (hN:d < N:=by exact nle rfl):kC C' N all gd es ⟨ts,hs,nx⟩ f args d tys ty pos af gg os K:=by
 obtain ⟨h1,h2,h3,h4,h5,h6⟩:=W5 q m b nx hlt;refine vc [q,m,b] [nx] [(q,tyW (wrB q nx l' g' f1)),(m,.dead),(b,ji q),(nx,qS l')] (nx + 1) r hf hc hz (qcp hq hm hb) qha k hr rfl rfl (Nat.le_of_ble_eq_true rfl) ?_ ?_ ?_ (by omega) hN
 ·simp;omega
 ·simp [zc]
 ·intro n hn;simp at hn;omega
theorem qf1 {f:FuncId} {args:List Operand} {tys:Array TypeId} {d:Nat} {ty:TypeId} {pos:String} {af:Array Edge} {gg:Option (Nat × Bool)} {ys:List AV} {r:AV} {l:qb} {g g' f0 f1:Bool} (q m b:Nat) (hf:IsFn C'.P f)
  (hc:qf C'.P f ys [tyW (wrB 0 1 l g f0),qS l,ji 0] r [tyW (wrB 0 1 l g' f1),qS l,ji 0])
  (k:j9 C' N all (⟨gd ++ (qW (.func f) ++ args.flatMap qW),[q,m,b],some d,r,[(q,tyW (wrB q m l g' f1)),(m,qS l),(b,ji q)],[]⟩ :: es) ⟨(d,r) :: ts,(q,tyW (wrB q m l g' f1)) :: (m,qS l) :: (b,ji q) :: hs,nx⟩ os K)
  (hq:qh hs q = tyW (wrB q m l g f0):=by rfl) (hm:qh hs m = qS l:=by rfl) (hb:qh hs b = ji q:=by rfl)
  (hz:qX (j6 0 [q,m,b]) [q,m,b] (qh hs) (args.map (evA (qm ts))) ys:=by ((repeat' (first|exact jL|apply jo|exact jK rfl|exact ym|(apply qv;apply jB;exact .inr (of_decide_eq_true rfl))|(apply qv;apply yr;exact .inr (of_decide_eq_true rfl))|(apply qv;apply jC;exact .inr (of_decide_eq_true rfl))|apply j3|apply j4))<;>fail))
  (hlt:(decide (q < nx) && decide (m < nx) && decide (b < nx) && decide (q ≠ m) && decide (q ≠ b) && decide (m ≠ b)) = true:=by rfl) (hr:r.ren (zq (j6 0 [q,m,b])) = r:=by rfl) (hN:d < N:=by exact nle rfl):kC C' N all gd es ⟨ts,hs,nx⟩ f args d tys ty pos af gg os K:=by
 obtain ⟨h1,h2,h3,h4,h5,h6⟩:=W5 q m b nx hlt;refine vc [q,m,b] [] [(q,tyW (wrB q m l g' f1)),(m,qS l),(b,ji q)] nx r hf hc hz (qcp hq hm hb) (qY (zh (qe (jB (.inr (List.mem_cons_self ..))) (qe (jC (.inr (List.mem_cons_of_mem _ (List.mem_cons_self ..)))) (qe (qy rfl) (qe (qy rfl) jg))))) (qY wq (qY (jt (qe (jB (.inr (List.mem_cons_self ..))) jg)) yM))) k hr rfl rfl (Nat.le_of_ble_eq_true rfl) ?_ rfl (fun n hn=>by cases hn) (Nat.le_refl _) hN;simp;omega
theorem qlk {f:FuncId} {fn:Func} {x:Operand} {first cap:List AV} {args:List Operand} {tys:Array TypeId} {d:Nat} {ty:TypeId} {pos:String} {af:Array Edge} {gg:Option (Nat × Bool)} {ys:List AV} {r:AV} {l l' : qb} {g g' f0 f1:Bool} (q m b:Nat) (hf:C'.P.funcs[f]? = some fn)
  (hc:qf C'.P f ys [tyW (wrB 0 1 l g f0),qS l,ji 0] r [tyW (wrB 0 3 l' g' f1),.dead,ji 0,qS l'])
  (k:j9 C' N all (⟨gd ++ (qW x ++ args.flatMap qW),[q,m,b],some d,r,[(q,tyW (wrB q nx l' g' f1)),(m,.dead),(b,ji q),(nx,qS l')],[nx]⟩ :: es) ⟨(d,r) :: ts,(q,tyW (wrB q nx l' g' f1)) :: (m,.dead) :: (b,ji q) :: (nx,qS l') :: hs,nx + 1⟩ os K)
  (hx:evA (qm ts) x = .clo (.func f) first cap:=by rfl) (hb0:fn.body.isNone = false:=by rfl) (hn0:(fn.name == "runtime.NumGoroutine") = false:=by rfl)
  (hq:qh hs q = tyW (wrB q m l g f0):=by rfl) (hm:qh hs m = qS l:=by rfl) (hb:qh hs b = ji q:=by rfl)
  (hz:qX (j6 0 [q,m,b]) [q,m,b] (qh hs) (first ++ args.map (evA (qm ts)) ++ cap) ys:=by ((repeat' (first|exact jL|apply jo|exact jK rfl|exact ym|(apply qv;apply jB;exact .inr (of_decide_eq_true rfl))|(apply qv;apply yr;exact .inr (of_decide_eq_true rfl))|(apply qv;apply jC;exact .inr (of_decide_eq_true rfl))|apply j3|apply j4))<;>fail))
  (hlt:(decide (q < nx) && decide (m < nx) && decide (b < nx) && decide (q ≠ m) && decide (q ≠ b) && decide (m ≠ b)) = true:=by rfl) (hr:r.ren (zq (j6 0 [q,m,b,nx])) = r:=by rfl) (hN:d < N:=by exact nle rfl):jr C' N all gd es ⟨ts,hs,nx⟩ ⟨some d,.call ⟨.value x,args.toArray,tys⟩,ty,pos,af,gg⟩ os K:=by
 obtain ⟨h1,h2,h3,h4,h5,h6⟩:=W5 q m b nx hlt;refine YM [q,m,b] [nx] [(q,tyW (wrB q nx l' g' f1)),(m,.dead),(b,ji q),(nx,qS l')] (nx + 1) r hf hc hz (qcp hq hm hb) qha k hx hb0 hn0 hr rfl rfl (Nat.le_of_ble_eq_true rfl) ?_ ?_ ?_ (by omega) hN
 ·simp;omega
 ·simp [zc]
 ·intro n hn;simp at hn;omega
end steps
theorem VM {L:List (Nat × Nat)} {nh:Nat} {σ:St} {q q' b b' : Nat} {rest:List (Nat × HB)} (hb:qh σ.hs b = ji q) (h1:Maps L nh q q') (h2:Maps L nh b b') (hr:yd L nh σ rest):yd L nh σ ((b',ji q') :: rest) :=
 ⟨⟨b,h2,by rw [hb];exact jt (qe (jB h1) jg)⟩,hr⟩
theorem VP {L:List (Nat × Nat)} {nh:Nat} {σ:St} {q q' m m' d' b b' : Nat} {l l' : qb} {g g' f f' : Bool} {rest:List (Nat × HB)} (hq:qh σ.hs q = tyW (wrB q m l g f)) (hm:qh σ.hs m = qS l) (hb:qh σ.hs b = ji q) (h1:Maps L nh q q') (h2:Maps L nh m m') (hd:Maps L nh d' d') (h3:Maps L nh b b') (hl:l = l') (hg:g = g') (hf:f = f') (hr:yd L nh σ rest):yd L nh σ ((q',tyW (wrB q' m' l' g' f')) :: (d',.dead) :: (b',ji q') :: (m',qS l') :: rest):=by
 subst hl hg hf;exact qlr (X6 (VM hb h1 h3 (qnd hr rfl h2 hm)) hd) (qe (jB h1) (qe (jC h2) (qe (qy rfl) (qe (qy rfl) jg)))) h1 hq
attribute [local irreducible] Awp j9 jr ye Red qz Go.Ab.Fin qf Rz wz jF jU ResOk yA j1 xR qX
structure Ent.fit (e:Ent):Prop where
 path:e.path.length ≤ 1000000000
 text:e.text.length ≤ 1000000000
 ver:kv e.ver
structure Com.fit (c:Com):Prop where
 num:kv c.num
 key:c.key.length ≤ 1000000000
 chs : ∀ x,x ∈ c.chs → x.fit
 len:c.chs.length ≤ 1000000000
theorem K8 (w:WS) (b:Bool):(w.yes b).s.length ≤ w.s.length + 22:=by
 cases b
 ·exact vW w 0 ⟨by decide,by decide⟩
 ·exact vW w 1 ⟨by decide,by decide⟩
theorem KZ {t:qb} (h:t.length ≤ 1000000000) : ∀ s,s ∈ [t] → s.length ≤ 1000000000:=fun s hs=>by
 simp only [List.mem_singleton] at hs;exact hs ▸ h
theorem JH (w:WS) {t:qb} (h:t.length ≤ 1000000000):(w.txts [t]).s.length ≤ w.s.length + 1000000022:=by
 have:=JI w [t] (KZ h);simpa using this
theorem qhj (w:WS) {e:Ent} (h:e.fit):(w.ent e).s.length ≤ w.s.length + 4000000000:=by
 have h1:=JH w h.path;have h2:=K8 (w.txts [e.path]) e.fold;have h3:=JH ((w.txts [e.path]).yes e.fold) h.text;have h4:=vW (((w.txts [e.path]).yes e.fold).txts [e.text]) e.ver h.ver;show ((((w.txts [e.path]).yes e.fold).txts [e.text]).nums [e.ver]).s.length ≤ _;omega
theorem qko (w:WS) {l:List Chg} (h : ∀ c,c ∈ l → c.fit):(w.chgs l).s.length ≤ w.s.length + 80000000022:=by
 cases hg:(w.g || decide (20 < l.length)) with
 | true =>
   rw [show w.chgs l = _ from J2 hg];exact Nat.le_add_right _ _
 | false =>
   obtain ⟨e,_,h20⟩:=ZQ (step:=WS.chg) hg;rw [show w.chgs l = _ from e];have h1:=kf WS.chg Chg.fit 4000000000 (fun w x hx=>qb8 w hx) l (w.num l.length) h;have h2:(w.num l.length).s.length ≤ w.s.length + 22:=vW w _ ⟨by omega,by omega⟩;have h3:l.length * 4000000000 ≤ 20 * 4000000000:=Nat.mul_le_mul_right _ h20;omega
theorem qhh (w:WS) {c:Com} (h:c.fit):(w.com c).s.length ≤ w.s.length + 82000000000:=by
 have h1:=vW w c.num h.num;have h2:=JH (w.nums [c.num]) h.key;have h3:=qko ((w.nums [c.num]).txts [c.key]) h.chs;show (((w.nums [c.num]).txts [c.key]).chgs c.chs).s.length ≤ _;omega
theorem qmu (w:WS) (e:Ent) (h:e.fit) (hw:w.s.length ≤ 95000000000000):qf C3.P 61 [.agg e.row,.op 2 0 0] [tyW (wrB 0 1 w.s w.g w.f),qS w.s,ji 0] (.tup []) [tyW (wrB 0 3 (w.ent e).s (w.ent e).g (w.ent e).f),.dead,ji 0,qS (w.ent e).s]:=by
 have h1:=JH w h.path;have h2:=K8 (w.txts [e.path]) e.fold;have h3:=JH ((w.txts [e.path]).yes e.fold) h.text;have c1:=Vi w [e.path] (by simp) (KZ h.path) (by simp) (by omega);have c2:=qfh (w.txts [e.path]) e.fold (by omega);have c3:=Vi ((w.txts [e.path]).yes e.fold) [e.text] (by simp) (KZ h.text) (by simp) (by omega);have c4:=xi (((w.txts [e.path]).yes e.fold).txts [e.text]) [e.ver] (by simp) (vr h.ver) (by simp) (by omega);have hE:w.ent e = (((w.txts [e.path]).yes e.fold).txts [e.text]).nums [e.ver]:=rfl;rw [hE];clear hE h1 h2 h3 h hw;unfold Ent.row;generalize (((w.txts [e.path]).yes e.fold).txts [e.text]).nums [e.ver] = w4 at *;generalize ((w.txts [e.path]).yes e.fold).txts [e.text] = w3 at *;generalize (w.txts [e.path]).yes e.fold = w2 at *;generalize w.txts [e.path] = w1 at *;refine qJ (C:=C3) 3 ?_
 repeat' (first|refine qo ?_|(first|(refine jd ?_)|(refine vd 0 1 qi (c1) ?_)|(refine vd 0 4 qi (c2) ?_)|(refine vd 0 5 qi (c3) ?_)|(refine vd 0 6 qi (c4) ?_))|(refine xsS ?_ ?_;all_goals first|exact False.elim|intro hp hc)|refine xsA ?_ ?_)
 all_goals ((exact yp (rs:=[]) [(7,3)] 4 (by refine VP (q:=0) (m:=7) (b:=2) rfl rfl rfl (qp rfl) (qp rfl) (qp rfl) (qp rfl) ?_ ?_ ?_ qn;all_goals (first|(with_reducible rfl)|rfl))))
theorem qmt (w:WS) (c:Com) (h:c.fit) (hw:w.s.length ≤ 95000000000000):qf C3.P 63 [.agg c.row,.op 2 0 0] [tyW (wrB 0 1 w.s w.g w.f),qS w.s,ji 0] (.tup []) [tyW (wrB 0 3 (w.com c).s (w.com c).g (w.com c).f),.dead,ji 0,qS (w.com c).s]:=by
 have h1:=vW w c.num h.num;have h2:=JH (w.nums [c.num]) h.key;have c1:=xi w [c.num] (by simp) (vr h.num) (by simp) (by omega);have c2:=Vi (w.nums [c.num]) [c.key] (by simp) (KZ h.key) (by simp) (by omega);have hE:w.com c = ((w.nums [c.num]).txts [c.key]).chgs c.chs:=rfl;rw [hE];have hl:=h.len;have hf:=h.chs;clear hE h;unfold Com.row;generalize hw2:(w.nums [c.num]).txts [c.key] = w2 at *;generalize w.nums [c.num] = w1 at *
 cases hg:(w2.g || decide (20 < c.chs.length)) with
 | true =>
   have c3:=Yq w2 c.chs hl hg;rw [show w2.chgs c.chs = _ from J2 hg];clear hl hf hg h1 h2 hw hw2;refine qJ (C:=C3) 3 ?_
   repeat' (first|refine qo ?_|(first|(refine jd ?_)|(refine vd 0 1 qi (c1) ?_)|(refine vd 0 4 qi (c2) ?_)|(refine qlj 0 5 qi (c3) ?_))|(refine xsS ?_ ?_;all_goals first|exact False.elim|intro hp hc)|refine xsA ?_ ?_)
   all_goals ((exact yp (rs:=[]) [(5,3)] 4 (by refine VP (q:=0) (m:=5) (b:=2) rfl rfl rfl (qp rfl) (qp rfl) (qp rfl) (qp rfl) ?_ ?_ ?_ qn;all_goals (first|(with_reducible rfl)|rfl))))
 | false =>
   have c3:=Xy w2 c.chs hf hg (by omega);generalize w2.chgs c.chs = w3 at *;clear hl hf hg h1 h2 hw hw2;refine qJ (C:=C3) 3 ?_
   repeat' (first|refine qo ?_|(first|(refine jd ?_)|(refine vd 0 1 qi (c1) ?_)|(refine vd 0 4 qi (c2) ?_)|(refine vd 0 5 qi (c3) ?_))|(refine xsS ?_ ?_;all_goals first|exact False.elim|intro hp hc)|refine xsA ?_ ?_)
   all_goals ((exact yp (rs:=[]) [(6,3)] 4 (by refine VP (q:=0) (m:=6) (b:=2) rfl rfl rfl (qp rfl) (qp rfl) (qp rfl) (qp rfl) ?_ ?_ ?_ qn;all_goals (first|(with_reducible rfl)|rfl))))
theorem qbZ (w:WS) (l:List Ent) (hl:l.length ≤ 1000000000) (hg:(w.g || decide (60 < l.length)) = true):qf C3.P 60 [.op 0 0 0,qU l,.v (.int .i64 60),.clo (.func 61) [] [.op 2 0 0]] [tyW (wrB 0 1 w.s w.g w.f),qS w.s,ji 0] (.tup []) [tyW (wrB 0 1 w.s true w.f),qS w.s,ji 0]:=by
 have hml:(l.map Ent.row).length = l.length:=List.length_map ..;obtain ⟨ws,wg,wf⟩:=w;dsimp only at *;cases wg
 all_goals unfold qU
 all_goals (refine qJ (C:=C3) 3 ?_)
 all_goals (repeat' (first|refine qo ?_|fail|(refine xsS ?_ ?_;all_goals first|exact False.elim|intro hp hc)|refine xsA ?_ ?_))
 all_goals try (exfalso;simp only [Bool.false_or,Bool.true_or,decide_eq_true_eq,hml] at hg;first|omega|(simp at hc;omega);done)
 all_goals ((exact yp (rs:=[]) [] 3 qpZ))
theorem qdo (w:WS) (l:List Ent) (hfit : ∀ c,c ∈ l → c.fit) (hg:w.g = false) (hl:l.length ≤ 60) (hw:w.s.length ≤ 90000000000000):qf C3.P 60 [.op 0 0 0,qU l,.v (.int .i64 60),.clo (.func 61) [] [.op 2 0 0]] [tyW (wrB 0 1 w.s w.g w.f),qS w.s,ji 0] (.tup []) [tyW (wrB 0 3 (l.foldl WS.ent (w.num l.length)).s (l.foldl WS.ent (w.num l.length)).g (l.foldl WS.ent (w.num l.length)).f),.dead,ji 0,qS (l.foldl WS.ent (w.num l.length)).s]:=by
 have hml:(l.map Ent.row).length = l.length:=List.length_map ..
 have hi64:kv (l.length:Int):=⟨by omega,by omega⟩
 have hn1:=vW w l.length hi64
 have hlen : ∀ i,i ≤ l.length → ((l.take i).foldl WS.ent (w.num l.length)).s.length ≤ 94000000000000:=fun i hi=>by
  have h1:=kf WS.ent Ent.fit 4000000000 (fun w x hx=>qhj w hx) (l.take i) (w.num l.length) (fun x hx=>hfit x (List.mem_of_mem_take hx));have h2:(l.take i).length ≤ 60:=by rw [List.length_take];omega
  have h3:(w.num l.length).s.length ≤ w.s.length + 22:=hn1;have h4:(l.take i).length * 4000000000 ≤ 60 * 4000000000:=Nat.mul_le_mul_right _ h2;omega
 obtain ⟨ws,wg,wf⟩:=w;dsimp only at hg hw;subst hg;have hnum:=fun g=>xi ⟨ws,g,wf⟩ [((l.map Ent.row).length:Int)] (by simp) (vr (by rw [hml];exact hi64)) (by simp) (by dsimp only;omega)
 refine qJ (C:=C3) 3 ?_
 repeat' (first|refine qo ?_|(first|(refine jd ?_)|(refine vd 0 1 qi ((hnum (decide ((60:Int) < ((l.map Ent.row).length:Int))))) ?_))|(refine xsS ?_ ?_;all_goals first|exact False.elim|intro hp hc)|refine xsA ?_ ?_)
 all_goals try (exfalso;simp at *;omega)
 (refine xsK (τ:=⟨[(32,qU l),(33,.v (.int .i64 (l.length:Int))),(34,.v (.int .i64 ((0:Nat):Int))),(3,.clo (.func 61) [] [.op 2 0 0])],[(0,tyW (wrB 0 3 ((WS.mk ws false wf).num l.length).s ((WS.mk ws false wf).num l.length).g ((WS.mk ws false wf).num l.length).f)),(3,qS ((WS.mk ws false wf).num l.length).s),(2,ji 0)],4⟩) [(3,3)] qpW qpX ?_)
 refine qB (fun n σ => ∃ i:Nat,i ≤ l.length ∧ n = l.length - i ∧ σ = ⟨[(32,qU l),(33,.v (.int .i64 (l.length:Int))),(34,.v (.int .i64 (i:Int))),(3,.clo (.func 61) [] [.op 2 0 0])],[(0,tyW (wrB 0 3 ((l.take i).foldl WS.ent ((WS.mk ws false wf).num l.length)).s ((l.take i).foldl WS.ent ((WS.mk ws false wf).num l.length)).g ((l.take i).foldl WS.ent ((WS.mk ws false wf).num l.length)).f)),(3,qS ((l.take i).foldl WS.ent ((WS.mk ws false wf).num l.length)).s),(2,ji 0)],4⟩) l.length ⟨0,Nat.zero_le _,rfl,rfl⟩ ?_;rintro n σ ⟨i,hi,rfl,rfl⟩;have hs:=hlen i hi;by_cases hlt:i < l.length
 ·have hr:=qK (f:=Ent.row) hlt;have hx:=hfit l[i] (List.getElem_mem hlt);have hnx:=ZG WS.ent ((WS.mk ws false wf).num l.length) hlt;clear hlen hnum;generalize (l.take i).foldl WS.ent ((WS.mk ws false wf).num l.length) = v at *;generalize l[i] = x at *;have hch:=qmu v x hx (by omega)
  repeat' (first|refine qo ?_|(first|(refine qlk (first:=[]) (cap:=[.op 2 0 0]) 0 3 2 Tryz.func61 (hch) ?_))|(refine xsS ?_ ?_;all_goals first|exact False.elim|intro hp hc)|refine xsA ?_ ?_)
  all_goals try (exfalso;omega)
  all_goals (refine ⟨l.length - (i + 1),⟨[(32,qU l),(33,.v (.int .i64 (l.length:Int))),(34,.v (.int .i64 ((i + 1:Nat):Int))),(3,.clo (.func 61) [] [.op 2 0 0])],[(0,tyW (wrB 0 3 (WS.ent v x).s (WS.ent v x).g (WS.ent v x).f)),(3,qS (WS.ent v x).s),(2,ji 0)],4⟩,by omega,?_,⟨i + 1,by omega,rfl,by rw [hnx]⟩⟩;refine jH [(5,3)] rfl ?gts ?ghs;(case gts=>exact qp3);(case ghs=>exact qp6))
 ·obtain rfl:i = l.length:=by omega
  rw [List.take_length];clear hlen hnum
  repeat' (first|refine qo ?_|fail|(refine xsS ?_ ?_;all_goals first|exact False.elim|intro hp hc)|refine xsA ?_ ?_)
  all_goals try (exfalso;omega)
  all_goals ((exact yp (rs:=[]) [(3,3)] 4 qp7))
theorem Vg (w:WS) (l:List Com) (hl:l.length ≤ 1000000000) (hg:(w.g || decide (10 < l.length)) = true):qf C3.P 62 [.op 0 0 0,yv l,.v (.int .i64 10),.clo (.func 63) [] [.op 2 0 0]] [tyW (wrB 0 1 w.s w.g w.f),qS w.s,ji 0] (.tup []) [tyW (wrB 0 1 w.s true w.f),qS w.s,ji 0]:=by
 have hml:(l.map Com.row).length = l.length:=List.length_map ..;obtain ⟨ws,wg,wf⟩:=w;dsimp only at *;cases wg
 all_goals unfold yv
 all_goals (refine qJ (C:=C3) 3 ?_)
 all_goals (repeat' (first|refine qo ?_|fail|(refine xsS ?_ ?_;all_goals first|exact False.elim|intro hp hc)|refine xsA ?_ ?_))
 all_goals try (exfalso;simp only [Bool.false_or,Bool.true_or,decide_eq_true_eq,hml] at hg;first|omega|(simp at hc;omega);done)
 all_goals ((exact yp (rs:=[]) [] 3 qpZ))
theorem qdn (w:WS) (l:List Com) (hfit : ∀ c,c ∈ l → c.fit) (hg:w.g = false) (hl:l.length ≤ 10) (hw:w.s.length ≤ 90000000000000):qf C3.P 62 [.op 0 0 0,yv l,.v (.int .i64 10),.clo (.func 63) [] [.op 2 0 0]] [tyW (wrB 0 1 w.s w.g w.f),qS w.s,ji 0] (.tup []) [tyW (wrB 0 3 (l.foldl WS.com (w.num l.length)).s (l.foldl WS.com (w.num l.length)).g (l.foldl WS.com (w.num l.length)).f),.dead,ji 0,qS (l.foldl WS.com (w.num l.length)).s]:=by
 have hml:(l.map Com.row).length = l.length:=List.length_map ..
 have hi64:kv (l.length:Int):=⟨by omega,by omega⟩
 have hn1:=vW w l.length hi64
 have hlen : ∀ i,i ≤ l.length → ((l.take i).foldl WS.com (w.num l.length)).s.length ≤ 94000000000000:=fun i hi=>by
  have h1:=kf WS.com Com.fit 82000000000 (fun w x hx=>qhh w hx) (l.take i) (w.num l.length) (fun x hx=>hfit x (List.mem_of_mem_take hx));have h2:(l.take i).length ≤ 10:=by rw [List.length_take];omega
  have h3:(w.num l.length).s.length ≤ w.s.length + 22:=hn1;have h4:(l.take i).length * 82000000000 ≤ 10 * 82000000000:=Nat.mul_le_mul_right _ h2;omega
 obtain ⟨ws,wg,wf⟩:=w;dsimp only at hg hw;subst hg;have hnum:=fun g=>xi ⟨ws,g,wf⟩ [((l.map Com.row).length:Int)] (by simp) (vr (by rw [hml];exact hi64)) (by simp) (by dsimp only;omega)
 refine qJ (C:=C3) 3 ?_
 repeat' (first|refine qo ?_|(first|(refine jd ?_)|(refine vd 0 1 qi ((hnum (decide ((10:Int) < ((l.map Com.row).length:Int))))) ?_))|(refine xsS ?_ ?_;all_goals first|exact False.elim|intro hp hc)|refine xsA ?_ ?_)
 all_goals try (exfalso;simp at *;omega)
 (refine xsK (τ:=⟨[(32,yv l),(33,.v (.int .i64 (l.length:Int))),(34,.v (.int .i64 ((0:Nat):Int))),(3,.clo (.func 63) [] [.op 2 0 0])],[(0,tyW (wrB 0 3 ((WS.mk ws false wf).num l.length).s ((WS.mk ws false wf).num l.length).g ((WS.mk ws false wf).num l.length).f)),(3,qS ((WS.mk ws false wf).num l.length).s),(2,ji 0)],4⟩) [(3,3)] qpW qpX ?_)
 refine qB (fun n σ => ∃ i:Nat,i ≤ l.length ∧ n = l.length - i ∧ σ = ⟨[(32,yv l),(33,.v (.int .i64 (l.length:Int))),(34,.v (.int .i64 (i:Int))),(3,.clo (.func 63) [] [.op 2 0 0])],[(0,tyW (wrB 0 3 ((l.take i).foldl WS.com ((WS.mk ws false wf).num l.length)).s ((l.take i).foldl WS.com ((WS.mk ws false wf).num l.length)).g ((l.take i).foldl WS.com ((WS.mk ws false wf).num l.length)).f)),(3,qS ((l.take i).foldl WS.com ((WS.mk ws false wf).num l.length)).s),(2,ji 0)],4⟩) l.length ⟨0,Nat.zero_le _,rfl,rfl⟩ ?_;rintro n σ ⟨i,hi,rfl,rfl⟩;have hs:=hlen i hi;by_cases hlt:i < l.length
 ·have hr:=qK (f:=Com.row) hlt;have hx:=hfit l[i] (List.getElem_mem hlt);have hnx:=ZG WS.com ((WS.mk ws false wf).num l.length) hlt;clear hlen hnum;generalize (l.take i).foldl WS.com ((WS.mk ws false wf).num l.length) = v at *;generalize l[i] = x at *;have hch:=qmt v x hx (by omega)
  repeat' (first|refine qo ?_|(first|(refine qlk (first:=[]) (cap:=[.op 2 0 0]) 0 3 2 Tryz.func63 (hch) ?_))|(refine xsS ?_ ?_;all_goals first|exact False.elim|intro hp hc)|refine xsA ?_ ?_)
  all_goals try (exfalso;omega)
  all_goals (refine ⟨l.length - (i + 1),⟨[(32,yv l),(33,.v (.int .i64 (l.length:Int))),(34,.v (.int .i64 ((i + 1:Nat):Int))),(3,.clo (.func 63) [] [.op 2 0 0])],[(0,tyW (wrB 0 3 (WS.com v x).s (WS.com v x).g (WS.com v x).f)),(3,qS (WS.com v x).s),(2,ji 0)],4⟩,by omega,?_,⟨i + 1,by omega,rfl,by rw [hnx]⟩⟩;refine jH [(5,3)] rfl ?gts ?ghs;(case gts=>exact qp3);(case ghs=>exact qp6))
 ·obtain rfl:i = l.length:=by omega
  rw [List.take_length];clear hlen hnum
  repeat' (first|refine qo ?_|fail|(refine xsS ?_ ?_;all_goals first|exact False.elim|intro hp hc)|refine xsA ?_ ?_)
  all_goals try (exfalso;omega)
  all_goals ((exact yp (rs:=[]) [(3,3)] 4 qp7))
structure Ans.fit (a:Ans):Prop where
 err:kv a.err
 num:kv a.num
 tree : ∀ x,x ∈ a.page.tree → x.fit
 tlen:a.page.tree.length ≤ 1000000000
 coms : ∀ x,x ∈ a.page.coms → x.fit
 clen:a.page.coms.length ≤ 1000000000
 cur:kv a.page.cur
theorem qhT {n m:Int} (h:kv n) (h' : kv m) : ∀ k,k ∈ [n,m] → kv k:=fun k hk=>by
 simp only [List.mem_cons,List.not_mem_nil,or_false] at hk;rcases hk with rfl|rfl
 ·exact h
 ·exact h'
theorem qo7 (w:WS) (b:Bool):(w.yes b).s ≠ []:=by
 cases b
 ·exact @KY w [0] (by simp)
 ·exact @KY w [1] (by simp)
theorem qhz {α:Type} (step:WS → α → WS) (fit:α → Prop) (K M:Nat) (hs : ∀ w x,fit x → (step w x).s.length ≤ w.s.length + K) (w:WS) {l:List α} (h : ∀ x,x ∈ l → fit x) (hM:M ≤ 1000):(w.lst l M step).s.length ≤ w.s.length + 22 + M * K:=by
 cases hg:(w.g || decide (M < l.length)) with
 | true =>
   rw [J2 hg];show w.s.length ≤ _;omega
 | false =>
   obtain ⟨e,_,hl⟩:=ZQ (step:=step) hg;rw [e];have h1:=kf step fit K hs l (w.num l.length) h;have h2:(w.num l.length).s.length ≤ w.s.length + 22:=vW w _ ⟨by omega,by omega⟩;have h3:l.length * K ≤ M * K:=Nat.mul_le_mul_right _ hl;omega
theorem qb0 (a:Ans) (h:a.fit):jN C.P 18 [.agg a.row] (.tup [.v (str (Yl a).1),.v (.int .i64 (Yl a).2)]):=by
 have b1:=YL ws0 [a.err,a.num] (qhT h.err h.num);have b2:=K8 (ws0.nums [a.err,a.num]) a.page.reset;have b3:=qhz WS.ent Ent.fit 4000000000 60 (fun w x hx=>qhj w hx) ((ws0.nums [a.err,a.num]).yes a.page.reset) h.tree (by decide);have b4:=qhz WS.com Com.fit 82000000000 10 (fun w x hx=>qhh w hx) (((ws0.nums [a.err,a.num]).yes a.page.reset).lst a.page.tree 60 WS.ent) h.coms (by decide);have b5:=vW ((((ws0.nums [a.err,a.num]).yes a.page.reset).lst a.page.tree 60 WS.ent).lst a.page.coms 10 WS.com) a.page.cur h.cur;have b6:=K8 (((((ws0.nums [a.err,a.num]).yes a.page.reset).lst a.page.tree 60 WS.ent).lst a.page.coms 10 WS.com).nums [a.page.cur]) a.page.more;have e0:ws0.s.length = 0:=rfl;simp only [List.length_cons,List.length_nil] at b1;have hE:Yl a = ((((((ws0.nums [a.err,a.num]).yes a.page.reset).lst a.page.tree 60 WS.ent).lst a.page.coms 10 WS.com).nums [a.page.cur]).yes a.page.more).done:=rfl;rw [hE];clear hE;have c1:=Wf [a.err,a.num] (by simp) (qhT h.err h.num) (by simp);have c2:=qfh (ws0.nums [a.err,a.num]) a.page.reset (by omega);have hT:=h.tree;have hC:=h.coms;have hTl:=h.tlen;have hCl:=h.clen;have hcur:=h.cur;clear h;obtain ⟨err,num,reset,tree,coms,cur,more⟩:=a;dsimp only at *;generalize ws0.nums [err,num] = wA at *;generalize wA.yes reset = wB at *;generalize hwC:wB.lst tree 60 WS.ent = wC at *;generalize hwD:wC.lst coms 10 WS.com = wD at *;have c5:=xi wD [cur] (by simp) (vr hcur) (by simp) (by omega);generalize wD.nums [cur] = wE at *;have c6:=qfh wE more (by omega);have hne:=qo7 wE more;generalize wE.yes more = wF at *;have c7:=qbW wF hne (by omega);generalize wF.done = D at *
 cases hg:(wB.g || decide (60 < tree.length)) with
 | true =>
   have c3:=qbZ wB tree hTl hg;rw [J2 hg] at hwC;subst hwC;have hg2:((WS.mk wB.s true wB.f).g || decide (10 < coms.length)) = true:=rfl;have c4:=Vg ⟨wB.s,true,wB.f⟩ coms hCl hg2;rw [J2 hg2] at hwD;subst hwD;clear b1 b2 b3 b4 b5 b6 hT hC hTl hCl hcur hne hg hg2 e0;dsimp only at *;unfold Ans.row;refine qJ 0 ?_
   repeat' (first|(first|(apply j5;apply (Qy 89);rfl;rfl;exact nle rfl)|(refine jd ?_)|(refine qbv 1 qi (c1) ?_)|(refine vd 1 3 qi (c2) ?_)|(refine qf1 1 5 2 qi (c3) ?_)|(refine qf1 1 5 2 qi (c4) ?_)|(refine vd 1 5 qi (c5) ?_)|(refine vd 1 6 qi (c6) ?_)|(refine qee 1 7 qi (c7) ?_))|refine qo ?_|(refine xsS ?_ ?_;all_goals first|exact False.elim|intro hp hc)|refine xsA ?_ ?_)
   all_goals ((exact Jd (rs:=[.tmp 2,.tmp 3]) (hz:=Vb)))
 | false =>
   obtain ⟨eC,hB,hl⟩:=ZQ (step:=WS.ent) hg;have c3:=qdo wB tree hT hB hl (by omega);rw [← eC,hwC] at c3;clear eC hwC
   cases hg2:(wC.g || decide (10 < coms.length)) with
   | true =>
     have c4:=Vg wC coms hCl hg2;rw [J2 hg2] at hwD;subst hwD;clear b1 b2 b3 b4 b5 b6 hT hC hTl hCl hcur hne hg hg2 e0 hB hl;dsimp only at *;unfold Ans.row;refine qJ 0 ?_
     repeat' (first|(first|(apply j5;apply (Qy 89);rfl;rfl;exact nle rfl)|(refine jd ?_)|(refine qbv 1 qi (c1) ?_)|(refine vd 1 3 qi (c2) ?_)|(refine qli 1 5 2 qi (c3) ?_)|(refine qf1 1 6 2 qi (c4) ?_)|(refine vd 1 6 qi (c5) ?_)|(refine vd 1 7 qi (c6) ?_)|(refine qee 1 8 qi (c7) ?_))|refine qo ?_|(refine xsS ?_ ?_;all_goals first|exact False.elim|intro hp hc)|refine xsA ?_ ?_)
     all_goals ((exact Jd (rs:=[.tmp 2,.tmp 3]) (hz:=Vb)))
   | false =>
     obtain ⟨eD,hCg,hl2⟩:=ZQ (step:=WS.com) hg2;have c4:=qdn wC coms hC hCg hl2 (by omega);rw [← eD,hwD] at c4;clear eD hwD;clear b1 b2 b3 b4 b5 b6 hT hC hTl hCl hcur hne hg hg2 e0 hB hl hCg hl2;unfold Ans.row;refine qJ 0 ?_
     repeat' (first|(first|(apply j5;apply (Qy 89);rfl;rfl;exact nle rfl)|(refine jd ?_)|(refine qbv 1 qi (c1) ?_)|(refine vd 1 3 qi (c2) ?_)|(refine qli 1 5 2 qi (c3) ?_)|(refine qli 1 6 2 qi (c4) ?_)|(refine vd 1 7 qi (c5) ?_)|(refine vd 1 8 qi (c6) ?_)|(refine qee 1 9 qi (c7) ?_))|refine qo ?_|(refine xsS ?_ ?_;all_goals first|exact False.elim|intro hp hc)|refine xsA ?_ ?_)
     all_goals ((exact Jd (rs:=[.tmp 2,.tmp 3]) (hz:=Vb)))
end Go.Proofs.YtgcncinnlmjgdaaGreatDoor
