import Derived.Test.YtnhpclmbhbblbaaGreatDoorMz35
set_option linter.unusedSimpArgs false
set_option linter.unnecessarySimpa false
set_option linter.unusedVariables false
set_option maxHeartbeats 1000000
namespace Go.Proofs.YtnhpclmbhbblbaaGreatDoor
open Go.Ab Go.RowKit
set_option maxRecDepth 10000
attribute [local irreducible] Awp yl jE jl Red qX Go.Ab.Fin qW Rz vl jj ji ResOk jV jz yb jv
theorem qgF {b x y:Thg} (h:x = y ∨ y = b):JQ b x y = (x,noT):=by
 unfold JQ
 by_cases h1:x = y
 ·rw [if_pos h1]
 ·rw [if_neg h1]
  rcases h with h|h
  ·exact absurd h h1
  ·rw [if_neg (fun e=>h1 (e.trans h.symm)),if_pos h]
theorem qgG {b x y:Thg} (h1:¬ x = y) (h2:x = b):JQ b x y = (y,noT):=by
 unfold JQ;rw [if_neg h1,if_pos h2]
theorem qgH {b x y:Thg} (h1:¬ x = y) (h2:¬ x = b) (h3:¬ y = b):JQ b x y = if x.kind = 1 then (x,y) else if y.kind = 1 then (y,x) else if x.kind = 2 ∧ y.kind = 2 then (y,x) else if x.kind = 2 then (x,noT) else (y,noT):=by
 unfold JQ;rw [if_neg h1,if_neg h2,if_neg h3]
theorem Z0 {x:Thg} (h:kP x) (k:x.kind = 1):x.text = []:=by
 rcases h with ⟨a,b⟩|⟨a,b⟩|a
 ·exact b
 ·exact b
 ·rw [k] at a;exact absurd a (by decide)
theorem xl (G:List (qQ × qQ)) (p x:qQ):(G.map fun g=>jo g.1).take G.length ++ [[.v (str p)]] = (G ++ [(p,x)]).map fun g=>jo g.1:=by
 rw [List.take_of_length_le (by simp),List.map_append];rfl
theorem xn (G:List (qQ × qQ)) (p x:qQ):(G.map fun g=>jo g.2).take G.length ++ [[.v (str x)]] = (G ++ [(p,x)]).map fun g=>jo g.2:=by
 rw [List.take_of_length_le (by simp),List.map_append];rfl
set_option maxHeartbeats 64000000 in
theorem qfs (B M T:List Ent) (hB:Right B) (hM:Right M) (hT:Right T) (P:List qQ) (hP:zb B M T = P) (lP:P.length ≤ 180) :
  Awp CF 281 (tl 8 Vk) (WI CF #[ResultVar.tmp 6,ResultVar.tmp 7,ResultVar.tmp 8] 0 (Q5 (qao M T (vI B M T))) []) ⟨[(0,qb B),(4,.fp [[qb M]] 0 0),(5,.fp [[qb T]] 0 0),(13,.op 0 0 0),(14,.op 3 0 0),(15,.op 2 0 0),(16,.clo (.func 32) [] [.fp [[qb M]] 0 0,.fp [[qb T]] 0 0,.op 0 0 0,.op 2 0 0,.op 3 0 0]),(9,.sl false (P.map qN))],[(0,.own false 1 [[.os 1 0 ([]:List Ent).length]]),(1,.own false 4 (([]:List Ent).map Ent.row)),(2,.own false 1 [[.clo (.func 30) [] [.op 0 0 0]]]),(3,.own false 1 [[.os 4 0 ([]:List Cpy).length]]),(4,.own false 2 (([]:List Cpy).map Cpy.row))],5⟩:=by
 conv=>arg 3;whnf
 have lB:=hB.len
 have lM:=hM.len
 have lT:=hT.len
 repeat' (first|refine qm ?_|fail|((first|refine qd ?_ ?_|refine qc ?_ ?_|refine xsC ?_ ?_);all_goals (intro hc;have hp:=hc;try simp at hp;try (exfalso;omega)))|refine qO ?_ ?_)
 refine Awp.red (vX 17 1 rfl (Nat.zero_le _)) ?_
 refine Awp.red (vX 18 1 rfl (Nat.zero_le _)) ?_
 (refine Awp.red (qC (τ:=⟨[(0,qb B),(4,.fp [[qb M]] 0 0),(5,.fp [[qb T]] 0 0),(13,.op 0 0 0),(14,.op 3 0 0),(15,.op 2 0 0),(16,.clo (.func 32) [] [.fp [[qb M]] 0 0,.fp [[qb T]] 0 0,.op 0 0 0,.op 2 0 0,.op 3 0 0]),(9,.sl false (P.map qN)),(17,.os 5 0 (yx B M T (P.take 0)).length),(18,.os 6 0 (yx B M T (P.take 0)).length),(19,.v (.int .i64 ((0:Nat):Int)))],[(0,.own false 1 [[.os 1 0 (xH B M T (P.take 0)).length]]),(1,.own false 4 ((xH B M T (P.take 0)).map Ent.row)),(2,.own false 1 [[.clo (.func 30) [] [.op 0 0 0]]]),(3,.own false 1 [[.os 4 0 ([]:List Cpy).length]]),(4,.own false 2 (([]:List Cpy).map Cpy.row)),(5,.own false 1 ((yx B M T (P.take 0)).map fun g=>jo g.1)),(6,.own false 1 ((yx B M T (P.take 0)).map fun g=>jo g.2))],7⟩) [(0,0),(1,1),(2,2),(3,3),(4,4),(5,5),(6,6)] rfl ?_ ?_) ?_;rotate_left 2;rotate_left 1;(focus ((repeat (first|exact qg|refine qn ?_|refine xM ?_|refine vu ?_|refine xu ?_|refine xx ?_ ?_|refine qS ?_ ?_));all_goals (first|rfl|trace_state)));(focus ((repeat' (first|exact qj|refine jt ?_|refine xA ?_ ?_|refine kj ?_|refine xz ?_ ?_|exact ql|apply qh|exact qk rfl|exact jh rfl|refine jh ?_|exact yi trivial));all_goals (first|rfl|trace_state))))
 refine qP (fun n σ => ∃ i:Nat,i ≤ P.length ∧ n = P.length - i ∧ True ∧ σ = ⟨[(0,qb B),(4,.fp [[qb M]] 0 0),(5,.fp [[qb T]] 0 0),(13,.op 0 0 0),(14,.op 3 0 0),(15,.op 2 0 0),(16,.clo (.func 32) [] [.fp [[qb M]] 0 0,.fp [[qb T]] 0 0,.op 0 0 0,.op 2 0 0,.op 3 0 0]),(9,.sl false (P.map qN)),(17,.os 5 0 (yx B M T (P.take i)).length),(18,.os 6 0 (yx B M T (P.take i)).length),(19,.v (.int .i64 (i:Int)))],[(0,.own false 1 [[.os 1 0 (xH B M T (P.take i)).length]]),(1,.own false 4 ((xH B M T (P.take i)).map Ent.row)),(2,.own false 1 [[.clo (.func 30) [] [.op 0 0 0]]]),(3,.own false 1 [[.os 4 0 ([]:List Cpy).length]]),(4,.own false 2 (([]:List Cpy).map Cpy.row)),(5,.own false 1 ((yx B M T (P.take i)).map fun g=>jo g.1)),(6,.own false 1 ((yx B M T (P.take i)).map fun g=>jo g.2))],7⟩) P.length ⟨0,by omega,rfl,trivial,rfl⟩ ?_
 rintro n σ ⟨i,hi,rfl, -,rfl⟩
 by_cases hlt:i < P.length
 ·have hrow:=js (f:=qN) hlt
  have hri:q4 jr (xH B M T (P.take i)) = true:=W8 hB hM hT _
  have hol:(xH B M T (P.take i)).length ≤ 180:=by
   have h:(xH B M T (P.take i)).length ≤ ([]:List Ent).length + (P.take i).length:=YX B M T (P.take i) []
   rw [List.length_take] at h
   simp only [List.length_nil] at h
   omega
  have hgl:(yx B M T (P.take i)).length ≤ 180:=by
   have:=YG B M T (P.take i)
   simp at this
   omega
  have hos:=Z8 (b:=B) (m:=M) (t:=T) hlt
  have hgs:=VR (b:=B) (m:=M) (t:=T) hlt
  have hm1:=Qa M P[i] (by omega)
  have ht1:=Qa T P[i] (by omega)
  have hmt:=Yl M T P[i] (by omega) (by omega)
  have htb:=Yl T B P[i] (by omega) (by omega)
  have hmb:=Yl M B P[i] (by omega) (by omega)
  have gx:=kv M P[i]
  have gy:=kv T P[i]
  have hone:xZ B M T P[i] = JQ (stT B P[i]) (stT M P[i]) (stT T P[i]):=rfl
  generalize hO' : xH B M T (P.take (i + 1)) = O' at *
  generalize hG' : yx B M T (P.take (i + 1)) = G' at *
  generalize xH B M T (P.take i) = O at *
  generalize yx B M T (P.take i) = G at *
  generalize xZ B M T P[i] = W at *
  generalize stT B P[i] = b at *
  generalize stT M P[i] = x at *
  generalize stT T P[i] = y at *
  generalize P[i] = p at *
  have putOk : ∀ v:Thg,0 < v.kind → W.1 = v → qW C2.P 30 [.v (str p),.v (.int .i64 v.kind),.v (str v.text),.op 0 0 0] [.own false 1 [[.os 1 0 O.length]],.own false 4 (O.map Ent.row)] (.tup []) [.own false 1 [[.os 2 0 O'.length]],.dead,.own false 4 (O'.map Ent.row)]:=fun v k hv=>by
   have h:=Vx O _ p v.kind v.text k hri (by omega) rfl
   have e:jN O ⟨p,decide (v.kind = 1),v.text,1⟩ = O':=by
    rw [hos,hv];unfold wJ;rw [if_neg (by omega)];rfl
   rw [e] at h
   exact h
  have putNo : ∀ v:Thg, ¬ 0 < v.kind → kP v → W.1 = v → O' = O ∧ qW C2.P 30 [.v (str p),.v (.int .i64 v.kind),.v (str v.text),.op 0 0 0] [.own false 1 [[.os 1 0 O.length]],.own false 4 (O.map Ent.row)] (.tup []) [.own false 1 [[.os 1 0 O.length]],.own false 4 (O.map Ent.row)]:=fun v k g hv=>by
   refine ⟨?_,qcd O p v.kind v.text k⟩
   rw [hos,hv];unfold wJ
   rw [if_pos (by rcases g with ⟨a,_⟩|⟨a,_⟩|a<;>omega)]
  by_cases cA:x = y ∨ y = b
  ·have hW:W = (x,noT):=hone.trans (qgF cA)
   obtain rfl:G = G':=by rw [hgs,hW];simp [noT]
   obtain ⟨xk,xt⟩:=x
   by_cases k0:0 < xk
   ·have hput:=putOk ⟨xk,xt⟩ k0 (by rw [hW])
    dsimp only at hput hm1
    by_cases cA1:(⟨xk,xt⟩ : Thg) = y
    ·rw [decide_eq_true cA1] at hmt
     repeat' (first|refine qm ?_|(first|refine xsQ Tryz.func35 (hm1 ..) ?_|refine xsQ Tryz.func35 (ht1 ..) ?_|refine jc Tryz.func36 (hmt ..) ?_|refine jc Tryz.func36 (htb ..) ?_|refine jc Tryz.func36 (hmb ..) ?_)|((first|refine qd ?_ ?_|refine qc ?_ ?_|refine xsC ?_ ?_);all_goals (intro hc;have hp:=hc;try simp at hp;try (exfalso;omega)))|refine qO ?_ ?_)
     all_goals try (exfalso;first|omega|contradiction)
     refine yZ (C:=CF) (first:=[]) (cap:=[.op 0 0 0]) [0,1] [7] [(0,.own false 1 [[.os 7 0 O'.length]]),(1,.dead),(7,.own false 4 (O'.map Ent.row))] 8 (.tup []) Tryz.func30 (hput) (by ((repeat' (first|exact jf|apply q6|exact je rfl|exact jG|(apply qp;apply qI;exact .inr (of_decide_eq_true rfl))|(apply qp;apply qw;exact .inr (of_decide_eq_true rfl))|(apply qp;apply qF;exact .inr (of_decide_eq_true rfl))|apply jw|apply jx)))<;>fail) (by ((repeat' (first|exact qL|exact qK|refine qA _ ?_ ?_|refine qz ?_ ?_|exact qt|exact qe (qi _)|exact qe (qU _)|exact qe (qr _)|exact qx (fun _=>rfl)|refine qB ?_|exact ql|apply qh|exact qk rfl|(apply qw;exact .inr (of_decide_eq_true rfl))|(apply qF;exact .inr (of_decide_eq_true rfl))|(apply qI;exact .inr (of_decide_eq_true rfl))|exact qZ (qE fun _=>rfl))))<;>fail) (by ((repeat' (first|exact qL|exact qK|refine qA _ ?_ ?_|refine qz ?_ ?_|exact qt|exact qe (qi _)|exact qe (qU _)|exact qe (qr _)|exact qx (fun _=>rfl)|refine qB ?_|exact ql|apply qh|exact qk rfl|(apply qw;exact .inr (of_decide_eq_true rfl))|(apply qF;exact .inr (of_decide_eq_true rfl))|(apply qI;exact .inr (of_decide_eq_true rfl))|exact qZ (qE fun _=>rfl))))<;>fail) ?_
     repeat' (first|refine qm ?_|(first|(refine jM ?_)|(refine yg ?_))|((first|refine qd ?_ ?_|refine qc ?_ ?_|refine xsC ?_ ?_);all_goals (intro hc;have hp:=hc;try simp at hp;try (exfalso;omega)))|refine qO ?_ ?_)
     all_goals try (exfalso;first|omega|contradiction)
     all_goals (refine ⟨P.length - (i + 1),⟨[(0,qb B),(4,.fp [[qb M]] 0 0),(5,.fp [[qb T]] 0 0),(13,.op 0 0 0),(14,.op 3 0 0),(15,.op 2 0 0),(16,.clo (.func 32) [] [.fp [[qb M]] 0 0,.fp [[qb T]] 0 0,.op 0 0 0,.op 2 0 0,.op 3 0 0]),(9,.sl false (P.map qN)),(17,.os 5 0 G.length),(18,.os 6 0 G.length),(19,.v (.int .i64 ((i + 1:Nat):Int)))],[(0,.own false 1 [[.os 1 0 O'.length]]),(1,.own false 4 (O'.map Ent.row)),(2,.own false 1 [[.clo (.func 30) [] [.op 0 0 0]]]),(3,.own false 1 [[.os 4 0 ([]:List Cpy).length]]),(4,.own false 2 (([]:List Cpy).map Cpy.row)),(5,.own false 1 (G.map fun g=>jo g.1)),(6,.own false 1 (G.map fun g=>jo g.2))],7⟩,by omega,?_,i + 1,by omega,rfl,trivial,(by rw [hO',hG'])⟩;refine qC [(0,0),(7,1),(2,2),(3,3),(4,4),(5,5),(6,6)] rfl ?_ ?_;(focus ((repeat (first|exact qg|refine qn ?_|refine xM ?_|refine vu ?_|refine xu ?_|refine xx ?_ ?_|refine qS ?_ ?_));all_goals (first|(simp;done)|trace_state)));(focus ((repeat' (first|exact qj|refine jt ?_|refine xA ?_ ?_|refine kj ?_|refine xz ?_ ?_|exact ql|apply qh|exact qk rfl|exact jh rfl|refine jh ?_|exact yi trivial));all_goals (first|exact xl _ _ _|exact xn _ _ _|trace_state))))
    ·rw [decide_eq_false cA1] at hmt
     rw [decide_eq_true (cA.resolve_left cA1)] at htb
     repeat' (first|refine qm ?_|(first|refine xsQ Tryz.func35 (hm1 ..) ?_|refine xsQ Tryz.func35 (ht1 ..) ?_|refine jc Tryz.func36 (hmt ..) ?_|refine jc Tryz.func36 (htb ..) ?_|refine jc Tryz.func36 (hmb ..) ?_)|((first|refine qd ?_ ?_|refine qc ?_ ?_|refine xsC ?_ ?_);all_goals (intro hc;have hp:=hc;try simp at hp;try (exfalso;omega)))|refine qO ?_ ?_)
     all_goals try (exfalso;first|omega|contradiction)
     refine yZ (C:=CF) (first:=[]) (cap:=[.op 0 0 0]) [0,1] [7] [(0,.own false 1 [[.os 7 0 O'.length]]),(1,.dead),(7,.own false 4 (O'.map Ent.row))] 8 (.tup []) Tryz.func30 (hput) (by ((repeat' (first|exact jf|apply q6|exact je rfl|exact jG|(apply qp;apply qI;exact .inr (of_decide_eq_true rfl))|(apply qp;apply qw;exact .inr (of_decide_eq_true rfl))|(apply qp;apply qF;exact .inr (of_decide_eq_true rfl))|apply jw|apply jx)))<;>fail) (by ((repeat' (first|exact qL|exact qK|refine qA _ ?_ ?_|refine qz ?_ ?_|exact qt|exact qe (qi _)|exact qe (qU _)|exact qe (qr _)|exact qx (fun _=>rfl)|refine qB ?_|exact ql|apply qh|exact qk rfl|(apply qw;exact .inr (of_decide_eq_true rfl))|(apply qF;exact .inr (of_decide_eq_true rfl))|(apply qI;exact .inr (of_decide_eq_true rfl))|exact qZ (qE fun _=>rfl))))<;>fail) (by ((repeat' (first|exact qL|exact qK|refine qA _ ?_ ?_|refine qz ?_ ?_|exact qt|exact qe (qi _)|exact qe (qU _)|exact qe (qr _)|exact qx (fun _=>rfl)|refine qB ?_|exact ql|apply qh|exact qk rfl|(apply qw;exact .inr (of_decide_eq_true rfl))|(apply qF;exact .inr (of_decide_eq_true rfl))|(apply qI;exact .inr (of_decide_eq_true rfl))|exact qZ (qE fun _=>rfl))))<;>fail) ?_
     repeat' (first|refine qm ?_|(first|(refine jM ?_)|(refine yg ?_))|((first|refine qd ?_ ?_|refine qc ?_ ?_|refine xsC ?_ ?_);all_goals (intro hc;have hp:=hc;try simp at hp;try (exfalso;omega)))|refine qO ?_ ?_)
     all_goals try (exfalso;first|omega|contradiction)
     all_goals (refine ⟨P.length - (i + 1),⟨[(0,qb B),(4,.fp [[qb M]] 0 0),(5,.fp [[qb T]] 0 0),(13,.op 0 0 0),(14,.op 3 0 0),(15,.op 2 0 0),(16,.clo (.func 32) [] [.fp [[qb M]] 0 0,.fp [[qb T]] 0 0,.op 0 0 0,.op 2 0 0,.op 3 0 0]),(9,.sl false (P.map qN)),(17,.os 5 0 G.length),(18,.os 6 0 G.length),(19,.v (.int .i64 ((i + 1:Nat):Int)))],[(0,.own false 1 [[.os 1 0 O'.length]]),(1,.own false 4 (O'.map Ent.row)),(2,.own false 1 [[.clo (.func 30) [] [.op 0 0 0]]]),(3,.own false 1 [[.os 4 0 ([]:List Cpy).length]]),(4,.own false 2 (([]:List Cpy).map Cpy.row)),(5,.own false 1 (G.map fun g=>jo g.1)),(6,.own false 1 (G.map fun g=>jo g.2))],7⟩,by omega,?_,i + 1,by omega,rfl,trivial,(by rw [hO',hG'])⟩;refine qC [(0,0),(7,1),(2,2),(3,3),(4,4),(5,5),(6,6)] rfl ?_ ?_;(focus ((repeat (first|exact qg|refine qn ?_|refine xM ?_|refine vu ?_|refine xu ?_|refine xx ?_ ?_|refine qS ?_ ?_));all_goals (first|(simp;done)|trace_state)));(focus ((repeat' (first|exact qj|refine jt ?_|refine xA ?_ ?_|refine kj ?_|refine xz ?_ ?_|exact ql|apply qh|exact qk rfl|exact jh rfl|refine jh ?_|exact yi trivial));all_goals (first|exact xl _ _ _|exact xn _ _ _|trace_state))))
   ·obtain ⟨e0,hput⟩:=putNo ⟨xk,xt⟩ k0 gx (by rw [hW])
    subst e0
    dsimp only at hput hm1
    by_cases cA1:(⟨xk,xt⟩ : Thg) = y
    ·rw [decide_eq_true cA1] at hmt
     repeat' (first|refine qm ?_|(first|refine xsQ Tryz.func35 (hm1 ..) ?_|refine xsQ Tryz.func35 (ht1 ..) ?_|refine jc Tryz.func36 (hmt ..) ?_|refine jc Tryz.func36 (htb ..) ?_|refine jc Tryz.func36 (hmb ..) ?_)|((first|refine qd ?_ ?_|refine qc ?_ ?_|refine xsC ?_ ?_);all_goals (intro hc;have hp:=hc;try simp at hp;try (exfalso;omega)))|refine qO ?_ ?_)
     all_goals try (exfalso;first|omega|contradiction)
     refine yZ (C:=CF) (first:=[]) (cap:=[.op 0 0 0]) [0,1] [] [(0,.own false 1 [[.os 1 0 O'.length]]),(1,.own false 4 (O'.map Ent.row))] 7 (.tup []) Tryz.func30 (hput) (by ((repeat' (first|exact jf|apply q6|exact je rfl|exact jG|(apply qp;apply qI;exact .inr (of_decide_eq_true rfl))|(apply qp;apply qw;exact .inr (of_decide_eq_true rfl))|(apply qp;apply qF;exact .inr (of_decide_eq_true rfl))|apply jw|apply jx)))<;>fail) (by ((repeat' (first|exact qL|exact qK|refine qA _ ?_ ?_|refine qz ?_ ?_|exact qt|exact qe (qi _)|exact qe (qU _)|exact qe (qr _)|exact qx (fun _=>rfl)|refine qB ?_|exact ql|apply qh|exact qk rfl|(apply qw;exact .inr (of_decide_eq_true rfl))|(apply qF;exact .inr (of_decide_eq_true rfl))|(apply qI;exact .inr (of_decide_eq_true rfl))|exact qZ (qE fun _=>rfl))))<;>fail) (by ((repeat' (first|exact qL|exact qK|refine qA _ ?_ ?_|refine qz ?_ ?_|exact qt|exact qe (qi _)|exact qe (qU _)|exact qe (qr _)|exact qx (fun _=>rfl)|refine qB ?_|exact ql|apply qh|exact qk rfl|(apply qw;exact .inr (of_decide_eq_true rfl))|(apply qF;exact .inr (of_decide_eq_true rfl))|(apply qI;exact .inr (of_decide_eq_true rfl))|exact qZ (qE fun _=>rfl))))<;>fail) ?_
     repeat' (first|refine qm ?_|(first|(refine jM ?_)|(refine yg ?_))|((first|refine qd ?_ ?_|refine qc ?_ ?_|refine xsC ?_ ?_);all_goals (intro hc;have hp:=hc;try simp at hp;try (exfalso;omega)))|refine qO ?_ ?_)
     all_goals try (exfalso;first|omega|contradiction)
     all_goals (refine ⟨P.length - (i + 1),⟨[(0,qb B),(4,.fp [[qb M]] 0 0),(5,.fp [[qb T]] 0 0),(13,.op 0 0 0),(14,.op 3 0 0),(15,.op 2 0 0),(16,.clo (.func 32) [] [.fp [[qb M]] 0 0,.fp [[qb T]] 0 0,.op 0 0 0,.op 2 0 0,.op 3 0 0]),(9,.sl false (P.map qN)),(17,.os 5 0 G.length),(18,.os 6 0 G.length),(19,.v (.int .i64 ((i + 1:Nat):Int)))],[(0,.own false 1 [[.os 1 0 O'.length]]),(1,.own false 4 (O'.map Ent.row)),(2,.own false 1 [[.clo (.func 30) [] [.op 0 0 0]]]),(3,.own false 1 [[.os 4 0 ([]:List Cpy).length]]),(4,.own false 2 (([]:List Cpy).map Cpy.row)),(5,.own false 1 (G.map fun g=>jo g.1)),(6,.own false 1 (G.map fun g=>jo g.2))],7⟩,by omega,?_,i + 1,by omega,rfl,trivial,(by rw [hO',hG'])⟩;refine qC [(0,0),(1,1),(2,2),(3,3),(4,4),(5,5),(6,6)] rfl ?_ ?_;(focus ((repeat (first|exact qg|refine qn ?_|refine xM ?_|refine vu ?_|refine xu ?_|refine xx ?_ ?_|refine qS ?_ ?_));all_goals (first|(simp;done)|trace_state)));(focus ((repeat' (first|exact qj|refine jt ?_|refine xA ?_ ?_|refine kj ?_|refine xz ?_ ?_|exact ql|apply qh|exact qk rfl|exact jh rfl|refine jh ?_|exact yi trivial));all_goals (first|exact xl _ _ _|exact xn _ _ _|trace_state))))
    ·rw [decide_eq_false cA1] at hmt
     rw [decide_eq_true (cA.resolve_left cA1)] at htb
     repeat' (first|refine qm ?_|(first|refine xsQ Tryz.func35 (hm1 ..) ?_|refine xsQ Tryz.func35 (ht1 ..) ?_|refine jc Tryz.func36 (hmt ..) ?_|refine jc Tryz.func36 (htb ..) ?_|refine jc Tryz.func36 (hmb ..) ?_)|((first|refine qd ?_ ?_|refine qc ?_ ?_|refine xsC ?_ ?_);all_goals (intro hc;have hp:=hc;try simp at hp;try (exfalso;omega)))|refine qO ?_ ?_)
     all_goals try (exfalso;first|omega|contradiction)
     refine yZ (C:=CF) (first:=[]) (cap:=[.op 0 0 0]) [0,1] [] [(0,.own false 1 [[.os 1 0 O'.length]]),(1,.own false 4 (O'.map Ent.row))] 7 (.tup []) Tryz.func30 (hput) (by ((repeat' (first|exact jf|apply q6|exact je rfl|exact jG|(apply qp;apply qI;exact .inr (of_decide_eq_true rfl))|(apply qp;apply qw;exact .inr (of_decide_eq_true rfl))|(apply qp;apply qF;exact .inr (of_decide_eq_true rfl))|apply jw|apply jx)))<;>fail) (by ((repeat' (first|exact qL|exact qK|refine qA _ ?_ ?_|refine qz ?_ ?_|exact qt|exact qe (qi _)|exact qe (qU _)|exact qe (qr _)|exact qx (fun _=>rfl)|refine qB ?_|exact ql|apply qh|exact qk rfl|(apply qw;exact .inr (of_decide_eq_true rfl))|(apply qF;exact .inr (of_decide_eq_true rfl))|(apply qI;exact .inr (of_decide_eq_true rfl))|exact qZ (qE fun _=>rfl))))<;>fail) (by ((repeat' (first|exact qL|exact qK|refine qA _ ?_ ?_|refine qz ?_ ?_|exact qt|exact qe (qi _)|exact qe (qU _)|exact qe (qr _)|exact qx (fun _=>rfl)|refine qB ?_|exact ql|apply qh|exact qk rfl|(apply qw;exact .inr (of_decide_eq_true rfl))|(apply qF;exact .inr (of_decide_eq_true rfl))|(apply qI;exact .inr (of_decide_eq_true rfl))|exact qZ (qE fun _=>rfl))))<;>fail) ?_
     repeat' (first|refine qm ?_|(first|(refine jM ?_)|(refine yg ?_))|((first|refine qd ?_ ?_|refine qc ?_ ?_|refine xsC ?_ ?_);all_goals (intro hc;have hp:=hc;try simp at hp;try (exfalso;omega)))|refine qO ?_ ?_)
     all_goals try (exfalso;first|omega|contradiction)
     all_goals (refine ⟨P.length - (i + 1),⟨[(0,qb B),(4,.fp [[qb M]] 0 0),(5,.fp [[qb T]] 0 0),(13,.op 0 0 0),(14,.op 3 0 0),(15,.op 2 0 0),(16,.clo (.func 32) [] [.fp [[qb M]] 0 0,.fp [[qb T]] 0 0,.op 0 0 0,.op 2 0 0,.op 3 0 0]),(9,.sl false (P.map qN)),(17,.os 5 0 G.length),(18,.os 6 0 G.length),(19,.v (.int .i64 ((i + 1:Nat):Int)))],[(0,.own false 1 [[.os 1 0 O'.length]]),(1,.own false 4 (O'.map Ent.row)),(2,.own false 1 [[.clo (.func 30) [] [.op 0 0 0]]]),(3,.own false 1 [[.os 4 0 ([]:List Cpy).length]]),(4,.own false 2 (([]:List Cpy).map Cpy.row)),(5,.own false 1 (G.map fun g=>jo g.1)),(6,.own false 1 (G.map fun g=>jo g.2))],7⟩,by omega,?_,i + 1,by omega,rfl,trivial,(by rw [hO',hG'])⟩;refine qC [(0,0),(1,1),(2,2),(3,3),(4,4),(5,5),(6,6)] rfl ?_ ?_;(focus ((repeat (first|exact qg|refine qn ?_|refine xM ?_|refine vu ?_|refine xu ?_|refine xx ?_ ?_|refine qS ?_ ?_));all_goals (first|(simp;done)|trace_state)));(focus ((repeat' (first|exact qj|refine jt ?_|refine xA ?_ ?_|refine kj ?_|refine xz ?_ ?_|exact ql|apply qh|exact qk rfl|exact jh rfl|refine jh ?_|exact yi trivial));all_goals (first|exact xl _ _ _|exact xn _ _ _|trace_state))))
  have cA1:¬ x = y:=fun e=>cA (.inl e)
  have cA2:¬ y = b:=fun e=>cA (.inr e)
  rw [decide_eq_false cA1] at hmt
  rw [decide_eq_false cA2] at htb
  by_cases cB:x = b
  ·have hW:W = (y,noT):=hone.trans (qgG cA1 cB)
   obtain rfl:G = G':=by rw [hgs,hW];simp [noT]
   rw [decide_eq_true cB] at hmb
   obtain ⟨yk,yt⟩:=y
   by_cases k0:0 < yk
   ·have hput:=putOk ⟨yk,yt⟩ k0 (by rw [hW])
    dsimp only at hput ht1
    repeat' (first|refine qm ?_|(first|refine xsQ Tryz.func35 (hm1 ..) ?_|refine xsQ Tryz.func35 (ht1 ..) ?_|refine jc Tryz.func36 (hmt ..) ?_|refine jc Tryz.func36 (htb ..) ?_|refine jc Tryz.func36 (hmb ..) ?_)|((first|refine qd ?_ ?_|refine qc ?_ ?_|refine xsC ?_ ?_);all_goals (intro hc;have hp:=hc;try simp at hp;try (exfalso;omega)))|refine qO ?_ ?_)
    all_goals try (exfalso;first|omega|contradiction)
    refine yZ (C:=CF) (first:=[]) (cap:=[.op 0 0 0]) [0,1] [7] [(0,.own false 1 [[.os 7 0 O'.length]]),(1,.dead),(7,.own false 4 (O'.map Ent.row))] 8 (.tup []) Tryz.func30 (hput) (by ((repeat' (first|exact jf|apply q6|exact je rfl|exact jG|(apply qp;apply qI;exact .inr (of_decide_eq_true rfl))|(apply qp;apply qw;exact .inr (of_decide_eq_true rfl))|(apply qp;apply qF;exact .inr (of_decide_eq_true rfl))|apply jw|apply jx)))<;>fail) (by ((repeat' (first|exact qL|exact qK|refine qA _ ?_ ?_|refine qz ?_ ?_|exact qt|exact qe (qi _)|exact qe (qU _)|exact qe (qr _)|exact qx (fun _=>rfl)|refine qB ?_|exact ql|apply qh|exact qk rfl|(apply qw;exact .inr (of_decide_eq_true rfl))|(apply qF;exact .inr (of_decide_eq_true rfl))|(apply qI;exact .inr (of_decide_eq_true rfl))|exact qZ (qE fun _=>rfl))))<;>fail) (by ((repeat' (first|exact qL|exact qK|refine qA _ ?_ ?_|refine qz ?_ ?_|exact qt|exact qe (qi _)|exact qe (qU _)|exact qe (qr _)|exact qx (fun _=>rfl)|refine qB ?_|exact ql|apply qh|exact qk rfl|(apply qw;exact .inr (of_decide_eq_true rfl))|(apply qF;exact .inr (of_decide_eq_true rfl))|(apply qI;exact .inr (of_decide_eq_true rfl))|exact qZ (qE fun _=>rfl))))<;>fail) ?_
    repeat' (first|refine qm ?_|(first|(refine jM ?_)|(refine yg ?_))|((first|refine qd ?_ ?_|refine qc ?_ ?_|refine xsC ?_ ?_);all_goals (intro hc;have hp:=hc;try simp at hp;try (exfalso;omega)))|refine qO ?_ ?_)
    all_goals try (exfalso;first|omega|contradiction)
    all_goals (refine ⟨P.length - (i + 1),⟨[(0,qb B),(4,.fp [[qb M]] 0 0),(5,.fp [[qb T]] 0 0),(13,.op 0 0 0),(14,.op 3 0 0),(15,.op 2 0 0),(16,.clo (.func 32) [] [.fp [[qb M]] 0 0,.fp [[qb T]] 0 0,.op 0 0 0,.op 2 0 0,.op 3 0 0]),(9,.sl false (P.map qN)),(17,.os 5 0 G.length),(18,.os 6 0 G.length),(19,.v (.int .i64 ((i + 1:Nat):Int)))],[(0,.own false 1 [[.os 1 0 O'.length]]),(1,.own false 4 (O'.map Ent.row)),(2,.own false 1 [[.clo (.func 30) [] [.op 0 0 0]]]),(3,.own false 1 [[.os 4 0 ([]:List Cpy).length]]),(4,.own false 2 (([]:List Cpy).map Cpy.row)),(5,.own false 1 (G.map fun g=>jo g.1)),(6,.own false 1 (G.map fun g=>jo g.2))],7⟩,by omega,?_,i + 1,by omega,rfl,trivial,(by rw [hO',hG'])⟩;refine qC [(0,0),(7,1),(2,2),(3,3),(4,4),(5,5),(6,6)] rfl ?_ ?_;(focus ((repeat (first|exact qg|refine qn ?_|refine xM ?_|refine vu ?_|refine xu ?_|refine xx ?_ ?_|refine qS ?_ ?_));all_goals (first|(simp;done)|trace_state)));(focus ((repeat' (first|exact qj|refine jt ?_|refine xA ?_ ?_|refine kj ?_|refine xz ?_ ?_|exact ql|apply qh|exact qk rfl|exact jh rfl|refine jh ?_|exact yi trivial));all_goals (first|exact xl _ _ _|exact xn _ _ _|trace_state))))
   ·obtain ⟨e0,hput⟩:=putNo ⟨yk,yt⟩ k0 gy (by rw [hW])
    subst e0
    dsimp only at hput ht1
    repeat' (first|refine qm ?_|(first|refine xsQ Tryz.func35 (hm1 ..) ?_|refine xsQ Tryz.func35 (ht1 ..) ?_|refine jc Tryz.func36 (hmt ..) ?_|refine jc Tryz.func36 (htb ..) ?_|refine jc Tryz.func36 (hmb ..) ?_)|((first|refine qd ?_ ?_|refine qc ?_ ?_|refine xsC ?_ ?_);all_goals (intro hc;have hp:=hc;try simp at hp;try (exfalso;omega)))|refine qO ?_ ?_)
    all_goals try (exfalso;first|omega|contradiction)
    refine yZ (C:=CF) (first:=[]) (cap:=[.op 0 0 0]) [0,1] [] [(0,.own false 1 [[.os 1 0 O'.length]]),(1,.own false 4 (O'.map Ent.row))] 7 (.tup []) Tryz.func30 (hput) (by ((repeat' (first|exact jf|apply q6|exact je rfl|exact jG|(apply qp;apply qI;exact .inr (of_decide_eq_true rfl))|(apply qp;apply qw;exact .inr (of_decide_eq_true rfl))|(apply qp;apply qF;exact .inr (of_decide_eq_true rfl))|apply jw|apply jx)))<;>fail) (by ((repeat' (first|exact qL|exact qK|refine qA _ ?_ ?_|refine qz ?_ ?_|exact qt|exact qe (qi _)|exact qe (qU _)|exact qe (qr _)|exact qx (fun _=>rfl)|refine qB ?_|exact ql|apply qh|exact qk rfl|(apply qw;exact .inr (of_decide_eq_true rfl))|(apply qF;exact .inr (of_decide_eq_true rfl))|(apply qI;exact .inr (of_decide_eq_true rfl))|exact qZ (qE fun _=>rfl))))<;>fail) (by ((repeat' (first|exact qL|exact qK|refine qA _ ?_ ?_|refine qz ?_ ?_|exact qt|exact qe (qi _)|exact qe (qU _)|exact qe (qr _)|exact qx (fun _=>rfl)|refine qB ?_|exact ql|apply qh|exact qk rfl|(apply qw;exact .inr (of_decide_eq_true rfl))|(apply qF;exact .inr (of_decide_eq_true rfl))|(apply qI;exact .inr (of_decide_eq_true rfl))|exact qZ (qE fun _=>rfl))))<;>fail) ?_
    repeat' (first|refine qm ?_|(first|(refine jM ?_)|(refine yg ?_))|((first|refine qd ?_ ?_|refine qc ?_ ?_|refine xsC ?_ ?_);all_goals (intro hc;have hp:=hc;try simp at hp;try (exfalso;omega)))|refine qO ?_ ?_)
    all_goals try (exfalso;first|omega|contradiction)
    all_goals (refine ⟨P.length - (i + 1),⟨[(0,qb B),(4,.fp [[qb M]] 0 0),(5,.fp [[qb T]] 0 0),(13,.op 0 0 0),(14,.op 3 0 0),(15,.op 2 0 0),(16,.clo (.func 32) [] [.fp [[qb M]] 0 0,.fp [[qb T]] 0 0,.op 0 0 0,.op 2 0 0,.op 3 0 0]),(9,.sl false (P.map qN)),(17,.os 5 0 G.length),(18,.os 6 0 G.length),(19,.v (.int .i64 ((i + 1:Nat):Int)))],[(0,.own false 1 [[.os 1 0 O'.length]]),(1,.own false 4 (O'.map Ent.row)),(2,.own false 1 [[.clo (.func 30) [] [.op 0 0 0]]]),(3,.own false 1 [[.os 4 0 ([]:List Cpy).length]]),(4,.own false 2 (([]:List Cpy).map Cpy.row)),(5,.own false 1 (G.map fun g=>jo g.1)),(6,.own false 1 (G.map fun g=>jo g.2))],7⟩,by omega,?_,i + 1,by omega,rfl,trivial,(by rw [hO',hG'])⟩;refine qC [(0,0),(1,1),(2,2),(3,3),(4,4),(5,5),(6,6)] rfl ?_ ?_;(focus ((repeat (first|exact qg|refine qn ?_|refine xM ?_|refine vu ?_|refine xu ?_|refine xx ?_ ?_|refine qS ?_ ?_));all_goals (first|(simp;done)|trace_state)));(focus ((repeat' (first|exact qj|refine jt ?_|refine xA ?_ ?_|refine kj ?_|refine xz ?_ ?_|exact ql|apply qh|exact qk rfl|exact jh rfl|refine jh ?_|exact yi trivial));all_goals (first|exact xl _ _ _|exact xn _ _ _|trace_state))))
  rw [decide_eq_false cB] at hmb
  rw [qgH cA1 cB cA2] at hone
  have tx := @Z0 x gx
  have ty := @Z0 y gy
  obtain ⟨xk,xt⟩:=x
  obtain ⟨yk,yt⟩:=y
  dsimp only at *
  by_cases k1:xk = 1
  ·rw [if_pos k1] at hone
   obtain rfl:=tx k1
   subst k1
   have hput:=putOk ⟨1,[]⟩ (by decide) (by rw [hone])
   dsimp only at hput
   by_cases k2:yk = 2
   ·subst k2
    obtain rfl:G' = G ++ [(p,yt)]:=by rw [hgs,hone];simp
    repeat' (first|refine qm ?_|(first|refine xsQ Tryz.func35 (hm1 ..) ?_|refine xsQ Tryz.func35 (ht1 ..) ?_|refine jc Tryz.func36 (hmt ..) ?_|refine jc Tryz.func36 (htb ..) ?_|refine jc Tryz.func36 (hmb ..) ?_)|((first|refine qd ?_ ?_|refine qc ?_ ?_|refine xsC ?_ ?_);all_goals (intro hc;have hp:=hc;try simp at hp;try (exfalso;omega)))|refine qO ?_ ?_)
    all_goals try (exfalso;first|omega|contradiction)
    refine yZ (C:=CF) (first:=[]) (cap:=[.op 0 0 0]) [0,1] [7] [(0,.own false 1 [[.os 7 0 O'.length]]),(1,.dead),(7,.own false 4 (O'.map Ent.row))] 8 (.tup []) Tryz.func30 (hput) (by ((repeat' (first|exact jf|apply q6|exact je rfl|exact jG|(apply qp;apply qI;exact .inr (of_decide_eq_true rfl))|(apply qp;apply qw;exact .inr (of_decide_eq_true rfl))|(apply qp;apply qF;exact .inr (of_decide_eq_true rfl))|apply jw|apply jx)))<;>fail) (by ((repeat' (first|exact qL|exact qK|refine qA _ ?_ ?_|refine qz ?_ ?_|exact qt|exact qe (qi _)|exact qe (qU _)|exact qe (qr _)|exact qx (fun _=>rfl)|refine qB ?_|exact ql|apply qh|exact qk rfl|(apply qw;exact .inr (of_decide_eq_true rfl))|(apply qF;exact .inr (of_decide_eq_true rfl))|(apply qI;exact .inr (of_decide_eq_true rfl))|exact qZ (qE fun _=>rfl))))<;>fail) (by ((repeat' (first|exact qL|exact qK|refine qA _ ?_ ?_|refine qz ?_ ?_|exact qt|exact qe (qi _)|exact qe (qU _)|exact qe (qr _)|exact qx (fun _=>rfl)|refine qB ?_|exact ql|apply qh|exact qk rfl|(apply qw;exact .inr (of_decide_eq_true rfl))|(apply qF;exact .inr (of_decide_eq_true rfl))|(apply qI;exact .inr (of_decide_eq_true rfl))|exact qZ (qE fun _=>rfl))))<;>fail) ?_
    repeat' (first|refine qm ?_|(first|(refine jM ?_)|(refine yg ?_))|((first|refine qd ?_ ?_|refine qc ?_ ?_|refine xsC ?_ ?_);all_goals (intro hc;have hp:=hc;try simp at hp;try (exfalso;omega)))|refine qO ?_ ?_)
    all_goals try (exfalso;first|omega|contradiction)
    all_goals (refine ⟨P.length - (i + 1),⟨[(0,qb B),(4,.fp [[qb M]] 0 0),(5,.fp [[qb T]] 0 0),(13,.op 0 0 0),(14,.op 3 0 0),(15,.op 2 0 0),(16,.clo (.func 32) [] [.fp [[qb M]] 0 0,.fp [[qb T]] 0 0,.op 0 0 0,.op 2 0 0,.op 3 0 0]),(9,.sl false (P.map qN)),(17,.os 5 0 (G ++ [(p,yt)]).length),(18,.os 6 0 (G ++ [(p,yt)]).length),(19,.v (.int .i64 ((i + 1:Nat):Int)))],[(0,.own false 1 [[.os 1 0 O'.length]]),(1,.own false 4 (O'.map Ent.row)),(2,.own false 1 [[.clo (.func 30) [] [.op 0 0 0]]]),(3,.own false 1 [[.os 4 0 ([]:List Cpy).length]]),(4,.own false 2 (([]:List Cpy).map Cpy.row)),(5,.own false 1 ((G ++ [(p,yt)]).map fun g=>jo g.1)),(6,.own false 1 ((G ++ [(p,yt)]).map fun g=>jo g.2))],7⟩,by omega,?_,i + 1,by omega,rfl,trivial,(by rw [hO',hG'])⟩;refine qC [(0,0),(7,1),(2,2),(3,3),(4,4),(8,5),(9,6)] rfl ?_ ?_;(focus ((repeat (first|exact qg|refine qn ?_|refine xM ?_|refine vu ?_|refine xu ?_|refine xx ?_ ?_|refine qS ?_ ?_));all_goals (first|(simp;done)|trace_state)));(focus ((repeat' (first|exact qj|refine jt ?_|refine xA ?_ ?_|refine kj ?_|refine xz ?_ ?_|exact ql|apply qh|exact qk rfl|exact jh rfl|refine jh ?_|exact yi trivial));all_goals (first|exact xl _ _ _|exact xn _ _ _|trace_state))))
   ·obtain rfl:G = G':=by rw [hgs,hone];simp [k2]
    repeat' (first|refine qm ?_|(first|refine xsQ Tryz.func35 (hm1 ..) ?_|refine xsQ Tryz.func35 (ht1 ..) ?_|refine jc Tryz.func36 (hmt ..) ?_|refine jc Tryz.func36 (htb ..) ?_|refine jc Tryz.func36 (hmb ..) ?_)|((first|refine qd ?_ ?_|refine qc ?_ ?_|refine xsC ?_ ?_);all_goals (intro hc;have hp:=hc;try simp at hp;try (exfalso;omega)))|refine qO ?_ ?_)
    all_goals try (exfalso;first|omega|contradiction)
    refine yZ (C:=CF) (first:=[]) (cap:=[.op 0 0 0]) [0,1] [7] [(0,.own false 1 [[.os 7 0 O'.length]]),(1,.dead),(7,.own false 4 (O'.map Ent.row))] 8 (.tup []) Tryz.func30 (hput) (by ((repeat' (first|exact jf|apply q6|exact je rfl|exact jG|(apply qp;apply qI;exact .inr (of_decide_eq_true rfl))|(apply qp;apply qw;exact .inr (of_decide_eq_true rfl))|(apply qp;apply qF;exact .inr (of_decide_eq_true rfl))|apply jw|apply jx)))<;>fail) (by ((repeat' (first|exact qL|exact qK|refine qA _ ?_ ?_|refine qz ?_ ?_|exact qt|exact qe (qi _)|exact qe (qU _)|exact qe (qr _)|exact qx (fun _=>rfl)|refine qB ?_|exact ql|apply qh|exact qk rfl|(apply qw;exact .inr (of_decide_eq_true rfl))|(apply qF;exact .inr (of_decide_eq_true rfl))|(apply qI;exact .inr (of_decide_eq_true rfl))|exact qZ (qE fun _=>rfl))))<;>fail) (by ((repeat' (first|exact qL|exact qK|refine qA _ ?_ ?_|refine qz ?_ ?_|exact qt|exact qe (qi _)|exact qe (qU _)|exact qe (qr _)|exact qx (fun _=>rfl)|refine qB ?_|exact ql|apply qh|exact qk rfl|(apply qw;exact .inr (of_decide_eq_true rfl))|(apply qF;exact .inr (of_decide_eq_true rfl))|(apply qI;exact .inr (of_decide_eq_true rfl))|exact qZ (qE fun _=>rfl))))<;>fail) ?_
    repeat' (first|refine qm ?_|(first|(refine jM ?_)|(refine yg ?_))|((first|refine qd ?_ ?_|refine qc ?_ ?_|refine xsC ?_ ?_);all_goals (intro hc;have hp:=hc;try simp at hp;try (exfalso;omega)))|refine qO ?_ ?_)
    all_goals try (exfalso;first|omega|contradiction)
    all_goals (refine ⟨P.length - (i + 1),⟨[(0,qb B),(4,.fp [[qb M]] 0 0),(5,.fp [[qb T]] 0 0),(13,.op 0 0 0),(14,.op 3 0 0),(15,.op 2 0 0),(16,.clo (.func 32) [] [.fp [[qb M]] 0 0,.fp [[qb T]] 0 0,.op 0 0 0,.op 2 0 0,.op 3 0 0]),(9,.sl false (P.map qN)),(17,.os 5 0 G.length),(18,.os 6 0 G.length),(19,.v (.int .i64 ((i + 1:Nat):Int)))],[(0,.own false 1 [[.os 1 0 O'.length]]),(1,.own false 4 (O'.map Ent.row)),(2,.own false 1 [[.clo (.func 30) [] [.op 0 0 0]]]),(3,.own false 1 [[.os 4 0 ([]:List Cpy).length]]),(4,.own false 2 (([]:List Cpy).map Cpy.row)),(5,.own false 1 (G.map fun g=>jo g.1)),(6,.own false 1 (G.map fun g=>jo g.2))],7⟩,by omega,?_,i + 1,by omega,rfl,trivial,(by rw [hO',hG'])⟩;refine qC [(0,0),(7,1),(2,2),(3,3),(4,4),(5,5),(6,6)] rfl ?_ ?_;(focus ((repeat (first|exact qg|refine qn ?_|refine xM ?_|refine vu ?_|refine xu ?_|refine xx ?_ ?_|refine qS ?_ ?_));all_goals (first|(simp;done)|trace_state)));(focus ((repeat' (first|exact qj|refine jt ?_|refine xA ?_ ?_|refine kj ?_|refine xz ?_ ?_|exact ql|apply qh|exact qk rfl|exact jh rfl|refine jh ?_|exact yi trivial));all_goals (first|exact xl _ _ _|exact xn _ _ _|trace_state))))
  rw [if_neg k1] at hone
  by_cases k2:yk = 1
  ·rw [if_pos k2] at hone
   obtain rfl:=ty k2
   subst k2
   have hput:=putOk ⟨1,[]⟩ (by decide) (by rw [hone])
   dsimp only at hput
   by_cases k3:xk = 2
   ·subst k3
    obtain rfl:G' = G ++ [(p,xt)]:=by rw [hgs,hone];simp
    repeat' (first|refine qm ?_|(first|refine xsQ Tryz.func35 (hm1 ..) ?_|refine xsQ Tryz.func35 (ht1 ..) ?_|refine jc Tryz.func36 (hmt ..) ?_|refine jc Tryz.func36 (htb ..) ?_|refine jc Tryz.func36 (hmb ..) ?_)|((first|refine qd ?_ ?_|refine qc ?_ ?_|refine xsC ?_ ?_);all_goals (intro hc;have hp:=hc;try simp at hp;try (exfalso;omega)))|refine qO ?_ ?_)
    all_goals try (exfalso;first|omega|contradiction)
    refine yZ (C:=CF) (first:=[]) (cap:=[.op 0 0 0]) [0,1] [7] [(0,.own false 1 [[.os 7 0 O'.length]]),(1,.dead),(7,.own false 4 (O'.map Ent.row))] 8 (.tup []) Tryz.func30 (hput) (by ((repeat' (first|exact jf|apply q6|exact je rfl|exact jG|(apply qp;apply qI;exact .inr (of_decide_eq_true rfl))|(apply qp;apply qw;exact .inr (of_decide_eq_true rfl))|(apply qp;apply qF;exact .inr (of_decide_eq_true rfl))|apply jw|apply jx)))<;>fail) (by ((repeat' (first|exact qL|exact qK|refine qA _ ?_ ?_|refine qz ?_ ?_|exact qt|exact qe (qi _)|exact qe (qU _)|exact qe (qr _)|exact qx (fun _=>rfl)|refine qB ?_|exact ql|apply qh|exact qk rfl|(apply qw;exact .inr (of_decide_eq_true rfl))|(apply qF;exact .inr (of_decide_eq_true rfl))|(apply qI;exact .inr (of_decide_eq_true rfl))|exact qZ (qE fun _=>rfl))))<;>fail) (by ((repeat' (first|exact qL|exact qK|refine qA _ ?_ ?_|refine qz ?_ ?_|exact qt|exact qe (qi _)|exact qe (qU _)|exact qe (qr _)|exact qx (fun _=>rfl)|refine qB ?_|exact ql|apply qh|exact qk rfl|(apply qw;exact .inr (of_decide_eq_true rfl))|(apply qF;exact .inr (of_decide_eq_true rfl))|(apply qI;exact .inr (of_decide_eq_true rfl))|exact qZ (qE fun _=>rfl))))<;>fail) ?_
    repeat' (first|refine qm ?_|(first|(refine jM ?_)|(refine yg ?_))|((first|refine qd ?_ ?_|refine qc ?_ ?_|refine xsC ?_ ?_);all_goals (intro hc;have hp:=hc;try simp at hp;try (exfalso;omega)))|refine qO ?_ ?_)
    all_goals try (exfalso;first|omega|contradiction)
    all_goals (refine ⟨P.length - (i + 1),⟨[(0,qb B),(4,.fp [[qb M]] 0 0),(5,.fp [[qb T]] 0 0),(13,.op 0 0 0),(14,.op 3 0 0),(15,.op 2 0 0),(16,.clo (.func 32) [] [.fp [[qb M]] 0 0,.fp [[qb T]] 0 0,.op 0 0 0,.op 2 0 0,.op 3 0 0]),(9,.sl false (P.map qN)),(17,.os 5 0 (G ++ [(p,xt)]).length),(18,.os 6 0 (G ++ [(p,xt)]).length),(19,.v (.int .i64 ((i + 1:Nat):Int)))],[(0,.own false 1 [[.os 1 0 O'.length]]),(1,.own false 4 (O'.map Ent.row)),(2,.own false 1 [[.clo (.func 30) [] [.op 0 0 0]]]),(3,.own false 1 [[.os 4 0 ([]:List Cpy).length]]),(4,.own false 2 (([]:List Cpy).map Cpy.row)),(5,.own false 1 ((G ++ [(p,xt)]).map fun g=>jo g.1)),(6,.own false 1 ((G ++ [(p,xt)]).map fun g=>jo g.2))],7⟩,by omega,?_,i + 1,by omega,rfl,trivial,(by rw [hO',hG'])⟩;refine qC [(0,0),(7,1),(2,2),(3,3),(4,4),(8,5),(9,6)] rfl ?_ ?_;(focus ((repeat (first|exact qg|refine qn ?_|refine xM ?_|refine vu ?_|refine xu ?_|refine xx ?_ ?_|refine qS ?_ ?_));all_goals (first|(simp;done)|trace_state)));(focus ((repeat' (first|exact qj|refine jt ?_|refine xA ?_ ?_|refine kj ?_|refine xz ?_ ?_|exact ql|apply qh|exact qk rfl|exact jh rfl|refine jh ?_|exact yi trivial));all_goals (first|exact xl _ _ _|exact xn _ _ _|trace_state))))
   ·obtain rfl:G = G':=by rw [hgs,hone];simp [k3]
    repeat' (first|refine qm ?_|(first|refine xsQ Tryz.func35 (hm1 ..) ?_|refine xsQ Tryz.func35 (ht1 ..) ?_|refine jc Tryz.func36 (hmt ..) ?_|refine jc Tryz.func36 (htb ..) ?_|refine jc Tryz.func36 (hmb ..) ?_)|((first|refine qd ?_ ?_|refine qc ?_ ?_|refine xsC ?_ ?_);all_goals (intro hc;have hp:=hc;try simp at hp;try (exfalso;omega)))|refine qO ?_ ?_)
    all_goals try (exfalso;first|omega|contradiction)
    refine yZ (C:=CF) (first:=[]) (cap:=[.op 0 0 0]) [0,1] [7] [(0,.own false 1 [[.os 7 0 O'.length]]),(1,.dead),(7,.own false 4 (O'.map Ent.row))] 8 (.tup []) Tryz.func30 (hput) (by ((repeat' (first|exact jf|apply q6|exact je rfl|exact jG|(apply qp;apply qI;exact .inr (of_decide_eq_true rfl))|(apply qp;apply qw;exact .inr (of_decide_eq_true rfl))|(apply qp;apply qF;exact .inr (of_decide_eq_true rfl))|apply jw|apply jx)))<;>fail) (by ((repeat' (first|exact qL|exact qK|refine qA _ ?_ ?_|refine qz ?_ ?_|exact qt|exact qe (qi _)|exact qe (qU _)|exact qe (qr _)|exact qx (fun _=>rfl)|refine qB ?_|exact ql|apply qh|exact qk rfl|(apply qw;exact .inr (of_decide_eq_true rfl))|(apply qF;exact .inr (of_decide_eq_true rfl))|(apply qI;exact .inr (of_decide_eq_true rfl))|exact qZ (qE fun _=>rfl))))<;>fail) (by ((repeat' (first|exact qL|exact qK|refine qA _ ?_ ?_|refine qz ?_ ?_|exact qt|exact qe (qi _)|exact qe (qU _)|exact qe (qr _)|exact qx (fun _=>rfl)|refine qB ?_|exact ql|apply qh|exact qk rfl|(apply qw;exact .inr (of_decide_eq_true rfl))|(apply qF;exact .inr (of_decide_eq_true rfl))|(apply qI;exact .inr (of_decide_eq_true rfl))|exact qZ (qE fun _=>rfl))))<;>fail) ?_
    repeat' (first|refine qm ?_|(first|(refine jM ?_)|(refine yg ?_))|((first|refine qd ?_ ?_|refine qc ?_ ?_|refine xsC ?_ ?_);all_goals (intro hc;have hp:=hc;try simp at hp;try (exfalso;omega)))|refine qO ?_ ?_)
    all_goals try (exfalso;first|omega|contradiction)
    all_goals (refine ⟨P.length - (i + 1),⟨[(0,qb B),(4,.fp [[qb M]] 0 0),(5,.fp [[qb T]] 0 0),(13,.op 0 0 0),(14,.op 3 0 0),(15,.op 2 0 0),(16,.clo (.func 32) [] [.fp [[qb M]] 0 0,.fp [[qb T]] 0 0,.op 0 0 0,.op 2 0 0,.op 3 0 0]),(9,.sl false (P.map qN)),(17,.os 5 0 G.length),(18,.os 6 0 G.length),(19,.v (.int .i64 ((i + 1:Nat):Int)))],[(0,.own false 1 [[.os 1 0 O'.length]]),(1,.own false 4 (O'.map Ent.row)),(2,.own false 1 [[.clo (.func 30) [] [.op 0 0 0]]]),(3,.own false 1 [[.os 4 0 ([]:List Cpy).length]]),(4,.own false 2 (([]:List Cpy).map Cpy.row)),(5,.own false 1 (G.map fun g=>jo g.1)),(6,.own false 1 (G.map fun g=>jo g.2))],7⟩,by omega,?_,i + 1,by omega,rfl,trivial,(by rw [hO',hG'])⟩;refine qC [(0,0),(7,1),(2,2),(3,3),(4,4),(5,5),(6,6)] rfl ?_ ?_;(focus ((repeat (first|exact qg|refine qn ?_|refine xM ?_|refine vu ?_|refine xu ?_|refine xx ?_ ?_|refine qS ?_ ?_));all_goals (first|(simp;done)|trace_state)));(focus ((repeat' (first|exact qj|refine jt ?_|refine xA ?_ ?_|refine kj ?_|refine xz ?_ ?_|exact ql|apply qh|exact qk rfl|exact jh rfl|refine jh ?_|exact yi trivial));all_goals (first|exact xl _ _ _|exact xn _ _ _|trace_state))))
  rw [if_neg k2] at hone
  by_cases k3:xk = 2
  ·subst k3
   by_cases k4:yk = 2
   ·subst k4
    rw [if_pos ⟨rfl,rfl⟩] at hone
    have hput:=putOk ⟨2,yt⟩ (show (0:Int) < 2 by decide) (by rw [hone])
    dsimp only at hput
    obtain rfl:G' = G ++ [(p,xt)]:=by rw [hgs,hone];simp
    repeat' (first|refine qm ?_|(first|refine xsQ Tryz.func35 (hm1 ..) ?_|refine xsQ Tryz.func35 (ht1 ..) ?_|refine jc Tryz.func36 (hmt ..) ?_|refine jc Tryz.func36 (htb ..) ?_|refine jc Tryz.func36 (hmb ..) ?_)|((first|refine qd ?_ ?_|refine qc ?_ ?_|refine xsC ?_ ?_);all_goals (intro hc;have hp:=hc;try simp at hp;try (exfalso;omega)))|refine qO ?_ ?_)
    all_goals try (exfalso;first|omega|contradiction)
    refine yZ (C:=CF) (first:=[]) (cap:=[.op 0 0 0]) [0,1] [7] [(0,.own false 1 [[.os 7 0 O'.length]]),(1,.dead),(7,.own false 4 (O'.map Ent.row))] 8 (.tup []) Tryz.func30 (hput) (by ((repeat' (first|exact jf|apply q6|exact je rfl|exact jG|(apply qp;apply qI;exact .inr (of_decide_eq_true rfl))|(apply qp;apply qw;exact .inr (of_decide_eq_true rfl))|(apply qp;apply qF;exact .inr (of_decide_eq_true rfl))|apply jw|apply jx)))<;>fail) (by ((repeat' (first|exact qL|exact qK|refine qA _ ?_ ?_|refine qz ?_ ?_|exact qt|exact qe (qi _)|exact qe (qU _)|exact qe (qr _)|exact qx (fun _=>rfl)|refine qB ?_|exact ql|apply qh|exact qk rfl|(apply qw;exact .inr (of_decide_eq_true rfl))|(apply qF;exact .inr (of_decide_eq_true rfl))|(apply qI;exact .inr (of_decide_eq_true rfl))|exact qZ (qE fun _=>rfl))))<;>fail) (by ((repeat' (first|exact qL|exact qK|refine qA _ ?_ ?_|refine qz ?_ ?_|exact qt|exact qe (qi _)|exact qe (qU _)|exact qe (qr _)|exact qx (fun _=>rfl)|refine qB ?_|exact ql|apply qh|exact qk rfl|(apply qw;exact .inr (of_decide_eq_true rfl))|(apply qF;exact .inr (of_decide_eq_true rfl))|(apply qI;exact .inr (of_decide_eq_true rfl))|exact qZ (qE fun _=>rfl))))<;>fail) ?_
    repeat' (first|refine qm ?_|(first|(refine jM ?_)|(refine yg ?_))|((first|refine qd ?_ ?_|refine qc ?_ ?_|refine xsC ?_ ?_);all_goals (intro hc;have hp:=hc;try simp at hp;try (exfalso;omega)))|refine qO ?_ ?_)
    all_goals try (exfalso;first|omega|contradiction)
    all_goals (refine ⟨P.length - (i + 1),⟨[(0,qb B),(4,.fp [[qb M]] 0 0),(5,.fp [[qb T]] 0 0),(13,.op 0 0 0),(14,.op 3 0 0),(15,.op 2 0 0),(16,.clo (.func 32) [] [.fp [[qb M]] 0 0,.fp [[qb T]] 0 0,.op 0 0 0,.op 2 0 0,.op 3 0 0]),(9,.sl false (P.map qN)),(17,.os 5 0 (G ++ [(p,xt)]).length),(18,.os 6 0 (G ++ [(p,xt)]).length),(19,.v (.int .i64 ((i + 1:Nat):Int)))],[(0,.own false 1 [[.os 1 0 O'.length]]),(1,.own false 4 (O'.map Ent.row)),(2,.own false 1 [[.clo (.func 30) [] [.op 0 0 0]]]),(3,.own false 1 [[.os 4 0 ([]:List Cpy).length]]),(4,.own false 2 (([]:List Cpy).map Cpy.row)),(5,.own false 1 ((G ++ [(p,xt)]).map fun g=>jo g.1)),(6,.own false 1 ((G ++ [(p,xt)]).map fun g=>jo g.2))],7⟩,by omega,?_,i + 1,by omega,rfl,trivial,(by rw [hO',hG'])⟩;refine qC [(0,0),(7,1),(2,2),(3,3),(4,4),(8,5),(9,6)] rfl ?_ ?_;(focus ((repeat (first|exact qg|refine qn ?_|refine xM ?_|refine vu ?_|refine xu ?_|refine xx ?_ ?_|refine qS ?_ ?_));all_goals (first|(simp;done)|trace_state)));(focus ((repeat' (first|exact qj|refine jt ?_|refine xA ?_ ?_|refine kj ?_|refine xz ?_ ?_|exact ql|apply qh|exact qk rfl|exact jh rfl|refine jh ?_|exact yi trivial));all_goals (first|exact xl _ _ _|exact xn _ _ _|trace_state))))
   ·rw [if_neg (fun h=>k4 h.2),if_pos rfl] at hone
    have hput:=putOk ⟨2,xt⟩ (show (0:Int) < 2 by decide) (by rw [hone])
    dsimp only at hput
    obtain rfl:G = G':=by rw [hgs,hone];simp [noT]
    repeat' (first|refine qm ?_|(first|refine xsQ Tryz.func35 (hm1 ..) ?_|refine xsQ Tryz.func35 (ht1 ..) ?_|refine jc Tryz.func36 (hmt ..) ?_|refine jc Tryz.func36 (htb ..) ?_|refine jc Tryz.func36 (hmb ..) ?_)|((first|refine qd ?_ ?_|refine qc ?_ ?_|refine xsC ?_ ?_);all_goals (intro hc;have hp:=hc;try simp at hp;try (exfalso;omega)))|refine qO ?_ ?_)
    all_goals try (exfalso;first|omega|contradiction)
    refine yZ (C:=CF) (first:=[]) (cap:=[.op 0 0 0]) [0,1] [7] [(0,.own false 1 [[.os 7 0 O'.length]]),(1,.dead),(7,.own false 4 (O'.map Ent.row))] 8 (.tup []) Tryz.func30 (hput) (by ((repeat' (first|exact jf|apply q6|exact je rfl|exact jG|(apply qp;apply qI;exact .inr (of_decide_eq_true rfl))|(apply qp;apply qw;exact .inr (of_decide_eq_true rfl))|(apply qp;apply qF;exact .inr (of_decide_eq_true rfl))|apply jw|apply jx)))<;>fail) (by ((repeat' (first|exact qL|exact qK|refine qA _ ?_ ?_|refine qz ?_ ?_|exact qt|exact qe (qi _)|exact qe (qU _)|exact qe (qr _)|exact qx (fun _=>rfl)|refine qB ?_|exact ql|apply qh|exact qk rfl|(apply qw;exact .inr (of_decide_eq_true rfl))|(apply qF;exact .inr (of_decide_eq_true rfl))|(apply qI;exact .inr (of_decide_eq_true rfl))|exact qZ (qE fun _=>rfl))))<;>fail) (by ((repeat' (first|exact qL|exact qK|refine qA _ ?_ ?_|refine qz ?_ ?_|exact qt|exact qe (qi _)|exact qe (qU _)|exact qe (qr _)|exact qx (fun _=>rfl)|refine qB ?_|exact ql|apply qh|exact qk rfl|(apply qw;exact .inr (of_decide_eq_true rfl))|(apply qF;exact .inr (of_decide_eq_true rfl))|(apply qI;exact .inr (of_decide_eq_true rfl))|exact qZ (qE fun _=>rfl))))<;>fail) ?_
    repeat' (first|refine qm ?_|(first|(refine jM ?_)|(refine yg ?_))|((first|refine qd ?_ ?_|refine qc ?_ ?_|refine xsC ?_ ?_);all_goals (intro hc;have hp:=hc;try simp at hp;try (exfalso;omega)))|refine qO ?_ ?_)
    all_goals try (exfalso;first|omega|contradiction)
    all_goals (refine ⟨P.length - (i + 1),⟨[(0,qb B),(4,.fp [[qb M]] 0 0),(5,.fp [[qb T]] 0 0),(13,.op 0 0 0),(14,.op 3 0 0),(15,.op 2 0 0),(16,.clo (.func 32) [] [.fp [[qb M]] 0 0,.fp [[qb T]] 0 0,.op 0 0 0,.op 2 0 0,.op 3 0 0]),(9,.sl false (P.map qN)),(17,.os 5 0 G.length),(18,.os 6 0 G.length),(19,.v (.int .i64 ((i + 1:Nat):Int)))],[(0,.own false 1 [[.os 1 0 O'.length]]),(1,.own false 4 (O'.map Ent.row)),(2,.own false 1 [[.clo (.func 30) [] [.op 0 0 0]]]),(3,.own false 1 [[.os 4 0 ([]:List Cpy).length]]),(4,.own false 2 (([]:List Cpy).map Cpy.row)),(5,.own false 1 (G.map fun g=>jo g.1)),(6,.own false 1 (G.map fun g=>jo g.2))],7⟩,by omega,?_,i + 1,by omega,rfl,trivial,(by rw [hO',hG'])⟩;refine qC [(0,0),(7,1),(2,2),(3,3),(4,4),(5,5),(6,6)] rfl ?_ ?_;(focus ((repeat (first|exact qg|refine qn ?_|refine xM ?_|refine vu ?_|refine xu ?_|refine xx ?_ ?_|refine qS ?_ ?_));all_goals (first|(simp;done)|trace_state)));(focus ((repeat' (first|exact qj|refine jt ?_|refine xA ?_ ?_|refine kj ?_|refine xz ?_ ?_|exact ql|apply qh|exact qk rfl|exact jh rfl|refine jh ?_|exact yi trivial));all_goals (first|exact xl _ _ _|exact xn _ _ _|trace_state))))
  ·rw [if_neg (fun h=>k3 h.1),if_neg k3] at hone
   obtain rfl:G = G':=by rw [hgs,hone];simp [noT]
   by_cases k0:0 < yk
   ·have hput:=putOk ⟨yk,yt⟩ k0 (by rw [hone])
    dsimp only at hput
    repeat' (first|refine qm ?_|(first|refine xsQ Tryz.func35 (hm1 ..) ?_|refine xsQ Tryz.func35 (ht1 ..) ?_|refine jc Tryz.func36 (hmt ..) ?_|refine jc Tryz.func36 (htb ..) ?_|refine jc Tryz.func36 (hmb ..) ?_)|((first|refine qd ?_ ?_|refine qc ?_ ?_|refine xsC ?_ ?_);all_goals (intro hc;have hp:=hc;try simp at hp;try (exfalso;omega)))|refine qO ?_ ?_)
    all_goals try (exfalso;first|omega|contradiction)
    refine yZ (C:=CF) (first:=[]) (cap:=[.op 0 0 0]) [0,1] [7] [(0,.own false 1 [[.os 7 0 O'.length]]),(1,.dead),(7,.own false 4 (O'.map Ent.row))] 8 (.tup []) Tryz.func30 (hput) (by ((repeat' (first|exact jf|apply q6|exact je rfl|exact jG|(apply qp;apply qI;exact .inr (of_decide_eq_true rfl))|(apply qp;apply qw;exact .inr (of_decide_eq_true rfl))|(apply qp;apply qF;exact .inr (of_decide_eq_true rfl))|apply jw|apply jx)))<;>fail) (by ((repeat' (first|exact qL|exact qK|refine qA _ ?_ ?_|refine qz ?_ ?_|exact qt|exact qe (qi _)|exact qe (qU _)|exact qe (qr _)|exact qx (fun _=>rfl)|refine qB ?_|exact ql|apply qh|exact qk rfl|(apply qw;exact .inr (of_decide_eq_true rfl))|(apply qF;exact .inr (of_decide_eq_true rfl))|(apply qI;exact .inr (of_decide_eq_true rfl))|exact qZ (qE fun _=>rfl))))<;>fail) (by ((repeat' (first|exact qL|exact qK|refine qA _ ?_ ?_|refine qz ?_ ?_|exact qt|exact qe (qi _)|exact qe (qU _)|exact qe (qr _)|exact qx (fun _=>rfl)|refine qB ?_|exact ql|apply qh|exact qk rfl|(apply qw;exact .inr (of_decide_eq_true rfl))|(apply qF;exact .inr (of_decide_eq_true rfl))|(apply qI;exact .inr (of_decide_eq_true rfl))|exact qZ (qE fun _=>rfl))))<;>fail) ?_
    repeat' (first|refine qm ?_|(first|(refine jM ?_)|(refine yg ?_))|((first|refine qd ?_ ?_|refine qc ?_ ?_|refine xsC ?_ ?_);all_goals (intro hc;have hp:=hc;try simp at hp;try (exfalso;omega)))|refine qO ?_ ?_)
    all_goals try (exfalso;first|omega|contradiction)
    all_goals (refine ⟨P.length - (i + 1),⟨[(0,qb B),(4,.fp [[qb M]] 0 0),(5,.fp [[qb T]] 0 0),(13,.op 0 0 0),(14,.op 3 0 0),(15,.op 2 0 0),(16,.clo (.func 32) [] [.fp [[qb M]] 0 0,.fp [[qb T]] 0 0,.op 0 0 0,.op 2 0 0,.op 3 0 0]),(9,.sl false (P.map qN)),(17,.os 5 0 G.length),(18,.os 6 0 G.length),(19,.v (.int .i64 ((i + 1:Nat):Int)))],[(0,.own false 1 [[.os 1 0 O'.length]]),(1,.own false 4 (O'.map Ent.row)),(2,.own false 1 [[.clo (.func 30) [] [.op 0 0 0]]]),(3,.own false 1 [[.os 4 0 ([]:List Cpy).length]]),(4,.own false 2 (([]:List Cpy).map Cpy.row)),(5,.own false 1 (G.map fun g=>jo g.1)),(6,.own false 1 (G.map fun g=>jo g.2))],7⟩,by omega,?_,i + 1,by omega,rfl,trivial,(by rw [hO',hG'])⟩;refine qC [(0,0),(7,1),(2,2),(3,3),(4,4),(5,5),(6,6)] rfl ?_ ?_;(focus ((repeat (first|exact qg|refine qn ?_|refine xM ?_|refine vu ?_|refine xu ?_|refine xx ?_ ?_|refine qS ?_ ?_));all_goals (first|(simp;done)|trace_state)));(focus ((repeat' (first|exact qj|refine jt ?_|refine xA ?_ ?_|refine kj ?_|refine xz ?_ ?_|exact ql|apply qh|exact qk rfl|exact jh rfl|refine jh ?_|exact yi trivial));all_goals (first|exact xl _ _ _|exact xn _ _ _|trace_state))))
   ·obtain ⟨e0,hput⟩:=putNo ⟨yk,yt⟩ k0 gy (by rw [hone])
    subst e0
    dsimp only at hput
    repeat' (first|refine qm ?_|(first|refine xsQ Tryz.func35 (hm1 ..) ?_|refine xsQ Tryz.func35 (ht1 ..) ?_|refine jc Tryz.func36 (hmt ..) ?_|refine jc Tryz.func36 (htb ..) ?_|refine jc Tryz.func36 (hmb ..) ?_)|((first|refine qd ?_ ?_|refine qc ?_ ?_|refine xsC ?_ ?_);all_goals (intro hc;have hp:=hc;try simp at hp;try (exfalso;omega)))|refine qO ?_ ?_)
    all_goals try (exfalso;first|omega|contradiction)
    refine yZ (C:=CF) (first:=[]) (cap:=[.op 0 0 0]) [0,1] [] [(0,.own false 1 [[.os 1 0 O'.length]]),(1,.own false 4 (O'.map Ent.row))] 7 (.tup []) Tryz.func30 (hput) (by ((repeat' (first|exact jf|apply q6|exact je rfl|exact jG|(apply qp;apply qI;exact .inr (of_decide_eq_true rfl))|(apply qp;apply qw;exact .inr (of_decide_eq_true rfl))|(apply qp;apply qF;exact .inr (of_decide_eq_true rfl))|apply jw|apply jx)))<;>fail) (by ((repeat' (first|exact qL|exact qK|refine qA _ ?_ ?_|refine qz ?_ ?_|exact qt|exact qe (qi _)|exact qe (qU _)|exact qe (qr _)|exact qx (fun _=>rfl)|refine qB ?_|exact ql|apply qh|exact qk rfl|(apply qw;exact .inr (of_decide_eq_true rfl))|(apply qF;exact .inr (of_decide_eq_true rfl))|(apply qI;exact .inr (of_decide_eq_true rfl))|exact qZ (qE fun _=>rfl))))<;>fail) (by ((repeat' (first|exact qL|exact qK|refine qA _ ?_ ?_|refine qz ?_ ?_|exact qt|exact qe (qi _)|exact qe (qU _)|exact qe (qr _)|exact qx (fun _=>rfl)|refine qB ?_|exact ql|apply qh|exact qk rfl|(apply qw;exact .inr (of_decide_eq_true rfl))|(apply qF;exact .inr (of_decide_eq_true rfl))|(apply qI;exact .inr (of_decide_eq_true rfl))|exact qZ (qE fun _=>rfl))))<;>fail) ?_
    repeat' (first|refine qm ?_|(first|(refine jM ?_)|(refine yg ?_))|((first|refine qd ?_ ?_|refine qc ?_ ?_|refine xsC ?_ ?_);all_goals (intro hc;have hp:=hc;try simp at hp;try (exfalso;omega)))|refine qO ?_ ?_)
    all_goals try (exfalso;first|omega|contradiction)
    all_goals (refine ⟨P.length - (i + 1),⟨[(0,qb B),(4,.fp [[qb M]] 0 0),(5,.fp [[qb T]] 0 0),(13,.op 0 0 0),(14,.op 3 0 0),(15,.op 2 0 0),(16,.clo (.func 32) [] [.fp [[qb M]] 0 0,.fp [[qb T]] 0 0,.op 0 0 0,.op 2 0 0,.op 3 0 0]),(9,.sl false (P.map qN)),(17,.os 5 0 G.length),(18,.os 6 0 G.length),(19,.v (.int .i64 ((i + 1:Nat):Int)))],[(0,.own false 1 [[.os 1 0 O'.length]]),(1,.own false 4 (O'.map Ent.row)),(2,.own false 1 [[.clo (.func 30) [] [.op 0 0 0]]]),(3,.own false 1 [[.os 4 0 ([]:List Cpy).length]]),(4,.own false 2 (([]:List Cpy).map Cpy.row)),(5,.own false 1 (G.map fun g=>jo g.1)),(6,.own false 1 (G.map fun g=>jo g.2))],7⟩,by omega,?_,i + 1,by omega,rfl,trivial,(by rw [hO',hG'])⟩;refine qC [(0,0),(1,1),(2,2),(3,3),(4,4),(5,5),(6,6)] rfl ?_ ?_;(focus ((repeat (first|exact qg|refine qn ?_|refine xM ?_|refine vu ?_|refine xu ?_|refine xx ?_ ?_|refine qS ?_ ?_));all_goals (first|(simp;done)|trace_state)));(focus ((repeat' (first|exact qj|refine jt ?_|refine xA ?_ ?_|refine kj ?_|refine xz ?_ ?_|exact ql|apply qh|exact qk rfl|exact jh rfl|refine jh ?_|exact yi trivial));all_goals (first|exact xl _ _ _|exact xn _ _ _|trace_state))))
 obtain rfl:i = P.length:=by omega
 rw [List.take_length]
 have lG:=YG B M T P
 have gG : ∀ g,g ∈ yx B M T P → qy g.1 = 0 ∧ g.2.length ≤ 300:=by rw [← hP];exact QE hB hM hT
 have iO:MInv (xH B M T P):=by rw [← hP];exact Vo hB hM hT
 have v0:V1 (xH B M T P):=qbT B M T P [] rfl (fun e he=>by cases he)
 have lO:(xH B M T P).length ≤ 180:=by have:=YX B M T P [];simp at this;show (P.foldl _ []).length ≤ 180;omega
 have hms:(match Vg M T (yx B M T P) ⟨xH B M T P,[]⟩ with|none=>none|some s=>kn M T ((s.out.map Ent.path).flatMap jC) s) = vI B M T:=by rw [← hP];rfl
 repeat' (first|(refine Awp.red (qC (τ:=⟨[(4,.fp [[qb M]] 0 0),(5,.fp [[qb T]] 0 0),(13,.op 0 0 0),(14,.op 3 0 0),(15,.op 2 0 0),(16,.clo (.func 32) [] [.fp [[qb M]] 0 0,.fp [[qb T]] 0 0,.op 0 0 0,.op 2 0 0,.op 3 0 0]),(17,.os 5 0 (yx B M T P).length),(18,.os 6 0 (yx B M T P).length)],[(0,.own false 1 [[.os 1 0 (xH B M T P).length]]),(1,.own false 4 ((xH B M T P).map Ent.row)),(2,.own false 1 [[.clo (.func 30) [] [.op 0 0 0]]]),(3,.own false 1 [[.os 4 0 ([]:List Cpy).length]]),(4,.own false 2 (([]:List Cpy).map Cpy.row)),(5,.own false 1 ((yx B M T P).map fun g=>jo g.1)),(6,.own false 1 ((yx B M T P).map fun g=>jo g.2))],7⟩) [(0,0),(1,1),(2,2),(3,3),(4,4),(5,5),(6,6)] rfl ?_ ?_) ?_;rotate_left 2;exact qft M T (yx B M T P) (xH B M T P) (vI B M T) iO v0 lO (by omega) lM lT gG hms;(focus ((repeat (first|exact qg|refine qn ?_|refine xM ?_|refine vu ?_|refine xu ?_|refine xx ?_ ?_|refine qS ?_ ?_));all_goals trace_state));(focus ((repeat' (first|exact qj|refine jt ?_|refine xA ?_ ?_|refine kj ?_|refine xz ?_ ?_|exact ql|apply qh|exact qk rfl|exact jh rfl|refine jh ?_|exact yi trivial));all_goals trace_state)))|refine Zr ?_|((first|refine qd ?_ ?_|refine qc ?_ ?_|refine xsC ?_ ?_);all_goals (intro hc;have hp:=hc;try simp at hp;try (exfalso;omega)))|refine qO ?_ ?_)
end Go.Proofs.YtnhpclmbhbblbaaGreatDoor
set_option linter.unusedSimpArgs false
set_option linter.unnecessarySimpa false
set_option linter.unusedVariables false
set_option maxHeartbeats 1000000
namespace Go.Proofs.YtnhpclmbhbblbaaGreatDoor
open Go.Ab Go.RowKit
set_option maxRecDepth 10000
attribute [local irreducible] Awp yl jE jl Red qX Go.Ab.Fin qW Rz vl jj ji ResOk jV jz yb jv
def kJ (B M T:List Ent):Nat → List Ent
 | 0=>B
 | 1=>M
 | 2=>T
 | _ => []
def Jr (B M T:List Ent):Nat → List Ent
 | 0 => []
 | 1=>B
 | 2=>B ++ M
 | _=>B ++ (M ++ T)
theorem qbt (B M T:List Ent) {k:Nat} (h:k < 3):Jr B M T k ++ kJ B M T k = Jr B M T (k + 1):=by
 match k,h with
 | 0,_=>rfl
 | 1,_=>rfl
 | 2,_=>simp [Jr,kJ]
def zS (B M T:List Ent) (k i:Nat):List qQ:=((Jr B M T k ++ (kJ B M T k).take i).map Ent.path).foldl zE []
theorem qcS (B M T:List Ent):zS B M T 3 0 = zb B M T:=by
 unfold zS zb;simp [Jr]
theorem qbg (B M T:List Ent) {k:Nat} (h:k < 3):zS B M T k (kJ B M T k).length = zS B M T (k + 1) 0:=by
 unfold zS
 rw [List.take_length,qbt B M T h,List.take_zero,List.append_nil]
theorem qbh {B M T:List Ent} {k i:Nat} (h:i < (kJ B M T k).length):zS B M T k (i + 1) = zE (zS B M T k i) (kJ B M T k)[i].path:=by
 unfold zS
 rw [List.take_succ_eq_append_getElem h, ← List.append_assoc,List.map_append,List.foldl_append]
 rfl
theorem qcT {B M T:List Ent} (hB:B.length ≤ 60) (hM:M.length ≤ 60) (hT:T.length ≤ 60) (k i:Nat):(zS B M T k i).length ≤ 240:=by
 unfold zS
 have h:=qal ((Jr B M T k ++ (kJ B M T k).take i).map Ent.path) []
 have h1:(Jr B M T k).length ≤ 180:=by
  match k with
  | 0=>simp [Jr]
  | 1=>simp [Jr];omega
  | 2=>simp [Jr];omega
  | k + 3=>simp [Jr];omega
 have h2:((kJ B M T k).take i).length ≤ 60:=by
  rw [List.length_take]
  match k with
  | 0=>simp [kJ];omega
  | 1=>simp [kJ];omega
  | 2=>simp [kJ];omega
  | k + 3=>simp [kJ]
 simp at h h1 h2 ⊢
 omega
theorem qc8 (B M T:List Ent) {k:Nat} (h:k < 3):([[qb B],[qb M],[qb T]]:List (List AV))[k]? = some [qb (kJ B M T k)]:=by
 match k,h with
 | 0,_=>rfl
 | 1,_=>rfl
 | 2,_=>rfl
theorem qc7 {B M T:List Ent} (hB:B.length ≤ 60) (hM:M.length ≤ 60) (hT:T.length ≤ 60) (k:Nat):(kJ B M T k).length ≤ 60:=by
 match k with
 | 0=>exact hB
 | 1=>exact hM
 | 2=>exact hT
 | k + 3=>exact Nat.zero_le _
set_option maxHeartbeats 32000000 in
theorem qb9 (B M T:List Ent) (hB:Right B) (hM:Right M) (hT:Right T):yO C.P 10 [qb B,qb M,qb T] (Q5 (vW B M T)):=by
 rw [qa8]
 have lB:=hB.len
 have lM:=hM.len
 have lT:=hT.len
 have lP:=qcT lB lM lT
 have l3:=qc7 lB lM lT
 have lA:(zb B M T).length ≤ 180:=by have:=qbD B M T;omega
 refine qa (C:=CF) Tryz.func10 rfl _ Tryz.ntmps10 (Nat.le_of_ble_eq_true rfl) _ Tryz.results10 0 rfl rfl ?_
 (repeat apply kW);apply vS;(repeat' (first|apply kh|refine qcK ?_|refine qcH ?_|refine qfF ?_|refine qfC ?_|refine qcI ?_|refine qcL ?_|refine qcJ ?_|refine qfE ?_|refine qha ?_|refine qfG ?_|refine qfB ?_|refine qg9 ?_|refine qfD ?_|refine qhb ?_|refine qg7 ?_|refine qek ?_|refine qfz ?_|refine W4 ?_|(first|fail)|refine Kd ?_|refine Xp ?_|refine Xo ?_|refine JD ?_|refine JC ?_|refine ZW ?_|refine ZX ?_|refine Xn ?_|refine Xm ?_|((first|refine qd ?_ ?_|refine qc ?_ ?_);all_goals (intro hc;have hp:=hc;try simp at hp;try (exfalso;omega)))));show Awp _ _ _ _ _
 refine xsZ 4 0 ?_
 refine xsZ 5 1 ?_
 repeat' (first|refine qm ?_|(first|(refine jM ?_))|((first|refine qd ?_ ?_|refine qc ?_ ?_|refine xsC ?_ ?_);all_goals (intro hc;have hp:=hc;try simp at hp;try (exfalso;omega)))|refine qO ?_ ?_)
 all_goals try (exfalso;omega)
 refine Awp.red (qC (τ:=⟨[(0,qb B),(4,.fp [[qb M]] 0 0),(5,.fp [[qb T]] 0 0),(9,.sl false ((zS B M T 0 0).map qN)),(10,.sl true [[qb B],[qb M],[qb T]]),(11,.v (.int .i64 ((0:Nat):Int)))],[],0⟩) [] rfl ?gts2 ?ghs2) ?_
 case ghs2=>exact qj
 case gts2=>(repeat (first|exact qg|refine qn ?_|exact qhc (by assumption)|refine qhc ?_))
 refine qP (fun n σ => ∃ k:Nat,k ≤ 3 ∧ n = 3 - k ∧ True ∧ σ = ⟨[(0,qb B),(4,.fp [[qb M]] 0 0),(5,.fp [[qb T]] 0 0),(9,.sl false ((zS B M T k 0).map qN)),(10,.sl true [[qb B],[qb M],[qb T]]),(11,.v (.int .i64 (k:Int)))],[],0⟩) 3 ⟨0,by omega,rfl,trivial,rfl⟩ ?_
 rintro n σ ⟨k,hk,rfl, -,rfl⟩
 by_cases hk3:k < 3
 ·have hrow:=qc8 B M T hk3
  have hl3:=l3 k
  have hnx:=qbg B M T hk3
  have hss : ∀ i (h:i < (kJ B M T k).length),zS B M T k (i + 1) = zE (zS B M T k i) (kJ B M T k)[i].path:=fun i h=>qbh h
  have hll:=lP k
  generalize kJ B M T k = L at *
  repeat' (first|refine qm ?_|fail|((first|refine qd ?_ ?_|refine qc ?_ ?_|refine xsC ?_ ?_);all_goals (intro hc;have hp:=hc;try simp at hp;try (exfalso;omega)))|refine qO ?_ ?_)
  all_goals try (exfalso;omega)
  (refine Awp.red (qv (ts:=[(0,qb B),(4,.fp [[qb M]] 0 0),(5,.fp [[qb T]] 0 0),(9,.sl false ((zS B M T k 0).map qN)),(10,.sl true [[qb B],[qb M],[qb T]]),(11,.v (.int .i64 (k:Int))),(12,.v (.int .i64 ((0:Nat):Int)))]) ?_) ?_;((repeat (first|exact qg|refine qn ?_|refine qS ?_ ?_))))
  refine qP (fun n σ => ∃ i:Nat,i ≤ L.length ∧ n = L.length - i ∧ (True) ∧ σ = ⟨[(0,qb B),(4,.fp [[qb M]] 0 0),(5,.fp [[qb T]] 0 0),(9,.sl false ((zS B M T k i).map qN)),(10,.sl true [[qb B],[qb M],[qb T]]),(11,.v (.int .i64 (k:Int))),(12,.v (.int .i64 (i:Int)))],[],C.nh⟩) L.length ⟨0,Nat.zero_le _,rfl,trivial,rfl⟩ ?_
  rintro n σ ⟨i,hi,rfl, -,rfl⟩
  by_cases hlt:i < L.length
  ·have hr:=js (f:=Ent.row) hlt
   have hput:=qcc (zS B M T k i) L[i].path (by have:=hll i;omega)
   rw [← hss i hlt] at hput
   unfold Yi at hput
   generalize L[i] = e at *
   obtain ⟨ep,ef,et,ev⟩:=e
   dsimp only at hput
   generalize zS B M T k i = Q1 at *
   generalize hQ2:zS B M T k (i + 1) = Q2 at *
   repeat' (first|refine qm ?_|(first|refine xsQ Tryz.func29 (hput ..) ?_)|((first|refine qd ?_ ?_|refine qc ?_ ?_|refine xsC ?_ ?_);all_goals (intro hc;have hp:=hc;try simp at hp;try (exfalso;omega)))|refine qO ?_ ?_)
   all_goals try (exfalso;first|omega|contradiction)
   refine ⟨L.length - (i + 1),⟨[(0,qb B),(4,.fp [[qb M]] 0 0),(5,.fp [[qb T]] 0 0),(9,.sl false (Q2.map qN)),(10,.sl true [[qb B],[qb M],[qb T]]),(11,.v (.int .i64 (k:Int))),(12,.v (.int .i64 ((i + 1:Nat):Int)))],[],0⟩,by omega,qv ?_,i + 1,by omega,rfl,trivial,(by subst hQ2;rfl)⟩
   (repeat (first|exact qg|refine qn ?_|refine qS ?_ ?_))
  obtain rfl:i = L.length:=by omega
  rw [hnx]
  repeat' (first|refine qm ?_|fail|((first|refine qd ?_ ?_|refine qc ?_ ?_|refine xsC ?_ ?_);all_goals (intro hc;have hp:=hc;try simp at hp;try (exfalso;omega)))|refine qO ?_ ?_)
  all_goals try (exfalso;first|omega|contradiction)
  refine ⟨3 - (k + 1),⟨[(0,qb B),(4,.fp [[qb M]] 0 0),(5,.fp [[qb T]] 0 0),(9,.sl false ((zS B M T (k + 1) 0).map qN)),(10,.sl true [[qb B],[qb M],[qb T]]),(11,.v (.int .i64 ((k + 1:Nat):Int)))],[],0⟩,by omega,qv ?_,k + 1,by omega,rfl,trivial,rfl⟩
  (repeat (first|exact qg|refine qn ?_|refine qS ?_ ?_))
 ·obtain rfl:k = 3:=by omega
  rw [qcS]
  repeat' (first|(refine Awp.red (Zf 0 0 4 rfl rfl (Nat.zero_le _) (Nat.le_of_ble_eq_true rfl)) ?_;refine Awp.red (Zf 1 0 2 rfl rfl (Nat.zero_le _) (Nat.le_of_ble_eq_true rfl)) ?_;(refine Awp.red (qC (τ:=⟨[(0,qb B),(4,.fp [[qb M]] 0 0),(5,.fp [[qb T]] 0 0),(13,.op 0 0 0),(14,.op 3 0 0),(15,.op 2 0 0),(16,.clo (.func 32) [] [.fp [[qb M]] 0 0,.fp [[qb T]] 0 0,.op 0 0 0,.op 2 0 0,.op 3 0 0]),(9,.sl false ((zb B M T).map qN))],[(0,.own false 1 [[.os 1 0 ([]:List Ent).length]]),(1,.own false 4 (([]:List Ent).map Ent.row)),(2,.own false 1 [[.clo (.func 30) [] [.op 0 0 0]]]),(3,.own false 1 [[.os 4 0 ([]:List Cpy).length]]),(4,.own false 2 (([]:List Cpy).map Cpy.row))],5⟩) [(0,0),(3,1),(2,2),(1,3),(4,4)] rfl ?_ ?_) ?_;rotate_left 2;exact qfs B M T hB hM hT (zb B M T) rfl lA;(focus ((repeat (first|exact qg|refine qn ?_|refine xM ?_|refine vu ?_|refine xu ?_|refine xx ?_ ?_|refine qS ?_ ?_));all_goals (first|rfl|trace_state)));(focus ((repeat' (first|exact qj|refine jt ?_|refine xA ?_ ?_|refine kj ?_|refine xz ?_ ?_|exact ql|apply qh|exact qk rfl|exact jh rfl|refine jh ?_|exact yi trivial));all_goals (first|rfl|trace_state)))))|refine Zr ?_|((first|refine qd ?_ ?_|refine qc ?_ ?_|refine xsC ?_ ?_);all_goals (intro hc;have hp:=hc;try simp at hp;try (exfalso;omega)))|refine qO ?_ ?_)
end Go.Proofs.YtnhpclmbhbblbaaGreatDoor
