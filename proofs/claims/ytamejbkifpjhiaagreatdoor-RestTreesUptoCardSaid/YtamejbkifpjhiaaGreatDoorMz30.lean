import Derived.Test.YtamejbkifpjhiaaGreatDoorMz29
set_option linter.unusedSimpArgs false
set_option linter.unnecessarySimpa false
set_option linter.unusedVariables false
set_option maxHeartbeats 1000000
namespace Go.Proofs.YtamejbkifpjhiaaGreatDoor
open Go.Ab Go.RowKit
set_option maxRecDepth 10000
attribute [local irreducible] Awp yH jH jw Red ja Go.Ab.Fin qZ Rz vn jr jp ResOk j3 jC yC jA
theorem qgp {b x y:Thg} (h:x = y ∨ y = b):JL b x y = (x,noT):=by
 unfold JL
 by_cases h1:x = y
 ·rw [if_pos h1]
 ·rw [if_neg h1]
  rcases h with h|h
  ·exact absurd h h1
  ·rw [if_neg (fun e=>h1 (e.trans h.symm)),if_pos h]
theorem qgq {b x y:Thg} (h1:¬ x = y) (h2:x = b):JL b x y = (y,noT):=by
 unfold JL;rw [if_neg h1,if_pos h2]
theorem qgr {b x y:Thg} (h1:¬ x = y) (h2:¬ x = b) (h3:¬ y = b):JL b x y = if x.kind = 1 then (x,y) else if y.kind = 1 then (y,x) else if x.kind = 2 ∧ y.kind = 2 then (y,x) else if x.kind = 2 then (x,noT) else (y,noT):=by
 unfold JL;rw [if_neg h1,if_neg h2,if_neg h3]
theorem ZJ {x:Thg} (h:kP x) (k:x.kind = 1):x.text = []:=by
 rcases h with ⟨a,b⟩|⟨a,b⟩|a
 ·exact b
 ·exact b
 ·rw [k] at a;exact absurd a (by decide)
theorem xz (G:List (qP × qP)) (p x:qP):(G.map fun g=>jn g.1).take G.length ++ [[.v (str p)]] = (G ++ [(p,x)]).map fun g=>jn g.1:=by
 rw [List.take_of_length_le (by simp),List.map_append];rfl
theorem xA (G:List (qP × qP)) (p x:qP):(G.map fun g=>jn g.2).take G.length ++ [[.v (str x)]] = (G ++ [(p,x)]).map fun g=>jn g.2:=by
 rw [List.take_of_length_le (by simp),List.map_append];rfl
set_option maxHeartbeats 64000000 in
theorem qfl (B M T:List Ent) (hB:Right B) (hM:Right M) (hT:Right T) (P:List qP) (hP:ze B M T = P) (lP:P.length ≤ 180) :
  Awp CF 281 (tl 8 Vi) (Kl CF #[ResultVar.tmp 6,ResultVar.tmp 7,ResultVar.tmp 8] 0 (Qz (W9 M T (vG B M T))) []) ⟨[(0,qa B),(4,.fp [[qa M]] 0 0),(5,.fp [[qa T]] 0 0),(13,.op 0 0 0),(14,.op 3 0 0),(15,.op 2 0 0),(16,.clo (.func 84) [] [.fp [[qa M]] 0 0,.fp [[qa T]] 0 0,.op 0 0 0,.op 2 0 0,.op 3 0 0]),(9,.sl false (P.map qO))],[(0,.own false 1 [[.os 1 0 ([]:List Ent).length]]),(1,.own false 4 (([]:List Ent).map Ent.row)),(2,.own false 1 [[.clo (.func 83) [] [.op 0 0 0]]]),(3,.own false 1 [[.os 4 0 ([]:List Cpy).length]]),(4,.own false 2 (([]:List Cpy).map Cpy.row))],5⟩:=by
 conv=>arg 3;whnf
 have lB:=hB.len
 have lM:=hM.len
 have lT:=hT.len
 repeat' (first|refine qn ?_|fail|((first|refine qf ?_ ?_|refine qe ?_ ?_|refine xsC ?_ ?_);all_goals (intro hc;have hp:=hc;try simp at hp;try (exfalso;omega)))|refine qX ?_ ?_)
 refine Awp.red (ye 17 1 rfl (Nat.zero_le _)) ?_
 refine Awp.red (ye 18 1 rfl (Nat.zero_le _)) ?_
 (refine Awp.red (qB (τ:=⟨[(0,qa B),(4,.fp [[qa M]] 0 0),(5,.fp [[qa T]] 0 0),(13,.op 0 0 0),(14,.op 3 0 0),(15,.op 2 0 0),(16,.clo (.func 84) [] [.fp [[qa M]] 0 0,.fp [[qa T]] 0 0,.op 0 0 0,.op 2 0 0,.op 3 0 0]),(9,.sl false (P.map qO)),(17,.os 5 0 (yK B M T (P.take 0)).length),(18,.os 6 0 (yK B M T (P.take 0)).length),(19,.v (.int .i64 ((0:Nat):Int)))],[(0,.own false 1 [[.os 1 0 (xK B M T (P.take 0)).length]]),(1,.own false 4 ((xK B M T (P.take 0)).map Ent.row)),(2,.own false 1 [[.clo (.func 83) [] [.op 0 0 0]]]),(3,.own false 1 [[.os 4 0 ([]:List Cpy).length]]),(4,.own false 2 (([]:List Cpy).map Cpy.row)),(5,.own false 1 ((yK B M T (P.take 0)).map fun g=>jn g.1)),(6,.own false 1 ((yK B M T (P.take 0)).map fun g=>jn g.2))],7⟩) [(0,0),(1,1),(2,2),(3,3),(4,4),(5,5),(6,6)] rfl ?_ ?_) ?_;rotate_left 2;rotate_left 1;(focus ((repeat (first|exact qg|refine qo ?_|refine xQ ?_|refine xl ?_|refine yu ?_|refine yw ?_ ?_|refine qY ?_ ?_));all_goals (first|rfl|trace_state)));(focus ((repeat' (first|exact qj|refine jx ?_|refine yy ?_ ?_|refine vJ ?_|refine yx ?_ ?_|exact ql|apply qd|exact qk rfl|exact jm rfl|refine jm ?_|exact yA trivial));all_goals (first|rfl|trace_state))))
 refine qV (fun n σ => ∃ i:Nat,i ≤ P.length ∧ n = P.length - i ∧ True ∧ σ = ⟨[(0,qa B),(4,.fp [[qa M]] 0 0),(5,.fp [[qa T]] 0 0),(13,.op 0 0 0),(14,.op 3 0 0),(15,.op 2 0 0),(16,.clo (.func 84) [] [.fp [[qa M]] 0 0,.fp [[qa T]] 0 0,.op 0 0 0,.op 2 0 0,.op 3 0 0]),(9,.sl false (P.map qO)),(17,.os 5 0 (yK B M T (P.take i)).length),(18,.os 6 0 (yK B M T (P.take i)).length),(19,.v (.int .i64 (i:Int)))],[(0,.own false 1 [[.os 1 0 (xK B M T (P.take i)).length]]),(1,.own false 4 ((xK B M T (P.take i)).map Ent.row)),(2,.own false 1 [[.clo (.func 83) [] [.op 0 0 0]]]),(3,.own false 1 [[.os 4 0 ([]:List Cpy).length]]),(4,.own false 2 (([]:List Cpy).map Cpy.row)),(5,.own false 1 ((yK B M T (P.take i)).map fun g=>jn g.1)),(6,.own false 1 ((yK B M T (P.take i)).map fun g=>jn g.2))],7⟩) P.length ⟨0,by omega,rfl,trivial,rfl⟩ ?_
 rintro n σ ⟨i,hi,rfl, -,rfl⟩
 by_cases hlt:i < P.length
 ·have hrow:=jB (f:=qO) hlt
  have hri:qU jf (xK B M T (P.take i)) = true:=WR hB hM hT _
  have hol:(xK B M T (P.take i)).length ≤ 180:=by
   have h:(xK B M T (P.take i)).length ≤ ([]:List Ent).length + (P.take i).length:=YP B M T (P.take i) []
   rw [List.length_take] at h
   simp only [List.length_nil] at h
   omega
  have hgl:(yK B M T (P.take i)).length ≤ 180:=by
   have:=YC B M T (P.take i)
   simp at this
   omega
  have hos:=ZQ (b:=B) (m:=M) (t:=T) hlt
  have hgs:=VH (b:=B) (m:=M) (t:=T) hlt
  have hm1:=wV M P[i] (by omega)
  have ht1:=wV T P[i] (by omega)
  have hmt:=Ye M T P[i] (by omega) (by omega)
  have htb:=Ye T B P[i] (by omega) (by omega)
  have hmb:=Ye M B P[i] (by omega) (by omega)
  have gx:=ku M P[i]
  have gy:=ku T P[i]
  have hone:x3 B M T P[i] = JL (stT B P[i]) (stT M P[i]) (stT T P[i]):=rfl
  generalize hO' : xK B M T (P.take (i + 1)) = O' at *
  generalize hG' : yK B M T (P.take (i + 1)) = G' at *
  generalize xK B M T (P.take i) = O at *
  generalize yK B M T (P.take i) = G at *
  generalize x3 B M T P[i] = W at *
  generalize stT B P[i] = b at *
  generalize stT M P[i] = x at *
  generalize stT T P[i] = y at *
  generalize P[i] = p at *
  have putOk : ∀ v:Thg,0 < v.kind → W.1 = v → qZ C2.P 83 [.v (str p),.v (.int .i64 v.kind),.v (str v.text),.op 0 0 0] [.own false 1 [[.os 1 0 O.length]],.own false 4 (O.map Ent.row)] (.tup []) [.own false 1 [[.os 2 0 O'.length]],.dead,.own false 4 (O'.map Ent.row)]:=fun v k hv=>by
   have h:=Vo O _ p v.kind v.text k hri (by omega) rfl
   have e:jR O ⟨p,decide (v.kind = 1),v.text,1⟩ = O':=by
    rw [hos,hv];unfold wy;rw [if_neg (by omega)];rfl
   rw [e] at h
   exact h
  have putNo : ∀ v:Thg, ¬ 0 < v.kind → kP v → W.1 = v → O' = O ∧ qZ C2.P 83 [.v (str p),.v (.int .i64 v.kind),.v (str v.text),.op 0 0 0] [.own false 1 [[.os 1 0 O.length]],.own false 4 (O.map Ent.row)] (.tup []) [.own false 1 [[.os 1 0 O.length]],.own false 4 (O.map Ent.row)]:=fun v k g hv=>by
   refine ⟨?_,qcf O p v.kind v.text k⟩
   rw [hos,hv];unfold wy
   rw [if_pos (by rcases g with ⟨a,_⟩|⟨a,_⟩|a<;>omega)]
  by_cases cA:x = y ∨ y = b
  ·have hW:W = (x,noT):=hone.trans (qgp cA)
   obtain rfl:G = G':=by rw [hgs,hW];simp [noT]
   obtain ⟨xk,xt⟩:=x
   by_cases k0:0 < xk
   ·have hput:=putOk ⟨xk,xt⟩ k0 (by rw [hW])
    dsimp only at hput hm1
    by_cases cA1:(⟨xk,xt⟩ : Thg) = y
    ·rw [decide_eq_true cA1] at hmt
     repeat' (first|refine qn ?_|(first|refine j1 Tryz.func86 (hm1 ..) ?_|refine j1 Tryz.func86 (ht1 ..) ?_|refine jv Tryz.func87 (hmt ..) ?_|refine jv Tryz.func87 (htb ..) ?_|refine jv Tryz.func87 (hmb ..) ?_)|((first|refine qf ?_ ?_|refine qe ?_ ?_|refine xsC ?_ ?_);all_goals (intro hc;have hp:=hc;try simp at hp;try (exfalso;omega)))|refine qX ?_ ?_)
     all_goals try (exfalso;first|omega|contradiction)
     refine xd (C:=CF) (first:=[]) (cap:=[.op 0 0 0]) [0,1] [7] [(0,.own false 1 [[.os 7 0 O'.length]]),(1,.dead),(7,.own false 4 (O'.map Ent.row))] 8 (.tup []) Tryz.func83 (hput) (by ((repeat' (first|exact q9|apply qR|exact q8 rfl|exact jy|(apply qm;apply qD;exact .inr (of_decide_eq_true rfl))|(apply qm;apply qt;exact .inr (of_decide_eq_true rfl))|(apply qm;apply qz;exact .inr (of_decide_eq_true rfl))|apply jd|apply je)))<;>fail) (by ((repeat' (first|exact qG|exact qF|refine qx _ ?_ ?_|refine qw ?_ ?_|exact qq|exact qb (qh _)|exact qb (qL _)|exact qb (qp _)|exact qv (fun _=>rfl)|refine qy ?_|exact ql|apply qd|exact qk rfl|(apply qt;exact .inr (of_decide_eq_true rfl))|(apply qz;exact .inr (of_decide_eq_true rfl))|(apply qD;exact .inr (of_decide_eq_true rfl))|exact jc (qK fun _=>rfl))))<;>fail) (by ((repeat' (first|exact qG|exact qF|refine qx _ ?_ ?_|refine qw ?_ ?_|exact qq|exact qb (qh _)|exact qb (qL _)|exact qb (qp _)|exact qv (fun _=>rfl)|refine qy ?_|exact ql|apply qd|exact qk rfl|(apply qt;exact .inr (of_decide_eq_true rfl))|(apply qz;exact .inr (of_decide_eq_true rfl))|(apply qD;exact .inr (of_decide_eq_true rfl))|exact jc (qK fun _=>rfl))))<;>fail) ?_
     repeat' (first|refine qn ?_|(first|(refine jL ?_)|(refine yi ?_))|((first|refine qf ?_ ?_|refine qe ?_ ?_|refine xsC ?_ ?_);all_goals (intro hc;have hp:=hc;try simp at hp;try (exfalso;omega)))|refine qX ?_ ?_)
     all_goals try (exfalso;first|omega|contradiction)
     all_goals (refine ⟨P.length - (i + 1),⟨[(0,qa B),(4,.fp [[qa M]] 0 0),(5,.fp [[qa T]] 0 0),(13,.op 0 0 0),(14,.op 3 0 0),(15,.op 2 0 0),(16,.clo (.func 84) [] [.fp [[qa M]] 0 0,.fp [[qa T]] 0 0,.op 0 0 0,.op 2 0 0,.op 3 0 0]),(9,.sl false (P.map qO)),(17,.os 5 0 G.length),(18,.os 6 0 G.length),(19,.v (.int .i64 ((i + 1:Nat):Int)))],[(0,.own false 1 [[.os 1 0 O'.length]]),(1,.own false 4 (O'.map Ent.row)),(2,.own false 1 [[.clo (.func 83) [] [.op 0 0 0]]]),(3,.own false 1 [[.os 4 0 ([]:List Cpy).length]]),(4,.own false 2 (([]:List Cpy).map Cpy.row)),(5,.own false 1 (G.map fun g=>jn g.1)),(6,.own false 1 (G.map fun g=>jn g.2))],7⟩,by omega,?_,i + 1,by omega,rfl,trivial,(by rw [hO',hG'])⟩;refine qB [(0,0),(7,1),(2,2),(3,3),(4,4),(5,5),(6,6)] rfl ?_ ?_;(focus ((repeat (first|exact qg|refine qo ?_|refine xQ ?_|refine xl ?_|refine yu ?_|refine yw ?_ ?_|refine qY ?_ ?_));all_goals (first|(simp;done)|trace_state)));(focus ((repeat' (first|exact qj|refine jx ?_|refine yy ?_ ?_|refine vJ ?_|refine yx ?_ ?_|exact ql|apply qd|exact qk rfl|exact jm rfl|refine jm ?_|exact yA trivial));all_goals (first|exact xz _ _ _|exact xA _ _ _|trace_state))))
    ·rw [decide_eq_false cA1] at hmt
     rw [decide_eq_true (cA.resolve_left cA1)] at htb
     repeat' (first|refine qn ?_|(first|refine j1 Tryz.func86 (hm1 ..) ?_|refine j1 Tryz.func86 (ht1 ..) ?_|refine jv Tryz.func87 (hmt ..) ?_|refine jv Tryz.func87 (htb ..) ?_|refine jv Tryz.func87 (hmb ..) ?_)|((first|refine qf ?_ ?_|refine qe ?_ ?_|refine xsC ?_ ?_);all_goals (intro hc;have hp:=hc;try simp at hp;try (exfalso;omega)))|refine qX ?_ ?_)
     all_goals try (exfalso;first|omega|contradiction)
     refine xd (C:=CF) (first:=[]) (cap:=[.op 0 0 0]) [0,1] [7] [(0,.own false 1 [[.os 7 0 O'.length]]),(1,.dead),(7,.own false 4 (O'.map Ent.row))] 8 (.tup []) Tryz.func83 (hput) (by ((repeat' (first|exact q9|apply qR|exact q8 rfl|exact jy|(apply qm;apply qD;exact .inr (of_decide_eq_true rfl))|(apply qm;apply qt;exact .inr (of_decide_eq_true rfl))|(apply qm;apply qz;exact .inr (of_decide_eq_true rfl))|apply jd|apply je)))<;>fail) (by ((repeat' (first|exact qG|exact qF|refine qx _ ?_ ?_|refine qw ?_ ?_|exact qq|exact qb (qh _)|exact qb (qL _)|exact qb (qp _)|exact qv (fun _=>rfl)|refine qy ?_|exact ql|apply qd|exact qk rfl|(apply qt;exact .inr (of_decide_eq_true rfl))|(apply qz;exact .inr (of_decide_eq_true rfl))|(apply qD;exact .inr (of_decide_eq_true rfl))|exact jc (qK fun _=>rfl))))<;>fail) (by ((repeat' (first|exact qG|exact qF|refine qx _ ?_ ?_|refine qw ?_ ?_|exact qq|exact qb (qh _)|exact qb (qL _)|exact qb (qp _)|exact qv (fun _=>rfl)|refine qy ?_|exact ql|apply qd|exact qk rfl|(apply qt;exact .inr (of_decide_eq_true rfl))|(apply qz;exact .inr (of_decide_eq_true rfl))|(apply qD;exact .inr (of_decide_eq_true rfl))|exact jc (qK fun _=>rfl))))<;>fail) ?_
     repeat' (first|refine qn ?_|(first|(refine jL ?_)|(refine yi ?_))|((first|refine qf ?_ ?_|refine qe ?_ ?_|refine xsC ?_ ?_);all_goals (intro hc;have hp:=hc;try simp at hp;try (exfalso;omega)))|refine qX ?_ ?_)
     all_goals try (exfalso;first|omega|contradiction)
     all_goals (refine ⟨P.length - (i + 1),⟨[(0,qa B),(4,.fp [[qa M]] 0 0),(5,.fp [[qa T]] 0 0),(13,.op 0 0 0),(14,.op 3 0 0),(15,.op 2 0 0),(16,.clo (.func 84) [] [.fp [[qa M]] 0 0,.fp [[qa T]] 0 0,.op 0 0 0,.op 2 0 0,.op 3 0 0]),(9,.sl false (P.map qO)),(17,.os 5 0 G.length),(18,.os 6 0 G.length),(19,.v (.int .i64 ((i + 1:Nat):Int)))],[(0,.own false 1 [[.os 1 0 O'.length]]),(1,.own false 4 (O'.map Ent.row)),(2,.own false 1 [[.clo (.func 83) [] [.op 0 0 0]]]),(3,.own false 1 [[.os 4 0 ([]:List Cpy).length]]),(4,.own false 2 (([]:List Cpy).map Cpy.row)),(5,.own false 1 (G.map fun g=>jn g.1)),(6,.own false 1 (G.map fun g=>jn g.2))],7⟩,by omega,?_,i + 1,by omega,rfl,trivial,(by rw [hO',hG'])⟩;refine qB [(0,0),(7,1),(2,2),(3,3),(4,4),(5,5),(6,6)] rfl ?_ ?_;(focus ((repeat (first|exact qg|refine qo ?_|refine xQ ?_|refine xl ?_|refine yu ?_|refine yw ?_ ?_|refine qY ?_ ?_));all_goals (first|(simp;done)|trace_state)));(focus ((repeat' (first|exact qj|refine jx ?_|refine yy ?_ ?_|refine vJ ?_|refine yx ?_ ?_|exact ql|apply qd|exact qk rfl|exact jm rfl|refine jm ?_|exact yA trivial));all_goals (first|exact xz _ _ _|exact xA _ _ _|trace_state))))
   ·obtain ⟨e0,hput⟩:=putNo ⟨xk,xt⟩ k0 gx (by rw [hW])
    subst e0
    dsimp only at hput hm1
    by_cases cA1:(⟨xk,xt⟩ : Thg) = y
    ·rw [decide_eq_true cA1] at hmt
     repeat' (first|refine qn ?_|(first|refine j1 Tryz.func86 (hm1 ..) ?_|refine j1 Tryz.func86 (ht1 ..) ?_|refine jv Tryz.func87 (hmt ..) ?_|refine jv Tryz.func87 (htb ..) ?_|refine jv Tryz.func87 (hmb ..) ?_)|((first|refine qf ?_ ?_|refine qe ?_ ?_|refine xsC ?_ ?_);all_goals (intro hc;have hp:=hc;try simp at hp;try (exfalso;omega)))|refine qX ?_ ?_)
     all_goals try (exfalso;first|omega|contradiction)
     refine xd (C:=CF) (first:=[]) (cap:=[.op 0 0 0]) [0,1] [] [(0,.own false 1 [[.os 1 0 O'.length]]),(1,.own false 4 (O'.map Ent.row))] 7 (.tup []) Tryz.func83 (hput) (by ((repeat' (first|exact q9|apply qR|exact q8 rfl|exact jy|(apply qm;apply qD;exact .inr (of_decide_eq_true rfl))|(apply qm;apply qt;exact .inr (of_decide_eq_true rfl))|(apply qm;apply qz;exact .inr (of_decide_eq_true rfl))|apply jd|apply je)))<;>fail) (by ((repeat' (first|exact qG|exact qF|refine qx _ ?_ ?_|refine qw ?_ ?_|exact qq|exact qb (qh _)|exact qb (qL _)|exact qb (qp _)|exact qv (fun _=>rfl)|refine qy ?_|exact ql|apply qd|exact qk rfl|(apply qt;exact .inr (of_decide_eq_true rfl))|(apply qz;exact .inr (of_decide_eq_true rfl))|(apply qD;exact .inr (of_decide_eq_true rfl))|exact jc (qK fun _=>rfl))))<;>fail) (by ((repeat' (first|exact qG|exact qF|refine qx _ ?_ ?_|refine qw ?_ ?_|exact qq|exact qb (qh _)|exact qb (qL _)|exact qb (qp _)|exact qv (fun _=>rfl)|refine qy ?_|exact ql|apply qd|exact qk rfl|(apply qt;exact .inr (of_decide_eq_true rfl))|(apply qz;exact .inr (of_decide_eq_true rfl))|(apply qD;exact .inr (of_decide_eq_true rfl))|exact jc (qK fun _=>rfl))))<;>fail) ?_
     repeat' (first|refine qn ?_|(first|(refine jL ?_)|(refine yi ?_))|((first|refine qf ?_ ?_|refine qe ?_ ?_|refine xsC ?_ ?_);all_goals (intro hc;have hp:=hc;try simp at hp;try (exfalso;omega)))|refine qX ?_ ?_)
     all_goals try (exfalso;first|omega|contradiction)
     all_goals (refine ⟨P.length - (i + 1),⟨[(0,qa B),(4,.fp [[qa M]] 0 0),(5,.fp [[qa T]] 0 0),(13,.op 0 0 0),(14,.op 3 0 0),(15,.op 2 0 0),(16,.clo (.func 84) [] [.fp [[qa M]] 0 0,.fp [[qa T]] 0 0,.op 0 0 0,.op 2 0 0,.op 3 0 0]),(9,.sl false (P.map qO)),(17,.os 5 0 G.length),(18,.os 6 0 G.length),(19,.v (.int .i64 ((i + 1:Nat):Int)))],[(0,.own false 1 [[.os 1 0 O'.length]]),(1,.own false 4 (O'.map Ent.row)),(2,.own false 1 [[.clo (.func 83) [] [.op 0 0 0]]]),(3,.own false 1 [[.os 4 0 ([]:List Cpy).length]]),(4,.own false 2 (([]:List Cpy).map Cpy.row)),(5,.own false 1 (G.map fun g=>jn g.1)),(6,.own false 1 (G.map fun g=>jn g.2))],7⟩,by omega,?_,i + 1,by omega,rfl,trivial,(by rw [hO',hG'])⟩;refine qB [(0,0),(1,1),(2,2),(3,3),(4,4),(5,5),(6,6)] rfl ?_ ?_;(focus ((repeat (first|exact qg|refine qo ?_|refine xQ ?_|refine xl ?_|refine yu ?_|refine yw ?_ ?_|refine qY ?_ ?_));all_goals (first|(simp;done)|trace_state)));(focus ((repeat' (first|exact qj|refine jx ?_|refine yy ?_ ?_|refine vJ ?_|refine yx ?_ ?_|exact ql|apply qd|exact qk rfl|exact jm rfl|refine jm ?_|exact yA trivial));all_goals (first|exact xz _ _ _|exact xA _ _ _|trace_state))))
    ·rw [decide_eq_false cA1] at hmt
     rw [decide_eq_true (cA.resolve_left cA1)] at htb
     repeat' (first|refine qn ?_|(first|refine j1 Tryz.func86 (hm1 ..) ?_|refine j1 Tryz.func86 (ht1 ..) ?_|refine jv Tryz.func87 (hmt ..) ?_|refine jv Tryz.func87 (htb ..) ?_|refine jv Tryz.func87 (hmb ..) ?_)|((first|refine qf ?_ ?_|refine qe ?_ ?_|refine xsC ?_ ?_);all_goals (intro hc;have hp:=hc;try simp at hp;try (exfalso;omega)))|refine qX ?_ ?_)
     all_goals try (exfalso;first|omega|contradiction)
     refine xd (C:=CF) (first:=[]) (cap:=[.op 0 0 0]) [0,1] [] [(0,.own false 1 [[.os 1 0 O'.length]]),(1,.own false 4 (O'.map Ent.row))] 7 (.tup []) Tryz.func83 (hput) (by ((repeat' (first|exact q9|apply qR|exact q8 rfl|exact jy|(apply qm;apply qD;exact .inr (of_decide_eq_true rfl))|(apply qm;apply qt;exact .inr (of_decide_eq_true rfl))|(apply qm;apply qz;exact .inr (of_decide_eq_true rfl))|apply jd|apply je)))<;>fail) (by ((repeat' (first|exact qG|exact qF|refine qx _ ?_ ?_|refine qw ?_ ?_|exact qq|exact qb (qh _)|exact qb (qL _)|exact qb (qp _)|exact qv (fun _=>rfl)|refine qy ?_|exact ql|apply qd|exact qk rfl|(apply qt;exact .inr (of_decide_eq_true rfl))|(apply qz;exact .inr (of_decide_eq_true rfl))|(apply qD;exact .inr (of_decide_eq_true rfl))|exact jc (qK fun _=>rfl))))<;>fail) (by ((repeat' (first|exact qG|exact qF|refine qx _ ?_ ?_|refine qw ?_ ?_|exact qq|exact qb (qh _)|exact qb (qL _)|exact qb (qp _)|exact qv (fun _=>rfl)|refine qy ?_|exact ql|apply qd|exact qk rfl|(apply qt;exact .inr (of_decide_eq_true rfl))|(apply qz;exact .inr (of_decide_eq_true rfl))|(apply qD;exact .inr (of_decide_eq_true rfl))|exact jc (qK fun _=>rfl))))<;>fail) ?_
     repeat' (first|refine qn ?_|(first|(refine jL ?_)|(refine yi ?_))|((first|refine qf ?_ ?_|refine qe ?_ ?_|refine xsC ?_ ?_);all_goals (intro hc;have hp:=hc;try simp at hp;try (exfalso;omega)))|refine qX ?_ ?_)
     all_goals try (exfalso;first|omega|contradiction)
     all_goals (refine ⟨P.length - (i + 1),⟨[(0,qa B),(4,.fp [[qa M]] 0 0),(5,.fp [[qa T]] 0 0),(13,.op 0 0 0),(14,.op 3 0 0),(15,.op 2 0 0),(16,.clo (.func 84) [] [.fp [[qa M]] 0 0,.fp [[qa T]] 0 0,.op 0 0 0,.op 2 0 0,.op 3 0 0]),(9,.sl false (P.map qO)),(17,.os 5 0 G.length),(18,.os 6 0 G.length),(19,.v (.int .i64 ((i + 1:Nat):Int)))],[(0,.own false 1 [[.os 1 0 O'.length]]),(1,.own false 4 (O'.map Ent.row)),(2,.own false 1 [[.clo (.func 83) [] [.op 0 0 0]]]),(3,.own false 1 [[.os 4 0 ([]:List Cpy).length]]),(4,.own false 2 (([]:List Cpy).map Cpy.row)),(5,.own false 1 (G.map fun g=>jn g.1)),(6,.own false 1 (G.map fun g=>jn g.2))],7⟩,by omega,?_,i + 1,by omega,rfl,trivial,(by rw [hO',hG'])⟩;refine qB [(0,0),(1,1),(2,2),(3,3),(4,4),(5,5),(6,6)] rfl ?_ ?_;(focus ((repeat (first|exact qg|refine qo ?_|refine xQ ?_|refine xl ?_|refine yu ?_|refine yw ?_ ?_|refine qY ?_ ?_));all_goals (first|(simp;done)|trace_state)));(focus ((repeat' (first|exact qj|refine jx ?_|refine yy ?_ ?_|refine vJ ?_|refine yx ?_ ?_|exact ql|apply qd|exact qk rfl|exact jm rfl|refine jm ?_|exact yA trivial));all_goals (first|exact xz _ _ _|exact xA _ _ _|trace_state))))
  have cA1:¬ x = y:=fun e=>cA (.inl e)
  have cA2:¬ y = b:=fun e=>cA (.inr e)
  rw [decide_eq_false cA1] at hmt
  rw [decide_eq_false cA2] at htb
  by_cases cB:x = b
  ·have hW:W = (y,noT):=hone.trans (qgq cA1 cB)
   obtain rfl:G = G':=by rw [hgs,hW];simp [noT]
   rw [decide_eq_true cB] at hmb
   obtain ⟨yk,yt⟩:=y
   by_cases k0:0 < yk
   ·have hput:=putOk ⟨yk,yt⟩ k0 (by rw [hW])
    dsimp only at hput ht1
    repeat' (first|refine qn ?_|(first|refine j1 Tryz.func86 (hm1 ..) ?_|refine j1 Tryz.func86 (ht1 ..) ?_|refine jv Tryz.func87 (hmt ..) ?_|refine jv Tryz.func87 (htb ..) ?_|refine jv Tryz.func87 (hmb ..) ?_)|((first|refine qf ?_ ?_|refine qe ?_ ?_|refine xsC ?_ ?_);all_goals (intro hc;have hp:=hc;try simp at hp;try (exfalso;omega)))|refine qX ?_ ?_)
    all_goals try (exfalso;first|omega|contradiction)
    refine xd (C:=CF) (first:=[]) (cap:=[.op 0 0 0]) [0,1] [7] [(0,.own false 1 [[.os 7 0 O'.length]]),(1,.dead),(7,.own false 4 (O'.map Ent.row))] 8 (.tup []) Tryz.func83 (hput) (by ((repeat' (first|exact q9|apply qR|exact q8 rfl|exact jy|(apply qm;apply qD;exact .inr (of_decide_eq_true rfl))|(apply qm;apply qt;exact .inr (of_decide_eq_true rfl))|(apply qm;apply qz;exact .inr (of_decide_eq_true rfl))|apply jd|apply je)))<;>fail) (by ((repeat' (first|exact qG|exact qF|refine qx _ ?_ ?_|refine qw ?_ ?_|exact qq|exact qb (qh _)|exact qb (qL _)|exact qb (qp _)|exact qv (fun _=>rfl)|refine qy ?_|exact ql|apply qd|exact qk rfl|(apply qt;exact .inr (of_decide_eq_true rfl))|(apply qz;exact .inr (of_decide_eq_true rfl))|(apply qD;exact .inr (of_decide_eq_true rfl))|exact jc (qK fun _=>rfl))))<;>fail) (by ((repeat' (first|exact qG|exact qF|refine qx _ ?_ ?_|refine qw ?_ ?_|exact qq|exact qb (qh _)|exact qb (qL _)|exact qb (qp _)|exact qv (fun _=>rfl)|refine qy ?_|exact ql|apply qd|exact qk rfl|(apply qt;exact .inr (of_decide_eq_true rfl))|(apply qz;exact .inr (of_decide_eq_true rfl))|(apply qD;exact .inr (of_decide_eq_true rfl))|exact jc (qK fun _=>rfl))))<;>fail) ?_
    repeat' (first|refine qn ?_|(first|(refine jL ?_)|(refine yi ?_))|((first|refine qf ?_ ?_|refine qe ?_ ?_|refine xsC ?_ ?_);all_goals (intro hc;have hp:=hc;try simp at hp;try (exfalso;omega)))|refine qX ?_ ?_)
    all_goals try (exfalso;first|omega|contradiction)
    all_goals (refine ⟨P.length - (i + 1),⟨[(0,qa B),(4,.fp [[qa M]] 0 0),(5,.fp [[qa T]] 0 0),(13,.op 0 0 0),(14,.op 3 0 0),(15,.op 2 0 0),(16,.clo (.func 84) [] [.fp [[qa M]] 0 0,.fp [[qa T]] 0 0,.op 0 0 0,.op 2 0 0,.op 3 0 0]),(9,.sl false (P.map qO)),(17,.os 5 0 G.length),(18,.os 6 0 G.length),(19,.v (.int .i64 ((i + 1:Nat):Int)))],[(0,.own false 1 [[.os 1 0 O'.length]]),(1,.own false 4 (O'.map Ent.row)),(2,.own false 1 [[.clo (.func 83) [] [.op 0 0 0]]]),(3,.own false 1 [[.os 4 0 ([]:List Cpy).length]]),(4,.own false 2 (([]:List Cpy).map Cpy.row)),(5,.own false 1 (G.map fun g=>jn g.1)),(6,.own false 1 (G.map fun g=>jn g.2))],7⟩,by omega,?_,i + 1,by omega,rfl,trivial,(by rw [hO',hG'])⟩;refine qB [(0,0),(7,1),(2,2),(3,3),(4,4),(5,5),(6,6)] rfl ?_ ?_;(focus ((repeat (first|exact qg|refine qo ?_|refine xQ ?_|refine xl ?_|refine yu ?_|refine yw ?_ ?_|refine qY ?_ ?_));all_goals (first|(simp;done)|trace_state)));(focus ((repeat' (first|exact qj|refine jx ?_|refine yy ?_ ?_|refine vJ ?_|refine yx ?_ ?_|exact ql|apply qd|exact qk rfl|exact jm rfl|refine jm ?_|exact yA trivial));all_goals (first|exact xz _ _ _|exact xA _ _ _|trace_state))))
   ·obtain ⟨e0,hput⟩:=putNo ⟨yk,yt⟩ k0 gy (by rw [hW])
    subst e0
    dsimp only at hput ht1
    repeat' (first|refine qn ?_|(first|refine j1 Tryz.func86 (hm1 ..) ?_|refine j1 Tryz.func86 (ht1 ..) ?_|refine jv Tryz.func87 (hmt ..) ?_|refine jv Tryz.func87 (htb ..) ?_|refine jv Tryz.func87 (hmb ..) ?_)|((first|refine qf ?_ ?_|refine qe ?_ ?_|refine xsC ?_ ?_);all_goals (intro hc;have hp:=hc;try simp at hp;try (exfalso;omega)))|refine qX ?_ ?_)
    all_goals try (exfalso;first|omega|contradiction)
    refine xd (C:=CF) (first:=[]) (cap:=[.op 0 0 0]) [0,1] [] [(0,.own false 1 [[.os 1 0 O'.length]]),(1,.own false 4 (O'.map Ent.row))] 7 (.tup []) Tryz.func83 (hput) (by ((repeat' (first|exact q9|apply qR|exact q8 rfl|exact jy|(apply qm;apply qD;exact .inr (of_decide_eq_true rfl))|(apply qm;apply qt;exact .inr (of_decide_eq_true rfl))|(apply qm;apply qz;exact .inr (of_decide_eq_true rfl))|apply jd|apply je)))<;>fail) (by ((repeat' (first|exact qG|exact qF|refine qx _ ?_ ?_|refine qw ?_ ?_|exact qq|exact qb (qh _)|exact qb (qL _)|exact qb (qp _)|exact qv (fun _=>rfl)|refine qy ?_|exact ql|apply qd|exact qk rfl|(apply qt;exact .inr (of_decide_eq_true rfl))|(apply qz;exact .inr (of_decide_eq_true rfl))|(apply qD;exact .inr (of_decide_eq_true rfl))|exact jc (qK fun _=>rfl))))<;>fail) (by ((repeat' (first|exact qG|exact qF|refine qx _ ?_ ?_|refine qw ?_ ?_|exact qq|exact qb (qh _)|exact qb (qL _)|exact qb (qp _)|exact qv (fun _=>rfl)|refine qy ?_|exact ql|apply qd|exact qk rfl|(apply qt;exact .inr (of_decide_eq_true rfl))|(apply qz;exact .inr (of_decide_eq_true rfl))|(apply qD;exact .inr (of_decide_eq_true rfl))|exact jc (qK fun _=>rfl))))<;>fail) ?_
    repeat' (first|refine qn ?_|(first|(refine jL ?_)|(refine yi ?_))|((first|refine qf ?_ ?_|refine qe ?_ ?_|refine xsC ?_ ?_);all_goals (intro hc;have hp:=hc;try simp at hp;try (exfalso;omega)))|refine qX ?_ ?_)
    all_goals try (exfalso;first|omega|contradiction)
    all_goals (refine ⟨P.length - (i + 1),⟨[(0,qa B),(4,.fp [[qa M]] 0 0),(5,.fp [[qa T]] 0 0),(13,.op 0 0 0),(14,.op 3 0 0),(15,.op 2 0 0),(16,.clo (.func 84) [] [.fp [[qa M]] 0 0,.fp [[qa T]] 0 0,.op 0 0 0,.op 2 0 0,.op 3 0 0]),(9,.sl false (P.map qO)),(17,.os 5 0 G.length),(18,.os 6 0 G.length),(19,.v (.int .i64 ((i + 1:Nat):Int)))],[(0,.own false 1 [[.os 1 0 O'.length]]),(1,.own false 4 (O'.map Ent.row)),(2,.own false 1 [[.clo (.func 83) [] [.op 0 0 0]]]),(3,.own false 1 [[.os 4 0 ([]:List Cpy).length]]),(4,.own false 2 (([]:List Cpy).map Cpy.row)),(5,.own false 1 (G.map fun g=>jn g.1)),(6,.own false 1 (G.map fun g=>jn g.2))],7⟩,by omega,?_,i + 1,by omega,rfl,trivial,(by rw [hO',hG'])⟩;refine qB [(0,0),(1,1),(2,2),(3,3),(4,4),(5,5),(6,6)] rfl ?_ ?_;(focus ((repeat (first|exact qg|refine qo ?_|refine xQ ?_|refine xl ?_|refine yu ?_|refine yw ?_ ?_|refine qY ?_ ?_));all_goals (first|(simp;done)|trace_state)));(focus ((repeat' (first|exact qj|refine jx ?_|refine yy ?_ ?_|refine vJ ?_|refine yx ?_ ?_|exact ql|apply qd|exact qk rfl|exact jm rfl|refine jm ?_|exact yA trivial));all_goals (first|exact xz _ _ _|exact xA _ _ _|trace_state))))
  rw [decide_eq_false cB] at hmb
  rw [qgr cA1 cB cA2] at hone
  have tx := @ZJ x gx
  have ty := @ZJ y gy
  obtain ⟨xk,xt⟩:=x
  obtain ⟨yk,yt⟩:=y
  dsimp only at *
  by_cases k1:xk = 1
  ·rw [if_pos k1] at hone
   obtain rfl:=tx k1
   subst k1
   have hput:=putOk ⟨1,[]⟩ (by decide) (by rw [hone])
   dsimp only at hput
   by_cases k2:yk = 2
   ·subst k2
    obtain rfl:G' = G ++ [(p,yt)]:=by rw [hgs,hone];simp
    repeat' (first|refine qn ?_|(first|refine j1 Tryz.func86 (hm1 ..) ?_|refine j1 Tryz.func86 (ht1 ..) ?_|refine jv Tryz.func87 (hmt ..) ?_|refine jv Tryz.func87 (htb ..) ?_|refine jv Tryz.func87 (hmb ..) ?_)|((first|refine qf ?_ ?_|refine qe ?_ ?_|refine xsC ?_ ?_);all_goals (intro hc;have hp:=hc;try simp at hp;try (exfalso;omega)))|refine qX ?_ ?_)
    all_goals try (exfalso;first|omega|contradiction)
    refine xd (C:=CF) (first:=[]) (cap:=[.op 0 0 0]) [0,1] [7] [(0,.own false 1 [[.os 7 0 O'.length]]),(1,.dead),(7,.own false 4 (O'.map Ent.row))] 8 (.tup []) Tryz.func83 (hput) (by ((repeat' (first|exact q9|apply qR|exact q8 rfl|exact jy|(apply qm;apply qD;exact .inr (of_decide_eq_true rfl))|(apply qm;apply qt;exact .inr (of_decide_eq_true rfl))|(apply qm;apply qz;exact .inr (of_decide_eq_true rfl))|apply jd|apply je)))<;>fail) (by ((repeat' (first|exact qG|exact qF|refine qx _ ?_ ?_|refine qw ?_ ?_|exact qq|exact qb (qh _)|exact qb (qL _)|exact qb (qp _)|exact qv (fun _=>rfl)|refine qy ?_|exact ql|apply qd|exact qk rfl|(apply qt;exact .inr (of_decide_eq_true rfl))|(apply qz;exact .inr (of_decide_eq_true rfl))|(apply qD;exact .inr (of_decide_eq_true rfl))|exact jc (qK fun _=>rfl))))<;>fail) (by ((repeat' (first|exact qG|exact qF|refine qx _ ?_ ?_|refine qw ?_ ?_|exact qq|exact qb (qh _)|exact qb (qL _)|exact qb (qp _)|exact qv (fun _=>rfl)|refine qy ?_|exact ql|apply qd|exact qk rfl|(apply qt;exact .inr (of_decide_eq_true rfl))|(apply qz;exact .inr (of_decide_eq_true rfl))|(apply qD;exact .inr (of_decide_eq_true rfl))|exact jc (qK fun _=>rfl))))<;>fail) ?_
    repeat' (first|refine qn ?_|(first|(refine jL ?_)|(refine yi ?_))|((first|refine qf ?_ ?_|refine qe ?_ ?_|refine xsC ?_ ?_);all_goals (intro hc;have hp:=hc;try simp at hp;try (exfalso;omega)))|refine qX ?_ ?_)
    all_goals try (exfalso;first|omega|contradiction)
    all_goals (refine ⟨P.length - (i + 1),⟨[(0,qa B),(4,.fp [[qa M]] 0 0),(5,.fp [[qa T]] 0 0),(13,.op 0 0 0),(14,.op 3 0 0),(15,.op 2 0 0),(16,.clo (.func 84) [] [.fp [[qa M]] 0 0,.fp [[qa T]] 0 0,.op 0 0 0,.op 2 0 0,.op 3 0 0]),(9,.sl false (P.map qO)),(17,.os 5 0 (G ++ [(p,yt)]).length),(18,.os 6 0 (G ++ [(p,yt)]).length),(19,.v (.int .i64 ((i + 1:Nat):Int)))],[(0,.own false 1 [[.os 1 0 O'.length]]),(1,.own false 4 (O'.map Ent.row)),(2,.own false 1 [[.clo (.func 83) [] [.op 0 0 0]]]),(3,.own false 1 [[.os 4 0 ([]:List Cpy).length]]),(4,.own false 2 (([]:List Cpy).map Cpy.row)),(5,.own false 1 ((G ++ [(p,yt)]).map fun g=>jn g.1)),(6,.own false 1 ((G ++ [(p,yt)]).map fun g=>jn g.2))],7⟩,by omega,?_,i + 1,by omega,rfl,trivial,(by rw [hO',hG'])⟩;refine qB [(0,0),(7,1),(2,2),(3,3),(4,4),(8,5),(9,6)] rfl ?_ ?_;(focus ((repeat (first|exact qg|refine qo ?_|refine xQ ?_|refine xl ?_|refine yu ?_|refine yw ?_ ?_|refine qY ?_ ?_));all_goals (first|(simp;done)|trace_state)));(focus ((repeat' (first|exact qj|refine jx ?_|refine yy ?_ ?_|refine vJ ?_|refine yx ?_ ?_|exact ql|apply qd|exact qk rfl|exact jm rfl|refine jm ?_|exact yA trivial));all_goals (first|exact xz _ _ _|exact xA _ _ _|trace_state))))
   ·obtain rfl:G = G':=by rw [hgs,hone];simp [k2]
    repeat' (first|refine qn ?_|(first|refine j1 Tryz.func86 (hm1 ..) ?_|refine j1 Tryz.func86 (ht1 ..) ?_|refine jv Tryz.func87 (hmt ..) ?_|refine jv Tryz.func87 (htb ..) ?_|refine jv Tryz.func87 (hmb ..) ?_)|((first|refine qf ?_ ?_|refine qe ?_ ?_|refine xsC ?_ ?_);all_goals (intro hc;have hp:=hc;try simp at hp;try (exfalso;omega)))|refine qX ?_ ?_)
    all_goals try (exfalso;first|omega|contradiction)
    refine xd (C:=CF) (first:=[]) (cap:=[.op 0 0 0]) [0,1] [7] [(0,.own false 1 [[.os 7 0 O'.length]]),(1,.dead),(7,.own false 4 (O'.map Ent.row))] 8 (.tup []) Tryz.func83 (hput) (by ((repeat' (first|exact q9|apply qR|exact q8 rfl|exact jy|(apply qm;apply qD;exact .inr (of_decide_eq_true rfl))|(apply qm;apply qt;exact .inr (of_decide_eq_true rfl))|(apply qm;apply qz;exact .inr (of_decide_eq_true rfl))|apply jd|apply je)))<;>fail) (by ((repeat' (first|exact qG|exact qF|refine qx _ ?_ ?_|refine qw ?_ ?_|exact qq|exact qb (qh _)|exact qb (qL _)|exact qb (qp _)|exact qv (fun _=>rfl)|refine qy ?_|exact ql|apply qd|exact qk rfl|(apply qt;exact .inr (of_decide_eq_true rfl))|(apply qz;exact .inr (of_decide_eq_true rfl))|(apply qD;exact .inr (of_decide_eq_true rfl))|exact jc (qK fun _=>rfl))))<;>fail) (by ((repeat' (first|exact qG|exact qF|refine qx _ ?_ ?_|refine qw ?_ ?_|exact qq|exact qb (qh _)|exact qb (qL _)|exact qb (qp _)|exact qv (fun _=>rfl)|refine qy ?_|exact ql|apply qd|exact qk rfl|(apply qt;exact .inr (of_decide_eq_true rfl))|(apply qz;exact .inr (of_decide_eq_true rfl))|(apply qD;exact .inr (of_decide_eq_true rfl))|exact jc (qK fun _=>rfl))))<;>fail) ?_
    repeat' (first|refine qn ?_|(first|(refine jL ?_)|(refine yi ?_))|((first|refine qf ?_ ?_|refine qe ?_ ?_|refine xsC ?_ ?_);all_goals (intro hc;have hp:=hc;try simp at hp;try (exfalso;omega)))|refine qX ?_ ?_)
    all_goals try (exfalso;first|omega|contradiction)
    all_goals (refine ⟨P.length - (i + 1),⟨[(0,qa B),(4,.fp [[qa M]] 0 0),(5,.fp [[qa T]] 0 0),(13,.op 0 0 0),(14,.op 3 0 0),(15,.op 2 0 0),(16,.clo (.func 84) [] [.fp [[qa M]] 0 0,.fp [[qa T]] 0 0,.op 0 0 0,.op 2 0 0,.op 3 0 0]),(9,.sl false (P.map qO)),(17,.os 5 0 G.length),(18,.os 6 0 G.length),(19,.v (.int .i64 ((i + 1:Nat):Int)))],[(0,.own false 1 [[.os 1 0 O'.length]]),(1,.own false 4 (O'.map Ent.row)),(2,.own false 1 [[.clo (.func 83) [] [.op 0 0 0]]]),(3,.own false 1 [[.os 4 0 ([]:List Cpy).length]]),(4,.own false 2 (([]:List Cpy).map Cpy.row)),(5,.own false 1 (G.map fun g=>jn g.1)),(6,.own false 1 (G.map fun g=>jn g.2))],7⟩,by omega,?_,i + 1,by omega,rfl,trivial,(by rw [hO',hG'])⟩;refine qB [(0,0),(7,1),(2,2),(3,3),(4,4),(5,5),(6,6)] rfl ?_ ?_;(focus ((repeat (first|exact qg|refine qo ?_|refine xQ ?_|refine xl ?_|refine yu ?_|refine yw ?_ ?_|refine qY ?_ ?_));all_goals (first|(simp;done)|trace_state)));(focus ((repeat' (first|exact qj|refine jx ?_|refine yy ?_ ?_|refine vJ ?_|refine yx ?_ ?_|exact ql|apply qd|exact qk rfl|exact jm rfl|refine jm ?_|exact yA trivial));all_goals (first|exact xz _ _ _|exact xA _ _ _|trace_state))))
  rw [if_neg k1] at hone
  by_cases k2:yk = 1
  ·rw [if_pos k2] at hone
   obtain rfl:=ty k2
   subst k2
   have hput:=putOk ⟨1,[]⟩ (by decide) (by rw [hone])
   dsimp only at hput
   by_cases k3:xk = 2
   ·subst k3
    obtain rfl:G' = G ++ [(p,xt)]:=by rw [hgs,hone];simp
    repeat' (first|refine qn ?_|(first|refine j1 Tryz.func86 (hm1 ..) ?_|refine j1 Tryz.func86 (ht1 ..) ?_|refine jv Tryz.func87 (hmt ..) ?_|refine jv Tryz.func87 (htb ..) ?_|refine jv Tryz.func87 (hmb ..) ?_)|((first|refine qf ?_ ?_|refine qe ?_ ?_|refine xsC ?_ ?_);all_goals (intro hc;have hp:=hc;try simp at hp;try (exfalso;omega)))|refine qX ?_ ?_)
    all_goals try (exfalso;first|omega|contradiction)
    refine xd (C:=CF) (first:=[]) (cap:=[.op 0 0 0]) [0,1] [7] [(0,.own false 1 [[.os 7 0 O'.length]]),(1,.dead),(7,.own false 4 (O'.map Ent.row))] 8 (.tup []) Tryz.func83 (hput) (by ((repeat' (first|exact q9|apply qR|exact q8 rfl|exact jy|(apply qm;apply qD;exact .inr (of_decide_eq_true rfl))|(apply qm;apply qt;exact .inr (of_decide_eq_true rfl))|(apply qm;apply qz;exact .inr (of_decide_eq_true rfl))|apply jd|apply je)))<;>fail) (by ((repeat' (first|exact qG|exact qF|refine qx _ ?_ ?_|refine qw ?_ ?_|exact qq|exact qb (qh _)|exact qb (qL _)|exact qb (qp _)|exact qv (fun _=>rfl)|refine qy ?_|exact ql|apply qd|exact qk rfl|(apply qt;exact .inr (of_decide_eq_true rfl))|(apply qz;exact .inr (of_decide_eq_true rfl))|(apply qD;exact .inr (of_decide_eq_true rfl))|exact jc (qK fun _=>rfl))))<;>fail) (by ((repeat' (first|exact qG|exact qF|refine qx _ ?_ ?_|refine qw ?_ ?_|exact qq|exact qb (qh _)|exact qb (qL _)|exact qb (qp _)|exact qv (fun _=>rfl)|refine qy ?_|exact ql|apply qd|exact qk rfl|(apply qt;exact .inr (of_decide_eq_true rfl))|(apply qz;exact .inr (of_decide_eq_true rfl))|(apply qD;exact .inr (of_decide_eq_true rfl))|exact jc (qK fun _=>rfl))))<;>fail) ?_
    repeat' (first|refine qn ?_|(first|(refine jL ?_)|(refine yi ?_))|((first|refine qf ?_ ?_|refine qe ?_ ?_|refine xsC ?_ ?_);all_goals (intro hc;have hp:=hc;try simp at hp;try (exfalso;omega)))|refine qX ?_ ?_)
    all_goals try (exfalso;first|omega|contradiction)
    all_goals (refine ⟨P.length - (i + 1),⟨[(0,qa B),(4,.fp [[qa M]] 0 0),(5,.fp [[qa T]] 0 0),(13,.op 0 0 0),(14,.op 3 0 0),(15,.op 2 0 0),(16,.clo (.func 84) [] [.fp [[qa M]] 0 0,.fp [[qa T]] 0 0,.op 0 0 0,.op 2 0 0,.op 3 0 0]),(9,.sl false (P.map qO)),(17,.os 5 0 (G ++ [(p,xt)]).length),(18,.os 6 0 (G ++ [(p,xt)]).length),(19,.v (.int .i64 ((i + 1:Nat):Int)))],[(0,.own false 1 [[.os 1 0 O'.length]]),(1,.own false 4 (O'.map Ent.row)),(2,.own false 1 [[.clo (.func 83) [] [.op 0 0 0]]]),(3,.own false 1 [[.os 4 0 ([]:List Cpy).length]]),(4,.own false 2 (([]:List Cpy).map Cpy.row)),(5,.own false 1 ((G ++ [(p,xt)]).map fun g=>jn g.1)),(6,.own false 1 ((G ++ [(p,xt)]).map fun g=>jn g.2))],7⟩,by omega,?_,i + 1,by omega,rfl,trivial,(by rw [hO',hG'])⟩;refine qB [(0,0),(7,1),(2,2),(3,3),(4,4),(8,5),(9,6)] rfl ?_ ?_;(focus ((repeat (first|exact qg|refine qo ?_|refine xQ ?_|refine xl ?_|refine yu ?_|refine yw ?_ ?_|refine qY ?_ ?_));all_goals (first|(simp;done)|trace_state)));(focus ((repeat' (first|exact qj|refine jx ?_|refine yy ?_ ?_|refine vJ ?_|refine yx ?_ ?_|exact ql|apply qd|exact qk rfl|exact jm rfl|refine jm ?_|exact yA trivial));all_goals (first|exact xz _ _ _|exact xA _ _ _|trace_state))))
   ·obtain rfl:G = G':=by rw [hgs,hone];simp [k3]
    repeat' (first|refine qn ?_|(first|refine j1 Tryz.func86 (hm1 ..) ?_|refine j1 Tryz.func86 (ht1 ..) ?_|refine jv Tryz.func87 (hmt ..) ?_|refine jv Tryz.func87 (htb ..) ?_|refine jv Tryz.func87 (hmb ..) ?_)|((first|refine qf ?_ ?_|refine qe ?_ ?_|refine xsC ?_ ?_);all_goals (intro hc;have hp:=hc;try simp at hp;try (exfalso;omega)))|refine qX ?_ ?_)
    all_goals try (exfalso;first|omega|contradiction)
    refine xd (C:=CF) (first:=[]) (cap:=[.op 0 0 0]) [0,1] [7] [(0,.own false 1 [[.os 7 0 O'.length]]),(1,.dead),(7,.own false 4 (O'.map Ent.row))] 8 (.tup []) Tryz.func83 (hput) (by ((repeat' (first|exact q9|apply qR|exact q8 rfl|exact jy|(apply qm;apply qD;exact .inr (of_decide_eq_true rfl))|(apply qm;apply qt;exact .inr (of_decide_eq_true rfl))|(apply qm;apply qz;exact .inr (of_decide_eq_true rfl))|apply jd|apply je)))<;>fail) (by ((repeat' (first|exact qG|exact qF|refine qx _ ?_ ?_|refine qw ?_ ?_|exact qq|exact qb (qh _)|exact qb (qL _)|exact qb (qp _)|exact qv (fun _=>rfl)|refine qy ?_|exact ql|apply qd|exact qk rfl|(apply qt;exact .inr (of_decide_eq_true rfl))|(apply qz;exact .inr (of_decide_eq_true rfl))|(apply qD;exact .inr (of_decide_eq_true rfl))|exact jc (qK fun _=>rfl))))<;>fail) (by ((repeat' (first|exact qG|exact qF|refine qx _ ?_ ?_|refine qw ?_ ?_|exact qq|exact qb (qh _)|exact qb (qL _)|exact qb (qp _)|exact qv (fun _=>rfl)|refine qy ?_|exact ql|apply qd|exact qk rfl|(apply qt;exact .inr (of_decide_eq_true rfl))|(apply qz;exact .inr (of_decide_eq_true rfl))|(apply qD;exact .inr (of_decide_eq_true rfl))|exact jc (qK fun _=>rfl))))<;>fail) ?_
    repeat' (first|refine qn ?_|(first|(refine jL ?_)|(refine yi ?_))|((first|refine qf ?_ ?_|refine qe ?_ ?_|refine xsC ?_ ?_);all_goals (intro hc;have hp:=hc;try simp at hp;try (exfalso;omega)))|refine qX ?_ ?_)
    all_goals try (exfalso;first|omega|contradiction)
    all_goals (refine ⟨P.length - (i + 1),⟨[(0,qa B),(4,.fp [[qa M]] 0 0),(5,.fp [[qa T]] 0 0),(13,.op 0 0 0),(14,.op 3 0 0),(15,.op 2 0 0),(16,.clo (.func 84) [] [.fp [[qa M]] 0 0,.fp [[qa T]] 0 0,.op 0 0 0,.op 2 0 0,.op 3 0 0]),(9,.sl false (P.map qO)),(17,.os 5 0 G.length),(18,.os 6 0 G.length),(19,.v (.int .i64 ((i + 1:Nat):Int)))],[(0,.own false 1 [[.os 1 0 O'.length]]),(1,.own false 4 (O'.map Ent.row)),(2,.own false 1 [[.clo (.func 83) [] [.op 0 0 0]]]),(3,.own false 1 [[.os 4 0 ([]:List Cpy).length]]),(4,.own false 2 (([]:List Cpy).map Cpy.row)),(5,.own false 1 (G.map fun g=>jn g.1)),(6,.own false 1 (G.map fun g=>jn g.2))],7⟩,by omega,?_,i + 1,by omega,rfl,trivial,(by rw [hO',hG'])⟩;refine qB [(0,0),(7,1),(2,2),(3,3),(4,4),(5,5),(6,6)] rfl ?_ ?_;(focus ((repeat (first|exact qg|refine qo ?_|refine xQ ?_|refine xl ?_|refine yu ?_|refine yw ?_ ?_|refine qY ?_ ?_));all_goals (first|(simp;done)|trace_state)));(focus ((repeat' (first|exact qj|refine jx ?_|refine yy ?_ ?_|refine vJ ?_|refine yx ?_ ?_|exact ql|apply qd|exact qk rfl|exact jm rfl|refine jm ?_|exact yA trivial));all_goals (first|exact xz _ _ _|exact xA _ _ _|trace_state))))
  rw [if_neg k2] at hone
  by_cases k3:xk = 2
  ·subst k3
   by_cases k4:yk = 2
   ·subst k4
    rw [if_pos ⟨rfl,rfl⟩] at hone
    have hput:=putOk ⟨2,yt⟩ (show (0:Int) < 2 by decide) (by rw [hone])
    dsimp only at hput
    obtain rfl:G' = G ++ [(p,xt)]:=by rw [hgs,hone];simp
    repeat' (first|refine qn ?_|(first|refine j1 Tryz.func86 (hm1 ..) ?_|refine j1 Tryz.func86 (ht1 ..) ?_|refine jv Tryz.func87 (hmt ..) ?_|refine jv Tryz.func87 (htb ..) ?_|refine jv Tryz.func87 (hmb ..) ?_)|((first|refine qf ?_ ?_|refine qe ?_ ?_|refine xsC ?_ ?_);all_goals (intro hc;have hp:=hc;try simp at hp;try (exfalso;omega)))|refine qX ?_ ?_)
    all_goals try (exfalso;first|omega|contradiction)
    refine xd (C:=CF) (first:=[]) (cap:=[.op 0 0 0]) [0,1] [7] [(0,.own false 1 [[.os 7 0 O'.length]]),(1,.dead),(7,.own false 4 (O'.map Ent.row))] 8 (.tup []) Tryz.func83 (hput) (by ((repeat' (first|exact q9|apply qR|exact q8 rfl|exact jy|(apply qm;apply qD;exact .inr (of_decide_eq_true rfl))|(apply qm;apply qt;exact .inr (of_decide_eq_true rfl))|(apply qm;apply qz;exact .inr (of_decide_eq_true rfl))|apply jd|apply je)))<;>fail) (by ((repeat' (first|exact qG|exact qF|refine qx _ ?_ ?_|refine qw ?_ ?_|exact qq|exact qb (qh _)|exact qb (qL _)|exact qb (qp _)|exact qv (fun _=>rfl)|refine qy ?_|exact ql|apply qd|exact qk rfl|(apply qt;exact .inr (of_decide_eq_true rfl))|(apply qz;exact .inr (of_decide_eq_true rfl))|(apply qD;exact .inr (of_decide_eq_true rfl))|exact jc (qK fun _=>rfl))))<;>fail) (by ((repeat' (first|exact qG|exact qF|refine qx _ ?_ ?_|refine qw ?_ ?_|exact qq|exact qb (qh _)|exact qb (qL _)|exact qb (qp _)|exact qv (fun _=>rfl)|refine qy ?_|exact ql|apply qd|exact qk rfl|(apply qt;exact .inr (of_decide_eq_true rfl))|(apply qz;exact .inr (of_decide_eq_true rfl))|(apply qD;exact .inr (of_decide_eq_true rfl))|exact jc (qK fun _=>rfl))))<;>fail) ?_
    repeat' (first|refine qn ?_|(first|(refine jL ?_)|(refine yi ?_))|((first|refine qf ?_ ?_|refine qe ?_ ?_|refine xsC ?_ ?_);all_goals (intro hc;have hp:=hc;try simp at hp;try (exfalso;omega)))|refine qX ?_ ?_)
    all_goals try (exfalso;first|omega|contradiction)
    all_goals (refine ⟨P.length - (i + 1),⟨[(0,qa B),(4,.fp [[qa M]] 0 0),(5,.fp [[qa T]] 0 0),(13,.op 0 0 0),(14,.op 3 0 0),(15,.op 2 0 0),(16,.clo (.func 84) [] [.fp [[qa M]] 0 0,.fp [[qa T]] 0 0,.op 0 0 0,.op 2 0 0,.op 3 0 0]),(9,.sl false (P.map qO)),(17,.os 5 0 (G ++ [(p,xt)]).length),(18,.os 6 0 (G ++ [(p,xt)]).length),(19,.v (.int .i64 ((i + 1:Nat):Int)))],[(0,.own false 1 [[.os 1 0 O'.length]]),(1,.own false 4 (O'.map Ent.row)),(2,.own false 1 [[.clo (.func 83) [] [.op 0 0 0]]]),(3,.own false 1 [[.os 4 0 ([]:List Cpy).length]]),(4,.own false 2 (([]:List Cpy).map Cpy.row)),(5,.own false 1 ((G ++ [(p,xt)]).map fun g=>jn g.1)),(6,.own false 1 ((G ++ [(p,xt)]).map fun g=>jn g.2))],7⟩,by omega,?_,i + 1,by omega,rfl,trivial,(by rw [hO',hG'])⟩;refine qB [(0,0),(7,1),(2,2),(3,3),(4,4),(8,5),(9,6)] rfl ?_ ?_;(focus ((repeat (first|exact qg|refine qo ?_|refine xQ ?_|refine xl ?_|refine yu ?_|refine yw ?_ ?_|refine qY ?_ ?_));all_goals (first|(simp;done)|trace_state)));(focus ((repeat' (first|exact qj|refine jx ?_|refine yy ?_ ?_|refine vJ ?_|refine yx ?_ ?_|exact ql|apply qd|exact qk rfl|exact jm rfl|refine jm ?_|exact yA trivial));all_goals (first|exact xz _ _ _|exact xA _ _ _|trace_state))))
   ·rw [if_neg (fun h=>k4 h.2),if_pos rfl] at hone
    have hput:=putOk ⟨2,xt⟩ (show (0:Int) < 2 by decide) (by rw [hone])
    dsimp only at hput
    obtain rfl:G = G':=by rw [hgs,hone];simp [noT]
    repeat' (first|refine qn ?_|(first|refine j1 Tryz.func86 (hm1 ..) ?_|refine j1 Tryz.func86 (ht1 ..) ?_|refine jv Tryz.func87 (hmt ..) ?_|refine jv Tryz.func87 (htb ..) ?_|refine jv Tryz.func87 (hmb ..) ?_)|((first|refine qf ?_ ?_|refine qe ?_ ?_|refine xsC ?_ ?_);all_goals (intro hc;have hp:=hc;try simp at hp;try (exfalso;omega)))|refine qX ?_ ?_)
    all_goals try (exfalso;first|omega|contradiction)
    refine xd (C:=CF) (first:=[]) (cap:=[.op 0 0 0]) [0,1] [7] [(0,.own false 1 [[.os 7 0 O'.length]]),(1,.dead),(7,.own false 4 (O'.map Ent.row))] 8 (.tup []) Tryz.func83 (hput) (by ((repeat' (first|exact q9|apply qR|exact q8 rfl|exact jy|(apply qm;apply qD;exact .inr (of_decide_eq_true rfl))|(apply qm;apply qt;exact .inr (of_decide_eq_true rfl))|(apply qm;apply qz;exact .inr (of_decide_eq_true rfl))|apply jd|apply je)))<;>fail) (by ((repeat' (first|exact qG|exact qF|refine qx _ ?_ ?_|refine qw ?_ ?_|exact qq|exact qb (qh _)|exact qb (qL _)|exact qb (qp _)|exact qv (fun _=>rfl)|refine qy ?_|exact ql|apply qd|exact qk rfl|(apply qt;exact .inr (of_decide_eq_true rfl))|(apply qz;exact .inr (of_decide_eq_true rfl))|(apply qD;exact .inr (of_decide_eq_true rfl))|exact jc (qK fun _=>rfl))))<;>fail) (by ((repeat' (first|exact qG|exact qF|refine qx _ ?_ ?_|refine qw ?_ ?_|exact qq|exact qb (qh _)|exact qb (qL _)|exact qb (qp _)|exact qv (fun _=>rfl)|refine qy ?_|exact ql|apply qd|exact qk rfl|(apply qt;exact .inr (of_decide_eq_true rfl))|(apply qz;exact .inr (of_decide_eq_true rfl))|(apply qD;exact .inr (of_decide_eq_true rfl))|exact jc (qK fun _=>rfl))))<;>fail) ?_
    repeat' (first|refine qn ?_|(first|(refine jL ?_)|(refine yi ?_))|((first|refine qf ?_ ?_|refine qe ?_ ?_|refine xsC ?_ ?_);all_goals (intro hc;have hp:=hc;try simp at hp;try (exfalso;omega)))|refine qX ?_ ?_)
    all_goals try (exfalso;first|omega|contradiction)
    all_goals (refine ⟨P.length - (i + 1),⟨[(0,qa B),(4,.fp [[qa M]] 0 0),(5,.fp [[qa T]] 0 0),(13,.op 0 0 0),(14,.op 3 0 0),(15,.op 2 0 0),(16,.clo (.func 84) [] [.fp [[qa M]] 0 0,.fp [[qa T]] 0 0,.op 0 0 0,.op 2 0 0,.op 3 0 0]),(9,.sl false (P.map qO)),(17,.os 5 0 G.length),(18,.os 6 0 G.length),(19,.v (.int .i64 ((i + 1:Nat):Int)))],[(0,.own false 1 [[.os 1 0 O'.length]]),(1,.own false 4 (O'.map Ent.row)),(2,.own false 1 [[.clo (.func 83) [] [.op 0 0 0]]]),(3,.own false 1 [[.os 4 0 ([]:List Cpy).length]]),(4,.own false 2 (([]:List Cpy).map Cpy.row)),(5,.own false 1 (G.map fun g=>jn g.1)),(6,.own false 1 (G.map fun g=>jn g.2))],7⟩,by omega,?_,i + 1,by omega,rfl,trivial,(by rw [hO',hG'])⟩;refine qB [(0,0),(7,1),(2,2),(3,3),(4,4),(5,5),(6,6)] rfl ?_ ?_;(focus ((repeat (first|exact qg|refine qo ?_|refine xQ ?_|refine xl ?_|refine yu ?_|refine yw ?_ ?_|refine qY ?_ ?_));all_goals (first|(simp;done)|trace_state)));(focus ((repeat' (first|exact qj|refine jx ?_|refine yy ?_ ?_|refine vJ ?_|refine yx ?_ ?_|exact ql|apply qd|exact qk rfl|exact jm rfl|refine jm ?_|exact yA trivial));all_goals (first|exact xz _ _ _|exact xA _ _ _|trace_state))))
  ·rw [if_neg (fun h=>k3 h.1),if_neg k3] at hone
   obtain rfl:G = G':=by rw [hgs,hone];simp [noT]
   by_cases k0:0 < yk
   ·have hput:=putOk ⟨yk,yt⟩ k0 (by rw [hone])
    dsimp only at hput
    repeat' (first|refine qn ?_|(first|refine j1 Tryz.func86 (hm1 ..) ?_|refine j1 Tryz.func86 (ht1 ..) ?_|refine jv Tryz.func87 (hmt ..) ?_|refine jv Tryz.func87 (htb ..) ?_|refine jv Tryz.func87 (hmb ..) ?_)|((first|refine qf ?_ ?_|refine qe ?_ ?_|refine xsC ?_ ?_);all_goals (intro hc;have hp:=hc;try simp at hp;try (exfalso;omega)))|refine qX ?_ ?_)
    all_goals try (exfalso;first|omega|contradiction)
    refine xd (C:=CF) (first:=[]) (cap:=[.op 0 0 0]) [0,1] [7] [(0,.own false 1 [[.os 7 0 O'.length]]),(1,.dead),(7,.own false 4 (O'.map Ent.row))] 8 (.tup []) Tryz.func83 (hput) (by ((repeat' (first|exact q9|apply qR|exact q8 rfl|exact jy|(apply qm;apply qD;exact .inr (of_decide_eq_true rfl))|(apply qm;apply qt;exact .inr (of_decide_eq_true rfl))|(apply qm;apply qz;exact .inr (of_decide_eq_true rfl))|apply jd|apply je)))<;>fail) (by ((repeat' (first|exact qG|exact qF|refine qx _ ?_ ?_|refine qw ?_ ?_|exact qq|exact qb (qh _)|exact qb (qL _)|exact qb (qp _)|exact qv (fun _=>rfl)|refine qy ?_|exact ql|apply qd|exact qk rfl|(apply qt;exact .inr (of_decide_eq_true rfl))|(apply qz;exact .inr (of_decide_eq_true rfl))|(apply qD;exact .inr (of_decide_eq_true rfl))|exact jc (qK fun _=>rfl))))<;>fail) (by ((repeat' (first|exact qG|exact qF|refine qx _ ?_ ?_|refine qw ?_ ?_|exact qq|exact qb (qh _)|exact qb (qL _)|exact qb (qp _)|exact qv (fun _=>rfl)|refine qy ?_|exact ql|apply qd|exact qk rfl|(apply qt;exact .inr (of_decide_eq_true rfl))|(apply qz;exact .inr (of_decide_eq_true rfl))|(apply qD;exact .inr (of_decide_eq_true rfl))|exact jc (qK fun _=>rfl))))<;>fail) ?_
    repeat' (first|refine qn ?_|(first|(refine jL ?_)|(refine yi ?_))|((first|refine qf ?_ ?_|refine qe ?_ ?_|refine xsC ?_ ?_);all_goals (intro hc;have hp:=hc;try simp at hp;try (exfalso;omega)))|refine qX ?_ ?_)
    all_goals try (exfalso;first|omega|contradiction)
    all_goals (refine ⟨P.length - (i + 1),⟨[(0,qa B),(4,.fp [[qa M]] 0 0),(5,.fp [[qa T]] 0 0),(13,.op 0 0 0),(14,.op 3 0 0),(15,.op 2 0 0),(16,.clo (.func 84) [] [.fp [[qa M]] 0 0,.fp [[qa T]] 0 0,.op 0 0 0,.op 2 0 0,.op 3 0 0]),(9,.sl false (P.map qO)),(17,.os 5 0 G.length),(18,.os 6 0 G.length),(19,.v (.int .i64 ((i + 1:Nat):Int)))],[(0,.own false 1 [[.os 1 0 O'.length]]),(1,.own false 4 (O'.map Ent.row)),(2,.own false 1 [[.clo (.func 83) [] [.op 0 0 0]]]),(3,.own false 1 [[.os 4 0 ([]:List Cpy).length]]),(4,.own false 2 (([]:List Cpy).map Cpy.row)),(5,.own false 1 (G.map fun g=>jn g.1)),(6,.own false 1 (G.map fun g=>jn g.2))],7⟩,by omega,?_,i + 1,by omega,rfl,trivial,(by rw [hO',hG'])⟩;refine qB [(0,0),(7,1),(2,2),(3,3),(4,4),(5,5),(6,6)] rfl ?_ ?_;(focus ((repeat (first|exact qg|refine qo ?_|refine xQ ?_|refine xl ?_|refine yu ?_|refine yw ?_ ?_|refine qY ?_ ?_));all_goals (first|(simp;done)|trace_state)));(focus ((repeat' (first|exact qj|refine jx ?_|refine yy ?_ ?_|refine vJ ?_|refine yx ?_ ?_|exact ql|apply qd|exact qk rfl|exact jm rfl|refine jm ?_|exact yA trivial));all_goals (first|exact xz _ _ _|exact xA _ _ _|trace_state))))
   ·obtain ⟨e0,hput⟩:=putNo ⟨yk,yt⟩ k0 gy (by rw [hone])
    subst e0
    dsimp only at hput
    repeat' (first|refine qn ?_|(first|refine j1 Tryz.func86 (hm1 ..) ?_|refine j1 Tryz.func86 (ht1 ..) ?_|refine jv Tryz.func87 (hmt ..) ?_|refine jv Tryz.func87 (htb ..) ?_|refine jv Tryz.func87 (hmb ..) ?_)|((first|refine qf ?_ ?_|refine qe ?_ ?_|refine xsC ?_ ?_);all_goals (intro hc;have hp:=hc;try simp at hp;try (exfalso;omega)))|refine qX ?_ ?_)
    all_goals try (exfalso;first|omega|contradiction)
    refine xd (C:=CF) (first:=[]) (cap:=[.op 0 0 0]) [0,1] [] [(0,.own false 1 [[.os 1 0 O'.length]]),(1,.own false 4 (O'.map Ent.row))] 7 (.tup []) Tryz.func83 (hput) (by ((repeat' (first|exact q9|apply qR|exact q8 rfl|exact jy|(apply qm;apply qD;exact .inr (of_decide_eq_true rfl))|(apply qm;apply qt;exact .inr (of_decide_eq_true rfl))|(apply qm;apply qz;exact .inr (of_decide_eq_true rfl))|apply jd|apply je)))<;>fail) (by ((repeat' (first|exact qG|exact qF|refine qx _ ?_ ?_|refine qw ?_ ?_|exact qq|exact qb (qh _)|exact qb (qL _)|exact qb (qp _)|exact qv (fun _=>rfl)|refine qy ?_|exact ql|apply qd|exact qk rfl|(apply qt;exact .inr (of_decide_eq_true rfl))|(apply qz;exact .inr (of_decide_eq_true rfl))|(apply qD;exact .inr (of_decide_eq_true rfl))|exact jc (qK fun _=>rfl))))<;>fail) (by ((repeat' (first|exact qG|exact qF|refine qx _ ?_ ?_|refine qw ?_ ?_|exact qq|exact qb (qh _)|exact qb (qL _)|exact qb (qp _)|exact qv (fun _=>rfl)|refine qy ?_|exact ql|apply qd|exact qk rfl|(apply qt;exact .inr (of_decide_eq_true rfl))|(apply qz;exact .inr (of_decide_eq_true rfl))|(apply qD;exact .inr (of_decide_eq_true rfl))|exact jc (qK fun _=>rfl))))<;>fail) ?_
    repeat' (first|refine qn ?_|(first|(refine jL ?_)|(refine yi ?_))|((first|refine qf ?_ ?_|refine qe ?_ ?_|refine xsC ?_ ?_);all_goals (intro hc;have hp:=hc;try simp at hp;try (exfalso;omega)))|refine qX ?_ ?_)
    all_goals try (exfalso;first|omega|contradiction)
    all_goals (refine ⟨P.length - (i + 1),⟨[(0,qa B),(4,.fp [[qa M]] 0 0),(5,.fp [[qa T]] 0 0),(13,.op 0 0 0),(14,.op 3 0 0),(15,.op 2 0 0),(16,.clo (.func 84) [] [.fp [[qa M]] 0 0,.fp [[qa T]] 0 0,.op 0 0 0,.op 2 0 0,.op 3 0 0]),(9,.sl false (P.map qO)),(17,.os 5 0 G.length),(18,.os 6 0 G.length),(19,.v (.int .i64 ((i + 1:Nat):Int)))],[(0,.own false 1 [[.os 1 0 O'.length]]),(1,.own false 4 (O'.map Ent.row)),(2,.own false 1 [[.clo (.func 83) [] [.op 0 0 0]]]),(3,.own false 1 [[.os 4 0 ([]:List Cpy).length]]),(4,.own false 2 (([]:List Cpy).map Cpy.row)),(5,.own false 1 (G.map fun g=>jn g.1)),(6,.own false 1 (G.map fun g=>jn g.2))],7⟩,by omega,?_,i + 1,by omega,rfl,trivial,(by rw [hO',hG'])⟩;refine qB [(0,0),(1,1),(2,2),(3,3),(4,4),(5,5),(6,6)] rfl ?_ ?_;(focus ((repeat (first|exact qg|refine qo ?_|refine xQ ?_|refine xl ?_|refine yu ?_|refine yw ?_ ?_|refine qY ?_ ?_));all_goals (first|(simp;done)|trace_state)));(focus ((repeat' (first|exact qj|refine jx ?_|refine yy ?_ ?_|refine vJ ?_|refine yx ?_ ?_|exact ql|apply qd|exact qk rfl|exact jm rfl|refine jm ?_|exact yA trivial));all_goals (first|exact xz _ _ _|exact xA _ _ _|trace_state))))
 obtain rfl:i = P.length:=by omega
 rw [List.take_length]
 have lG:=YC B M T P
 have gG : ∀ g,g ∈ yK B M T P → qH g.1 = 0 ∧ g.2.length ≤ 300:=by rw [← hP];exact Qq hB hM hT
 have iO:MInv (xK B M T P):=by rw [← hP];exact Vl hB hM hT
 have v0:V1 (xK B M T P):=qbZ B M T P [] rfl (fun e he=>by cases he)
 have lO:(xK B M T P).length ≤ 180:=by have:=YP B M T P [];simp at this;show (P.foldl _ []).length ≤ 180;omega
 have hms:(match Vd M T (yK B M T P) ⟨xK B M T P,[]⟩ with|none=>none|some s=>kn M T ((s.out.map Ent.path).flatMap jE) s) = vG B M T:=by rw [← hP];rfl
 repeat' (first|(refine Awp.red (qB (τ:=⟨[(4,.fp [[qa M]] 0 0),(5,.fp [[qa T]] 0 0),(13,.op 0 0 0),(14,.op 3 0 0),(15,.op 2 0 0),(16,.clo (.func 84) [] [.fp [[qa M]] 0 0,.fp [[qa T]] 0 0,.op 0 0 0,.op 2 0 0,.op 3 0 0]),(17,.os 5 0 (yK B M T P).length),(18,.os 6 0 (yK B M T P).length)],[(0,.own false 1 [[.os 1 0 (xK B M T P).length]]),(1,.own false 4 ((xK B M T P).map Ent.row)),(2,.own false 1 [[.clo (.func 83) [] [.op 0 0 0]]]),(3,.own false 1 [[.os 4 0 ([]:List Cpy).length]]),(4,.own false 2 (([]:List Cpy).map Cpy.row)),(5,.own false 1 ((yK B M T P).map fun g=>jn g.1)),(6,.own false 1 ((yK B M T P).map fun g=>jn g.2))],7⟩) [(0,0),(1,1),(2,2),(3,3),(4,4),(5,5),(6,6)] rfl ?_ ?_) ?_;rotate_left 2;exact qfm M T (yK B M T P) (xK B M T P) (vG B M T) iO v0 lO (by omega) lM lT gG hms;(focus ((repeat (first|exact qg|refine qo ?_|refine xQ ?_|refine xl ?_|refine yu ?_|refine yw ?_ ?_|refine qY ?_ ?_));all_goals trace_state));(focus ((repeat' (first|exact qj|refine jx ?_|refine yy ?_ ?_|refine vJ ?_|refine yx ?_ ?_|exact ql|apply qd|exact qk rfl|exact jm rfl|refine jm ?_|exact yA trivial));all_goals trace_state)))|refine Zk ?_|((first|refine qf ?_ ?_|refine qe ?_ ?_|refine xsC ?_ ?_);all_goals (intro hc;have hp:=hc;try simp at hp;try (exfalso;omega)))|refine qX ?_ ?_)
end Go.Proofs.YtamejbkifpjhiaaGreatDoor
set_option linter.unusedSimpArgs false
set_option linter.unnecessarySimpa false
set_option linter.unusedVariables false
set_option maxHeartbeats 1000000
namespace Go.Proofs.YtamejbkifpjhiaaGreatDoor
open Go.Ab Go.RowKit
set_option maxRecDepth 10000
attribute [local irreducible] Awp yH jH jw Red ja Go.Ab.Fin qZ Rz vn jr jp ResOk j3 jC yC jA
def kI (B M T:List Ent):Nat → List Ent
 | 0=>B
 | 1=>M
 | 2=>T
 | _ => []
def Jq (B M T:List Ent):Nat → List Ent
 | 0 => []
 | 1=>B
 | 2=>B ++ M
 | _=>B ++ (M ++ T)
theorem qbt (B M T:List Ent) {k:Nat} (h:k < 3):Jq B M T k ++ kI B M T k = Jq B M T (k + 1):=by
 match k,h with
 | 0,_=>rfl
 | 1,_=>rfl
 | 2,_=>simp [Jq,kI]
def zS (B M T:List Ent) (k i:Nat):List qP:=((Jq B M T k ++ (kI B M T k).take i).map Ent.path).foldl zE []
theorem qcU (B M T:List Ent):zS B M T 3 0 = ze B M T:=by
 unfold zS ze;simp [Jq]
theorem qa9 (B M T:List Ent) {k:Nat} (h:k < 3):zS B M T k (kI B M T k).length = zS B M T (k + 1) 0:=by
 unfold zS
 rw [List.take_length,qbt B M T h,List.take_zero,List.append_nil]
theorem qba {B M T:List Ent} {k i:Nat} (h:i < (kI B M T k).length):zS B M T k (i + 1) = zE (zS B M T k i) (kI B M T k)[i].path:=by
 unfold zS
 rw [List.take_succ_eq_append_getElem h, ← List.append_assoc,List.map_append,List.foldl_append]
 rfl
theorem qcV {B M T:List Ent} (hB:B.length ≤ 60) (hM:M.length ≤ 60) (hT:T.length ≤ 60) (k i:Nat):(zS B M T k i).length ≤ 240:=by
 unfold zS
 have h:=W6 ((Jq B M T k ++ (kI B M T k).take i).map Ent.path) []
 have h1:(Jq B M T k).length ≤ 180:=by
  match k with
  | 0=>simp [Jq]
  | 1=>simp [Jq];omega
  | 2=>simp [Jq];omega
  | k + 3=>simp [Jq];omega
 have h2:((kI B M T k).take i).length ≤ 60:=by
  rw [List.length_take]
  match k with
  | 0=>simp [kI];omega
  | 1=>simp [kI];omega
  | 2=>simp [kI];omega
  | k + 3=>simp [kI]
 simp at h h1 h2 ⊢
 omega
theorem qda (B M T:List Ent) {k:Nat} (h:k < 3):([[qa B],[qa M],[qa T]]:List (List AV))[k]? = some [qa (kI B M T k)]:=by
 match k,h with
 | 0,_=>rfl
 | 1,_=>rfl
 | 2,_=>rfl
theorem qc9 {B M T:List Ent} (hB:B.length ≤ 60) (hM:M.length ≤ 60) (hT:T.length ≤ 60) (k:Nat):(kI B M T k).length ≤ 60:=by
 match k with
 | 0=>exact hB
 | 1=>exact hM
 | 2=>exact hT
 | k + 3=>exact Nat.zero_le _
set_option maxHeartbeats 32000000 in
theorem qcb (B M T:List Ent) (hB:Right B) (hM:Right M) (hT:Right T):xH C.P 35 [qa B,qa M,qa T] (Qz (zh B M T)):=by
 rw [qaW]
 have lB:=hB.len
 have lM:=hM.len
 have lT:=hT.len
 have lP:=qcV lB lM lT
 have l3:=qc9 lB lM lT
 have lA:(ze B M T).length ≤ 180:=by have:=qbD B M T;omega
 refine qc (C:=CF) Tryz.func35 rfl _ Tryz.ntmps35 (Nat.le_of_ble_eq_true rfl) _ Tryz.results35 0 rfl rfl ?_
 (repeat apply Yk);refine y1 ?_;(repeat' (first|apply Jb|refine qg6 ?_|refine qgT ?_|refine qg4 ?_|refine qgZ ?_|refine qgU ?_|refine qg9 ?_|refine qg5 ?_|refine qg2 ?_|refine qg3 ?_|refine qg8 ?_|refine qgY ?_|refine qg0 ?_|refine qg1 ?_|refine qg7 ?_|refine qgV ?_|refine qgS ?_|refine qgW ?_|refine qfZ ?_|(first|fail)|refine qf0 ?_|refine qd4 ?_|refine qd3 ?_|refine qbN ?_|refine qbM ?_|refine qfV ?_|refine qfW ?_|refine qd2 ?_|refine qd1 ?_|((first|refine qf ?_ ?_|refine qe ?_ ?_);all_goals (intro hc;have hp:=hc;try simp at hp;try (exfalso;omega)))));show Awp _ _ _ _ _
 refine xsZ 4 0 ?_
 refine xsZ 5 1 ?_
 repeat' (first|refine qn ?_|(first|(refine jL ?_))|((first|refine qf ?_ ?_|refine qe ?_ ?_|refine xsC ?_ ?_);all_goals (intro hc;have hp:=hc;try simp at hp;try (exfalso;omega)))|refine qX ?_ ?_)
 all_goals try (exfalso;omega)
 refine Awp.red (qB (τ:=⟨[(0,qa B),(4,.fp [[qa M]] 0 0),(5,.fp [[qa T]] 0 0),(9,.sl false ((zS B M T 0 0).map qO)),(10,.sl true [[qa B],[qa M],[qa T]]),(11,.v (.int .i64 ((0:Nat):Int)))],[],0⟩) [] rfl ?gts2 ?ghs2) ?_
 case ghs2=>exact qj
 case gts2=>(repeat (first|exact qg|refine qo ?_|exact qha (by assumption)|refine qha ?_))
 refine qV (fun n σ => ∃ k:Nat,k ≤ 3 ∧ n = 3 - k ∧ True ∧ σ = ⟨[(0,qa B),(4,.fp [[qa M]] 0 0),(5,.fp [[qa T]] 0 0),(9,.sl false ((zS B M T k 0).map qO)),(10,.sl true [[qa B],[qa M],[qa T]]),(11,.v (.int .i64 (k:Int)))],[],0⟩) 3 ⟨0,by omega,rfl,trivial,rfl⟩ ?_
 rintro n σ ⟨k,hk,rfl, -,rfl⟩
 by_cases hk3:k < 3
 ·have hrow:=qda B M T hk3
  have hl3:=l3 k
  have hnx:=qa9 B M T hk3
  have hss : ∀ i (h:i < (kI B M T k).length),zS B M T k (i + 1) = zE (zS B M T k i) (kI B M T k)[i].path:=fun i h=>qba h
  have hll:=lP k
  generalize kI B M T k = L at *
  repeat' (first|refine qn ?_|fail|((first|refine qf ?_ ?_|refine qe ?_ ?_|refine xsC ?_ ?_);all_goals (intro hc;have hp:=hc;try simp at hp;try (exfalso;omega)))|refine qX ?_ ?_)
  all_goals try (exfalso;omega)
  (refine Awp.red (qI (ts:=[(0,qa B),(4,.fp [[qa M]] 0 0),(5,.fp [[qa T]] 0 0),(9,.sl false ((zS B M T k 0).map qO)),(10,.sl true [[qa B],[qa M],[qa T]]),(11,.v (.int .i64 (k:Int))),(12,.v (.int .i64 ((0:Nat):Int)))]) ?_) ?_;((repeat (first|exact qg|refine qo ?_|refine qY ?_ ?_))))
  refine qV (fun n σ => ∃ i:Nat,i ≤ L.length ∧ n = L.length - i ∧ (True) ∧ σ = ⟨[(0,qa B),(4,.fp [[qa M]] 0 0),(5,.fp [[qa T]] 0 0),(9,.sl false ((zS B M T k i).map qO)),(10,.sl true [[qa B],[qa M],[qa T]]),(11,.v (.int .i64 (k:Int))),(12,.v (.int .i64 (i:Int)))],[],C.nh⟩) L.length ⟨0,Nat.zero_le _,rfl,trivial,rfl⟩ ?_
  rintro n σ ⟨i,hi,rfl, -,rfl⟩
  by_cases hlt:i < L.length
  ·have hr:=jB (f:=Ent.row) hlt
   have hput:=qce (zS B M T k i) L[i].path (by have:=hll i;omega)
   rw [← hss i hlt] at hput
   unfold Ya at hput
   generalize L[i] = e at *
   obtain ⟨ep,ef,et,ev⟩:=e
   dsimp only at hput
   generalize zS B M T k i = Q1 at *
   generalize hQ2:zS B M T k (i + 1) = Q2 at *
   repeat' (first|refine qn ?_|(first|refine j1 Tryz.func82 (hput ..) ?_)|((first|refine qf ?_ ?_|refine qe ?_ ?_|refine xsC ?_ ?_);all_goals (intro hc;have hp:=hc;try simp at hp;try (exfalso;omega)))|refine qX ?_ ?_)
   all_goals try (exfalso;first|omega|contradiction)
   refine ⟨L.length - (i + 1),⟨[(0,qa B),(4,.fp [[qa M]] 0 0),(5,.fp [[qa T]] 0 0),(9,.sl false (Q2.map qO)),(10,.sl true [[qa B],[qa M],[qa T]]),(11,.v (.int .i64 (k:Int))),(12,.v (.int .i64 ((i + 1:Nat):Int)))],[],0⟩,by omega,qI ?_,i + 1,by omega,rfl,trivial,(by subst hQ2;rfl)⟩
   (repeat (first|exact qg|refine qo ?_|refine qY ?_ ?_))
  obtain rfl:i = L.length:=by omega
  rw [hnx]
  repeat' (first|refine qn ?_|fail|((first|refine qf ?_ ?_|refine qe ?_ ?_|refine xsC ?_ ?_);all_goals (intro hc;have hp:=hc;try simp at hp;try (exfalso;omega)))|refine qX ?_ ?_)
  all_goals try (exfalso;first|omega|contradiction)
  refine ⟨3 - (k + 1),⟨[(0,qa B),(4,.fp [[qa M]] 0 0),(5,.fp [[qa T]] 0 0),(9,.sl false ((zS B M T (k + 1) 0).map qO)),(10,.sl true [[qa B],[qa M],[qa T]]),(11,.v (.int .i64 ((k + 1:Nat):Int)))],[],0⟩,by omega,qI ?_,k + 1,by omega,rfl,trivial,rfl⟩
  (repeat (first|exact qg|refine qo ?_|refine qY ?_ ?_))
 ·obtain rfl:k = 3:=by omega
  rw [qcU]
  repeat' (first|(refine Awp.red (V5 0 0 4 rfl rfl (Nat.zero_le _) (Nat.le_of_ble_eq_true rfl)) ?_;refine Awp.red (V5 1 0 2 rfl rfl (Nat.zero_le _) (Nat.le_of_ble_eq_true rfl)) ?_;(refine Awp.red (qB (τ:=⟨[(0,qa B),(4,.fp [[qa M]] 0 0),(5,.fp [[qa T]] 0 0),(13,.op 0 0 0),(14,.op 3 0 0),(15,.op 2 0 0),(16,.clo (.func 84) [] [.fp [[qa M]] 0 0,.fp [[qa T]] 0 0,.op 0 0 0,.op 2 0 0,.op 3 0 0]),(9,.sl false ((ze B M T).map qO))],[(0,.own false 1 [[.os 1 0 ([]:List Ent).length]]),(1,.own false 4 (([]:List Ent).map Ent.row)),(2,.own false 1 [[.clo (.func 83) [] [.op 0 0 0]]]),(3,.own false 1 [[.os 4 0 ([]:List Cpy).length]]),(4,.own false 2 (([]:List Cpy).map Cpy.row))],5⟩) [(0,0),(3,1),(2,2),(1,3),(4,4)] rfl ?_ ?_) ?_;rotate_left 2;exact qfl B M T hB hM hT (ze B M T) rfl lA;(focus ((repeat (first|exact qg|refine qo ?_|refine xQ ?_|refine xl ?_|refine yu ?_|refine yw ?_ ?_|refine qY ?_ ?_));all_goals (first|rfl|trace_state)));(focus ((repeat' (first|exact qj|refine jx ?_|refine yy ?_ ?_|refine vJ ?_|refine yx ?_ ?_|exact ql|apply qd|exact qk rfl|exact jm rfl|refine jm ?_|exact yA trivial));all_goals (first|rfl|trace_state)))))|refine Zk ?_|((first|refine qf ?_ ?_|refine qe ?_ ?_|refine xsC ?_ ?_);all_goals (intro hc;have hp:=hc;try simp at hp;try (exfalso;omega)))|refine qX ?_ ?_)
end Go.Proofs.YtamejbkifpjhiaaGreatDoor
