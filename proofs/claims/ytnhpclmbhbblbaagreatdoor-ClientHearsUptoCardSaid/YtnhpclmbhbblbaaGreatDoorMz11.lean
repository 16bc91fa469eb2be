import Derived.Test.YtnhpclmbhbblbaaGreatDoorMz10
import Derived.Test.YtnhpclmbhbblbaaGreatDoorMz8
set_option linter.unusedSimpArgs false
set_option linter.unnecessarySimpa false
set_option linter.unusedVariables false
set_option maxHeartbeats 1000000
namespace Go.Proofs.YtnhpclmbhbblbaaGreatDoor
open Go.Ab Go.RowKit
set_option maxRecDepth 10000
attribute [local irreducible] Awp yl jE jl Red qX Go.Ab.Fin qW Rz vl jj ji ResOk jV jz yb jv
def zX (t:List Ent) (c:Chg) (i:Nat):Bool:=((t.take i).filter (zV c.path)).any fun x=>jZ (c.to ++ x.path.drop c.path.length)
theorem Wu {t:List Ent} {c:Chg} {i:Nat} (h:i < t.length):zX t c (i + 1) = (zX t c i || (inB t[i].path c.path && jZ (c.to ++ t[i].path.drop c.path.length))):=by
 unfold zX
 rw [List.take_succ_eq_append_getElem h,List.filter_append,List.any_append]
 cases hs:inB t[i].path c.path<;>simp [hs,zV]
theorem Wj (t:List Ent) (c:Chg) (v:Int) (hl:t.length ≤ 1000000) (hk:c.kind = 3) (hgt : ∀ x,x ∈ t → qy x.path = 0) (hc1:qy c.path = 0) (hc2:qy c.to = 0) (hbad:xe t c = true) :
  qW C1.P 97 [.os 0 0 t.length,.agg c.row,.v (.int .i64 v)] [.own false 4 (t.map Ent.row)] (.tup [.sl true [],.v (.int .i64 2)]) [.own false 4 (t.map Ent.row)]:=by
 have l1:=qV hc1
 have l2:=qV hc2
 have hml:(t.map Ent.row).length = t.length:=List.length_map ..
 refine qa (C:=C1) Tryz.func97 rfl _ Tryz.ntmps97 (Nat.le_of_ble_eq_true rfl) _ Tryz.results97 1 rfl rfl ?_
 repeat' (first|refine qm ?_|fail|((first|refine qd ?_ ?_|refine qc ?_ ?_|refine xsC ?_ ?_);all_goals (intro hc;have hp:=hc;try simp at hp;try (exfalso;omega)))|refine qO ?_ ?_)
 all_goals try (exfalso;omega)
 refine Awp.red (C:=C1) (vX 8 4 rfl (Nat.le_of_ble_eq_true rfl)) ?_
 (refine Awp.red (qC (τ:=⟨[(0,.os 0 0 t.length),(2,.v (.int .i64 v)),(4,.op 1 0 0),(8,.os 2 0 0),(43,.os 0 0 t.length),(44,.v (.int .i64 t.length)),(45,.v (.int .i64 ((0:Nat):Int)))],[(0,.own false 4 (t.map Ent.row)),(1,.own false 5 [c.row]),(2,.own false 4 [])],3⟩) [(1,1),(2,2)] rfl ?gts ?ghs) ?gmain;(case gts=>(repeat (first|exact qg|refine qn ?_|refine ye ?_|refine vj ?_|refine qS ?_ ?_)));(case ghs=>(repeat (first|exact qj|refine yA ?_|refine q9 ?_ ?_))))
 refine qP (C:=C1) (fun n σ => ∃ i:Nat,i ≤ t.length ∧ n = t.length - i ∧ zX t c i = false ∧ σ = ⟨[(0,.os 0 0 t.length),(2,.v (.int .i64 v)),(4,.op 1 0 0),(8,.os 2 0 (jF (t.take i) c v).length),(43,.os 0 0 t.length),(44,.v (.int .i64 t.length)),(45,.v (.int .i64 (i:Int)))],[(0,.own false 4 (t.map Ent.row)),(1,.own false 5 [c.row]),(2,.own false 4 ((jF (t.take i) c v).map Ent.row))],3⟩) t.length ⟨0,Nat.zero_le _,rfl,rfl,rfl⟩ ?_
 rintro n σ ⟨i,hi,rfl,hsofar,rfl⟩
 have hgl:(jF (t.take i) c v).length ≤ i:=by
  unfold jF
  rw [List.length_map]
  have h1:((t.take i).filter (zV c.path)).length ≤ (t.take i).length:=List.length_filter_le ..
  simp at h1;omega
 by_cases hlt:i < t.length
 ·have hr:=js (f:=Ent.row) hlt
  have hpx:=hgt t[i] (List.getElem_mem _)
  have lx:=qV hpx
  have hin:=qaH t[i].path c.path (by omega)
  have hgs := @Xq t c v i hlt
  have hmv:=qbB t[i].path c.path c.to (by omega) (by omega) (by omega)
  have hme := @Jg t[i].path c.path c.to hpx hc1 hc2
  have hbs := @Wu t c i hlt
  rw [hsofar] at hbs
  have hmt : ∀ w,(if t[i].path = c.path then v else t[i].ver) = w → (xh c v t[i]).row = [.v (str (c.to ++ t[i].path.drop c.path.length)),.v (.bool t[i].fold),.v (str t[i].text),.v (.int .i64 w)]:=fun w hw=>by simp [xh,Ent.row,hw]
  generalize hG:jF (t.take i) c v = G at hgl hgs ⊢
  generalize inB t[i].path c.path = I at *
  cases I with
  | false =>
    rw [if_neg (by decide)] at hgs
    have hbs:zX t c (i + 1) = false:=hbs
    repeat' (first|refine qm ?_|(first|(refine xX ?_)|(refine jM ?_)|(refine yg ?_)|refine jc Tryz.func104 (hin ..) ?_|refine xsQ Tryz.func124 (hmv ..) ?_)|((first|refine qd ?_ ?_|refine qc ?_ ?_|refine xsC ?_ ?_);all_goals (intro hc;have hp:=hc;try simp at hp;try (exfalso;omega)))|refine qO ?_ ?_)
    all_goals try (exfalso;omega)
    refine ⟨t.length - (i + 1),_,by omega,qC (τ:=⟨[(0,.os 0 0 t.length),(2,.v (.int .i64 v)),(4,.op 1 0 0),(8,.os 2 0 (jF (t.take (i + 1)) c v).length),(43,.os 0 0 t.length),(44,.v (.int .i64 t.length)),(45,.v (.int .i64 ((i + 1:Nat):Int)))],[(0,.own false 4 (t.map Ent.row)),(1,.own false 5 [c.row]),(2,.own false 4 ((jF (t.take (i + 1)) c v).map Ent.row))],3⟩) [(1,1),(2,2)] rfl ?gts ?ghs,i + 1,by omega,rfl,(hbs),rfl⟩;(case gts=>(repeat (first|exact qg|refine qn ?_|refine ye ?_|refine vj ?_|refine qS ?_ ?_));all_goals (rw [hgs]));(case ghs=>(repeat (first|exact qj|refine yA ?_|refine q9 ?_ ?_));all_goals (rw [hgs]))
  | true =>
    have hme2:=hme rfl
    clear hme
    rw [if_pos rfl] at hgs
    have hlen1:(jF (t.take (i + 1)) c v).length = G.length + 1:=by rw [hgs];simp
    generalize c.to ++ t[i].path.drop c.path.length = Q at *
    generalize v6 t[i].path c.path c.to = E at *
    cases hq:jZ Q with
    | true =>
      rw [hq,if_pos rfl] at hme2
      subst hme2
      repeat' (first|refine qm ?_|(first|(refine xX ?_)|(refine jM ?_)|(refine yg ?_)|refine jc Tryz.func104 (hin ..) ?_|refine xsQ Tryz.func124 (hmv ..) ?_)|((first|refine qd ?_ ?_|refine qc ?_ ?_|refine xsC ?_ ?_);all_goals (intro hc;have hp:=hc;try simp at hp;try (exfalso;omega)))|refine qO ?_ ?_)
      all_goals try (exfalso;omega)
      all_goals ((refine Wb (rs:=[.tmp 6,.tmp 7]) [] 1 ?_;(repeat (first|exact qj|refine yA ?_|refine q9 ?_ ?_));all_goals trace_state))
    | false =>
      rw [hq,if_neg (by decide)] at hme2
      subst hme2
      rw [hq] at hbs
      have hbs:zX t c (i + 1) = false:=hbs
      repeat' (first|refine qm ?_|(first|(refine xX ?_)|(refine jM ?_)|(refine yg ?_)|refine jc Tryz.func104 (hin ..) ?_|refine xsQ Tryz.func124 (hmv ..) ?_)|((first|refine qd ?_ ?_|refine qc ?_ ?_|refine xsC ?_ ?_);all_goals (intro hc;have hp:=hc;try simp at hp;try (exfalso;omega)))|refine qO ?_ ?_)
      all_goals try (exfalso;omega)
      ·have hrow:=hmt v (if_pos (by assumption))
       clear hmt hin hmv hgt hpx lx hr hq hbad
       refine ⟨t.length - (i + 1),_,by omega,qC (τ:=⟨[(0,.os 0 0 t.length),(2,.v (.int .i64 v)),(4,.op 1 0 0),(8,.os 2 0 (jF (t.take (i + 1)) c v).length),(43,.os 0 0 t.length),(44,.v (.int .i64 t.length)),(45,.v (.int .i64 ((i + 1:Nat):Int)))],[(0,.own false 4 (t.map Ent.row)),(1,.own false 5 [c.row]),(2,.own false 4 ((jF (t.take (i + 1)) c v).map Ent.row))],3⟩) [(1,1),(4,2)] rfl ?gts ?ghs,i + 1,by omega,rfl,(hbs),rfl⟩;(case gts=>(repeat (first|exact qg|refine qn ?_|refine ye ?_|refine vj ?_|refine qS ?_ ?_));all_goals (first|(rw [hlen1];done)|(rw [hgs,List.map_append,List.take_of_length_le (by simp)];show _ = _ ++ [(xh c v t[i]).row];rw [hrow];rfl)));(case ghs=>(repeat (first|exact qj|refine yA ?_|refine q9 ?_ ?_));all_goals (first|(rw [hlen1];done)|(rw [hgs,List.map_append,List.take_of_length_le (by simp)];show _ = _ ++ [(xh c v t[i]).row];rw [hrow];rfl)))
      ·have hrow:=hmt t[i].ver (if_neg (by assumption))
       clear hmt hin hmv hgt hpx lx hr hq hbad
       refine ⟨t.length - (i + 1),_,by omega,qC (τ:=⟨[(0,.os 0 0 t.length),(2,.v (.int .i64 v)),(4,.op 1 0 0),(8,.os 2 0 (jF (t.take (i + 1)) c v).length),(43,.os 0 0 t.length),(44,.v (.int .i64 t.length)),(45,.v (.int .i64 ((i + 1:Nat):Int)))],[(0,.own false 4 (t.map Ent.row)),(1,.own false 5 [c.row]),(2,.own false 4 ((jF (t.take (i + 1)) c v).map Ent.row))],3⟩) [(1,1),(4,2)] rfl ?gts ?ghs,i + 1,by omega,rfl,(hbs),rfl⟩;(case gts=>(repeat (first|exact qg|refine qn ?_|refine ye ?_|refine vj ?_|refine qS ?_ ?_));all_goals (first|(rw [hlen1];done)|(rw [hgs,List.map_append,List.take_of_length_le (by simp)];show _ = _ ++ [(xh c v t[i]).row];rw [hrow];rfl)));(case ghs=>(repeat (first|exact qj|refine yA ?_|refine q9 ?_ ?_));all_goals (first|(rw [hlen1];done)|(rw [hgs,List.map_append,List.take_of_length_le (by simp)];show _ = _ ++ [(xh c v t[i]).row];rw [hrow];rfl)))
 ·obtain rfl:i = t.length:=by omega
  unfold zX at hsofar
  rw [List.take_length] at hsofar
  simp only [xe,hk,hsofar] at hbad
  simp at hbad
theorem qaE (t:List Ent) (c:Chg) (v:Int) (hl:t.length ≤ 400000) (hk:c.kind = 3) (hgt : ∀ x,x ∈ t → qy x.path = 0) (hc1:qy c.path = 0) (hc2:qy c.to = 0) (hbad:xe t c = false) (hs:q4 jr t = true) :
  qW C1.P 97 [.os 0 0 t.length,.agg c.row,.v (.int .i64 v)] [.own false 4 (t.map Ent.row)] (Ke (ym t c v) (jy t c v).length) [.dead,.own false 4 ((jy t c v).map Ent.row)]:=by
 have l1:=qV hc1
 have l2:=qV hc2
 have hnb : ∀ x,x ∈ t → inB x.path c.path = true → jZ (c.to ++ x.path.drop c.path.length) = false:=fun x hx hi=>by
  simp only [xe,hk,decide_true,Bool.true_and,List.any_eq_false] at hbad
  simpa using hbad x (List.mem_filter.2 ⟨hx,hi⟩)
 have hwo:=ZF t c.path (by omega) (by omega)
 have hD:jy t c v = (jF t c v).foldl jN (j4 (zV c.path) t):=by simp [jy,hk]
 have hE:ym t c v = if 60 < (jy t c v).length then 2 else 0:=by simp [ym,hbad]
 have hkl:(j4 (zV c.path) t).length ≤ t.length:=List.length_filter_le ..
 have hkr:=kc (p:=zV c.path) hs
 have hml:(t.map Ent.row).length = t.length:=List.length_map ..
 refine qa (C:=C1) Tryz.func97 rfl _ Tryz.ntmps97 (Nat.le_of_ble_eq_true rfl) _ Tryz.results97 1 rfl rfl ?_
 repeat' (first|refine qm ?_|fail|((first|refine qd ?_ ?_|refine qc ?_ ?_|refine xsC ?_ ?_);all_goals (intro hc;have hp:=hc;try simp at hp;try (exfalso;omega)))|refine qO ?_ ?_)
 all_goals try (exfalso;omega)
 refine Awp.red (C:=C1) (vX 8 4 rfl (Nat.le_of_ble_eq_true rfl)) ?_
 (refine Awp.red (qC (τ:=⟨[(0,.os 0 0 t.length),(2,.v (.int .i64 v)),(4,.op 1 0 0),(8,.os 2 0 0),(43,.os 0 0 t.length),(44,.v (.int .i64 t.length)),(45,.v (.int .i64 ((0:Nat):Int)))],[(0,.own false 4 (t.map Ent.row)),(1,.own false 5 [c.row]),(2,.own false 4 [])],3⟩) [(1,1),(2,2)] rfl ?gts ?ghs) ?gmain;(case gts=>(repeat (first|exact qg|refine qn ?_|refine ye ?_|refine vj ?_|refine qS ?_ ?_)));(case ghs=>(repeat (first|exact qj|refine yA ?_|refine q9 ?_ ?_))))
 refine qP (C:=C1) (fun n σ => ∃ i:Nat,i ≤ t.length ∧ n = t.length - i ∧ True ∧ σ = ⟨[(0,.os 0 0 t.length),(2,.v (.int .i64 v)),(4,.op 1 0 0),(8,.os 2 0 (jF (t.take i) c v).length),(43,.os 0 0 t.length),(44,.v (.int .i64 t.length)),(45,.v (.int .i64 (i:Int)))],[(0,.own false 4 (t.map Ent.row)),(1,.own false 5 [c.row]),(2,.own false 4 ((jF (t.take i) c v).map Ent.row))],3⟩) t.length ⟨0,Nat.zero_le _,rfl,trivial,rfl⟩ ?_
 rintro n σ ⟨i,hi,rfl, -,rfl⟩
 have hgl:(jF (t.take i) c v).length ≤ i:=by
  unfold jF
  rw [List.length_map]
  have h1:((t.take i).filter (zV c.path)).length ≤ (t.take i).length:=List.length_filter_le ..
  simp at h1;omega
 by_cases hlt:i < t.length
 ·have hr:=js (f:=Ent.row) hlt
  have hpx:=hgt t[i] (List.getElem_mem _)
  have lx:=qV hpx
  have hin:=qaH t[i].path c.path (by omega)
  have hgs := @Xq t c v i hlt
  have hmv:=qbB t[i].path c.path c.to (by omega) (by omega) (by omega)
  have hme := @Jg t[i].path c.path c.to hpx hc1 hc2
  have hnb1:=hnb t[i] (List.getElem_mem _)
  have hmt : ∀ w,(if t[i].path = c.path then v else t[i].ver) = w → (xh c v t[i]).row = [.v (str (c.to ++ t[i].path.drop c.path.length)),.v (.bool t[i].fold),.v (str t[i].text),.v (.int .i64 w)]:=fun w hw=>by simp [xh,Ent.row,hw]
  generalize hG:jF (t.take i) c v = G at hgl hgs ⊢
  generalize inB t[i].path c.path = I at *
  cases I with
  | false =>
    rw [if_neg (by decide)] at hgs
    repeat' (first|refine qm ?_|(first|(refine xX ?_)|(refine jM ?_)|(refine yg ?_)|refine jc Tryz.func104 (hin ..) ?_|refine xsQ Tryz.func124 (hmv ..) ?_)|((first|refine qd ?_ ?_|refine qc ?_ ?_|refine xsC ?_ ?_);all_goals (intro hc;have hp:=hc;try simp at hp;try (exfalso;omega)))|refine qO ?_ ?_)
    all_goals try (exfalso;omega)
    refine ⟨t.length - (i + 1),_,by omega,qC (τ:=⟨[(0,.os 0 0 t.length),(2,.v (.int .i64 v)),(4,.op 1 0 0),(8,.os 2 0 (jF (t.take (i + 1)) c v).length),(43,.os 0 0 t.length),(44,.v (.int .i64 t.length)),(45,.v (.int .i64 ((i + 1:Nat):Int)))],[(0,.own false 4 (t.map Ent.row)),(1,.own false 5 [c.row]),(2,.own false 4 ((jF (t.take (i + 1)) c v).map Ent.row))],3⟩) [(1,1),(2,2)] rfl ?gts ?ghs,i + 1,by omega,rfl,trivial,rfl⟩;(case gts=>(repeat (first|exact qg|refine qn ?_|refine ye ?_|refine vj ?_|refine qS ?_ ?_));all_goals (rw [hgs]));(case ghs=>(repeat (first|exact qj|refine yA ?_|refine q9 ?_ ?_));all_goals (rw [hgs]))
  | true =>
    have hme2:=hme rfl
    clear hme
    rw [if_pos rfl] at hgs
    have hlen1:(jF (t.take (i + 1)) c v).length = G.length + 1:=by rw [hgs];simp
    generalize c.to ++ t[i].path.drop c.path.length = Q at *
    generalize v6 t[i].path c.path c.to = E at *
    have hq:jZ Q = false:=hnb1 rfl
    rw [hq,if_neg (by decide)] at hme2
    subst hme2
    repeat' (first|refine qm ?_|(first|(refine xX ?_)|(refine jM ?_)|(refine yg ?_)|refine jc Tryz.func104 (hin ..) ?_|refine xsQ Tryz.func124 (hmv ..) ?_)|((first|refine qd ?_ ?_|refine qc ?_ ?_|refine xsC ?_ ?_);all_goals (intro hc;have hp:=hc;try simp at hp;try (exfalso;omega)))|refine qO ?_ ?_)
    all_goals try (exfalso;omega)
    ·have hrow:=hmt v (if_pos (by assumption))
     clear hmt hin hmv hgt hpx lx hr hq hnb hnb1 hwo hE hD
     refine ⟨t.length - (i + 1),_,by omega,qC (τ:=⟨[(0,.os 0 0 t.length),(2,.v (.int .i64 v)),(4,.op 1 0 0),(8,.os 2 0 (jF (t.take (i + 1)) c v).length),(43,.os 0 0 t.length),(44,.v (.int .i64 t.length)),(45,.v (.int .i64 ((i + 1:Nat):Int)))],[(0,.own false 4 (t.map Ent.row)),(1,.own false 5 [c.row]),(2,.own false 4 ((jF (t.take (i + 1)) c v).map Ent.row))],3⟩) [(1,1),(4,2)] rfl ?gts ?ghs,i + 1,by omega,rfl,trivial,rfl⟩;(case gts=>(repeat (first|exact qg|refine qn ?_|refine ye ?_|refine vj ?_|refine qS ?_ ?_));all_goals (first|(rw [hlen1];done)|(rw [hgs,List.map_append,List.take_of_length_le (by simp)];show _ = _ ++ [(xh c v t[i]).row];rw [hrow];rfl)));(case ghs=>(repeat (first|exact qj|refine yA ?_|refine q9 ?_ ?_));all_goals (first|(rw [hlen1];done)|(rw [hgs,List.map_append,List.take_of_length_le (by simp)];show _ = _ ++ [(xh c v t[i]).row];rw [hrow];rfl)))
    ·have hrow:=hmt t[i].ver (if_neg (by assumption))
     clear hmt hin hmv hgt hpx lx hr hq hnb hnb1 hwo hE hD
     refine ⟨t.length - (i + 1),_,by omega,qC (τ:=⟨[(0,.os 0 0 t.length),(2,.v (.int .i64 v)),(4,.op 1 0 0),(8,.os 2 0 (jF (t.take (i + 1)) c v).length),(43,.os 0 0 t.length),(44,.v (.int .i64 t.length)),(45,.v (.int .i64 ((i + 1:Nat):Int)))],[(0,.own false 4 (t.map Ent.row)),(1,.own false 5 [c.row]),(2,.own false 4 ((jF (t.take (i + 1)) c v).map Ent.row))],3⟩) [(1,1),(4,2)] rfl ?gts ?ghs,i + 1,by omega,rfl,trivial,rfl⟩;(case gts=>(repeat (first|exact qg|refine qn ?_|refine ye ?_|refine vj ?_|refine qS ?_ ?_));all_goals (first|(rw [hlen1];done)|(rw [hgs,List.map_append,List.take_of_length_le (by simp)];show _ = _ ++ [(xh c v t[i]).row];rw [hrow];rfl)));(case ghs=>(repeat (first|exact qj|refine yA ?_|refine q9 ?_ ?_));all_goals (first|(rw [hlen1];done)|(rw [hgs,List.map_append,List.take_of_length_le (by simp)];show _ = _ ++ [(xh c v t[i]).row];rw [hrow];rfl)))
 obtain rfl:i = t.length:=by omega
 have hgl2:(jF t c v).length ≤ t.length:=by rw [List.take_length] at hgl;exact hgl
 rw [List.take_length]
 generalize hK:j4 (zV c.path) t = K at *
 generalize hGo:jF t c v = G at *
 generalize ym t c v = E at *
 clear hnb hgl
 repeat' (first|refine qm ?_|(first|(apply jT Tryz.func123 rfl rfl;intro hIsFn;refine YR ([0]) 0 hIsFn (hwo ..) ?_))|((first|refine qd ?_ ?_|refine qc ?_ ?_|refine xsC ?_ ?_);all_goals (intro hc;have hp:=hc;try simp at hp;try (exfalso;omega)))|refine qO ?_ ?_)
 all_goals try (exfalso;omega)
 refine Awp.red (C:=C1) (qam 0 0 K.length rfl rfl (List.take_of_length_le (by simp)) (Nat.ne_of_beq_eq_false rfl) (Nat.le_of_ble_eq_true rfl)) ?_
 (refine Awp.red (qC (τ:=⟨[(0,.os 2 0 ((G.take 0).foldl jN K).length),(86,.os 1 0 G.length),(87,.v (.int .i64 G.length)),(88,.v (.int .i64 ((0:Nat):Int)))],[(1,.own false 4 (G.map Ent.row)),(2,.own false 4 (((G.take 0).foldl jN K).map Ent.row))],3⟩) [(2,1),(3,2)] rfl ?gts2 ?ghs2) ?gmain2;(case gts2=>(repeat (first|exact qg|refine qn ?_|refine ye ?_|refine vj ?_|refine qS ?_ ?_));all_goals skip);(case ghs2=>(repeat (first|exact qj|refine yA ?_|refine q9 ?_ ?_))))
 refine qP (C:=C1) (fun n σ => ∃ i:Nat,i ≤ G.length ∧ n = G.length - i ∧ True ∧ σ = ⟨[(0,.os 2 0 ((G.take i).foldl jN K).length),(86,.os 1 0 G.length),(87,.v (.int .i64 G.length)),(88,.v (.int .i64 (i:Int)))],[(1,.own false 4 (G.map Ent.row)),(2,.own false 4 (((G.take i).foldl jN K).map Ent.row))],3⟩) G.length ⟨0,Nat.zero_le _,rfl,trivial,rfl⟩ ?_
 rintro n σ ⟨i,hi,rfl, -,rfl⟩
 have hLr:=kw (l:=G.take i) hkr
 have hLl:=QQ (G.take i) K
 have hLs:=fun h => @qai G K i h
 have htl:(G.take i).length ≤ G.length:=by simp;omega
 by_cases hlt:i < G.length
 ·have hr:=js (f:=Ent.row) hlt
  have hLs:=hLs hlt
  generalize (G.take i).foldl jN K = L at *
  have hput:=qds L G[i] (by omega) hLr
  rw [← hLs] at hput
  repeat' (first|refine qm ?_|(first|(refine xX ?_)|(apply jT Tryz.func122 rfl rfl;intro hIsFn;refine k9 ([2]) 2 hIsFn (hput ..) ?_))|((first|refine qd ?_ ?_|refine qc ?_ ?_|refine xsC ?_ ?_);all_goals (intro hc;have hp:=hc;try simp at hp;try (exfalso;omega)))|refine qO ?_ ?_)
  all_goals try (exfalso;omega)
  clear hLr hLl hput hr hwo hE hD hkr
  refine ⟨G.length - (i + 1),_,by omega,qC (τ:=⟨[(0,.os 2 0 ((G.take (i + 1)).foldl jN K).length),(86,.os 1 0 G.length),(87,.v (.int .i64 G.length)),(88,.v (.int .i64 ((i + 1:Nat):Int)))],[(1,.own false 4 (G.map Ent.row)),(2,.own false 4 (((G.take (i + 1)).foldl jN K).map Ent.row))],3⟩) [(1,1),(4,2)] rfl ?gts ?ghs,i + 1,by omega,rfl,trivial,rfl⟩;(case gts=>(repeat (first|exact qg|refine qn ?_|refine ye ?_|refine vj ?_|refine qS ?_ ?_)));(case ghs=>(repeat (first|exact qj|refine yA ?_|refine q9 ?_ ?_)))
 obtain rfl:i = G.length:=by omega
 rw [List.take_length] at *
 rw [← hD] at *
 generalize jy t c v = L at *
 by_cases h60:60 < L.length
 ·rw [if_pos h60] at hE
  subst hE
  repeat' (first|refine qm ?_|fail|((first|refine qd ?_ ?_|refine qc ?_ ?_|refine xsC ?_ ?_);all_goals (intro hc;have hp:=hc;try simp at hp;try (exfalso;omega)))|refine qO ?_ ?_)
  all_goals try (exfalso;omega)
  (refine Wb (rs:=[.tmp 6,.tmp 7]) [(2,1)] 2 ?_;(apply xL 0;exact qJ rfl;(repeat (first|exact qj|refine yA ?_|refine q9 ?_ ?_)));all_goals trace_state)
 ·rw [if_neg h60] at hE
  subst hE
  repeat' (first|refine qm ?_|fail|((first|refine qd ?_ ?_|refine qc ?_ ?_|refine xsC ?_ ?_);all_goals (intro hc;have hp:=hc;try simp at hp;try (exfalso;omega)))|refine qO ?_ ?_)
  all_goals try (exfalso;omega)
  (refine Wb (rs:=[.tmp 6,.tmp 7]) [(2,1)] 2 ?_;(apply xL 0;exact qJ rfl;(repeat (first|exact qj|refine yA ?_|refine q9 ?_ ?_)));all_goals trace_state)
end Go.Proofs.YtnhpclmbhbblbaaGreatDoor
set_option linter.unusedSimpArgs false
set_option linter.unnecessarySimpa false
namespace Go.Proofs.YtnhpclmbhbblbaaGreatDoor
theorem QG {s:qQ}:jP s = true ↔ s ≠ [] ∧ s.length ≤ 20 ∧ s ≠ [46] ∧ s ≠ [46,46] ∧ s.head? ≠ some 32 ∧ s.getLast? ≠ some 32 ∧ ∀ c,c ∈ s → Zs c = true:=by
 simp [jP,and_assoc]
theorem XO {s:qQ} (h:jP s = true):(47:UInt8) ∉ s:=fun hm=>by
 have:=(QG.1 h).2.2.2.2.2.2 47 hm
 exact absurd this (by decide)
theorem VW:jP [] = false:=by simp [jP]
theorem xy {p:qQ}:qy p = 0 ↔ (∀ n,n ∈ qo p → jP n = true) ∧ jZ p = false:=by
 unfold qy
 constructor
 ·intro h
  split at h
  ·rename_i h1
   split at h
   ·exact absurd h (by decide)
   ·rename_i h2
    exact ⟨List.all_eq_true.1 h1,by simpa using h2⟩
  ·exact absurd h (by decide)
 ·rintro ⟨h1,h2⟩
  rw [if_pos (List.all_eq_true.2 h1),h2];rfl
theorem XV {p:qQ} (h:(47:UInt8) ∉ p):qG p = [] ∧ qY p = p:=by
 rw [qG,qY,vV h]
 exact ⟨rfl,rfl⟩
theorem JK {a b:qQ} (h:(47:UInt8) ∉ b):qG (a ++ 47 :: b) = a ∧ qY (a ++ 47 :: b) = b:=by
 rw [qG,qY,wz h]
 refine ⟨by rw [show (a.length:Int).toNat = a.length from by omega,List.take_left],?_⟩
 rw [show ((a.length:Int) + 1).toNat = a.length + 1 from by omega,List.drop_append,List.drop_of_length_le (by omega),List.nil_append,show a.length + 1 - a.length = 1 from by omega];rfl
theorem qab {a b:qQ} (h:(47:UInt8) ∉ b):qG (zM a b) = a ∧ qo (zM a b) = (if a = [] then [b] else qo a ++ [b]):=by
 unfold zM
 split
 ·rename_i e;subst e
  exact ⟨(XV h).1,yU h⟩
 ·refine ⟨(JK h).1,?_⟩
  rw [vO,yU h]
theorem J1 {a b:qQ} (h:jZ b = false) (h1:(qo a).length ≤ (qo b).length) (h2:a.length ≤ b.length):jZ a = false:=by
 simp [jZ] at h ⊢;omega
theorem qaP {p:qQ} (h:qy p = 0):(qG p = [] ∨ qy (qG p) = 0) ∧ jP (qY p) = true ∧ zM (qG p) (qY p) = p:=by
 obtain ⟨h1,h2⟩:=xy.1 h
 rcases Qp (c:=47) p with h3|⟨a,b,rfl,hb⟩
 ·obtain ⟨e1,e2⟩:=XV h3
  rw [e1,e2]
  exact ⟨.inl rfl,h1 p (by rw [yU h3];simp),rfl⟩
 ·obtain ⟨e1,e2⟩:=JK (a:=a) hb
  rw [e1,e2]
  have hn:qo (a ++ 47 :: b) = qo a ++ [b]:=by rw [vO,yU hb]
  have ha:a ≠ []:=fun e=>by
   have:=h1 [] (by rw [hn,e];simp [qo])
   rw [VW] at this;exact absurd this (by decide)
  refine ⟨.inr (xy.2 ⟨fun n hm=>h1 n (by rw [hn];simp [hm]),J1 h2 (by rw [hn];simp) (by simp)⟩),h1 b (by rw [hn];simp),?_⟩
  simp [zM,ha]
theorem xR {p:qQ} {l:List qQ}:xb (p :: l) = 0 ↔ qy p = 0 ∧ xb l = 0:=by
 show (if qy p = 0 then xb l else qy p) = 0 ↔ _
 split
 ·rename_i h;simp [h]
 ·rename_i h;simp [h]
theorem qaO {p f t:qQ} (h:v6 p f t = 0) :
  v6 (t ++ p.drop f.length) t f = 0 ∧ xb [t ++ p.drop f.length,t] = 0 ∧ inB (t ++ p.drop f.length) t = true ∧ f ++ (t ++ p.drop f.length).drop t.length = p:=by
 unfold v6 at h
 split at h
 case isFalse h'=>exact absurd h h'
 rename_i h0
 split at h
 case isFalse=>exact absurd h (by decide)
 rename_i hi
 split at h
 case isTrue=>exact absurd h (by decide)
 rename_i hg
 obtain ⟨hp,h1⟩:=xR.1 h0
 obtain ⟨hf,h2⟩:=xR.1 h1
 obtain ⟨ht, -⟩:=xR.1 h2
 obtain ⟨np,gp⟩:=xy.1 hp
 obtain ⟨nt, -⟩:=xy.1 ht
 have hr:=Z5 (t:=t) hi
 have hall : ∀ n,n ∈ qo t ++ (qo p).drop (qo f).length → jP n = true:=fun n hm=>by
  rcases List.mem_append.1 hm with hm|hm
  ·exact nt n hm
  ·exact np n (List.mem_of_mem_drop hm)
 have hnm:qo (t ++ p.drop f.length) = qo t ++ (qo p).drop (qo f).length:=by
  rw [← hr]
  exact QM (by simp [xo]) fun n hm=>XO (hall n hm)
 have hm:qy (t ++ p.drop f.length) = 0:=xy.2 ⟨by rw [hnm];exact hall,by simpa using hg⟩
 have hb:inB (t ++ p.drop f.length) t = true:=by
  rw [Vh,hnm,List.isPrefixOf_iff_prefix];exact List.prefix_append ..
 have hpre:f ++ p.drop f.length = p:=by
  simp only [inB,Bool.or_eq_true,decide_eq_true_eq,List.isPrefixOf_iff_prefix] at hi
  rcases hi with rfl|⟨s,rfl⟩
  ·simp
  ·rw [List.append_assoc,List.drop_left]
 have hback:f ++ (t ++ p.drop f.length).drop t.length = p:=by rw [List.drop_left];exact hpre
 refine ⟨?_,?_,hb,hback⟩
 ·unfold v6
  rw [if_pos (xR.2 ⟨hm,xR.2 ⟨ht,xR.2 ⟨hf,rfl⟩⟩⟩),if_pos hb,hback,gp];rfl
 ·exact xR.2 ⟨hm,xR.2 ⟨ht,rfl⟩⟩
theorem qav (s:qQ):vd s ++ zg s = s:=by
 unfold vd zg
 split<;>simp
theorem qda (s:qQ):zh s <+: s:=by
 have h:=List.dropWhile_suffix (l:=s.reverse) (· == 32)
 rw [← List.reverse_prefix] at h
 rw [List.reverse_reverse] at h
 exact h
theorem qe4 (s:qQ) (n:Int):vE s n <+: s:=by
 have h:vd s <+: s:=⟨zg s,qav s⟩
 unfold vE
 split
 ·exact (qda _).trans ((List.take_prefix _ _).trans h)
 ·exact h
theorem qaT : ∀ k,k < 10 → Zs (UInt8.ofNat (48 + k)) = true:=by decide
theorem qe5 {n:Int} (h0:1 ≤ n) (h:n ≤ 99) : ∀ c,c ∈ ko n → Zs c = true:=by
 intro c hc
 unfold ko at hc
 split at hc
 ·rw [List.mem_singleton] at hc;subst hc
  exact qaT _ (by omega)
 ·simp only [List.mem_cons,List.not_mem_nil,or_false] at hc
  rcases hc with rfl|rfl
  ·exact qaT _ (by omega)
  ·exact qaT _ (by omega)
theorem qdM {s:qQ} {n:Int} (h:vE s n ≠ []):((vE s n).length:Int) ≤ zQ s n:=by
 unfold vE at h ⊢
 split
 ·rename_i hr
  rw [if_pos hr] at h
  have h1:=XD ((vd s).take (zQ s n).toNat)
  rw [List.length_take] at h1
  have h2:0 < (zh ((vd s).take (zQ s n).toNat)).length:=List.length_pos_iff.2 h
  omega
 ·rename_i hr;omega
theorem qaM {s:qQ} {n:Int} (hs:jP s = true) (h0:1 ≤ n) (h1:n ≤ 99) (hc:vE s n ≠ []):jP (vE s n ++ vo n ++ zg s) = true:=by
 obtain ⟨-, -, -, -,a5,a6,a7⟩:=QG.1 hs
 have hr:=qdM hc
 have hm:0 < (ko n).length:=by unfold ko;split<;>simp
 have hml:(vo n).length = (ko n).length + 3:=by simp [vo]
 have hpos:0 < (vE s n).length:=List.length_pos_iff.2 hc
 have hlen:(vE s n ++ vo n ++ zg s).length = (vE s n).length + (vo n).length + (zg s).length:=by simp;omega
 unfold zQ at hr
 obtain ⟨t,ht⟩:=qe4 s n
 have hse:=qav s
 refine QG.2 ⟨fun e=>?_,by omega,fun e=>?_,fun e=>?_,?_,?_,?_⟩
 ·rw [e] at hlen;simp at hlen;omega
 ·rw [e] at hlen;simp at hlen;omega
 ·rw [e] at hlen;simp at hlen;omega
 ·cases h:vE s n with
  | nil=>exact absurd h hc
  | cons c l =>
    rw [h] at ht
    rw [← ht] at a5
    simpa using a5
 ·rw [List.getLast?_append]
  cases h:zg s with
  | nil=>rw [show vE s n ++ vo n = (vE s n ++ ([32,40] ++ ko n)) ++ [41] from by simp [vo],List.getLast?_nil,Option.none_or,List.getLast?_append,List.getLast?_singleton,Option.some_or];decide
  | cons c l =>
    rw [← hse,h,List.getLast?_append] at a6
    have hx : ∃ y,(c :: l).getLast? = some y:=⟨_,List.getLast?_eq_some_getLast (by simp)⟩
    obtain ⟨y,hy⟩:=hx
    rw [hy] at a6 ⊢
    simpa using a6
 ·intro c hcm
  rcases List.mem_append.1 hcm with hcm|hcm
  ·rcases List.mem_append.1 hcm with hcm|hcm
   ·exact a7 c (by rw [← ht];simp [hcm])
   ·unfold vo at hcm
    rcases List.mem_append.1 hcm with hcm|hcm
    ·rcases List.mem_append.1 hcm with hcm|hcm
     ·simp at hcm;rcases hcm with rfl|rfl<;>decide
     ·exact qe5 h0 h1 c hcm
    ·simp at hcm;subst hcm;decide
  ·exact a7 c (by rw [← hse];simp [hcm])
theorem Wt {p:qQ} {n:Int} (h:vi p n = 0):qy p = 0 ∧ 1 ≤ n ∧ n ≤ 99 ∧ vE (qY p) n ≠ [] ∧ jZ (yr p n) = false:=by
 unfold vi at h
 split at h
 case isFalse h'=>exact absurd h h'
 rename_i hp
 split at h
 case isTrue=>exact absurd h (by decide)
 rename_i hn
 unfold vz at h
 split at h
 case isTrue=>exact absurd h (by decide)
 rename_i hc
 split at h
 case isTrue=>exact absurd h (by decide)
 rename_i hg
 exact ⟨hp,by omega,by omega,hc,by simpa using hg⟩
theorem qaN {p:qQ} {n:Int} (h:vi p n = 0):qy (yr p n) = 0 ∧ qG (yr p n) = qG p:=by
 obtain ⟨hp,h0,h1,hc,hg⟩:=Wt h
 obtain ⟨hpa,hnm, -⟩:=qaP hp
 have hx:=qaM hnm h0 h1 hc
 obtain ⟨e1,e2⟩:=qab (a:=qG p) (XO hx)
 refine ⟨xy.2 ⟨fun n hm=>?_,hg⟩,e1⟩
 unfold yr at hm
 rw [e2] at hm
 split at hm
 ·rw [List.mem_singleton] at hm;subst hm;exact hx
 ·rename_i hne
  rcases hpa with hpa|hpa
  ·exact absurd hpa hne
  ·rcases List.mem_append.1 hm with hm|hm
   ·exact (xy.1 hpa).1 n hm
   ·rw [List.mem_singleton] at hm;subst hm;exact hx
end Go.Proofs.YtnhpclmbhbblbaaGreatDoor
set_option linter.unusedSimpArgs false
set_option linter.unnecessarySimpa false
set_option linter.unusedVariables false
set_option maxHeartbeats 1000000
namespace Go.Proofs.YtnhpclmbhbblbaaGreatDoor
open Go.Ab Go.RowKit
set_option maxRecDepth 10000
attribute [local irreducible] Awp yl jE jl Red qX Go.Ab.Fin qW Rz vl jj ji ResOk jV jz yb jv
structure RightE (t:List Ent):Prop where
 rise:q4 jr t = true
 paths : ∀ x,x ∈ t → qy x.path = 0
 few:t.length ≤ 400000
def zB (t:List Ent) (c:Chg) (v:Int):Int:=if ¬ yD c = 0 then yD c else if ¬ zN t c = 0 then zN t c else ym t c v
def Ze (t:List Ent) (c:Chg) (v:Int):List Ent:=if zB t c v = 0 then jy t c v else []
theorem yS {c:Chg} (h:yD c = 0):1 ≤ c.kind ∧ c.kind ≤ 4 ∧ qy c.path = 0 ∧ (c.kind = 3 → qy c.to = 0) ∧ kt c = 0:=by
 unfold yD at h
 split at h
 ·exact absurd h (by decide)
 ·split at h
  ·contradiction
  ·rename_i h1 h2
   split at h
   ·rename_i h3;exact absurd h h3.2
   ·rename_i h3
    refine ⟨by omega,by omega,by simpa using h2,fun h4=>?_,h⟩
    have h5:=fun e=>h3 ⟨h4,e⟩
    simpa using h5
theorem V7 {t:List Ent} {x y:Ent} (h:y ∈ jN t x):y = x ∨ y ∈ t:=by
 unfold jN at h
 split at h
 ·rcases List.mem_append.1 h with h|h
  ·exact .inr (List.mem_of_mem_take h)
  ·rcases List.mem_append.1 h with h|h
   ·exact .inl (List.mem_singleton.1 h)
   ·exact .inr (List.mem_of_mem_drop h)
 ·rcases List.mem_append.1 h with h|h
  ·exact .inr (List.mem_of_mem_take h)
  ·rcases List.mem_append.1 h with h|h
   ·exact .inl (List.mem_singleton.1 h)
   ·exact .inr (List.mem_of_mem_drop h)
theorem V6 : ∀ {l t:List Ent} {y:Ent},y ∈ l.foldl jN t → y ∈ l ∨ y ∈ t
 | [],_,_,h => .inr h
 | x :: l,t,y,h=>by
   rcases V6 (l:=l) (t:=jN t x) h with h|h
   ·exact .inl (List.mem_cons_of_mem _ h)
   ·rcases V7 h with rfl|h
    ·exact .inl (List.mem_cons_self ..)
    ·exact .inr h
theorem YP {c:Chg} {v:Int} {x:Ent} (hx:qy x.path = 0) (h1:qy c.path = 0) (h2:qy c.to = 0) (hi:inB x.path c.path = true) (hg:jZ (c.to ++ x.path.drop c.path.length) = false):qy (xh c v x).path = 0:=by
 have hm:=Jg hx h1 h2 hi
 rw [hg,if_neg (by decide)] at hm
 have:=(qaO hm).2.1
 exact (xR.1 this).1
theorem Kx {t:List Ent} {c:Chg} {v:Int} (h:ym t c v = 0):xe t c = false ∧ (jy t c v).length ≤ 60:=by
 unfold ym at h
 split at h
 ·exact absurd h (by decide)
 ·split at h
  ·exact absurd h (by decide)
  ·rename_i h1 h2
   exact ⟨by simpa using h1,by omega⟩
theorem Wx {t:List Ent} {c:Chg} {v:Int} (ht : ∀ x,x ∈ t → qy x.path = 0) (hce:yD c = 0) (hbad:xe t c = false) : ∀ x,x ∈ jy t c v → qy x.path = 0:=by
 obtain ⟨k1,k2,hpe,hto, -⟩:=yS hce
 intro x hx
 unfold jy at hx
 split at hx
 ·rcases V7 hx with rfl|h
  ·exact hpe
  ·exact ht x h
 ·split at hx
  ·rcases V7 hx with rfl|h
   ·exact hpe
   ·exact ht x h
  ·split at hx
   ·exact ht x (List.mem_filter.1 hx).1
   ·have k3:c.kind = 3:=by omega
    rcases V6 hx with h|h
    ·obtain ⟨y,hy,rfl⟩:=List.mem_map.1 h
     obtain ⟨hy1,hy2⟩:=List.mem_filter.1 hy
     simp only [xe,k3,decide_true,Bool.true_and,List.any_eq_false] at hbad
     exact YP (ht y hy1) hpe (hto k3) hy2 (by simpa using hbad y hy)
    ·exact ht x (List.mem_filter.1 h).1
theorem Yt {t:List Ent} {c:Chg} {v:Int} (hs:q4 jr t = true):q4 jr (jy t c v) = true:=by
 unfold jy
 split
 ·exact yG hs
 ·split
  ·exact yG hs
  ·split
   ·exact kc hs
   ·exact kw (kc hs)
theorem Jv (t:List Ent) (c:Chg) (v:Int):(jy t c v).length ≤ 2 * t.length + 1:=by
 have h1:=fun x=>wE t x
 have h2:(j4 (zV c.path) t).length ≤ t.length:=List.length_filter_le ..
 have h3:(jF t c v).length ≤ t.length:=by unfold jF;rw [List.length_map];exact List.length_filter_le ..
 have h4:=QQ (jF t c v) (j4 (zV c.path) t)
 unfold jy
 split
 ·have:=h1 ⟨c.path,true,[],v⟩;omega
 ·split
  ·have:=h1 ⟨c.path,false,c.text,v⟩;omega
  ·split<;>omega
theorem RightE.done {t:List Ent} {c:Chg} {v:Int} (h:RightE t) (hr:zB t c v = 0):RightE (jy t c v):=by
 unfold zB at hr
 split at hr
 ·contradiction
 ·split at hr
  ·contradiction
  ·rename_i h1 h2
   obtain ⟨h3,h4⟩:=Kx hr
   exact ⟨Yt h.rise,Wx h.paths (by simpa using h1) h3,by omega⟩
theorem qgh (t:List Ent) (c:Chg) (v:Int) (h:RightE t) (hce:yD c = 0) (hbad:xe t c = false) :
  qW C1.P 97 [.os 0 0 t.length,.agg c.row,.v (.int .i64 v)] [.own false 4 (t.map Ent.row)] (Ke (ym t c v) (jy t c v).length) [.dead,.own false 4 ((jy t c v).map Ent.row)]:=by
 obtain ⟨k1,k2,hpe,hto, -⟩:=yS hce
 have hf:=h.few
 have hl:=Jv t c v
 have hps:=qV hpe
 by_cases h1:c.kind = 1
 ·exact qeK t c v (by omega) h.rise h1 (by omega)
 ·by_cases h2:c.kind = 2
  ·exact qeL t c v (by omega) h.rise h2 (by omega)
  ·by_cases h4:c.kind = 4
   ·exact qeM t c v (by omega) h4 (by omega)
   ·have h3:c.kind = 3:=by omega
    exact qaE t c v hf h3 h.paths hpe (hto h3) hbad h.rise
theorem Y2 {t:List Ent} {c:Chg} {v:Int} (h:¬ zB t c v = 0):Ze t c v = []:=by unfold Ze;rw [if_neg h]
theorem qdt (t:List Ent) (c:Chg) (v:Int) (h:RightE t) (hcs:c.small):yO C.P 74 [qb t,.agg c.row,.v (.int .i64 v)] (.tup [qb (Ze t c v),.v (.int .i64 (zB t c v))]):=by
 have hf:=h.few
 have h1:=qgj c hcs
 have h2:=qgY t c (by omega) h.rise hcs
 have h3:=Vt t (by omega)
 have hR:zB t c v = if ¬ yD c = 0 then yD c else if ¬ zN t c = 0 then zN t c else ym t c v:=rfl
 have hbadL := @Y2 t c v
 by_cases hce:yD c = 0
 ·by_cases hme:zN t c = 0
  ·have hR2:zB t c v = ym t c v:=by rw [hR,if_neg (by simp [hce]),if_neg (by simp [hme])]
   rw [hce] at h1
   rw [hme] at h2
   cases hb:xe t c with
   | true =>
     obtain ⟨k1,k2,hpe,hto, -⟩:=yS hce
     have hk3:c.kind = 3:=by
      simp [xe] at hb;exact hb.1
     have hE:ym t c v = 2:=by simp [ym,hb]
     have hd:=Wj t c v (by omega) hk3 h.paths hpe (hto hk3) hb
     rw [hE] at hR2
     rw [hbadL (by rw [hR2];decide),hR2]
     refine qa Tryz.func74 rfl _ Tryz.ntmps74 (Nat.le_of_ble_eq_true rfl) _ Tryz.results74 0 rfl rfl ?_
     repeat' (first|refine qm ?_|(first|refine jc Tryz.func95 (h1 ..) ?_|refine jc Tryz.func96 (h2 ..) ?_|(apply jT Tryz.func75 rfl rfl;intro hIsFn;refine wY ([]) hIsFn (h3 ..) ?_)|(apply jT Tryz.func97 rfl rfl;intro hIsFn;refine YR ([1]) 1 hIsFn (hd ..) ?_))|((first|refine xsC ?_ ?_);all_goals (intro hc;have hp:=hc;try simp at hp;try (exfalso;omega)))|refine qO ?_ ?_)
     all_goals try (exfalso;omega)
     (exact xE (rs:=[.tmp 6,.tmp 7]))
   | false =>
     have hd:=qgh t c v h hce hb
     by_cases hE:ym t c v = 0
     ·have hL:Ze t c v = jy t c v:=by unfold Ze;rw [if_pos (by rw [hR2,hE])]
      rw [hE] at hR2 hd
      rw [hL,hR2]
      generalize jy t c v = L at *
      have hd:qW C1.P 97 [.os 0 0 t.length,.agg c.row,.v (.int .i64 v)] [.own false 4 (t.map Ent.row)] (.tup [.os 1 0 L.length,.v (.int .i64 0)]) [.dead,.own false 4 (L.map Ent.row)]:=hd
      refine qa Tryz.func74 rfl _ Tryz.ntmps74 (Nat.le_of_ble_eq_true rfl) _ Tryz.results74 0 rfl rfl ?_
      repeat' (first|refine qm ?_|(first|refine jc Tryz.func95 (h1 ..) ?_|refine jc Tryz.func96 (h2 ..) ?_|(apply jT Tryz.func75 rfl rfl;intro hIsFn;refine wY ([]) hIsFn (h3 ..) ?_)|(apply jT Tryz.func97 rfl rfl;intro hIsFn;refine k9 ([1]) 1 hIsFn (hd ..) ?_))|((first|refine xsC ?_ ?_);all_goals (intro hc;have hp:=hc;try simp at hp;try (exfalso;omega)))|refine qO ?_ ?_)
      all_goals try (exfalso;omega)
      (exact xE (rs:=[.tmp 6,.tmp 7]))
     ·rw [hbadL (by rw [hR2];exact hE),hR2]
      generalize ym t c v = E at *
      generalize jy t c v = L at *
      have hd:qW C1.P 97 [.os 0 0 t.length,.agg c.row,.v (.int .i64 v)] [.own false 4 (t.map Ent.row)] (.tup [.sl true [],.v (.int .i64 E)]) [.dead,.own false 4 (L.map Ent.row)]:=by
       rw [Ke,if_neg hE] at hd;exact hd
      refine qa Tryz.func74 rfl _ Tryz.ntmps74 (Nat.le_of_ble_eq_true rfl) _ Tryz.results74 0 rfl rfl ?_
      repeat' (first|refine qm ?_|(first|refine jc Tryz.func95 (h1 ..) ?_|refine jc Tryz.func96 (h2 ..) ?_|(apply jT Tryz.func75 rfl rfl;intro hIsFn;refine wY ([]) hIsFn (h3 ..) ?_)|(apply jT Tryz.func97 rfl rfl;intro hIsFn;refine k9 ([1]) 1 hIsFn (hd ..) ?_))|((first|refine xsC ?_ ?_);all_goals (intro hc;have hp:=hc;try simp at hp;try (exfalso;omega)))|refine qO ?_ ?_)
      all_goals try (exfalso;omega)
      (exact xE (rs:=[.tmp 6,.tmp 7]))
  ·have hR2:zB t c v = zN t c:=by rw [hR,if_neg (by simp [hce]),if_pos hme]
   rw [hce] at h1
   rw [hbadL (by rw [hR2];exact hme),hR2]
   generalize zN t c = E at *
   refine qa Tryz.func74 rfl _ Tryz.ntmps74 (Nat.le_of_ble_eq_true rfl) _ Tryz.results74 0 rfl rfl ?_
   repeat' (first|refine qm ?_|(first|refine jc Tryz.func95 (h1 ..) ?_|refine jc Tryz.func96 (h2 ..) ?_)|((first|refine xsC ?_ ?_);all_goals (intro hc;have hp:=hc;try simp at hp;try (exfalso;omega)))|refine qO ?_ ?_)
   all_goals try (exfalso;omega)
   (exact xE (rs:=[.tmp 6,.tmp 7]))
 ·have hR2:zB t c v = yD c:=by rw [hR,if_pos hce]
  rw [hbadL (by rw [hR2];exact hce),hR2]
  generalize yD c = E at *
  refine qa Tryz.func74 rfl _ Tryz.ntmps74 (Nat.le_of_ble_eq_true rfl) _ Tryz.results74 0 rfl rfl ?_
  repeat' (first|refine qm ?_|(first|refine jc Tryz.func95 (h1 ..) ?_)|((first|refine xsC ?_ ?_);all_goals (intro hc;have hp:=hc;try simp at hp;try (exfalso;omega)))|refine qO ?_ ?_)
  all_goals try (exfalso;omega)
  (exact xE (rs:=[.tmp 6,.tmp 7]))
end Go.Proofs.YtnhpclmbhbblbaaGreatDoor
set_option linter.unusedSimpArgs false
set_option linter.unnecessarySimpa false
set_option linter.unusedVariables false
namespace Go.Proofs.YtnhpclmbhbblbaaGreatDoor
open Go.Op
def q7 (t:List Ent) (p:qQ):Option Ent:=t.find? (atP p)
theorem yV {t:List Ent} {p:qQ} {x:Ent} (h:q7 t p = some x):x ∈ t ∧ x.path = p:=by
 have h1:=List.mem_of_find?_eq_some h
 have h2:=List.find?_some h
 exact ⟨h1,by simpa [atP] using h2⟩
theorem za {t:List Ent} {p:qQ}:q7 t p = none ↔ ∀ x,x ∈ t → ¬ x.path = p:=by
 unfold q7
 rw [List.find?_eq_none]
 simp [atP]
theorem qaf {t:List Ent} (hs:q4 jr t = true) {x y:Ent} (hx:x ∈ t) (hy:y ∈ t) (h:x.path = y.path):x = y:=by
 obtain ⟨i,hi,rfl⟩:=List.getElem_of_mem hx
 obtain ⟨j,hj,rfl⟩:=List.getElem_of_mem hy
 rcases Nat.lt_trichotomy i j with h1|h1|h1
 ·have:=zP hs i j hi hj h1
  rw [h,zj] at this;cases this
 ·subst h1;rfl
 ·have:=zP hs j i hj hi h1
  rw [h,zj] at this;cases this
theorem wB {t:List Ent} (hs:q4 jr t = true) {x:Ent} (hx:x ∈ t):q7 t x.path = some x:=by
 cases h:q7 t x.path with
 | none=>exact absurd rfl (za.1 h x hx)
 | some y =>
   obtain ⟨h1,h2⟩:=yV h
   rw [qaf hs h1 hx h2]
theorem WT {t:List Ent} (hs:q4 jr t = true) {p:qQ} {x:Ent}:q7 t p = some x ↔ x ∈ t ∧ x.path = p :=
 ⟨yV,fun ⟨h1,h2⟩=>h2 ▸ wB hs h1⟩
theorem V0 {t:List Ent} {p:qQ}:jW t p = (q7 t p).isSome:=by
 unfold jW q7
 rw [Bool.eq_iff_iff,List.any_eq_true,List.find?_isSome]
theorem Vj {t:List Ent} {x:Ent} (hs:q4 jr t = true) (y:Ent):y ∈ jN t x ↔ y = x ∨ (y ∈ t ∧ ¬ y.path = x.path):=by
 obtain ⟨A,M,Z,h,hp,hA,hZ,hM⟩:=Zk x.path (xB.1 hs)
 rw [QR h hp hM,h]
 have hA' : ∀ a,a ∈ A → ¬ a.path = x.path:=fun a ha=>Yr (hA a ha)
 have hZ' : ∀ a,a ∈ Z → ¬ a.path = x.path:=fun a ha e=>Yr (hZ a ha) e.symm
 simp only [List.mem_append,List.mem_singleton]
 constructor
 ·rintro (h1|h1|h1)
  ·exact .inr ⟨.inl h1,hA' y h1⟩
  ·exact .inl h1
  ·exact .inr ⟨.inr (.inr h1),hZ' y h1⟩
 ·rintro (h1|⟨h1|h1|h1,h2⟩)
  ·exact .inr (.inl h1)
  ·exact .inl h1
  ·rcases hM with ⟨_,z,rfl,hz⟩|⟨_,rfl⟩
   ·rw [List.mem_singleton.1 h1] at h2;exact absurd hz h2
   ·cases h1
  ·exact .inr (.inr h1)
theorem kf {t:List Ent} {x:Ent} (hs:q4 jr t = true) (p:qQ):q7 (jN t x) p = if p = x.path then some x else q7 t p:=by
 have hr:=yG (x:=x) hs
 split
 ·rename_i h
  rw [WT hr,Vj hs]
  exact ⟨.inl rfl,h.symm⟩
 ·rename_i h
  cases hl:q7 t p with
  | none =>
    rw [za] at hl ⊢
    intro y hy
    rcases (Vj hs y).1 hy with rfl|⟨h1,_⟩
    ·exact fun e=>h e.symm
    ·exact hl y h1
  | some y =>
    obtain ⟨h1,h2⟩:=yV hl
    rw [WT hr,Vj hs]
    exact ⟨.inr ⟨h1,by rw [h2];exact h⟩,h2⟩
theorem Xw (t:List Ent) (q p:qQ):q7 (j4 (zV q) t) p = if inB p q = true then none else q7 t p:=by
 split
 ·rename_i h
  rw [za]
  intro x hx
  have:=(List.mem_filter.1 hx).2
  intro e
  simp only [zV,e,h] at this
  exact absurd this (by decide)
 ·rename_i h
  unfold q7 j4
  rw [List.find?_filter]
  congr 1
  funext x
  by_cases hx:x.path = p
  ·simp [atP,zV,hx,h]
  ·simp [atP,hx]
theorem XQ : ∀ {l t:List Ent},q4 jr t = true → (l.Pairwise fun a b => ¬ a.path = b.path) → ∀ p,q7 (l.foldl jN t) p = match q7 l p with|some x=>some x|none=>q7 t p
 | [],t,_,_,p=>rfl
 | x :: l,t,hs,hd,p=>by
   have hd1:=List.pairwise_cons.1 hd
   rw [List.foldl_cons,XQ (yG hs) hd1.2 p,kf hs]
   by_cases hp:p = x.path
   ·subst hp
    have:q7 l x.path = none:=za.2 fun y hy e=>hd1.1 y hy e.symm
    rw [this]
    simp [q7,atP]
   ·have h2:q7 (x :: l) p = q7 l p:=by
     unfold q7
     rw [List.find?_cons_of_neg]
     simp [atP];exact fun e=>hp e.symm
    rw [h2,if_neg hp]
theorem zw {p q:qQ}:inB p q = true ↔ ∃ r,p = q ++ r ∧ (r = [] ∨ r.head? = some 47):=by
 unfold inB
 rw [Bool.or_eq_true,decide_eq_true_eq,List.isPrefixOf_iff_prefix]
 constructor
 ·rintro (rfl|⟨s,h⟩)
  ·exact ⟨[],by simp,.inl rfl⟩
  ·exact ⟨47 :: s,by rw [← h];simp,.inr rfl⟩
 ·rintro ⟨r,rfl,rfl|h⟩
  ·exact .inl (by simp)
  ·cases r with
   | nil=>exact .inl (by simp)
   | cons c r =>
     simp at h
     subst h
     exact .inr ⟨r,by simp⟩
theorem JE {p q r:qQ} (h1:inB p q = true) (h2:inB q r = true):inB p r = true:=by
 obtain ⟨a,rfl,ha⟩:=zw.1 h1
 obtain ⟨b,rfl,hb⟩:=zw.1 h2
 refine zw.2 ⟨b ++ a,by simp,?_⟩
 cases b with
 | nil=>simpa using ha
 | cons c b=>right;simpa using hb
theorem qeb {p q:qQ} (h1:inB p q = true) (h2:inB q p = true):p = q:=by
 obtain ⟨a,h,_⟩:=zw.1 h1
 obtain ⟨b,h',_⟩:=zw.1 h2
 have hl:a = []:=by
  have:=congrArg List.length h
  have:=congrArg List.length h'
  simp at *
  exact List.length_eq_zero_iff.1 (by omega)
 rw [h,hl];simp
theorem we {p q:qQ}:inB p q = true ↔ qo q <+: qo p:=by rw [Vh,List.isPrefixOf_iff_prefix]
end Go.Proofs.YtnhpclmbhbblbaaGreatDoor
set_option linter.unusedSimpArgs false
set_option linter.unnecessarySimpa false
set_option linter.unusedVariables false
namespace Go.Ab
theorem KT {C:Cx} {ts:List (Nat × AV)} {hs:List (Nat × HB)} {nx:Nat} (i n:Nat) {off len:Nat} {rows:List (List AV)} (hi:qR ts i = .os n off len) (hn:ja hs n = .fz rows) (hl:off + len ≤ rows.length):Red C ⟨ts,hs,nx⟩ ⟨(i,.sl false ((rows.drop off).take len)) :: ts,hs,nx⟩:=by
 intro B a w hB ⟨g1,g2,F,ρ,hp,g4⟩
 refine ⟨g1,g2,F,ρ, { kept:=hp.kept,agree:=hp.agree,grow:=hp.grow,fresh:=hp.fresh,names:=hp.names,dom:=hp.dom,own:=hp.own,new:=hp.new,sep:=hp.sep },fun m=>?_⟩
 show M F ρ _ (qR ((i,_) :: ts) m)
 rw [Qe]
 by_cases him:i = m
 ·subst him
  rw [if_pos rfl]
  have h1:M F ρ _ (qR ts i):=g4 i
  rw [hi] at h1
  have h2:OwnAt F ρ w n (ja hs n):=hp.own n
  exact qaL (L:=[]) (rh:=[n]) (h:=ja hs) hn (by simp) hl F ρ ρ w _ (fun m hm=>by obtain rfl:=List.mem_singleton.1 hm;exact h2) (fun a b hm c hc=>by
   rcases hm with h|h
   ·obtain rfl:=h.2;exact hc
   ·cases h) h1
 ·rw [if_neg him]
  exact g4 m
end Go.Ab
set_option maxHeartbeats 1000000
namespace Go.Proofs.YtnhpclmbhbblbaaGreatDoor
open Go.Ab Go.RowKit
set_option maxRecDepth 10000
attribute [local irreducible] Awp yl jE jl Red qX Go.Ab.Fin qW Rz vl jj ji ResOk jV jz yb jv
theorem QX {t:List Ent} (h:qD t = 0):t.length ≤ 60 ∧ (∀ x,x ∈ t → xg x = 0) ∧ q4 jr t = true ∧ ∀ x,x ∈ t → yE t x = 0:=by
 unfold qD at h
 split at h
 ·exact absurd h (by decide)
 ·split at h
  ·split at h
   ·split at h
    ·exact absurd h (by decide)
    ·split at h
     ·exact absurd h (by decide)
     ·rename_i h1 h2 h3 h4 h5
      refine ⟨by omega,vA.1 h2,h3,fun x hx=>?_⟩
      have h6:(t.any fun x=>decide (¬ yE t x = 0)) = false:=by simpa using h5
      rw [List.any_eq_false] at h6
      simpa using h6 x hx
   ·exact absurd h (by decide)
  ·contradiction
theorem j5 {x:Ent} (h:xg x = 0):qy x.path = 0 ∧ ¬ (x.fold = true ∧ ¬ x.text = []) ∧ x.text.length ≤ 300 ∧ vH x.ver = true:=by
 unfold xg at h
 split at h
 ·split at h
  ·exact absurd h (by decide)
  ·split at h
   ·exact absurd h (by decide)
   ·split at h
    ·exact ⟨by assumption,by assumption,by omega,by assumption⟩
    ·exact absurd h (by decide)
 ·contradiction
theorem RightE.of {t:List Ent} (h:qD t = 0):RightE t:=by
 obtain ⟨h1,h2,h3,h4⟩:=QX h
 exact ⟨h3,fun x hx=>(j5 (h2 x hx)).1,by omega⟩
def Qt (t:List Ent) (c:Chg) (v:Int):Int:=if ¬ qD t = 0 then qD t else if vH v = false then 3 else zB t c v
def Xd (t:List Ent) (c:Chg) (v:Int):List Ent:=if Qt t c v = 0 then jy t c v else []
theorem qeI (t:List Ent) (c:Chg) (v:Int) (hb:EBig t) (hcs:c.small):yO C.P 40 [qb t,.agg c.row,.v (.int .i64 v)] (.tup [qb (Xd t c v),.v (.int .i64 (Qt t c v))]):=by
 have h1:=Vr t hb
 have h2:=Vu v
 have hE:Qt t c v = if ¬ qD t = 0 then qD t else if vH v = false then 3 else zB t c v:=rfl
 have hL:Xd t c v = if Qt t c v = 0 then jy t c v else []:=rfl
 by_cases hte:qD t = 0
 ·have hr:=qdt t c v (RightE.of hte) hcs
  have hrL:Ze t c v = if zB t c v = 0 then jy t c v else []:=rfl
  rw [hte] at h1
  rw [if_neg (by simp [hte])] at hE
  generalize vH v = V at *
  cases V with
  | true =>
    have hE2:Qt t c v = zB t c v:=by rw [hE];simp
    rw [hE2] at hL
    rw [← hL] at hrL
    rw [hrL] at hr
    rw [hE2]
    generalize Xd t c v = L at *
    generalize zB t c v = R at *
    refine qa Tryz.func40 rfl _ Tryz.ntmps40 (Nat.le_of_ble_eq_true rfl) _ Tryz.results40 0 rfl rfl ?_
    repeat' (first|refine qm ?_|(first|(refine jM ?_)|refine xsQ Tryz.func42 (h1 ..) ?_|refine jc Tryz.func73 (h2 ..) ?_|refine xsQ Tryz.func74 (hr ..) ?_)|((first|refine xsC ?_ ?_);all_goals (intro hc;have hp:=hc;try simp at hp;try (exfalso;omega)))|refine qO ?_ ?_)
    all_goals try (exfalso;omega)
    (exact xE (rs:=[.tmp 6,.tmp 7]))
  | false =>
    have hE2:Qt t c v = 3:=by rw [hE];simp
    rw [hE2,if_neg (by decide)] at hL
    rw [hE2,hL]
    refine qa Tryz.func40 rfl _ Tryz.ntmps40 (Nat.le_of_ble_eq_true rfl) _ Tryz.results40 0 rfl rfl ?_
    repeat' (first|refine qm ?_|(first|(refine jM ?_)|refine xsQ Tryz.func42 (h1 ..) ?_|refine jc Tryz.func73 (h2 ..) ?_)|((first|refine xsC ?_ ?_);all_goals (intro hc;have hp:=hc;try simp at hp;try (exfalso;omega)))|refine qO ?_ ?_)
    all_goals try (exfalso;omega)
    (exact xE (rs:=[.tmp 6,.tmp 7]))
 ·rw [if_pos hte] at hE
  have hL2:Xd t c v = []:=by rw [hL,if_neg (by rw [hE];exact hte)]
  rw [hE,hL2]
  generalize qD t = E at *
  refine qa Tryz.func40 rfl _ Tryz.ntmps40 (Nat.le_of_ble_eq_true rfl) _ Tryz.results40 0 rfl rfl ?_
  repeat' (first|refine qm ?_|(first|(refine jM ?_)|refine xsQ Tryz.func42 (h1 ..) ?_)|((first|refine xsC ?_ ?_);all_goals (intro hc;have hp:=hc;try simp at hp;try (exfalso;omega)))|refine qO ?_ ?_)
  all_goals try (exfalso;omega)
  (exact xE (rs:=[.tmp 6,.tmp 7]))
end Go.Proofs.YtnhpclmbhbblbaaGreatDoor
