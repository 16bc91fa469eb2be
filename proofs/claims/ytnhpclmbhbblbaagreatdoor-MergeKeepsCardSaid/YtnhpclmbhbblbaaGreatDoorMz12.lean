import Derived.Test.YtnhpclmbhbblbaaGreatDoorMz11
import Derived.Test.YtnhpclmbhbblbaaGreatDoorMz10
set_option linter.unusedSimpArgs false
set_option linter.unnecessarySimpa false
set_option linter.unusedVariables false
set_option maxHeartbeats 1000000
namespace Go.Proofs.YtnhpclmbhbblbaaGreatDoor
open Go.Ab Go.RowKit
set_option maxRecDepth 10000
attribute [local irreducible] Awp jW jh jn Red qD Go.Ab.Fin qI Rz x4 ji jf ResOk jQ jq yl jg
def zV (t:List Ent) (c:Chg) (i:Nat):Bool:=((t.take i).filter (YW c.path)).any fun x=>jF (c.to ++ x.path.drop c.path.length)
theorem Wf {t:List Ent} {c:Chg} {i:Nat} (h:i < t.length):zV t c (i + 1) = (zV t c i || (inB t[i].path c.path && jF (c.to ++ t[i].path.drop c.path.length))):=by
 unfold zV
 rw [List.take_succ_eq_append_getElem h,List.filter_append,List.any_append]
 cases hs:inB t[i].path c.path<;>simp [hs,YW]
theorem X8 (t:List Ent) (c:Chg) (v:Int) (hl:t.length ≤ 1000000) (hk:c.kind = 3) (hgt : ∀ x,x ∈ t → qn x.path = 0) (hc1:qn c.path = 0) (hc2:qn c.to = 0) (hbad:xB t c = true) :
  qI C1.P 97 [.os 0 0 t.length,.agg c.row,.v (.int .i64 v)] [.own false 4 (t.map Ent.row)] (.tup [.sl true [],.v (.int .i64 2)]) [.own false 4 (t.map Ent.row)]:=by
 have l1:=q9 hc1
 have l2:=q9 hc2
 have hml:(t.map Ent.row).length = t.length:=List.length_map ..
 refine qa (C:=C1) Tryz.func97 rfl _ Tryz.ntmps97 (Nat.le_of_ble_eq_true rfl) _ Tryz.results97 1 rfl rfl ?_
 repeat' (first|refine qu ?_|fail|((first|refine qk ?_ ?_|refine qj ?_ ?_|refine xsC ?_ ?_);all_goals (intro hc;have hp:=hc;try simp at hp;try (exfalso;omega)))|refine jc ?_ ?_)
 all_goals try (exfalso;omega)
 refine Awp.red (C:=C1) (Qo 8 4 rfl (Nat.le_of_ble_eq_true rfl)) ?_
 (refine Awp.red (qN (τ:=⟨[(0,.os 0 0 t.length),(2,.v (.int .i64 v)),(4,.op 1 0 0),(8,.os 2 0 0),(43,.os 0 0 t.length),(44,.v (.int .i64 t.length)),(45,.v (.int .i64 ((0:Nat):Int)))],[(0,.own false 4 (t.map Ent.row)),(1,.own false 5 [c.row]),(2,.own false 4 [])],3⟩) [(1,1),(2,2)] rfl ?gts ?ghs) ?gmain;(case gts=>(repeat (first|exact qp|refine qE ?_|refine yq ?_|refine QI ?_|refine ju ?_ ?_)));(case ghs=>(repeat (first|exact qh|refine xO ?_|refine q7 ?_ ?_))))
 refine jr (C:=C1) (fun n σ => ∃ i:Nat,i ≤ t.length ∧ n = t.length - i ∧ zV t c i = false ∧ σ = ⟨[(0,.os 0 0 t.length),(2,.v (.int .i64 v)),(4,.op 1 0 0),(8,.os 2 0 (jG (t.take i) c v).length),(43,.os 0 0 t.length),(44,.v (.int .i64 t.length)),(45,.v (.int .i64 (i:Int)))],[(0,.own false 4 (t.map Ent.row)),(1,.own false 5 [c.row]),(2,.own false 4 ((jG (t.take i) c v).map Ent.row))],3⟩) t.length ⟨0,Nat.zero_le _,rfl,rfl,rfl⟩ ?_
 rintro n σ ⟨i,hi,rfl,hsofar,rfl⟩
 have hgl:(jG (t.take i) c v).length ≤ i:=by
  unfold jG
  rw [List.length_map]
  have h1:((t.take i).filter (YW c.path)).length ≤ (t.take i).length:=List.length_filter_le ..
  simp at h1;omega
 by_cases hlt:i < t.length
 ·have hr:=yA (f:=Ent.row) hlt
  have hpx:=hgt t[i] (List.getElem_mem _)
  have lx:=q9 hpx
  have hin:=Kd t[i].path c.path (by omega)
  have hgs := @YU t c v i hlt
  have hmv:=ZR t[i].path c.path c.to (by omega) (by omega) (by omega)
  have hme := @kH t[i].path c.path c.to hpx hc1 hc2
  have hbs := @Wf t c i hlt
  rw [hsofar] at hbs
  have hmt : ∀ w,(if t[i].path = c.path then v else t[i].ver) = w → (xZ c v t[i]).row = [.v (str (c.to ++ t[i].path.drop c.path.length)),.v (.bool t[i].fold),.v (str t[i].text),.v (.int .i64 w)]:=fun w hw=>by simp [xZ,Ent.row,hw]
  generalize hG:jG (t.take i) c v = G at hgl hgs ⊢
  generalize inB t[i].path c.path = I at *
  cases I with
  | false =>
    rw [if_neg (by decide)] at hgs
    have hbs:zV t c (i + 1) = false:=hbs
    repeat' (first|refine qu ?_|(first|(refine xC ?_)|(refine yu ?_)|(refine v2 ?_)|refine yY Tryz.func104 (hin ..) ?_|refine xP Tryz.func124 (hmv ..) ?_)|((first|refine qk ?_ ?_|refine qj ?_ ?_|refine xsC ?_ ?_);all_goals (intro hc;have hp:=hc;try simp at hp;try (exfalso;omega)))|refine jc ?_ ?_)
    all_goals try (exfalso;omega)
    refine ⟨t.length - (i + 1),_,by omega,qN (τ:=⟨[(0,.os 0 0 t.length),(2,.v (.int .i64 v)),(4,.op 1 0 0),(8,.os 2 0 (jG (t.take (i + 1)) c v).length),(43,.os 0 0 t.length),(44,.v (.int .i64 t.length)),(45,.v (.int .i64 ((i + 1:Nat):Int)))],[(0,.own false 4 (t.map Ent.row)),(1,.own false 5 [c.row]),(2,.own false 4 ((jG (t.take (i + 1)) c v).map Ent.row))],3⟩) [(1,1),(2,2)] rfl ?gts ?ghs,i + 1,by omega,rfl,(hbs),rfl⟩;(case gts=>(repeat (first|exact qp|refine qE ?_|refine yq ?_|refine QI ?_|refine ju ?_ ?_));all_goals (rw [hgs]));(case ghs=>(repeat (first|exact qh|refine xO ?_|refine q7 ?_ ?_));all_goals (rw [hgs]))
  | true =>
    have hme2:=hme rfl
    clear hme
    rw [if_pos rfl] at hgs
    have hlen1:(jG (t.take (i + 1)) c v).length = G.length + 1:=by rw [hgs];simp
    generalize c.to ++ t[i].path.drop c.path.length = Q at *
    generalize xo t[i].path c.path c.to = E at *
    cases hq:jF Q with
    | true =>
      rw [hq,if_pos rfl] at hme2
      subst hme2
      repeat' (first|refine qu ?_|(first|(refine xC ?_)|(refine yu ?_)|(refine v2 ?_)|refine yY Tryz.func104 (hin ..) ?_|refine xP Tryz.func124 (hmv ..) ?_)|((first|refine qk ?_ ?_|refine qj ?_ ?_|refine xsC ?_ ?_);all_goals (intro hc;have hp:=hc;try simp at hp;try (exfalso;omega)))|refine jc ?_ ?_)
      all_goals try (exfalso;omega)
      all_goals ((refine Z8 (rs:=[.tmp 6,.tmp 7]) [] 1 ?_;(repeat (first|exact qh|refine xO ?_|refine q7 ?_ ?_));all_goals trace_state))
    | false =>
      rw [hq,if_neg (by decide)] at hme2
      subst hme2
      rw [hq] at hbs
      have hbs:zV t c (i + 1) = false:=hbs
      repeat' (first|refine qu ?_|(first|(refine xC ?_)|(refine yu ?_)|(refine v2 ?_)|refine yY Tryz.func104 (hin ..) ?_|refine xP Tryz.func124 (hmv ..) ?_)|((first|refine qk ?_ ?_|refine qj ?_ ?_|refine xsC ?_ ?_);all_goals (intro hc;have hp:=hc;try simp at hp;try (exfalso;omega)))|refine jc ?_ ?_)
      all_goals try (exfalso;omega)
      ·have hrow:=hmt v (if_pos (by assumption))
       clear hmt hin hmv hgt hpx lx hr hq hbad
       refine ⟨t.length - (i + 1),_,by omega,qN (τ:=⟨[(0,.os 0 0 t.length),(2,.v (.int .i64 v)),(4,.op 1 0 0),(8,.os 2 0 (jG (t.take (i + 1)) c v).length),(43,.os 0 0 t.length),(44,.v (.int .i64 t.length)),(45,.v (.int .i64 ((i + 1:Nat):Int)))],[(0,.own false 4 (t.map Ent.row)),(1,.own false 5 [c.row]),(2,.own false 4 ((jG (t.take (i + 1)) c v).map Ent.row))],3⟩) [(1,1),(4,2)] rfl ?gts ?ghs,i + 1,by omega,rfl,(hbs),rfl⟩;(case gts=>(repeat (first|exact qp|refine qE ?_|refine yq ?_|refine QI ?_|refine ju ?_ ?_));all_goals (first|(rw [hlen1];done)|(rw [hgs,List.map_append,List.take_of_length_le (by simp)];show _ = _ ++ [(xZ c v t[i]).row];rw [hrow];rfl)));(case ghs=>(repeat (first|exact qh|refine xO ?_|refine q7 ?_ ?_));all_goals (first|(rw [hlen1];done)|(rw [hgs,List.map_append,List.take_of_length_le (by simp)];show _ = _ ++ [(xZ c v t[i]).row];rw [hrow];rfl)))
      ·have hrow:=hmt t[i].ver (if_neg (by assumption))
       clear hmt hin hmv hgt hpx lx hr hq hbad
       refine ⟨t.length - (i + 1),_,by omega,qN (τ:=⟨[(0,.os 0 0 t.length),(2,.v (.int .i64 v)),(4,.op 1 0 0),(8,.os 2 0 (jG (t.take (i + 1)) c v).length),(43,.os 0 0 t.length),(44,.v (.int .i64 t.length)),(45,.v (.int .i64 ((i + 1:Nat):Int)))],[(0,.own false 4 (t.map Ent.row)),(1,.own false 5 [c.row]),(2,.own false 4 ((jG (t.take (i + 1)) c v).map Ent.row))],3⟩) [(1,1),(4,2)] rfl ?gts ?ghs,i + 1,by omega,rfl,(hbs),rfl⟩;(case gts=>(repeat (first|exact qp|refine qE ?_|refine yq ?_|refine QI ?_|refine ju ?_ ?_));all_goals (first|(rw [hlen1];done)|(rw [hgs,List.map_append,List.take_of_length_le (by simp)];show _ = _ ++ [(xZ c v t[i]).row];rw [hrow];rfl)));(case ghs=>(repeat (first|exact qh|refine xO ?_|refine q7 ?_ ?_));all_goals (first|(rw [hlen1];done)|(rw [hgs,List.map_append,List.take_of_length_le (by simp)];show _ = _ ++ [(xZ c v t[i]).row];rw [hrow];rfl)))
 ·obtain rfl:i = t.length:=by omega
  unfold zV at hsofar
  rw [List.take_length] at hsofar
  simp only [xB,hk,hsofar] at hbad
  simp at hbad
theorem V7 (t:List Ent) (c:Chg) (v:Int) (hl:t.length ≤ 400000) (hk:c.kind = 3) (hgt : ∀ x,x ∈ t → qn x.path = 0) (hc1:qn c.path = 0) (hc2:qn c.to = 0) (hbad:xB t c = false) (hs:qS jj t = true) :
  qI C1.P 97 [.os 0 0 t.length,.agg c.row,.v (.int .i64 v)] [.own false 4 (t.map Ent.row)] (Y6 (y5 t c v) (jE t c v).length) [.dead,.own false 4 ((jE t c v).map Ent.row)]:=by
 have l1:=q9 hc1
 have l2:=q9 hc2
 have hnb : ∀ x,x ∈ t → inB x.path c.path = true → jF (c.to ++ x.path.drop c.path.length) = false:=fun x hx hi=>by
  simp only [xB,hk,decide_true,Bool.true_and,List.any_eq_false] at hbad
  simpa using hbad x (List.mem_filter.2 ⟨hx,hi⟩)
 have hwo:=YJ t c.path (by omega) (by omega)
 have hD:jE t c v = (jG t c v).foldl js (yD (YW c.path) t):=by simp [jE,hk]
 have hE:y5 t c v = if 60 < (jE t c v).length then 2 else 0:=by simp [y5,hbad]
 have hkl:(yD (YW c.path) t).length ≤ t.length:=List.length_filter_le ..
 have hkr:=kf (p:=YW c.path) hs
 have hml:(t.map Ent.row).length = t.length:=List.length_map ..
 refine qa (C:=C1) Tryz.func97 rfl _ Tryz.ntmps97 (Nat.le_of_ble_eq_true rfl) _ Tryz.results97 1 rfl rfl ?_
 repeat' (first|refine qu ?_|fail|((first|refine qk ?_ ?_|refine qj ?_ ?_|refine xsC ?_ ?_);all_goals (intro hc;have hp:=hc;try simp at hp;try (exfalso;omega)))|refine jc ?_ ?_)
 all_goals try (exfalso;omega)
 refine Awp.red (C:=C1) (Qo 8 4 rfl (Nat.le_of_ble_eq_true rfl)) ?_
 (refine Awp.red (qN (τ:=⟨[(0,.os 0 0 t.length),(2,.v (.int .i64 v)),(4,.op 1 0 0),(8,.os 2 0 0),(43,.os 0 0 t.length),(44,.v (.int .i64 t.length)),(45,.v (.int .i64 ((0:Nat):Int)))],[(0,.own false 4 (t.map Ent.row)),(1,.own false 5 [c.row]),(2,.own false 4 [])],3⟩) [(1,1),(2,2)] rfl ?gts ?ghs) ?gmain;(case gts=>(repeat (first|exact qp|refine qE ?_|refine yq ?_|refine QI ?_|refine ju ?_ ?_)));(case ghs=>(repeat (first|exact qh|refine xO ?_|refine q7 ?_ ?_))))
 refine jr (C:=C1) (fun n σ => ∃ i:Nat,i ≤ t.length ∧ n = t.length - i ∧ True ∧ σ = ⟨[(0,.os 0 0 t.length),(2,.v (.int .i64 v)),(4,.op 1 0 0),(8,.os 2 0 (jG (t.take i) c v).length),(43,.os 0 0 t.length),(44,.v (.int .i64 t.length)),(45,.v (.int .i64 (i:Int)))],[(0,.own false 4 (t.map Ent.row)),(1,.own false 5 [c.row]),(2,.own false 4 ((jG (t.take i) c v).map Ent.row))],3⟩) t.length ⟨0,Nat.zero_le _,rfl,trivial,rfl⟩ ?_
 rintro n σ ⟨i,hi,rfl, -,rfl⟩
 have hgl:(jG (t.take i) c v).length ≤ i:=by
  unfold jG
  rw [List.length_map]
  have h1:((t.take i).filter (YW c.path)).length ≤ (t.take i).length:=List.length_filter_le ..
  simp at h1;omega
 by_cases hlt:i < t.length
 ·have hr:=yA (f:=Ent.row) hlt
  have hpx:=hgt t[i] (List.getElem_mem _)
  have lx:=q9 hpx
  have hin:=Kd t[i].path c.path (by omega)
  have hgs := @YU t c v i hlt
  have hmv:=ZR t[i].path c.path c.to (by omega) (by omega) (by omega)
  have hme := @kH t[i].path c.path c.to hpx hc1 hc2
  have hnb1:=hnb t[i] (List.getElem_mem _)
  have hmt : ∀ w,(if t[i].path = c.path then v else t[i].ver) = w → (xZ c v t[i]).row = [.v (str (c.to ++ t[i].path.drop c.path.length)),.v (.bool t[i].fold),.v (str t[i].text),.v (.int .i64 w)]:=fun w hw=>by simp [xZ,Ent.row,hw]
  generalize hG:jG (t.take i) c v = G at hgl hgs ⊢
  generalize inB t[i].path c.path = I at *
  cases I with
  | false =>
    rw [if_neg (by decide)] at hgs
    repeat' (first|refine qu ?_|(first|(refine xC ?_)|(refine yu ?_)|(refine v2 ?_)|refine yY Tryz.func104 (hin ..) ?_|refine xP Tryz.func124 (hmv ..) ?_)|((first|refine qk ?_ ?_|refine qj ?_ ?_|refine xsC ?_ ?_);all_goals (intro hc;have hp:=hc;try simp at hp;try (exfalso;omega)))|refine jc ?_ ?_)
    all_goals try (exfalso;omega)
    refine ⟨t.length - (i + 1),_,by omega,qN (τ:=⟨[(0,.os 0 0 t.length),(2,.v (.int .i64 v)),(4,.op 1 0 0),(8,.os 2 0 (jG (t.take (i + 1)) c v).length),(43,.os 0 0 t.length),(44,.v (.int .i64 t.length)),(45,.v (.int .i64 ((i + 1:Nat):Int)))],[(0,.own false 4 (t.map Ent.row)),(1,.own false 5 [c.row]),(2,.own false 4 ((jG (t.take (i + 1)) c v).map Ent.row))],3⟩) [(1,1),(2,2)] rfl ?gts ?ghs,i + 1,by omega,rfl,trivial,rfl⟩;(case gts=>(repeat (first|exact qp|refine qE ?_|refine yq ?_|refine QI ?_|refine ju ?_ ?_));all_goals (rw [hgs]));(case ghs=>(repeat (first|exact qh|refine xO ?_|refine q7 ?_ ?_));all_goals (rw [hgs]))
  | true =>
    have hme2:=hme rfl
    clear hme
    rw [if_pos rfl] at hgs
    have hlen1:(jG (t.take (i + 1)) c v).length = G.length + 1:=by rw [hgs];simp
    generalize c.to ++ t[i].path.drop c.path.length = Q at *
    generalize xo t[i].path c.path c.to = E at *
    have hq:jF Q = false:=hnb1 rfl
    rw [hq,if_neg (by decide)] at hme2
    subst hme2
    repeat' (first|refine qu ?_|(first|(refine xC ?_)|(refine yu ?_)|(refine v2 ?_)|refine yY Tryz.func104 (hin ..) ?_|refine xP Tryz.func124 (hmv ..) ?_)|((first|refine qk ?_ ?_|refine qj ?_ ?_|refine xsC ?_ ?_);all_goals (intro hc;have hp:=hc;try simp at hp;try (exfalso;omega)))|refine jc ?_ ?_)
    all_goals try (exfalso;omega)
    ·have hrow:=hmt v (if_pos (by assumption))
     clear hmt hin hmv hgt hpx lx hr hq hnb hnb1 hwo hE hD
     refine ⟨t.length - (i + 1),_,by omega,qN (τ:=⟨[(0,.os 0 0 t.length),(2,.v (.int .i64 v)),(4,.op 1 0 0),(8,.os 2 0 (jG (t.take (i + 1)) c v).length),(43,.os 0 0 t.length),(44,.v (.int .i64 t.length)),(45,.v (.int .i64 ((i + 1:Nat):Int)))],[(0,.own false 4 (t.map Ent.row)),(1,.own false 5 [c.row]),(2,.own false 4 ((jG (t.take (i + 1)) c v).map Ent.row))],3⟩) [(1,1),(4,2)] rfl ?gts ?ghs,i + 1,by omega,rfl,trivial,rfl⟩;(case gts=>(repeat (first|exact qp|refine qE ?_|refine yq ?_|refine QI ?_|refine ju ?_ ?_));all_goals (first|(rw [hlen1];done)|(rw [hgs,List.map_append,List.take_of_length_le (by simp)];show _ = _ ++ [(xZ c v t[i]).row];rw [hrow];rfl)));(case ghs=>(repeat (first|exact qh|refine xO ?_|refine q7 ?_ ?_));all_goals (first|(rw [hlen1];done)|(rw [hgs,List.map_append,List.take_of_length_le (by simp)];show _ = _ ++ [(xZ c v t[i]).row];rw [hrow];rfl)))
    ·have hrow:=hmt t[i].ver (if_neg (by assumption))
     clear hmt hin hmv hgt hpx lx hr hq hnb hnb1 hwo hE hD
     refine ⟨t.length - (i + 1),_,by omega,qN (τ:=⟨[(0,.os 0 0 t.length),(2,.v (.int .i64 v)),(4,.op 1 0 0),(8,.os 2 0 (jG (t.take (i + 1)) c v).length),(43,.os 0 0 t.length),(44,.v (.int .i64 t.length)),(45,.v (.int .i64 ((i + 1:Nat):Int)))],[(0,.own false 4 (t.map Ent.row)),(1,.own false 5 [c.row]),(2,.own false 4 ((jG (t.take (i + 1)) c v).map Ent.row))],3⟩) [(1,1),(4,2)] rfl ?gts ?ghs,i + 1,by omega,rfl,trivial,rfl⟩;(case gts=>(repeat (first|exact qp|refine qE ?_|refine yq ?_|refine QI ?_|refine ju ?_ ?_));all_goals (first|(rw [hlen1];done)|(rw [hgs,List.map_append,List.take_of_length_le (by simp)];show _ = _ ++ [(xZ c v t[i]).row];rw [hrow];rfl)));(case ghs=>(repeat (first|exact qh|refine xO ?_|refine q7 ?_ ?_));all_goals (first|(rw [hlen1];done)|(rw [hgs,List.map_append,List.take_of_length_le (by simp)];show _ = _ ++ [(xZ c v t[i]).row];rw [hrow];rfl)))
 obtain rfl:i = t.length:=by omega
 have hgl2:(jG t c v).length ≤ t.length:=by rw [List.take_length] at hgl;exact hgl
 rw [List.take_length]
 generalize hK:yD (YW c.path) t = K at *
 generalize hGo:jG t c v = G at *
 generalize y5 t c v = E at *
 clear hnb hgl
 repeat' (first|refine qu ?_|(first|(apply jm Tryz.func123 rfl rfl;intro hIsFn;refine Qf ([0]) 0 hIsFn (hwo ..) ?_))|((first|refine qk ?_ ?_|refine qj ?_ ?_|refine xsC ?_ ?_);all_goals (intro hc;have hp:=hc;try simp at hp;try (exfalso;omega)))|refine jc ?_ ?_)
 all_goals try (exfalso;omega)
 refine Awp.red (C:=C1) (VP 0 0 K.length rfl rfl (List.take_of_length_le (by simp)) (Nat.ne_of_beq_eq_false rfl) (Nat.le_of_ble_eq_true rfl)) ?_
 (refine Awp.red (qN (τ:=⟨[(0,.os 2 0 ((G.take 0).foldl js K).length),(86,.os 1 0 G.length),(87,.v (.int .i64 G.length)),(88,.v (.int .i64 ((0:Nat):Int)))],[(1,.own false 4 (G.map Ent.row)),(2,.own false 4 (((G.take 0).foldl js K).map Ent.row))],3⟩) [(2,1),(3,2)] rfl ?gts2 ?ghs2) ?gmain2;(case gts2=>(repeat (first|exact qp|refine qE ?_|refine yq ?_|refine QI ?_|refine ju ?_ ?_));all_goals skip);(case ghs2=>(repeat (first|exact qh|refine xO ?_|refine q7 ?_ ?_))))
 refine jr (C:=C1) (fun n σ => ∃ i:Nat,i ≤ G.length ∧ n = G.length - i ∧ True ∧ σ = ⟨[(0,.os 2 0 ((G.take i).foldl js K).length),(86,.os 1 0 G.length),(87,.v (.int .i64 G.length)),(88,.v (.int .i64 (i:Int)))],[(1,.own false 4 (G.map Ent.row)),(2,.own false 4 (((G.take i).foldl js K).map Ent.row))],3⟩) G.length ⟨0,Nat.zero_le _,rfl,trivial,rfl⟩ ?_
 rintro n σ ⟨i,hi,rfl, -,rfl⟩
 have hLr:=zA (l:=G.take i) hkr
 have hLl:=wJ (G.take i) K
 have hLs:=fun h => @VO G K i h
 have htl:(G.take i).length ≤ G.length:=by simp;omega
 by_cases hlt:i < G.length
 ·have hr:=yA (f:=Ent.row) hlt
  have hLs:=hLs hlt
  generalize (G.take i).foldl js K = L at *
  have hput:=Wa L G[i] (by omega) hLr
  rw [← hLs] at hput
  repeat' (first|refine qu ?_|(first|(refine xC ?_)|(apply jm Tryz.func122 rfl rfl;intro hIsFn;refine vJ ([2]) 2 hIsFn (hput ..) ?_))|((first|refine qk ?_ ?_|refine qj ?_ ?_|refine xsC ?_ ?_);all_goals (intro hc;have hp:=hc;try simp at hp;try (exfalso;omega)))|refine jc ?_ ?_)
  all_goals try (exfalso;omega)
  clear hLr hLl hput hr hwo hE hD hkr
  refine ⟨G.length - (i + 1),_,by omega,qN (τ:=⟨[(0,.os 2 0 ((G.take (i + 1)).foldl js K).length),(86,.os 1 0 G.length),(87,.v (.int .i64 G.length)),(88,.v (.int .i64 ((i + 1:Nat):Int)))],[(1,.own false 4 (G.map Ent.row)),(2,.own false 4 (((G.take (i + 1)).foldl js K).map Ent.row))],3⟩) [(1,1),(4,2)] rfl ?gts ?ghs,i + 1,by omega,rfl,trivial,rfl⟩;(case gts=>(repeat (first|exact qp|refine qE ?_|refine yq ?_|refine QI ?_|refine ju ?_ ?_)));(case ghs=>(repeat (first|exact qh|refine xO ?_|refine q7 ?_ ?_)))
 obtain rfl:i = G.length:=by omega
 rw [List.take_length] at *
 rw [← hD] at *
 generalize jE t c v = L at *
 by_cases h60:60 < L.length
 ·rw [if_pos h60] at hE
  subst hE
  repeat' (first|refine qu ?_|fail|((first|refine qk ?_ ?_|refine qj ?_ ?_|refine xsC ?_ ?_);all_goals (intro hc;have hp:=hc;try simp at hp;try (exfalso;omega)))|refine jc ?_ ?_)
  all_goals try (exfalso;omega)
  (refine Z8 (rs:=[.tmp 6,.tmp 7]) [(2,1)] 2 ?_;(apply ya 0;exact qq rfl;(repeat (first|exact qh|refine xO ?_|refine q7 ?_ ?_)));all_goals trace_state)
 ·rw [if_neg h60] at hE
  subst hE
  repeat' (first|refine qu ?_|fail|((first|refine qk ?_ ?_|refine qj ?_ ?_|refine xsC ?_ ?_);all_goals (intro hc;have hp:=hc;try simp at hp;try (exfalso;omega)))|refine jc ?_ ?_)
  all_goals try (exfalso;omega)
  (refine Z8 (rs:=[.tmp 6,.tmp 7]) [(2,1)] 2 ?_;(apply ya 0;exact qq rfl;(repeat (first|exact qh|refine xO ?_|refine q7 ?_ ?_)));all_goals trace_state)
end Go.Proofs.YtnhpclmbhbblbaaGreatDoor
set_option linter.unusedSimpArgs false
set_option linter.unnecessarySimpa false
namespace Go.Proofs.YtnhpclmbhbblbaaGreatDoor
theorem ke {s:qx}:yb s = true ↔ s ≠ [] ∧ s.length ≤ 20 ∧ s ≠ [46] ∧ s ≠ [46,46] ∧ s.head? ≠ some 32 ∧ s.getLast? ≠ some 32 ∧ ∀ c,c ∈ s → KH c = true:=by
 simp [yb,and_assoc]
theorem Q3 {s:qx} (h:yb s = true):(47:UInt8) ∉ s:=fun hm=>by
 have:=(ke.1 h).2.2.2.2.2.2 47 hm
 exact absurd this (by decide)
theorem J3:yb [] = false:=by simp [yb]
theorem j4 {p:qx}:qn p = 0 ↔ (∀ n,n ∈ qg p → yb n = true) ∧ jF p = false:=by
 unfold qn
 constructor
 ·intro h
  split at h
  ·rename_i h1
   split at h
   ·exact absurd h (by decide)
   ·rename_i h2
    exact ⟨List.all_eq_true.1 h1,by simpa using h2⟩
  ·exact absurd h (by decide)
 ·rintro ⟨h1,h2⟩
  rw [if_pos (List.all_eq_true.2 h1),h2];rfl
theorem Q9 {p:qx} (h:(47:UInt8) ∉ p):qy p = [] ∧ qY p = p:=by
 rw [qy,qY,xb h]
 exact ⟨rfl,rfl⟩
theorem Y4 {a b:qx} (h:(47:UInt8) ∉ b):qy (a ++ 47 :: b) = a ∧ qY (a ++ 47 :: b) = b:=by
 rw [qy,qY,vZ h]
 refine ⟨by rw [show (a.length:Int).toNat = a.length from by omega,List.take_left],?_⟩
 rw [show ((a.length:Int) + 1).toNat = a.length + 1 from by omega,List.drop_append,List.drop_of_length_le (by omega),List.nil_append,show a.length + 1 - a.length = 1 from by omega];rfl
theorem VH {a b:qx} (h:(47:UInt8) ∉ b):qy (zx a b) = a ∧ qg (zx a b) = (if a = [] then [b] else qg a ++ [b]):=by
 unfold zx
 split
 ·rename_i e;subst e
  exact ⟨(Q9 h).1,jO h⟩
 ·refine ⟨(Y4 h).1,?_⟩
  rw [y6,jO h]
theorem wx {a b:qx} (h:jF b = false) (h1:(qg a).length ≤ (qg b).length) (h2:a.length ≤ b.length):jF a = false:=by
 simp [jF] at h ⊢;omega
theorem Zg {p:qx} (h:qn p = 0):(qy p = [] ∨ qn (qy p) = 0) ∧ yb (qY p) = true ∧ zx (qy p) (qY p) = p:=by
 obtain ⟨h1,h2⟩:=j4.1 h
 rcases kY (c:=47) p with h3|⟨a,b,rfl,hb⟩
 ·obtain ⟨e1,e2⟩:=Q9 h3
  rw [e1,e2]
  exact ⟨.inl rfl,h1 p (by rw [jO h3];simp),rfl⟩
 ·obtain ⟨e1,e2⟩:=Y4 (a:=a) hb
  rw [e1,e2]
  have hn:qg (a ++ 47 :: b) = qg a ++ [b]:=by rw [y6,jO hb]
  have ha:a ≠ []:=fun e=>by
   have:=h1 [] (by rw [hn,e];simp [qg])
   rw [J3] at this;exact absurd this (by decide)
  refine ⟨.inr (j4.2 ⟨fun n hm=>h1 n (by rw [hn];simp [hm]),wx h2 (by rw [hn];simp) (by simp)⟩),h1 b (by rw [hn];simp),?_⟩
  simp [zx,ha]
theorem ym {p:qx} {l:List qx}:jX (p :: l) = 0 ↔ qn p = 0 ∧ jX l = 0:=by
 show (if qn p = 0 then jX l else qn p) = 0 ↔ _
 split
 ·rename_i h;simp [h]
 ·rename_i h;simp [h]
theorem Zf {p f t:qx} (h:xo p f t = 0) :
  xo (t ++ p.drop f.length) t f = 0 ∧ jX [t ++ p.drop f.length,t] = 0 ∧ inB (t ++ p.drop f.length) t = true ∧ f ++ (t ++ p.drop f.length).drop t.length = p:=by
 unfold xo at h
 split at h
 case isFalse h'=>exact absurd h h'
 rename_i h0
 split at h
 case isFalse=>exact absurd h (by decide)
 rename_i hi
 split at h
 case isTrue=>exact absurd h (by decide)
 rename_i hg
 obtain ⟨hp,h1⟩:=ym.1 h0
 obtain ⟨hf,h2⟩:=ym.1 h1
 obtain ⟨ht, -⟩:=ym.1 h2
 obtain ⟨np,gp⟩:=j4.1 hp
 obtain ⟨nt, -⟩:=j4.1 ht
 have hr:=KG (t:=t) hi
 have hall : ∀ n,n ∈ qg t ++ (qg p).drop (qg f).length → yb n = true:=fun n hm=>by
  rcases List.mem_append.1 hm with hm|hm
  ·exact nt n hm
  ·exact np n (List.mem_of_mem_drop hm)
 have hnm:qg (t ++ p.drop f.length) = qg t ++ (qg p).drop (qg f).length:=by
  rw [← hr]
  exact kj (by simp [yc]) fun n hm=>Q3 (hall n hm)
 have hm:qn (t ++ p.drop f.length) = 0:=j4.2 ⟨by rw [hnm];exact hall,by simpa using hg⟩
 have hb:inB (t ++ p.drop f.length) t = true:=by
  rw [ZY,hnm,List.isPrefixOf_iff_prefix];exact List.prefix_append ..
 have hpre:f ++ p.drop f.length = p:=by
  simp only [inB,Bool.or_eq_true,decide_eq_true_eq,List.isPrefixOf_iff_prefix] at hi
  rcases hi with rfl|⟨s,rfl⟩
  ·simp
  ·rw [List.append_assoc,List.drop_left]
 have hback:f ++ (t ++ p.drop f.length).drop t.length = p:=by rw [List.drop_left];exact hpre
 refine ⟨?_,?_,hb,hback⟩
 ·unfold xo
  rw [if_pos (ym.2 ⟨hm,ym.2 ⟨ht,ym.2 ⟨hf,rfl⟩⟩⟩),if_pos hb,hback,gp];rfl
 ·exact ym.2 ⟨hm,ym.2 ⟨ht,rfl⟩⟩
theorem V0 (s:qx):xl s ++ x9 s = s:=by
 unfold xl x9
 split<;>simp
theorem KY (s:qx):vC s <+: s:=by
 have h:=List.dropWhile_suffix (l:=s.reverse) (· == 32)
 rw [← List.reverse_prefix] at h
 rw [List.reverse_reverse] at h
 exact h
theorem qax (s:qx) (n:Int):xE s n <+: s:=by
 have h:xl s <+: s:=⟨x9 s,V0 s⟩
 unfold xE
 split
 ·exact (KY _).trans ((List.take_prefix _ _).trans h)
 ·exact h
theorem Zk : ∀ k,k < 10 → KH (UInt8.ofNat (48 + k)) = true:=by decide
theorem qay {n:Int} (h0:1 ≤ n) (h:n ≤ 99) : ∀ c,c ∈ ku n → KH c = true:=by
 intro c hc
 unfold ku at hc
 split at hc
 ·rw [List.mem_singleton] at hc;subst hc
  exact Zk _ (by omega)
 ·simp only [List.mem_cons,List.not_mem_nil,or_false] at hc
  rcases hc with rfl|rfl
  ·exact Zk _ (by omega)
  ·exact Zk _ (by omega)
theorem Wo {s:qx} {n:Int} (h:xE s n ≠ []):((xE s n).length:Int) ≤ zc s n:=by
 unfold xE at h ⊢
 split
 ·rename_i hr
  rw [if_pos hr] at h
  have h1:=QN ((xl s).take (zc s n).toNat)
  rw [List.length_take] at h1
  have h2:0 < (vC ((xl s).take (zc s n).toNat)).length:=List.length_pos_iff.2 h
  omega
 ·rename_i hr;omega
theorem Zd {s:qx} {n:Int} (hs:yb s = true) (h0:1 ≤ n) (h1:n ≤ 99) (hc:xE s n ≠ []):yb (xE s n ++ xI n ++ x9 s) = true:=by
 obtain ⟨-, -, -, -,a5,a6,a7⟩:=ke.1 hs
 have hr:=Wo hc
 have hm:0 < (ku n).length:=by unfold ku;split<;>simp
 have hml:(xI n).length = (ku n).length + 3:=by simp [xI]
 have hpos:0 < (xE s n).length:=List.length_pos_iff.2 hc
 have hlen:(xE s n ++ xI n ++ x9 s).length = (xE s n).length + (xI n).length + (x9 s).length:=by simp;omega
 unfold zc at hr
 obtain ⟨t,ht⟩:=qax s n
 have hse:=V0 s
 refine ke.2 ⟨fun e=>?_,by omega,fun e=>?_,fun e=>?_,?_,?_,?_⟩
 ·rw [e] at hlen;simp at hlen;omega
 ·rw [e] at hlen;simp at hlen;omega
 ·rw [e] at hlen;simp at hlen;omega
 ·cases h:xE s n with
  | nil=>exact absurd h hc
  | cons c l =>
    rw [h] at ht
    rw [← ht] at a5
    simpa using a5
 ·rw [List.getLast?_append]
  cases h:x9 s with
  | nil=>rw [show xE s n ++ xI n = (xE s n ++ ([32,40] ++ ku n)) ++ [41] from by simp [xI],List.getLast?_nil,Option.none_or,List.getLast?_append,List.getLast?_singleton,Option.some_or];decide
  | cons c l =>
    rw [← hse,h,List.getLast?_append] at a6
    have hx : ∃ y,(c :: l).getLast? = some y:=⟨_,List.getLast?_eq_some_getLast (by simp)⟩
    obtain ⟨y,hy⟩:=hx
    rw [hy] at a6 ⊢
    simpa using a6
 ·intro c hcm
  rcases List.mem_append.1 hcm with hcm|hcm
  ·rcases List.mem_append.1 hcm with hcm|hcm
   ·exact a7 c (by rw [← ht];simp [hcm])
   ·unfold xI at hcm
    rcases List.mem_append.1 hcm with hcm|hcm
    ·rcases List.mem_append.1 hcm with hcm|hcm
     ·simp at hcm;rcases hcm with rfl|rfl<;>decide
     ·exact qay h0 h1 c hcm
    ·simp at hcm;subst hcm;decide
  ·exact a7 c (by rw [← hse];simp [hcm])
theorem Vd {p:qx} {n:Int} (h:yF p n = 0):qn p = 0 ∧ 1 ≤ n ∧ n ≤ 99 ∧ xE (qY p) n ≠ [] ∧ jF (xD p n) = false:=by
 unfold yF at h
 split at h
 case isFalse h'=>exact absurd h h'
 rename_i hp
 split at h
 case isTrue=>exact absurd h (by decide)
 rename_i hn
 unfold x7 at h
 split at h
 case isTrue=>exact absurd h (by decide)
 rename_i hc
 split at h
 case isTrue=>exact absurd h (by decide)
 rename_i hg
 exact ⟨hp,by omega,by omega,hc,by simpa using hg⟩
theorem Ze {p:qx} {n:Int} (h:yF p n = 0):qn (xD p n) = 0 ∧ qy (xD p n) = qy p:=by
 obtain ⟨hp,h0,h1,hc,hg⟩:=Vd h
 obtain ⟨hpa,hnm, -⟩:=Zg hp
 have hx:=Zd hnm h0 h1 hc
 obtain ⟨e1,e2⟩:=VH (a:=qy p) (Q3 hx)
 refine ⟨j4.2 ⟨fun n hm=>?_,hg⟩,e1⟩
 unfold xD at hm
 rw [e2] at hm
 split at hm
 ·rw [List.mem_singleton] at hm;subst hm;exact hx
 ·rename_i hne
  rcases hpa with hpa|hpa
  ·exact absurd hpa hne
  ·rcases List.mem_append.1 hm with hm|hm
   ·exact (j4.1 hpa).1 n hm
   ·rw [List.mem_singleton] at hm;subst hm;exact hx
end Go.Proofs.YtnhpclmbhbblbaaGreatDoor
set_option linter.unusedSimpArgs false
set_option linter.unnecessarySimpa false
set_option linter.unusedVariables false
set_option maxHeartbeats 1000000
namespace Go.Proofs.YtnhpclmbhbblbaaGreatDoor
open Go.Ab Go.RowKit
set_option maxRecDepth 10000
attribute [local irreducible] Awp jW jh jn Red qD Go.Ab.Fin qI Rz x4 ji jf ResOk jQ jq yl jg
structure RightE (t:List Ent):Prop where
 rise:qS jj t = true
 paths : ∀ x,x ∈ t → qn x.path = 0
 few:t.length ≤ 400000
def zC (t:List Ent) (c:Chg) (v:Int):Int:=if ¬ x8 c = 0 then x8 c else if ¬ zz t c = 0 then zz t c else y5 t c v
def ZB (t:List Ent) (c:Chg) (v:Int):List Ent:=if zC t c v = 0 then jE t c v else []
theorem kD {c:Chg} (h:x8 c = 0):1 ≤ c.kind ∧ c.kind ≤ 4 ∧ qn c.path = 0 ∧ (c.kind = 3 → qn c.to = 0) ∧ wQ c = 0:=by
 unfold x8 at h
 split at h
 ·exact absurd h (by decide)
 ·split at h
  ·contradiction
  ·rename_i h1 h2
   split at h
   ·rename_i h3;exact absurd h h3.2
   ·rename_i h3
    refine ⟨by omega,by omega,by simpa using h2,fun h4=>?_,h⟩
    have h5:=fun e=>h3 ⟨h4,e⟩
    simpa using h5
theorem Yd {t:List Ent} {x y:Ent} (h:y ∈ js t x):y = x ∨ y ∈ t:=by
 unfold js at h
 split at h
 ·rcases List.mem_append.1 h with h|h
  ·exact .inr (List.mem_of_mem_take h)
  ·rcases List.mem_append.1 h with h|h
   ·exact .inl (List.mem_singleton.1 h)
   ·exact .inr (List.mem_of_mem_drop h)
 ·rcases List.mem_append.1 h with h|h
  ·exact .inr (List.mem_of_mem_take h)
  ·rcases List.mem_append.1 h with h|h
   ·exact .inl (List.mem_singleton.1 h)
   ·exact .inr (List.mem_of_mem_drop h)
theorem Yc : ∀ {l t:List Ent} {y:Ent},y ∈ l.foldl js t → y ∈ l ∨ y ∈ t
 | [],_,_,h => .inr h
 | x :: l,t,y,h=>by
   rcases Yc (l:=l) (t:=js t x) h with h|h
   ·exact .inl (List.mem_cons_of_mem _ h)
   ·rcases Yd h with rfl|h
    ·exact .inl (List.mem_cons_self ..)
    ·exact .inr h
theorem XC {c:Chg} {v:Int} {x:Ent} (hx:qn x.path = 0) (h1:qn c.path = 0) (h2:qn c.to = 0) (hi:inB x.path c.path = true) (hg:jF (c.to ++ x.path.drop c.path.length) = false):qn (xZ c v x).path = 0:=by
 have hm:=kH hx h1 h2 hi
 rw [hg,if_neg (by decide)] at hm
 have:=(Zf hm).2.1
 exact (ym.1 this).1
theorem qaz {t:List Ent} {c:Chg} {v:Int} (h:y5 t c v = 0):xB t c = false ∧ (jE t c v).length ≤ 60:=by
 unfold y5 at h
 split at h
 ·exact absurd h (by decide)
 ·split at h
  ·exact absurd h (by decide)
  ·rename_i h1 h2
   exact ⟨by simpa using h1,by omega⟩
theorem Vg {t:List Ent} {c:Chg} {v:Int} (ht : ∀ x,x ∈ t → qn x.path = 0) (hce:x8 c = 0) (hbad:xB t c = false) : ∀ x,x ∈ jE t c v → qn x.path = 0:=by
 obtain ⟨k1,k2,hpe,hto, -⟩:=kD hce
 intro x hx
 unfold jE at hx
 split at hx
 ·rcases Yd hx with rfl|h
  ·exact hpe
  ·exact ht x h
 ·split at hx
  ·rcases Yd hx with rfl|h
   ·exact hpe
   ·exact ht x h
  ·split at hx
   ·exact ht x (List.mem_filter.1 hx).1
   ·have k3:c.kind = 3:=by omega
    rcases Yc hx with h|h
    ·obtain ⟨y,hy,rfl⟩:=List.mem_map.1 h
     obtain ⟨hy1,hy2⟩:=List.mem_filter.1 hy
     simp only [xB,k3,decide_true,Bool.true_and,List.any_eq_false] at hbad
     exact XC (ht y hy1) hpe (hto k3) hy2 (by simpa using hbad y hy)
    ·exact ht x (List.mem_filter.1 h).1
theorem Xn {t:List Ent} {c:Chg} {v:Int} (hs:qS jj t = true):qS jj (jE t c v) = true:=by
 unfold jE
 split
 ·exact yS hs
 ·split
  ·exact yS hs
  ·split
   ·exact kf hs
   ·exact zA (kf hs)
theorem Kn (t:List Ent) (c:Chg) (v:Int):(jE t c v).length ≤ 2 * t.length + 1:=by
 have h1:=fun x=>Qn t x
 have h2:(yD (YW c.path) t).length ≤ t.length:=List.length_filter_le ..
 have h3:(jG t c v).length ≤ t.length:=by unfold jG;rw [List.length_map];exact List.length_filter_le ..
 have h4:=wJ (jG t c v) (yD (YW c.path) t)
 unfold jE
 split
 ·have:=h1 ⟨c.path,true,[],v⟩;omega
 ·split
  ·have:=h1 ⟨c.path,false,c.text,v⟩;omega
  ·split<;>omega
theorem RightE.done {t:List Ent} {c:Chg} {v:Int} (h:RightE t) (hr:zC t c v = 0):RightE (jE t c v):=by
 unfold zC at hr
 split at hr
 ·contradiction
 ·split at hr
  ·contradiction
  ·rename_i h1 h2
   obtain ⟨h3,h4⟩:=qaz hr
   exact ⟨Xn h.rise,Vg h.paths (by simpa using h1) h3,by omega⟩
theorem qbh (t:List Ent) (c:Chg) (v:Int) (h:RightE t) (hce:x8 c = 0) (hbad:xB t c = false) :
  qI C1.P 97 [.os 0 0 t.length,.agg c.row,.v (.int .i64 v)] [.own false 4 (t.map Ent.row)] (Y6 (y5 t c v) (jE t c v).length) [.dead,.own false 4 ((jE t c v).map Ent.row)]:=by
 obtain ⟨k1,k2,hpe,hto, -⟩:=kD hce
 have hf:=h.few
 have hl:=Kn t c v
 have hps:=q9 hpe
 by_cases h1:c.kind = 1
 ·exact qaj t c v (by omega) h.rise h1 (by omega)
 ·by_cases h2:c.kind = 2
  ·exact qak t c v (by omega) h.rise h2 (by omega)
  ·by_cases h4:c.kind = 4
   ·exact qal t c v (by omega) h4 (by omega)
   ·have h3:c.kind = 3:=by omega
    exact V7 t c v hf h3 h.paths hpe (hto h3) hbad h.rise
theorem WZ {t:List Ent} {c:Chg} {v:Int} (h:¬ zC t c v = 0):ZB t c v = []:=by unfold ZB;rw [if_neg h]
theorem Wb (t:List Ent) (c:Chg) (v:Int) (h:RightE t) (hcs:c.small):x6 C.P 74 [qo t,.agg c.row,.v (.int .i64 v)] (.tup [qo (ZB t c v),.v (.int .i64 (zC t c v))]):=by
 have hf:=h.few
 have h1:=qbi c hcs
 have h2:=qbL t c (by omega) h.rise hcs
 have h3:=X6 t (by omega)
 have hR:zC t c v = if ¬ x8 c = 0 then x8 c else if ¬ zz t c = 0 then zz t c else y5 t c v:=rfl
 have hbadL := @WZ t c v
 by_cases hce:x8 c = 0
 ·by_cases hme:zz t c = 0
  ·have hR2:zC t c v = y5 t c v:=by rw [hR,if_neg (by simp [hce]),if_neg (by simp [hme])]
   rw [hce] at h1
   rw [hme] at h2
   cases hb:xB t c with
   | true =>
     obtain ⟨k1,k2,hpe,hto, -⟩:=kD hce
     have hk3:c.kind = 3:=by
      simp [xB] at hb;exact hb.1
     have hE:y5 t c v = 2:=by simp [y5,hb]
     have hd:=X8 t c v (by omega) hk3 h.paths hpe (hto hk3) hb
     rw [hE] at hR2
     rw [hbadL (by rw [hR2];decide),hR2]
     refine qa Tryz.func74 rfl _ Tryz.ntmps74 (Nat.le_of_ble_eq_true rfl) _ Tryz.results74 0 rfl rfl ?_
     repeat' (first|refine qu ?_|(first|refine yY Tryz.func95 (h1 ..) ?_|refine yY Tryz.func96 (h2 ..) ?_|(apply jm Tryz.func75 rfl rfl;intro hIsFn;refine Jq ([]) hIsFn (h3 ..) ?_)|(apply jm Tryz.func97 rfl rfl;intro hIsFn;refine Qf ([1]) 1 hIsFn (hd ..) ?_))|((first|refine xsC ?_ ?_);all_goals (intro hc;have hp:=hc;try simp at hp;try (exfalso;omega)))|refine jc ?_ ?_)
     all_goals try (exfalso;omega)
     (exact QP (rs:=[.tmp 6,.tmp 7]))
   | false =>
     have hd:=qbh t c v h hce hb
     by_cases hE:y5 t c v = 0
     ·have hL:ZB t c v = jE t c v:=by unfold ZB;rw [if_pos (by rw [hR2,hE])]
      rw [hE] at hR2 hd
      rw [hL,hR2]
      generalize jE t c v = L at *
      have hd:qI C1.P 97 [.os 0 0 t.length,.agg c.row,.v (.int .i64 v)] [.own false 4 (t.map Ent.row)] (.tup [.os 1 0 L.length,.v (.int .i64 0)]) [.dead,.own false 4 (L.map Ent.row)]:=hd
      refine qa Tryz.func74 rfl _ Tryz.ntmps74 (Nat.le_of_ble_eq_true rfl) _ Tryz.results74 0 rfl rfl ?_
      repeat' (first|refine qu ?_|(first|refine yY Tryz.func95 (h1 ..) ?_|refine yY Tryz.func96 (h2 ..) ?_|(apply jm Tryz.func75 rfl rfl;intro hIsFn;refine Jq ([]) hIsFn (h3 ..) ?_)|(apply jm Tryz.func97 rfl rfl;intro hIsFn;refine vJ ([1]) 1 hIsFn (hd ..) ?_))|((first|refine xsC ?_ ?_);all_goals (intro hc;have hp:=hc;try simp at hp;try (exfalso;omega)))|refine jc ?_ ?_)
      all_goals try (exfalso;omega)
      (exact QP (rs:=[.tmp 6,.tmp 7]))
     ·rw [hbadL (by rw [hR2];exact hE),hR2]
      generalize y5 t c v = E at *
      generalize jE t c v = L at *
      have hd:qI C1.P 97 [.os 0 0 t.length,.agg c.row,.v (.int .i64 v)] [.own false 4 (t.map Ent.row)] (.tup [.sl true [],.v (.int .i64 E)]) [.dead,.own false 4 (L.map Ent.row)]:=by
       rw [Y6,if_neg hE] at hd;exact hd
      refine qa Tryz.func74 rfl _ Tryz.ntmps74 (Nat.le_of_ble_eq_true rfl) _ Tryz.results74 0 rfl rfl ?_
      repeat' (first|refine qu ?_|(first|refine yY Tryz.func95 (h1 ..) ?_|refine yY Tryz.func96 (h2 ..) ?_|(apply jm Tryz.func75 rfl rfl;intro hIsFn;refine Jq ([]) hIsFn (h3 ..) ?_)|(apply jm Tryz.func97 rfl rfl;intro hIsFn;refine vJ ([1]) 1 hIsFn (hd ..) ?_))|((first|refine xsC ?_ ?_);all_goals (intro hc;have hp:=hc;try simp at hp;try (exfalso;omega)))|refine jc ?_ ?_)
      all_goals try (exfalso;omega)
      (exact QP (rs:=[.tmp 6,.tmp 7]))
  ·have hR2:zC t c v = zz t c:=by rw [hR,if_neg (by simp [hce]),if_pos hme]
   rw [hce] at h1
   rw [hbadL (by rw [hR2];exact hme),hR2]
   generalize zz t c = E at *
   refine qa Tryz.func74 rfl _ Tryz.ntmps74 (Nat.le_of_ble_eq_true rfl) _ Tryz.results74 0 rfl rfl ?_
   repeat' (first|refine qu ?_|(first|refine yY Tryz.func95 (h1 ..) ?_|refine yY Tryz.func96 (h2 ..) ?_)|((first|refine xsC ?_ ?_);all_goals (intro hc;have hp:=hc;try simp at hp;try (exfalso;omega)))|refine jc ?_ ?_)
   all_goals try (exfalso;omega)
   (exact QP (rs:=[.tmp 6,.tmp 7]))
 ·have hR2:zC t c v = x8 c:=by rw [hR,if_pos hce]
  rw [hbadL (by rw [hR2];exact hce),hR2]
  generalize x8 c = E at *
  refine qa Tryz.func74 rfl _ Tryz.ntmps74 (Nat.le_of_ble_eq_true rfl) _ Tryz.results74 0 rfl rfl ?_
  repeat' (first|refine qu ?_|(first|refine yY Tryz.func95 (h1 ..) ?_)|((first|refine xsC ?_ ?_);all_goals (intro hc;have hp:=hc;try simp at hp;try (exfalso;omega)))|refine jc ?_ ?_)
  all_goals try (exfalso;omega)
  (exact QP (rs:=[.tmp 6,.tmp 7]))
end Go.Proofs.YtnhpclmbhbblbaaGreatDoor
set_option linter.unusedSimpArgs false
set_option linter.unnecessarySimpa false
set_option linter.unusedVariables false
namespace Go.Proofs.YtnhpclmbhbblbaaGreatDoor
open Go.Op
def qG (t:List Ent) (p:qx):Option Ent:=t.find? (atP p)
theorem xu {t:List Ent} {p:qx} {x:Ent} (h:qG t p = some x):x ∈ t ∧ x.path = p:=by
 have h1:=List.mem_of_find?_eq_some h
 have h2:=List.find?_some h
 exact ⟨h1,by simpa [atP] using h2⟩
theorem wi {t:List Ent} {p:qx}:qG t p = none ↔ ∀ x,x ∈ t → ¬ x.path = p:=by
 unfold qG
 rw [List.find?_eq_none]
 simp [atP]
theorem WT {t:List Ent} (hs:qS jj t = true) {x y:Ent} (hx:x ∈ t) (hy:y ∈ t) (h:x.path = y.path):x = y:=by
 obtain ⟨i,hi,rfl⟩:=List.getElem_of_mem hx
 obtain ⟨j,hj,rfl⟩:=List.getElem_of_mem hy
 rcases Nat.lt_trichotomy i j with h1|h1|h1
 ·have:=x0 hs i j hi hj h1
  rw [h,vV] at this;cases this
 ·subst h1;rfl
 ·have:=x0 hs j i hj hi h1
  rw [h,vV] at this;cases this
theorem vy {t:List Ent} (hs:qS jj t = true) {x:Ent} (hx:x ∈ t):qG t x.path = some x:=by
 cases h:qG t x.path with
 | none=>exact absurd rfl (wi.1 h x hx)
 | some y =>
   obtain ⟨h1,h2⟩:=xu h
   rw [WT hs h1 hx h2]
theorem Vx {t:List Ent} (hs:qS jj t = true) {p:qx} {x:Ent}:qG t p = some x ↔ x ∈ t ∧ x.path = p :=
 ⟨xu,fun ⟨h1,h2⟩=>h2 ▸ vy hs h1⟩
theorem J8 {t:List Ent} {p:qx}:j9 t p = (qG t p).isSome:=by
 unfold j9 qG
 rw [Bool.eq_iff_iff,List.any_eq_true,List.find?_isSome]
theorem Jp {t:List Ent} {x:Ent} (hs:qS jj t = true) (y:Ent):y ∈ js t x ↔ y = x ∨ (y ∈ t ∧ ¬ y.path = x.path):=by
 obtain ⟨A,M,Z,h,hp,hA,hZ,hM⟩:=XR x.path (yB.1 hs)
 rw [wM h hp hM,h]
 have hA' : ∀ a,a ∈ A → ¬ a.path = x.path:=fun a ha=>YM (hA a ha)
 have hZ' : ∀ a,a ∈ Z → ¬ a.path = x.path:=fun a ha e=>YM (hZ a ha) e.symm
 simp only [List.mem_append,List.mem_singleton]
 constructor
 ·rintro (h1|h1|h1)
  ·exact .inr ⟨.inl h1,hA' y h1⟩
  ·exact .inl h1
  ·exact .inr ⟨.inr (.inr h1),hZ' y h1⟩
 ·rintro (h1|⟨h1|h1|h1,h2⟩)
  ·exact .inr (.inl h1)
  ·exact .inl h1
  ·rcases hM with ⟨_,z,rfl,hz⟩|⟨_,rfl⟩
   ·rw [List.mem_singleton.1 h1] at h2;exact absurd hz h2
   ·cases h1
  ·exact .inr (.inr h1)
theorem Qc {t:List Ent} {x:Ent} (hs:qS jj t = true) (p:qx):qG (js t x) p = if p = x.path then some x else qG t p:=by
 have hr:=yS (x:=x) hs
 split
 ·rename_i h
  rw [Vx hr,Jp hs]
  exact ⟨.inl rfl,h.symm⟩
 ·rename_i h
  cases hl:qG t p with
  | none =>
    rw [wi] at hl ⊢
    intro y hy
    rcases (Jp hs y).1 hy with rfl|⟨h1,_⟩
    ·exact fun e=>h e.symm
    ·exact hl y h1
  | some y =>
    obtain ⟨h1,h2⟩:=xu hl
    rw [Vx hr,Jp hs]
    exact ⟨.inr ⟨h1,by rw [h2];exact h⟩,h2⟩
theorem qaK {p q:qx}:inB p q = true ↔ ∃ r,p = q ++ r ∧ (r = [] ∨ r.head? = some 47):=by
 unfold inB
 rw [Bool.or_eq_true,decide_eq_true_eq,List.isPrefixOf_iff_prefix]
 constructor
 ·rintro (rfl|⟨s,h⟩)
  ·exact ⟨[],by simp,.inl rfl⟩
  ·exact ⟨47 :: s,by rw [← h];simp,.inr rfl⟩
 ·rintro ⟨r,rfl,rfl|h⟩
  ·exact .inl (by simp)
  ·cases r with
   | nil=>exact .inl (by simp)
   | cons c r =>
     simp at h
     subst h
     exact .inr ⟨r,by simp⟩
theorem vN {p q:qx}:inB p q = true ↔ qg q <+: qg p:=by rw [ZY,List.isPrefixOf_iff_prefix]
end Go.Proofs.YtnhpclmbhbblbaaGreatDoor
set_option linter.unusedSimpArgs false
set_option linter.unnecessarySimpa false
set_option linter.unusedVariables false
namespace Go.Ab
theorem qbD {C:Cx} {ts:List (Nat × AV)} {hs:List (Nat × HB)} {nx:Nat} (i n:Nat) {off len:Nat} {rows:List (List AV)} (hi:qr ts i = .os n off len) (hn:qB hs n = .fz rows) (hl:off + len ≤ rows.length):Red C ⟨ts,hs,nx⟩ ⟨(i,.sl false ((rows.drop off).take len)) :: ts,hs,nx⟩:=by
 intro B a w hB ⟨g1,g2,F,ρ,hp,g4⟩
 refine ⟨g1,g2,F,ρ, { kept:=hp.kept,agree:=hp.agree,grow:=hp.grow,fresh:=hp.fresh,names:=hp.names,dom:=hp.dom,own:=hp.own,new:=hp.new,sep:=hp.sep },fun m=>?_⟩
 show M F ρ _ (qr ((i,_) :: ts) m)
 rw [zH]
 by_cases him:i = m
 ·subst him
  rw [if_pos rfl]
  have h1:M F ρ _ (qr ts i):=g4 i
  rw [hi] at h1
  have h2:OwnAt F ρ w n (qB hs n):=hp.own n
  exact Zb (L:=[]) (rh:=[n]) (h:=qB hs) hn (by simp) hl F ρ ρ w _ (fun m hm=>by obtain rfl:=List.mem_singleton.1 hm;exact h2) (fun a b hm c hc=>by
   rcases hm with h|h
   ·obtain rfl:=h.2;exact hc
   ·cases h) h1
 ·rw [if_neg him]
  exact g4 m
end Go.Ab
set_option maxHeartbeats 1000000
namespace Go.Proofs.YtnhpclmbhbblbaaGreatDoor
open Go.Ab Go.RowKit
set_option maxRecDepth 10000
attribute [local irreducible] Awp jW jh jn Red qD Go.Ab.Fin qI Rz x4 ji jf ResOk jQ jq yl jg
theorem kp {t:List Ent} (h:qA t = 0):t.length ≤ 60 ∧ (∀ x,x ∈ t → yP x = 0) ∧ qS jj t = true ∧ ∀ x,x ∈ t → y2 t x = 0:=by
 unfold qA at h
 split at h
 ·exact absurd h (by decide)
 ·split at h
  ·split at h
   ·split at h
    ·exact absurd h (by decide)
    ·split at h
     ·exact absurd h (by decide)
     ·rename_i h1 h2 h3 h4 h5
      refine ⟨by omega,xR.1 h2,h3,fun x hx=>?_⟩
      have h6:(t.any fun x=>decide (¬ y2 t x = 0)) = false:=by simpa using h5
      rw [List.any_eq_false] at h6
      simpa using h6 x hx
   ·exact absurd h (by decide)
  ·contradiction
theorem jM {x:Ent} (h:yP x = 0):qn x.path = 0 ∧ ¬ (x.fold = true ∧ ¬ x.text = []) ∧ x.text.length ≤ 300 ∧ vF x.ver = true:=by
 unfold yP at h
 split at h
 ·split at h
  ·exact absurd h (by decide)
  ·split at h
   ·exact absurd h (by decide)
   ·split at h
    ·exact ⟨by assumption,by assumption,by omega,by assumption⟩
    ·exact absurd h (by decide)
 ·contradiction
theorem RightE.of {t:List Ent} (h:qA t = 0):RightE t:=by
 obtain ⟨h1,h2,h3,h4⟩:=kp h
 exact ⟨h3,fun x hx=>(jM (h2 x hx)).1,by omega⟩
def wz (t:List Ent) (c:Chg) (v:Int):Int:=if ¬ qA t = 0 then qA t else if vF v = false then 3 else zC t c v
def JH (t:List Ent) (c:Chg) (v:Int):List Ent:=if wz t c v = 0 then jE t c v else []
theorem qah (t:List Ent) (c:Chg) (v:Int) (hb:EBig t) (hcs:c.small):x6 C.P 40 [qo t,.agg c.row,.v (.int .i64 v)] (.tup [qo (JH t c v),.v (.int .i64 (wz t c v))]):=by
 have h1:=JC t hb
 have h2:=JD v
 have hE:wz t c v = if ¬ qA t = 0 then qA t else if vF v = false then 3 else zC t c v:=rfl
 have hL:JH t c v = if wz t c v = 0 then jE t c v else []:=rfl
 by_cases hte:qA t = 0
 ·have hr:=Wb t c v (RightE.of hte) hcs
  have hrL:ZB t c v = if zC t c v = 0 then jE t c v else []:=rfl
  rw [hte] at h1
  rw [if_neg (by simp [hte])] at hE
  generalize vF v = V at *
  cases V with
  | true =>
    have hE2:wz t c v = zC t c v:=by rw [hE];simp
    rw [hE2] at hL
    rw [← hL] at hrL
    rw [hrL] at hr
    rw [hE2]
    generalize JH t c v = L at *
    generalize zC t c v = R at *
    refine qa Tryz.func40 rfl _ Tryz.ntmps40 (Nat.le_of_ble_eq_true rfl) _ Tryz.results40 0 rfl rfl ?_
    repeat' (first|refine qu ?_|(first|(refine yu ?_)|refine xP Tryz.func42 (h1 ..) ?_|refine yY Tryz.func73 (h2 ..) ?_|refine xP Tryz.func74 (hr ..) ?_)|((first|refine xsC ?_ ?_);all_goals (intro hc;have hp:=hc;try simp at hp;try (exfalso;omega)))|refine jc ?_ ?_)
    all_goals try (exfalso;omega)
    (exact QP (rs:=[.tmp 6,.tmp 7]))
  | false =>
    have hE2:wz t c v = 3:=by rw [hE];simp
    rw [hE2,if_neg (by decide)] at hL
    rw [hE2,hL]
    refine qa Tryz.func40 rfl _ Tryz.ntmps40 (Nat.le_of_ble_eq_true rfl) _ Tryz.results40 0 rfl rfl ?_
    repeat' (first|refine qu ?_|(first|(refine yu ?_)|refine xP Tryz.func42 (h1 ..) ?_|refine yY Tryz.func73 (h2 ..) ?_)|((first|refine xsC ?_ ?_);all_goals (intro hc;have hp:=hc;try simp at hp;try (exfalso;omega)))|refine jc ?_ ?_)
    all_goals try (exfalso;omega)
    (exact QP (rs:=[.tmp 6,.tmp 7]))
 ·rw [if_pos hte] at hE
  have hL2:JH t c v = []:=by rw [hL,if_neg (by rw [hE];exact hte)]
  rw [hE,hL2]
  generalize qA t = E at *
  refine qa Tryz.func40 rfl _ Tryz.ntmps40 (Nat.le_of_ble_eq_true rfl) _ Tryz.results40 0 rfl rfl ?_
  repeat' (first|refine qu ?_|(first|(refine yu ?_)|refine xP Tryz.func42 (h1 ..) ?_)|((first|refine xsC ?_ ?_);all_goals (intro hc;have hp:=hc;try simp at hp;try (exfalso;omega)))|refine jc ?_ ?_)
  all_goals try (exfalso;omega)
  (exact QP (rs:=[.tmp 6,.tmp 7]))
end Go.Proofs.YtnhpclmbhbblbaaGreatDoor
set_option linter.unusedSimpArgs false
set_option linter.unnecessarySimpa false
set_option linter.unusedVariables false
namespace Go.Proofs.YtnhpclmbhbblbaaGreatDoor
open Go.Op
structure Right (t:List Ent):Prop where
 len:t.length ≤ 60
 ent : ∀ x,x ∈ t → yP x = 0
 rise:qS jj t = true
 par : ∀ x,x ∈ t → yZ t (qy x.path) = 0
theorem vp {t:List Ent}:qA t = 0 ↔ Right t:=by
 constructor
 ·intro h
  obtain ⟨h1,h2,h3,h4⟩:=kp h
  exact ⟨h1,h2,h3,h4⟩
 ·intro h
  have h1:¬ 60 < t.length:=by have:=h.len;omega
  have h2:t.any (fun x=>decide (y2 t x = 5)) = false:=by
   rw [List.any_eq_false];intro x hx
   have:y2 t x = 0:=h.par x hx
   simp [this]
  have h3:t.any (fun x=>decide (¬ y2 t x = 0)) = false:=by
   rw [List.any_eq_false];intro x hx
   have:y2 t x = 0:=h.par x hx
   simp [this]
  unfold qA
  rw [if_neg h1,if_pos (xR.2 h.ent),if_pos h.rise,h2,h3]
  rfl
theorem Q1 {t:List Ent} {q:qx}:yZ t q = 0 ↔ q = [] ∨ ∃ y,qG t q = some y ∧ y.fold = true:=by
 unfold yZ qG
 by_cases hq:q = []
 ·simp [hq]
 ·rw [if_neg hq]
  cases h:t.find? (atP q) with
  | none=>simp [hq]
  | some x=>cases hf:x.fold<;>simp [hq,hf]
theorem zr {p:qx} (h:qn p = 0) : ∀ n,n ∈ qg p → n ≠ []:=fun n hn e=>by
 have:=(j4.1 h).1 n hn
 rw [e,J3] at this;cases this
theorem vP {p:qx} (h:(qg p).dropLast ≠ []):qg (qy p) = (qg p).dropLast:=by
 obtain ⟨h1,h2⟩:=vR p
 rw [← h2]
 exact kj h fun n hn=>ki p n (List.dropLast_subset _ hn)
theorem qa0 {p q:qx} (hp:qn p = 0) (hi:inB p q = true) (hne:¬ q = p):¬ qy p = [] ∧ inB (qy p) q = true ∧ (qg (qy p)).length < (qg p).length:=by
 have hpre:=vN.1 hi
 obtain ⟨s,hs⟩:=hpre
 have hsn:s ≠ []:=fun e=>hne (by
  rw [e,List.append_nil] at hs
  rw [← jL q,hs,jL])
 have hdl:(qg p).dropLast = qg q ++ s.dropLast:=by rw [← hs,List.dropLast_append_of_ne_nil hsn]
 have hdn:(qg p).dropLast ≠ []:=by
  rw [hdl];intro e
  exact yc q (List.append_eq_nil_iff.1 e).1
 have hpn:=vP hdn
 refine ⟨fun e=>?_,?_,?_⟩
 ·have hm:([]:qx) ∈ qg (qy p):=by rw [e];simp [qg]
  rw [hpn] at hm
  exact zr hp [] (List.dropLast_subset _ hm) rfl
 ·rw [vN,hpn,hdl]
  exact List.prefix_append _ _
 ·rw [hpn,List.length_dropLast]
  have:=names_pos' p
  omega
where names_pos' (p:qx):0 < (qg p).length:=List.length_pos_iff.2 (yc p)
theorem qbB {p:qx} (hp:qn p = 0):¬ qy p = p:=fun e=>by
 obtain ⟨h1,h2⟩:=vR p
 have h3:(qg p).dropLast ≠ [] ∨ (qg p).dropLast = []:=(Decidable.em _).symm
 rcases h3 with h3|h3
 ·have:=vP h3
  rw [e] at this
  have hl:=congrArg List.length this
  rw [List.length_dropLast] at hl
  have:=List.length_pos_iff.2 (yc p)
  omega
 ·rw [h3] at h2
  have:p = []:=by rw [← e, ← h2];rfl
  subst this
  exact zr hp [] (by simp [qg]) rfl
theorem qbA {p:qx} (hp:qn p = 0) (hne:¬ qy p = []):inB p (qy p) = true:=by
 obtain ⟨h1,h2⟩:=vR p
 have hdn:(qg p).dropLast ≠ []:=fun e=>hne (by rw [← h2,e];rfl)
 rw [vN,vP hdn]
 exact List.dropLast_prefix _
theorem anc {t:List Ent} (h:Right t) : ∀ (n:Nat) (x:Ent),x ∈ t → (qg x.path).length = n → ∀ q,inB x.path q = true → ¬ q = x.path → ∃ y,qG t q = some y ∧ y.fold = true:=by
 intro n
 induction n using Nat.strongRecOn with
 | _ n ih =>
   intro x hx hn q hi hne
   have hpe:=(jM (h.ent x hx)).1
   obtain ⟨h1,h2,h3⟩:=qa0 hpe hi hne
   rcases Q1.1 (h.par x hx) with h4|⟨y,h4,h5⟩
   ·exact absurd h4 h1
   ·obtain ⟨h6,h7⟩:=xu h4
    by_cases hq:q = qy x.path
    ·subst hq;exact ⟨y,h4,h5⟩
    ·exact ih (qg y.path).length (by rw [h7];omega) y h6 rfl q (by rw [h7];exact h2) (by rw [h7];exact hq)
theorem YH {u:List Ent} (hs:qS jj u = true) (hl:u.length ≤ 60) (h : ∀ p x,qG u p = some x → yP x = 0 ∧ (qy p = [] ∨ ∃ y,qG u (qy p) = some y ∧ y.fold = true)):Right u :=
 ⟨hl,fun x hx=>(h _ x (vy hs hx)).1,hs,fun x hx=>Q1.2 (h _ x (vy hs hx)).2⟩
theorem JO {p:qx} {f:Bool} {s:qx} {v:Int} (h1:qn p = 0) (h2:f = true → s = []) (h3:s.length ≤ 300) (h4:vF v = true):yP ⟨p,f,s,v⟩ = 0:=by
 unfold yP
 simp only
 rw [if_pos h1,if_neg (fun e=>e.2 (h2 e.1)),if_neg (by omega),if_pos h4]
theorem Right.big {t:List Ent} (h:Right t):EBig t:=⟨fun x hx=>by
 have h1:=jM (h.ent x hx)
 have h2:=q9 h1.1
 exact ⟨by omega,by omega⟩,by have:=h.len;omega⟩
end Go.Proofs.YtnhpclmbhbblbaaGreatDoor
set_option linter.unusedSimpArgs false
set_option linter.unnecessarySimpa false
set_option linter.unusedVariables false
namespace Go.Proofs.YtnhpclmbhbblbaaGreatDoor
open Go.Op
structure Thg where
 kind:Int
 text:qx
 deriving DecidableEq
def noT:Thg:=⟨0,[]⟩
def yw (x:Ent):Thg:=if x.fold = true then ⟨1,[]⟩ else ⟨2,x.text⟩
def stT (t:List Ent) (p:qx):Thg:=match qG t p with|none=>noT|some x=>yw x
structure Cpy where
 path:qx
 at_:qx
 deriving DecidableEq
def zX (p:qx) (x:Thg):Ent:=⟨p,decide (x.kind = 1),x.text,1⟩
def kv (b x y:Thg):Thg × Thg :=
 if x = y then (x,noT) else if x = b then (y,noT) else if y = b then (x,noT)
 else if x.kind = 1 then (x,y) else if y.kind = 1 then (y,x)
 else if x.kind = 2 ∧ y.kind = 2 then (y,x) else if x.kind = 2 then (x,noT) else (y,noT)
def wK (o:List Ent) (p:qx) (x:Thg):List Ent:=if x.kind = 0 then o else js o (zX p x)
def vL (l:List qx) (s:qx):List qx:=if s ∈ l then l else l.takeWhile (fun x=>bytesLess x s) ++ s :: l.dropWhile (fun x=>bytesLess x s)
def y4 (b m t:List Ent):List qx:=((b ++ (m ++ t)).map Ent.path).foldl vL []
def yj (b m t:List Ent) (p:qx):Thg × Thg:=kv (stT b p) (stT m p) (stT t p)
def yK (b m t:List Ent) (P:List qx):List Ent:=P.foldl (fun o p=>wK o p (yj b m t p).1) []
def yy (b m t:List Ent) (P:List qx):List (qx × qx):=P.filterMap fun p=>if (yj b m t p).2.kind = 2 then some (p,(yj b m t p).2.text) else none
def JW (m t o:List Ent) (q:qx):Bool := !j9 m q && !j9 t q && !j9 o q
def xX (m t o:List Ent) (p:qx):Nat → Nat → Option qx
 | 0,_=>none
 | k + 1,n=>if x7 p (n:Int) = 0 then (if JW m t o (xD p (n:Int)) = true then some (xD p (n:Int)) else xX m t o p k (n + 1)) else none
structure MS where
 out:List Ent
 cps:List Cpy
def y8 (m t:List Ent) (s:MS) (p x:qx):Option MS :=
 match xX m t s.out p 99 1 with
 | none=>none
 | some q=>some ⟨js s.out ⟨q,false,x,1⟩,s.cps ++ [⟨p,q⟩]⟩
def Yw (m t:List Ent):List (qx × qx) → MS → Option MS
 | [],s=>some s
 | g :: l,s=>match y8 m t s g.1 g.2 with|none=>none|some s'=>Yw m t l s'
def kN (m t:List Ent) (s:MS) (q:qx):Option MS :=
 if (stT s.out q).kind = 1 then some s
 else if (stT s.out q).kind = 2 then y8 m t ⟨js s.out ⟨q,true,[],1⟩,s.cps⟩ q (stT s.out q).text
 else some ⟨js s.out ⟨q,true,[],1⟩,s.cps⟩
def v8 (m t:List Ent):List qx → MS → Option MS
 | [],s=>some s
 | q :: l,s=>match kN m t s q with|none=>none|some s'=>v8 m t l s'
def q0 (p:qx):List qx:=(List.range ((qg p).length - 1)).map fun k=>xi ((qg p).take (k + 1))
def xx (b m t:List Ent):Option MS :=
 match Yw m t (yy b m t (y4 b m t)) ⟨yK b m t (y4 b m t),[]⟩ with
 | none=>none
 | some s=>v8 m t ((s.out.map Ent.path).flatMap q0) s
def zQ (t:List Ent) (e:Ent):Option Int:=match qG t e.path with|none=>none|some x=>if yw x = yw e then some x.ver else none
def zu (m t:List Ent) (e:Ent):Int:=match zQ t e with|some v=>v|none=>match zQ m e with|some v=>v|none=>1
def vD (m t:List Ent) (e:Ent):Ent := { e with ver:=zu m t e }
def xe (b m t:List Ent):List Ent × List Cpy × Int :=
 match xx b m t with
 | none=>([],[],2)
 | some s=>if 60 < s.out.length then ([],[],2) else (s.out.map (vD m t),s.cps,0)
def xd (b m t:List Ent):List Ent × List Cpy × Int:=if jB qA [b,m,t] = 0 then xe b m t else ([],[],jB qA [b,m,t])
def zh (x:Thg):Prop:=(x.kind = 0 ∧ x.text = []) ∨ (x.kind = 1 ∧ x.text = []) ∨ x.kind = 2
theorem qa5 {x y:Thg} (h1:x.kind = y.kind) (h2:x.text = y.text):x = y:=by
 obtain ⟨a,b⟩:=x
 obtain ⟨c,d⟩:=y
 simp at h1 h2
 rw [h1,h2]
theorem qaJ (x:Ent):zh (yw x):=by
 unfold yw
 split
 ·exact .inr (.inl ⟨rfl,rfl⟩)
 ·exact .inr (.inr rfl)
theorem ka (t:List Ent) (p:qx):zh (stT t p):=by
 unfold stT
 split
 ·exact .inl ⟨rfl,rfl⟩
 ·exact qaJ _
theorem qaa (x:Ent):(yw x).kind = 1 ∨ (yw x).kind = 2:=by
 unfold yw
 split
 ·exact .inl rfl
 ·exact .inr rfl
theorem Qs {t:List Ent} {p:qx}:(stT t p).kind = 0 ↔ qG t p = none:=by
 unfold stT
 cases h:qG t p with
 | none=>simp [noT]
 | some x=>rcases qaa x with h1|h1<;>simp [h1]
theorem W9 {t:List Ent} {p:qx}:(stT t p).kind = 1 ↔ ∃ x,qG t p = some x ∧ x.fold = true:=by
 unfold stT
 cases h:qG t p with
 | none=>simp [noT]
 | some x =>
   unfold yw
   cases hf:x.fold<;>simp [hf]
theorem qbH {t:List Ent} {p s:qx}:stT t p = ⟨2,s⟩ ↔ ∃ x,qG t p = some x ∧ x.fold = false ∧ x.text = s:=by
 unfold stT
 cases h:qG t p with
 | none=>simp [noT]
 | some x =>
   unfold yw
   cases hf:x.fold<;>simp [hf]
theorem XZ {p:qx} {x:Thg} (h:zh x) (h0:¬ x.kind = 0):yw (zX p x) = x:=by
 obtain ⟨k,s⟩:=x
 unfold yw zX
 rcases h with ⟨h,_⟩|⟨h,h2⟩|h
 ·exact absurd h h0
 ·simp at h h2;subst h;subst h2;rfl
 ·simp at h;subst h;rfl
theorem VD {b x y:Thg} (hx:zh x) (hy:zh y):zh (kv b x y).1 ∧ zh (kv b x y).2:=by
 have hn:zh noT := .inl ⟨rfl,rfl⟩
 unfold kv
 (repeat' split)<;>exact ⟨by assumption,by assumption⟩
def zO (l:List qx):Prop:=l.Pairwise fun a b=>bytesLess a b = true
theorem VS : ∀ {t u:List qx},zO t → zO u → (∀ x,x ∈ t ↔ x ∈ u) → t = u
 | [],[],_,_,_=>rfl
 | [],y :: u,_,_,h=>absurd ((h y).2 (by simp)) (by simp)
 | x :: t,[],_,_,h=>absurd ((h x).1 (by simp)) (by simp)
 | x :: t,y :: u,ht,hu,h=>by
   have ht1:=List.pairwise_cons.1 ht
   have hu1:=List.pairwise_cons.1 hu
   have hxy:x = y:=by
    rcases List.mem_cons.1 ((h x).1 (by simp)) with h1|h1
    ·exact h1
    ·rcases List.mem_cons.1 ((h y).2 (by simp)) with h2|h2
     ·exact h2.symm
     ·have h3:=ht1.1 y h2
      have h4:=hu1.1 x h1
      rw [qaw h3] at h4;cases h4
   subst hxy
   refine congrArg _ (VS ht1.2 hu1.2 fun z=>⟨fun hz=>?_,fun hz=>?_⟩)
   ·rcases List.mem_cons.1 ((h z).1 (by simp [hz])) with h1|h1
    ·subst h1
     have:=ht1.1 z hz
     rw [vV] at this;cases this
    ·exact h1
   ·rcases List.mem_cons.1 ((h z).2 (by simp [hz])) with h1|h1
    ·subst h1
     have:=hu1.1 z hz
     rw [vV] at this;cases this
    ·exact h1
theorem WG {l:List qx} {s x:qx}:x ∈ vL l s ↔ x = s ∨ x ∈ l:=by
 unfold vL
 split
 ·rename_i h
  constructor
  ·exact .inr
  ·rintro (rfl|h1)
   ·exact h
   ·exact h1
 ·have:l = l.takeWhile (fun x=>bytesLess x s) ++ l.dropWhile (fun x=>bytesLess x s):=List.takeWhile_append_dropWhile.symm
  constructor
  ·intro h
   rcases List.mem_append.1 h with h1|h1
   ·right;rw [this];exact List.mem_append_left _ h1
   ·rcases List.mem_cons.1 h1 with h2|h2
    ·exact .inl h2
    ·right;rw [this];exact List.mem_append_right _ h2
  ·rintro (rfl|h)
   ·exact List.mem_append_right _ (List.mem_cons_self ..)
   ·rw [this] at h
    rcases List.mem_append.1 h with h1|h1
    ·exact List.mem_append_left _ h1
    ·exact List.mem_append_right _ (List.mem_cons_of_mem _ h1)
theorem WV : ∀ {l:List qx} {s:qx},zO l → zO (vL l s):=by
 intro l s h
 unfold vL
 split
 ·exact h
 ·rename_i hs
  have key : ∀ {l:List qx},zO l → s ∉ l → zO (l.takeWhile (fun x=>bytesLess x s) ++ s :: l.dropWhile (fun x=>bytesLess x s)):=by
   intro l
   induction l with
   | nil=>intro _ _;exact List.pairwise_singleton _ _
   | cons a l ih =>
     intro h hs
     have h1:=List.pairwise_cons.1 h
     simp only [List.mem_cons,not_or] at hs
     by_cases ha:bytesLess a s = true
     ·simp only [List.takeWhile_cons,List.dropWhile_cons,ha,if_true,List.cons_append]
      refine List.pairwise_cons.2 ⟨fun y hy=>?_,ih h1.2 hs.2⟩
      rcases List.mem_append.1 hy with h2|h2
      ·exact h1.1 y ((List.takeWhile_sublist _).subset h2)
      ·rcases List.mem_cons.1 h2 with rfl|h2
       ·exact ha
       ·exact h1.1 y ((List.dropWhile_sublist _).subset h2)
     ·have ha' : bytesLess a s = false:=by simpa using ha
      simp only [List.takeWhile_cons,List.dropWhile_cons,ha',Bool.false_eq_true,if_false,List.nil_append]
      have hsa:bytesLess s a = true:=by
       rcases zw s a with h2|h2|h2
       ·exact h2.1
       ·exact absurd h2.1 hs.1
       ·exact absurd h2.1 ha
      refine List.pairwise_cons.2 ⟨fun y hy=>?_,h⟩
      rcases List.mem_cons.1 hy with rfl|h2
      ·exact hsa
      ·exact vr hsa (h1.1 y h2)
  exact key h hs
theorem kR {L:List qx} : ∀ {l:List qx},zO l → zO (L.foldl vL l) ∧ ∀ x,x ∈ L.foldl vL l ↔ x ∈ L ∨ x ∈ l:=by
 induction L with
 | nil=>intro l h;exact ⟨h,fun x=>by simp⟩
 | cons a L ih =>
   intro l h
   obtain ⟨h1,h2⟩:=ih (WV (s:=a) h)
   refine ⟨h1,fun x=>?_⟩
   rw [List.foldl_cons,h2,WG,List.mem_cons]
   constructor
   ·rintro (h|h|h)
    ·exact .inl (.inr h)
    ·exact .inl (.inl h)
    ·exact .inr h
   ·rintro ((h|h)|h)
    ·exact .inr (.inl h)
    ·exact .inl h
    ·exact .inr (.inr h)
theorem Wc (b m t:List Ent):zO (y4 b m t):=(kR List.Pairwise.nil).1
theorem VB {b m t:List Ent} {p:qx}:p ∈ y4 b m t ↔ ¬ qG b p = none ∨ ¬ qG m p = none ∨ ¬ qG t p = none:=by
 have h1 : ∀ u:List Ent,p ∈ u.map Ent.path ↔ ¬ qG u p = none:=fun u=>by
  rw [wi,List.mem_map]
  constructor
  ·rintro ⟨x,h1,h2⟩ h3;exact h3 x h1 h2
  ·intro h
   exact Classical.byContradiction fun h2=>h fun x hx e=>h2 ⟨x,hx,e⟩
 unfold y4
 rw [(kR List.Pairwise.nil).2,List.map_append,List.map_append,List.mem_append,List.mem_append,h1,h1,h1]
 simp
end Go.Proofs.YtnhpclmbhbblbaaGreatDoor
