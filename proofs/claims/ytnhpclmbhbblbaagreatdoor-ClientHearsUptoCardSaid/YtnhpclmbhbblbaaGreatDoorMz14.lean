import Derived.Test.YtnhpclmbhbblbaaGreatDoorMz13
import Derived.Test.YtnhpclmbhbblbaaGreatDoorMz11
import Derived.Test.YtnhpclmbhbblbaaGreatDoorMz0
set_option linter.unusedSimpArgs false
set_option linter.unnecessarySimpa false
set_option linter.unusedVariables false
set_option maxHeartbeats 1000000
namespace Go.Proofs.YtnhpclmbhbblbaaGreatDoor
open Go.Ab Go.RowKit
set_option maxRecDepth 10000
attribute [local irreducible] Awp yl jE jl Red qX Go.Ab.Fin qW Rz vl jj ji ResOk jV jz yb jv
theorem qgV (t:List Ent) (c:Chg) (v:Int) (h60:t.length ≤ 60) (hs:q4 jr t = true) (hgt : ∀ x,x ∈ t → qy x.path = 0) (hcs:c.small) (hk:c.kind = 4) (h0:yD c = 0) (h1:vJ t c = 0) (h2:yo t c = 0):yO C.P 101 [qb t,.agg c.row,.v (.int .i64 v)] (.tup [qb (if ym t c v = 0 then jy t c v else []),.v (.int .i64 (ym t c v))]):=by
 obtain ⟨l1,l2,l3⟩:=hcs
 have hform:=vq c ⟨l1,l2,l3⟩
 have hpo1:=yC c.path (by omega)
 have hpo2:=yC c.to (by omega)
 have hfo:=vR t (qG (jQ c)) (by omega)
 have hea:=j8 t c.path (by omega)
 have heb:=j8 t c.to (by omega)
 have hinn:=vy c.to c.path (by omega) (by omega)
 have hkk:=yS h0
 have hbase : -1 ≤ c.base:=Qb h0
 obtain ⟨hz1,hz2,hz3⟩:=Qj h1
 have hst : ∀ x,x ∈ t → ¬ c.base = -1 → (decide (c.base < x.ver) && inB x.path c.path) = false:=fun x hx hb=>by
  unfold yo at h2
  by_cases h3:t.any (xW c) = true
  ·rw [if_pos ⟨hb,h3⟩] at h2;exact absurd h2 (by decide)
  ·have h4:t.any (xW c) = false:=by simpa using h3
   rw [List.any_eq_false] at h4
   have h5:=h4 x hx
   simpa [xW] using h5
 clear h2
 have hh:=Z3 (by omega) hz2
 obtain ⟨hkk2,_,hfi,hix⟩:=zu hs hh
 have hg0:jQ c = c.path:=by simp [jQ,hk]
 rw [hz1,hg0] at hfo
 rw [h0] at hform
 rw [hix] at hea
 generalize y0 t c.path = k at *
 have hD:jy t c v = j4 (zV c.path) t:=by simp [jy,hk]
 have hE:ym t c v = if 60 < (jy t c v).length then 2 else 0:=by simp [ym,xe,hk]
 rw [hE,hD]
 clear hE hD hz1 hz2 hz3 h1 h0
 have hlen:(j4 (zV c.path) t).length ≤ t.length:=List.length_filter_le ..
 have hL:¬ 60 < (j4 (zV c.path) t).length:=by omega
 rw [if_neg hL]
 refine qa Tryz.func101 rfl _ Tryz.ntmps101 (Nat.le_of_ble_eq_true rfl) _ Tryz.results101 0 rfl rfl ?_
 repeat' (first|refine qm ?_|(first|refine jc Tryz.func125 (hform ..) ?_|refine jc Tryz.func67 (hpo1 ..) ?_|refine jc Tryz.func67 (hpo2 ..) ?_|refine xsQ Tryz.func66 (hfo ..) ?_|refine xsQ Tryz.func34 (hea ..) ?_|refine xsQ Tryz.func34 (heb ..) ?_|refine jc Tryz.func126 (hinn ..) ?_)|((first|refine qd ?_ ?_|refine qc ?_ ?_|refine xsC ?_ ?_);all_goals (intro hc;have hp:=hc;try simp at hp;try (exfalso;omega)))|refine qO ?_ ?_)
 all_goals try (exfalso;omega)
 apply Ww
 case h =>
  intro key
  refine xsZ 4 0 ?_
  (refine Awp.red (qv (ts:=[(0,qb t),(2,.v (.int .i64 v)),(4,.fp [c.row] 0 0),(11,.v (.int .i64 ((0:Nat):Int)))]) ?_) ?_;((repeat (first|exact qg|refine qn ?_|refine qS ?_ ?_))))
  refine qP (fun n σ => ∃ i:Nat,i ≤ t.length ∧ n = t.length - i ∧ (True) ∧ σ = ⟨[(0,qb t),(2,.v (.int .i64 v)),(4,.fp [c.row] 0 0),(11,.v (.int .i64 (i:Int)))],[],C.nh⟩) t.length ⟨0,Nat.zero_le _,rfl,trivial,rfl⟩ ?_
  rintro n σ ⟨i,hi,rfl, -,rfl⟩
  by_cases hlt:i < t.length
  ·have hr:=js (f:=Ent.row) hlt
   have hnw:=hst t[i] (List.getElem_mem _)
   have hpl:=qV (hgt t[i] (List.getElem_mem _))
   have hii:=vy t[i].path c.path (by omega) (by omega)
   generalize inB t[i].path c.path = IB at *
   repeat' (first|refine qm ?_|(first|refine jc Tryz.func126 (hii ..) ?_)|((first|refine qd ?_ ?_|refine qc ?_ ?_|refine xsC ?_ ?_);all_goals (intro hc;have hp:=hc;try simp at hp;try (exfalso;omega)))|refine qO ?_ ?_)
   all_goals try (exfalso;omega)
   all_goals try (
    have h9:=hnw (by omega)
    rw [Bool.and_eq_false_iff] at h9
    rcases h9 with h9|h9
    ·exact absurd (h9.symm.trans (by assumption)) Bool.false_ne_true
    ·exact absurd (h9.symm.trans (by assumption)) Bool.false_ne_true)
   all_goals first
    | (refine ⟨t.length - (i + 1),_,by omega,qv (ts:=[(0,qb t),(2,.v (.int .i64 v)),(4,.fp [c.row] 0 0),(11,.v (.int .i64 ((i + 1:Nat):Int)))]) ?_,i + 1,by omega,rfl,trivial,rfl⟩;((repeat (first|exact qg|refine qn ?_|refine qS ?_ ?_))))
    | ((repeat' (first|refine qm ?_|(first|fail)|((first|refine qd ?_ ?_|refine qc ?_ ?_|refine xsC ?_ ?_);all_goals (intro hc;have hp:=hc;try simp at hp;try (exfalso;omega)))|refine qO ?_ ?_))
       (all_goals try (exfalso;omega))
       (refine Awp.red (qv (ts:=[(0,qb t),(2,.v (.int .i64 v)),(4,.fp [c.row] 0 0),(12,.sl true []),(13,.v (.int .i64 ((0:Nat):Int)))]) ?_) ?_;((repeat (first|exact qg|refine qn ?_|refine qS ?_ ?_))))
       exact key.out)
  ·obtain rfl:i = t.length:=by omega
   (repeat' (first|refine qm ?_|(first|fail)|((first|refine qd ?_ ?_|refine qc ?_ ?_|refine xsC ?_ ?_);all_goals (intro hc;have hp:=hc;try simp at hp;try (exfalso;omega)))|refine qO ?_ ?_))
   (all_goals try (exfalso;omega))
   (refine Awp.red (qv (ts:=[(0,qb t),(2,.v (.int .i64 v)),(4,.fp [c.row] 0 0),(12,.sl true []),(13,.v (.int .i64 ((0:Nat):Int)))]) ?_) ?_;((repeat (first|exact qg|refine qn ?_|refine qS ?_ ?_))))
   exact key.out
 refine Awp.red (vX 12 4 rfl (Nat.le_refl _)) ?_
 (refine Awp.red (qC (τ:=⟨[(0,qb t),(2,.v (.int .i64 v)),(4,.fp [c.row] 0 0),(12,.os 0 0 0),(13,.v (.int .i64 ((0:Nat):Int)))],[(0,.own false 4 [])],1⟩) [(0,0)] rfl ?gts ?ghs) ?gmain;(case gts=>(repeat (first|exact qg|refine qn ?_|refine ye ?_|refine vj ?_|refine qS ?_ ?_)));(case ghs=>(repeat (first|exact qj|refine yA ?_|refine q9 ?_ ?_))))
 refine qP (fun n σ => ∃ i:Nat,i ≤ t.length ∧ n = t.length - i ∧ (True) ∧ σ = ⟨[(0,qb t),(2,.v (.int .i64 v)),(4,.fp [c.row] 0 0),(12,.os 0 0 (j4 (zV c.path) (t.take i)).length),(13,.v (.int .i64 (i:Int)))],[(0,.own false 4 ((j4 (zV c.path) (t.take i)).map Ent.row))],1⟩) t.length ⟨0,Nat.zero_le _,rfl,trivial,rfl⟩ ?_
 rintro n σ ⟨i,hi,rfl, -,rfl⟩
 by_cases hlt:i < t.length
 ·have hr:=js (f:=Ent.row) hlt
  have hpl:=qV (hgt t[i] (List.getElem_mem _))
  have hii:=vy t[i].path c.path (by omega) (by omega)
  have hks := @QH (zV c.path) t i hlt
  have hkl:=Xt (zV c.path) t i (by omega)
  have hin:zV c.path t[i] = inB t[i].path c.path:=rfl
  rw [hin] at hks
  generalize inB t[i].path c.path = IB at *
  clear hin hst
  generalize hGG:j4 (zV c.path) (t.take i) = G at hks hkl ⊢
  clear hGG
  cases IB with
  | true =>
    rw [if_pos rfl] at hks
    repeat' (first|refine qm ?_|(first|(refine jM ?_)|(refine yg ?_)|refine jc Tryz.func126 (hii ..) ?_)|((first|refine qd ?_ ?_|refine qc ?_ ?_|refine xsC ?_ ?_);all_goals (intro hc;have hp:=hc;try simp at hp;try (exfalso;omega)))|refine qO ?_ ?_)
    all_goals try (exfalso;omega)
    refine ⟨t.length - (i + 1),_,by omega,qC (τ:=⟨[(0,qb t),(2,.v (.int .i64 v)),(4,.fp [c.row] 0 0),(12,.os 0 0 (j4 (zV c.path) (t.take (i + 1))).length),(13,.v (.int .i64 ((i + 1:Nat):Int)))],[(0,.own false 4 ((j4 (zV c.path) (t.take (i + 1))).map Ent.row))],1⟩) [(0,0)] rfl ?gts ?ghs,i + 1,by omega,rfl,trivial,rfl⟩;(case gts=>(repeat (first|exact qg|refine qn ?_|refine ye ?_|refine vj ?_|refine qS ?_ ?_));all_goals (rw [hks]));(case ghs=>(repeat (first|exact qj|refine yA ?_|refine q9 ?_ ?_));all_goals (rw [hks]))
  | false =>
    rw [if_neg (by decide)] at hks
    repeat' (first|refine qm ?_|(first|(refine jM ?_)|(refine yg ?_)|refine jc Tryz.func126 (hii ..) ?_)|((first|refine qd ?_ ?_|refine qc ?_ ?_|refine xsC ?_ ?_);all_goals (intro hc;have hp:=hc;try simp at hp;try (exfalso;omega)))|refine qO ?_ ?_)
    all_goals try (exfalso;omega)
    refine ⟨t.length - (i + 1),_,by omega,qC (τ:=⟨[(0,qb t),(2,.v (.int .i64 v)),(4,.fp [c.row] 0 0),(12,.os 0 0 (j4 (zV c.path) (t.take (i + 1))).length),(13,.v (.int .i64 ((i + 1:Nat):Int)))],[(0,.own false 4 ((j4 (zV c.path) (t.take (i + 1))).map Ent.row))],1⟩) [(1,0)] rfl ?gts ?ghs,i + 1,by omega,rfl,trivial,rfl⟩;(case gts=>(repeat (first|exact qg|refine qn ?_|refine ye ?_|refine vj ?_|refine qS ?_ ?_));all_goals (rw [hks];try first|(simp;done)|(rw [List.take_of_length_le (by simp)];simp;done)));(case ghs=>(repeat (first|exact qj|refine yA ?_|refine q9 ?_ ?_));all_goals (rw [hks];try first|(simp;done)|(rw [List.take_of_length_le (by simp)];simp;done)))
 ·obtain rfl:i = t.length:=by omega
  rw [List.take_length]
  (repeat' (first|refine qm ?_|(first|fail)|((first|refine qd ?_ ?_|refine qc ?_ ?_|refine xsC ?_ ?_);all_goals (intro hc;have hp:=hc;try simp at hp;try (exfalso;omega)))|refine qO ?_ ?_))
  (all_goals try (exfalso;omega))
  refine Awp.red (wF 0 rfl (by intro row hrow;obtain ⟨x,_,rfl⟩:=List.mem_map.1 hrow;rfl)) ?_
  refine Awp.red (KT 12 0 rfl rfl (by simp)) ?_
  (refine Awp.red (qv (ts:=[(0,qb t),(2,.v (.int .i64 v)),(4,.fp [c.row] 0 0),(12,qb (j4 (zV c.path) t)),(14,.v (.int .i64 ((0:Nat):Int)))]) ?_) ?_;((repeat (first|exact qg|refine qn ?_|refine qS ?_ ?_))))
  all_goals try (rw [List.drop_zero,List.take_of_length_le (by simp)];rfl)
  refine qP (fun n σ => ∃ i:Nat,i ≤ t.length ∧ n = t.length - i ∧ (True) ∧ σ = ⟨[(0,qb t),(2,.v (.int .i64 v)),(4,.fp [c.row] 0 0),(12,qb (j4 (zV c.path) t)),(14,.v (.int .i64 (i:Int)))],[],C.nh⟩) t.length ⟨0,Nat.zero_le _,rfl,trivial,rfl⟩ ?_
  rintro n σ ⟨i,hi,rfl, -,rfl⟩
  have hml:(List.map Ent.row (j4 (zV c.path) t)).length = (j4 (zV c.path) t).length:=List.length_map ..
  (repeat' (first|refine qm ?_|(first|fail)|((first|refine qd ?_ ?_|refine qc ?_ ?_|refine xsC ?_ ?_);all_goals (intro hc;have hp:=hc;try simp at hp;try (exfalso;omega)))|refine qO ?_ ?_))
  (all_goals try (exfalso;omega))
  (all_goals ((exact xE (rs:=[.tmp 6,.tmp 7]))))
end Go.Proofs.YtnhpclmbhbblbaaGreatDoor
set_option linter.unusedSimpArgs false
set_option linter.unnecessarySimpa false
set_option linter.unusedVariables false
set_option maxHeartbeats 1000000
namespace Go.Proofs.YtnhpclmbhbblbaaGreatDoor
open Go.Ab Go.RowKit
set_option maxRecDepth 10000
attribute [local irreducible] Awp yl jE jl Red qX Go.Ab.Fin qW Rz vl jj ji ResOk jV jz yb jv
set_option maxHeartbeats 1000000 in
theorem qgU (t:List Ent) (c:Chg) (v:Int) (h60:t.length ≤ 60) (hs:q4 jr t = true) (hgt : ∀ x,x ∈ t → qy x.path = 0) (hcs:c.small) (hk:c.kind = 3) (h0:yD c = 0) (h1:vJ t c = 0) (h2:yo t c = 0):yO C.P 101 [qb t,.agg c.row,.v (.int .i64 v)] (.tup [qb (if ym t c v = 0 then jy t c v else []),.v (.int .i64 (ym t c v))]):=by
 obtain ⟨l1,l2,l3⟩:=hcs
 have hform:=vq c ⟨l1,l2,l3⟩
 have hpo1:=yC c.path (by omega)
 have hpo2:=yC c.to (by omega)
 have hfo:=vR t (qG (jQ c)) (by omega)
 have hea:=j8 t c.path (by omega)
 have heb:=j8 t c.to (by omega)
 have hinn:=vy c.to c.path (by omega) (by omega)
 have hkk:=yS h0
 have hbase : -1 ≤ c.base:=Qb h0
 obtain ⟨hz1,hz2,hz3⟩:=Qj h1
 have hst : ∀ x,x ∈ t → ¬ c.base = -1 → (decide (c.base < x.ver) && inB x.path c.path) = false:=fun x hx hb=>by
  unfold yo at h2
  by_cases h3:t.any (xW c) = true
  ·rw [if_pos ⟨hb,h3⟩] at h2;exact absurd h2 (by decide)
  ·have h4:t.any (xW c) = false:=by simpa using h3
   rw [List.any_eq_false] at h4
   have h5:=h4 x hx
   simpa [xW] using h5
 clear h2
 have hh:=Z3 (by omega) hz2
 obtain ⟨hkk2,_,hfi,hix⟩:=zu hs hh
 have hg0:jQ c = c.to:=by simp [jQ,hk]
 rw [hz1,hg0] at hfo
 rw [h0] at hform
 rw [hix] at hea
 have hM:kH t c = if inB c.to c.path = true then 3 else if jW t c.to = true then 6 else 0:=by unfold kH;rw [if_pos hk]
 rw [hz3] at hM
 have hin0:inB c.to c.path = false:=by
  cases h:inB c.to c.path with
  | true=>rw [h] at hM;simp at hM
  | false=>rfl
 rw [hin0,if_neg (by decide)] at hM
 have hhit:jW t c.to = false:=by
  cases h:jW t c.to with
  | true=>rw [h] at hM;simp at hM
  | false=>rfl
 rw [(xK hhit).2] at heb
 rw [hin0] at hinn
 obtain ⟨-, -,hpe,hte, -⟩:=hkk
 have hpt:=hte hk
 have hps:=qV hpe
 have hpts:=qV hpt
 generalize y0 t c.path = k at *
 have hDD:jy t c v = (jF t c v).foldl jN (j4 (zV c.path) t):=by simp [jy,hk]
 have hEE:xe t c = false → ym t c v = if 60 < (jy t c v).length then 2 else 0:=fun h=>by simp [ym,h]
 have hKl:(j4 (zV c.path) t).length ≤ t.length:=List.length_filter_le ..
 have hKr:=kc (p:=zV c.path) hs
 clear hM hz1 hz2 hz3 h1 h0 hin0 hfi hix
 refine qa Tryz.func101 rfl _ Tryz.ntmps101 (Nat.le_of_ble_eq_true rfl) _ Tryz.results101 0 rfl rfl ?_
 repeat' (first|refine qm ?_|(first|refine jc Tryz.func125 (hform ..) ?_|refine jc Tryz.func67 (hpo1 ..) ?_|refine jc Tryz.func67 (hpo2 ..) ?_|refine xsQ Tryz.func66 (hfo ..) ?_|refine xsQ Tryz.func34 (hea ..) ?_|refine xsQ Tryz.func34 (heb ..) ?_|refine jc Tryz.func126 (hinn ..) ?_)|((first|refine qd ?_ ?_|refine qc ?_ ?_|refine xsC ?_ ?_);all_goals (intro hc;have hp:=hc;try simp at hp;try (exfalso;omega)))|refine qO ?_ ?_)
 all_goals try (exfalso;omega)
 apply Ww
 case h =>
  intro key
  refine xsZ 4 0 ?_
  (refine Awp.red (qv (ts:=[(0,qb t),(2,.v (.int .i64 v)),(4,.fp [c.row] 0 0),(11,.v (.int .i64 ((0:Nat):Int)))]) ?_) ?_;((repeat (first|exact qg|refine qn ?_|refine qS ?_ ?_))))
  refine qP (fun n σ => ∃ i:Nat,i ≤ t.length ∧ n = t.length - i ∧ (True) ∧ σ = ⟨[(0,qb t),(2,.v (.int .i64 v)),(4,.fp [c.row] 0 0),(11,.v (.int .i64 (i:Int)))],[],C.nh⟩) t.length ⟨0,Nat.zero_le _,rfl,trivial,rfl⟩ ?_
  rintro n σ ⟨i,hi,rfl, -,rfl⟩
  by_cases hlt:i < t.length
  ·have hr:=js (f:=Ent.row) hlt
   have hnw:=hst t[i] (List.getElem_mem _)
   have hpl:=qV (hgt t[i] (List.getElem_mem _))
   have hii:=vy t[i].path c.path (by omega) (by omega)
   generalize inB t[i].path c.path = IB at *
   repeat' (first|refine qm ?_|(first|refine jc Tryz.func126 (hii ..) ?_)|((first|refine qd ?_ ?_|refine qc ?_ ?_|refine xsC ?_ ?_);all_goals (intro hc;have hp:=hc;try simp at hp;try (exfalso;omega)))|refine qO ?_ ?_)
   all_goals try (exfalso;omega)
   all_goals try (
    have h9:=hnw (by omega)
    rw [Bool.and_eq_false_iff] at h9
    rcases h9 with h9|h9
    ·exact absurd (h9.symm.trans (by assumption)) Bool.false_ne_true
    ·exact absurd (h9.symm.trans (by assumption)) Bool.false_ne_true)
   all_goals first
    | (refine ⟨t.length - (i + 1),_,by omega,qv (ts:=[(0,qb t),(2,.v (.int .i64 v)),(4,.fp [c.row] 0 0),(11,.v (.int .i64 ((i + 1:Nat):Int)))]) ?_,i + 1,by omega,rfl,trivial,rfl⟩;((repeat (first|exact qg|refine qn ?_|refine qS ?_ ?_))))
    | ((repeat' (first|refine qm ?_|(first|fail)|((first|refine qd ?_ ?_|refine qc ?_ ?_|refine xsC ?_ ?_);all_goals (intro hc;have hp:=hc;try simp at hp;try (exfalso;omega)))|refine qO ?_ ?_))
       (all_goals try (exfalso;omega))
       (refine Awp.red (qv (ts:=[(0,qb t),(2,.v (.int .i64 v)),(4,.fp [c.row] 0 0),(12,.sl true []),(13,.v (.int .i64 ((0:Nat):Int)))]) ?_) ?_;((repeat (first|exact qg|refine qn ?_|refine qS ?_ ?_))))
       exact key.out)
  ·obtain rfl:i = t.length:=by omega
   (repeat' (first|refine qm ?_|(first|fail)|((first|refine qd ?_ ?_|refine qc ?_ ?_|refine xsC ?_ ?_);all_goals (intro hc;have hp:=hc;try simp at hp;try (exfalso;omega)))|refine qO ?_ ?_))
   (all_goals try (exfalso;omega))
   (refine Awp.red (qv (ts:=[(0,qb t),(2,.v (.int .i64 v)),(4,.fp [c.row] 0 0),(12,.sl true []),(13,.v (.int .i64 ((0:Nat):Int)))]) ?_) ?_;((repeat (first|exact qg|refine qn ?_|refine qS ?_ ?_))))
   exact key.out
 refine Awp.red (vX 12 4 rfl (Nat.le_refl _)) ?_
 (refine Awp.red (qC (τ:=⟨[(0,qb t),(2,.v (.int .i64 v)),(4,.fp [c.row] 0 0),(12,.os 0 0 0),(13,.v (.int .i64 ((0:Nat):Int)))],[(0,.own false 4 [])],1⟩) [(0,0)] rfl ?gts ?ghs) ?gmain;(case gts=>(repeat (first|exact qg|refine qn ?_|refine ye ?_|refine vj ?_|refine qS ?_ ?_)));(case ghs=>(repeat (first|exact qj|refine yA ?_|refine q9 ?_ ?_))))
 refine qP (fun n σ => ∃ i:Nat,i ≤ t.length ∧ n = t.length - i ∧ (True) ∧ σ = ⟨[(0,qb t),(2,.v (.int .i64 v)),(4,.fp [c.row] 0 0),(12,.os 0 0 (j4 (zV c.path) (t.take i)).length),(13,.v (.int .i64 (i:Int)))],[(0,.own false 4 ((j4 (zV c.path) (t.take i)).map Ent.row))],1⟩) t.length ⟨0,Nat.zero_le _,rfl,trivial,rfl⟩ ?_
 rintro n σ ⟨i,hi,rfl, -,rfl⟩
 by_cases hlt:i < t.length
 ·have hr:=js (f:=Ent.row) hlt
  have hpl:=qV (hgt t[i] (List.getElem_mem _))
  have hii:=vy t[i].path c.path (by omega) (by omega)
  have hks := @QH (zV c.path) t i hlt
  have hkl:=Xt (zV c.path) t i (by omega)
  have hin:zV c.path t[i] = inB t[i].path c.path:=rfl
  rw [hin] at hks
  generalize inB t[i].path c.path = IB at *
  clear hin hst
  generalize hGG:j4 (zV c.path) (t.take i) = G at hks hkl ⊢
  clear hGG
  cases IB with
  | true =>
    rw [if_pos rfl] at hks
    repeat' (first|refine qm ?_|(first|(refine jM ?_)|(refine yg ?_)|refine jc Tryz.func126 (hii ..) ?_)|((first|refine qd ?_ ?_|refine qc ?_ ?_|refine xsC ?_ ?_);all_goals (intro hc;have hp:=hc;try simp at hp;try (exfalso;omega)))|refine qO ?_ ?_)
    all_goals try (exfalso;omega)
    refine ⟨t.length - (i + 1),_,by omega,qC (τ:=⟨[(0,qb t),(2,.v (.int .i64 v)),(4,.fp [c.row] 0 0),(12,.os 0 0 (j4 (zV c.path) (t.take (i + 1))).length),(13,.v (.int .i64 ((i + 1:Nat):Int)))],[(0,.own false 4 ((j4 (zV c.path) (t.take (i + 1))).map Ent.row))],1⟩) [(0,0)] rfl ?gts ?ghs,i + 1,by omega,rfl,trivial,rfl⟩;(case gts=>(repeat (first|exact qg|refine qn ?_|refine ye ?_|refine vj ?_|refine qS ?_ ?_));all_goals (rw [hks]));(case ghs=>(repeat (first|exact qj|refine yA ?_|refine q9 ?_ ?_));all_goals (rw [hks]))
  | false =>
    rw [if_neg (by decide)] at hks
    repeat' (first|refine qm ?_|(first|(refine jM ?_)|(refine yg ?_)|refine jc Tryz.func126 (hii ..) ?_)|((first|refine qd ?_ ?_|refine qc ?_ ?_|refine xsC ?_ ?_);all_goals (intro hc;have hp:=hc;try simp at hp;try (exfalso;omega)))|refine qO ?_ ?_)
    all_goals try (exfalso;omega)
    refine ⟨t.length - (i + 1),_,by omega,qC (τ:=⟨[(0,qb t),(2,.v (.int .i64 v)),(4,.fp [c.row] 0 0),(12,.os 0 0 (j4 (zV c.path) (t.take (i + 1))).length),(13,.v (.int .i64 ((i + 1:Nat):Int)))],[(0,.own false 4 ((j4 (zV c.path) (t.take (i + 1))).map Ent.row))],1⟩) [(1,0)] rfl ?gts ?ghs,i + 1,by omega,rfl,trivial,rfl⟩;(case gts=>(repeat (first|exact qg|refine qn ?_|refine ye ?_|refine vj ?_|refine qS ?_ ?_));all_goals (rw [hks];try first|(simp;done)|(rw [List.take_of_length_le (by simp)];simp;done)));(case ghs=>(repeat (first|exact qj|refine yA ?_|refine q9 ?_ ?_));all_goals (rw [hks];try first|(simp;done)|(rw [List.take_of_length_le (by simp)];simp;done)))
 ·obtain rfl:i = t.length:=by omega
  rw [List.take_length]
  (repeat' (first|refine qm ?_|(first|fail)|((first|refine qd ?_ ?_|refine qc ?_ ?_|refine xsC ?_ ?_);all_goals (intro hc;have hp:=hc;try simp at hp;try (exfalso;omega)))|refine qO ?_ ?_))
  (all_goals try (exfalso;omega))
  refine Awp.red (wF 0 rfl (by intro row hrow;obtain ⟨x,_,rfl⟩:=List.mem_map.1 hrow;rfl)) ?_
  refine Awp.red (KT 12 0 rfl rfl (by simp)) ?_
  (refine Awp.red (qv (ts:=[(0,qb t),(2,.v (.int .i64 v)),(4,.fp [c.row] 0 0),(12,qb (((jF (t.take 0) c v).foldl jN (j4 (zV c.path) t)))),(14,.v (.int .i64 ((0:Nat):Int)))]) ?_) ?_;((repeat (first|exact qg|refine qn ?_|refine qS ?_ ?_))))
  all_goals try (rw [List.drop_zero,List.take_of_length_le (by simp)];rfl)
  generalize hKK:j4 (zV c.path) t = K at *
  refine qP (fun n σ => ∃ i:Nat,i ≤ t.length ∧ n = t.length - i ∧ (zX t c i = false) ∧ σ = ⟨[(0,qb t),(2,.v (.int .i64 v)),(4,.fp [c.row] 0 0),(12,qb ((jF (t.take i) c v).foldl jN K)),(14,.v (.int .i64 (i:Int)))],[],C.nh⟩) t.length ⟨0,Nat.zero_le _,rfl,rfl,rfl⟩ ?_
  rintro n σ ⟨i,hi,rfl,hsofar,rfl⟩
  by_cases hlt:i < t.length
  ·have hr:=js (f:=Ent.row) hlt
   have hxp:=hgt t[i] (List.getElem_mem _)
   have hpl:=qV hxp
   have hii:=vy t[i].path c.path (by omega) (by omega)
   have hgs := @Xq t c v i hlt
   have hbs := @Wu t c i hlt
   have hgl:(jF (t.take i) c v).length ≤ i:=by
    unfold jF
    rw [List.length_map]
    have h1:((t.take i).filter (zV c.path)).length ≤ (t.take i).length:=List.length_filter_le ..
    simp at h1;omega
   have hal:=QQ (jF (t.take i) c v) K
   have har:=kw (l:=jF (t.take i) c v) hKr
   have hmt : ∀ w,(if t[i].path = c.path then v else t[i].ver) = w → (xh c v t[i]).row = [.v (str (c.to ++ t[i].path.drop c.path.length)),.v (.bool t[i].fold),.v (str t[i].text),.v (.int .i64 w)]:=fun w hw=>by simp [xh,Ent.row,hw]
   have hmr := @Z5 t[i].path c.path c.to
   have hpu:=wM ((jF (t.take i) c v).foldl jN K) (xh c v t[i]) (by omega)
   rw [Qk har] at hpu
   have hbd:inB t[i].path c.path = true → jZ (c.to ++ t[i].path.drop c.path.length) = true → ym t c v = 2:=fun h3 h4=>by
    have:xe t c = true:=by
     simp only [xe,hk,decide_true,Bool.true_and,List.any_eq_true]
     exact ⟨t[i],List.mem_filter.2 ⟨List.getElem_mem _,h3⟩,h4⟩
    simp [ym,this]
   rw [hsofar] at hbs
   generalize hIB:inB t[i].path c.path = IB at *
   clear hst hsofar hDD hEE hhit
   cases IB with
   | false =>
     have hgs2:jF (t.take (i + 1)) c v = jF (t.take i) c v:=by rw [hgs,if_neg (by decide)]
     have hbs2:zX t c (i + 1) = false:=hbs
     generalize hOO:(jF (t.take i) c v).foldl jN K = O at *
     repeat' (first|refine qm ?_|(first|refine jc Tryz.func126 (hii ..) ?_)|((first|refine qd ?_ ?_|refine qc ?_ ?_|refine xsC ?_ ?_);all_goals (intro hc;have hp:=hc;try simp at hp;try (exfalso;omega)))|refine qO ?_ ?_)
     all_goals try (exfalso;omega)
     refine ⟨t.length - (i + 1),_,by omega,qv (ts:=[(0,qb t),(2,.v (.int .i64 v)),(4,.fp [c.row] 0 0),(12,qb ((jF (t.take (i + 1)) c v).foldl jN K)),(14,.v (.int .i64 ((i + 1:Nat):Int)))]) ?_,i + 1,by omega,rfl,hbs2,rfl⟩;((repeat (first|exact qg|refine qn ?_|refine qS ?_ ?_));all_goals (rw [hgs2,hOO];rfl))
   | true =>
     have hgs2:jF (t.take (i + 1)) c v = jF (t.take i) c v ++ [xh c v t[i]]:=by rw [hgs,if_pos rfl]
     have hO2:(jF (t.take (i + 1)) c v).foldl jN K = jN ((jF (t.take i) c v).foldl jN K) (xh c v t[i]):=by rw [hgs2,List.foldl_append];rfl
     rw [← hO2] at hpu
     have hmr:=hmr rfl
     have n1:=v8 c.to (by omega)
     have n2:=v8 t[i].path (by omega)
     have n3:=v8 c.path (by omega)
     have m1:=xP c.to
     have m2:=xP t[i].path
     have hcount:(qo c.path).length ≤ (qo t[i].path).length:=by
      rw [Vh,List.isPrefixOf_iff_prefix] at hIB
      exact hIB.length_le
     have hql:(c.to ++ t[i].path.drop c.path.length).length ≤ 4000000:=by simp;omega
     have hpo:=Vv (qo c.to ++ (qo t[i].path).drop (qo c.path).length) (by simp;omega) (by rw [hmr];omega)
     rw [hmr] at hpo
     have hgg:=J3 (c.to ++ t[i].path.drop c.path.length) (by omega)
     have hbs2:zX t c (i + 1) = jZ (c.to ++ t[i].path.drop c.path.length):=by simpa using hbs
     have hbd:=hbd rfl
     clear hgs hbs hgs2 hO2 hIB hmr hxp
     generalize hOO2:(jF (t.take (i + 1)) c v).foldl jN K = O2 at *
     generalize (jF (t.take i) c v).foldl jN K = O at *
     generalize c.to ++ t[i].path.drop c.path.length = Q at *
     have hrk : ∀ row,row ∈ (qo t[i].path).map qN → row.length = 1:=fun row hr=>by obtain ⟨x,_,rfl⟩:=List.mem_map.1 hr;rfl
     generalize hA:qo c.to = A at *
     generalize hB:qo t[i].path = B at *
     generalize hD:qo c.path = D at *
     have hml:(B.map qN).length = B.length:=List.length_map ..
     have hmd:(D.map qN).length = D.length:=List.length_map ..
     have hma:(A.map qN).length = A.length:=List.length_map ..
     have hee:(A ++ B.drop D.length).map qN = A.map qN ++ ((B.map qN).take (B.map qN).length).drop (D.map qN).length:=by rw [List.take_length,hmd,List.map_append,List.map_drop]
     rw [hee] at hpo
     have hrd:(((B.map qN).take (B.map qN).length).drop (D.map qN).length).all (fun row=>row.length == 1 && row.all yc) = true:=by
      rw [List.all_eq_true];intro x hx
      obtain ⟨y,_,rfl⟩:=List.mem_map.1 (List.mem_of_mem_take (List.mem_of_mem_drop hx))
      rfl
     have hdl:(((B.map qN).take (B.map qN).length).drop (D.map qN).length).length ≤ 4000000:=by rw [List.length_drop,List.take_length];omega
     clear hA hB hD hee
     cases hGT:jZ Q with
     | true =>
       rw [hbd hGT,if_neg (by decide)]
       rw [hGT] at hgg
       clear hbd hbs2 hpu hmt
       repeat' (first|refine qm ?_|(first|(refine jM ?_)|refine jc Tryz.func126 (hii ..) ?_|refine xsQ Tryz.func37 (n1 ..) ?_|refine xsQ Tryz.func37 (n2 ..) ?_|refine xsQ Tryz.func37 (n3 ..) ?_|(refine Yd ?_)|(apply YW;apply ku;(case hx=>rfl);(case hT=>rfl);(case he=>rfl);(case hE=>rfl);(case hn=>rfl);(case hl=>(first|omega|(simp;done)|(simp only [List.length_cons,List.length_nil,List.length_map];omega)|(simp;omega)));(case hz=>rfl);(case hsrc=>(first|(first|(apply zL;rfl;rfl)|(apply Jp;rfl;intro a;rfl)|(apply QV;rfl;rfl;first|omega|(simp;done)|(simp;omega);rfl;first|rfl|exact ve fun _=>rfl))|(apply zL;rfl;exact hrd)));(case hsz=>(first|omega|(simp;done)|(simp only [List.length_cons,List.length_nil,List.length_map];omega)|(simp;omega)));(case hlen=>(first|omega|(simp;done)|(simp only [List.length_cons,List.length_nil,List.length_map];omega)|(simp;omega)));(case hmn=>exact Nat.ne_of_beq_eq_false rfl);(case hN=>exact nle rfl))|(apply qf;apply xU (ex':=false) (a:=(D.map qN).length) (b:=(B.map qN).length) (m:=0);(case hx=>rfl);(case hT=>rfl);(case he=>rfl);(case hE=>rfl);(case ha=>exact ⟨_,rfl⟩);(case hb=>rfl);(case hm=>trivial);(case hab=>(first|omega|(simp;done)|(simp only [List.length_cons,List.length_nil,List.length_map];omega)|(simp;omega)));(case hbl=>(first|omega|(simp;done)|(simp only [List.length_cons,List.length_nil,List.length_map];omega)|(simp;omega)));(case hrk=>exact hrk);(case hex=>exact nofun);(case hN=>exact nle rfl))|(apply qf;apply yu ([2]);exact j1 Tryz.func38 rfl rfl;apply hpo;(case hz=>refine qH ?_ q5;(apply Y6;(case hn=>rfl);(case hl=>(simp;done));(case he=>(congr 1;exact List.take_length));(case hp=>(intro row hrow;rcases List.mem_append.1 hrow with hrow|hrow;(obtain ⟨y,_,rfl⟩:=List.mem_map.1 hrow;rfl);(obtain ⟨y,_,rfl⟩:=List.mem_map.1 (List.mem_of_mem_take (List.mem_of_mem_drop hrow));rfl)))));(case hfl=>rfl);(case hN=>exact nle rfl))|refine jc Tryz.func72 (hgg ..) ?_)|((first|refine qd ?_ ?_|refine qc ?_ ?_|refine xsC ?_ ?_);all_goals (intro hc;have hp:=hc;try simp at hp;try (exfalso;omega)))|refine qO ?_ ?_)
       all_goals try (exfalso;omega)
       all_goals ((exact xE (rs:=[.tmp 6,.tmp 7])))
     | false =>
       rw [hGT] at hgg hbs2
       clear hbd
       by_cases hpe2:t[i].path = c.path
       ·rw [hmt v (if_pos hpe2)] at hpu
        clear hmt
        repeat' (first|refine qm ?_|(first|(refine jM ?_)|refine jc Tryz.func126 (hii ..) ?_|refine xsQ Tryz.func37 (n1 ..) ?_|refine xsQ Tryz.func37 (n2 ..) ?_|refine xsQ Tryz.func37 (n3 ..) ?_|(refine Yd ?_)|(apply YW;apply ku;(case hx=>rfl);(case hT=>rfl);(case he=>rfl);(case hE=>rfl);(case hn=>rfl);(case hl=>(first|omega|(simp;done)|(simp only [List.length_cons,List.length_nil,List.length_map];omega)|(simp;omega)));(case hz=>rfl);(case hsrc=>(first|(first|(apply zL;rfl;rfl)|(apply Jp;rfl;intro a;rfl)|(apply QV;rfl;rfl;first|omega|(simp;done)|(simp;omega);rfl;first|rfl|exact ve fun _=>rfl))|(apply zL;rfl;exact hrd)));(case hsz=>(first|omega|(simp;done)|(simp only [List.length_cons,List.length_nil,List.length_map];omega)|(simp;omega)));(case hlen=>(first|omega|(simp;done)|(simp only [List.length_cons,List.length_nil,List.length_map];omega)|(simp;omega)));(case hmn=>exact Nat.ne_of_beq_eq_false rfl);(case hN=>exact nle rfl))|(apply qf;apply xU (ex':=false) (a:=(D.map qN).length) (b:=(B.map qN).length) (m:=0);(case hx=>rfl);(case hT=>rfl);(case he=>rfl);(case hE=>rfl);(case ha=>exact ⟨_,rfl⟩);(case hb=>rfl);(case hm=>trivial);(case hab=>(first|omega|(simp;done)|(simp only [List.length_cons,List.length_nil,List.length_map];omega)|(simp;omega)));(case hbl=>(first|omega|(simp;done)|(simp only [List.length_cons,List.length_nil,List.length_map];omega)|(simp;omega)));(case hrk=>exact hrk);(case hex=>exact nofun);(case hN=>exact nle rfl))|(apply qf;apply yu ([2]);exact j1 Tryz.func38 rfl rfl;apply hpo;(case hz=>refine qH ?_ q5;(apply Y6;(case hn=>rfl);(case hl=>(simp;done));(case he=>(congr 1;exact List.take_length));(case hp=>(intro row hrow;rcases List.mem_append.1 hrow with hrow|hrow;(obtain ⟨y,_,rfl⟩:=List.mem_map.1 hrow;rfl);(obtain ⟨y,_,rfl⟩:=List.mem_map.1 (List.mem_of_mem_take (List.mem_of_mem_drop hrow));rfl)))));(case hfl=>rfl);(case hN=>exact nle rfl))|refine jc Tryz.func72 (hgg ..) ?_|refine xsQ Tryz.func31 (hpu ..) ?_)|((first|refine qd ?_ ?_|refine qc ?_ ?_|refine xsC ?_ ?_);all_goals (intro hc;have hp:=hc;try simp at hp;try (exfalso;omega)))|refine qO ?_ ?_)
        all_goals try (exfalso;omega)
        all_goals try (exfalso;contradiction)
        refine ⟨t.length - (i + 1),_,by omega,qv (ts:=[(0,qb t),(2,.v (.int .i64 v)),(4,.fp [c.row] 0 0),(12,qb ((jF (t.take (i + 1)) c v).foldl jN K)),(14,.v (.int .i64 ((i + 1:Nat):Int)))]) ?_,i + 1,by omega,rfl,hbs2,rfl⟩;((repeat (first|exact qg|refine qn ?_|refine qS ?_ ?_));all_goals (rw [hOO2];rfl))
       ·rw [hmt t[i].ver (if_neg hpe2)] at hpu
        clear hmt
        repeat' (first|refine qm ?_|(first|(refine jM ?_)|refine jc Tryz.func126 (hii ..) ?_|refine xsQ Tryz.func37 (n1 ..) ?_|refine xsQ Tryz.func37 (n2 ..) ?_|refine xsQ Tryz.func37 (n3 ..) ?_|(refine Yd ?_)|(apply YW;apply ku;(case hx=>rfl);(case hT=>rfl);(case he=>rfl);(case hE=>rfl);(case hn=>rfl);(case hl=>(first|omega|(simp;done)|(simp only [List.length_cons,List.length_nil,List.length_map];omega)|(simp;omega)));(case hz=>rfl);(case hsrc=>(first|(first|(apply zL;rfl;rfl)|(apply Jp;rfl;intro a;rfl)|(apply QV;rfl;rfl;first|omega|(simp;done)|(simp;omega);rfl;first|rfl|exact ve fun _=>rfl))|(apply zL;rfl;exact hrd)));(case hsz=>(first|omega|(simp;done)|(simp only [List.length_cons,List.length_nil,List.length_map];omega)|(simp;omega)));(case hlen=>(first|omega|(simp;done)|(simp only [List.length_cons,List.length_nil,List.length_map];omega)|(simp;omega)));(case hmn=>exact Nat.ne_of_beq_eq_false rfl);(case hN=>exact nle rfl))|(apply qf;apply xU (ex':=false) (a:=(D.map qN).length) (b:=(B.map qN).length) (m:=0);(case hx=>rfl);(case hT=>rfl);(case he=>rfl);(case hE=>rfl);(case ha=>exact ⟨_,rfl⟩);(case hb=>rfl);(case hm=>trivial);(case hab=>(first|omega|(simp;done)|(simp only [List.length_cons,List.length_nil,List.length_map];omega)|(simp;omega)));(case hbl=>(first|omega|(simp;done)|(simp only [List.length_cons,List.length_nil,List.length_map];omega)|(simp;omega)));(case hrk=>exact hrk);(case hex=>exact nofun);(case hN=>exact nle rfl))|(apply qf;apply yu ([2]);exact j1 Tryz.func38 rfl rfl;apply hpo;(case hz=>refine qH ?_ q5;(apply Y6;(case hn=>rfl);(case hl=>(simp;done));(case he=>(congr 1;exact List.take_length));(case hp=>(intro row hrow;rcases List.mem_append.1 hrow with hrow|hrow;(obtain ⟨y,_,rfl⟩:=List.mem_map.1 hrow;rfl);(obtain ⟨y,_,rfl⟩:=List.mem_map.1 (List.mem_of_mem_take (List.mem_of_mem_drop hrow));rfl)))));(case hfl=>rfl);(case hN=>exact nle rfl))|refine jc Tryz.func72 (hgg ..) ?_|refine xsQ Tryz.func31 (hpu ..) ?_)|((first|refine qd ?_ ?_|refine qc ?_ ?_|refine xsC ?_ ?_);all_goals (intro hc;have hp:=hc;try simp at hp;try (exfalso;omega)))|refine qO ?_ ?_)
        all_goals try (exfalso;omega)
        all_goals try (exfalso;contradiction)
        refine ⟨t.length - (i + 1),_,by omega,qv (ts:=[(0,qb t),(2,.v (.int .i64 v)),(4,.fp [c.row] 0 0),(12,qb ((jF (t.take (i + 1)) c v).foldl jN K)),(14,.v (.int .i64 ((i + 1:Nat):Int)))]) ?_,i + 1,by omega,rfl,hbs2,rfl⟩;((repeat (first|exact qg|refine qn ?_|refine qS ?_ ?_));all_goals (rw [hOO2];rfl))
  ·obtain rfl:i = t.length:=by omega
   have hmb:xe t c = false:=by
    unfold zX at hsofar
    rw [List.take_length] at hsofar
    simp [xe,hsofar]
   rw [hEE hmb]
   rw [List.take_length]
   rw [← hDD]
   generalize jy t c v = L at *
   have hml:(List.map Ent.row L).length = L.length:=List.length_map ..
   by_cases hL:60 < L.length
   ·rw [if_pos hL]
    (repeat' (first|refine qm ?_|(first|fail)|((first|refine qd ?_ ?_|refine qc ?_ ?_|refine xsC ?_ ?_);all_goals (intro hc;have hp:=hc;try simp at hp;try (exfalso;omega)))|refine qO ?_ ?_))
    (all_goals try (exfalso;omega))
    (all_goals ((exact xE (rs:=[.tmp 6,.tmp 7]))))
   ·rw [if_neg hL]
    (repeat' (first|refine qm ?_|(first|fail)|((first|refine qd ?_ ?_|refine qc ?_ ?_|refine xsC ?_ ?_);all_goals (intro hc;have hp:=hc;try simp at hp;try (exfalso;omega)))|refine qO ?_ ?_))
    (all_goals try (exfalso;omega))
    (all_goals ((exact xE (rs:=[.tmp 6,.tmp 7]))))
end Go.Proofs.YtnhpclmbhbblbaaGreatDoor
set_option linter.unusedSimpArgs false
set_option linter.unnecessarySimpa false
set_option linter.unusedVariables false
set_option maxHeartbeats 1000000
namespace Go.Proofs.YtnhpclmbhbblbaaGreatDoor
open Go.Ab Go.RowKit
set_option maxRecDepth 10000
attribute [local irreducible] Awp yl jE jl Red qX Go.Ab.Fin qW Rz vl jj ji ResOk jV jz yb jv
def X3 (v:Int):List Ent → List Chg → Nat → List Ent × Nat × Int
 | t,[],n=>(t,n,0)
 | t,c :: l,n=>if zB t c v = 0 then X3 v (jy t c v) l (n + 1) else ([],n,zB t c v)
def Q3 (v:Int) (t:List Ent) (l:List Chg):List Ent × Nat × Int :=
 if ¬ qD t = 0 then ([],0,qD t) else if 20 < l.length then ([],0,2) else if vH v = false ∧ 0 < l.length then ([],0,3) else X3 v t l 0
def qex (r:List Ent × Nat × Int):AV := .tup [qb r.1,.v (.int .i64 (r.2.1:Nat)),.v (.int .i64 r.2.2)]
theorem ZI {v:Int} {t:List Ent} {l:List Chg} {i:Nat} (h:i < l.length):X3 v t (l.drop i) i = if zB t l[i] v = 0 then X3 v (jy t l[i] v) (l.drop (i + 1)) (i + 1) else ([],i,zB t l[i] v):=by
 rw [List.drop_eq_getElem_cons h];rfl
theorem qgQ (t:List Ent) (l:List Chg) (v:Int) (hb:EBig t) (hcb:CBig l):yO C.P 41 [qb t,vM l,.v (.int .i64 v)] (qex (Q3 v t l)):=by
 have h1:=Vr t hb
 have h2:=Vu v
 have hll:=hcb.len
 have hml:(l.map Chg.row).length = l.length:=List.length_map ..
 have hE:Q3 v t l = if ¬ qD t = 0 then ([],0,qD t) else if 20 < l.length then ([],0,2) else if vH v = false ∧ 0 < l.length then ([],0,3) else X3 v t l 0:=rfl
 by_cases hte:qD t = 0
 ·rw [if_neg (by simp [hte])] at hE
  have hR:=RightE.of hte
  rw [hte] at h1
  have h60:=(QX hte).1
  have h3:=Vt t (by omega)
  by_cases h20:20 < l.length
  ·rw [if_pos h20] at hE
   rw [hE]
   refine qa Tryz.func41 rfl _ Tryz.ntmps41 (Nat.le_of_ble_eq_true rfl) _ Tryz.results41 0 rfl rfl ?_
   repeat' (first|refine qm ?_|(first|(refine jM ?_)|refine xsQ Tryz.func42 (h1 ..) ?_)|((first|refine qd ?_ ?_|refine qc ?_ ?_|refine xsC ?_ ?_);all_goals (intro hc;have hp:=hc;try simp at hp;try (exfalso;omega)))|refine qO ?_ ?_)
   all_goals try (exfalso;omega)
   all_goals try (exfalso;first|omega|(simp_all;done)|(simp_all;omega))
   all_goals ((exact xE (rs:=[.tmp 6,.tmp 7,.tmp 8])))
  ·rw [if_neg h20] at hE
   by_cases hv:vH v = false ∧ 0 < l.length
   ·rw [if_pos hv] at hE
    rw [hE]
    rw [hv.1] at h2
    refine qa Tryz.func41 rfl _ Tryz.ntmps41 (Nat.le_of_ble_eq_true rfl) _ Tryz.results41 0 rfl rfl ?_
    repeat' (first|refine qm ?_|(first|(refine jM ?_)|refine xsQ Tryz.func42 (h1 ..) ?_|refine jc Tryz.func73 (h2 ..) ?_)|((first|refine qd ?_ ?_|refine qc ?_ ?_|refine xsC ?_ ?_);all_goals (intro hc;have hp:=hc;try simp at hp;try (exfalso;omega)))|refine qO ?_ ?_)
    all_goals try (exfalso;omega)
    all_goals try (exfalso;first|omega|(simp_all;done)|(simp_all;omega))
    all_goals ((exact xE (rs:=[.tmp 6,.tmp 7,.tmp 8])))
   ·rw [if_neg hv] at hE
    generalize hV:vH v = V at *
    have hv2:V = false → l.length = 0:=fun h=>by
     rcases Nat.eq_zero_or_pos l.length with h4|h4
     ·exact h4
     ·exact absurd ⟨h,h4⟩ hv
    clear hV
    generalize hA:Q3 v t l = A at *
    clear hA
    refine qa Tryz.func41 rfl _ Tryz.ntmps41 (Nat.le_of_ble_eq_true rfl) _ Tryz.results41 0 rfl rfl ?_
    repeat' (first|refine qm ?_|(first|(refine jM ?_)|refine xsQ Tryz.func42 (h1 ..) ?_|refine jc Tryz.func73 (h2 ..) ?_|(apply jT Tryz.func75 rfl rfl;intro hIsFn;refine wY ([]) hIsFn (h3 ..) ?_))|((first|refine qd ?_ ?_|refine qc ?_ ?_|refine xsC ?_ ?_);all_goals (intro hc;have hp:=hc;try simp at hp;try (exfalso;omega)))|refine qO ?_ ?_)
    all_goals try (exfalso;omega)
    all_goals try (exfalso;first|omega|(simp_all;done)|(simp_all;omega))
    all_goals (
     refine Awp.red (wF 0 rfl (by intro row hrow;obtain ⟨x,_,rfl⟩:=List.mem_map.1 hrow;rfl)) ?_
     refine Awp.red (KT 0 0 rfl rfl (by simp)) ?_
     (refine Awp.red (qv (ts:=[(0,qb t),(1,vM l),(2,.v (.int .i64 v)),(33,vM l),(34,.v (.int .i64 l.length)),(35,.v (.int .i64 ((0:Nat):Int)))]) ?_) ?_;((repeat (first|exact qg|refine qn ?_|refine qS ?_ ?_))))
     all_goals try (rw [List.length_map];done)
     all_goals try (rw [List.drop_zero,List.take_of_length_le (by simp)];rfl)
     refine qP (fun n σ => ∃ (i:Nat) (u:List Ent),i ≤ l.length ∧ n = l.length - i ∧ (A = X3 v u (l.drop i) i ∧ RightE u) ∧ σ = ⟨[(0,qb u),(1,vM l),(2,.v (.int .i64 v)),(33,vM l),(34,.v (.int .i64 l.length)),(35,.v (.int .i64 (i:Int)))],[],C.nh⟩) l.length ⟨0,t,Nat.zero_le _,rfl,⟨by rw [hE];rfl,hR⟩,rfl⟩ ?_
     rintro n σ ⟨i,u,hi,rfl,⟨hA,hRu⟩,rfl⟩
     by_cases hlt:i < l.length
     ·have hr:=js (f:=Chg.row) hlt
      have hraw:=qdt u l[i] v hRu (hcb.each _ (List.getElem_mem _))
      rw [ZI hlt] at hA
      have hL:Ze u l[i] v = if zB u l[i] v = 0 then jy u l[i] v else []:=rfl
      by_cases hz:zB u l[i] v = 0
      ·have hRn:=hRu.done hz
       rw [if_pos hz] at hA hL
       rw [hL,hz] at hraw
       generalize jy u l[i] v = U at *
       clear hE hL hz
       repeat' (first|refine qm ?_|(first|refine xsQ Tryz.func74 (hraw ..) ?_)|((first|refine qd ?_ ?_|refine qc ?_ ?_|refine xsC ?_ ?_);all_goals (intro hc;have hp:=hc;try simp at hp;try (exfalso;omega)))|refine qO ?_ ?_)
       all_goals try (exfalso;omega)
       refine ⟨l.length - (i + 1),_,by omega,qv (ts:=[(0,qb U),(1,vM l),(2,.v (.int .i64 v)),(33,vM l),(34,.v (.int .i64 l.length)),(35,.v (.int .i64 ((i + 1:Nat):Int)))]) ?_,i + 1,U,by omega,rfl,⟨hA,hRn⟩,rfl⟩
       (repeat (first|exact qg|refine qn ?_|refine qS ?_ ?_))
      ·rw [if_neg hz] at hA hL
       rw [hL] at hraw
       rw [hA]
       generalize zB u l[i] v = E at *
       clear hE hL hA
       repeat' (first|refine qm ?_|(first|refine xsQ Tryz.func74 (hraw ..) ?_)|((first|refine qd ?_ ?_|refine qc ?_ ?_|refine xsC ?_ ?_);all_goals (intro hc;have hp:=hc;try simp at hp;try (exfalso;omega)))|refine qO ?_ ?_)
       all_goals try (exfalso;omega)
       (exact xE (rs:=[.tmp 6,.tmp 7,.tmp 8]))
     obtain rfl:i = l.length:=by omega
     rw [List.drop_length] at hA
     have hA:A = (u,l.length,0):=hA
     rw [hA]
     clear hE hA
     repeat' (first|refine qm ?_|fail|((first|refine qd ?_ ?_|refine qc ?_ ?_|refine xsC ?_ ?_);all_goals (intro hc;have hp:=hc;try simp at hp;try (exfalso;omega)))|refine qO ?_ ?_)
     all_goals try (exfalso;omega)
     (refine yP (rs:=[.tmp 6,.tmp 7,.tmp 8]) ?_;(repeat' (first|exact q5|apply qH|exact q8 rfl|exact yn|exact zA|apply jR|apply yL|apply jJ|apply yJ|apply ya|apply yK|refine zi ?_|apply va));all_goals (rw [List.length_map])))
 ·rw [if_pos hte] at hE
  rw [hE]
  generalize qD t = E at *
  refine qa Tryz.func41 rfl _ Tryz.ntmps41 (Nat.le_of_ble_eq_true rfl) _ Tryz.results41 0 rfl rfl ?_
  repeat' (first|refine qm ?_|(first|(refine jM ?_)|refine xsQ Tryz.func42 (h1 ..) ?_)|((first|refine qd ?_ ?_|refine qc ?_ ?_|refine xsC ?_ ?_);all_goals (intro hc;have hp:=hc;try simp at hp;try (exfalso;omega)))|refine qO ?_ ?_)
  all_goals try (exfalso;omega)
  all_goals ((exact xE (rs:=[.tmp 6,.tmp 7,.tmp 8])))
end Go.Proofs.YtnhpclmbhbblbaaGreatDoor
set_option linter.unusedSimpArgs false
set_option linter.unnecessarySimpa false
set_option linter.unusedVariables false
set_option maxHeartbeats 1000000
namespace Go.Proofs.YtnhpclmbhbblbaaGreatDoor
open Go.Ab Go.RowKit
set_option maxRecDepth 10000
attribute [local irreducible] Awp yl jE jl Red qX Go.Ab.Fin qW Rz vl jj ji ResOk jV jz yb jv
theorem qfM (t:List Ent) (c:Chg) (v:Int):zB t c v = if ¬ yD c = 0 then yD c else if ¬ vJ t c = 0 then vJ t c else if ¬ yo t c = 0 then yo t c else ym t c v:=by
 unfold zB
 rw [qfw]
 by_cases h0:yD c = 0<;>by_cases h1:vJ t c = 0<;>by_cases h2:yo t c = 0<;>simp [h0,h1,h2]
theorem qfQ {t:List Ent} {c:Chg} (h:¬ yo t c = 0):yo t c = 8:=by
 unfold yo at *
 split at h
 ·rename_i h1;rw [if_pos h1]
 ·exact absurd rfl h
theorem qaC (t:List Ent) (c:Chg) (v:Int) (h60:t.length ≤ 60) (hs:q4 jr t = true) (hgt : ∀ x,x ∈ t → qy x.path = 0) (hcs:c.small):yO C.P 101 [qb t,.agg c.row,.v (.int .i64 v)] (.tup [qb (Ze t c v),.v (.int .i64 (zB t c v))]):=by
 have hR:=qfM t c v
 by_cases h0:yD c = 0
 ·rw [if_neg (by simp [h0])] at hR
  by_cases h1:vJ t c = 0
  ·rw [if_neg (by simp [h1])] at hR
   by_cases h2:yo t c = 0
   ·rw [if_neg (by simp [h2])] at hR
    obtain ⟨k1,k2, -⟩:=yS h0
    have hL:Ze t c v = if ym t c v = 0 then jy t c v else []:=by unfold Ze;rw [hR]
    rw [hL,hR]
    by_cases e1:c.kind = 1
    ·exact qgS t c v h60 hs hgt hcs e1 h0 h1 h2
    ·by_cases e2:c.kind = 2
     ·exact qgT t c v h60 hs hgt hcs e2 h0 h1 h2
     ·by_cases e3:c.kind = 3
      ·exact qgU t c v h60 hs hgt hcs e3 h0 h1 h2
      ·exact qgV t c v h60 hs hgt hcs (by omega) h0 h1 h2
   ·rw [if_pos h2] at hR
    rw [Y2 (by rw [hR];exact h2),hR,qfQ h2]
    exact qgX t c v h60 hs hgt hcs h0 h1 h2
  ·rw [if_pos h1] at hR
   rw [Y2 (by rw [hR];exact h1),hR]
   exact qgW t c v h60 hs hcs h0 h1
 ·rw [if_pos h0] at hR
  rw [Y2 (by rw [hR];exact h0),hR]
  exact qgR t c v h60 hcs h0
theorem qe8 {t:List Ent} {c:Chg} {v:Int} (hr:zB t c v = 0):(jy t c v).length ≤ 60:=by
 unfold zB at hr
 split at hr
 ·contradiction
 ·split at hr
  ·contradiction
  ·exact (Kx hr).2
def qcf (t:List Ent) (l:List Chg) (v:Int):List Ent × Nat × Int:=if 20 < l.length then ([],0,2) else if vH v = false ∧ 0 < l.length then ([],0,3) else X3 v t l 0
theorem qeH (t:List Ent) (l:List Chg) (v:Int) (h60:t.length ≤ 60) (hR:RightE t) (hcb:CBig l):yO C.P 79 [qb t,vM l,.v (.int .i64 v)] (qex (qcf t l v)):=by
 have h2:=Wo v
 have hll:=hcb.len
 have hml:(l.map Chg.row).length = l.length:=List.length_map ..
 have hE:qcf t l v = if 20 < l.length then ([],0,2) else if vH v = false ∧ 0 < l.length then ([],0,3) else X3 v t l 0:=rfl
 by_cases h20:20 < l.length
 ·rw [if_pos h20] at hE
  rw [hE]
  refine qa Tryz.func79 rfl _ Tryz.ntmps79 (Nat.le_of_ble_eq_true rfl) _ Tryz.results79 0 rfl rfl ?_
  repeat' (first|refine qm ?_|fail|((first|refine qd ?_ ?_|refine qc ?_ ?_|refine xsC ?_ ?_);all_goals (intro hc;have hp:=hc;try simp at hp;try (exfalso;omega)))|refine qO ?_ ?_)
  all_goals try (exfalso;first|omega|(simp_all;done)|(simp_all;omega))
  all_goals ((exact xE (rs:=[.tmp 6,.tmp 7,.tmp 8])))
 ·rw [if_neg h20] at hE
  by_cases hv:vH v = false ∧ 0 < l.length
  ·rw [if_pos hv] at hE
   rw [hE]
   rw [hv.1] at h2
   refine qa Tryz.func79 rfl _ Tryz.ntmps79 (Nat.le_of_ble_eq_true rfl) _ Tryz.results79 0 rfl rfl ?_
   repeat' (first|refine qm ?_|(first|refine jc Tryz.func65 (h2 ..) ?_)|((first|refine qd ?_ ?_|refine qc ?_ ?_|refine xsC ?_ ?_);all_goals (intro hc;have hp:=hc;try simp at hp;try (exfalso;omega)))|refine qO ?_ ?_)
   all_goals try (exfalso;first|omega|(simp_all;done)|(simp_all;omega))
   all_goals ((exact xE (rs:=[.tmp 6,.tmp 7,.tmp 8])))
  ·rw [if_neg hv] at hE
   generalize hV:vH v = V at *
   have hv2:V = false → l.length = 0:=fun h=>by
    rcases Nat.eq_zero_or_pos l.length with h4|h4
    ·exact h4
    ·exact absurd ⟨h,h4⟩ hv
   clear hV
   generalize hA:qcf t l v = A at *
   clear hA
   refine qa Tryz.func79 rfl _ Tryz.ntmps79 (Nat.le_of_ble_eq_true rfl) _ Tryz.results79 0 rfl rfl ?_
   repeat' (first|refine qm ?_|(first|refine jc Tryz.func65 (h2 ..) ?_)|((first|refine qd ?_ ?_|refine qc ?_ ?_|refine xsC ?_ ?_);all_goals (intro hc;have hp:=hc;try simp at hp;try (exfalso;omega)))|refine qO ?_ ?_)
   all_goals try (exfalso;first|omega|(simp_all;done)|(simp_all;omega))
   all_goals (
    (refine Awp.red (qv (ts:=[(0,qb t),(1,vM l),(2,.v (.int .i64 v)),(9,.v (.int .i64 ((0:Nat):Int)))]) ?_) ?_;((repeat (first|exact qg|refine qn ?_|refine qS ?_ ?_))))
    refine qP (fun n σ => ∃ (i:Nat) (u:List Ent),i ≤ l.length ∧ n = l.length - i ∧ (A = X3 v u (l.drop i) i ∧ RightE u ∧ u.length ≤ 60) ∧ σ = ⟨[(0,qb u),(1,vM l),(2,.v (.int .i64 v)),(9,.v (.int .i64 (i:Int)))],[],C.nh⟩) l.length ⟨0,t,Nat.zero_le _,rfl,⟨by rw [hE];rfl,hR,h60⟩,rfl⟩ ?_
    rintro n σ ⟨i,u,hi,rfl,⟨hA,hRu,hu60⟩,rfl⟩
    by_cases hlt:i < l.length
    ·have hr:=js (f:=Chg.row) hlt
     have hraw:=qaC u l[i] v hu60 hRu.rise hRu.paths (hcb.each _ (List.getElem_mem _))
     rw [ZI hlt] at hA
     have hL:Ze u l[i] v = if zB u l[i] v = 0 then jy u l[i] v else []:=rfl
     by_cases hz:zB u l[i] v = 0
     ·have hRn:=hRu.done hz
      have hRl:=qe8 hz
      rw [if_pos hz] at hA hL
      rw [hL,hz] at hraw
      generalize jy u l[i] v = U at *
      clear hE hL hz
      repeat' (first|refine qm ?_|(first|refine xsQ Tryz.func101 (hraw ..) ?_)|((first|refine qd ?_ ?_|refine qc ?_ ?_|refine xsC ?_ ?_);all_goals (intro hc;have hp:=hc;try simp at hp;try (exfalso;omega)))|refine qO ?_ ?_)
      all_goals try (exfalso;omega)
      refine ⟨l.length - (i + 1),_,by omega,qv (ts:=[(0,qb U),(1,vM l),(2,.v (.int .i64 v)),(9,.v (.int .i64 ((i + 1:Nat):Int)))]) ?_,i + 1,U,by omega,rfl,⟨hA,hRn,hRl⟩,rfl⟩
      (repeat (first|exact qg|refine qn ?_|refine qS ?_ ?_))
     ·rw [if_neg hz] at hA hL
      rw [hL] at hraw
      rw [hA]
      generalize zB u l[i] v = E at *
      clear hE hL hA
      repeat' (first|refine qm ?_|(first|refine xsQ Tryz.func101 (hraw ..) ?_)|((first|refine qd ?_ ?_|refine qc ?_ ?_|refine xsC ?_ ?_);all_goals (intro hc;have hp:=hc;try simp at hp;try (exfalso;omega)))|refine qO ?_ ?_)
      all_goals try (exfalso;omega)
      (exact xE (rs:=[.tmp 6,.tmp 7,.tmp 8]))
    obtain rfl:i = l.length:=by omega
    rw [List.drop_length] at hA
    have hA:A = (u,l.length,0):=hA
    rw [hA]
    clear hE hA
    repeat' (first|refine qm ?_|fail|((first|refine qd ?_ ?_|refine qc ?_ ?_|refine xsC ?_ ?_);all_goals (intro hc;have hp:=hc;try simp at hp;try (exfalso;omega)))|refine qO ?_ ?_)
    all_goals try (exfalso;omega)
    (refine yP (rs:=[.tmp 6,.tmp 7,.tmp 8]) ?_;(repeat' (first|exact q5|apply qH|exact q8 rfl|exact yn|exact zA|apply jR|apply yL|apply jJ|apply yJ|apply ya|apply yK|refine zi ?_|apply va));all_goals (rw [List.length_map])))
theorem qeW (t:List Ent) (l:List Chg) (v:Int):Q3 v t l = if ¬ qD t = 0 then ([],0,qD t) else qcf t l v:=rfl
end Go.Proofs.YtnhpclmbhbblbaaGreatDoor
set_option linter.unusedSimpArgs false
set_option linter.unnecessarySimpa false
set_option linter.unusedVariables false
set_option maxHeartbeats 1000000
namespace Go.Proofs.YtnhpclmbhbblbaaGreatDoor
open Go.Ab Go.RowKit
set_option maxRecDepth 10000
attribute [local irreducible] Awp yl jE jl Red qX Go.Ab.Fin qW Rz vl jj ji ResOk jV jz yb jv
end Go.Proofs.YtnhpclmbhbblbaaGreatDoor
