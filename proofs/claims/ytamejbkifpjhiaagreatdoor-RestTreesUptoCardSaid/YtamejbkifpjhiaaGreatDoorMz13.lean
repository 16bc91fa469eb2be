import Derived.Test.YtamejbkifpjhiaaGreatDoorMz12
import Derived.Test.YtamejbkifpjhiaaGreatDoorMz11
import Derived.Test.YtamejbkifpjhiaaGreatDoorMz0
set_option linter.unusedSimpArgs false
set_option linter.unnecessarySimpa false
set_option linter.unusedVariables false
set_option maxHeartbeats 1000000
namespace Go.Proofs.YtamejbkifpjhiaaGreatDoor
open Go.Ab Go.RowKit
set_option maxRecDepth 10000
attribute [local irreducible] Awp yH jH jw Red ja Go.Ab.Fin qZ Rz vn jr jp ResOk j3 jC yC jA
theorem ZM {t:List Ent} {c:Chg} (hk:3 ≤ c.kind) (h:v8 t c = 0):j0 t c.path = true:=by
 unfold v8 at h
 rw [if_neg (by omega),if_neg (by omega)] at h
 cases hh:j0 t c.path with
 | true=>rfl
 | false=>simp [hh] at h
theorem qgK (t:List Ent) (c:Chg) (v:Int) (h60:t.length ≤ 60) (hs:qU jf t = true) (hgt : ∀ x,x ∈ t → qH x.path = 0) (hcs:c.small) (h0:yc c = 0) (h1:vL t c = 0) (h2:¬ yb t c = 0):xH C.P 32 [qa t,.agg c.row,.v (.int .i64 v)] (.tup [qa [],.v (.int .i64 8)]):=by
 obtain ⟨l1,l2,l3⟩:=hcs
 have hform:=vr c ⟨l1,l2,l3⟩
 have hpo1:=yS c.path (by omega)
 have hpo2:=yS c.to (by omega)
 have hfo:=vT t (qJ (jS c)) (by omega)
 have hea:=yl t c.path (by omega)
 have heb:=yl t c.to (by omega)
 have hinn:=vB c.to c.path (by omega) (by omega)
 have hkk:=yU h0
 have hbase : -1 ≤ c.base:=wW h0
 obtain ⟨hz1,hz2,hz3⟩:=w8 h1
 have hst:¬ c.base = -1 ∧ t.any (x1 c) = true:=by
  unfold yb at h2
  split at h2
  ·assumption
  ·exact absurd rfl h2
 obtain ⟨hst1,hst2⟩:=hst
 clear h2
 have hI:v8 t c = if c.kind = 1 then (if j0 t c.path = true then 6 else 0) else if c.kind = 2 then (if vh t c.path = true then 4 else 0) else (if j0 t c.path = true then 0 else 5):=rfl
 have hM:zR t c = if c.kind = 3 then (if inB c.to c.path = true then 3 else if j0 t c.to = true then 6 else 0) else 0:=rfl
 rw [hz2] at hI
 rw [hz3] at hM
 replace hI:=hI.symm
 replace hM:=hM.symm
 rw [h0] at hform
 have hto:(j0 t c.to = true ∧ 0 ≤ xj (atP c.to) t) ∨ (j0 t c.to = false ∧ xj (atP c.to) t = -1):=by
  cases h:j0 t c.to with
  | true=>obtain ⟨hk,_,hfi,hix⟩:=zw hs h;exact .inl ⟨rfl,by rw [hix];omega⟩
  | false=>exact .inr ⟨rfl,(xO h).2⟩
 have hrow:j0 t c.path = true → ∃ hk:xg t c.path < t.length,vh t c.path = t[xg t c.path].fold ∧ xj (atP c.path) t = xg t c.path:=fun h=>by
  obtain ⟨hk,_,hfi,hix⟩:=zw hs h
  exact ⟨hk,by unfold vh;rw [hfi],hix⟩
 have hnorow:j0 t c.path = false → vh t c.path = false ∧ xj (atP c.path) t = -1:=fun h=>by
  unfold vh;rw [(xO h).1];exact ⟨rfl,(xO h).2⟩
 obtain ⟨kk1,kk2, -⟩:=hkk
 have hg3:c.kind = 3 → jS c = c.to:=fun h=>by simp [jS,h]
 have hg0:¬ c.kind = 3 → jS c = c.path:=fun h=>by simp [jS,h]
 rw [hz1] at hfo
 clear hz1 hz2 hz3
 generalize hIB:inB c.to c.path = IB at *
 generalize hHT:j0 t c.to = HT at *
 generalize hIT:xj (atP c.to) t = IT at *
 clear hIB hHT hIT
 cases hh:j0 t c.path with
 | true =>
   obtain ⟨hk,hfa,hix⟩:=hrow hh
   rw [hix] at hea
   rw [hh,hfa] at hI
   have hrk:=jB (f:=Ent.row) hk
   clear hrow hnorow hix hfa
   generalize xg t c.path = k at *
   by_cases k3:c.kind = 3
   ·rw [hg3 k3] at hfo
    clear hg3 hg0
    refine qc Tryz.func32 rfl _ Tryz.ntmps32 (Nat.le_of_ble_eq_true rfl) _ Tryz.results32 0 rfl rfl ?_
    repeat' (first|refine qn ?_|(first|refine jv Tryz.func74 (hform ..) ?_|refine jv Tryz.func73 (hpo1 ..) ?_|refine jv Tryz.func73 (hpo2 ..) ?_|refine j1 Tryz.func72 (hfo ..) ?_|refine j1 Tryz.func75 (hea ..) ?_|refine j1 Tryz.func75 (heb ..) ?_|refine jv Tryz.func76 (hinn ..) ?_)|((first|refine qf ?_ ?_|refine qe ?_ ?_|refine xsC ?_ ?_);all_goals (intro hc;have hp:=hc;try simp at hp;try (exfalso;omega)))|refine qX ?_ ?_)
    all_goals try (exfalso;omega)
    all_goals try (exfalso;clear hst2 hea heb hfo hform hinn hpo1 hpo2;simp_all;done)
    all_goals (
     refine xsZ 4 0 ?_
     (refine Awp.red (qI (ts:=[(0,qa t),(2,.v (.int .i64 v)),(4,.fp [c.row] 0 0),(11,.v (.int .i64 ((0:Nat):Int)))]) ?_) ?_;((repeat (first|exact qg|refine qo ?_|refine qY ?_ ?_))))
     refine qV (fun n σ => ∃ i:Nat,i ≤ t.length ∧ n = t.length - i ∧ (∀ x,x ∈ t.take i → x1 c x = false) ∧ σ = ⟨[(0,qa t),(2,.v (.int .i64 v)),(4,.fp [c.row] 0 0),(11,.v (.int .i64 (i:Int)))],[],C.nh⟩) t.length ⟨0,Nat.zero_le _,rfl,(by simp),rfl⟩ ?_
     rintro n σ ⟨i,hi,rfl,hsofar,rfl⟩
     by_cases hlt:i < t.length
     ·have hr:=jB (f:=Ent.row) hlt
      have hnx:=ya (p:=fun x=>x1 c x = false) hlt hsofar
      have hnw:x1 c t[i] = (decide (c.base < t[i].ver) && inB t[i].path c.path):=rfl
      have hpl:=qQ (hgt t[i] (List.getElem_mem _))
      have hii:=vB t[i].path c.path (by omega) (by omega)
      generalize inB t[i].path c.path = IB at *
      generalize x1 c t[i] = NW at *
      clear hst2 hsofar
      repeat' (first|refine qn ?_|(first|refine jv Tryz.func76 (hii ..) ?_)|((first|refine qf ?_ ?_|refine qe ?_ ?_|refine xsC ?_ ?_);all_goals (intro hc;have hp:=hc;try simp at hp;try (exfalso;omega)))|refine qX ?_ ?_)
      all_goals try (exfalso;omega)
      all_goals first
       | ((exact zO (rs:=[.tmp 6,.tmp 7])))
       | (refine ⟨t.length - (i + 1),_,by omega,qI (ts:=[(0,qa t),(2,.v (.int .i64 v)),(4,.fp [c.row] 0 0),(11,.v (.int .i64 ((i + 1:Nat):Int)))]) ?_,i + 1,by omega,rfl,(hnx (by rw [hnw];simp_all)),rfl⟩;((repeat (first|exact qg|refine qo ?_|refine qY ?_ ?_))))
     ·exfalso
      obtain rfl:i = t.length:=by omega
      rw [List.take_length] at hsofar
      obtain ⟨x,hx,hxn⟩:=List.any_eq_true.1 hst2
      rw [hsofar x hx] at hxn;cases hxn)
   ·rw [hg0 k3] at hfo
    clear hg3 hg0
    refine qc Tryz.func32 rfl _ Tryz.ntmps32 (Nat.le_of_ble_eq_true rfl) _ Tryz.results32 0 rfl rfl ?_
    repeat' (first|refine qn ?_|(first|refine jv Tryz.func74 (hform ..) ?_|refine jv Tryz.func73 (hpo1 ..) ?_|refine jv Tryz.func73 (hpo2 ..) ?_|refine j1 Tryz.func72 (hfo ..) ?_|refine j1 Tryz.func75 (hea ..) ?_|refine j1 Tryz.func75 (heb ..) ?_|refine jv Tryz.func76 (hinn ..) ?_)|((first|refine qf ?_ ?_|refine qe ?_ ?_|refine xsC ?_ ?_);all_goals (intro hc;have hp:=hc;try simp at hp;try (exfalso;omega)))|refine qX ?_ ?_)
    all_goals try (exfalso;omega)
    all_goals try (exfalso;clear hst2 hea heb hfo hform hinn hpo1 hpo2;simp_all;done)
    all_goals (
     refine xsZ 4 0 ?_
     (refine Awp.red (qI (ts:=[(0,qa t),(2,.v (.int .i64 v)),(4,.fp [c.row] 0 0),(11,.v (.int .i64 ((0:Nat):Int)))]) ?_) ?_;((repeat (first|exact qg|refine qo ?_|refine qY ?_ ?_))))
     refine qV (fun n σ => ∃ i:Nat,i ≤ t.length ∧ n = t.length - i ∧ (∀ x,x ∈ t.take i → x1 c x = false) ∧ σ = ⟨[(0,qa t),(2,.v (.int .i64 v)),(4,.fp [c.row] 0 0),(11,.v (.int .i64 (i:Int)))],[],C.nh⟩) t.length ⟨0,Nat.zero_le _,rfl,(by simp),rfl⟩ ?_
     rintro n σ ⟨i,hi,rfl,hsofar,rfl⟩
     by_cases hlt:i < t.length
     ·have hr:=jB (f:=Ent.row) hlt
      have hnx:=ya (p:=fun x=>x1 c x = false) hlt hsofar
      have hnw:x1 c t[i] = (decide (c.base < t[i].ver) && inB t[i].path c.path):=rfl
      have hpl:=qQ (hgt t[i] (List.getElem_mem _))
      have hii:=vB t[i].path c.path (by omega) (by omega)
      generalize inB t[i].path c.path = IB at *
      generalize x1 c t[i] = NW at *
      clear hst2 hsofar
      repeat' (first|refine qn ?_|(first|refine jv Tryz.func76 (hii ..) ?_)|((first|refine qf ?_ ?_|refine qe ?_ ?_|refine xsC ?_ ?_);all_goals (intro hc;have hp:=hc;try simp at hp;try (exfalso;omega)))|refine qX ?_ ?_)
      all_goals try (exfalso;omega)
      all_goals first
       | ((exact zO (rs:=[.tmp 6,.tmp 7])))
       | (refine ⟨t.length - (i + 1),_,by omega,qI (ts:=[(0,qa t),(2,.v (.int .i64 v)),(4,.fp [c.row] 0 0),(11,.v (.int .i64 ((i + 1:Nat):Int)))]) ?_,i + 1,by omega,rfl,(hnx (by rw [hnw];simp_all)),rfl⟩;((repeat (first|exact qg|refine qo ?_|refine qY ?_ ?_))))
     ·exfalso
      obtain rfl:i = t.length:=by omega
      rw [List.take_length] at hsofar
      obtain ⟨x,hx,hxn⟩:=List.any_eq_true.1 hst2
      rw [hsofar x hx] at hxn;cases hxn)
 | false =>
   obtain ⟨hfa,hix⟩:=hnorow hh
   rw [hix] at hea
   rw [hh,hfa] at hI
   clear hrow hnorow hix hfa
   by_cases k3:c.kind = 3
   ·exfalso;clear hst2 hea heb hfo hform hinn hpo1 hpo2;simp_all;done
   ·rw [hg0 k3] at hfo
    clear hg3 hg0
    refine qc Tryz.func32 rfl _ Tryz.ntmps32 (Nat.le_of_ble_eq_true rfl) _ Tryz.results32 0 rfl rfl ?_
    repeat' (first|refine qn ?_|(first|refine jv Tryz.func74 (hform ..) ?_|refine jv Tryz.func73 (hpo1 ..) ?_|refine jv Tryz.func73 (hpo2 ..) ?_|refine j1 Tryz.func72 (hfo ..) ?_|refine j1 Tryz.func75 (hea ..) ?_|refine j1 Tryz.func75 (heb ..) ?_|refine jv Tryz.func76 (hinn ..) ?_)|((first|refine qf ?_ ?_|refine qe ?_ ?_|refine xsC ?_ ?_);all_goals (intro hc;have hp:=hc;try simp at hp;try (exfalso;omega)))|refine qX ?_ ?_)
    all_goals try (exfalso;omega)
    all_goals try (exfalso;clear hst2 hea heb hfo hform hinn hpo1 hpo2;simp_all;done)
    all_goals (
     refine xsZ 4 0 ?_
     (refine Awp.red (qI (ts:=[(0,qa t),(2,.v (.int .i64 v)),(4,.fp [c.row] 0 0),(11,.v (.int .i64 ((0:Nat):Int)))]) ?_) ?_;((repeat (first|exact qg|refine qo ?_|refine qY ?_ ?_))))
     refine qV (fun n σ => ∃ i:Nat,i ≤ t.length ∧ n = t.length - i ∧ (∀ x,x ∈ t.take i → x1 c x = false) ∧ σ = ⟨[(0,qa t),(2,.v (.int .i64 v)),(4,.fp [c.row] 0 0),(11,.v (.int .i64 (i:Int)))],[],C.nh⟩) t.length ⟨0,Nat.zero_le _,rfl,(by simp),rfl⟩ ?_
     rintro n σ ⟨i,hi,rfl,hsofar,rfl⟩
     by_cases hlt:i < t.length
     ·have hr:=jB (f:=Ent.row) hlt
      have hnx:=ya (p:=fun x=>x1 c x = false) hlt hsofar
      have hnw:x1 c t[i] = (decide (c.base < t[i].ver) && inB t[i].path c.path):=rfl
      have hpl:=qQ (hgt t[i] (List.getElem_mem _))
      have hii:=vB t[i].path c.path (by omega) (by omega)
      generalize inB t[i].path c.path = IB at *
      generalize x1 c t[i] = NW at *
      clear hst2 hsofar
      repeat' (first|refine qn ?_|(first|refine jv Tryz.func76 (hii ..) ?_)|((first|refine qf ?_ ?_|refine qe ?_ ?_|refine xsC ?_ ?_);all_goals (intro hc;have hp:=hc;try simp at hp;try (exfalso;omega)))|refine qX ?_ ?_)
      all_goals try (exfalso;omega)
      all_goals first
       | ((exact zO (rs:=[.tmp 6,.tmp 7])))
       | (refine ⟨t.length - (i + 1),_,by omega,qI (ts:=[(0,qa t),(2,.v (.int .i64 v)),(4,.fp [c.row] 0 0),(11,.v (.int .i64 ((i + 1:Nat):Int)))]) ?_,i + 1,by omega,rfl,(hnx (by rw [hnw];simp_all)),rfl⟩;((repeat (first|exact qg|refine qo ?_|refine qY ?_ ?_))))
     ·exfalso
      obtain rfl:i = t.length:=by omega
      rw [List.take_length] at hsofar
      obtain ⟨x,hx,hxn⟩:=List.any_eq_true.1 hst2
      rw [hsofar x hx] at hxn;cases hxn)
end Go.Proofs.YtamejbkifpjhiaaGreatDoor
set_option linter.unusedSimpArgs false
set_option linter.unnecessarySimpa false
set_option linter.unusedVariables false
set_option maxHeartbeats 1000000
namespace Go.Proofs.YtamejbkifpjhiaaGreatDoor
open Go.Ab Go.RowKit
set_option maxRecDepth 10000
attribute [local irreducible] Awp yH jH jw Red ja Go.Ab.Fin qZ Rz vn jr jp ResOk j3 jC yC jA
theorem qgI (t:List Ent) (c:Chg) (v:Int) (h60:t.length ≤ 60) (hs:qU jf t = true) (hgt : ∀ x,x ∈ t → qH x.path = 0) (hcs:c.small) (hk:c.kind = 4) (h0:yc c = 0) (h1:vL t c = 0) (h2:yb t c = 0):xH C.P 32 [qa t,.agg c.row,.v (.int .i64 v)] (.tup [qa (if j5 t c v = 0 then jh t c v else []),.v (.int .i64 (j5 t c v))]):=by
 obtain ⟨l1,l2,l3⟩:=hcs
 have hform:=vr c ⟨l1,l2,l3⟩
 have hpo1:=yS c.path (by omega)
 have hpo2:=yS c.to (by omega)
 have hfo:=vT t (qJ (jS c)) (by omega)
 have hea:=yl t c.path (by omega)
 have heb:=yl t c.to (by omega)
 have hinn:=vB c.to c.path (by omega) (by omega)
 have hkk:=yU h0
 have hbase : -1 ≤ c.base:=wW h0
 obtain ⟨hz1,hz2,hz3⟩:=w8 h1
 have hst : ∀ x,x ∈ t → ¬ c.base = -1 → (decide (c.base < x.ver) && inB x.path c.path) = false:=fun x hx hb=>by
  unfold yb at h2
  by_cases h3:t.any (x1 c) = true
  ·rw [if_pos ⟨hb,h3⟩] at h2;exact absurd h2 (by decide)
  ·have h4:t.any (x1 c) = false:=by simpa using h3
   rw [List.any_eq_false] at h4
   have h5:=h4 x hx
   simpa [x1] using h5
 clear h2
 have hh:=ZM (by omega) hz2
 obtain ⟨hkk2,_,hfi,hix⟩:=zw hs hh
 have hg0:jS c = c.path:=by simp [jS,hk]
 rw [hz1,hg0] at hfo
 rw [h0] at hform
 rw [hix] at hea
 generalize xg t c.path = k at *
 have hD:jh t c v = j7 (zJ c.path) t:=by simp [jh,hk]
 have hE:j5 t c v = if 60 < (jh t c v).length then 2 else 0:=by simp [j5,yP,hk]
 rw [hE,hD]
 clear hE hD hz1 hz2 hz3 h1 h0
 have hlen:(j7 (zJ c.path) t).length ≤ t.length:=List.length_filter_le ..
 have hL:¬ 60 < (j7 (zJ c.path) t).length:=by omega
 rw [if_neg hL]
 refine qc Tryz.func32 rfl _ Tryz.ntmps32 (Nat.le_of_ble_eq_true rfl) _ Tryz.results32 0 rfl rfl ?_
 repeat' (first|refine qn ?_|(first|refine jv Tryz.func74 (hform ..) ?_|refine jv Tryz.func73 (hpo1 ..) ?_|refine jv Tryz.func73 (hpo2 ..) ?_|refine j1 Tryz.func72 (hfo ..) ?_|refine j1 Tryz.func75 (hea ..) ?_|refine j1 Tryz.func75 (heb ..) ?_|refine jv Tryz.func76 (hinn ..) ?_)|((first|refine qf ?_ ?_|refine qe ?_ ?_|refine xsC ?_ ?_);all_goals (intro hc;have hp:=hc;try simp at hp;try (exfalso;omega)))|refine qX ?_ ?_)
 all_goals try (exfalso;omega)
 apply Wi
 case h =>
  intro key
  refine xsZ 4 0 ?_
  (refine Awp.red (qI (ts:=[(0,qa t),(2,.v (.int .i64 v)),(4,.fp [c.row] 0 0),(11,.v (.int .i64 ((0:Nat):Int)))]) ?_) ?_;((repeat (first|exact qg|refine qo ?_|refine qY ?_ ?_))))
  refine qV (fun n σ => ∃ i:Nat,i ≤ t.length ∧ n = t.length - i ∧ (True) ∧ σ = ⟨[(0,qa t),(2,.v (.int .i64 v)),(4,.fp [c.row] 0 0),(11,.v (.int .i64 (i:Int)))],[],C.nh⟩) t.length ⟨0,Nat.zero_le _,rfl,trivial,rfl⟩ ?_
  rintro n σ ⟨i,hi,rfl, -,rfl⟩
  by_cases hlt:i < t.length
  ·have hr:=jB (f:=Ent.row) hlt
   have hnw:=hst t[i] (List.getElem_mem _)
   have hpl:=qQ (hgt t[i] (List.getElem_mem _))
   have hii:=vB t[i].path c.path (by omega) (by omega)
   generalize inB t[i].path c.path = IB at *
   repeat' (first|refine qn ?_|(first|refine jv Tryz.func76 (hii ..) ?_)|((first|refine qf ?_ ?_|refine qe ?_ ?_|refine xsC ?_ ?_);all_goals (intro hc;have hp:=hc;try simp at hp;try (exfalso;omega)))|refine qX ?_ ?_)
   all_goals try (exfalso;omega)
   all_goals try (
    have h9:=hnw (by omega)
    rw [Bool.and_eq_false_iff] at h9
    rcases h9 with h9|h9
    ·exact absurd (h9.symm.trans (by assumption)) Bool.false_ne_true
    ·exact absurd (h9.symm.trans (by assumption)) Bool.false_ne_true)
   all_goals first
    | (refine ⟨t.length - (i + 1),_,by omega,qI (ts:=[(0,qa t),(2,.v (.int .i64 v)),(4,.fp [c.row] 0 0),(11,.v (.int .i64 ((i + 1:Nat):Int)))]) ?_,i + 1,by omega,rfl,trivial,rfl⟩;((repeat (first|exact qg|refine qo ?_|refine qY ?_ ?_))))
    | ((repeat' (first|refine qn ?_|(first|fail)|((first|refine qf ?_ ?_|refine qe ?_ ?_|refine xsC ?_ ?_);all_goals (intro hc;have hp:=hc;try simp at hp;try (exfalso;omega)))|refine qX ?_ ?_))
       (all_goals try (exfalso;omega))
       (refine Awp.red (qI (ts:=[(0,qa t),(2,.v (.int .i64 v)),(4,.fp [c.row] 0 0),(12,.sl true []),(13,.v (.int .i64 ((0:Nat):Int)))]) ?_) ?_;((repeat (first|exact qg|refine qo ?_|refine qY ?_ ?_))))
       exact key.out)
  ·obtain rfl:i = t.length:=by omega
   (repeat' (first|refine qn ?_|(first|fail)|((first|refine qf ?_ ?_|refine qe ?_ ?_|refine xsC ?_ ?_);all_goals (intro hc;have hp:=hc;try simp at hp;try (exfalso;omega)))|refine qX ?_ ?_))
   (all_goals try (exfalso;omega))
   (refine Awp.red (qI (ts:=[(0,qa t),(2,.v (.int .i64 v)),(4,.fp [c.row] 0 0),(12,.sl true []),(13,.v (.int .i64 ((0:Nat):Int)))]) ?_) ?_;((repeat (first|exact qg|refine qo ?_|refine qY ?_ ?_))))
   exact key.out
 refine Awp.red (ye 12 4 rfl (Nat.le_refl _)) ?_
 (refine Awp.red (qB (τ:=⟨[(0,qa t),(2,.v (.int .i64 v)),(4,.fp [c.row] 0 0),(12,.os 0 0 0),(13,.v (.int .i64 ((0:Nat):Int)))],[(0,.own false 4 [])],1⟩) [(0,0)] rfl ?gts ?ghs) ?gmain;(case gts=>(repeat (first|exact qg|refine qo ?_|refine yg ?_|refine x6 ?_|refine qY ?_ ?_)));(case ghs=>(repeat (first|exact qj|refine j4 ?_|refine q6 ?_ ?_))))
 refine qV (fun n σ => ∃ i:Nat,i ≤ t.length ∧ n = t.length - i ∧ (True) ∧ σ = ⟨[(0,qa t),(2,.v (.int .i64 v)),(4,.fp [c.row] 0 0),(12,.os 0 0 (j7 (zJ c.path) (t.take i)).length),(13,.v (.int .i64 (i:Int)))],[(0,.own false 4 ((j7 (zJ c.path) (t.take i)).map Ent.row))],1⟩) t.length ⟨0,Nat.zero_le _,rfl,trivial,rfl⟩ ?_
 rintro n σ ⟨i,hi,rfl, -,rfl⟩
 by_cases hlt:i < t.length
 ·have hr:=jB (f:=Ent.row) hlt
  have hpl:=qQ (hgt t[i] (List.getElem_mem _))
  have hii:=vB t[i].path c.path (by omega) (by omega)
  have hks := @Qt (zJ c.path) t i hlt
  have hkl:=Xj (zJ c.path) t i (by omega)
  have hin:zJ c.path t[i] = inB t[i].path c.path:=rfl
  rw [hin] at hks
  generalize inB t[i].path c.path = IB at *
  clear hin hst
  generalize hGG:j7 (zJ c.path) (t.take i) = G at hks hkl ⊢
  clear hGG
  cases IB with
  | true =>
    rw [if_pos rfl] at hks
    repeat' (first|refine qn ?_|(first|(refine jL ?_)|(refine yi ?_)|refine jv Tryz.func76 (hii ..) ?_)|((first|refine qf ?_ ?_|refine qe ?_ ?_|refine xsC ?_ ?_);all_goals (intro hc;have hp:=hc;try simp at hp;try (exfalso;omega)))|refine qX ?_ ?_)
    all_goals try (exfalso;omega)
    refine ⟨t.length - (i + 1),_,by omega,qB (τ:=⟨[(0,qa t),(2,.v (.int .i64 v)),(4,.fp [c.row] 0 0),(12,.os 0 0 (j7 (zJ c.path) (t.take (i + 1))).length),(13,.v (.int .i64 ((i + 1:Nat):Int)))],[(0,.own false 4 ((j7 (zJ c.path) (t.take (i + 1))).map Ent.row))],1⟩) [(0,0)] rfl ?gts ?ghs,i + 1,by omega,rfl,trivial,rfl⟩;(case gts=>(repeat (first|exact qg|refine qo ?_|refine yg ?_|refine x6 ?_|refine qY ?_ ?_));all_goals (rw [hks]));(case ghs=>(repeat (first|exact qj|refine j4 ?_|refine q6 ?_ ?_));all_goals (rw [hks]))
  | false =>
    rw [if_neg (by decide)] at hks
    repeat' (first|refine qn ?_|(first|(refine jL ?_)|(refine yi ?_)|refine jv Tryz.func76 (hii ..) ?_)|((first|refine qf ?_ ?_|refine qe ?_ ?_|refine xsC ?_ ?_);all_goals (intro hc;have hp:=hc;try simp at hp;try (exfalso;omega)))|refine qX ?_ ?_)
    all_goals try (exfalso;omega)
    refine ⟨t.length - (i + 1),_,by omega,qB (τ:=⟨[(0,qa t),(2,.v (.int .i64 v)),(4,.fp [c.row] 0 0),(12,.os 0 0 (j7 (zJ c.path) (t.take (i + 1))).length),(13,.v (.int .i64 ((i + 1:Nat):Int)))],[(0,.own false 4 ((j7 (zJ c.path) (t.take (i + 1))).map Ent.row))],1⟩) [(1,0)] rfl ?gts ?ghs,i + 1,by omega,rfl,trivial,rfl⟩;(case gts=>(repeat (first|exact qg|refine qo ?_|refine yg ?_|refine x6 ?_|refine qY ?_ ?_));all_goals (rw [hks];try first|(simp;done)|(rw [List.take_of_length_le (by simp)];simp;done)));(case ghs=>(repeat (first|exact qj|refine j4 ?_|refine q6 ?_ ?_));all_goals (rw [hks];try first|(simp;done)|(rw [List.take_of_length_le (by simp)];simp;done)))
 ·obtain rfl:i = t.length:=by omega
  rw [List.take_length]
  (repeat' (first|refine qn ?_|(first|fail)|((first|refine qf ?_ ?_|refine qe ?_ ?_|refine xsC ?_ ?_);all_goals (intro hc;have hp:=hc;try simp at hp;try (exfalso;omega)))|refine qX ?_ ?_))
  (all_goals try (exfalso;omega))
  refine Awp.red (QK 0 rfl (by intro row hrow;obtain ⟨x,_,rfl⟩:=List.mem_map.1 hrow;rfl)) ?_
  refine Awp.red (qbb 12 0 rfl rfl (by simp)) ?_
  (refine Awp.red (qI (ts:=[(0,qa t),(2,.v (.int .i64 v)),(4,.fp [c.row] 0 0),(12,qa (j7 (zJ c.path) t)),(14,.v (.int .i64 ((0:Nat):Int)))]) ?_) ?_;((repeat (first|exact qg|refine qo ?_|refine qY ?_ ?_))))
  all_goals try (rw [List.drop_zero,List.take_of_length_le (by simp)];rfl)
  refine qV (fun n σ => ∃ i:Nat,i ≤ t.length ∧ n = t.length - i ∧ (True) ∧ σ = ⟨[(0,qa t),(2,.v (.int .i64 v)),(4,.fp [c.row] 0 0),(12,qa (j7 (zJ c.path) t)),(14,.v (.int .i64 (i:Int)))],[],C.nh⟩) t.length ⟨0,Nat.zero_le _,rfl,trivial,rfl⟩ ?_
  rintro n σ ⟨i,hi,rfl, -,rfl⟩
  have hml:(List.map Ent.row (j7 (zJ c.path) t)).length = (j7 (zJ c.path) t).length:=List.length_map ..
  (repeat' (first|refine qn ?_|(first|fail)|((first|refine qf ?_ ?_|refine qe ?_ ?_|refine xsC ?_ ?_);all_goals (intro hc;have hp:=hc;try simp at hp;try (exfalso;omega)))|refine qX ?_ ?_))
  (all_goals try (exfalso;omega))
  (all_goals ((exact zO (rs:=[.tmp 6,.tmp 7]))))
end Go.Proofs.YtamejbkifpjhiaaGreatDoor
set_option linter.unusedSimpArgs false
set_option linter.unnecessarySimpa false
set_option linter.unusedVariables false
set_option maxHeartbeats 1000000
namespace Go.Proofs.YtamejbkifpjhiaaGreatDoor
open Go.Ab Go.RowKit
set_option maxRecDepth 10000
attribute [local irreducible] Awp yH jH jw Red ja Go.Ab.Fin qZ Rz vn jr jp ResOk j3 jC yC jA
set_option maxHeartbeats 1000000 in
theorem qgH (t:List Ent) (c:Chg) (v:Int) (h60:t.length ≤ 60) (hs:qU jf t = true) (hgt : ∀ x,x ∈ t → qH x.path = 0) (hcs:c.small) (hk:c.kind = 3) (h0:yc c = 0) (h1:vL t c = 0) (h2:yb t c = 0):xH C.P 32 [qa t,.agg c.row,.v (.int .i64 v)] (.tup [qa (if j5 t c v = 0 then jh t c v else []),.v (.int .i64 (j5 t c v))]):=by
 obtain ⟨l1,l2,l3⟩:=hcs
 have hform:=vr c ⟨l1,l2,l3⟩
 have hpo1:=yS c.path (by omega)
 have hpo2:=yS c.to (by omega)
 have hfo:=vT t (qJ (jS c)) (by omega)
 have hea:=yl t c.path (by omega)
 have heb:=yl t c.to (by omega)
 have hinn:=vB c.to c.path (by omega) (by omega)
 have hkk:=yU h0
 have hbase : -1 ≤ c.base:=wW h0
 obtain ⟨hz1,hz2,hz3⟩:=w8 h1
 have hst : ∀ x,x ∈ t → ¬ c.base = -1 → (decide (c.base < x.ver) && inB x.path c.path) = false:=fun x hx hb=>by
  unfold yb at h2
  by_cases h3:t.any (x1 c) = true
  ·rw [if_pos ⟨hb,h3⟩] at h2;exact absurd h2 (by decide)
  ·have h4:t.any (x1 c) = false:=by simpa using h3
   rw [List.any_eq_false] at h4
   have h5:=h4 x hx
   simpa [x1] using h5
 clear h2
 have hh:=ZM (by omega) hz2
 obtain ⟨hkk2,_,hfi,hix⟩:=zw hs hh
 have hg0:jS c = c.to:=by simp [jS,hk]
 rw [hz1,hg0] at hfo
 rw [h0] at hform
 rw [hix] at hea
 have hM:zR t c = if inB c.to c.path = true then 3 else if j0 t c.to = true then 6 else 0:=by unfold zR;rw [if_pos hk]
 rw [hz3] at hM
 have hin0:inB c.to c.path = false:=by
  cases h:inB c.to c.path with
  | true=>rw [h] at hM;simp at hM
  | false=>rfl
 rw [hin0,if_neg (by decide)] at hM
 have hhit:j0 t c.to = false:=by
  cases h:j0 t c.to with
  | true=>rw [h] at hM;simp at hM
  | false=>rfl
 rw [(xO hhit).2] at heb
 rw [hin0] at hinn
 obtain ⟨-, -,hpe,hte, -⟩:=hkk
 have hpt:=hte hk
 have hps:=qQ hpe
 have hpts:=qQ hpt
 generalize xg t c.path = k at *
 have hDD:jh t c v = (jI t c v).foldl jR (j7 (zJ c.path) t):=by simp [jh,hk]
 have hEE:yP t c = false → j5 t c v = if 60 < (jh t c v).length then 2 else 0:=fun h=>by simp [j5,h]
 have hKl:(j7 (zJ c.path) t).length ≤ t.length:=List.length_filter_le ..
 have hKr:=z8 (p:=zJ c.path) hs
 clear hM hz1 hz2 hz3 h1 h0 hin0 hfi hix
 refine qc Tryz.func32 rfl _ Tryz.ntmps32 (Nat.le_of_ble_eq_true rfl) _ Tryz.results32 0 rfl rfl ?_
 repeat' (first|refine qn ?_|(first|refine jv Tryz.func74 (hform ..) ?_|refine jv Tryz.func73 (hpo1 ..) ?_|refine jv Tryz.func73 (hpo2 ..) ?_|refine j1 Tryz.func72 (hfo ..) ?_|refine j1 Tryz.func75 (hea ..) ?_|refine j1 Tryz.func75 (heb ..) ?_|refine jv Tryz.func76 (hinn ..) ?_)|((first|refine qf ?_ ?_|refine qe ?_ ?_|refine xsC ?_ ?_);all_goals (intro hc;have hp:=hc;try simp at hp;try (exfalso;omega)))|refine qX ?_ ?_)
 all_goals try (exfalso;omega)
 apply Wi
 case h =>
  intro key
  refine xsZ 4 0 ?_
  (refine Awp.red (qI (ts:=[(0,qa t),(2,.v (.int .i64 v)),(4,.fp [c.row] 0 0),(11,.v (.int .i64 ((0:Nat):Int)))]) ?_) ?_;((repeat (first|exact qg|refine qo ?_|refine qY ?_ ?_))))
  refine qV (fun n σ => ∃ i:Nat,i ≤ t.length ∧ n = t.length - i ∧ (True) ∧ σ = ⟨[(0,qa t),(2,.v (.int .i64 v)),(4,.fp [c.row] 0 0),(11,.v (.int .i64 (i:Int)))],[],C.nh⟩) t.length ⟨0,Nat.zero_le _,rfl,trivial,rfl⟩ ?_
  rintro n σ ⟨i,hi,rfl, -,rfl⟩
  by_cases hlt:i < t.length
  ·have hr:=jB (f:=Ent.row) hlt
   have hnw:=hst t[i] (List.getElem_mem _)
   have hpl:=qQ (hgt t[i] (List.getElem_mem _))
   have hii:=vB t[i].path c.path (by omega) (by omega)
   generalize inB t[i].path c.path = IB at *
   repeat' (first|refine qn ?_|(first|refine jv Tryz.func76 (hii ..) ?_)|((first|refine qf ?_ ?_|refine qe ?_ ?_|refine xsC ?_ ?_);all_goals (intro hc;have hp:=hc;try simp at hp;try (exfalso;omega)))|refine qX ?_ ?_)
   all_goals try (exfalso;omega)
   all_goals try (
    have h9:=hnw (by omega)
    rw [Bool.and_eq_false_iff] at h9
    rcases h9 with h9|h9
    ·exact absurd (h9.symm.trans (by assumption)) Bool.false_ne_true
    ·exact absurd (h9.symm.trans (by assumption)) Bool.false_ne_true)
   all_goals first
    | (refine ⟨t.length - (i + 1),_,by omega,qI (ts:=[(0,qa t),(2,.v (.int .i64 v)),(4,.fp [c.row] 0 0),(11,.v (.int .i64 ((i + 1:Nat):Int)))]) ?_,i + 1,by omega,rfl,trivial,rfl⟩;((repeat (first|exact qg|refine qo ?_|refine qY ?_ ?_))))
    | ((repeat' (first|refine qn ?_|(first|fail)|((first|refine qf ?_ ?_|refine qe ?_ ?_|refine xsC ?_ ?_);all_goals (intro hc;have hp:=hc;try simp at hp;try (exfalso;omega)))|refine qX ?_ ?_))
       (all_goals try (exfalso;omega))
       (refine Awp.red (qI (ts:=[(0,qa t),(2,.v (.int .i64 v)),(4,.fp [c.row] 0 0),(12,.sl true []),(13,.v (.int .i64 ((0:Nat):Int)))]) ?_) ?_;((repeat (first|exact qg|refine qo ?_|refine qY ?_ ?_))))
       exact key.out)
  ·obtain rfl:i = t.length:=by omega
   (repeat' (first|refine qn ?_|(first|fail)|((first|refine qf ?_ ?_|refine qe ?_ ?_|refine xsC ?_ ?_);all_goals (intro hc;have hp:=hc;try simp at hp;try (exfalso;omega)))|refine qX ?_ ?_))
   (all_goals try (exfalso;omega))
   (refine Awp.red (qI (ts:=[(0,qa t),(2,.v (.int .i64 v)),(4,.fp [c.row] 0 0),(12,.sl true []),(13,.v (.int .i64 ((0:Nat):Int)))]) ?_) ?_;((repeat (first|exact qg|refine qo ?_|refine qY ?_ ?_))))
   exact key.out
 refine Awp.red (ye 12 4 rfl (Nat.le_refl _)) ?_
 (refine Awp.red (qB (τ:=⟨[(0,qa t),(2,.v (.int .i64 v)),(4,.fp [c.row] 0 0),(12,.os 0 0 0),(13,.v (.int .i64 ((0:Nat):Int)))],[(0,.own false 4 [])],1⟩) [(0,0)] rfl ?gts ?ghs) ?gmain;(case gts=>(repeat (first|exact qg|refine qo ?_|refine yg ?_|refine x6 ?_|refine qY ?_ ?_)));(case ghs=>(repeat (first|exact qj|refine j4 ?_|refine q6 ?_ ?_))))
 refine qV (fun n σ => ∃ i:Nat,i ≤ t.length ∧ n = t.length - i ∧ (True) ∧ σ = ⟨[(0,qa t),(2,.v (.int .i64 v)),(4,.fp [c.row] 0 0),(12,.os 0 0 (j7 (zJ c.path) (t.take i)).length),(13,.v (.int .i64 (i:Int)))],[(0,.own false 4 ((j7 (zJ c.path) (t.take i)).map Ent.row))],1⟩) t.length ⟨0,Nat.zero_le _,rfl,trivial,rfl⟩ ?_
 rintro n σ ⟨i,hi,rfl, -,rfl⟩
 by_cases hlt:i < t.length
 ·have hr:=jB (f:=Ent.row) hlt
  have hpl:=qQ (hgt t[i] (List.getElem_mem _))
  have hii:=vB t[i].path c.path (by omega) (by omega)
  have hks := @Qt (zJ c.path) t i hlt
  have hkl:=Xj (zJ c.path) t i (by omega)
  have hin:zJ c.path t[i] = inB t[i].path c.path:=rfl
  rw [hin] at hks
  generalize inB t[i].path c.path = IB at *
  clear hin hst
  generalize hGG:j7 (zJ c.path) (t.take i) = G at hks hkl ⊢
  clear hGG
  cases IB with
  | true =>
    rw [if_pos rfl] at hks
    repeat' (first|refine qn ?_|(first|(refine jL ?_)|(refine yi ?_)|refine jv Tryz.func76 (hii ..) ?_)|((first|refine qf ?_ ?_|refine qe ?_ ?_|refine xsC ?_ ?_);all_goals (intro hc;have hp:=hc;try simp at hp;try (exfalso;omega)))|refine qX ?_ ?_)
    all_goals try (exfalso;omega)
    refine ⟨t.length - (i + 1),_,by omega,qB (τ:=⟨[(0,qa t),(2,.v (.int .i64 v)),(4,.fp [c.row] 0 0),(12,.os 0 0 (j7 (zJ c.path) (t.take (i + 1))).length),(13,.v (.int .i64 ((i + 1:Nat):Int)))],[(0,.own false 4 ((j7 (zJ c.path) (t.take (i + 1))).map Ent.row))],1⟩) [(0,0)] rfl ?gts ?ghs,i + 1,by omega,rfl,trivial,rfl⟩;(case gts=>(repeat (first|exact qg|refine qo ?_|refine yg ?_|refine x6 ?_|refine qY ?_ ?_));all_goals (rw [hks]));(case ghs=>(repeat (first|exact qj|refine j4 ?_|refine q6 ?_ ?_));all_goals (rw [hks]))
  | false =>
    rw [if_neg (by decide)] at hks
    repeat' (first|refine qn ?_|(first|(refine jL ?_)|(refine yi ?_)|refine jv Tryz.func76 (hii ..) ?_)|((first|refine qf ?_ ?_|refine qe ?_ ?_|refine xsC ?_ ?_);all_goals (intro hc;have hp:=hc;try simp at hp;try (exfalso;omega)))|refine qX ?_ ?_)
    all_goals try (exfalso;omega)
    refine ⟨t.length - (i + 1),_,by omega,qB (τ:=⟨[(0,qa t),(2,.v (.int .i64 v)),(4,.fp [c.row] 0 0),(12,.os 0 0 (j7 (zJ c.path) (t.take (i + 1))).length),(13,.v (.int .i64 ((i + 1:Nat):Int)))],[(0,.own false 4 ((j7 (zJ c.path) (t.take (i + 1))).map Ent.row))],1⟩) [(1,0)] rfl ?gts ?ghs,i + 1,by omega,rfl,trivial,rfl⟩;(case gts=>(repeat (first|exact qg|refine qo ?_|refine yg ?_|refine x6 ?_|refine qY ?_ ?_));all_goals (rw [hks];try first|(simp;done)|(rw [List.take_of_length_le (by simp)];simp;done)));(case ghs=>(repeat (first|exact qj|refine j4 ?_|refine q6 ?_ ?_));all_goals (rw [hks];try first|(simp;done)|(rw [List.take_of_length_le (by simp)];simp;done)))
 ·obtain rfl:i = t.length:=by omega
  rw [List.take_length]
  (repeat' (first|refine qn ?_|(first|fail)|((first|refine qf ?_ ?_|refine qe ?_ ?_|refine xsC ?_ ?_);all_goals (intro hc;have hp:=hc;try simp at hp;try (exfalso;omega)))|refine qX ?_ ?_))
  (all_goals try (exfalso;omega))
  refine Awp.red (QK 0 rfl (by intro row hrow;obtain ⟨x,_,rfl⟩:=List.mem_map.1 hrow;rfl)) ?_
  refine Awp.red (qbb 12 0 rfl rfl (by simp)) ?_
  (refine Awp.red (qI (ts:=[(0,qa t),(2,.v (.int .i64 v)),(4,.fp [c.row] 0 0),(12,qa (((jI (t.take 0) c v).foldl jR (j7 (zJ c.path) t)))),(14,.v (.int .i64 ((0:Nat):Int)))]) ?_) ?_;((repeat (first|exact qg|refine qo ?_|refine qY ?_ ?_))))
  all_goals try (rw [List.drop_zero,List.take_of_length_le (by simp)];rfl)
  generalize hKK:j7 (zJ c.path) t = K at *
  refine qV (fun n σ => ∃ i:Nat,i ≤ t.length ∧ n = t.length - i ∧ (zX t c i = false) ∧ σ = ⟨[(0,qa t),(2,.v (.int .i64 v)),(4,.fp [c.row] 0 0),(12,qa ((jI (t.take i) c v).foldl jR K)),(14,.v (.int .i64 (i:Int)))],[],C.nh⟩) t.length ⟨0,Nat.zero_le _,rfl,rfl,rfl⟩ ?_
  rintro n σ ⟨i,hi,rfl,hsofar,rfl⟩
  by_cases hlt:i < t.length
  ·have hr:=jB (f:=Ent.row) hlt
   have hxp:=hgt t[i] (List.getElem_mem _)
   have hpl:=qQ hxp
   have hii:=vB t[i].path c.path (by omega) (by omega)
   have hgs := @Xd t c v i hlt
   have hbs := @Wg t c i hlt
   have hgl:(jI (t.take i) c v).length ≤ i:=by
    unfold jI
    rw [List.length_map]
    have h1:((t.take i).filter (zJ c.path)).length ≤ (t.take i).length:=List.length_filter_le ..
    simp at h1;omega
   have hal:=QG (jI (t.take i) c v) K
   have har:=zD (l:=jI (t.take i) c v) hKr
   have hmt : ∀ w,(if t[i].path = c.path then v else t[i].ver) = w → (xu c v t[i]).row = [.v (str (c.to ++ t[i].path.drop c.path.length)),.v (.bool t[i].fold),.v (str t[i].text),.v (.int .i64 w)]:=fun w hw=>by simp [xu,Ent.row,hw]
   have hmr := @ZP t[i].path c.path c.to
   have hpu:=wB ((jI (t.take i) c v).foldl jR K) (xu c v t[i]) (by omega)
   rw [w9 har] at hpu
   have hbd:inB t[i].path c.path = true → j8 (c.to ++ t[i].path.drop c.path.length) = true → j5 t c v = 2:=fun h3 h4=>by
    have:yP t c = true:=by
     simp only [yP,hk,decide_true,Bool.true_and,List.any_eq_true]
     exact ⟨t[i],List.mem_filter.2 ⟨List.getElem_mem _,h3⟩,h4⟩
    simp [j5,this]
   rw [hsofar] at hbs
   generalize hIB:inB t[i].path c.path = IB at *
   clear hst hsofar hDD hEE hhit
   cases IB with
   | false =>
     have hgs2:jI (t.take (i + 1)) c v = jI (t.take i) c v:=by rw [hgs,if_neg (by decide)]
     have hbs2:zX t c (i + 1) = false:=hbs
     generalize hOO:(jI (t.take i) c v).foldl jR K = O at *
     repeat' (first|refine qn ?_|(first|refine jv Tryz.func76 (hii ..) ?_)|((first|refine qf ?_ ?_|refine qe ?_ ?_|refine xsC ?_ ?_);all_goals (intro hc;have hp:=hc;try simp at hp;try (exfalso;omega)))|refine qX ?_ ?_)
     all_goals try (exfalso;omega)
     refine ⟨t.length - (i + 1),_,by omega,qI (ts:=[(0,qa t),(2,.v (.int .i64 v)),(4,.fp [c.row] 0 0),(12,qa ((jI (t.take (i + 1)) c v).foldl jR K)),(14,.v (.int .i64 ((i + 1:Nat):Int)))]) ?_,i + 1,by omega,rfl,hbs2,rfl⟩;((repeat (first|exact qg|refine qo ?_|refine qY ?_ ?_));all_goals (rw [hgs2,hOO];rfl))
   | true =>
     have hgs2:jI (t.take (i + 1)) c v = jI (t.take i) c v ++ [xu c v t[i]]:=by rw [hgs,if_pos rfl]
     have hO2:(jI (t.take (i + 1)) c v).foldl jR K = jR ((jI (t.take i) c v).foldl jR K) (xu c v t[i]):=by rw [hgs2,List.foldl_append];rfl
     rw [← hO2] at hpu
     have hmr:=hmr rfl
     have n1:=zd c.to (by omega)
     have n2:=zd t[i].path (by omega)
     have n3:=zd c.path (by omega)
     have m1:=xV c.to
     have m2:=xV t[i].path
     have hcount:(qu c.path).length ≤ (qu t[i].path).length:=by
      rw [Ve,List.isPrefixOf_iff_prefix] at hIB
      exact hIB.length_le
     have hql:(c.to ++ t[i].path.drop c.path.length).length ≤ 4000000:=by simp;omega
     have hpo:=Vm (qu c.to ++ (qu t[i].path).drop (qu c.path).length) (by simp;omega) (by rw [hmr];omega)
     rw [hmr] at hpo
     have hgg:=JV (c.to ++ t[i].path.drop c.path.length) (by omega)
     have hbs2:zX t c (i + 1) = j8 (c.to ++ t[i].path.drop c.path.length):=by simpa using hbs
     have hbd:=hbd rfl
     clear hgs hbs hgs2 hO2 hIB hmr hxp
     generalize hOO2:(jI (t.take (i + 1)) c v).foldl jR K = O2 at *
     generalize (jI (t.take i) c v).foldl jR K = O at *
     generalize c.to ++ t[i].path.drop c.path.length = Q at *
     have hrk : ∀ row,row ∈ (qu t[i].path).map qO → row.length = 1:=fun row hr=>by obtain ⟨x,_,rfl⟩:=List.mem_map.1 hr;rfl
     generalize hA:qu c.to = A at *
     generalize hB:qu t[i].path = B at *
     generalize hD:qu c.path = D at *
     have hml:(B.map qO).length = B.length:=List.length_map ..
     have hmd:(D.map qO).length = D.length:=List.length_map ..
     have hma:(A.map qO).length = A.length:=List.length_map ..
     have hee:(A ++ B.drop D.length).map qO = A.map qO ++ ((B.map qO).take (B.map qO).length).drop (D.map qO).length:=by rw [List.take_length,hmd,List.map_append,List.map_drop]
     rw [hee] at hpo
     have hrd:(((B.map qO).take (B.map qO).length).drop (D.map qO).length).all (fun row=>row.length == 1 && row.all yo) = true:=by
      rw [List.all_eq_true];intro x hx
      obtain ⟨y,_,rfl⟩:=List.mem_map.1 (List.mem_of_mem_take (List.mem_of_mem_drop hx))
      rfl
     have hdl:(((B.map qO).take (B.map qO).length).drop (D.map qO).length).length ≤ 4000000:=by rw [List.length_drop,List.take_length];omega
     clear hA hB hD hee
     cases hGT:j8 Q with
     | true =>
       rw [hbd hGT,if_neg (by decide)]
       rw [hGT] at hgg
       clear hbd hbs2 hpu hmt
       repeat' (first|refine qn ?_|(first|(refine jL ?_)|refine jv Tryz.func76 (hii ..) ?_|refine j1 Tryz.func79 (n1 ..) ?_|refine j1 Tryz.func79 (n2 ..) ?_|refine j1 Tryz.func79 (n3 ..) ?_|(refine VY ?_)|(apply Jc;apply zB;(case hx=>rfl);(case hT=>rfl);(case he=>rfl);(case hE=>rfl);(case hn=>rfl);(case hl=>(first|omega|(simp;done)|(simp only [List.length_cons,List.length_nil,List.length_map];omega)|(simp;omega)));(case hz=>rfl);(case hsrc=>(first|(first|(apply v6;rfl;rfl)|(apply Jo;rfl;intro a;rfl)|(apply QP;rfl;rfl;first|omega|(simp;done)|(simp;omega);rfl;first|rfl|exact xw fun _=>rfl))|(apply v6;rfl;exact hrd)));(case hsz=>(first|omega|(simp;done)|(simp only [List.length_cons,List.length_nil,List.length_map];omega)|(simp;omega)));(case hlen=>(first|omega|(simp;done)|(simp only [List.length_cons,List.length_nil,List.length_map];omega)|(simp;omega)));(case hmn=>exact Nat.ne_of_beq_eq_false rfl);(case hN=>exact nle rfl))|(apply qi;apply xZ (ex':=false) (a:=(D.map qO).length) (b:=(B.map qO).length) (m:=0);(case hx=>rfl);(case hT=>rfl);(case he=>rfl);(case hE=>rfl);(case ha=>exact ⟨_,rfl⟩);(case hb=>rfl);(case hm=>trivial);(case hab=>(first|omega|(simp;done)|(simp only [List.length_cons,List.length_nil,List.length_map];omega)|(simp;omega)));(case hbl=>(first|omega|(simp;done)|(simp only [List.length_cons,List.length_nil,List.length_map];omega)|(simp;omega)));(case hrk=>exact hrk);(case hex=>exact nofun);(case hN=>exact nle rfl))|(apply qi;apply j9 ([2]);exact jW Tryz.func78 rfl rfl;apply hpo;(case hz=>refine qA ?_ q5;(apply YX;(case hn=>rfl);(case hl=>(simp;done));(case he=>(congr 1;exact List.take_length));(case hp=>(intro row hrow;rcases List.mem_append.1 hrow with hrow|hrow;(obtain ⟨y,_,rfl⟩:=List.mem_map.1 hrow;rfl);(obtain ⟨y,_,rfl⟩:=List.mem_map.1 (List.mem_of_mem_take (List.mem_of_mem_drop hrow));rfl)))));(case hfl=>rfl);(case hN=>exact nle rfl))|refine jv Tryz.func80 (hgg ..) ?_)|((first|refine qf ?_ ?_|refine qe ?_ ?_|refine xsC ?_ ?_);all_goals (intro hc;have hp:=hc;try simp at hp;try (exfalso;omega)))|refine qX ?_ ?_)
       all_goals try (exfalso;omega)
       all_goals ((exact zO (rs:=[.tmp 6,.tmp 7])))
     | false =>
       rw [hGT] at hgg hbs2
       clear hbd
       by_cases hpe2:t[i].path = c.path
       ·rw [hmt v (if_pos hpe2)] at hpu
        clear hmt
        repeat' (first|refine qn ?_|(first|(refine jL ?_)|refine jv Tryz.func76 (hii ..) ?_|refine j1 Tryz.func79 (n1 ..) ?_|refine j1 Tryz.func79 (n2 ..) ?_|refine j1 Tryz.func79 (n3 ..) ?_|(refine VY ?_)|(apply Jc;apply zB;(case hx=>rfl);(case hT=>rfl);(case he=>rfl);(case hE=>rfl);(case hn=>rfl);(case hl=>(first|omega|(simp;done)|(simp only [List.length_cons,List.length_nil,List.length_map];omega)|(simp;omega)));(case hz=>rfl);(case hsrc=>(first|(first|(apply v6;rfl;rfl)|(apply Jo;rfl;intro a;rfl)|(apply QP;rfl;rfl;first|omega|(simp;done)|(simp;omega);rfl;first|rfl|exact xw fun _=>rfl))|(apply v6;rfl;exact hrd)));(case hsz=>(first|omega|(simp;done)|(simp only [List.length_cons,List.length_nil,List.length_map];omega)|(simp;omega)));(case hlen=>(first|omega|(simp;done)|(simp only [List.length_cons,List.length_nil,List.length_map];omega)|(simp;omega)));(case hmn=>exact Nat.ne_of_beq_eq_false rfl);(case hN=>exact nle rfl))|(apply qi;apply xZ (ex':=false) (a:=(D.map qO).length) (b:=(B.map qO).length) (m:=0);(case hx=>rfl);(case hT=>rfl);(case he=>rfl);(case hE=>rfl);(case ha=>exact ⟨_,rfl⟩);(case hb=>rfl);(case hm=>trivial);(case hab=>(first|omega|(simp;done)|(simp only [List.length_cons,List.length_nil,List.length_map];omega)|(simp;omega)));(case hbl=>(first|omega|(simp;done)|(simp only [List.length_cons,List.length_nil,List.length_map];omega)|(simp;omega)));(case hrk=>exact hrk);(case hex=>exact nofun);(case hN=>exact nle rfl))|(apply qi;apply j9 ([2]);exact jW Tryz.func78 rfl rfl;apply hpo;(case hz=>refine qA ?_ q5;(apply YX;(case hn=>rfl);(case hl=>(simp;done));(case he=>(congr 1;exact List.take_length));(case hp=>(intro row hrow;rcases List.mem_append.1 hrow with hrow|hrow;(obtain ⟨y,_,rfl⟩:=List.mem_map.1 hrow;rfl);(obtain ⟨y,_,rfl⟩:=List.mem_map.1 (List.mem_of_mem_take (List.mem_of_mem_drop hrow));rfl)))));(case hfl=>rfl);(case hN=>exact nle rfl))|refine jv Tryz.func80 (hgg ..) ?_|refine j1 Tryz.func77 (hpu ..) ?_)|((first|refine qf ?_ ?_|refine qe ?_ ?_|refine xsC ?_ ?_);all_goals (intro hc;have hp:=hc;try simp at hp;try (exfalso;omega)))|refine qX ?_ ?_)
        all_goals try (exfalso;omega)
        all_goals try (exfalso;contradiction)
        refine ⟨t.length - (i + 1),_,by omega,qI (ts:=[(0,qa t),(2,.v (.int .i64 v)),(4,.fp [c.row] 0 0),(12,qa ((jI (t.take (i + 1)) c v).foldl jR K)),(14,.v (.int .i64 ((i + 1:Nat):Int)))]) ?_,i + 1,by omega,rfl,hbs2,rfl⟩;((repeat (first|exact qg|refine qo ?_|refine qY ?_ ?_));all_goals (rw [hOO2];rfl))
       ·rw [hmt t[i].ver (if_neg hpe2)] at hpu
        clear hmt
        repeat' (first|refine qn ?_|(first|(refine jL ?_)|refine jv Tryz.func76 (hii ..) ?_|refine j1 Tryz.func79 (n1 ..) ?_|refine j1 Tryz.func79 (n2 ..) ?_|refine j1 Tryz.func79 (n3 ..) ?_|(refine VY ?_)|(apply Jc;apply zB;(case hx=>rfl);(case hT=>rfl);(case he=>rfl);(case hE=>rfl);(case hn=>rfl);(case hl=>(first|omega|(simp;done)|(simp only [List.length_cons,List.length_nil,List.length_map];omega)|(simp;omega)));(case hz=>rfl);(case hsrc=>(first|(first|(apply v6;rfl;rfl)|(apply Jo;rfl;intro a;rfl)|(apply QP;rfl;rfl;first|omega|(simp;done)|(simp;omega);rfl;first|rfl|exact xw fun _=>rfl))|(apply v6;rfl;exact hrd)));(case hsz=>(first|omega|(simp;done)|(simp only [List.length_cons,List.length_nil,List.length_map];omega)|(simp;omega)));(case hlen=>(first|omega|(simp;done)|(simp only [List.length_cons,List.length_nil,List.length_map];omega)|(simp;omega)));(case hmn=>exact Nat.ne_of_beq_eq_false rfl);(case hN=>exact nle rfl))|(apply qi;apply xZ (ex':=false) (a:=(D.map qO).length) (b:=(B.map qO).length) (m:=0);(case hx=>rfl);(case hT=>rfl);(case he=>rfl);(case hE=>rfl);(case ha=>exact ⟨_,rfl⟩);(case hb=>rfl);(case hm=>trivial);(case hab=>(first|omega|(simp;done)|(simp only [List.length_cons,List.length_nil,List.length_map];omega)|(simp;omega)));(case hbl=>(first|omega|(simp;done)|(simp only [List.length_cons,List.length_nil,List.length_map];omega)|(simp;omega)));(case hrk=>exact hrk);(case hex=>exact nofun);(case hN=>exact nle rfl))|(apply qi;apply j9 ([2]);exact jW Tryz.func78 rfl rfl;apply hpo;(case hz=>refine qA ?_ q5;(apply YX;(case hn=>rfl);(case hl=>(simp;done));(case he=>(congr 1;exact List.take_length));(case hp=>(intro row hrow;rcases List.mem_append.1 hrow with hrow|hrow;(obtain ⟨y,_,rfl⟩:=List.mem_map.1 hrow;rfl);(obtain ⟨y,_,rfl⟩:=List.mem_map.1 (List.mem_of_mem_take (List.mem_of_mem_drop hrow));rfl)))));(case hfl=>rfl);(case hN=>exact nle rfl))|refine jv Tryz.func80 (hgg ..) ?_|refine j1 Tryz.func77 (hpu ..) ?_)|((first|refine qf ?_ ?_|refine qe ?_ ?_|refine xsC ?_ ?_);all_goals (intro hc;have hp:=hc;try simp at hp;try (exfalso;omega)))|refine qX ?_ ?_)
        all_goals try (exfalso;omega)
        all_goals try (exfalso;contradiction)
        refine ⟨t.length - (i + 1),_,by omega,qI (ts:=[(0,qa t),(2,.v (.int .i64 v)),(4,.fp [c.row] 0 0),(12,qa ((jI (t.take (i + 1)) c v).foldl jR K)),(14,.v (.int .i64 ((i + 1:Nat):Int)))]) ?_,i + 1,by omega,rfl,hbs2,rfl⟩;((repeat (first|exact qg|refine qo ?_|refine qY ?_ ?_));all_goals (rw [hOO2];rfl))
  ·obtain rfl:i = t.length:=by omega
   have hmb:yP t c = false:=by
    unfold zX at hsofar
    rw [List.take_length] at hsofar
    simp [yP,hsofar]
   rw [hEE hmb]
   rw [List.take_length]
   rw [← hDD]
   generalize jh t c v = L at *
   have hml:(List.map Ent.row L).length = L.length:=List.length_map ..
   by_cases hL:60 < L.length
   ·rw [if_pos hL]
    (repeat' (first|refine qn ?_|(first|fail)|((first|refine qf ?_ ?_|refine qe ?_ ?_|refine xsC ?_ ?_);all_goals (intro hc;have hp:=hc;try simp at hp;try (exfalso;omega)))|refine qX ?_ ?_))
    (all_goals try (exfalso;omega))
    (all_goals ((exact zO (rs:=[.tmp 6,.tmp 7]))))
   ·rw [if_neg hL]
    (repeat' (first|refine qn ?_|(first|fail)|((first|refine qf ?_ ?_|refine qe ?_ ?_|refine xsC ?_ ?_);all_goals (intro hc;have hp:=hc;try simp at hp;try (exfalso;omega)))|refine qX ?_ ?_))
    (all_goals try (exfalso;omega))
    (all_goals ((exact zO (rs:=[.tmp 6,.tmp 7]))))
end Go.Proofs.YtamejbkifpjhiaaGreatDoor
set_option linter.unusedSimpArgs false
set_option linter.unnecessarySimpa false
set_option linter.unusedVariables false
set_option maxHeartbeats 1000000
namespace Go.Proofs.YtamejbkifpjhiaaGreatDoor
open Go.Ab Go.RowKit
set_option maxRecDepth 10000
attribute [local irreducible] Awp yH jH jw Red ja Go.Ab.Fin qZ Rz vn jr jp ResOk j3 jC yC jA
def qch (v:Int):List Ent → List Chg → Nat → List Ent × Nat × Int
 | t,[],n=>(t,n,0)
 | t,c :: l,n=>if vb t c v = 0 then qch v (jh t c v) l (n + 1) else ([],n,vb t c v)
def qeX (v:Int) (t:List Ent) (l:List Chg):List Ent × Nat × Int :=
 if ¬ qC t = 0 then ([],0,qC t) else if 20 < l.length then ([],0,2) else if vj v = false ∧ 0 < l.length then ([],0,3) else qch v t l 0
def qgv (r:List Ent × Nat × Int):AV := .tup [qa r.1,.v (.int .i64 (r.2.1:Nat)),.v (.int .i64 r.2.2)]
theorem qci {v:Int} {t:List Ent} {l:List Chg} {i:Nat} (h:i < l.length):qch v t (l.drop i) i = if vb t l[i] v = 0 then qch v (jh t l[i] v) (l.drop (i + 1)) (i + 1) else ([],i,vb t l[i] v):=by
 rw [List.drop_eq_getElem_cons h];rfl
theorem qgD (t:List Ent) (l:List Chg) (v:Int) (hb:EBig t) (hcb:CBig l):xH C.P 46 [qa t,wE l,.v (.int .i64 v)] (qgv (qeX v t l)):=by
 have h1:=Yf t hb
 have h2:=Yh v
 have hll:=hcb.len
 have hml:(l.map Chg.row).length = l.length:=List.length_map ..
 have hE:qeX v t l = if ¬ qC t = 0 then ([],0,qC t) else if 20 < l.length then ([],0,2) else if vj v = false ∧ 0 < l.length then ([],0,3) else qch v t l 0:=rfl
 by_cases hte:qC t = 0
 ·rw [if_neg (by simp [hte])] at hE
  have hR:=RightE.of hte
  rw [hte] at h1
  have h60:=(QR hte).1
  have h3:=Yg t (by omega)
  by_cases h20:20 < l.length
  ·rw [if_pos h20] at hE
   rw [hE]
   refine qc Tryz.func46 rfl _ Tryz.ntmps46 (Nat.le_of_ble_eq_true rfl) _ Tryz.results46 0 rfl rfl ?_
   repeat' (first|refine qn ?_|(first|(refine jL ?_)|refine j1 Tryz.func60 (h1 ..) ?_)|((first|refine qf ?_ ?_|refine qe ?_ ?_|refine xsC ?_ ?_);all_goals (intro hc;have hp:=hc;try simp at hp;try (exfalso;omega)))|refine qX ?_ ?_)
   all_goals try (exfalso;omega)
   all_goals try (exfalso;first|omega|(simp_all;done)|(simp_all;omega))
   all_goals ((exact zO (rs:=[.tmp 6,.tmp 7,.tmp 8])))
  ·rw [if_neg h20] at hE
   by_cases hv:vj v = false ∧ 0 < l.length
   ·rw [if_pos hv] at hE
    rw [hE]
    rw [hv.1] at h2
    refine qc Tryz.func46 rfl _ Tryz.ntmps46 (Nat.le_of_ble_eq_true rfl) _ Tryz.results46 0 rfl rfl ?_
    repeat' (first|refine qn ?_|(first|(refine jL ?_)|refine j1 Tryz.func60 (h1 ..) ?_|refine jv Tryz.func61 (h2 ..) ?_)|((first|refine qf ?_ ?_|refine qe ?_ ?_|refine xsC ?_ ?_);all_goals (intro hc;have hp:=hc;try simp at hp;try (exfalso;omega)))|refine qX ?_ ?_)
    all_goals try (exfalso;omega)
    all_goals try (exfalso;first|omega|(simp_all;done)|(simp_all;omega))
    all_goals ((exact zO (rs:=[.tmp 6,.tmp 7,.tmp 8])))
   ·rw [if_neg hv] at hE
    generalize hV:vj v = V at *
    have hv2:V = false → l.length = 0:=fun h=>by
     rcases Nat.eq_zero_or_pos l.length with h4|h4
     ·exact h4
     ·exact absurd ⟨h,h4⟩ hv
    clear hV
    generalize hA:qeX v t l = A at *
    clear hA
    refine qc Tryz.func46 rfl _ Tryz.ntmps46 (Nat.le_of_ble_eq_true rfl) _ Tryz.results46 0 rfl rfl ?_
    repeat' (first|refine qn ?_|(first|(refine jL ?_)|refine j1 Tryz.func60 (h1 ..) ?_|refine jv Tryz.func61 (h2 ..) ?_|(apply jo Tryz.func41 rfl rfl;intro hIsFn;refine kv ([]) hIsFn (h3 ..) ?_))|((first|refine qf ?_ ?_|refine qe ?_ ?_|refine xsC ?_ ?_);all_goals (intro hc;have hp:=hc;try simp at hp;try (exfalso;omega)))|refine qX ?_ ?_)
    all_goals try (exfalso;omega)
    all_goals try (exfalso;first|omega|(simp_all;done)|(simp_all;omega))
    all_goals (
     refine Awp.red (QK 0 rfl (by intro row hrow;obtain ⟨x,_,rfl⟩:=List.mem_map.1 hrow;rfl)) ?_
     refine Awp.red (qbb 0 0 rfl rfl (by simp)) ?_
     (refine Awp.red (qI (ts:=[(0,qa t),(1,wE l),(2,.v (.int .i64 v)),(33,wE l),(34,.v (.int .i64 l.length)),(35,.v (.int .i64 ((0:Nat):Int)))]) ?_) ?_;((repeat (first|exact qg|refine qo ?_|refine qY ?_ ?_))))
     all_goals try (rw [List.length_map];done)
     all_goals try (rw [List.drop_zero,List.take_of_length_le (by simp)];rfl)
     refine qV (fun n σ => ∃ (i:Nat) (u:List Ent),i ≤ l.length ∧ n = l.length - i ∧ (A = qch v u (l.drop i) i ∧ RightE u) ∧ σ = ⟨[(0,qa u),(1,wE l),(2,.v (.int .i64 v)),(33,wE l),(34,.v (.int .i64 l.length)),(35,.v (.int .i64 (i:Int)))],[],C.nh⟩) l.length ⟨0,t,Nat.zero_le _,rfl,⟨by rw [hE];rfl,hR⟩,rfl⟩ ?_
     rintro n σ ⟨i,u,hi,rfl,⟨hA,hRu⟩,rfl⟩
     by_cases hlt:i < l.length
     ·have hr:=jB (f:=Chg.row) hlt
      have hraw:=qdu u l[i] v hRu (hcb.each _ (List.getElem_mem _))
      rw [qci hlt] at hA
      have hL:QJ u l[i] v = if vb u l[i] v = 0 then jh u l[i] v else []:=rfl
      by_cases hz:vb u l[i] v = 0
      ·have hRn:=hRu.done hz
       rw [if_pos hz] at hA hL
       rw [hL,hz] at hraw
       generalize jh u l[i] v = U at *
       clear hE hL hz
       repeat' (first|refine qn ?_|(first|refine j1 Tryz.func62 (hraw ..) ?_)|((first|refine qf ?_ ?_|refine qe ?_ ?_|refine xsC ?_ ?_);all_goals (intro hc;have hp:=hc;try simp at hp;try (exfalso;omega)))|refine qX ?_ ?_)
       all_goals try (exfalso;omega)
       refine ⟨l.length - (i + 1),_,by omega,qI (ts:=[(0,qa U),(1,wE l),(2,.v (.int .i64 v)),(33,wE l),(34,.v (.int .i64 l.length)),(35,.v (.int .i64 ((i + 1:Nat):Int)))]) ?_,i + 1,U,by omega,rfl,⟨hA,hRn⟩,rfl⟩
       (repeat (first|exact qg|refine qo ?_|refine qY ?_ ?_))
      ·rw [if_neg hz] at hA hL
       rw [hL] at hraw
       rw [hA]
       generalize vb u l[i] v = E at *
       clear hE hL hA
       repeat' (first|refine qn ?_|(first|refine j1 Tryz.func62 (hraw ..) ?_)|((first|refine qf ?_ ?_|refine qe ?_ ?_|refine xsC ?_ ?_);all_goals (intro hc;have hp:=hc;try simp at hp;try (exfalso;omega)))|refine qX ?_ ?_)
       all_goals try (exfalso;omega)
       (exact zO (rs:=[.tmp 6,.tmp 7,.tmp 8]))
     obtain rfl:i = l.length:=by omega
     rw [List.drop_length] at hA
     have hA:A = (u,l.length,0):=hA
     rw [hA]
     clear hE hA
     repeat' (first|refine qn ?_|fail|((first|refine qf ?_ ?_|refine qe ?_ ?_|refine xsC ?_ ?_);all_goals (intro hc;have hp:=hc;try simp at hp;try (exfalso;omega)))|refine qX ?_ ?_)
     all_goals try (exfalso;omega)
     (refine xa (rs:=[.tmp 6,.tmp 7,.tmp 8]) ?_;(repeat' (first|exact q5|apply qA|exact q4 rfl|exact yE|exact zz|apply jX|apply y5|apply jO|apply y3|apply yz|apply y4|refine zr ?_|apply x8));all_goals (rw [List.length_map])))
 ·rw [if_pos hte] at hE
  rw [hE]
  generalize qC t = E at *
  refine qc Tryz.func46 rfl _ Tryz.ntmps46 (Nat.le_of_ble_eq_true rfl) _ Tryz.results46 0 rfl rfl ?_
  repeat' (first|refine qn ?_|(first|(refine jL ?_)|refine j1 Tryz.func60 (h1 ..) ?_)|((first|refine qf ?_ ?_|refine qe ?_ ?_|refine xsC ?_ ?_);all_goals (intro hc;have hp:=hc;try simp at hp;try (exfalso;omega)))|refine qX ?_ ?_)
  all_goals try (exfalso;omega)
  all_goals ((exact zO (rs:=[.tmp 6,.tmp 7,.tmp 8])))
end Go.Proofs.YtamejbkifpjhiaaGreatDoor
set_option linter.unusedSimpArgs false
set_option linter.unnecessarySimpa false
set_option linter.unusedVariables false
set_option maxHeartbeats 1000000
namespace Go.Proofs.YtamejbkifpjhiaaGreatDoor
open Go.Ab Go.RowKit
set_option maxRecDepth 10000
attribute [local irreducible] Awp yH jH jw Red ja Go.Ab.Fin qZ Rz vn jr jp ResOk j3 jC yC jA
theorem qfA (t:List Ent) (c:Chg) (v:Int):vb t c v = if ¬ yc c = 0 then yc c else if ¬ vL t c = 0 then vL t c else if ¬ yb t c = 0 then yb t c else j5 t c v:=by
 unfold vb
 rw [qfp]
 by_cases h0:yc c = 0<;>by_cases h1:vL t c = 0<;>by_cases h2:yb t c = 0<;>simp [h0,h1,h2]
theorem qfG {t:List Ent} {c:Chg} (h:¬ yb t c = 0):yb t c = 8:=by
 unfold yb at *
 split at h
 ·rename_i h1;rw [if_pos h1]
 ·exact absurd rfl h
theorem qar (t:List Ent) (c:Chg) (v:Int) (h60:t.length ≤ 60) (hs:qU jf t = true) (hgt : ∀ x,x ∈ t → qH x.path = 0) (hcs:c.small):xH C.P 32 [qa t,.agg c.row,.v (.int .i64 v)] (.tup [qa (QJ t c v),.v (.int .i64 (vb t c v))]):=by
 have hR:=qfA t c v
 by_cases h0:yc c = 0
 ·rw [if_neg (by simp [h0])] at hR
  by_cases h1:vL t c = 0
  ·rw [if_neg (by simp [h1])] at hR
   by_cases h2:yb t c = 0
   ·rw [if_neg (by simp [h2])] at hR
    obtain ⟨k1,k2, -⟩:=yU h0
    have hL:QJ t c v = if j5 t c v = 0 then jh t c v else []:=by unfold QJ;rw [hR]
    rw [hL,hR]
    by_cases e1:c.kind = 1
    ·exact qgF t c v h60 hs hgt hcs e1 h0 h1 h2
    ·by_cases e2:c.kind = 2
     ·exact qgG t c v h60 hs hgt hcs e2 h0 h1 h2
     ·by_cases e3:c.kind = 3
      ·exact qgH t c v h60 hs hgt hcs e3 h0 h1 h2
      ·exact qgI t c v h60 hs hgt hcs (by omega) h0 h1 h2
   ·rw [if_pos h2] at hR
    rw [Jj (by rw [hR];exact h2),hR,qfG h2]
    exact qgK t c v h60 hs hgt hcs h0 h1 h2
  ·rw [if_pos h1] at hR
   rw [Jj (by rw [hR];exact h1),hR]
   exact qgJ t c v h60 hs hcs h0 h1
 ·rw [if_pos h0] at hR
  rw [Jj (by rw [hR];exact h0),hR]
  exact qgE t c v h60 hcs h0
theorem Wb:xH C.P 24 [] (.v (.bool true)):=by
 have h1:xH C.P 27 [.sl false [],.agg [.v (.int .i64 1),.v (str [97]),.v (str []),.v (str []),.v (.int .i64 0)],.v (.int .i64 5)] (.tup [qa [⟨[97],true,[],5⟩],.v (.int .i64 0)]):=by
  have h:=qeJ [] ⟨1,[97],[],[],0⟩ 5 ⟨by simp,by simp⟩ ⟨by simp,by simp,by simp⟩
  rw [show vf [] ⟨1,[97],[],[],0⟩ 5 = [⟨[97],true,[],5⟩] from by decide +kernel,show yJ [] ⟨1,[97],[],[],0⟩ 5 = 0 from by decide +kernel] at h
  exact h
 have h2:xH C.P 46 [qa [⟨[97],true,[],5⟩],.sl false [[.v (.int .i64 2),.v (str [97,47,98]),.v (str []),.v (str [120]),.v (.int .i64 (-1))]],.v (.int .i64 6)] (.tup [qa [⟨[97],true,[],5⟩,⟨[97,47,98],false,[120],6⟩],.v (.int .i64 1),.v (.int .i64 0)]):=by
  have h:=qgD [⟨[97],true,[],5⟩] [⟨2,[97,47,98],[],[120], -1⟩] 6 ⟨by simp [Ent.small],by simp⟩ ⟨by simp [Chg.small],by simp⟩
  rw [show qeX 6 [⟨[97],true,[],5⟩] [⟨2,[97,47,98],[],[120], -1⟩] = ([⟨[97],true,[],5⟩,⟨[97,47,98],false,[120],6⟩],1,0) from by decide +kernel] at h
  exact h
 refine qc Tryz.func24 rfl _ Tryz.ntmps24 (Nat.le_of_ble_eq_true rfl) _ Tryz.results24 0 rfl rfl ?_
 repeat' (first|refine qn ?_|(first|(refine jL ?_)|refine j1 Tryz.func27 (h1 ..) ?_|refine j1 Tryz.func46 (h2 ..) ?_)|((first|refine qf ?_ ?_|refine qe ?_ ?_|refine xsC ?_ ?_);all_goals (intro hc;have hp:=hc;try simp at hp;try (exfalso;omega)))|refine qX ?_ ?_)
 all_goals try (exfalso;simp_all;done)
 all_goals (apply j6;rfl;simp;done)
end Go.Proofs.YtamejbkifpjhiaaGreatDoor
set_option linter.unusedSimpArgs false
set_option linter.unnecessarySimpa false
set_option linter.unusedVariables false
set_option maxHeartbeats 1000000
namespace Go.Proofs.YtamejbkifpjhiaaGreatDoor
open Go.Ab Go.RowKit
set_option maxRecDepth 10000
attribute [local irreducible] Awp yH jH jw Red ja Go.Ab.Fin qZ Rz vn jr jp ResOk j3 jC yC jA
end Go.Proofs.YtamejbkifpjhiaaGreatDoor
set_option linter.unusedSimpArgs false
set_option linter.unnecessarySimpa false
set_option linter.unusedVariables false
set_option maxHeartbeats 1000000
namespace Go.Proofs.YtamejbkifpjhiaaGreatDoor
open Go.Ab Go.RowKit
set_option maxRecDepth 10000
attribute [local irreducible] Awp yH jH jw Red ja Go.Ab.Fin qZ Rz vn jr jp ResOk j3 jC yC jA
end Go.Proofs.YtamejbkifpjhiaaGreatDoor
set_option linter.unusedSimpArgs false
set_option linter.unnecessarySimpa false
set_option linter.unusedVariables false
set_option maxHeartbeats 1000000
namespace Go.Proofs.YtamejbkifpjhiaaGreatDoor
open Go.Ab Go.RowKit
set_option maxRecDepth 10000
attribute [local irreducible] Awp yH jH jw Red ja Go.Ab.Fin qZ Rz vn jr jp ResOk j3 jC yC jA
end Go.Proofs.YtamejbkifpjhiaaGreatDoor
