import Derived.Test.YtnhpclmbhbblbaaGreatDoorMz12
import Derived.Test.YtnhpclmbhbblbaaGreatDoorMz11
set_option linter.unusedSimpArgs false
set_option linter.unnecessarySimpa false
set_option linter.unusedVariables false
set_option maxHeartbeats 1000000
namespace Go.Proofs.YtnhpclmbhbblbaaGreatDoor
open Go.Ab Go.RowKit
set_option maxRecDepth 10000
attribute [local irreducible] Awp yl jE jl Red qX Go.Ab.Fin qW Rz vl jj ji ResOk jV jz yb jv
theorem qfb:qcm C.P 80 = some [0,1,1,1,0]:=by kernel_rfl
theorem qcX (a b:Chg):Qm [0,1,1,1,0] a.row b.row = some (decide (a = b)):=by
 obtain ⟨a1,a2,a3,a4,a5⟩:=a
 obtain ⟨b1,b2,b3,b4,b5⟩:=b
 simp only [Chg.row,Qm,Qw,str,Chg.mk.injEq,if_true,Option.some.injEq]
 by_cases h1:a1 = b1<;>by_cases h2:a2 = b2<;>by_cases h3:a3 = b3<;>by_cases h4:a4 = b4<;>by_cases h5:a5 = b5<;>simp [h1,h2,h3,h4,h5]
theorem Zt (a b:List Chg) (ha:a.length ≤ 1000000000) (hb:b.length ≤ 1000000000):yO C.P 82 [vM a,vM b] (.v (.bool (decide (a = b)))):=by
 have hma:(a.map Chg.row).length = a.length:=List.length_map ..
 have hmb:(b.map Chg.row).length = b.length:=List.length_map ..
 refine qa Tryz.func82 rfl _ Tryz.ntmps82 (Nat.le_of_ble_eq_true rfl) _ Tryz.results82 0 rfl rfl ?_
 repeat' (first|refine qm ?_|fail|((first|refine xsC ?_ ?_);all_goals (intro hc;have hp:=hc;try simp at hp;try (exfalso;omega)))|refine qO ?_ ?_)
 ·apply jB
  rfl
  have hne:¬ a = b:=fun e=>by subst e;simp at *
  simp [hne]
 have hab:a.length = b.length:=by simp at *;omega
 (refine Awp.red (qv (ts:=[(0,vM a),(1,vM b),(5,.v (.int .i64 ((0:Nat):Int)))]) ?_) ?_;((repeat (first|exact qg|refine qn ?_|refine qS ?_ ?_))))
 refine qP (fun n σ => ∃ i:Nat,i ≤ a.length ∧ n = a.length - i ∧ (a.take i = b.take i) ∧ σ = ⟨[(0,vM a),(1,vM b),(5,.v (.int .i64 (i:Int)))],[],C.nh⟩) a.length ⟨0,Nat.zero_le _,rfl,rfl,rfl⟩ ?_
 rintro n σ ⟨i,hi,rfl,hsofar,rfl⟩
 by_cases hlt:i < a.length
 ·have hlt2:i < b.length:=by omega
  have hr:=js (f:=Chg.row) hlt
  have hr':=js (f:=Chg.row) hlt2
  have hnx:=Kl hlt hlt2 hsofar
  repeat' (first|refine qm ?_|(first|(apply qf;apply xJ;rfl;rfl;exact qfb;exact qcX _ _;(first|exact .inl ⟨rfl,rfl⟩|exact .inr ⟨rfl,rfl⟩);exact nle rfl))|((first|refine xsC ?_ ?_);all_goals (intro hc;have hp:=hc;try simp at hp;try (exfalso;omega)))|refine qO ?_ ?_)
  all_goals try (exfalso;omega)
  ·apply jB
   rfl
   have hne:¬ a = b:=fun e=>by subst e;simp at *
   simp [hne]
  ·refine ⟨a.length - (i + 1),_,by omega,qv (ts:=[(0,vM a),(1,vM b),(5,.v (.int .i64 ((i + 1:Nat):Int)))]) ?_,i + 1,by omega,rfl,(hnx (by simp_all)),rfl⟩;((repeat (first|exact qg|refine qn ?_|refine qS ?_ ?_)))
 obtain rfl:i = a.length:=by omega
 have he:a = b:=by rw [List.take_length] at hsofar;rw [hsofar,hab,List.take_length]
 repeat' (first|refine qm ?_|fail|((first|refine xsC ?_ ?_);all_goals (intro hc;have hp:=hc;try simp at hp;try (exfalso;omega)))|refine qO ?_ ?_)
 all_goals try (exfalso;omega)
 apply jB
 rfl
 simp [he]
end Go.Proofs.YtnhpclmbhbblbaaGreatDoor
set_option linter.unusedSimpArgs false
set_option linter.unnecessarySimpa false
set_option linter.unusedVariables false
set_option maxHeartbeats 1000000
namespace Go.Proofs.YtnhpclmbhbblbaaGreatDoor
open Go.Ab Go.RowKit
set_option maxRecDepth 10000
attribute [local irreducible] Awp yl jE jl Red qX Go.Ab.Fin qW Rz vl jj ji ResOk jV jz yb jv
def vJ (t:List Ent) (c:Chg):Int :=
 if ¬ yw t (qG (jQ c)) = 0 then yw t (qG (jQ c))
 else if ¬ zD t c = 0 then zD t c else kH t c
theorem qfw (t:List Ent) (c:Chg):zN t c = if vJ t c = 0 then yo t c else vJ t c:=by
 unfold zN vJ
 split<;>(try split)<;>(try split)<;>simp_all
theorem qgR (t:List Ent) (c:Chg) (v:Int) (h60:t.length ≤ 60) (hcs:c.small) (h0:¬ yD c = 0):yO C.P 101 [qb t,.agg c.row,.v (.int .i64 v)] (.tup [qb [],.v (.int .i64 (yD c))]):=by
 have hform:=vq c hcs
 generalize yD c = E at *
 refine qa Tryz.func101 rfl _ Tryz.ntmps101 (Nat.le_of_ble_eq_true rfl) _ Tryz.results101 0 rfl rfl ?_
 repeat' (first|refine qm ?_|(first|refine jc Tryz.func125 (hform ..) ?_)|((first|refine qd ?_ ?_|refine qc ?_ ?_|refine xsC ?_ ?_);all_goals (intro hc;have hp:=hc;try simp at hp;try (exfalso;omega)))|refine qO ?_ ?_)
 all_goals try (exfalso;omega)
 (exact xE (rs:=[.tmp 6,.tmp 7]))
theorem qgW (t:List Ent) (c:Chg) (v:Int) (h60:t.length ≤ 60) (hs:q4 jr t = true) (hcs:c.small) (h0:yD c = 0) (h1:¬ vJ t c = 0):yO C.P 101 [qb t,.agg c.row,.v (.int .i64 v)] (.tup [qb [],.v (.int .i64 (vJ t c))]):=by
 obtain ⟨l1,l2,l3⟩:=hcs
 have hform:=vq c ⟨l1,l2,l3⟩
 have hpo1:=yC c.path (by omega)
 have hpo2:=yC c.to (by omega)
 have hfo:=vR t (qG (jQ c)) (by omega)
 have hea:=j8 t c.path (by omega)
 have heb:=j8 t c.to (by omega)
 have hinn:=vy c.to c.path (by omega) (by omega)
 have hkk:=yS h0
 rw [h0] at hform
 have hE:vJ t c = if ¬ yw t (qG (jQ c)) = 0 then yw t (qG (jQ c)) else if ¬ zD t c = 0 then zD t c else kH t c:=rfl
 have hI:zD t c = if c.kind = 1 then (if jW t c.path = true then 6 else 0) else if c.kind = 2 then (if vn t c.path = true then 4 else 0) else (if jW t c.path = true then 0 else 5):=rfl
 have hM:kH t c = if c.kind = 3 then (if inB c.to c.path = true then 3 else if jW t c.to = true then 6 else 0) else 0:=rfl
 have hg3:c.kind = 3 → jQ c = c.to:=fun h=>by simp [jQ,h]
 have hg0:¬ c.kind = 3 → jQ c = c.path:=fun h=>by simp [jQ,h]
 have hrow:jW t c.path = true → ∃ hk:y0 t c.path < t.length,vn t c.path = t[y0 t c.path].fold ∧ xa (atP c.path) t = y0 t c.path:=fun h=>by
  obtain ⟨hk,_,hfi,hix⟩:=zu hs h
  exact ⟨hk,by unfold vn;rw [hfi],hix⟩
 have hnorow:jW t c.path = false → vn t c.path = false ∧ xa (atP c.path) t = -1:=fun h=>by
  unfold vn;rw [(xK h).1];exact ⟨rfl,(xK h).2⟩
 have hto:(jW t c.to = true ∧ 0 ≤ xa (atP c.to) t) ∨ (jW t c.to = false ∧ xa (atP c.to) t = -1):=by
  cases h:jW t c.to with
  | true=>obtain ⟨hk,_,hfi,hix⟩:=zu hs h;exact .inl ⟨rfl,by rw [hix];omega⟩
  | false=>exact .inr ⟨rfl,(xK h).2⟩
 obtain ⟨kk1,kk2, -⟩:=hkk
 generalize vJ t c = E at *
 generalize zD t c = I at *
 generalize kH t c = Mv at *
 generalize inB c.to c.path = IB at *
 generalize jW t c.to = HT at *
 generalize xa (atP c.to) t = IT at *
 generalize yw t (qG (jQ c)) = FE at *
 by_cases hFE:FE = 0
 ·rw [hFE] at hfo
  rw [if_neg (by simp [hFE])] at hE
  clear hFE
  cases hh:jW t c.path with
  | true =>
    obtain ⟨hk,hfa,hix⟩:=hrow hh
    rw [hix] at hea
    rw [hh,hfa] at hI
    have hr:=js (f:=Ent.row) hk
    clear hrow hnorow hix
    generalize y0 t c.path = k at *
    by_cases k3:c.kind = 3
    ·rw [hg3 k3] at hfo
     clear hg3 hg0
     refine qa Tryz.func101 rfl _ Tryz.ntmps101 (Nat.le_of_ble_eq_true rfl) _ Tryz.results101 0 rfl rfl ?_
     repeat' (first|refine qm ?_|(first|refine jc Tryz.func125 (hform ..) ?_|refine jc Tryz.func67 (hpo1 ..) ?_|refine jc Tryz.func67 (hpo2 ..) ?_|refine xsQ Tryz.func66 (hfo ..) ?_|refine xsQ Tryz.func34 (hea ..) ?_|refine xsQ Tryz.func34 (heb ..) ?_|refine jc Tryz.func126 (hinn ..) ?_)|((first|refine qd ?_ ?_|refine qc ?_ ?_|refine xsC ?_ ?_);all_goals (intro hc;have hp:=hc;try simp at hp;try (exfalso;omega)))|refine qO ?_ ?_)
     all_goals try (exfalso;omega)
     all_goals first
      | ((refine yP (rs:=[.tmp 6,.tmp 7]) ?_;(repeat' (first|exact q5|apply qH|exact q8 rfl|exact yn|exact zA|apply jR|apply yL|apply jJ|apply yJ|apply ya|apply yK|refine zi ?_|apply va));all_goals (clear hea heb hfo hform hinn hpo1 hpo2;simp_all)))
      | (exfalso;clear hea heb hfo hform hinn hpo1 hpo2;simp_all;done)
    ·rw [hg0 k3] at hfo
     clear hg3 hg0
     refine qa Tryz.func101 rfl _ Tryz.ntmps101 (Nat.le_of_ble_eq_true rfl) _ Tryz.results101 0 rfl rfl ?_
     repeat' (first|refine qm ?_|(first|refine jc Tryz.func125 (hform ..) ?_|refine jc Tryz.func67 (hpo1 ..) ?_|refine jc Tryz.func67 (hpo2 ..) ?_|refine xsQ Tryz.func66 (hfo ..) ?_|refine xsQ Tryz.func34 (hea ..) ?_|refine xsQ Tryz.func34 (heb ..) ?_|refine jc Tryz.func126 (hinn ..) ?_)|((first|refine qd ?_ ?_|refine qc ?_ ?_|refine xsC ?_ ?_);all_goals (intro hc;have hp:=hc;try simp at hp;try (exfalso;omega)))|refine qO ?_ ?_)
     all_goals try (exfalso;omega)
     all_goals first
      | ((refine yP (rs:=[.tmp 6,.tmp 7]) ?_;(repeat' (first|exact q5|apply qH|exact q8 rfl|exact yn|exact zA|apply jR|apply yL|apply jJ|apply yJ|apply ya|apply yK|refine zi ?_|apply va));all_goals (clear hea heb hfo hform hinn hpo1 hpo2;simp_all)))
      | (exfalso;clear hea heb hfo hform hinn hpo1 hpo2;simp_all;done)
  | false =>
    obtain ⟨hfa,hix⟩:=hnorow hh
    rw [hix] at hea
    rw [hh,hfa] at hI
    clear hrow hnorow hix
    by_cases k3:c.kind = 3
    ·rw [hg3 k3] at hfo
     clear hg3 hg0
     refine qa Tryz.func101 rfl _ Tryz.ntmps101 (Nat.le_of_ble_eq_true rfl) _ Tryz.results101 0 rfl rfl ?_
     repeat' (first|refine qm ?_|(first|refine jc Tryz.func125 (hform ..) ?_|refine jc Tryz.func67 (hpo1 ..) ?_|refine jc Tryz.func67 (hpo2 ..) ?_|refine xsQ Tryz.func66 (hfo ..) ?_|refine xsQ Tryz.func34 (hea ..) ?_|refine xsQ Tryz.func34 (heb ..) ?_|refine jc Tryz.func126 (hinn ..) ?_)|((first|refine qd ?_ ?_|refine qc ?_ ?_|refine xsC ?_ ?_);all_goals (intro hc;have hp:=hc;try simp at hp;try (exfalso;omega)))|refine qO ?_ ?_)
     all_goals try (exfalso;omega)
     all_goals first
      | ((refine yP (rs:=[.tmp 6,.tmp 7]) ?_;(repeat' (first|exact q5|apply qH|exact q8 rfl|exact yn|exact zA|apply jR|apply yL|apply jJ|apply yJ|apply ya|apply yK|refine zi ?_|apply va));all_goals (clear hea heb hfo hform hinn hpo1 hpo2;simp_all)))
      | (exfalso;clear hea heb hfo hform hinn hpo1 hpo2;simp_all;done)
    ·rw [hg0 k3] at hfo
     clear hg3 hg0
     refine qa Tryz.func101 rfl _ Tryz.ntmps101 (Nat.le_of_ble_eq_true rfl) _ Tryz.results101 0 rfl rfl ?_
     repeat' (first|refine qm ?_|(first|refine jc Tryz.func125 (hform ..) ?_|refine jc Tryz.func67 (hpo1 ..) ?_|refine jc Tryz.func67 (hpo2 ..) ?_|refine xsQ Tryz.func66 (hfo ..) ?_|refine xsQ Tryz.func34 (hea ..) ?_|refine xsQ Tryz.func34 (heb ..) ?_|refine jc Tryz.func126 (hinn ..) ?_)|((first|refine qd ?_ ?_|refine qc ?_ ?_|refine xsC ?_ ?_);all_goals (intro hc;have hp:=hc;try simp at hp;try (exfalso;omega)))|refine qO ?_ ?_)
     all_goals try (exfalso;omega)
     all_goals first
      | ((refine yP (rs:=[.tmp 6,.tmp 7]) ?_;(repeat' (first|exact q5|apply qH|exact q8 rfl|exact yn|exact zA|apply jR|apply yL|apply jJ|apply yJ|apply ya|apply yK|refine zi ?_|apply va));all_goals (clear hea heb hfo hform hinn hpo1 hpo2;simp_all)))
      | (exfalso;clear hea heb hfo hform hinn hpo1 hpo2;simp_all;done)
 ·rw [if_pos hFE] at hE
  subst hE
  clear hI hM hrow hnorow hto
  by_cases k3:c.kind = 3
  ·rw [hg3 k3] at hfo
   clear hg3 hg0
   refine qa Tryz.func101 rfl _ Tryz.ntmps101 (Nat.le_of_ble_eq_true rfl) _ Tryz.results101 0 rfl rfl ?_
   repeat' (first|refine qm ?_|(first|refine jc Tryz.func125 (hform ..) ?_|refine jc Tryz.func67 (hpo1 ..) ?_|refine jc Tryz.func67 (hpo2 ..) ?_|refine xsQ Tryz.func66 (hfo ..) ?_|refine xsQ Tryz.func34 (hea ..) ?_|refine xsQ Tryz.func34 (heb ..) ?_|refine jc Tryz.func126 (hinn ..) ?_)|((first|refine qd ?_ ?_|refine qc ?_ ?_|refine xsC ?_ ?_);all_goals (intro hc;have hp:=hc;try simp at hp;try (exfalso;omega)))|refine qO ?_ ?_)
   all_goals try (exfalso;omega)
   all_goals ((exact xE (rs:=[.tmp 6,.tmp 7])))
  ·rw [hg0 k3] at hfo
   clear hg3 hg0
   refine qa Tryz.func101 rfl _ Tryz.ntmps101 (Nat.le_of_ble_eq_true rfl) _ Tryz.results101 0 rfl rfl ?_
   repeat' (first|refine qm ?_|(first|refine jc Tryz.func125 (hform ..) ?_|refine jc Tryz.func67 (hpo1 ..) ?_|refine jc Tryz.func67 (hpo2 ..) ?_|refine xsQ Tryz.func66 (hfo ..) ?_|refine xsQ Tryz.func34 (hea ..) ?_|refine xsQ Tryz.func34 (heb ..) ?_|refine jc Tryz.func126 (hinn ..) ?_)|((first|refine qd ?_ ?_|refine qc ?_ ?_|refine xsC ?_ ?_);all_goals (intro hc;have hp:=hc;try simp at hp;try (exfalso;omega)))|refine qO ?_ ?_)
   all_goals try (exfalso;omega)
   all_goals ((exact xE (rs:=[.tmp 6,.tmp 7])))
end Go.Proofs.YtnhpclmbhbblbaaGreatDoor
set_option linter.unusedSimpArgs false
set_option linter.unnecessarySimpa false
set_option linter.unusedVariables false
set_option maxHeartbeats 1000000
namespace Go.Proofs.YtnhpclmbhbblbaaGreatDoor
open Go.Ab Go.RowKit
set_option maxRecDepth 10000
attribute [local irreducible] Awp yl jE jl Red qX Go.Ab.Fin qW Rz vl jj ji ResOk jV jz yb jv
theorem Qj {t:List Ent} {c:Chg} (h:vJ t c = 0):yw t (qG (jQ c)) = 0 ∧ zD t c = 0 ∧ kH t c = 0:=by
 unfold vJ at h
 split at h
 ·contradiction
 ·split at h
  ·contradiction
  ·exact ⟨by omega,by omega,h⟩
theorem Qb {c:Chg} (h:yD c = 0) : -1 ≤ c.base:=by
 have:=(yS h).2.2.2.2
 unfold kt at this
 split at this
 ·exact absurd this (by decide)
 ·split at this
  ·exact absurd this (by decide)
  ·split at this
   ·exact absurd this (by decide)
   ·omega
theorem qgS (t:List Ent) (c:Chg) (v:Int) (h60:t.length ≤ 60) (hs:q4 jr t = true) (hgt : ∀ x,x ∈ t → qy x.path = 0) (hcs:c.small) (hk:c.kind = 1) (h0:yD c = 0) (h1:vJ t c = 0) (h2:yo t c = 0):yO C.P 101 [qb t,.agg c.row,.v (.int .i64 v)] (.tup [qb (if ym t c v = 0 then jy t c v else []),.v (.int .i64 (ym t c v))]):=by
 obtain ⟨l1,l2,l3⟩:=hcs
 have hform:=vq c ⟨l1,l2,l3⟩
 have hpo1:=yC c.path (by omega)
 have hpo2:=yC c.to (by omega)
 have hfo:=vR t (qG (jQ c)) (by omega)
 have hea:=j8 t c.path (by omega)
 have heb:=j8 t c.to (by omega)
 have hinn:=vy c.to c.path (by omega) (by omega)
 have hkk:=yS h0
 have hbase : -1 ≤ c.base:=Qb h0
 obtain ⟨hz1,hz2,hz3⟩:=Qj h1
 have hst : ∀ x,x ∈ t → ¬ c.base = -1 → (decide (c.base < x.ver) && inB x.path c.path) = false:=fun x hx hb=>by
  unfold yo at h2
  by_cases h3:t.any (xW c) = true
  ·rw [if_pos ⟨hb,h3⟩] at h2;exact absurd h2 (by decide)
  ·have h4:t.any (xW c) = false:=by simpa using h3
   rw [List.any_eq_false] at h4
   have h5:=h4 x hx
   simpa [xW] using h5
 clear h2
 have hx:jW t c.path = false:=by
  unfold zD at hz2
  rw [if_pos hk] at hz2
  cases h:jW t c.path with
  | true=>simp [h] at hz2
  | false=>rfl
 rw [(xK hx).2] at hea
 have hg0:jQ c = c.path:=by simp [jQ,hk]
 rw [hz1,hg0] at hfo
 rw [h0] at hform
 have hput:yO C.P 31 [qb t,.agg [.v (str c.path),.v (.bool true),.v (str []),.v (.int .i64 v)]] (qb (jy t c v)):=by
  have h:=wM t ⟨c.path,true,[],v⟩ (by omega)
  rw [Qk hs] at h
  have hD:jy t c v = jN t ⟨c.path,true,[],v⟩:=by simp [jy,hk]
  rw [hD];exact h
 have hE:ym t c v = if 60 < (jy t c v).length then 2 else 0:=by simp [ym,xe,hk]
 rw [hE]
 have hlen:=Jv t c v
 generalize jy t c v = L at *
 by_cases hL:60 < L.length
 ·rw [if_pos hL]
  refine qa Tryz.func101 rfl _ Tryz.ntmps101 (Nat.le_of_ble_eq_true rfl) _ Tryz.results101 0 rfl rfl ?_
  repeat' (first|refine qm ?_|(first|refine jc Tryz.func125 (hform ..) ?_|refine jc Tryz.func67 (hpo1 ..) ?_|refine jc Tryz.func67 (hpo2 ..) ?_|refine xsQ Tryz.func66 (hfo ..) ?_|refine xsQ Tryz.func34 (hea ..) ?_|refine xsQ Tryz.func34 (heb ..) ?_|refine jc Tryz.func126 (hinn ..) ?_)|((first|refine qd ?_ ?_|refine qc ?_ ?_|refine xsC ?_ ?_);all_goals (intro hc;have hp:=hc;try simp at hp;try (exfalso;omega)))|refine qO ?_ ?_)
  all_goals try (exfalso;omega)
  refine xsZ 4 0 ?_
  (refine Awp.red (qv (ts:=[(0,qb t),(2,.v (.int .i64 v)),(4,.fp [c.row] 0 0),(11,.v (.int .i64 ((0:Nat):Int)))]) ?_) ?_;((repeat (first|exact qg|refine qn ?_|refine qS ?_ ?_))))
  refine qP (fun n σ => ∃ i:Nat,i ≤ t.length ∧ n = t.length - i ∧ (True) ∧ σ = ⟨[(0,qb t),(2,.v (.int .i64 v)),(4,.fp [c.row] 0 0),(11,.v (.int .i64 (i:Int)))],[],C.nh⟩) t.length ⟨0,Nat.zero_le _,rfl,trivial,rfl⟩ ?_
  rintro n σ ⟨i,hi,rfl, -,rfl⟩
  by_cases hlt:i < t.length
  ·have hr:=js (f:=Ent.row) hlt
   have hnw:=hst t[i] (List.getElem_mem _)
   have hpl:=qV (hgt t[i] (List.getElem_mem _))
   have hii:=vy t[i].path c.path (by omega) (by omega)
   generalize inB t[i].path c.path = IB at *
   repeat' (first|refine qm ?_|(first|refine jc Tryz.func126 (hii ..) ?_)|((first|refine qd ?_ ?_|refine qc ?_ ?_|refine xsC ?_ ?_);all_goals (intro hc;have hp:=hc;try simp at hp;try (exfalso;omega)))|refine qO ?_ ?_)
   all_goals try (exfalso;omega)
   all_goals try (
    have h9:=hnw (by omega)
    rw [Bool.and_eq_false_iff] at h9
    rcases h9 with h9|h9
    ·exact absurd (h9.symm.trans (by assumption)) Bool.false_ne_true
    ·exact absurd (h9.symm.trans (by assumption)) Bool.false_ne_true)
   all_goals first
    | (refine ⟨t.length - (i + 1),_,by omega,qv (ts:=[(0,qb t),(2,.v (.int .i64 v)),(4,.fp [c.row] 0 0),(11,.v (.int .i64 ((i + 1:Nat):Int)))]) ?_,i + 1,by omega,rfl,trivial,rfl⟩;((repeat (first|exact qg|refine qn ?_|refine qS ?_ ?_))))
    | ((repeat' (first|refine qm ?_|(first|refine xsQ Tryz.func31 (hput ..) ?_)|((first|refine qd ?_ ?_|refine qc ?_ ?_|refine xsC ?_ ?_);all_goals (intro hc;have hp:=hc;try simp at hp;try (exfalso;omega)))|refine qO ?_ ?_));(all_goals try (exfalso;omega));(all_goals ((exact xE (rs:=[.tmp 6,.tmp 7])))))
  ·obtain rfl:i = t.length:=by omega
   (repeat' (first|refine qm ?_|(first|refine xsQ Tryz.func31 (hput ..) ?_)|((first|refine qd ?_ ?_|refine qc ?_ ?_|refine xsC ?_ ?_);all_goals (intro hc;have hp:=hc;try simp at hp;try (exfalso;omega)))|refine qO ?_ ?_));(all_goals try (exfalso;omega));(all_goals ((exact xE (rs:=[.tmp 6,.tmp 7]))))
 ·rw [if_neg hL]
  refine qa Tryz.func101 rfl _ Tryz.ntmps101 (Nat.le_of_ble_eq_true rfl) _ Tryz.results101 0 rfl rfl ?_
  repeat' (first|refine qm ?_|(first|refine jc Tryz.func125 (hform ..) ?_|refine jc Tryz.func67 (hpo1 ..) ?_|refine jc Tryz.func67 (hpo2 ..) ?_|refine xsQ Tryz.func66 (hfo ..) ?_|refine xsQ Tryz.func34 (hea ..) ?_|refine xsQ Tryz.func34 (heb ..) ?_|refine jc Tryz.func126 (hinn ..) ?_)|((first|refine qd ?_ ?_|refine qc ?_ ?_|refine xsC ?_ ?_);all_goals (intro hc;have hp:=hc;try simp at hp;try (exfalso;omega)))|refine qO ?_ ?_)
  all_goals try (exfalso;omega)
  refine xsZ 4 0 ?_
  (refine Awp.red (qv (ts:=[(0,qb t),(2,.v (.int .i64 v)),(4,.fp [c.row] 0 0),(11,.v (.int .i64 ((0:Nat):Int)))]) ?_) ?_;((repeat (first|exact qg|refine qn ?_|refine qS ?_ ?_))))
  refine qP (fun n σ => ∃ i:Nat,i ≤ t.length ∧ n = t.length - i ∧ (True) ∧ σ = ⟨[(0,qb t),(2,.v (.int .i64 v)),(4,.fp [c.row] 0 0),(11,.v (.int .i64 (i:Int)))],[],C.nh⟩) t.length ⟨0,Nat.zero_le _,rfl,trivial,rfl⟩ ?_
  rintro n σ ⟨i,hi,rfl, -,rfl⟩
  by_cases hlt:i < t.length
  ·have hr:=js (f:=Ent.row) hlt
   have hnw:=hst t[i] (List.getElem_mem _)
   have hpl:=qV (hgt t[i] (List.getElem_mem _))
   have hii:=vy t[i].path c.path (by omega) (by omega)
   generalize inB t[i].path c.path = IB at *
   repeat' (first|refine qm ?_|(first|refine jc Tryz.func126 (hii ..) ?_)|((first|refine qd ?_ ?_|refine qc ?_ ?_|refine xsC ?_ ?_);all_goals (intro hc;have hp:=hc;try simp at hp;try (exfalso;omega)))|refine qO ?_ ?_)
   all_goals try (exfalso;omega)
   all_goals try (
    have h9:=hnw (by omega)
    rw [Bool.and_eq_false_iff] at h9
    rcases h9 with h9|h9
    ·exact absurd (h9.symm.trans (by assumption)) Bool.false_ne_true
    ·exact absurd (h9.symm.trans (by assumption)) Bool.false_ne_true)
   all_goals first
    | (refine ⟨t.length - (i + 1),_,by omega,qv (ts:=[(0,qb t),(2,.v (.int .i64 v)),(4,.fp [c.row] 0 0),(11,.v (.int .i64 ((i + 1:Nat):Int)))]) ?_,i + 1,by omega,rfl,trivial,rfl⟩;((repeat (first|exact qg|refine qn ?_|refine qS ?_ ?_))))
    | ((repeat' (first|refine qm ?_|(first|refine xsQ Tryz.func31 (hput ..) ?_)|((first|refine qd ?_ ?_|refine qc ?_ ?_|refine xsC ?_ ?_);all_goals (intro hc;have hp:=hc;try simp at hp;try (exfalso;omega)))|refine qO ?_ ?_));(all_goals try (exfalso;omega));(all_goals ((exact xE (rs:=[.tmp 6,.tmp 7])))))
  ·obtain rfl:i = t.length:=by omega
   (repeat' (first|refine qm ?_|(first|refine xsQ Tryz.func31 (hput ..) ?_)|((first|refine qd ?_ ?_|refine qc ?_ ?_|refine xsC ?_ ?_);all_goals (intro hc;have hp:=hc;try simp at hp;try (exfalso;omega)))|refine qO ?_ ?_));(all_goals try (exfalso;omega));(all_goals ((exact xE (rs:=[.tmp 6,.tmp 7]))))
theorem qgg (t:List Ent) (c:Chg) (v:Int) (h60:t.length ≤ 60) (hs:q4 jr t = true) (hgt : ∀ x,x ∈ t → qy x.path = 0) (hcs:c.small) (hk:c.kind = 2) (hh:jW t c.path = true) (h0:yD c = 0) (h1:vJ t c = 0) (h2:yo t c = 0):yO C.P 101 [qb t,.agg c.row,.v (.int .i64 v)] (.tup [qb (if ym t c v = 0 then jy t c v else []),.v (.int .i64 (ym t c v))]):=by
 obtain ⟨l1,l2,l3⟩:=hcs
 have hform:=vq c ⟨l1,l2,l3⟩
 have hpo1:=yC c.path (by omega)
 have hpo2:=yC c.to (by omega)
 have hfo:=vR t (qG (jQ c)) (by omega)
 have hea:=j8 t c.path (by omega)
 have heb:=j8 t c.to (by omega)
 have hinn:=vy c.to c.path (by omega) (by omega)
 have hkk:=yS h0
 have hbase : -1 ≤ c.base:=Qb h0
 obtain ⟨hz1,hz2,hz3⟩:=Qj h1
 have hst : ∀ x,x ∈ t → ¬ c.base = -1 → (decide (c.base < x.ver) && inB x.path c.path) = false:=fun x hx hb=>by
  unfold yo at h2
  by_cases h3:t.any (xW c) = true
  ·rw [if_pos ⟨hb,h3⟩] at h2;exact absurd h2 (by decide)
  ·have h4:t.any (xW c) = false:=by simpa using h3
   rw [List.any_eq_false] at h4
   have h5:=h4 x hx
   simpa [xW] using h5
 clear h2
 have hk1:¬ c.kind = 1:=by omega
 have hfa:vn t c.path = false:=by
  unfold zD at hz2
  rw [if_neg hk1,if_pos hk] at hz2
  cases h:vn t c.path with
  | true=>simp [h] at hz2
  | false=>rfl
 have hg0:jQ c = c.path:=by simp [jQ,hk]
 rw [hz1,hg0] at hfo
 rw [h0] at hform
 have hput:yO C.P 31 [qb t,.agg [.v (str c.path),.v (.bool false),.v (str c.text),.v (.int .i64 v)]] (qb (jy t c v)):=by
  have h:=wM t ⟨c.path,false,c.text,v⟩ (by omega)
  rw [Qk hs] at h
  have hD:jy t c v = jN t ⟨c.path,false,c.text,v⟩:=by simp [jy,hk]
  rw [hD];exact h
 have hE:ym t c v = if 60 < (jy t c v).length then 2 else 0:=by simp [ym,xe,hk]
 rw [hE]
 have hlen:=Jv t c v
 generalize jy t c v = L at *
 obtain ⟨hkk2,_,hfi,hix⟩:=zu hs hh
 have hrk:=js (f:=Ent.row) hkk2
 have hfold:t[y0 t c.path].fold = false:=by unfold vn at hfa;rw [hfi] at hfa;exact hfa
 rw [hix] at hea
 generalize y0 t c.path = k at *
 by_cases hL:60 < L.length
 ·rw [if_pos hL]
  refine qa Tryz.func101 rfl _ Tryz.ntmps101 (Nat.le_of_ble_eq_true rfl) _ Tryz.results101 0 rfl rfl ?_
  repeat' (first|refine qm ?_|(first|refine jc Tryz.func125 (hform ..) ?_|refine jc Tryz.func67 (hpo1 ..) ?_|refine jc Tryz.func67 (hpo2 ..) ?_|refine xsQ Tryz.func66 (hfo ..) ?_|refine xsQ Tryz.func34 (hea ..) ?_|refine xsQ Tryz.func34 (heb ..) ?_|refine jc Tryz.func126 (hinn ..) ?_)|((first|refine qd ?_ ?_|refine qc ?_ ?_|refine xsC ?_ ?_);all_goals (intro hc;have hp:=hc;try simp at hp;try (exfalso;omega)))|refine qO ?_ ?_)
  all_goals try (exfalso;omega)
  refine xsZ 4 0 ?_
  (refine Awp.red (qv (ts:=[(0,qb t),(2,.v (.int .i64 v)),(4,.fp [c.row] 0 0),(11,.v (.int .i64 ((0:Nat):Int)))]) ?_) ?_;((repeat (first|exact qg|refine qn ?_|refine qS ?_ ?_))))
  refine qP (fun n σ => ∃ i:Nat,i ≤ t.length ∧ n = t.length - i ∧ (True) ∧ σ = ⟨[(0,qb t),(2,.v (.int .i64 v)),(4,.fp [c.row] 0 0),(11,.v (.int .i64 (i:Int)))],[],C.nh⟩) t.length ⟨0,Nat.zero_le _,rfl,trivial,rfl⟩ ?_
  rintro n σ ⟨i,hi,rfl, -,rfl⟩
  by_cases hlt:i < t.length
  ·have hr:=js (f:=Ent.row) hlt
   have hnw:=hst t[i] (List.getElem_mem _)
   have hpl:=qV (hgt t[i] (List.getElem_mem _))
   have hii:=vy t[i].path c.path (by omega) (by omega)
   generalize inB t[i].path c.path = IB at *
   repeat' (first|refine qm ?_|(first|refine jc Tryz.func126 (hii ..) ?_)|((first|refine qd ?_ ?_|refine qc ?_ ?_|refine xsC ?_ ?_);all_goals (intro hc;have hp:=hc;try simp at hp;try (exfalso;omega)))|refine qO ?_ ?_)
   all_goals try (exfalso;omega)
   all_goals try (
    have h9:=hnw (by omega)
    rw [Bool.and_eq_false_iff] at h9
    rcases h9 with h9|h9
    ·exact absurd (h9.symm.trans (by assumption)) Bool.false_ne_true
    ·exact absurd (h9.symm.trans (by assumption)) Bool.false_ne_true)
   all_goals first
    | (refine ⟨t.length - (i + 1),_,by omega,qv (ts:=[(0,qb t),(2,.v (.int .i64 v)),(4,.fp [c.row] 0 0),(11,.v (.int .i64 ((i + 1:Nat):Int)))]) ?_,i + 1,by omega,rfl,trivial,rfl⟩;((repeat (first|exact qg|refine qn ?_|refine qS ?_ ?_))))
    | ((repeat' (first|refine qm ?_|(first|refine xsQ Tryz.func31 (hput ..) ?_)|((first|refine qd ?_ ?_|refine qc ?_ ?_|refine xsC ?_ ?_);all_goals (intro hc;have hp:=hc;try simp at hp;try (exfalso;omega)))|refine qO ?_ ?_));(all_goals try (exfalso;omega));(all_goals ((exact xE (rs:=[.tmp 6,.tmp 7])))))
  ·obtain rfl:i = t.length:=by omega
   (repeat' (first|refine qm ?_|(first|refine xsQ Tryz.func31 (hput ..) ?_)|((first|refine qd ?_ ?_|refine qc ?_ ?_|refine xsC ?_ ?_);all_goals (intro hc;have hp:=hc;try simp at hp;try (exfalso;omega)))|refine qO ?_ ?_));(all_goals try (exfalso;omega));(all_goals ((exact xE (rs:=[.tmp 6,.tmp 7]))))
 ·rw [if_neg hL]
  refine qa Tryz.func101 rfl _ Tryz.ntmps101 (Nat.le_of_ble_eq_true rfl) _ Tryz.results101 0 rfl rfl ?_
  repeat' (first|refine qm ?_|(first|refine jc Tryz.func125 (hform ..) ?_|refine jc Tryz.func67 (hpo1 ..) ?_|refine jc Tryz.func67 (hpo2 ..) ?_|refine xsQ Tryz.func66 (hfo ..) ?_|refine xsQ Tryz.func34 (hea ..) ?_|refine xsQ Tryz.func34 (heb ..) ?_|refine jc Tryz.func126 (hinn ..) ?_)|((first|refine qd ?_ ?_|refine qc ?_ ?_|refine xsC ?_ ?_);all_goals (intro hc;have hp:=hc;try simp at hp;try (exfalso;omega)))|refine qO ?_ ?_)
  all_goals try (exfalso;omega)
  refine xsZ 4 0 ?_
  (refine Awp.red (qv (ts:=[(0,qb t),(2,.v (.int .i64 v)),(4,.fp [c.row] 0 0),(11,.v (.int .i64 ((0:Nat):Int)))]) ?_) ?_;((repeat (first|exact qg|refine qn ?_|refine qS ?_ ?_))))
  refine qP (fun n σ => ∃ i:Nat,i ≤ t.length ∧ n = t.length - i ∧ (True) ∧ σ = ⟨[(0,qb t),(2,.v (.int .i64 v)),(4,.fp [c.row] 0 0),(11,.v (.int .i64 (i:Int)))],[],C.nh⟩) t.length ⟨0,Nat.zero_le _,rfl,trivial,rfl⟩ ?_
  rintro n σ ⟨i,hi,rfl, -,rfl⟩
  by_cases hlt:i < t.length
  ·have hr:=js (f:=Ent.row) hlt
   have hnw:=hst t[i] (List.getElem_mem _)
   have hpl:=qV (hgt t[i] (List.getElem_mem _))
   have hii:=vy t[i].path c.path (by omega) (by omega)
   generalize inB t[i].path c.path = IB at *
   repeat' (first|refine qm ?_|(first|refine jc Tryz.func126 (hii ..) ?_)|((first|refine qd ?_ ?_|refine qc ?_ ?_|refine xsC ?_ ?_);all_goals (intro hc;have hp:=hc;try simp at hp;try (exfalso;omega)))|refine qO ?_ ?_)
   all_goals try (exfalso;omega)
   all_goals try (
    have h9:=hnw (by omega)
    rw [Bool.and_eq_false_iff] at h9
    rcases h9 with h9|h9
    ·exact absurd (h9.symm.trans (by assumption)) Bool.false_ne_true
    ·exact absurd (h9.symm.trans (by assumption)) Bool.false_ne_true)
   all_goals first
    | (refine ⟨t.length - (i + 1),_,by omega,qv (ts:=[(0,qb t),(2,.v (.int .i64 v)),(4,.fp [c.row] 0 0),(11,.v (.int .i64 ((i + 1:Nat):Int)))]) ?_,i + 1,by omega,rfl,trivial,rfl⟩;((repeat (first|exact qg|refine qn ?_|refine qS ?_ ?_))))
    | ((repeat' (first|refine qm ?_|(first|refine xsQ Tryz.func31 (hput ..) ?_)|((first|refine qd ?_ ?_|refine qc ?_ ?_|refine xsC ?_ ?_);all_goals (intro hc;have hp:=hc;try simp at hp;try (exfalso;omega)))|refine qO ?_ ?_));(all_goals try (exfalso;omega));(all_goals ((exact xE (rs:=[.tmp 6,.tmp 7])))))
  ·obtain rfl:i = t.length:=by omega
   (repeat' (first|refine qm ?_|(first|refine xsQ Tryz.func31 (hput ..) ?_)|((first|refine qd ?_ ?_|refine qc ?_ ?_|refine xsC ?_ ?_);all_goals (intro hc;have hp:=hc;try simp at hp;try (exfalso;omega)))|refine qO ?_ ?_));(all_goals try (exfalso;omega));(all_goals ((exact xE (rs:=[.tmp 6,.tmp 7]))))
theorem qgf (t:List Ent) (c:Chg) (v:Int) (h60:t.length ≤ 60) (hs:q4 jr t = true) (hgt : ∀ x,x ∈ t → qy x.path = 0) (hcs:c.small) (hk:c.kind = 2) (hh:jW t c.path = false) (h0:yD c = 0) (h1:vJ t c = 0) (h2:yo t c = 0):yO C.P 101 [qb t,.agg c.row,.v (.int .i64 v)] (.tup [qb (if ym t c v = 0 then jy t c v else []),.v (.int .i64 (ym t c v))]):=by
 obtain ⟨l1,l2,l3⟩:=hcs
 have hform:=vq c ⟨l1,l2,l3⟩
 have hpo1:=yC c.path (by omega)
 have hpo2:=yC c.to (by omega)
 have hfo:=vR t (qG (jQ c)) (by omega)
 have hea:=j8 t c.path (by omega)
 have heb:=j8 t c.to (by omega)
 have hinn:=vy c.to c.path (by omega) (by omega)
 have hkk:=yS h0
 have hbase : -1 ≤ c.base:=Qb h0
 obtain ⟨hz1,hz2,hz3⟩:=Qj h1
 have hst : ∀ x,x ∈ t → ¬ c.base = -1 → (decide (c.base < x.ver) && inB x.path c.path) = false:=fun x hx hb=>by
  unfold yo at h2
  by_cases h3:t.any (xW c) = true
  ·rw [if_pos ⟨hb,h3⟩] at h2;exact absurd h2 (by decide)
  ·have h4:t.any (xW c) = false:=by simpa using h3
   rw [List.any_eq_false] at h4
   have h5:=h4 x hx
   simpa [xW] using h5
 clear h2
 have hk1:¬ c.kind = 1:=by omega
 have hfa:vn t c.path = false:=by
  unfold zD at hz2
  rw [if_neg hk1,if_pos hk] at hz2
  cases h:vn t c.path with
  | true=>simp [h] at hz2
  | false=>rfl
 have hg0:jQ c = c.path:=by simp [jQ,hk]
 rw [hz1,hg0] at hfo
 rw [h0] at hform
 have hput:yO C.P 31 [qb t,.agg [.v (str c.path),.v (.bool false),.v (str c.text),.v (.int .i64 v)]] (qb (jy t c v)):=by
  have h:=wM t ⟨c.path,false,c.text,v⟩ (by omega)
  rw [Qk hs] at h
  have hD:jy t c v = jN t ⟨c.path,false,c.text,v⟩:=by simp [jy,hk]
  rw [hD];exact h
 have hE:ym t c v = if 60 < (jy t c v).length then 2 else 0:=by simp [ym,xe,hk]
 rw [hE]
 have hlen:=Jv t c v
 generalize jy t c v = L at *
 rw [(xK hh).2] at hea
 by_cases hL:60 < L.length
 ·rw [if_pos hL]
  refine qa Tryz.func101 rfl _ Tryz.ntmps101 (Nat.le_of_ble_eq_true rfl) _ Tryz.results101 0 rfl rfl ?_
  repeat' (first|refine qm ?_|(first|refine jc Tryz.func125 (hform ..) ?_|refine jc Tryz.func67 (hpo1 ..) ?_|refine jc Tryz.func67 (hpo2 ..) ?_|refine xsQ Tryz.func66 (hfo ..) ?_|refine xsQ Tryz.func34 (hea ..) ?_|refine xsQ Tryz.func34 (heb ..) ?_|refine jc Tryz.func126 (hinn ..) ?_)|((first|refine qd ?_ ?_|refine qc ?_ ?_|refine xsC ?_ ?_);all_goals (intro hc;have hp:=hc;try simp at hp;try (exfalso;omega)))|refine qO ?_ ?_)
  all_goals try (exfalso;omega)
  refine xsZ 4 0 ?_
  (refine Awp.red (qv (ts:=[(0,qb t),(2,.v (.int .i64 v)),(4,.fp [c.row] 0 0),(11,.v (.int .i64 ((0:Nat):Int)))]) ?_) ?_;((repeat (first|exact qg|refine qn ?_|refine qS ?_ ?_))))
  refine qP (fun n σ => ∃ i:Nat,i ≤ t.length ∧ n = t.length - i ∧ (True) ∧ σ = ⟨[(0,qb t),(2,.v (.int .i64 v)),(4,.fp [c.row] 0 0),(11,.v (.int .i64 (i:Int)))],[],C.nh⟩) t.length ⟨0,Nat.zero_le _,rfl,trivial,rfl⟩ ?_
  rintro n σ ⟨i,hi,rfl, -,rfl⟩
  by_cases hlt:i < t.length
  ·have hr:=js (f:=Ent.row) hlt
   have hnw:=hst t[i] (List.getElem_mem _)
   have hpl:=qV (hgt t[i] (List.getElem_mem _))
   have hii:=vy t[i].path c.path (by omega) (by omega)
   generalize inB t[i].path c.path = IB at *
   repeat' (first|refine qm ?_|(first|refine jc Tryz.func126 (hii ..) ?_)|((first|refine qd ?_ ?_|refine qc ?_ ?_|refine xsC ?_ ?_);all_goals (intro hc;have hp:=hc;try simp at hp;try (exfalso;omega)))|refine qO ?_ ?_)
   all_goals try (exfalso;omega)
   all_goals try (
    have h9:=hnw (by omega)
    rw [Bool.and_eq_false_iff] at h9
    rcases h9 with h9|h9
    ·exact absurd (h9.symm.trans (by assumption)) Bool.false_ne_true
    ·exact absurd (h9.symm.trans (by assumption)) Bool.false_ne_true)
   all_goals first
    | (refine ⟨t.length - (i + 1),_,by omega,qv (ts:=[(0,qb t),(2,.v (.int .i64 v)),(4,.fp [c.row] 0 0),(11,.v (.int .i64 ((i + 1:Nat):Int)))]) ?_,i + 1,by omega,rfl,trivial,rfl⟩;((repeat (first|exact qg|refine qn ?_|refine qS ?_ ?_))))
    | ((repeat' (first|refine qm ?_|(first|refine xsQ Tryz.func31 (hput ..) ?_)|((first|refine qd ?_ ?_|refine qc ?_ ?_|refine xsC ?_ ?_);all_goals (intro hc;have hp:=hc;try simp at hp;try (exfalso;omega)))|refine qO ?_ ?_));(all_goals try (exfalso;omega));(all_goals ((exact xE (rs:=[.tmp 6,.tmp 7])))))
  ·obtain rfl:i = t.length:=by omega
   (repeat' (first|refine qm ?_|(first|refine xsQ Tryz.func31 (hput ..) ?_)|((first|refine qd ?_ ?_|refine qc ?_ ?_|refine xsC ?_ ?_);all_goals (intro hc;have hp:=hc;try simp at hp;try (exfalso;omega)))|refine qO ?_ ?_));(all_goals try (exfalso;omega));(all_goals ((exact xE (rs:=[.tmp 6,.tmp 7]))))
 ·rw [if_neg hL]
  refine qa Tryz.func101 rfl _ Tryz.ntmps101 (Nat.le_of_ble_eq_true rfl) _ Tryz.results101 0 rfl rfl ?_
  repeat' (first|refine qm ?_|(first|refine jc Tryz.func125 (hform ..) ?_|refine jc Tryz.func67 (hpo1 ..) ?_|refine jc Tryz.func67 (hpo2 ..) ?_|refine xsQ Tryz.func66 (hfo ..) ?_|refine xsQ Tryz.func34 (hea ..) ?_|refine xsQ Tryz.func34 (heb ..) ?_|refine jc Tryz.func126 (hinn ..) ?_)|((first|refine qd ?_ ?_|refine qc ?_ ?_|refine xsC ?_ ?_);all_goals (intro hc;have hp:=hc;try simp at hp;try (exfalso;omega)))|refine qO ?_ ?_)
  all_goals try (exfalso;omega)
  refine xsZ 4 0 ?_
  (refine Awp.red (qv (ts:=[(0,qb t),(2,.v (.int .i64 v)),(4,.fp [c.row] 0 0),(11,.v (.int .i64 ((0:Nat):Int)))]) ?_) ?_;((repeat (first|exact qg|refine qn ?_|refine qS ?_ ?_))))
  refine qP (fun n σ => ∃ i:Nat,i ≤ t.length ∧ n = t.length - i ∧ (True) ∧ σ = ⟨[(0,qb t),(2,.v (.int .i64 v)),(4,.fp [c.row] 0 0),(11,.v (.int .i64 (i:Int)))],[],C.nh⟩) t.length ⟨0,Nat.zero_le _,rfl,trivial,rfl⟩ ?_
  rintro n σ ⟨i,hi,rfl, -,rfl⟩
  by_cases hlt:i < t.length
  ·have hr:=js (f:=Ent.row) hlt
   have hnw:=hst t[i] (List.getElem_mem _)
   have hpl:=qV (hgt t[i] (List.getElem_mem _))
   have hii:=vy t[i].path c.path (by omega) (by omega)
   generalize inB t[i].path c.path = IB at *
   repeat' (first|refine qm ?_|(first|refine jc Tryz.func126 (hii ..) ?_)|((first|refine qd ?_ ?_|refine qc ?_ ?_|refine xsC ?_ ?_);all_goals (intro hc;have hp:=hc;try simp at hp;try (exfalso;omega)))|refine qO ?_ ?_)
   all_goals try (exfalso;omega)
   all_goals try (
    have h9:=hnw (by omega)
    rw [Bool.and_eq_false_iff] at h9
    rcases h9 with h9|h9
    ·exact absurd (h9.symm.trans (by assumption)) Bool.false_ne_true
    ·exact absurd (h9.symm.trans (by assumption)) Bool.false_ne_true)
   all_goals first
    | (refine ⟨t.length - (i + 1),_,by omega,qv (ts:=[(0,qb t),(2,.v (.int .i64 v)),(4,.fp [c.row] 0 0),(11,.v (.int .i64 ((i + 1:Nat):Int)))]) ?_,i + 1,by omega,rfl,trivial,rfl⟩;((repeat (first|exact qg|refine qn ?_|refine qS ?_ ?_))))
    | ((repeat' (first|refine qm ?_|(first|refine xsQ Tryz.func31 (hput ..) ?_)|((first|refine qd ?_ ?_|refine qc ?_ ?_|refine xsC ?_ ?_);all_goals (intro hc;have hp:=hc;try simp at hp;try (exfalso;omega)))|refine qO ?_ ?_));(all_goals try (exfalso;omega));(all_goals ((exact xE (rs:=[.tmp 6,.tmp 7])))))
  ·obtain rfl:i = t.length:=by omega
   (repeat' (first|refine qm ?_|(first|refine xsQ Tryz.func31 (hput ..) ?_)|((first|refine qd ?_ ?_|refine qc ?_ ?_|refine xsC ?_ ?_);all_goals (intro hc;have hp:=hc;try simp at hp;try (exfalso;omega)))|refine qO ?_ ?_));(all_goals try (exfalso;omega));(all_goals ((exact xE (rs:=[.tmp 6,.tmp 7]))))
theorem qgT (t:List Ent) (c:Chg) (v:Int) (h60:t.length ≤ 60) (hs:q4 jr t = true) (hgt : ∀ x,x ∈ t → qy x.path = 0) (hcs:c.small) (hk:c.kind = 2) (h0:yD c = 0) (h1:vJ t c = 0) (h2:yo t c = 0):yO C.P 101 [qb t,.agg c.row,.v (.int .i64 v)] (.tup [qb (if ym t c v = 0 then jy t c v else []),.v (.int .i64 (ym t c v))]):=by
 cases hh:jW t c.path with
 | true=>exact qgg t c v h60 hs hgt hcs hk hh h0 h1 h2
 | false=>exact qgf t c v h60 hs hgt hcs hk hh h0 h1 h2
end Go.Proofs.YtnhpclmbhbblbaaGreatDoor
set_option linter.unusedSimpArgs false
set_option linter.unnecessarySimpa false
set_option linter.unusedVariables false
set_option maxHeartbeats 1000000
namespace Go.Proofs.YtnhpclmbhbblbaaGreatDoor
open Go.Ab Go.RowKit
set_option maxRecDepth 10000
attribute [local irreducible] Awp yl jE jl Red qX Go.Ab.Fin qW Rz vl jj ji ResOk jV jz yb jv
theorem Z3 {t:List Ent} {c:Chg} (hk:3 ≤ c.kind) (h:zD t c = 0):jW t c.path = true:=by
 unfold zD at h
 rw [if_neg (by omega),if_neg (by omega)] at h
 cases hh:jW t c.path with
 | true=>rfl
 | false=>simp [hh] at h
theorem qgX (t:List Ent) (c:Chg) (v:Int) (h60:t.length ≤ 60) (hs:q4 jr t = true) (hgt : ∀ x,x ∈ t → qy x.path = 0) (hcs:c.small) (h0:yD c = 0) (h1:vJ t c = 0) (h2:¬ yo t c = 0):yO C.P 101 [qb t,.agg c.row,.v (.int .i64 v)] (.tup [qb [],.v (.int .i64 8)]):=by
 obtain ⟨l1,l2,l3⟩:=hcs
 have hform:=vq c ⟨l1,l2,l3⟩
 have hpo1:=yC c.path (by omega)
 have hpo2:=yC c.to (by omega)
 have hfo:=vR t (qG (jQ c)) (by omega)
 have hea:=j8 t c.path (by omega)
 have heb:=j8 t c.to (by omega)
 have hinn:=vy c.to c.path (by omega) (by omega)
 have hkk:=yS h0
 have hbase : -1 ≤ c.base:=Qb h0
 obtain ⟨hz1,hz2,hz3⟩:=Qj h1
 have hst:¬ c.base = -1 ∧ t.any (xW c) = true:=by
  unfold yo at h2
  split at h2
  ·assumption
  ·exact absurd rfl h2
 obtain ⟨hst1,hst2⟩:=hst
 clear h2
 have hI:zD t c = if c.kind = 1 then (if jW t c.path = true then 6 else 0) else if c.kind = 2 then (if vn t c.path = true then 4 else 0) else (if jW t c.path = true then 0 else 5):=rfl
 have hM:kH t c = if c.kind = 3 then (if inB c.to c.path = true then 3 else if jW t c.to = true then 6 else 0) else 0:=rfl
 rw [hz2] at hI
 rw [hz3] at hM
 replace hI:=hI.symm
 replace hM:=hM.symm
 rw [h0] at hform
 have hto:(jW t c.to = true ∧ 0 ≤ xa (atP c.to) t) ∨ (jW t c.to = false ∧ xa (atP c.to) t = -1):=by
  cases h:jW t c.to with
  | true=>obtain ⟨hk,_,hfi,hix⟩:=zu hs h;exact .inl ⟨rfl,by rw [hix];omega⟩
  | false=>exact .inr ⟨rfl,(xK h).2⟩
 have hrow:jW t c.path = true → ∃ hk:y0 t c.path < t.length,vn t c.path = t[y0 t c.path].fold ∧ xa (atP c.path) t = y0 t c.path:=fun h=>by
  obtain ⟨hk,_,hfi,hix⟩:=zu hs h
  exact ⟨hk,by unfold vn;rw [hfi],hix⟩
 have hnorow:jW t c.path = false → vn t c.path = false ∧ xa (atP c.path) t = -1:=fun h=>by
  unfold vn;rw [(xK h).1];exact ⟨rfl,(xK h).2⟩
 obtain ⟨kk1,kk2, -⟩:=hkk
 have hg3:c.kind = 3 → jQ c = c.to:=fun h=>by simp [jQ,h]
 have hg0:¬ c.kind = 3 → jQ c = c.path:=fun h=>by simp [jQ,h]
 rw [hz1] at hfo
 clear hz1 hz2 hz3
 generalize hIB:inB c.to c.path = IB at *
 generalize hHT:jW t c.to = HT at *
 generalize hIT:xa (atP c.to) t = IT at *
 clear hIB hHT hIT
 cases hh:jW t c.path with
 | true =>
   obtain ⟨hk,hfa,hix⟩:=hrow hh
   rw [hix] at hea
   rw [hh,hfa] at hI
   have hrk:=js (f:=Ent.row) hk
   clear hrow hnorow hix hfa
   generalize y0 t c.path = k at *
   by_cases k3:c.kind = 3
   ·rw [hg3 k3] at hfo
    clear hg3 hg0
    refine qa Tryz.func101 rfl _ Tryz.ntmps101 (Nat.le_of_ble_eq_true rfl) _ Tryz.results101 0 rfl rfl ?_
    repeat' (first|refine qm ?_|(first|refine jc Tryz.func125 (hform ..) ?_|refine jc Tryz.func67 (hpo1 ..) ?_|refine jc Tryz.func67 (hpo2 ..) ?_|refine xsQ Tryz.func66 (hfo ..) ?_|refine xsQ Tryz.func34 (hea ..) ?_|refine xsQ Tryz.func34 (heb ..) ?_|refine jc Tryz.func126 (hinn ..) ?_)|((first|refine qd ?_ ?_|refine qc ?_ ?_|refine xsC ?_ ?_);all_goals (intro hc;have hp:=hc;try simp at hp;try (exfalso;omega)))|refine qO ?_ ?_)
    all_goals try (exfalso;omega)
    all_goals try (exfalso;clear hst2 hea heb hfo hform hinn hpo1 hpo2;simp_all;done)
    all_goals (
     refine xsZ 4 0 ?_
     (refine Awp.red (qv (ts:=[(0,qb t),(2,.v (.int .i64 v)),(4,.fp [c.row] 0 0),(11,.v (.int .i64 ((0:Nat):Int)))]) ?_) ?_;((repeat (first|exact qg|refine qn ?_|refine qS ?_ ?_))))
     refine qP (fun n σ => ∃ i:Nat,i ≤ t.length ∧ n = t.length - i ∧ (∀ x,x ∈ t.take i → xW c x = false) ∧ σ = ⟨[(0,qb t),(2,.v (.int .i64 v)),(4,.fp [c.row] 0 0),(11,.v (.int .i64 (i:Int)))],[],C.nh⟩) t.length ⟨0,Nat.zero_le _,rfl,(by simp),rfl⟩ ?_
     rintro n σ ⟨i,hi,rfl,hsofar,rfl⟩
     by_cases hlt:i < t.length
     ·have hr:=js (f:=Ent.row) hlt
      have hnx:=jU (p:=fun x=>xW c x = false) hlt hsofar
      have hnw:xW c t[i] = (decide (c.base < t[i].ver) && inB t[i].path c.path):=rfl
      have hpl:=qV (hgt t[i] (List.getElem_mem _))
      have hii:=vy t[i].path c.path (by omega) (by omega)
      generalize inB t[i].path c.path = IB at *
      generalize xW c t[i] = NW at *
      clear hst2 hsofar
      repeat' (first|refine qm ?_|(first|refine jc Tryz.func126 (hii ..) ?_)|((first|refine qd ?_ ?_|refine qc ?_ ?_|refine xsC ?_ ?_);all_goals (intro hc;have hp:=hc;try simp at hp;try (exfalso;omega)))|refine qO ?_ ?_)
      all_goals try (exfalso;omega)
      all_goals first
       | ((exact xE (rs:=[.tmp 6,.tmp 7])))
       | (refine ⟨t.length - (i + 1),_,by omega,qv (ts:=[(0,qb t),(2,.v (.int .i64 v)),(4,.fp [c.row] 0 0),(11,.v (.int .i64 ((i + 1:Nat):Int)))]) ?_,i + 1,by omega,rfl,(hnx (by rw [hnw];simp_all)),rfl⟩;((repeat (first|exact qg|refine qn ?_|refine qS ?_ ?_))))
     ·exfalso
      obtain rfl:i = t.length:=by omega
      rw [List.take_length] at hsofar
      obtain ⟨x,hx,hxn⟩:=List.any_eq_true.1 hst2
      rw [hsofar x hx] at hxn;cases hxn)
   ·rw [hg0 k3] at hfo
    clear hg3 hg0
    refine qa Tryz.func101 rfl _ Tryz.ntmps101 (Nat.le_of_ble_eq_true rfl) _ Tryz.results101 0 rfl rfl ?_
    repeat' (first|refine qm ?_|(first|refine jc Tryz.func125 (hform ..) ?_|refine jc Tryz.func67 (hpo1 ..) ?_|refine jc Tryz.func67 (hpo2 ..) ?_|refine xsQ Tryz.func66 (hfo ..) ?_|refine xsQ Tryz.func34 (hea ..) ?_|refine xsQ Tryz.func34 (heb ..) ?_|refine jc Tryz.func126 (hinn ..) ?_)|((first|refine qd ?_ ?_|refine qc ?_ ?_|refine xsC ?_ ?_);all_goals (intro hc;have hp:=hc;try simp at hp;try (exfalso;omega)))|refine qO ?_ ?_)
    all_goals try (exfalso;omega)
    all_goals try (exfalso;clear hst2 hea heb hfo hform hinn hpo1 hpo2;simp_all;done)
    all_goals (
     refine xsZ 4 0 ?_
     (refine Awp.red (qv (ts:=[(0,qb t),(2,.v (.int .i64 v)),(4,.fp [c.row] 0 0),(11,.v (.int .i64 ((0:Nat):Int)))]) ?_) ?_;((repeat (first|exact qg|refine qn ?_|refine qS ?_ ?_))))
     refine qP (fun n σ => ∃ i:Nat,i ≤ t.length ∧ n = t.length - i ∧ (∀ x,x ∈ t.take i → xW c x = false) ∧ σ = ⟨[(0,qb t),(2,.v (.int .i64 v)),(4,.fp [c.row] 0 0),(11,.v (.int .i64 (i:Int)))],[],C.nh⟩) t.length ⟨0,Nat.zero_le _,rfl,(by simp),rfl⟩ ?_
     rintro n σ ⟨i,hi,rfl,hsofar,rfl⟩
     by_cases hlt:i < t.length
     ·have hr:=js (f:=Ent.row) hlt
      have hnx:=jU (p:=fun x=>xW c x = false) hlt hsofar
      have hnw:xW c t[i] = (decide (c.base < t[i].ver) && inB t[i].path c.path):=rfl
      have hpl:=qV (hgt t[i] (List.getElem_mem _))
      have hii:=vy t[i].path c.path (by omega) (by omega)
      generalize inB t[i].path c.path = IB at *
      generalize xW c t[i] = NW at *
      clear hst2 hsofar
      repeat' (first|refine qm ?_|(first|refine jc Tryz.func126 (hii ..) ?_)|((first|refine qd ?_ ?_|refine qc ?_ ?_|refine xsC ?_ ?_);all_goals (intro hc;have hp:=hc;try simp at hp;try (exfalso;omega)))|refine qO ?_ ?_)
      all_goals try (exfalso;omega)
      all_goals first
       | ((exact xE (rs:=[.tmp 6,.tmp 7])))
       | (refine ⟨t.length - (i + 1),_,by omega,qv (ts:=[(0,qb t),(2,.v (.int .i64 v)),(4,.fp [c.row] 0 0),(11,.v (.int .i64 ((i + 1:Nat):Int)))]) ?_,i + 1,by omega,rfl,(hnx (by rw [hnw];simp_all)),rfl⟩;((repeat (first|exact qg|refine qn ?_|refine qS ?_ ?_))))
     ·exfalso
      obtain rfl:i = t.length:=by omega
      rw [List.take_length] at hsofar
      obtain ⟨x,hx,hxn⟩:=List.any_eq_true.1 hst2
      rw [hsofar x hx] at hxn;cases hxn)
 | false =>
   obtain ⟨hfa,hix⟩:=hnorow hh
   rw [hix] at hea
   rw [hh,hfa] at hI
   clear hrow hnorow hix hfa
   by_cases k3:c.kind = 3
   ·exfalso;clear hst2 hea heb hfo hform hinn hpo1 hpo2;simp_all;done
   ·rw [hg0 k3] at hfo
    clear hg3 hg0
    refine qa Tryz.func101 rfl _ Tryz.ntmps101 (Nat.le_of_ble_eq_true rfl) _ Tryz.results101 0 rfl rfl ?_
    repeat' (first|refine qm ?_|(first|refine jc Tryz.func125 (hform ..) ?_|refine jc Tryz.func67 (hpo1 ..) ?_|refine jc Tryz.func67 (hpo2 ..) ?_|refine xsQ Tryz.func66 (hfo ..) ?_|refine xsQ Tryz.func34 (hea ..) ?_|refine xsQ Tryz.func34 (heb ..) ?_|refine jc Tryz.func126 (hinn ..) ?_)|((first|refine qd ?_ ?_|refine qc ?_ ?_|refine xsC ?_ ?_);all_goals (intro hc;have hp:=hc;try simp at hp;try (exfalso;omega)))|refine qO ?_ ?_)
    all_goals try (exfalso;omega)
    all_goals try (exfalso;clear hst2 hea heb hfo hform hinn hpo1 hpo2;simp_all;done)
    all_goals (
     refine xsZ 4 0 ?_
     (refine Awp.red (qv (ts:=[(0,qb t),(2,.v (.int .i64 v)),(4,.fp [c.row] 0 0),(11,.v (.int .i64 ((0:Nat):Int)))]) ?_) ?_;((repeat (first|exact qg|refine qn ?_|refine qS ?_ ?_))))
     refine qP (fun n σ => ∃ i:Nat,i ≤ t.length ∧ n = t.length - i ∧ (∀ x,x ∈ t.take i → xW c x = false) ∧ σ = ⟨[(0,qb t),(2,.v (.int .i64 v)),(4,.fp [c.row] 0 0),(11,.v (.int .i64 (i:Int)))],[],C.nh⟩) t.length ⟨0,Nat.zero_le _,rfl,(by simp),rfl⟩ ?_
     rintro n σ ⟨i,hi,rfl,hsofar,rfl⟩
     by_cases hlt:i < t.length
     ·have hr:=js (f:=Ent.row) hlt
      have hnx:=jU (p:=fun x=>xW c x = false) hlt hsofar
      have hnw:xW c t[i] = (decide (c.base < t[i].ver) && inB t[i].path c.path):=rfl
      have hpl:=qV (hgt t[i] (List.getElem_mem _))
      have hii:=vy t[i].path c.path (by omega) (by omega)
      generalize inB t[i].path c.path = IB at *
      generalize xW c t[i] = NW at *
      clear hst2 hsofar
      repeat' (first|refine qm ?_|(first|refine jc Tryz.func126 (hii ..) ?_)|((first|refine qd ?_ ?_|refine qc ?_ ?_|refine xsC ?_ ?_);all_goals (intro hc;have hp:=hc;try simp at hp;try (exfalso;omega)))|refine qO ?_ ?_)
      all_goals try (exfalso;omega)
      all_goals first
       | ((exact xE (rs:=[.tmp 6,.tmp 7])))
       | (refine ⟨t.length - (i + 1),_,by omega,qv (ts:=[(0,qb t),(2,.v (.int .i64 v)),(4,.fp [c.row] 0 0),(11,.v (.int .i64 ((i + 1:Nat):Int)))]) ?_,i + 1,by omega,rfl,(hnx (by rw [hnw];simp_all)),rfl⟩;((repeat (first|exact qg|refine qn ?_|refine qS ?_ ?_))))
     ·exfalso
      obtain rfl:i = t.length:=by omega
      rw [List.take_length] at hsofar
      obtain ⟨x,hx,hxn⟩:=List.any_eq_true.1 hst2
      rw [hsofar x hx] at hxn;cases hxn)
end Go.Proofs.YtnhpclmbhbblbaaGreatDoor
