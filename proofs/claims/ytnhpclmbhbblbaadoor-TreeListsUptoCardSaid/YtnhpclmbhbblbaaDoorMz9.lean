import Derived.Test.YtnhpclmbhbblbaaDoorMz8
import Derived.Test.YtnhpclmbhbblbaaDoorMz2
set_option linter.unusedSimpArgs false
set_option linter.unnecessarySimpa false
set_option maxHeartbeats 1000000
namespace Go.Proofs.YtnhpclmbhbblbaaDoor
open Go.Ab Go.RowKit
set_option maxRecDepth 10000
attribute [local irreducible] Awp jk qG q9 Red qp Go.Ab.Fin qx Rz yS qX qT ResOk jp jd jG qR
def y1 (l:List Ent) (p:qv):Ent:=if qm p = [] then ⟨[],true,[],0⟩ else match l.find? (atP (qm p)) with|some x=>x|none=>⟨[],false,[],0⟩
def vj (l:List Ent) (p:qv):Bool:=decide (qm p = []) || jY l (qm p)
theorem kG (l:List Ent) (p:qv):q0 l (qm p) = if vj l p = true then (if (y1 l p).fold = true then 0 else 4) else 5:=by
 unfold q0 vj y1
 by_cases h:qm p = []
 ·simp [h]
 ·cases hh:jY l (qm p) with
  | true =>
    obtain ⟨x,hx,hk⟩:=List.any_eq_true.1 hh
    cases hf:l.find? (atP (qm p)) with
    | none=>rw [List.find?_eq_none] at hf;exact absurd hk (hf x hx)
    | some y=>simp [h]
  | false=>simp [h,(zu hh).1]
theorem wq (l:List Ent) (p:qv) (hl:l.length ≤ 1000000000) (hs:qV jm l = true) (hp:p.length ≤ 140737488355328) :
  yc C.P 41 [qo l,.v (str p)] (.tup [.agg (y1 l p).row,.v (.bool (vj l p))]):=by
 have hsp:=Qc p (by omega)
 have hat:=Xk l (qm p) hl hs
 by_cases h:qm p = []
 ·have e1:y1 l p = ⟨[],true,[],0⟩:=by simp [y1,h]
  have e2:vj l p = true:=by simp [vj,h]
  rw [h] at hsp hat
  rw [e1,e2]
  refine qa Tryd.func41 rfl _ Tryd.ntmps41 (Nat.le_of_ble_eq_true rfl) _ Tryd.results41 0 rfl rfl ?_
  repeat' (first|refine qj ?_|(first|refine jV Tryd.func15 (hsp ..) ?_|refine jV Tryd.func14 (hat ..) ?_)|((first|refine xsC ?_ ?_);all_goals (intro hc;have hp:=hc;try simp at hp;try (exfalso;omega)))|refine qD ?_ ?_)
  all_goals try (exfalso;simp_all;done)
  (exact zh (rs:=[.cell 4 34,.tmp 5]))
 ·cases hh:jY l (qm p) with
  | true =>
    obtain ⟨hk,hpe,hfi, -⟩:=z1 hs hh
    have e1:y1 l p = l[jC l (qm p)]:=by simp [y1,h,hfi]
    have e2:vj l p = true:=by simp [vj,hh]
    rw [hh] at hat
    rw [e1,e2]
    generalize jC l (qm p) = k at *
    have hr:=qL (f:=Ent.row) hk
    refine qa Tryd.func41 rfl _ Tryd.ntmps41 (Nat.le_of_ble_eq_true rfl) _ Tryd.results41 0 rfl rfl ?_
    repeat' (first|refine qj ?_|(first|refine jV Tryd.func15 (hsp ..) ?_|refine jV Tryd.func14 (hat ..) ?_)|((first|refine xsC ?_ ?_);all_goals (intro hc;have hp:=hc;try simp at hp;try (exfalso;omega)))|refine qD ?_ ?_)
    all_goals try (exfalso;first|exact h (by assumption)|(simp_all;done))
    (exact zh (rs:=[.cell 4 34,.tmp 5]))
  | false =>
    have e1:y1 l p = ⟨[],false,[],0⟩:=by simp [y1,h,(zu hh).1]
    have e2:vj l p = false:=by simp [vj,hh,h]
    rw [hh] at hat
    rw [e1,e2]
    refine qa Tryd.func41 rfl _ Tryd.ntmps41 (Nat.le_of_ble_eq_true rfl) _ Tryd.results41 0 rfl rfl ?_
    repeat' (first|refine qj ?_|(first|refine jV Tryd.func15 (hsp ..) ?_|refine jV Tryd.func14 (hat ..) ?_)|((first|refine xsC ?_ ?_);all_goals (intro hc;have hp:=hc;try simp at hp;try (exfalso;omega)))|refine qD ?_ ?_)
    all_goals try (exfalso;first|exact h (by assumption)|(simp_all;done))
    (exact zh (rs:=[.cell 4 34,.tmp 5]))
end Go.Proofs.YtnhpclmbhbblbaaDoor
set_option linter.unusedSimpArgs false
set_option linter.unnecessarySimpa false
set_option maxHeartbeats 1000000
namespace Go.Proofs.YtnhpclmbhbblbaaDoor
open Go.Ab Go.RowKit
set_option maxRecDepth 10000
attribute [local irreducible] Awp jk qG q9 Red qp Go.Ab.Fin qx Rz yS qX qT ResOk jp jd jG qR
theorem J7 (a b:Ent):(Op.bytesLess b.path a.path || decide (b.path = a.path)) = !jm a b:=by
 unfold jm
 rcases xv a.path b.path with ⟨h1,h2,h3⟩|⟨h1,h2,h3⟩|⟨h1,h2,h3⟩
 ·have h4:¬ b.path = a.path:=fun e=>h3 e.symm
  simp [h1,h2,h4]
 ·simp [h1,vl]
 ·simp [h1,h2]
theorem zK {t:List Ent} (h60:¬ 60 < t.length) {k:Nat} (hk:k < t.length) (hs : ∀ g,g ∈ t.take k → ju g = 0) (h0:ju t[k] ≠ 0):ju t[k] = qu t:=by
 have h1:=zR hk hs h0
 have hz:¬ jt ju t = 0:=by rw [h1];exact h0
 simp only [qu,h60,hz,if_false]
 rw [h1]
theorem Je (l:List Ent) (hl:EBig l):yc C.P 27 [qo l] (.v (.int .i64 (qu l))):=by
 have hll:=hl.len
 refine qa Tryd.func27 rfl _ Tryd.ntmps27 (Nat.le_of_ble_eq_true rfl) _ Tryd.results27 0 rfl rfl ?_
 repeat' (first|refine qj ?_|fail|((first|refine xsC ?_ ?_);all_goals (intro hc;have hp:=hc;try simp at hp;try (exfalso;omega)))|refine qD ?_ ?_)
 ·apply qC
  rfl
  have h60:60 < l.length:=by omega
  simp [qu,h60]
 have h60:¬ 60 < l.length:=by omega
 (refine Awp.red (ql (ts:=[(0,qo l),(15,qo l),(16,.v (.int .i64 l.length)),(17,.v (.int .i64 ((0:Nat):Int)))]) ?_) ?_;((repeat (first|exact qd|refine qn ?_|refine qM ?_ ?_))))
 all_goals try (rw [List.length_map];done)
 refine qy (fun n σ => ∃ i:Nat,i ≤ l.length ∧ n = l.length - i ∧ (∀ g,g ∈ l.take i → ju g = 0) ∧ σ = ⟨[(0,qo l),(15,qo l),(16,.v (.int .i64 l.length)),(17,.v (.int .i64 (i:Int)))],[],C.nh⟩) l.length ⟨0,Nat.zero_le _,rfl,(by simp),rfl⟩ ?_
 rintro n σ ⟨i,hi,rfl,hsofar,rfl⟩
 by_cases hlt:i < l.length
 ·have hr:=qL (f:=Ent.row) hlt
  have hsm:=hl.each l[i] (List.getElem_mem _)
  have hce:=wS l[i] hsm
  repeat' (first|refine qj ?_|(first|refine jH Tryd.func40 (hce ..) ?_)|((first|refine xsC ?_ ?_);all_goals (intro hc;have hp:=hc;try simp at hp;try (exfalso;omega)))|refine qD ?_ ?_)
  all_goals try (exfalso;omega)
  ·apply qC
   rfl
   exact zK h60 hlt hsofar (by assumption)
  ·refine ⟨l.length - (i + 1),_,by omega,ql (ts:=[(0,qo l),(15,qo l),(16,.v (.int .i64 l.length)),(17,.v (.int .i64 ((i + 1:Nat):Int)))]) ?_,i + 1,by omega,rfl,qY hlt hsofar (by assumption),rfl⟩;((repeat (first|exact qd|refine qn ?_|refine qM ?_ ?_)))
 obtain rfl:i = l.length:=by omega
 have hz:jt ju l = 0:=jR.2 (fun s hs=>hsofar s (by rw [List.take_length];exact hs))
 clear hsofar
 repeat' (first|refine qj ?_|fail|((first|refine xsC ?_ ?_);all_goals (intro hc;have hp:=hc;try simp at hp;try (exfalso;omega)))|refine qD ?_ ?_)
 all_goals try (exfalso;omega)
 (refine Awp.red (ql (ts:=[(0,qo l),(6,.v (.int .i64 ((0 + 1:Nat):Int)))]) ?_) ?_;((repeat (first|exact qd|refine qn ?_|refine qM ?_ ?_))))
 refine qy (fun n σ => ∃ i:Nat,i ≤ (l.drop 1).length ∧ n = (l.drop 1).length - i ∧ (∀ (k:Nat) (h:k + 1 < l.length),k < i → jm (l[k]'(by omega)) l[k + 1] = true) ∧ σ = ⟨[(0,qo l),(6,.v (.int .i64 ((i + 1:Nat):Int)))],[],C.nh⟩) (l.drop 1).length ⟨0,Nat.zero_le _,rfl,(fun k h hk=>absurd hk (Nat.not_lt_zero _)),rfl⟩ ?_
 have hdl:(l.drop 1).length = l.length - 1:=by simp
 rintro n σ ⟨i,hi,rfl,hsofar,rfl⟩
 by_cases hlt:i + 1 < l.length
 ·have hr:=qL (f:=Ent.row) hlt
  have hr':=qL (f:=Ent.row) (l:=l) (i:=i) (by omega)
  have hle:=J7 l[i] l[i + 1]
  repeat' (first|refine qj ?_|fail|((first|refine xsC ?_ ?_);all_goals (intro hc;have hp:=hc;try simp at hp;try (exfalso;omega)))|refine qD ?_ ?_)
  all_goals try (exfalso;omega)
  ·have hrf:¬ qV jm l = true:=fun h=>by
    have:=ye.1 h i hlt
    simp_all
   apply qC
   rfl
   simp [qu,h60,hz,hrf]
  ·have hok:jm l[i] l[i + 1] = true:=(by simp_all)
   refine ⟨(l.drop 1).length - (i + 1),_,by omega,ql (ts:=[(0,qo l),(6,.v (.int .i64 ((i + 1 + 1:Nat):Int)))]) ?_,i + 1,by omega,rfl,(fun k h hk=>by
    by_cases e:k = i
    ·subst e;exact hok
    ·exact hsofar k h (by omega)),rfl⟩;((repeat (first|exact qd|refine qn ?_|refine qM ?_ ?_)))
 have hrise:qV jm l = true:=ye.2 fun k h=>hsofar k h (by simp at hi;omega)
 clear hsofar
 repeat' (first|refine qj ?_|fail|((first|refine xsC ?_ ?_);all_goals (intro hc;have hp:=hc;try simp at hp;try (exfalso;omega)))|refine qD ?_ ?_)
 all_goals try (exfalso;omega)
 (refine Awp.red (ql (ts:=[(0,qo l),(7,.v (.int .i64 (if (l.take 0).any (fun x=>decide (¬ qW l x = 0)) = true then 4 else 0))),(45,qo l),(46,.v (.int .i64 l.length)),(47,.v (.int .i64 ((0:Nat):Int)))]) ?_) ?_;((repeat (first|exact qd|refine qn ?_|refine qM ?_ ?_))))
 all_goals try (rw [List.length_map];done)
 refine qy (fun n σ => ∃ i:Nat,i ≤ l.length ∧ n = l.length - i ∧ (∀ g,g ∈ l.take i → ¬ qW l g = 5) ∧ σ = ⟨[(0,qo l),(7,.v (.int .i64 (if (l.take i).any (fun x=>decide (¬ qW l x = 0)) = true then 4 else 0))),(45,qo l),(46,.v (.int .i64 l.length)),(47,.v (.int .i64 (i:Int)))],[],C.nh⟩) l.length ⟨0,Nat.zero_le _,rfl,(by simp),rfl⟩ ?_
 rintro n σ ⟨i,hi,rfl,hsofar,rfl⟩
 by_cases hlt:i < l.length
 ·have hr:=qL (f:=Ent.row) hlt
  have hsm:=hl.each l[i] (List.getElem_mem _)
  have hpa:=wq l l[i].path hl.len hrise (by have:=hsm.1;omega)
  have hpe:qW l l[i] = _:=kG l l[i].path
  have htk:=List.take_succ_eq_append_getElem hlt
  generalize vj l l[i].path = ok at hpa hpe
  generalize y1 l l[i].path = pe at hpa hpe
  repeat' (first|refine qj ?_|(first|refine jV Tryd.func41 (hpa ..) ?_)|((first|refine xsC ?_ ?_);all_goals (intro hc;have hp:=hc;try simp at hp;try (exfalso;omega)))|refine qD ?_ ?_)
  all_goals try (exfalso;omega)
  ·have h5:qW l l[i] = 5:=(by rw [hpe];simp_all)
   have hany:l.any (fun x=>decide (qW l x = 5)) = true:=List.any_eq_true.2 ⟨l[i],List.getElem_mem _,by simp [h5]⟩
   apply qC
   rfl
   simp [qu,h60,hz,hrise,hany]
  ·have h4:qW l l[i] = 4:=(by rw [hpe];simp_all)
   refine ⟨l.length - (i + 1),_,by omega,ql (ts:=[(0,qo l),(7,.v (.int .i64 (if (l.take (i + 1)).any (fun x=>decide (¬ qW l x = 0)) = true then 4 else 0))),(45,qo l),(46,.v (.int .i64 l.length)),(47,.v (.int .i64 ((i + 1:Nat):Int)))]) ?_,i + 1,by omega,rfl,qY hlt hsofar (by rw [h4];decide),rfl⟩;((repeat (first|exact qd|refine qn ?_|refine qM ?_ ?_));all_goals (rw [htk,List.any_append];simp [h4]))
  ·have h4:qW l l[i] = 0:=(by rw [hpe];simp_all)
   refine ⟨l.length - (i + 1),_,by omega,ql (ts:=[(0,qo l),(7,.v (.int .i64 (if (l.take (i + 1)).any (fun x=>decide (¬ qW l x = 0)) = true then 4 else 0))),(45,qo l),(46,.v (.int .i64 l.length)),(47,.v (.int .i64 ((i + 1:Nat):Int)))]) ?_,i + 1,by omega,rfl,qY hlt hsofar (by rw [h4];decide),rfl⟩;((repeat (first|exact qd|refine qn ?_|refine qM ?_ ?_));all_goals (rw [htk,List.any_append];simp [h4]))
 obtain rfl:i = l.length:=by omega
 rw [List.take_length] at *
 have hno:¬ l.any (fun x=>decide (qW l x = 5)) = true:=fun h=>by
  obtain ⟨x,hx,hk⟩:=List.any_eq_true.1 h
  exact hsofar x hx (by simpa using hk)
 have hE:qu l = if l.any (fun x=>decide (¬ qW l x = 0)) = true then 4 else 0:=by
  unfold qu
  rw [if_neg h60,if_pos hz,if_pos hrise,if_neg hno]
 repeat' (first|refine qj ?_|fail|((first|refine xsC ?_ ?_);all_goals (intro hc;have hp:=hc;try simp at hp;try (exfalso;omega)))|refine qD ?_ ?_)
 all_goals try (exfalso;omega)
 apply qC
 rfl
 exact hE.symm
end Go.Proofs.YtnhpclmbhbblbaaDoor
set_option linter.unusedSimpArgs false
set_option linter.unnecessarySimpa false
set_option maxHeartbeats 1000000
namespace Go.Proofs.YtnhpclmbhbblbaaDoor
open Go.Ab Go.RowKit
set_option maxRecDepth 10000
attribute [local irreducible] Awp jk qG q9 Red qp Go.Ab.Fin qx Rz yS qX qT ResOk jp jd jG qR
def zn (t:List Ent):List AV:=[qo t]
theorem YK (ts:List (List Ent)) (hn:ts.length ≤ 1000000) (hs : ∀ t,t ∈ ts → EBig t):yc C.P 12 [.sl false (ts.map zn)] (.v (.int .i64 (jt qu ts))):=by
 refine qa Tryd.func12 rfl _ Tryd.ntmps12 (Nat.le_of_ble_eq_true rfl) _ Tryd.results12 0 rfl rfl ?_
 repeat' (first|refine qj ?_|fail|((first|refine xsC ?_ ?_);all_goals (intro hc;have hp:=hc;try simp at hp;try (exfalso;omega)))|refine qD ?_ ?_)
 (refine Awp.red (ql (ts:=[(6,.sl false (ts.map zn)),(7,.v (.int .i64 ts.length)),(8,.v (.int .i64 ((0:Nat):Int)))]) ?_) ?_;((repeat (first|exact qd|refine qn ?_|refine qM ?_ ?_))))
 all_goals try (rw [List.length_map];done)
 refine qy (fun n σ => ∃ i:Nat,i ≤ ts.length ∧ n = ts.length - i ∧ (∀ t,t ∈ ts.take i → qu t = 0) ∧ σ = ⟨[(6,.sl false (ts.map zn)),(7,.v (.int .i64 ts.length)),(8,.v (.int .i64 (i:Int)))],[],C.nh⟩) ts.length ⟨0,Nat.zero_le _,rfl,(by simp),rfl⟩ ?_
 rintro n σ ⟨i,hi,rfl,hsofar,rfl⟩
 by_cases hlt:i < ts.length
 ·have hr:=qL (f:=zn) hlt
  have hct:=Je ts[i] (hs _ (List.getElem_mem _))
  repeat' (first|refine qj ?_|(first|refine jV Tryd.func27 (hct ..) ?_)|((first|refine xsC ?_ ?_);all_goals (intro hc;have hp:=hc;try simp at hp;try (exfalso;omega)))|refine qD ?_ ?_)
  all_goals try (exfalso;omega)
  ·apply qC
   rfl
   exact (zR hlt hsofar (by assumption)).symm
  ·refine ⟨ts.length - (i + 1),_,by omega,ql (ts:=[(6,.sl false (ts.map zn)),(7,.v (.int .i64 ts.length)),(8,.v (.int .i64 ((i + 1:Nat):Int)))]) ?_,i + 1,by omega,rfl,qY hlt hsofar (by assumption),rfl⟩;((repeat (first|exact qd|refine qn ?_|refine qM ?_ ?_)))
 obtain rfl:i = ts.length:=by omega
 have hz:jt qu ts = 0:=jR.2 (fun s hs=>hsofar s (by rw [List.take_length];exact hs))
 clear hsofar
 repeat' (first|refine qj ?_|fail|((first|refine xsC ?_ ?_);all_goals (intro hc;have hp:=hc;try simp at hp;try (exfalso;omega)))|refine qD ?_ ?_)
 all_goals try (exfalso;omega)
 apply qC
 rfl
 exact hz.symm
theorem v6 (l:List Ent) (hl:EBig l):yc C.P 12 [.sl false [[qo l]]] (.v (.int .i64 (qu l))):=by
 have h:=YK [l] (by simp) (by simpa using hl)
 rw [show jt qu [l] = qu l from by simp only [jt];split<;>simp_all] at h
 exact h
theorem YI (l:List Ent) (p:qv) (hl:l.length ≤ 1000000000):yc C.P 22 [qo l,.v (str p)] (.v (.int .i64 (ym (atP p) l))):=by
 refine qa Tryd.func22 rfl _ Tryd.ntmps22 (Nat.le_of_ble_eq_true rfl) _ Tryd.results22 0 rfl rfl ?_
 repeat' (first|refine qj ?_|fail|((first|refine xsC ?_ ?_);all_goals (intro hc;have hp:=hc;try simp at hp;try (exfalso;omega)))|refine qD ?_ ?_)
 (refine Awp.red (ql (ts:=[(0,qo l),(1,.v (str p)),(5,.v (.int .i64 ((0:Nat):Int)))]) ?_) ?_;((repeat (first|exact qd|refine qn ?_|refine qM ?_ ?_))))
 refine qy (fun n σ => ∃ i:Nat,i ≤ l.length ∧ n = l.length - i ∧ (∀ x,x ∈ l.take i → atP p x = false) ∧ σ = ⟨[(0,qo l),(1,.v (str p)),(5,.v (.int .i64 (i:Int)))],[],C.nh⟩) l.length ⟨0,Nat.zero_le _,rfl,(by simp),rfl⟩ ?_
 rintro n σ ⟨i,hi,rfl,hsofar,rfl⟩
 by_cases hlt:i < l.length
 ·have hr:=qL (f:=Ent.row) hlt
  repeat' (first|refine qj ?_|fail|((first|refine xsC ?_ ?_);all_goals (intro hc;have hp:=hc;try simp at hp;try (exfalso;omega)))|refine qD ?_ ?_)
  all_goals try (exfalso;omega)
  ·apply qC
   rfl
   exact (zi hlt hsofar (by simp_all [atP])).symm
  ·refine ⟨l.length - (i + 1),_,by omega,ql (ts:=[(0,qo l),(1,.v (str p)),(5,.v (.int .i64 ((i + 1:Nat):Int)))]) ?_,i + 1,by omega,rfl,qY hlt hsofar (by simp_all [atP]),rfl⟩;((repeat (first|exact qd|refine qn ?_|refine qM ?_ ?_)))
 obtain rfl:i = l.length:=by omega
 repeat' (first|refine qj ?_|fail|((first|refine xsC ?_ ?_);all_goals (intro hc;have hp:=hc;try simp at hp;try (exfalso;omega)))|refine qD ?_ ?_)
 all_goals try (exfalso;omega)
 apply qC
 rfl
 rw [xN fun x hx=>hsofar x (by rw [List.take_length];exact hx)]
theorem vW (l:List Ent) (p:qv) (hl:l.length ≤ 1000000000):yc C.P 8 [qo l,.v (str p)] (.v (.int .i64 (q0 l p))):=by
 have hea:=YI l p hl
 have hE:q0 l p = if p = [] then 0 else match l.find? (atP p) with|none=>5|some x=>if x.fold = true then 0 else 4:=rfl
 generalize q0 l p = E at *
 rcases JM (atP p) l with ⟨h1,h2⟩|⟨k,hk,h1,h2⟩
 ·rw [h1] at hea
  rw [h2] at hE
  refine qa Tryd.func8 rfl _ Tryd.ntmps8 (Nat.le_of_ble_eq_true rfl) _ Tryd.results8 0 rfl rfl ?_
  repeat' (first|refine qj ?_|(first|refine jH Tryd.func22 (hea ..) ?_)|((first|refine xsC ?_ ?_);all_goals (intro hc;have hp:=hc;try simp at hp;try (exfalso;omega)))|refine qD ?_ ?_)
  all_goals try (exfalso;omega)
  all_goals (apply qC;rfl;simp_all)
 ·rw [h1] at hea
  rw [h2] at hE
  have hr:=qL (f:=Ent.row) hk
  refine qa Tryd.func8 rfl _ Tryd.ntmps8 (Nat.le_of_ble_eq_true rfl) _ Tryd.results8 0 rfl rfl ?_
  repeat' (first|refine qj ?_|(first|refine jH Tryd.func22 (hea ..) ?_)|((first|refine xsC ?_ ?_);all_goals (intro hc;have hp:=hc;try simp at hp;try (exfalso;omega)))|refine qD ?_ ?_)
  all_goals try (exfalso;omega)
  all_goals (apply qC;rfl;simp_all)
end Go.Proofs.YtnhpclmbhbblbaaDoor
set_option linter.unusedSimpArgs false
set_option linter.unnecessarySimpa false
set_option maxHeartbeats 1000000
namespace Go.Proofs.YtnhpclmbhbblbaaDoor
open Go.Ab Go.RowKit
set_option maxRecDepth 10000
attribute [local irreducible] Awp jk qG q9 Red qp Go.Ab.Fin qx Rz yS qX qT ResOk jp jd jG qR
theorem Jr {e:Ent} (h:¬ qg e.path = 0):ju e = qg e.path:=by simp [ju,h]
theorem QP {e:Ent} (h:qg e.path = 0):ju e = (if e.fold = true ∧ ¬ e.text = [] then 1 else if 300 < e.text.length then 2 else if yD e.ver = true then 0 else 3):=by simp [ju,h]
theorem Qg (l:List Ent) (hl:EBig l):yc C.P 6 [qo l] (.v (.int .i64 (qu l))):=by
 have hll:=hl.len
 refine qa Tryd.func6 rfl _ Tryd.ntmps6 (Nat.le_of_ble_eq_true rfl) _ Tryd.results6 0 rfl rfl ?_
 repeat' (first|refine qj ?_|fail|((first|refine qe ?_ ?_|refine qf ?_ ?_|refine xsC ?_ ?_);all_goals (intro hc;have hp:=hc;try simp at hp;try (exfalso;omega)))|refine qD ?_ ?_)
 ·apply qC
  rfl
  have h60:60 < l.length:=by omega
  simp [qu,h60]
 have h60:¬ 60 < l.length:=by omega
 (refine Awp.red (ql (ts:=[(0,qo l),(3,.v (.int .i64 ((0:Nat):Int)))]) ?_) ?_;((repeat (first|exact qd|refine qn ?_|refine qM ?_ ?_))))
 refine qy (fun n σ => ∃ i:Nat,i ≤ l.length ∧ n = l.length - i ∧ (∀ g,g ∈ l.take i → ju g = 0) ∧ σ = ⟨[(0,qo l),(3,.v (.int .i64 (i:Int)))],[],C.nh⟩) l.length ⟨0,Nat.zero_le _,rfl,(by simp),rfl⟩ ?_
 rintro n σ ⟨i,hi,rfl,hsofar,rfl⟩
 by_cases hlt:i < l.length
 ·have hr:=qL (f:=Ent.row) hlt
  have hsm:=hl.each l[i] (List.getElem_mem _)
  have hcp:=zM l[i].path (by have:=hsm.1;omega)
  have hvr:=Xz l[i].ver
  have hlen:=hsm.2
  have hfo := @Jr l[i]
  have hre := @QP l[i]
  have hte:=fun h => @zK l h60 i hlt hsofar h
  have hnx:=fun h=>qY (p:=fun g=>ju g = 0) hlt hsofar h
  generalize ju l[i] = E at *
  generalize qg l[i].path = F at *
  generalize yD l[i].ver = V at *
  repeat' (first|refine qj ?_|(first|refine jH Tryd.func7 (hcp ..) ?_|refine jH Tryd.func17 (hvr ..) ?_)|((first|refine qe ?_ ?_|refine qf ?_ ?_|refine xsC ?_ ?_);all_goals (intro hc;have hp:=hc;try simp at hp;try (exfalso;omega)))|refine qD ?_ ?_)
  all_goals try (exfalso;omega)
  all_goals first
   | (apply qC
      rfl
      refine Eq.trans ?_ (hte ?_)<;>(clear hte hnx;simp_all)<;>(try omega)
      done)
   | (refine ⟨l.length - (i + 1),_,by omega,ql (ts:=[(0,qo l),(3,.v (.int .i64 ((i + 1:Nat):Int)))]) ?_,i + 1,by omega,rfl,hnx (by clear hte;simp_all;try omega),rfl⟩;((repeat (first|exact qd|refine qn ?_|refine qM ?_ ?_))))
 obtain rfl:i = l.length:=by omega
 have hz:jt ju l = 0:=jR.2 (fun s hs=>hsofar s (by rw [List.take_length];exact hs))
 clear hsofar
 repeat' (first|refine qj ?_|fail|((first|refine qe ?_ ?_|refine qf ?_ ?_|refine xsC ?_ ?_);all_goals (intro hc;have hp:=hc;try simp at hp;try (exfalso;omega)))|refine qD ?_ ?_)
 all_goals try (exfalso;omega)
 (refine Awp.red (ql (ts:=[(0,qo l),(5,.v (.int .i64 ((0 + 1:Nat):Int)))]) ?_) ?_;((repeat (first|exact qd|refine qn ?_|refine qM ?_ ?_))))
 refine qy (fun n σ => ∃ i:Nat,i ≤ (l.drop 1).length ∧ n = (l.drop 1).length - i ∧ (∀ (k:Nat) (h:k + 1 < l.length),k < i → jm (l[k]'(by omega)) l[k + 1] = true) ∧ σ = ⟨[(0,qo l),(5,.v (.int .i64 ((i + 1:Nat):Int)))],[],C.nh⟩) (l.drop 1).length ⟨0,Nat.zero_le _,rfl,(fun k h hk=>absurd hk (Nat.not_lt_zero _)),rfl⟩ ?_
 have hdl:(l.drop 1).length = l.length - 1:=by simp
 rintro n σ ⟨i,hi,rfl,hsofar,rfl⟩
 by_cases hlt:i + 1 < l.length
 ·have hr:=qL (f:=Ent.row) hlt
  have hr':=qL (f:=Ent.row) (l:=l) (i:=i) (by omega)
  have hle:=J7 l[i] l[i + 1]
  repeat' (first|refine qj ?_|fail|((first|refine qe ?_ ?_|refine qf ?_ ?_|refine xsC ?_ ?_);all_goals (intro hc;have hp:=hc;try simp at hp;try (exfalso;omega)))|refine qD ?_ ?_)
  all_goals try (exfalso;omega)
  ·have hrf:¬ qV jm l = true:=fun h=>by
    have:=ye.1 h i hlt
    simp_all
   apply qC
   rfl
   simp [qu,h60,hz,hrf]
  ·have hok:jm l[i] l[i + 1] = true:=(by simp_all)
   refine ⟨(l.drop 1).length - (i + 1),_,by omega,ql (ts:=[(0,qo l),(5,.v (.int .i64 ((i + 1 + 1:Nat):Int)))]) ?_,i + 1,by omega,rfl,(fun k h hk=>by
    by_cases e:k = i
    ·subst e;exact hok
    ·exact hsofar k h (by omega)),rfl⟩;((repeat (first|exact qd|refine qn ?_|refine qM ?_ ?_)))
 have hrise:qV jm l = true:=ye.2 fun k h=>hsofar k h (by simp at hi;omega)
 clear hsofar
 repeat' (first|refine qj ?_|fail|((first|refine qe ?_ ?_|refine qf ?_ ?_|refine xsC ?_ ?_);all_goals (intro hc;have hp:=hc;try simp at hp;try (exfalso;omega)))|refine qD ?_ ?_)
 all_goals try (exfalso;omega)
 (refine Awp.red (ql (ts:=[(0,qo l),(6,.v (.int .i64 ((0:Nat):Int)))]) ?_) ?_;((repeat (first|exact qd|refine qn ?_|refine qM ?_ ?_))))
 refine qy (fun n σ => ∃ i:Nat,i ≤ l.length ∧ n = l.length - i ∧ (∀ g,g ∈ l.take i → ¬ qW l g = 5) ∧ σ = ⟨[(0,qo l),(6,.v (.int .i64 (i:Int)))],[],C.nh⟩) l.length ⟨0,Nat.zero_le _,rfl,(by simp),rfl⟩ ?_
 rintro n σ ⟨i,hi,rfl,hsofar,rfl⟩
 by_cases hlt:i < l.length
 ·have hr:=qL (f:=Ent.row) hlt
  have hsm:=hl.each l[i] (List.getElem_mem _)
  have hpo:=vR l[i].path (by have:=hsm.1;omega)
  have hif:yc C.P 8 [qo l,.v (str (qm l[i].path))] (.v (.int .i64 (qW l l[i]))):=vW l (qm l[i].path) hl.len
  have hnx:=fun h=>qY (p:=fun g => ¬ qW l g = 5) hlt hsofar h
  have hany:qW l l[i] = 5 → l.any (fun x=>decide (qW l x = 5)) = true:=fun h=>List.any_eq_true.2 ⟨l[i],List.getElem_mem _,by simp [h]⟩
  generalize qW l l[i] = E at hif hnx hany
  repeat' (first|refine qj ?_|(first|refine jH Tryd.func18 (hpo ..) ?_|refine jH Tryd.func8 (hif ..) ?_)|((first|refine qe ?_ ?_|refine qf ?_ ?_|refine xsC ?_ ?_);all_goals (intro hc;have hp:=hc;try simp at hp;try (exfalso;omega)))|refine qD ?_ ?_)
  all_goals try (exfalso;omega)
  ·have hany:=hany (by assumption)
   apply qC
   rfl
   simp [qu,h60,hz,hrise,hany]
  ·refine ⟨l.length - (i + 1),_,by omega,ql (ts:=[(0,qo l),(6,.v (.int .i64 ((i + 1:Nat):Int)))]) ?_,i + 1,by omega,rfl,hnx (by assumption),rfl⟩;((repeat (first|exact qd|refine qn ?_|refine qM ?_ ?_)))
 obtain rfl:i = l.length:=by omega
 rw [List.take_length] at *
 have hno:¬ l.any (fun x=>decide (qW l x = 5)) = true:=fun h=>by
  obtain ⟨x,hx,hk⟩:=List.any_eq_true.1 h
  exact hsofar x hx (by simpa using hk)
 have hE:qu l = if l.any (fun x=>decide (¬ qW l x = 0)) = true then 4 else 0:=by
  unfold qu
  rw [if_neg h60,if_pos hz,if_pos hrise,if_neg hno]
 clear hsofar
 repeat' (first|refine qj ?_|fail|((first|refine qe ?_ ?_|refine qf ?_ ?_|refine xsC ?_ ?_);all_goals (intro hc;have hp:=hc;try simp at hp;try (exfalso;omega)))|refine qD ?_ ?_)
 all_goals try (exfalso;omega)
 (refine Awp.red (ql (ts:=[(0,qo l),(7,.v (.int .i64 ((0:Nat):Int)))]) ?_) ?_;((repeat (first|exact qd|refine qn ?_|refine qM ?_ ?_))))
 refine qy (fun n σ => ∃ i:Nat,i ≤ l.length ∧ n = l.length - i ∧ (∀ g,g ∈ l.take i → qW l g = 0) ∧ σ = ⟨[(0,qo l),(7,.v (.int .i64 (i:Int)))],[],C.nh⟩) l.length ⟨0,Nat.zero_le _,rfl,(by simp),rfl⟩ ?_
 rintro n σ ⟨i,hi,rfl,hsofar,rfl⟩
 by_cases hlt:i < l.length
 ·have hr:=qL (f:=Ent.row) hlt
  have hsm:=hl.each l[i] (List.getElem_mem _)
  have hpo:=vR l[i].path (by have:=hsm.1;omega)
  have hif:yc C.P 8 [qo l,.v (str (qm l[i].path))] (.v (.int .i64 (qW l l[i]))):=vW l (qm l[i].path) hl.len
  have hnx:=fun h=>qY (p:=fun g=>qW l g = 0) hlt hsofar h
  have hany:¬ qW l l[i] = 0 → l.any (fun x=>decide (¬ qW l x = 0)) = true:=fun h=>List.any_eq_true.2 ⟨l[i],List.getElem_mem _,by simp [h]⟩
  generalize qW l l[i] = E at hif hnx hany
  repeat' (first|refine qj ?_|(first|refine jH Tryd.func18 (hpo ..) ?_|refine jH Tryd.func8 (hif ..) ?_)|((first|refine qe ?_ ?_|refine qf ?_ ?_|refine xsC ?_ ?_);all_goals (intro hc;have hp:=hc;try simp at hp;try (exfalso;omega)))|refine qD ?_ ?_)
  all_goals try (exfalso;omega)
  ·have hany:=hany (by assumption)
   apply qC
   rfl
   rw [hE,if_pos hany]
  ·refine ⟨l.length - (i + 1),_,by omega,ql (ts:=[(0,qo l),(7,.v (.int .i64 ((i + 1:Nat):Int)))]) ?_,i + 1,by omega,rfl,hnx (by assumption),rfl⟩;((repeat (first|exact qd|refine qn ?_|refine qM ?_ ?_)))
 obtain rfl:i = l.length:=by omega
 rw [List.take_length] at *
 have hno:¬ l.any (fun x=>decide (¬ qW l x = 0)) = true:=fun h=>by
  obtain ⟨x,hx,hk⟩:=List.any_eq_true.1 h
  simp at hk
  exact hk (hsofar x hx)
 repeat' (first|refine qj ?_|fail|((first|refine qe ?_ ?_|refine qf ?_ ?_|refine xsC ?_ ?_);all_goals (intro hc;have hp:=hc;try simp at hp;try (exfalso;omega)))|refine qD ?_ ?_)
 all_goals try (exfalso;omega)
 apply qC
 rfl
 rw [hE,if_neg hno]
end Go.Proofs.YtnhpclmbhbblbaaDoor
set_option linter.unusedSimpArgs false
set_option linter.unnecessarySimpa false
set_option linter.unusedVariables false
set_option maxHeartbeats 1000000
namespace Go.Proofs.YtnhpclmbhbblbaaDoor
open Go.Ab Go.RowKit
set_option maxRecDepth 10000
attribute [local irreducible] Awp jk qG q9 Red qp Go.Ab.Fin qx Rz yS qX qT ResOk jp jd jG qR
def zg (c:Chg):Int:=if (¬ c.kind = 3 ∧ ¬ c.to = []) ∨ (¬ c.kind = 2 ∧ ¬ c.text = []) then 1 else if 300 < c.text.length then 2 else if c.base < -1 ∨ 1000000 < c.base then 3 else 0
def yo (c:Chg):Int :=
 if c.kind < 1 ∨ 4 < c.kind then 7
 else if ¬ qg c.path = 0 then qg c.path
 else if c.kind = 3 ∧ ¬ qg c.to = 0 then qg c.to
 else zg c
theorem VE (c:Chg) (hc:c.small):yc C.P 58 [.agg c.row] (.v (.int .i64 (yo c))):=by
 obtain ⟨h1,h2,h3⟩:=hc
 have hpp:=v2 c.path (by omega)
 have ht:=v2 c.to (by omega)
 have hR:zg c = if (¬ c.kind = 3 ∧ ¬ c.to = []) ∨ (¬ c.kind = 2 ∧ ¬ c.text = []) then 1 else if 300 < c.text.length then 2 else if c.base < -1 ∨ 1000000 < c.base then 3 else 0:=rfl
 have hE:yo c = if c.kind < 1 ∨ 4 < c.kind then 7 else if ¬ qg c.path = 0 then qg c.path else if c.kind = 3 ∧ ¬ qg c.to = 0 then qg c.to else zg c:=rfl
 generalize yo c = E at *
 generalize zg c = R at *
 generalize qg c.path = F at *
 generalize qg c.to = G at *
 refine qa Tryd.func58 rfl _ Tryd.ntmps58 (Nat.le_of_ble_eq_true rfl) _ Tryd.results58 0 rfl rfl ?_
 repeat' (first|refine qj ?_|(first|refine jH Tryd.func13 (hpp ..) ?_|refine jH Tryd.func13 (ht ..) ?_)|((first|refine qe ?_ ?_|refine qf ?_ ?_|refine xsC ?_ ?_);all_goals (intro hc;have hp:=hc;try simp at hp;try (exfalso;omega)))|refine qD ?_ ?_)
 all_goals try (exfalso;omega)
 all_goals (apply qC;rfl)
 all_goals (rw [hE])
 all_goals first
  | (rw [if_pos (by omega)];done)
  | (rw [if_neg (by omega)]
     first
     | (rw [if_pos (by assumption)];done)
     | (rw [if_neg (by omega)]
        first
        | (rw [if_pos ⟨by assumption,by assumption⟩];done)
        | (rw [if_neg (by rintro ⟨_,_⟩;simp_all),hR]
           first
           | (rw [if_pos (by simp_all)];done)
           | (rw [if_neg (by simp_all)]
              first
              | (rw [if_pos (by omega)];done)
              | (rw [if_neg (by omega)]
                 first
                 | (rw [if_pos (by omega)];done)
                 | (rw [if_neg (by omega)];done))))))
end Go.Proofs.YtnhpclmbhbblbaaDoor
set_option linter.unusedSimpArgs false
set_option linter.unnecessarySimpa false
set_option linter.unusedVariables false
set_option maxHeartbeats 1000000
namespace Go.Proofs.YtnhpclmbhbblbaaDoor
open Go.Ab Go.RowKit
set_option maxRecDepth 10000
attribute [local irreducible] Awp jk qG q9 Red qp Go.Ab.Fin qx Rz yS qX qT ResOk jp jd jG qR
theorem QW (p:Ent → Bool) (g:FuncId) (hg:IsFn C.P g) (cap:List AV) (hcap:AV.pure.pureL cap = true) (l:List (Ent)) (hl:l.length ≤ 1000000) (hc : ∀ s,s ∈ l → yc C.P g ((AV.agg (Ent.row s)) :: cap) (.v (.bool (p s)))) :
  yc C.P 84 [.sl false (l.map Ent.row),.clo (.func g) [] cap] (.v (.int .i64 (ym p l))):=by
 refine qa Tryd.func84 rfl _ Tryd.ntmps84 (Nat.le_of_ble_eq_true rfl) _ Tryd.results84 0 rfl rfl ?_
 repeat' (first|refine qj ?_|fail|((first|refine xsC ?_ ?_);all_goals (intro hc;have hp:=hc;try simp at hp;try (exfalso;omega)))|refine qD ?_ ?_)
 (refine Awp.red (ql (ts:=[(0,.sl false (l.map Ent.row)),(1,.clo (.func g) [] cap),(7,.v (.int .i64 l.length)),(8,.v (.int .i64 ((0:Nat):Int)))]) ?_) ?_;((repeat (first|exact qd|refine qn ?_|refine qM ?_ ?_))))
 all_goals try (rw [List.length_map];done)
 refine qy (fun n σ => ∃ i:Nat,i ≤ l.length ∧ n = l.length - i ∧ (∀ s,s ∈ l.take i → p s = false) ∧ σ = ⟨[(0,.sl false (l.map Ent.row)),(1,.clo (.func g) [] cap),(7,.v (.int .i64 l.length)),(8,.v (.int .i64 (i:Int)))],[],C.nh⟩) l.length ⟨0,Nat.zero_le _,rfl,(by simp),rfl⟩ ?_
 rintro n σ ⟨i,hi,rfl,hsofar,rfl⟩
 by_cases hlt:i < l.length
 ·have hr:=qL (f:=Ent.row) hlt
  have hci:=hc l[i] (List.getElem_mem _)
  repeat' (first|refine qj ?_|(first|(apply qh;apply zd [];rfl;exact hg;exact hci;(case hz=>exact qw (qK rfl) (kq hcap));(case hfl=>rfl);(case hN=>exact nle rfl)))|((first|refine xsC ?_ ?_);all_goals (intro hc;have hp:=hc;try simp at hp;try (exfalso;omega)))|refine qD ?_ ?_)
  all_goals try (exfalso;omega)
  ·apply qC
   rfl
   exact (zi hlt hsofar hp).symm
  ·refine ⟨l.length - (i + 1),_,by omega,ql (ts:=[(0,.sl false (l.map Ent.row)),(1,.clo (.func g) [] cap),(7,.v (.int .i64 l.length)),(8,.v (.int .i64 ((i + 1:Nat):Int)))]) ?_,i + 1,by omega,rfl,qY hlt hsofar hp,rfl⟩;((repeat (first|exact qd|refine qn ?_|refine qM ?_ ?_)))
 obtain rfl:i = l.length:=by omega
 repeat' (first|refine qj ?_|fail|((first|refine xsC ?_ ?_);all_goals (intro hc;have hp:=hc;try simp at hp;try (exfalso;omega)))|refine qD ?_ ?_)
 all_goals try (exfalso;omega)
 apply qC
 rfl
 exact (xN fun s hs=>hsofar s (by rw [List.take_length];exact hs)).symm
theorem Jt (p:Ent → Bool) (g:FuncId) (hg:IsFn C.P g) (cap:List AV) (hcap:AV.pure.pureL cap = true) (l:List (Ent)) (hl:l.length ≤ 1000000) (hc : ∀ s,s ∈ l → yc C.P g ((AV.agg (Ent.row s)) :: cap) (.v (.bool (p s)))) :
  yc C.P 72 [.sl false (l.map Ent.row),.clo (.func g) [] cap] (.v (.bool (l.any p))):=by
 have hidx:=QW p g hg cap hcap l hl hc
 refine qa Tryd.func72 rfl _ Tryd.ntmps72 (Nat.le_of_ble_eq_true rfl) _ Tryd.results72 0 rfl rfl ?_
 repeat' (first|refine qj ?_|(first|(apply qh;apply yl [];exact jJ Tryd.func84 rfl rfl;exact hidx;(case hz=>exact qw (qK rfl) (qw (vn hcap) qS));(case hfl=>rfl);(case hN=>exact nle rfl)))|((first|refine xsC ?_ ?_);all_goals (intro hc;have hp:=hc;try simp at hp;try (exfalso;omega)))|refine qD ?_ ?_)
 apply q8
 rfl
 rw [← YC]
def yp (c:Chg):qv:=if c.kind = 3 then c.to else c.path
def z8 (c:Chg) (x:Ent):Bool:=decide (c.base < x.ver) && inB x.path c.path
def zF (t:List Ent) (p:qv):Bool:=match t.find? (atP p) with|some x=>x.fold|none=>false
def wJ (t:List Ent) (c:Chg):Int:=if c.kind = 1 then (if jY t c.path = true then 6 else 0) else if c.kind = 2 then (if zF t c.path = true then 4 else 0) else (if jY t c.path = true then 0 else 5)
def wC (t:List Ent) (c:Chg):Int:=if c.kind = 3 then (if inB c.to c.path = true then 3 else if jY t c.to = true then 6 else 0) else 0
def zb (t:List Ent) (c:Chg):Int:=if ¬ c.base = -1 ∧ t.any (z8 c) = true then 8 else 0
def xy (t:List Ent) (c:Chg):Int :=
 if ¬ q0 t (qm (yp c)) = 0 then q0 t (qm (yp c))
 else if ¬ wJ t c = 0 then wJ t c
 else if ¬ wC t c = 0 then wC t c else zb t c
theorem VQ (x:Ent) (c:Chg) (hc:c.path.length ≤ 140737488355328):yc C.P 71 [.agg x.row,.fp [c.row] 0 0] (.v (.bool (z8 c x))):=by
 have hin:=Yn x.path c.path hc
 have hE:z8 c x = (decide (c.base < x.ver) && inB x.path c.path):=rfl
 generalize z8 c x = E at *
 generalize inB x.path c.path = I at *
 refine qa Tryd.func71 rfl _ Tryd.ntmps71 (Nat.le_of_ble_eq_true rfl) _ Tryd.results71 0 rfl rfl ?_
 repeat' (first|refine qj ?_|(first|refine jH Tryd.func70 (hin ..) ?_)|((first|refine qe ?_ ?_|refine qf ?_ ?_|refine xsC ?_ ?_);all_goals (intro hc;have hp:=hc;try simp at hp;try (exfalso;omega)))|refine qD ?_ ?_)
 all_goals (apply q8;rfl;rw [hE];simp_all;try (intro _;omega))
theorem V3 (t:List Ent) (c:Chg) (hl:t.length ≤ 1000000) (hs:qV jm t = true) (hcs:c.small):yc C.P 59 [qo t,.agg c.row] (.v (.int .i64 (xy t c))):=by
 obtain ⟨l1,l2,l3⟩:=hcs
 have hpa:=wq t (yp c) (by omega) hs (by unfold yp;split<;>omega)
 have hfe:=kG t (yp c)
 have hat:=Xk t c.path (by omega) hs
 have hat2:=Xk t c.to (by omega) hs
 have hin:=Yn c.to c.path (by omega)
 have hcon:=Jt (z8 c) 71 (jJ Tryd.func71 rfl rfl) [.fp [c.row] 0 0] rfl t hl (fun x _=>VQ x c (by omega))
 have hE:xy t c = if ¬ q0 t (qm (yp c)) = 0 then q0 t (qm (yp c)) else if ¬ wJ t c = 0 then wJ t c else if ¬ wC t c = 0 then wC t c else zb t c:=rfl
 have hI:wJ t c = if c.kind = 1 then (if jY t c.path = true then 6 else 0) else if c.kind = 2 then (if zF t c.path = true then 4 else 0) else (if jY t c.path = true then 0 else 5):=rfl
 have hM:wC t c = if c.kind = 3 then (if inB c.to c.path = true then 3 else if jY t c.to = true then 6 else 0) else 0:=rfl
 have hS:zb t c = if ¬ c.base = -1 ∧ t.any (z8 c) = true then 8 else 0:=rfl
 have hrow:jY t c.path = true → ∃ hk:jC t c.path < t.length,zF t c.path = t[jC t c.path].fold:=fun h=>by
  obtain ⟨hk,_,hfi,_⟩:=z1 hs h
  exact ⟨hk,by unfold zF;rw [hfi]⟩
 have hnorow:jY t c.path = false → zF t c.path = false:=fun h=>by
  unfold zF;rw [(zu h).1]
 have hg3:c.kind = 3 → yp c = c.to:=fun h=>by simp [yp,h]
 have hg0:¬ c.kind = 3 → yp c = c.path:=fun h=>by simp [yp,h]
 generalize xy t c = E at *
 generalize wJ t c = I at *
 generalize wC t c = Mv at *
 generalize zb t c = S at *
 generalize t.any (z8 c) = NW at *
 generalize inB c.to c.path = IB at *
 generalize jY t c.to = HT at *
 generalize jC t c.to = PT at *
 generalize q0 t (qm (yp c)) = FE at *
 generalize vj t (yp c) = OK at *
 generalize y1 t (yp c) = PE at *
 cases hh:jY t c.path with
 | true =>
   obtain ⟨hk,hfo⟩:=hrow hh
   rw [hh] at hat hI
   rw [hfo] at hI
   have hr:=qL (f:=Ent.row) hk
   clear hrow hnorow
   generalize jC t c.path = k at *
   by_cases k3:c.kind = 3
   ·rw [hg3 k3] at hpa
    refine qa Tryd.func59 rfl _ Tryd.ntmps59 (Nat.le_of_ble_eq_true rfl) _ Tryd.results59 0 rfl rfl ?_
    repeat' (first|refine qj ?_|(first|refine jV Tryd.func41 (hpa ..) ?_|refine jV Tryd.func14 (hat ..) ?_|refine jV Tryd.func14 (hat2 ..) ?_|refine jH Tryd.func70 (hin ..) ?_|(apply qh;apply yl ([0]);exact jJ Tryd.func72 rfl rfl;exact hcon;(case hz=>(refine qw (qK rfl) (qw (jN qS (qw (Xe rfl (by simp) (yG (fun row hrow=>by rw [List.mem_singleton.1 hrow];rfl))) qS)) qS)));(case hfl=>rfl);(case hN=>exact nle rfl)))|((first|refine qe ?_ ?_|refine qf ?_ ?_|refine xsC ?_ ?_);all_goals (intro hc;have hp:=hc;try simp at hp;try (exfalso;omega)))|refine qD ?_ ?_)
    all_goals try (exfalso;omega)
    all_goals (apply qC;rfl;clear hat hat2 hcon hpa hin;simp_all)
   ·rw [hg0 k3] at hpa
    refine qa Tryd.func59 rfl _ Tryd.ntmps59 (Nat.le_of_ble_eq_true rfl) _ Tryd.results59 0 rfl rfl ?_
    repeat' (first|refine qj ?_|(first|refine jV Tryd.func41 (hpa ..) ?_|refine jV Tryd.func14 (hat ..) ?_|refine jV Tryd.func14 (hat2 ..) ?_|refine jH Tryd.func70 (hin ..) ?_|(apply qh;apply yl ([0]);exact jJ Tryd.func72 rfl rfl;exact hcon;(case hz=>(refine qw (qK rfl) (qw (jN qS (qw (Xe rfl (by simp) (yG (fun row hrow=>by rw [List.mem_singleton.1 hrow];rfl))) qS)) qS)));(case hfl=>rfl);(case hN=>exact nle rfl)))|((first|refine qe ?_ ?_|refine qf ?_ ?_|refine xsC ?_ ?_);all_goals (intro hc;have hp:=hc;try simp at hp;try (exfalso;omega)))|refine qD ?_ ?_)
    all_goals try (exfalso;omega)
    all_goals (apply qC;rfl;clear hat hat2 hcon hpa hin;simp_all)
 | false =>
   have hfo:=hnorow hh
   rw [hh] at hat hI
   rw [hfo] at hI
   clear hrow hnorow
   generalize jC t c.path = k at *
   by_cases k3:c.kind = 3
   ·rw [hg3 k3] at hpa
    refine qa Tryd.func59 rfl _ Tryd.ntmps59 (Nat.le_of_ble_eq_true rfl) _ Tryd.results59 0 rfl rfl ?_
    repeat' (first|refine qj ?_|(first|refine jV Tryd.func41 (hpa ..) ?_|refine jV Tryd.func14 (hat ..) ?_|refine jV Tryd.func14 (hat2 ..) ?_|refine jH Tryd.func70 (hin ..) ?_)|((first|refine qe ?_ ?_|refine qf ?_ ?_|refine xsC ?_ ?_);all_goals (intro hc;have hp:=hc;try simp at hp;try (exfalso;omega)))|refine qD ?_ ?_)
    all_goals try (exfalso;omega)
    all_goals (apply qC;rfl;clear hat hat2 hcon hpa hin;simp_all)
   ·rw [hg0 k3] at hpa
    refine qa Tryd.func59 rfl _ Tryd.ntmps59 (Nat.le_of_ble_eq_true rfl) _ Tryd.results59 0 rfl rfl ?_
    repeat' (first|refine qj ?_|(first|refine jV Tryd.func41 (hpa ..) ?_|refine jV Tryd.func14 (hat ..) ?_|refine jV Tryd.func14 (hat2 ..) ?_|refine jH Tryd.func70 (hin ..) ?_|(apply qh;apply yl ([0]);exact jJ Tryd.func72 rfl rfl;exact hcon;(case hz=>(refine qw (qK rfl) (qw (jN qS (qw (Xe rfl (by simp) (yG (fun row hrow=>by rw [List.mem_singleton.1 hrow];rfl))) qS)) qS)));(case hfl=>rfl);(case hN=>exact nle rfl)))|((first|refine qe ?_ ?_|refine qf ?_ ?_|refine xsC ?_ ?_);all_goals (intro hc;have hp:=hc;try simp at hp;try (exfalso;omega)))|refine qD ?_ ?_)
    all_goals try (exfalso;omega)
    all_goals (apply qC;rfl;clear hat hat2 hcon hpa hin;simp_all)
end Go.Proofs.YtnhpclmbhbblbaaDoor
set_option linter.unusedSimpArgs false
set_option linter.unnecessarySimpa false
set_option linter.unusedVariables false
set_option maxHeartbeats 1000000
namespace Go.Proofs.YtnhpclmbhbblbaaDoor
open Go.Ab Go.RowKit
set_option maxRecDepth 10000
attribute [local irreducible] Awp jk qG q9 Red qp Go.Ab.Fin qx Rz yS qX qT ResOk jp jd jG qR
theorem QZ (l:List Ent) (hl:l.length ≤ 1000000) :
  qx C.P 39 [qo l] [] (.os 0 0 l.length) [.own false 4 (l.map Ent.row)]:=by
 by_cases h0:l = []
 ·subst h0
  refine qa Tryd.func39 rfl _ Tryd.ntmps39 (Nat.le_of_ble_eq_true rfl) _ Tryd.results39 0 rfl rfl ?_
  repeat' (first|refine qj ?_|(first|(refine jr ?_)|(refine Y5 ?_)|(refine X6 ?_))|((first|refine xsC ?_ ?_);all_goals (intro hc;have hp:=hc;try simp at hp;try (exfalso;omega)))|refine qD ?_ ?_)
  · (refine Qf (C:=C) (vB (C:=C) 2 4 rfl (Nat.zero_le _)) ?_)
    (refine J9 (rs:=[.tmp 2]) [(0,0)] 1 ?_;(repeat (first|exact qr|refine jT ?_|refine jb ?_ ?_));all_goals skip)
  · (refine J9 (rs:=[.tmp 2]) [(0,0)] 1 ?_;(repeat (first|exact qr|refine jT ?_|refine jb ?_ ?_));all_goals skip)
 ·refine qa Tryd.func39 rfl _ Tryd.ntmps39 (Nat.le_of_ble_eq_true rfl) _ Tryd.results39 0 rfl rfl ?_
  repeat' (first|refine qj ?_|(first|(refine jr ?_)|(refine Y5 ?_)|(apply qh;apply Ym;rfl;exact (fun h=>h0 (List.map_eq_nil_iff.1 h));rfl;rfl;(first|exact .inl rfl|exact .inr rfl);exact nle rfl))|((first|refine xsC ?_ ?_);all_goals (intro hc;have hp:=hc;try simp at hp;try (exfalso;omega)))|refine qD ?_ ?_)
  (refine J9 (rs:=[.tmp 2]) [(0,0)] 1 ?_;(repeat (first|exact qr|refine jT ?_|refine jb ?_ ?_));all_goals skip)
theorem QK (l:List Ent) (g:Ent) (hl:l.length ≤ 1000000) :
  qx C1.P 85 [.os 0 0 l.length,.v (.int .i64 l.length),.sl false [g.row]] [.own false 4 (l.map Ent.row)] (.os 1 0 (l.length + 1)) [.dead,.own false 4 ((l ++ [g]).map Ent.row)]:=by
 refine qa (C:=C1) Tryd.func85 rfl _ Tryd.ntmps85 (Nat.le_of_ble_eq_true rfl) _ Tryd.results85 1 rfl rfl ?_
 repeat' (first|refine qj ?_|(first|(refine Xq ?_)|(refine xt ?_))|((first|refine qe ?_ ?_|refine qf ?_ ?_|refine xsC ?_ ?_);all_goals (intro hc;have hp:=hc;try simp at hp;try (exfalso;omega)))|refine qD ?_ ?_)
 (refine J9 (rs:=[.tmp 6]) [(1,1)] 2 ?_;(apply jq 0;exact qA rfl;(repeat (first|exact qr|refine jT ?_|refine jb ?_ ?_)));all_goals trace_state)
theorem X2 {α:Type} (R J Z:List α) (x:α) {i a b c d:Nat} (hi:i ≤ R.length) (hJ:J.length = 1 + Z.length) (ha:a = i) (hb:b = i + 1) (hc:c = i + 1) (hd:d = i + 1 + Z.length) :
  ((R.take i ++ J).take a ++ [x] ++ (R.take i ++ J).drop b).take c ++ Z ++ ((R.take i ++ J).take a ++ [x] ++ (R.take i ++ J).drop b).drop d = R.take i ++ ([x] ++ Z):=by
 subst ha;subst hb;subst hc;subst hd
 have h1:(R.take a ++ J).take a = R.take a:=by rw [List.take_append_of_le_length (by simp;omega),List.take_of_length_le (by simp;omega)]
 have h2:(R.take a ++ [x] ++ (R.take a ++ J).drop (a + 1)).take (a + 1) = R.take a ++ [x]:=by
  rw [List.take_append_of_le_length (by simp;omega),List.take_of_length_le (by simp;omega)]
 have h3:(R.take a ++ [x] ++ (R.take a ++ J).drop (a + 1)).drop (a + 1 + Z.length) = []:=List.drop_of_length_le (by simp;omega)
 rw [h1,h2,h3];simp
theorem Vz {α:Type} (R Z:List α) (x:α) {i a b c d m:Nat} (hi:i + 1 ≤ R.length) (ha:a = i + 1) (hc:c = i) (hd:d = i + 1) (hm:m = i + 1 + Z.length) :
  ((R.take a ++ Z ++ R.drop b).take c ++ [x] ++ (R.take a ++ Z ++ R.drop b).drop d).take m = R.take i ++ ([x] ++ Z):=by
 subst ha;subst hc;subst hd;subst hm
 have h1:(R.take (c + 1) ++ Z ++ R.drop b).take c = R.take c:=by
  rw [List.append_assoc,List.take_append_of_le_length (by simp;omega),List.take_take,Nat.min_eq_left (by omega)]
 have h2:(R.take (c + 1) ++ Z ++ R.drop b).drop (c + 1) = Z ++ R.drop b:=by
  rw [List.append_assoc,List.drop_append_of_le_length (by simp;omega),List.drop_of_length_le (by simp;omega),List.nil_append]
 rw [h1,h2, ← List.append_assoc,List.take_append_of_le_length (by simp;omega),List.take_of_length_le (by simp;omega),List.append_assoc]
theorem Jw (l:List Ent) (g:Ent) (i:Nat) (hi:i < l.length) (hl:l.length ≤ 1000000) :
  qx C1.P 85 [.os 0 0 l.length,.v (.int .i64 (i:Int)),.sl false [g.row]] [.own false 4 (l.map Ent.row)] (.os 1 0 (l.length + 1)) [.dead,.own false 4 ((l.take i ++ ([g] ++ l.drop i)).map Ent.row)]:=by
 refine qa (C:=C1) Tryd.func85 rfl _ Tryd.ntmps85 (Nat.le_of_ble_eq_true rfl) _ Tryd.results85 1 rfl rfl ?_
 refine Vm 0 4 (l.map Ent.row) rfl fun cap hcap=>?_
 rw [List.length_map] at hcap
 have hRt:(l.map Ent.row ++ yr 4 (cap - (l.map Ent.row).length)).take l.length = l.map Ent.row:=by
  rw [List.take_append_of_le_length (by simp),List.take_of_length_le (by simp)]
 have hRl:l.length ≤ (l.map Ent.row ++ yr 4 (cap - (l.map Ent.row).length)).length:=by simp
 generalize l.map Ent.row ++ yr 4 (cap - (l.map Ent.row).length) = R at hRt hRl ⊢
 have hcut:(R.drop i).take (l.length - i) = (l.drop i).map Ent.row:=by rw [← List.drop_take,hRt,List.map_drop]
 have hti:R.take i = (l.take i).map Ent.row:=by rw [List.map_take, ← hRt,List.take_take,Nat.min_eq_left (by omega)]
 have hck : ∀ row,row ∈ (l.drop i).map Ent.row → row.length = 4:=fun row hr=>by obtain ⟨x,_,rfl⟩:=List.mem_map.1 hr;rfl
 have hcl : ∀ row,row ∈ (l.drop i).map Ent.row → row.all qJ = true:=fun row hr=>by obtain ⟨x,_,rfl⟩:=List.mem_map.1 hr;rfl
 repeat' (first|refine qj ?_|(first|(refine Xq ?_)|(apply qh;apply YP;(case hx=>rfl);(case hn=>rfl);(case hT=>rfl);(case he=>rfl);(case hN=>exact nle rfl))|(apply j7;apply ki;(case hx=>rfl);(case hT=>rfl);(case he=>rfl);(case hE=>rfl);(case hn=>rfl);(case hl=>(first|omega|(simp;done)|(simp only [List.length_cons,List.length_nil,List.length_map];omega)|(simp;omega)));(case hy=>exact congrArg (fun z=>AV.v (Value.int IntKind.i64 z)) (show ((l.length + 1:Nat):Int) - (i:Int) = ((l.length + 1 - i:Nat):Int) from by omega));(case hxT=>rfl);(case hxk=>rfl);(case hz=>rfl);(case hs0=>exact Nat.ne_of_beq_eq_false rfl);(case hg=>omega);(case hsz=>(first|omega|(simp;done)|(simp only [List.length_cons,List.length_nil,List.length_map];omega)|(simp;omega)));(case hlen=>(first|omega|(simp;done)|(simp only [List.length_cons,List.length_nil,List.length_map];omega)|(simp;omega)));(case hN=>exact nle rfl))|(apply qh;apply Ji;exact Tryd.func92;(case hname=>rfl);(case hb=>rfl);(case hnx=>rfl);(case hex=>rfl);(case hT=>rfl);(case he=>rfl);(case hE=>rfl);(case hx=>rfl);(case hy=>rfl);(case hm=>rfl);(case hk=>exact Nat.ne_of_beq_eq_false rfl);(case hrw=>intro row hrow;rw [List.mem_singleton.1 hrow];exact Nat.succ_ne_zero _);(case hN=>exact nle rfl))|(apply kz;apply kf;(case hx=>rfl);(case hT=>rfl);(case he=>rfl);(case hE=>rfl);(case hn=>rfl);(case hsrc=>exact Vc (vA rfl rfl));(case hmin=>exact Nat.min_eq_left (by (first|omega|(simp;done)|(simp only [List.length_cons,List.length_nil,List.length_map];omega)|(simp;omega))));(case hfit=>(first|omega|(simp;done)|(simp only [List.length_cons,List.length_nil,List.length_map];omega)|(simp;omega)));(case hN=>exact nle rfl))|(apply kz;apply kf;(case hx=>rfl);(case hT=>rfl);(case he=>rfl);(case hE=>rfl);(case hn=>rfl);(case hsrc=>exact Xi (cnt:=l.length - i) rfl (List.mem_singleton.2 rfl) rfl (by omega) (by omega) (by first|exact hcut|simpa using hcut) hck hcl);(case hmin=>(first|exact (Nat.min_eq_left (by (first|omega|(simp;done)|(simp only [List.length_cons,List.length_nil,List.length_map];omega)|(simp;omega)))).trans (by (first|omega|(simp;done)|(simp only [List.length_cons,List.length_nil,List.length_map];omega)|(simp;omega)))|exact (Nat.min_eq_right (by (first|omega|(simp;done)|(simp only [List.length_cons,List.length_nil,List.length_map];omega)|(simp;omega)))).trans (by (first|omega|(simp;done)|(simp only [List.length_cons,List.length_nil,List.length_map];omega)|(simp;omega)))));(case hfit=>(first|omega|(simp;done)|(simp only [List.length_cons,List.length_nil,List.length_map];omega)|(simp;omega)));(case hN=>exact nle rfl)))|((first|refine qe ?_ ?_|refine qf ?_ ?_|refine xsC ?_ ?_);all_goals (intro hc;have hp:=hc;try simp at hp;try (exfalso;omega)))|refine qD ?_ ?_)
 all_goals try (exfalso;omega)
 ·have hrow:=X2 R (yr 4 (l.length + 1 - i)) ((l.drop i).map Ent.row) g.row (i:=i) (a:=0 + i) (b:=0 + i + 1) (c:=0 + (i + 1)) (d:=0 + (i + 1) + ((l.drop i).map Ent.row).length) (by omega) (by simp;omega) (by omega) (by omega) (by omega) (by omega)
  (apply yC (rs:=[.tmp 6]) [(1,1)] 2;(case hr=>(repeat (first|exact jB|(apply jA;rfl)|(apply jE;rfl;rfl;rfl;rfl;rfl))));(case hL=>rfl);(case hh=>(apply jq 0;exact qA rfl;(repeat (first|exact qr|refine jT ?_|refine jb ?_ ?_)));all_goals (refine hrow.trans ?_;rw [hti];simp));(case hi=>first|exact (rfl:_ = ([]:List (Nat × Nat)))|exact (rfl:_ = [((0:Nat),(0:Nat))])|exact (rfl:_ = [((0:Nat),(0:Nat)),(1,1)]));(case hz=>first|rfl|(simp [j6,AV.ren,AV.ren.renL,jz,qk,jx];done)|(simp [j6,AV.ren,AV.ren.renL,jz,qk,jx, *];done)|(simp [j6,AV.ren,AV.ren.renL,jz,qk,jx];omega)))
 ·have hrow:=Vz R ((l.drop i).map Ent.row) g.row (i:=i) (a:=0 + 0 + (i + 1)) (b:=0 + 0 + (i + 1) + ((l.drop i).map Ent.row).length) (c:=0 + 0 + i) (d:=0 + 0 + i + 1) (m:=l.length + 1) (by omega) (by omega) (by omega) (by omega) (by simp;omega)
  have hrow:=hrow.trans (show _ = (l.take i ++ ([g] ++ l.drop i)).map Ent.row from by rw [hti];simp)
  apply zl (C:=C1) 6 0 (l.length + 1)
  case hi=>rfl
  case hn=>rfl
  case hr=>exact hrow
  case hnn=>exact Nat.ne_of_beq_eq_false rfl
  case hnx=>exact Nat.le_of_ble_eq_true rfl
  (apply yC (rs:=[.tmp 6]) [(1,1)] 2;(case hr=>(repeat (first|exact jB|(apply jA;rfl)|(apply jE;rfl;rfl;rfl;rfl;rfl))));(case hL=>rfl);(case hh=>(apply jq 0;exact qA rfl;(repeat (first|exact qr|refine jT ?_|refine jb ?_ ?_)));all_goals trace_state);(case hi=>first|exact (rfl:_ = ([]:List (Nat × Nat)))|exact (rfl:_ = [((0:Nat),(0:Nat))])|exact (rfl:_ = [((0:Nat),(0:Nat)),(1,1)]));(case hz=>first|rfl|(simp [j6,AV.ren,AV.ren.renL,jz,qk,jx];done)|(simp [j6,AV.ren,AV.ren.renL,jz,qk,jx, *];done)|(simp [j6,AV.ren,AV.ren.renL,jz,qk,jx];omega)))
def jW (t:List Ent) (x:Ent):List Ent:=if jY t x.path = true then t.take (jC t x.path) ++ ([x] ++ t.drop (jC t x.path + 1)) else t.take (jC t x.path) ++ ([x] ++ t.drop (jC t x.path))
theorem Xj (t:List Ent) (x:Ent) (hl:t.length ≤ 1000000) (hs:qV jm t = true) :
  qx C1.P 73 [.os 0 0 t.length,.agg x.row] [.own false 4 (t.map Ent.row)] (.os 1 0 (jW t x).length) [.dead,.own false 4 ((jW t x).map Ent.row)]:=by
 have hat:=Xk t x.path (by omega) hs
 cases hh:jY t x.path with
 | true =>
   obtain ⟨hp0, -, -, -⟩:=z1 hs hh
   have hL:jW t x = t.take (jC t x.path) ++ ([x] ++ t.drop (jC t x.path + 1)):=by simp [jW,hh]
   rw [hh] at hat
   generalize jW t x = L at hL ⊢
   generalize jC t x.path = p at hL hp0 hat
   have hlen:L.length = t.length:=by rw [hL];simp;omega
   have hrow:=qL (f:=Ent.row) hp0
   refine qa (C:=C1) Tryd.func73 rfl _ Tryd.ntmps73 (Nat.le_of_ble_eq_true rfl) _ Tryd.results73 1 rfl rfl ?_
   repeat' (first|refine qj ?_|(first|(apply qh;apply yl ([0]);exact jJ Tryd.func14 rfl rfl;apply hat;(case hz=>(repeat' (first|exact qS|apply qw|exact qK rfl|exact yH|(apply yf;(case hn=>rfl);(case hl=>first|with_reducible rfl|(simp;done)|(simp [*];done)|omega);(case hp=>(first|assumption|exact jw rfl|exact jl fun _=>rfl)))|apply j4|apply jN)));(case hfl=>rfl);(case hN=>exact nle rfl))|(refine vx ?_))|((first|refine qe ?_ ?_|refine qf ?_ ?_|refine xsC ?_ ?_);all_goals (intro hc;have hp:=hc;try simp at hp;try (exfalso;omega)))|refine qD ?_ ?_)
   all_goals try (exfalso;omega)
   apply zl (C:=C1) 4 0 t.length
   case hi=>rfl
   case hn=>rfl
   case hr=>(show ((t.map Ent.row).set p x.row).take t.length = L.map Ent.row;rw [← List.map_set,hL,List.set_eq_take_append_cons_drop,if_pos hp0,List.take_of_length_le (by simp;omega)];rfl)
   case hnn=>exact Nat.ne_of_beq_eq_false rfl
   case hnx=>exact Nat.le_of_ble_eq_true rfl
   (apply yC (rs:=[.tmp 4]) [(2,1)] 2;(case hr=>(repeat (first|exact jB|(apply jA;rfl)|(apply jE;rfl;rfl;rfl;rfl;rfl))));(case hL=>rfl);(case hh=>(apply jq 0;exact qA rfl;(repeat (first|exact qr|refine jT ?_|refine jb ?_ ?_)));all_goals trace_state);(case hi=>first|exact (rfl:_ = ([]:List (Nat × Nat)))|exact (rfl:_ = [((0:Nat),(0:Nat))])|exact (rfl:_ = [((0:Nat),(0:Nat)),(1,1)]));(case hz=>first|rfl|(simp [j6,AV.ren,AV.ren.renL,jz,qk,jx];done)|(simp [j6,AV.ren,AV.ren.renL,jz,qk,jx, *];done)|(simp [j6,AV.ren,AV.ren.renL,jz,qk,jx];omega)))
 | false =>
   have hL:jW t x = t.take (jC t x.path) ++ ([x] ++ t.drop (jC t x.path)):=by simp [jW,hh]
   have hple:=X5 t x.path
   rw [hh] at hat
   generalize jW t x = L at hL ⊢
   generalize jC t x.path = p at hL hple hat
   have hlen:L.length = t.length + 1:=by rw [hL];simp;omega
   by_cases hp0:p = t.length
   ·have hin:=QK t x hl
    have hL2:L = t ++ [x]:=by rw [hL,hp0];simp
    rw [hp0] at hat
    refine qa (C:=C1) Tryd.func73 rfl _ Tryd.ntmps73 (Nat.le_of_ble_eq_true rfl) _ Tryd.results73 1 rfl rfl ?_
    repeat' (first|refine qj ?_|(first|(apply qh;apply yl ([0]);exact jJ Tryd.func14 rfl rfl;apply hat;(case hz=>(repeat' (first|exact qS|apply qw|exact qK rfl|exact yH|(apply yf;(case hn=>rfl);(case hl=>first|with_reducible rfl|(simp;done)|(simp [*];done)|omega);(case hp=>(first|assumption|exact jw rfl|exact jl fun _=>rfl)))|apply j4|apply jN)));(case hfl=>rfl);(case hN=>exact nle rfl))|(refine vx ?_)|(refine jr ?_)|(apply jo Tryd.func85 rfl rfl;intro hIsFn;refine yV ([0]) 0 hIsFn (hin ..) ?_))|((first|refine qe ?_ ?_|refine qf ?_ ?_|refine xsC ?_ ?_);all_goals (intro hc;have hp:=hc;try simp at hp;try (exfalso;omega)))|refine qD ?_ ?_)
    all_goals try (exfalso;omega)
    (apply yC (rs:=[.tmp 4]) [(2,1)] 2;(case hr=>(repeat (first|exact jB|(apply jA;rfl)|(apply jE;rfl;rfl;rfl;rfl;rfl))));(case hL=>rfl);(case hh=>(apply jq 0;exact qA rfl;(repeat (first|exact qr|refine jT ?_|refine jb ?_ ?_)));all_goals (rw [hL2]));(case hi=>first|exact (rfl:_ = ([]:List (Nat × Nat)))|exact (rfl:_ = [((0:Nat),(0:Nat))])|exact (rfl:_ = [((0:Nat),(0:Nat)),(1,1)]));(case hz=>first|rfl|(simp [j6,AV.ren,AV.ren.renL,jz,qk,jx];done)|(simp [j6,AV.ren,AV.ren.renL,jz,qk,jx, *];done)|(simp [j6,AV.ren,AV.ren.renL,jz,qk,jx];omega)))
   ·have hin:=Jw t x p (by omega) hl
    refine qa (C:=C1) Tryd.func73 rfl _ Tryd.ntmps73 (Nat.le_of_ble_eq_true rfl) _ Tryd.results73 1 rfl rfl ?_
    repeat' (first|refine qj ?_|(first|(apply qh;apply yl ([0]);exact jJ Tryd.func14 rfl rfl;apply hat;(case hz=>(repeat' (first|exact qS|apply qw|exact qK rfl|exact yH|(apply yf;(case hn=>rfl);(case hl=>first|with_reducible rfl|(simp;done)|(simp [*];done)|omega);(case hp=>(first|assumption|exact jw rfl|exact jl fun _=>rfl)))|apply j4|apply jN)));(case hfl=>rfl);(case hN=>exact nle rfl))|(refine vx ?_)|(refine jr ?_)|(apply jo Tryd.func85 rfl rfl;intro hIsFn;refine yV ([0]) 0 hIsFn (hin ..) ?_))|((first|refine qe ?_ ?_|refine qf ?_ ?_|refine xsC ?_ ?_);all_goals (intro hc;have hp:=hc;try simp at hp;try (exfalso;omega)))|refine qD ?_ ?_)
    all_goals try (exfalso;omega)
    (apply yC (rs:=[.tmp 4]) [(2,1)] 2;(case hr=>(repeat (first|exact jB|(apply jA;rfl)|(apply jE;rfl;rfl;rfl;rfl;rfl))));(case hL=>rfl);(case hh=>(apply jq 0;exact qA rfl;(repeat (first|exact qr|refine jT ?_|refine jb ?_ ?_)));all_goals (rw [hL]));(case hi=>first|exact (rfl:_ = ([]:List (Nat × Nat)))|exact (rfl:_ = [((0:Nat),(0:Nat))])|exact (rfl:_ = [((0:Nat),(0:Nat)),(1,1)]));(case hz=>first|rfl|(simp [j6,AV.ren,AV.ren.renL,jz,qk,jx];done)|(simp [j6,AV.ren,AV.ren.renL,jz,qk,jx, *];done)|(simp [j6,AV.ren,AV.ren.renL,jz,qk,jx];omega)))
end Go.Proofs.YtnhpclmbhbblbaaDoor
