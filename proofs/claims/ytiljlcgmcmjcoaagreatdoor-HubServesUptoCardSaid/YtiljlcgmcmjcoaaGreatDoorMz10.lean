import Derived.Test.YtiljlcgmcmjcoaaGreatDoorMz9
import Derived.Test.YtiljlcgmcmjcoaaGreatDoorMz2
set_option linter.unusedSimpArgs false
set_option linter.unnecessarySimpa false
set_option maxHeartbeats 1000000
namespace Go.Proofs.YtiljlcgmcmjcoaaGreatDoor
open Go.Ab Go.RowKit
set_option maxRecDepth 10000
attribute [local irreducible] Awp ye ji qQ Red qF Go.Ab.Fin qo Rz xx qG qO ResOk jK je jX qW
def wY (l:List Ent) (p:qC):Ent:=if qR p = [] then ⟨[],true,[],0⟩ else match l.find? (atP (qR p)) with|some x=>x|none=>⟨[],false,[],0⟩
def JB (l:List Ent) (p:qC):Bool:=decide (qR p = []) || yV l (qR p)
theorem ZS (l:List Ent) (p:qC):yC l (qR p) = if JB l p = true then (if (wY l p).fold = true then 0 else 4) else 5:=by
 unfold yC JB wY
 by_cases h:qR p = []
 ·simp [h]
 ·cases hh:yV l (qR p) with
  | true =>
    obtain ⟨x,hx,hk⟩:=List.any_eq_true.1 hh
    cases hf:l.find? (atP (qR p)) with
    | none=>rw [List.find?_eq_none] at hf;exact absurd hk (hf x hx)
    | some y=>simp [h]
  | false=>simp [h,(x9 hh).1]
theorem K7 (l:List Ent) (p:qC) (hl:l.length ≤ 1000000000) (hs:qv yt l = true) (hp:p.length ≤ 140737488355328) :
  jO C.P 141 [qr l,.v (str p)] (.tup [.agg (wY l p).row,.v (.bool (JB l p))]):=by
 have hsp:=qhw p (by omega)
 have hat:=qhA l (qR p) hl hs
 by_cases h:qR p = []
 ·have e1:wY l p = ⟨[],true,[],0⟩:=by simp [wY,h]
  have e2:JB l p = true:=by simp [JB,h]
  rw [h] at hsp hat
  rw [e1,e2]
  refine qa Tryz.func141 rfl _ Tryz.ntmps141 (Nat.le_of_ble_eq_true rfl) _ Tryz.results141 0 rfl rfl ?_
  repeat' (first|refine qe ?_|(first|refine xsQ Tryz.func169 (hsp ..) ?_|refine xsQ Tryz.func67 (hat ..) ?_)|((first|refine xsC ?_ ?_);all_goals (intro hc;have hp:=hc;try simp at hp;try (exfalso;omega)))|refine qp ?_ ?_)
  all_goals try (exfalso;simp_all;done)
  (exact j1 (rs:=[.cell 4 72,.tmp 5]))
 ·cases hh:yV l (qR p) with
  | true =>
    obtain ⟨hk,hpe,hfi, -⟩:=kW hs hh
    have e1:wY l p = l[xM l (qR p)]:=by simp [wY,h,hfi]
    have e2:JB l p = true:=by simp [JB,hh]
    rw [hh] at hat
    rw [e1,e2]
    generalize xM l (qR p) = k at *
    have hr:=qx (f:=Ent.row) hk
    refine qa Tryz.func141 rfl _ Tryz.ntmps141 (Nat.le_of_ble_eq_true rfl) _ Tryz.results141 0 rfl rfl ?_
    repeat' (first|refine qe ?_|(first|refine xsQ Tryz.func169 (hsp ..) ?_|refine xsQ Tryz.func67 (hat ..) ?_)|((first|refine xsC ?_ ?_);all_goals (intro hc;have hp:=hc;try simp at hp;try (exfalso;omega)))|refine qp ?_ ?_)
    all_goals try (exfalso;first|exact h (by assumption)|(simp_all;done))
    (exact j1 (rs:=[.cell 4 72,.tmp 5]))
  | false =>
    have e1:wY l p = ⟨[],false,[],0⟩:=by simp [wY,h,(x9 hh).1]
    have e2:JB l p = false:=by simp [JB,hh,h]
    rw [hh] at hat
    rw [e1,e2]
    refine qa Tryz.func141 rfl _ Tryz.ntmps141 (Nat.le_of_ble_eq_true rfl) _ Tryz.results141 0 rfl rfl ?_
    repeat' (first|refine qe ?_|(first|refine xsQ Tryz.func169 (hsp ..) ?_|refine xsQ Tryz.func67 (hat ..) ?_)|((first|refine xsC ?_ ?_);all_goals (intro hc;have hp:=hc;try simp at hp;try (exfalso;omega)))|refine qp ?_ ?_)
    all_goals try (exfalso;first|exact h (by assumption)|(simp_all;done))
    (exact j1 (rs:=[.cell 4 72,.tmp 5]))
end Go.Proofs.YtiljlcgmcmjcoaaGreatDoor
set_option linter.unusedSimpArgs false
set_option linter.unnecessarySimpa false
set_option maxHeartbeats 1000000
namespace Go.Proofs.YtiljlcgmcmjcoaaGreatDoor
open Go.Ab Go.RowKit
set_option maxRecDepth 10000
attribute [local irreducible] Awp ye ji qQ Red qF Go.Ab.Fin qo Rz xx qG qO ResOk jK je jX qW
theorem qdu (a b:Ent):(Op.bytesLess b.path a.path || decide (b.path = a.path)) = !yt a b:=by
 unfold yt
 rcases w9 a.path b.path with ⟨h1,h2,h3⟩|⟨h1,h2,h3⟩|⟨h1,h2,h3⟩
 ·have h4:¬ b.path = a.path:=fun e=>h3 e.symm
  simp [h1,h2,h4]
 ·simp [h1,xp]
 ·simp [h1,h2]
theorem VO {t:List Ent} (h60:¬ 60 < t.length) {k:Nat} (hk:k < t.length) (hs : ∀ g,g ∈ t.take k → xI g = 0) (h0:xI t[k] ≠ 0):xI t[k] = jJ t:=by
 have h1:=kf hk hs h0
 have hz:¬ jU xI t = 0:=by rw [h1];exact h0
 simp only [jJ,h60,hz,if_false]
 rw [h1]
theorem qa5 (l:List Ent) (hl:EBig l):jO C.P 111 [qr l] (.v (.int .i64 (jJ l))):=by
 have hll:=hl.len
 refine qa Tryz.func111 rfl _ Tryz.ntmps111 (Nat.le_of_ble_eq_true rfl) _ Tryz.results111 0 rfl rfl ?_
 repeat' (first|refine qe ?_|fail|((first|refine xsC ?_ ?_);all_goals (intro hc;have hp:=hc;try simp at hp;try (exfalso;omega)))|refine qp ?_ ?_)
 ·apply qE
  rfl
  have h60:60 < l.length:=by omega
  simp [jJ,h60]
 have h60:¬ 60 < l.length:=by omega
 (refine Awp.red (qg (ts:=[(0,qr l),(15,qr l),(16,.v (.int .i64 l.length)),(17,.v (.int .i64 ((0:Nat):Int)))]) ?_) ?_;((repeat (first|exact qd|refine qi ?_|refine qI ?_ ?_))))
 all_goals try (rw [List.length_map];done)
 refine qq (fun n σ => ∃ i:Nat,i ≤ l.length ∧ n = l.length - i ∧ (∀ g,g ∈ l.take i → xI g = 0) ∧ σ = ⟨[(0,qr l),(15,qr l),(16,.v (.int .i64 l.length)),(17,.v (.int .i64 (i:Int)))],[],C.nh⟩) l.length ⟨0,Nat.zero_le _,rfl,(by simp),rfl⟩ ?_
 rintro n σ ⟨i,hi,rfl,hsofar,rfl⟩
 by_cases hlt:i < l.length
 ·have hr:=qx (f:=Ent.row) hlt
  have hsm:=hl.each l[i] (List.getElem_mem _)
  have hce:=WG l[i] hsm
  repeat' (first|refine qe ?_|(first|refine xsF Tryz.func140 (hce ..) ?_)|((first|refine xsC ?_ ?_);all_goals (intro hc;have hp:=hc;try simp at hp;try (exfalso;omega)))|refine qp ?_ ?_)
  all_goals try (exfalso;omega)
  ·apply qE
   rfl
   exact VO h60 hlt hsofar (by assumption)
  ·refine ⟨l.length - (i + 1),_,by omega,qg (ts:=[(0,qr l),(15,qr l),(16,.v (.int .i64 l.length)),(17,.v (.int .i64 ((i + 1:Nat):Int)))]) ?_,i + 1,by omega,rfl,qJ hlt hsofar (by assumption),rfl⟩;((repeat (first|exact qd|refine qi ?_|refine qI ?_ ?_)))
 obtain rfl:i = l.length:=by omega
 have hz:jU xI l = 0:=jL.2 (fun s hs=>hsofar s (by rw [List.take_length];exact hs))
 clear hsofar
 repeat' (first|refine qe ?_|fail|((first|refine xsC ?_ ?_);all_goals (intro hc;have hp:=hc;try simp at hp;try (exfalso;omega)))|refine qp ?_ ?_)
 all_goals try (exfalso;omega)
 (refine Awp.red (qg (ts:=[(0,qr l),(6,.v (.int .i64 ((0 + 1:Nat):Int)))]) ?_) ?_;((repeat (first|exact qd|refine qi ?_|refine qI ?_ ?_))))
 refine qq (fun n σ => ∃ i:Nat,i ≤ (l.drop 1).length ∧ n = (l.drop 1).length - i ∧ (∀ (k:Nat) (h:k + 1 < l.length),k < i → yt (l[k]'(by omega)) l[k + 1] = true) ∧ σ = ⟨[(0,qr l),(6,.v (.int .i64 ((i + 1:Nat):Int)))],[],C.nh⟩) (l.drop 1).length ⟨0,Nat.zero_le _,rfl,(fun k h hk=>absurd hk (Nat.not_lt_zero _)),rfl⟩ ?_
 have hdl:(l.drop 1).length = l.length - 1:=by simp
 rintro n σ ⟨i,hi,rfl,hsofar,rfl⟩
 by_cases hlt:i + 1 < l.length
 ·have hr:=qx (f:=Ent.row) hlt
  have hr':=qx (f:=Ent.row) (l:=l) (i:=i) (by omega)
  have hle:=qdu l[i] l[i + 1]
  repeat' (first|refine qe ?_|fail|((first|refine xsC ?_ ?_);all_goals (intro hc;have hp:=hc;try simp at hp;try (exfalso;omega)))|refine qp ?_ ?_)
  all_goals try (exfalso;omega)
  ·have hrf:¬ qv yt l = true:=fun h=>by
    have:=yf.1 h i hlt
    simp_all
   apply qE
   rfl
   simp [jJ,h60,hz,hrf]
  ·have hok:yt l[i] l[i + 1] = true:=(by simp_all)
   refine ⟨(l.drop 1).length - (i + 1),_,by omega,qg (ts:=[(0,qr l),(6,.v (.int .i64 ((i + 1 + 1:Nat):Int)))]) ?_,i + 1,by omega,rfl,(fun k h hk=>by
    by_cases e:k = i
    ·subst e;exact hok
    ·exact hsofar k h (by omega)),rfl⟩;((repeat (first|exact qd|refine qi ?_|refine qI ?_ ?_)))
 have hrise:qv yt l = true:=yf.2 fun k h=>hsofar k h (by simp at hi;omega)
 clear hsofar
 repeat' (first|refine qe ?_|fail|((first|refine xsC ?_ ?_);all_goals (intro hc;have hp:=hc;try simp at hp;try (exfalso;omega)))|refine qp ?_ ?_)
 all_goals try (exfalso;omega)
 (refine Awp.red (qg (ts:=[(0,qr l),(7,.v (.int .i64 (if (l.take 0).any (fun x=>decide (¬ yJ l x = 0)) = true then 4 else 0))),(45,qr l),(46,.v (.int .i64 l.length)),(47,.v (.int .i64 ((0:Nat):Int)))]) ?_) ?_;((repeat (first|exact qd|refine qi ?_|refine qI ?_ ?_))))
 all_goals try (rw [List.length_map];done)
 refine qq (fun n σ => ∃ i:Nat,i ≤ l.length ∧ n = l.length - i ∧ (∀ g,g ∈ l.take i → ¬ yJ l g = 5) ∧ σ = ⟨[(0,qr l),(7,.v (.int .i64 (if (l.take i).any (fun x=>decide (¬ yJ l x = 0)) = true then 4 else 0))),(45,qr l),(46,.v (.int .i64 l.length)),(47,.v (.int .i64 (i:Int)))],[],C.nh⟩) l.length ⟨0,Nat.zero_le _,rfl,(by simp),rfl⟩ ?_
 rintro n σ ⟨i,hi,rfl,hsofar,rfl⟩
 by_cases hlt:i < l.length
 ·have hr:=qx (f:=Ent.row) hlt
  have hsm:=hl.each l[i] (List.getElem_mem _)
  have hpa:=K7 l l[i].path hl.len hrise (by have:=hsm.1;omega)
  have hpe:yJ l l[i] = _:=ZS l l[i].path
  have htk:=List.take_succ_eq_append_getElem hlt
  generalize JB l l[i].path = ok at hpa hpe
  generalize wY l l[i].path = pe at hpa hpe
  repeat' (first|refine qe ?_|(first|refine xsQ Tryz.func141 (hpa ..) ?_)|((first|refine xsC ?_ ?_);all_goals (intro hc;have hp:=hc;try simp at hp;try (exfalso;omega)))|refine qp ?_ ?_)
  all_goals try (exfalso;omega)
  ·have h5:yJ l l[i] = 5:=(by rw [hpe];simp_all)
   have hany:l.any (fun x=>decide (yJ l x = 5)) = true:=List.any_eq_true.2 ⟨l[i],List.getElem_mem _,by simp [h5]⟩
   apply qE
   rfl
   simp [jJ,h60,hz,hrise,hany]
  ·have h4:yJ l l[i] = 4:=(by rw [hpe];simp_all)
   refine ⟨l.length - (i + 1),_,by omega,qg (ts:=[(0,qr l),(7,.v (.int .i64 (if (l.take (i + 1)).any (fun x=>decide (¬ yJ l x = 0)) = true then 4 else 0))),(45,qr l),(46,.v (.int .i64 l.length)),(47,.v (.int .i64 ((i + 1:Nat):Int)))]) ?_,i + 1,by omega,rfl,qJ hlt hsofar (by rw [h4];decide),rfl⟩;((repeat (first|exact qd|refine qi ?_|refine qI ?_ ?_));all_goals (rw [htk,List.any_append];simp [h4]))
  ·have h4:yJ l l[i] = 0:=(by rw [hpe];simp_all)
   refine ⟨l.length - (i + 1),_,by omega,qg (ts:=[(0,qr l),(7,.v (.int .i64 (if (l.take (i + 1)).any (fun x=>decide (¬ yJ l x = 0)) = true then 4 else 0))),(45,qr l),(46,.v (.int .i64 l.length)),(47,.v (.int .i64 ((i + 1:Nat):Int)))]) ?_,i + 1,by omega,rfl,qJ hlt hsofar (by rw [h4];decide),rfl⟩;((repeat (first|exact qd|refine qi ?_|refine qI ?_ ?_));all_goals (rw [htk,List.any_append];simp [h4]))
 obtain rfl:i = l.length:=by omega
 rw [List.take_length] at *
 have hno:¬ l.any (fun x=>decide (yJ l x = 5)) = true:=fun h=>by
  obtain ⟨x,hx,hk⟩:=List.any_eq_true.1 h
  exact hsofar x hx (by simpa using hk)
 have hE:jJ l = if l.any (fun x=>decide (¬ yJ l x = 0)) = true then 4 else 0:=by
  unfold jJ
  rw [if_neg h60,if_pos hz,if_pos hrise,if_neg hno]
 repeat' (first|refine qe ?_|fail|((first|refine xsC ?_ ?_);all_goals (intro hc;have hp:=hc;try simp at hp;try (exfalso;omega)))|refine qp ?_ ?_)
 all_goals try (exfalso;omega)
 apply qE
 rfl
 exact hE.symm
end Go.Proofs.YtiljlcgmcmjcoaaGreatDoor
set_option linter.unusedSimpArgs false
set_option linter.unnecessarySimpa false
set_option maxHeartbeats 1000000
namespace Go.Proofs.YtiljlcgmcmjcoaaGreatDoor
open Go.Ab Go.RowKit
set_option maxRecDepth 10000
attribute [local irreducible] Awp ye ji qQ Red qF Go.Ab.Fin qo Rz xx qG qO ResOk jK je jX qW
def zn (t:List Ent):List AV:=[qr t]
theorem qey (ts:List (List Ent)) (hn:ts.length ≤ 1000000) (hs : ∀ t,t ∈ ts → EBig t):jO C.P 65 [.sl false (ts.map zn)] (.v (.int .i64 (jU jJ ts))):=by
 refine qa Tryz.func65 rfl _ Tryz.ntmps65 (Nat.le_of_ble_eq_true rfl) _ Tryz.results65 0 rfl rfl ?_
 repeat' (first|refine qe ?_|fail|((first|refine xsC ?_ ?_);all_goals (intro hc;have hp:=hc;try simp at hp;try (exfalso;omega)))|refine qp ?_ ?_)
 (refine Awp.red (qg (ts:=[(6,.sl false (ts.map zn)),(7,.v (.int .i64 ts.length)),(8,.v (.int .i64 ((0:Nat):Int)))]) ?_) ?_;((repeat (first|exact qd|refine qi ?_|refine qI ?_ ?_))))
 all_goals try (rw [List.length_map];done)
 refine qq (fun n σ => ∃ i:Nat,i ≤ ts.length ∧ n = ts.length - i ∧ (∀ t,t ∈ ts.take i → jJ t = 0) ∧ σ = ⟨[(6,.sl false (ts.map zn)),(7,.v (.int .i64 ts.length)),(8,.v (.int .i64 (i:Int)))],[],C.nh⟩) ts.length ⟨0,Nat.zero_le _,rfl,(by simp),rfl⟩ ?_
 rintro n σ ⟨i,hi,rfl,hsofar,rfl⟩
 by_cases hlt:i < ts.length
 ·have hr:=qx (f:=zn) hlt
  have hct:=qa5 ts[i] (hs _ (List.getElem_mem _))
  repeat' (first|refine qe ?_|(first|refine xsQ Tryz.func111 (hct ..) ?_)|((first|refine xsC ?_ ?_);all_goals (intro hc;have hp:=hc;try simp at hp;try (exfalso;omega)))|refine qp ?_ ?_)
  all_goals try (exfalso;omega)
  ·apply qE
   rfl
   exact (kf hlt hsofar (by assumption)).symm
  ·refine ⟨ts.length - (i + 1),_,by omega,qg (ts:=[(6,.sl false (ts.map zn)),(7,.v (.int .i64 ts.length)),(8,.v (.int .i64 ((i + 1:Nat):Int)))]) ?_,i + 1,by omega,rfl,qJ hlt hsofar (by assumption),rfl⟩;((repeat (first|exact qd|refine qi ?_|refine qI ?_ ?_)))
 obtain rfl:i = ts.length:=by omega
 have hz:jU jJ ts = 0:=jL.2 (fun s hs=>hsofar s (by rw [List.take_length];exact hs))
 clear hsofar
 repeat' (first|refine qe ?_|fail|((first|refine xsC ?_ ?_);all_goals (intro hc;have hp:=hc;try simp at hp;try (exfalso;omega)))|refine qp ?_ ?_)
 all_goals try (exfalso;omega)
 apply qE
 rfl
 exact hz.symm
theorem qbK (l:List Ent) (hl:EBig l):jO C.P 65 [.sl false [[qr l]]] (.v (.int .i64 (jJ l))):=by
 have h:=qey [l] (by simp) (by simpa using hl)
 rw [show jU jJ [l] = jJ l from by simp only [jU];split<;>simp_all] at h
 exact h
theorem qfR (l:List Ent) (hl:EBig l):jO C.P 117 [qr l] (.v (.int .i64 (jJ l))):=by
 have h:=qbK l hl
 refine qa Tryz.func117 rfl _ Tryz.ntmps117 (Nat.le_of_ble_eq_true rfl) _ Tryz.results117 0 rfl rfl ?_
 repeat' (first|refine qe ?_|(first|(refine jN ?_)|refine xsQ Tryz.func65 (h ..) ?_)|((first|refine xsC ?_ ?_);all_goals (intro hc;have hp:=hc;try simp at hp;try (exfalso;omega)))|refine qp ?_ ?_)
 all_goals (apply qE;rfl;rfl)
theorem xB (l:List Ent) (p:qC) (hl:l.length ≤ 1000000000):jO C.P 161 [qr l,.v (str p)] (.v (.int .i64 (j0 (atP p) l))):=by
 refine qa Tryz.func161 rfl _ Tryz.ntmps161 (Nat.le_of_ble_eq_true rfl) _ Tryz.results161 0 rfl rfl ?_
 repeat' (first|refine qe ?_|fail|((first|refine xsC ?_ ?_);all_goals (intro hc;have hp:=hc;try simp at hp;try (exfalso;omega)))|refine qp ?_ ?_)
 (refine Awp.red (qg (ts:=[(0,qr l),(1,.v (str p)),(5,.v (.int .i64 ((0:Nat):Int)))]) ?_) ?_;((repeat (first|exact qd|refine qi ?_|refine qI ?_ ?_))))
 refine qq (fun n σ => ∃ i:Nat,i ≤ l.length ∧ n = l.length - i ∧ (∀ x,x ∈ l.take i → atP p x = false) ∧ σ = ⟨[(0,qr l),(1,.v (str p)),(5,.v (.int .i64 (i:Int)))],[],C.nh⟩) l.length ⟨0,Nat.zero_le _,rfl,(by simp),rfl⟩ ?_
 rintro n σ ⟨i,hi,rfl,hsofar,rfl⟩
 by_cases hlt:i < l.length
 ·have hr:=qx (f:=Ent.row) hlt
  repeat' (first|refine qe ?_|fail|((first|refine xsC ?_ ?_);all_goals (intro hc;have hp:=hc;try simp at hp;try (exfalso;omega)))|refine qp ?_ ?_)
  all_goals try (exfalso;omega)
  ·apply qE
   rfl
   exact (zu hlt hsofar (by simp_all [atP])).symm
  ·refine ⟨l.length - (i + 1),_,by omega,qg (ts:=[(0,qr l),(1,.v (str p)),(5,.v (.int .i64 ((i + 1:Nat):Int)))]) ?_,i + 1,by omega,rfl,qJ hlt hsofar (by simp_all [atP]),rfl⟩;((repeat (first|exact qd|refine qi ?_|refine qI ?_ ?_)))
 obtain rfl:i = l.length:=by omega
 repeat' (first|refine qe ?_|fail|((first|refine xsC ?_ ?_);all_goals (intro hc;have hp:=hc;try simp at hp;try (exfalso;omega)))|refine qp ?_ ?_)
 all_goals try (exfalso;omega)
 apply qE
 rfl
 rw [vH fun x hx=>hsofar x (by rw [List.take_length];exact hx)]
theorem zc (l:List Ent) (p:qC) (hl:l.length ≤ 1000000000):jO C.P 138 [qr l,.v (str p)] (.v (.int .i64 (yC l p))):=by
 have hea:=xB l p hl
 have hE:yC l p = if p = [] then 0 else match l.find? (atP p) with|none=>5|some x=>if x.fold = true then 0 else 4:=rfl
 generalize yC l p = E at *
 rcases Q0 (atP p) l with ⟨h1,h2⟩|⟨k,hk,h1,h2⟩
 ·rw [h1] at hea
  rw [h2] at hE
  refine qa Tryz.func138 rfl _ Tryz.ntmps138 (Nat.le_of_ble_eq_true rfl) _ Tryz.results138 0 rfl rfl ?_
  repeat' (first|refine qe ?_|(first|refine xsF Tryz.func161 (hea ..) ?_)|((first|refine xsC ?_ ?_);all_goals (intro hc;have hp:=hc;try simp at hp;try (exfalso;omega)))|refine qp ?_ ?_)
  all_goals try (exfalso;omega)
  all_goals (apply qE;rfl;simp_all)
 ·rw [h1] at hea
  rw [h2] at hE
  have hr:=qx (f:=Ent.row) hk
  refine qa Tryz.func138 rfl _ Tryz.ntmps138 (Nat.le_of_ble_eq_true rfl) _ Tryz.results138 0 rfl rfl ?_
  repeat' (first|refine qe ?_|(first|refine xsF Tryz.func161 (hea ..) ?_)|((first|refine xsC ?_ ?_);all_goals (intro hc;have hp:=hc;try simp at hp;try (exfalso;omega)))|refine qp ?_ ?_)
  all_goals try (exfalso;omega)
  all_goals (apply qE;rfl;simp_all)
end Go.Proofs.YtiljlcgmcmjcoaaGreatDoor
set_option linter.unusedSimpArgs false
set_option linter.unnecessarySimpa false
set_option maxHeartbeats 1000000
namespace Go.Proofs.YtiljlcgmcmjcoaaGreatDoor
open Go.Ab Go.RowKit
set_option maxRecDepth 10000
attribute [local irreducible] Awp ye ji qQ Red qF Go.Ab.Fin qo Rz xx qG qO ResOk jK je jX qW
theorem qb0 {e:Ent} (h:¬ qM e.path = 0):xI e = qM e.path:=by simp [xI,h]
theorem qa6 {e:Ent} (h:qM e.path = 0):xI e = (if e.fold = true ∧ ¬ e.text = [] then 1 else if 300 < e.text.length then 2 else if v8 e.ver = true then 0 else 3):=by simp [xI,h]
theorem Wr (l:List Ent) (hl:EBig l):jO C.P 109 [qr l] (.v (.int .i64 (jJ l))):=by
 have hll:=hl.len
 refine qa Tryz.func109 rfl _ Tryz.ntmps109 (Nat.le_of_ble_eq_true rfl) _ Tryz.results109 0 rfl rfl ?_
 repeat' (first|refine qe ?_|fail|((first|refine qb ?_ ?_|refine qc ?_ ?_|refine xsC ?_ ?_);all_goals (intro hc;have hp:=hc;try simp at hp;try (exfalso;omega)))|refine qp ?_ ?_)
 ·apply qE
  rfl
  have h60:60 < l.length:=by omega
  simp [jJ,h60]
 have h60:¬ 60 < l.length:=by omega
 (refine Awp.red (qg (ts:=[(0,qr l),(3,.v (.int .i64 ((0:Nat):Int)))]) ?_) ?_;((repeat (first|exact qd|refine qi ?_|refine qI ?_ ?_))))
 refine qq (fun n σ => ∃ i:Nat,i ≤ l.length ∧ n = l.length - i ∧ (∀ g,g ∈ l.take i → xI g = 0) ∧ σ = ⟨[(0,qr l),(3,.v (.int .i64 (i:Int)))],[],C.nh⟩) l.length ⟨0,Nat.zero_le _,rfl,(by simp),rfl⟩ ?_
 rintro n σ ⟨i,hi,rfl,hsofar,rfl⟩
 by_cases hlt:i < l.length
 ·have hr:=qx (f:=Ent.row) hlt
  have hsm:=hl.each l[i] (List.getElem_mem _)
  have hcp:=Jw l[i].path (by have:=hsm.1;omega)
  have hvr:=Kf l[i].ver
  have hlen:=hsm.2
  have hfo := @qb0 l[i]
  have hre := @qa6 l[i]
  have hte:=fun h => @VO l h60 i hlt hsofar h
  have hnx:=fun h=>qJ (p:=fun g=>xI g = 0) hlt hsofar h
  generalize xI l[i] = E at *
  generalize qM l[i].path = F at *
  generalize v8 l[i].ver = V at *
  repeat' (first|refine qe ?_|(first|refine xsF Tryz.func137 (hcp ..) ?_|refine xsF Tryz.func110 (hvr ..) ?_)|((first|refine qb ?_ ?_|refine qc ?_ ?_|refine xsC ?_ ?_);all_goals (intro hc;have hp:=hc;try simp at hp;try (exfalso;omega)))|refine qp ?_ ?_)
  all_goals try (exfalso;omega)
  all_goals first
   | (apply qE
      rfl
      refine Eq.trans ?_ (hte ?_)<;>(clear hte hnx;simp_all)<;>(try omega)
      done)
   | (refine ⟨l.length - (i + 1),_,by omega,qg (ts:=[(0,qr l),(3,.v (.int .i64 ((i + 1:Nat):Int)))]) ?_,i + 1,by omega,rfl,hnx (by clear hte;simp_all;try omega),rfl⟩;((repeat (first|exact qd|refine qi ?_|refine qI ?_ ?_))))
 obtain rfl:i = l.length:=by omega
 have hz:jU xI l = 0:=jL.2 (fun s hs=>hsofar s (by rw [List.take_length];exact hs))
 clear hsofar
 repeat' (first|refine qe ?_|fail|((first|refine qb ?_ ?_|refine qc ?_ ?_|refine xsC ?_ ?_);all_goals (intro hc;have hp:=hc;try simp at hp;try (exfalso;omega)))|refine qp ?_ ?_)
 all_goals try (exfalso;omega)
 (refine Awp.red (qg (ts:=[(0,qr l),(5,.v (.int .i64 ((0 + 1:Nat):Int)))]) ?_) ?_;((repeat (first|exact qd|refine qi ?_|refine qI ?_ ?_))))
 refine qq (fun n σ => ∃ i:Nat,i ≤ (l.drop 1).length ∧ n = (l.drop 1).length - i ∧ (∀ (k:Nat) (h:k + 1 < l.length),k < i → yt (l[k]'(by omega)) l[k + 1] = true) ∧ σ = ⟨[(0,qr l),(5,.v (.int .i64 ((i + 1:Nat):Int)))],[],C.nh⟩) (l.drop 1).length ⟨0,Nat.zero_le _,rfl,(fun k h hk=>absurd hk (Nat.not_lt_zero _)),rfl⟩ ?_
 have hdl:(l.drop 1).length = l.length - 1:=by simp
 rintro n σ ⟨i,hi,rfl,hsofar,rfl⟩
 by_cases hlt:i + 1 < l.length
 ·have hr:=qx (f:=Ent.row) hlt
  have hr':=qx (f:=Ent.row) (l:=l) (i:=i) (by omega)
  have hle:=qdu l[i] l[i + 1]
  repeat' (first|refine qe ?_|fail|((first|refine qb ?_ ?_|refine qc ?_ ?_|refine xsC ?_ ?_);all_goals (intro hc;have hp:=hc;try simp at hp;try (exfalso;omega)))|refine qp ?_ ?_)
  all_goals try (exfalso;omega)
  ·have hrf:¬ qv yt l = true:=fun h=>by
    have:=yf.1 h i hlt
    simp_all
   apply qE
   rfl
   simp [jJ,h60,hz,hrf]
  ·have hok:yt l[i] l[i + 1] = true:=(by simp_all)
   refine ⟨(l.drop 1).length - (i + 1),_,by omega,qg (ts:=[(0,qr l),(5,.v (.int .i64 ((i + 1 + 1:Nat):Int)))]) ?_,i + 1,by omega,rfl,(fun k h hk=>by
    by_cases e:k = i
    ·subst e;exact hok
    ·exact hsofar k h (by omega)),rfl⟩;((repeat (first|exact qd|refine qi ?_|refine qI ?_ ?_)))
 have hrise:qv yt l = true:=yf.2 fun k h=>hsofar k h (by simp at hi;omega)
 clear hsofar
 repeat' (first|refine qe ?_|fail|((first|refine qb ?_ ?_|refine qc ?_ ?_|refine xsC ?_ ?_);all_goals (intro hc;have hp:=hc;try simp at hp;try (exfalso;omega)))|refine qp ?_ ?_)
 all_goals try (exfalso;omega)
 (refine Awp.red (qg (ts:=[(0,qr l),(6,.v (.int .i64 ((0:Nat):Int)))]) ?_) ?_;((repeat (first|exact qd|refine qi ?_|refine qI ?_ ?_))))
 refine qq (fun n σ => ∃ i:Nat,i ≤ l.length ∧ n = l.length - i ∧ (∀ g,g ∈ l.take i → ¬ yJ l g = 5) ∧ σ = ⟨[(0,qr l),(6,.v (.int .i64 (i:Int)))],[],C.nh⟩) l.length ⟨0,Nat.zero_le _,rfl,(by simp),rfl⟩ ?_
 rintro n σ ⟨i,hi,rfl,hsofar,rfl⟩
 by_cases hlt:i < l.length
 ·have hr:=qx (f:=Ent.row) hlt
  have hsm:=hl.each l[i] (List.getElem_mem _)
  have hpo:=yR l[i].path (by have:=hsm.1;omega)
  have hif:jO C.P 138 [qr l,.v (str (qR l[i].path))] (.v (.int .i64 (yJ l l[i]))):=zc l (qR l[i].path) hl.len
  have hnx:=fun h=>qJ (p:=fun g => ¬ yJ l g = 5) hlt hsofar h
  have hany:yJ l l[i] = 5 → l.any (fun x=>decide (yJ l x = 5)) = true:=fun h=>List.any_eq_true.2 ⟨l[i],List.getElem_mem _,by simp [h]⟩
  generalize yJ l l[i] = E at hif hnx hany
  repeat' (first|refine qe ?_|(first|refine xsF Tryz.func139 (hpo ..) ?_|refine xsF Tryz.func138 (hif ..) ?_)|((first|refine qb ?_ ?_|refine qc ?_ ?_|refine xsC ?_ ?_);all_goals (intro hc;have hp:=hc;try simp at hp;try (exfalso;omega)))|refine qp ?_ ?_)
  all_goals try (exfalso;omega)
  ·have hany:=hany (by assumption)
   apply qE
   rfl
   simp [jJ,h60,hz,hrise,hany]
  ·refine ⟨l.length - (i + 1),_,by omega,qg (ts:=[(0,qr l),(6,.v (.int .i64 ((i + 1:Nat):Int)))]) ?_,i + 1,by omega,rfl,hnx (by assumption),rfl⟩;((repeat (first|exact qd|refine qi ?_|refine qI ?_ ?_)))
 obtain rfl:i = l.length:=by omega
 rw [List.take_length] at *
 have hno:¬ l.any (fun x=>decide (yJ l x = 5)) = true:=fun h=>by
  obtain ⟨x,hx,hk⟩:=List.any_eq_true.1 h
  exact hsofar x hx (by simpa using hk)
 have hE:jJ l = if l.any (fun x=>decide (¬ yJ l x = 0)) = true then 4 else 0:=by
  unfold jJ
  rw [if_neg h60,if_pos hz,if_pos hrise,if_neg hno]
 clear hsofar
 repeat' (first|refine qe ?_|fail|((first|refine qb ?_ ?_|refine qc ?_ ?_|refine xsC ?_ ?_);all_goals (intro hc;have hp:=hc;try simp at hp;try (exfalso;omega)))|refine qp ?_ ?_)
 all_goals try (exfalso;omega)
 (refine Awp.red (qg (ts:=[(0,qr l),(7,.v (.int .i64 ((0:Nat):Int)))]) ?_) ?_;((repeat (first|exact qd|refine qi ?_|refine qI ?_ ?_))))
 refine qq (fun n σ => ∃ i:Nat,i ≤ l.length ∧ n = l.length - i ∧ (∀ g,g ∈ l.take i → yJ l g = 0) ∧ σ = ⟨[(0,qr l),(7,.v (.int .i64 (i:Int)))],[],C.nh⟩) l.length ⟨0,Nat.zero_le _,rfl,(by simp),rfl⟩ ?_
 rintro n σ ⟨i,hi,rfl,hsofar,rfl⟩
 by_cases hlt:i < l.length
 ·have hr:=qx (f:=Ent.row) hlt
  have hsm:=hl.each l[i] (List.getElem_mem _)
  have hpo:=yR l[i].path (by have:=hsm.1;omega)
  have hif:jO C.P 138 [qr l,.v (str (qR l[i].path))] (.v (.int .i64 (yJ l l[i]))):=zc l (qR l[i].path) hl.len
  have hnx:=fun h=>qJ (p:=fun g=>yJ l g = 0) hlt hsofar h
  have hany:¬ yJ l l[i] = 0 → l.any (fun x=>decide (¬ yJ l x = 0)) = true:=fun h=>List.any_eq_true.2 ⟨l[i],List.getElem_mem _,by simp [h]⟩
  generalize yJ l l[i] = E at hif hnx hany
  repeat' (first|refine qe ?_|(first|refine xsF Tryz.func139 (hpo ..) ?_|refine xsF Tryz.func138 (hif ..) ?_)|((first|refine qb ?_ ?_|refine qc ?_ ?_|refine xsC ?_ ?_);all_goals (intro hc;have hp:=hc;try simp at hp;try (exfalso;omega)))|refine qp ?_ ?_)
  all_goals try (exfalso;omega)
  ·have hany:=hany (by assumption)
   apply qE
   rfl
   rw [hE,if_pos hany]
  ·refine ⟨l.length - (i + 1),_,by omega,qg (ts:=[(0,qr l),(7,.v (.int .i64 ((i + 1:Nat):Int)))]) ?_,i + 1,by omega,rfl,hnx (by assumption),rfl⟩;((repeat (first|exact qd|refine qi ?_|refine qI ?_ ?_)))
 obtain rfl:i = l.length:=by omega
 rw [List.take_length] at *
 have hno:¬ l.any (fun x=>decide (¬ yJ l x = 0)) = true:=fun h=>by
  obtain ⟨x,hx,hk⟩:=List.any_eq_true.1 h
  simp at hk
  exact hk (hsofar x hx)
 repeat' (first|refine qe ?_|fail|((first|refine qb ?_ ?_|refine qc ?_ ?_|refine xsC ?_ ?_);all_goals (intro hc;have hp:=hc;try simp at hp;try (exfalso;omega)))|refine qp ?_ ?_)
 all_goals try (exfalso;omega)
 apply qE
 rfl
 rw [hE,if_neg hno]
end Go.Proofs.YtiljlcgmcmjcoaaGreatDoor
set_option linter.unusedSimpArgs false
set_option linter.unnecessarySimpa false
set_option linter.unusedVariables false
set_option maxHeartbeats 1000000
namespace Go.Proofs.YtiljlcgmcmjcoaaGreatDoor
open Go.Ab Go.RowKit
set_option maxRecDepth 10000
attribute [local irreducible] Awp ye ji qQ Red qF Go.Ab.Fin qo Rz xx qG qO ResOk jK je jX qW
def kS (c:Chg):Int:=if (¬ c.kind = 3 ∧ ¬ c.to = []) ∨ (¬ c.kind = 2 ∧ ¬ c.text = []) then 1 else if 300 < c.text.length then 2 else if c.base < -1 ∨ 1000000 < c.base then 3 else 0
def yI (c:Chg):Int :=
 if c.kind < 1 ∨ 4 < c.kind then 7
 else if ¬ qM c.path = 0 then qM c.path
 else if c.kind = 3 ∧ ¬ qM c.to = 0 then qM c.to
 else kS c
theorem qim (c:Chg) (hc:c.small):jO C.P 173 [.agg c.row] (.v (.int .i64 (yI c))):=by
 obtain ⟨h1,h2,h3⟩:=hc
 have hpp:=ZP c.path (by omega)
 have ht:=ZP c.to (by omega)
 have hR:kS c = if (¬ c.kind = 3 ∧ ¬ c.to = []) ∨ (¬ c.kind = 2 ∧ ¬ c.text = []) then 1 else if 300 < c.text.length then 2 else if c.base < -1 ∨ 1000000 < c.base then 3 else 0:=rfl
 have hE:yI c = if c.kind < 1 ∨ 4 < c.kind then 7 else if ¬ qM c.path = 0 then qM c.path else if c.kind = 3 ∧ ¬ qM c.to = 0 then qM c.to else kS c:=rfl
 generalize yI c = E at *
 generalize kS c = R at *
 generalize qM c.path = F at *
 generalize qM c.to = G at *
 refine qa Tryz.func173 rfl _ Tryz.ntmps173 (Nat.le_of_ble_eq_true rfl) _ Tryz.results173 0 rfl rfl ?_
 repeat' (first|refine qe ?_|(first|refine xsF Tryz.func66 (hpp ..) ?_|refine xsF Tryz.func66 (ht ..) ?_)|((first|refine qb ?_ ?_|refine qc ?_ ?_|refine xsC ?_ ?_);all_goals (intro hc;have hp:=hc;try simp at hp;try (exfalso;omega)))|refine qp ?_ ?_)
 all_goals try (exfalso;omega)
 all_goals (apply qE;rfl)
 all_goals (rw [hE])
 all_goals first
  | (rw [if_pos (by omega)];done)
  | (rw [if_neg (by omega)]
     first
     | (rw [if_pos (by assumption)];done)
     | (rw [if_neg (by omega)]
        first
        | (rw [if_pos ⟨by assumption,by assumption⟩];done)
        | (rw [if_neg (by rintro ⟨_,_⟩;simp_all),hR]
           first
           | (rw [if_pos (by simp_all)];done)
           | (rw [if_neg (by simp_all)]
              first
              | (rw [if_pos (by omega)];done)
              | (rw [if_neg (by omega)]
                 first
                 | (rw [if_pos (by omega)];done)
                 | (rw [if_neg (by omega)];done))))))
theorem vz (c:Chg) (hc:c.small):jO C.P 160 [.agg c.row] (.v (.int .i64 (yI c))):=by
 obtain ⟨h1,h2,h3⟩:=hc
 have hpp:=Jw c.path (by omega)
 have ht:=Jw c.to (by omega)
 have hR:kS c = if (¬ c.kind = 3 ∧ ¬ c.to = []) ∨ (¬ c.kind = 2 ∧ ¬ c.text = []) then 1 else if 300 < c.text.length then 2 else if c.base < -1 ∨ 1000000 < c.base then 3 else 0:=rfl
 have hE:yI c = if c.kind < 1 ∨ 4 < c.kind then 7 else if ¬ qM c.path = 0 then qM c.path else if c.kind = 3 ∧ ¬ qM c.to = 0 then qM c.to else kS c:=rfl
 generalize yI c = E at *
 generalize kS c = R at *
 generalize qM c.path = F at *
 generalize qM c.to = G at *
 refine qa Tryz.func160 rfl _ Tryz.ntmps160 (Nat.le_of_ble_eq_true rfl) _ Tryz.results160 0 rfl rfl ?_
 repeat' (first|refine qe ?_|(first|refine xsF Tryz.func137 (hpp ..) ?_|refine xsF Tryz.func137 (ht ..) ?_)|((first|refine qb ?_ ?_|refine qc ?_ ?_|refine xsC ?_ ?_);all_goals (intro hc;have hp:=hc;try simp at hp;try (exfalso;omega)))|refine qp ?_ ?_)
 all_goals try (exfalso;omega)
 all_goals (apply qE;rfl)
 all_goals (rw [hE])
 all_goals first
  | (rw [if_pos (by omega)];done)
  | (rw [if_neg (by omega)]
     first
     | (rw [if_pos (by assumption)];done)
     | (rw [if_neg (by omega)]
        first
        | (rw [if_pos ⟨by assumption,by assumption⟩];done)
        | (rw [if_neg (by rintro ⟨_,_⟩;simp_all),hR]
           first
           | (rw [if_pos (by simp_all)];done)
           | (rw [if_neg (by simp_all)]
              first
              | (rw [if_pos (by omega)];done)
              | (rw [if_neg (by omega)]
                 first
                 | (rw [if_pos (by omega)];done)
                 | (rw [if_neg (by omega)];done))))))
end Go.Proofs.YtiljlcgmcmjcoaaGreatDoor
set_option linter.unusedSimpArgs false
set_option linter.unnecessarySimpa false
set_option linter.unusedVariables false
set_option maxHeartbeats 1000000
namespace Go.Proofs.YtiljlcgmcmjcoaaGreatDoor
open Go.Ab Go.RowKit
set_option maxRecDepth 10000
attribute [local irreducible] Awp ye ji qQ Red qF Go.Ab.Fin qo Rz xx qG qO ResOk jK je jX qW
theorem qb5 (p:Ent → Bool) (g:FuncId) (hg:IsFn C.P g) (cap:List AV) (hcap:AV.pure.pureL cap = true) (l:List (Ent)) (hl:l.length ≤ 1000000) (hc : ∀ s,s ∈ l → jO C.P g ((AV.agg (Ent.row s)) :: cap) (.v (.bool (p s)))) :
  jO C.P 198 [.sl false (l.map Ent.row),.clo (.func g) [] cap] (.v (.int .i64 (j0 p l))):=by
 refine qa Tryz.func198 rfl _ Tryz.ntmps198 (Nat.le_of_ble_eq_true rfl) _ Tryz.results198 0 rfl rfl ?_
 repeat' (first|refine qe ?_|fail|((first|refine xsC ?_ ?_);all_goals (intro hc;have hp:=hc;try simp at hp;try (exfalso;omega)))|refine qp ?_ ?_)
 (refine Awp.red (qg (ts:=[(0,.sl false (l.map Ent.row)),(1,.clo (.func g) [] cap),(7,.v (.int .i64 l.length)),(8,.v (.int .i64 ((0:Nat):Int)))]) ?_) ?_;((repeat (first|exact qd|refine qi ?_|refine qI ?_ ?_))))
 all_goals try (rw [List.length_map];done)
 refine qq (fun n σ => ∃ i:Nat,i ≤ l.length ∧ n = l.length - i ∧ (∀ s,s ∈ l.take i → p s = false) ∧ σ = ⟨[(0,.sl false (l.map Ent.row)),(1,.clo (.func g) [] cap),(7,.v (.int .i64 l.length)),(8,.v (.int .i64 (i:Int)))],[],C.nh⟩) l.length ⟨0,Nat.zero_le _,rfl,(by simp),rfl⟩ ?_
 rintro n σ ⟨i,hi,rfl,hsofar,rfl⟩
 by_cases hlt:i < l.length
 ·have hr:=qx (f:=Ent.row) hlt
  have hci:=hc l[i] (List.getElem_mem _)
  repeat' (first|refine qe ?_|(first|(apply qj;apply kt [];rfl;exact hg;exact hci;(case hz=>exact qk (qB rfl) (wk hcap));(case hfl=>rfl);(case hN=>exact nle rfl)))|((first|refine xsC ?_ ?_);all_goals (intro hc;have hp:=hc;try simp at hp;try (exfalso;omega)))|refine qp ?_ ?_)
  all_goals try (exfalso;omega)
  ·apply qE
   rfl
   exact (zu hlt hsofar hp).symm
  ·refine ⟨l.length - (i + 1),_,by omega,qg (ts:=[(0,.sl false (l.map Ent.row)),(1,.clo (.func g) [] cap),(7,.v (.int .i64 l.length)),(8,.v (.int .i64 ((i + 1:Nat):Int)))]) ?_,i + 1,by omega,rfl,qJ hlt hsofar hp,rfl⟩;((repeat (first|exact qd|refine qi ?_|refine qI ?_ ?_)))
 obtain rfl:i = l.length:=by omega
 repeat' (first|refine qe ?_|fail|((first|refine xsC ?_ ?_);all_goals (intro hc;have hp:=hc;try simp at hp;try (exfalso;omega)))|refine qp ?_ ?_)
 all_goals try (exfalso;omega)
 apply qE
 rfl
 exact (vH fun s hs=>hsofar s (by rw [List.take_length];exact hs)).symm
theorem qbw (p:Ent → Bool) (g:FuncId) (hg:IsFn C.P g) (cap:List AV) (hcap:AV.pure.pureL cap = true) (l:List (Ent)) (hl:l.length ≤ 1000000) (hc : ∀ s,s ∈ l → jO C.P g ((AV.agg (Ent.row s)) :: cap) (.v (.bool (p s)))) :
  jO C.P 188 [.sl false (l.map Ent.row),.clo (.func g) [] cap] (.v (.bool (l.any p))):=by
 have hidx:=qb5 p g hg cap hcap l hl hc
 refine qa Tryz.func188 rfl _ Tryz.ntmps188 (Nat.le_of_ble_eq_true rfl) _ Tryz.results188 0 rfl rfl ?_
 repeat' (first|refine qe ?_|(first|(apply qj;apply yy [];exact jP Tryz.func198 rfl rfl;exact hidx;(case hz=>exact qk (qB rfl) (qk (x8 hcap) qL));(case hfl=>rfl);(case hN=>exact nle rfl)))|((first|refine xsC ?_ ?_);all_goals (intro hc;have hp:=hc;try simp at hp;try (exfalso;omega)))|refine qp ?_ ?_)
 apply jd
 rfl
 rw [← Vh]
def jW (c:Chg):qC:=if c.kind = 3 then c.to else c.path
def xH (c:Chg) (x:Ent):Bool:=decide (c.base < x.ver) && inB x.path c.path
def vr (t:List Ent) (p:qC):Bool:=match t.find? (atP p) with|some x=>x.fold|none=>false
def zN (t:List Ent) (c:Chg):Int:=if c.kind = 1 then (if yV t c.path = true then 6 else 0) else if c.kind = 2 then (if vr t c.path = true then 4 else 0) else (if yV t c.path = true then 0 else 5)
def wa (t:List Ent) (c:Chg):Int:=if c.kind = 3 then (if inB c.to c.path = true then 3 else if yV t c.to = true then 6 else 0) else 0
def yv (t:List Ent) (c:Chg):Int:=if ¬ c.base = -1 ∧ t.any (xH c) = true then 8 else 0
def zY (t:List Ent) (c:Chg):Int :=
 if ¬ yC t (qR (jW c)) = 0 then yC t (qR (jW c))
 else if ¬ zN t c = 0 then zN t c
 else if ¬ wa t c = 0 then wa t c else yv t c
theorem qiy (x:Ent) (c:Chg) (hc:c.path.length ≤ 140737488355328):jO C.P 187 [.agg x.row,.fp [c.row] 0 0] (.v (.bool (xH c x))):=by
 have hin:=qek x.path c.path hc
 have hE:xH c x = (decide (c.base < x.ver) && inB x.path c.path):=rfl
 generalize xH c x = E at *
 generalize inB x.path c.path = I at *
 refine qa Tryz.func187 rfl _ Tryz.ntmps187 (Nat.le_of_ble_eq_true rfl) _ Tryz.results187 0 rfl rfl ?_
 repeat' (first|refine qe ?_|(first|refine xsF Tryz.func186 (hin ..) ?_)|((first|refine qb ?_ ?_|refine qc ?_ ?_|refine xsC ?_ ?_);all_goals (intro hc;have hp:=hc;try simp at hp;try (exfalso;omega)))|refine qp ?_ ?_)
 all_goals (apply jd;rfl;rw [hE];simp_all;try (intro _;omega))
theorem qiW (t:List Ent) (c:Chg) (hl:t.length ≤ 1000000) (hs:qv yt t = true) (hcs:c.small):jO C.P 174 [qr t,.agg c.row] (.v (.int .i64 (zY t c))):=by
 obtain ⟨l1,l2,l3⟩:=hcs
 have hpa:=K7 t (jW c) (by omega) hs (by unfold jW;split<;>omega)
 have hfe:=ZS t (jW c)
 have hat:=qhA t c.path (by omega) hs
 have hat2:=qhA t c.to (by omega) hs
 have hin:=qek c.to c.path (by omega)
 have hcon:=qbw (xH c) 187 (jP Tryz.func187 rfl rfl) [.fp [c.row] 0 0] rfl t hl (fun x _=>qiy x c (by omega))
 have hE:zY t c = if ¬ yC t (qR (jW c)) = 0 then yC t (qR (jW c)) else if ¬ zN t c = 0 then zN t c else if ¬ wa t c = 0 then wa t c else yv t c:=rfl
 have hI:zN t c = if c.kind = 1 then (if yV t c.path = true then 6 else 0) else if c.kind = 2 then (if vr t c.path = true then 4 else 0) else (if yV t c.path = true then 0 else 5):=rfl
 have hM:wa t c = if c.kind = 3 then (if inB c.to c.path = true then 3 else if yV t c.to = true then 6 else 0) else 0:=rfl
 have hS:yv t c = if ¬ c.base = -1 ∧ t.any (xH c) = true then 8 else 0:=rfl
 have hrow:yV t c.path = true → ∃ hk:xM t c.path < t.length,vr t c.path = t[xM t c.path].fold:=fun h=>by
  obtain ⟨hk,_,hfi,_⟩:=kW hs h
  exact ⟨hk,by unfold vr;rw [hfi]⟩
 have hnorow:yV t c.path = false → vr t c.path = false:=fun h=>by
  unfold vr;rw [(x9 h).1]
 have hg3:c.kind = 3 → jW c = c.to:=fun h=>by simp [jW,h]
 have hg0:¬ c.kind = 3 → jW c = c.path:=fun h=>by simp [jW,h]
 generalize zY t c = E at *
 generalize zN t c = I at *
 generalize wa t c = Mv at *
 generalize yv t c = S at *
 generalize t.any (xH c) = NW at *
 generalize inB c.to c.path = IB at *
 generalize yV t c.to = HT at *
 generalize xM t c.to = PT at *
 generalize yC t (qR (jW c)) = FE at *
 generalize JB t (jW c) = OK at *
 generalize wY t (jW c) = PE at *
 cases hh:yV t c.path with
 | true =>
   obtain ⟨hk,hfo⟩:=hrow hh
   rw [hh] at hat hI
   rw [hfo] at hI
   have hr:=qx (f:=Ent.row) hk
   clear hrow hnorow
   generalize xM t c.path = k at *
   by_cases k3:c.kind = 3
   ·rw [hg3 k3] at hpa
    refine qa Tryz.func174 rfl _ Tryz.ntmps174 (Nat.le_of_ble_eq_true rfl) _ Tryz.results174 0 rfl rfl ?_
    repeat' (first|refine qe ?_|(first|refine xsQ Tryz.func141 (hpa ..) ?_|refine xsQ Tryz.func67 (hat ..) ?_|refine xsQ Tryz.func67 (hat2 ..) ?_|refine xsF Tryz.func186 (hin ..) ?_|(apply qj;apply yy ([0]);exact jP Tryz.func188 rfl rfl;exact hcon;(case hz=>(refine qk (qB rfl) (qk (jQ qL (qk (qgR rfl (by simp) (x6 (fun row hrow=>by rw [List.mem_singleton.1 hrow];rfl))) qL)) qL)));(case hfl=>rfl);(case hN=>exact nle rfl)))|((first|refine qb ?_ ?_|refine qc ?_ ?_|refine xsC ?_ ?_);all_goals (intro hc;have hp:=hc;try simp at hp;try (exfalso;omega)))|refine qp ?_ ?_)
    all_goals try (exfalso;omega)
    all_goals (apply qE;rfl;clear hat hat2 hcon hpa hin;simp_all)
   ·rw [hg0 k3] at hpa
    refine qa Tryz.func174 rfl _ Tryz.ntmps174 (Nat.le_of_ble_eq_true rfl) _ Tryz.results174 0 rfl rfl ?_
    repeat' (first|refine qe ?_|(first|refine xsQ Tryz.func141 (hpa ..) ?_|refine xsQ Tryz.func67 (hat ..) ?_|refine xsQ Tryz.func67 (hat2 ..) ?_|refine xsF Tryz.func186 (hin ..) ?_|(apply qj;apply yy ([0]);exact jP Tryz.func188 rfl rfl;exact hcon;(case hz=>(refine qk (qB rfl) (qk (jQ qL (qk (qgR rfl (by simp) (x6 (fun row hrow=>by rw [List.mem_singleton.1 hrow];rfl))) qL)) qL)));(case hfl=>rfl);(case hN=>exact nle rfl)))|((first|refine qb ?_ ?_|refine qc ?_ ?_|refine xsC ?_ ?_);all_goals (intro hc;have hp:=hc;try simp at hp;try (exfalso;omega)))|refine qp ?_ ?_)
    all_goals try (exfalso;omega)
    all_goals (apply qE;rfl;clear hat hat2 hcon hpa hin;simp_all)
 | false =>
   have hfo:=hnorow hh
   rw [hh] at hat hI
   rw [hfo] at hI
   clear hrow hnorow
   generalize xM t c.path = k at *
   by_cases k3:c.kind = 3
   ·rw [hg3 k3] at hpa
    refine qa Tryz.func174 rfl _ Tryz.ntmps174 (Nat.le_of_ble_eq_true rfl) _ Tryz.results174 0 rfl rfl ?_
    repeat' (first|refine qe ?_|(first|refine xsQ Tryz.func141 (hpa ..) ?_|refine xsQ Tryz.func67 (hat ..) ?_|refine xsQ Tryz.func67 (hat2 ..) ?_|refine xsF Tryz.func186 (hin ..) ?_)|((first|refine qb ?_ ?_|refine qc ?_ ?_|refine xsC ?_ ?_);all_goals (intro hc;have hp:=hc;try simp at hp;try (exfalso;omega)))|refine qp ?_ ?_)
    all_goals try (exfalso;omega)
    all_goals (apply qE;rfl;clear hat hat2 hcon hpa hin;simp_all)
   ·rw [hg0 k3] at hpa
    refine qa Tryz.func174 rfl _ Tryz.ntmps174 (Nat.le_of_ble_eq_true rfl) _ Tryz.results174 0 rfl rfl ?_
    repeat' (first|refine qe ?_|(first|refine xsQ Tryz.func141 (hpa ..) ?_|refine xsQ Tryz.func67 (hat ..) ?_|refine xsQ Tryz.func67 (hat2 ..) ?_|refine xsF Tryz.func186 (hin ..) ?_|(apply qj;apply yy ([0]);exact jP Tryz.func188 rfl rfl;exact hcon;(case hz=>(refine qk (qB rfl) (qk (jQ qL (qk (qgR rfl (by simp) (x6 (fun row hrow=>by rw [List.mem_singleton.1 hrow];rfl))) qL)) qL)));(case hfl=>rfl);(case hN=>exact nle rfl)))|((first|refine qb ?_ ?_|refine qc ?_ ?_|refine xsC ?_ ?_);all_goals (intro hc;have hp:=hc;try simp at hp;try (exfalso;omega)))|refine qp ?_ ?_)
    all_goals try (exfalso;omega)
    all_goals (apply qE;rfl;clear hat hat2 hcon hpa hin;simp_all)
end Go.Proofs.YtiljlcgmcmjcoaaGreatDoor
set_option linter.unusedSimpArgs false
set_option linter.unnecessarySimpa false
set_option linter.unusedVariables false
set_option maxHeartbeats 1000000
namespace Go.Proofs.YtiljlcgmcmjcoaaGreatDoor
open Go.Ab Go.RowKit
set_option maxRecDepth 10000
attribute [local irreducible] Awp ye ji qQ Red qF Go.Ab.Fin qo Rz xx qG qO ResOk jK je jX qW
theorem ZY (l:List Ent) (hl:l.length ≤ 1000000) :
  qo C.P 101 [qr l] [] (.os 0 0 l.length) [.own false 4 (l.map Ent.row)]:=by
 by_cases h0:l = []
 ·subst h0
  refine qa Tryz.func101 rfl _ Tryz.ntmps101 (Nat.le_of_ble_eq_true rfl) _ Tryz.results101 0 rfl rfl ?_
  repeat' (first|refine qe ?_|(first|(refine jN ?_)|(refine vL ?_)|(refine J9 ?_))|((first|refine xsC ?_ ?_);all_goals (intro hc;have hp:=hc;try simp at hp;try (exfalso;omega)))|refine qp ?_ ?_)
  · (refine Qv (C:=C) (zd (C:=C) 2 4 rfl (Nat.zero_le _)) ?_)
    (refine Jf (rs:=[.tmp 2]) [(0,0)] 1 ?_;(repeat (first|exact qf|refine jV ?_|refine qH ?_ ?_));all_goals skip)
  · (refine Jf (rs:=[.tmp 2]) [(0,0)] 1 ?_;(repeat (first|exact qf|refine jV ?_|refine qH ?_ ?_));all_goals skip)
 ·refine qa Tryz.func101 rfl _ Tryz.ntmps101 (Nat.le_of_ble_eq_true rfl) _ Tryz.results101 0 rfl rfl ?_
  repeat' (first|refine qe ?_|(first|(refine jN ?_)|(refine vL ?_)|(apply qj;apply wK;rfl;exact (fun h=>h0 (List.map_eq_nil_iff.1 h));rfl;rfl;(first|exact .inl rfl|exact .inr rfl);exact nle rfl))|((first|refine xsC ?_ ?_);all_goals (intro hc;have hp:=hc;try simp at hp;try (exfalso;omega)))|refine qp ?_ ?_)
  (refine Jf (rs:=[.tmp 2]) [(0,0)] 1 ?_;(repeat (first|exact qf|refine jV ?_|refine qH ?_ ?_));all_goals skip)
theorem qaF (l:List Ent) (g:Ent) (hl:l.length ≤ 1000000) :
  qo C1.P 199 [.os 0 0 l.length,.v (.int .i64 l.length),.sl false [g.row]] [.own false 4 (l.map Ent.row)] (.os 1 0 (l.length + 1)) [.dead,.own false 4 ((l ++ [g]).map Ent.row)]:=by
 refine qa (C:=C1) Tryz.func199 rfl _ Tryz.ntmps199 (Nat.le_of_ble_eq_true rfl) _ Tryz.results199 1 rfl rfl ?_
 repeat' (first|refine qe ?_|(first|(refine Jm ?_)|(refine yX ?_))|((first|refine qb ?_ ?_|refine qc ?_ ?_|refine xsC ?_ ?_);all_goals (intro hc;have hp:=hc;try simp at hp;try (exfalso;omega)))|refine qp ?_ ?_)
 (refine Jf (rs:=[.tmp 6]) [(1,1)] 2 ?_;(apply yp 0;exact jj rfl;(repeat (first|exact qf|refine jV ?_|refine qH ?_ ?_)));all_goals trace_state)
theorem qdX {α:Type} (R J Z:List α) (x:α) {i a b c d:Nat} (hi:i ≤ R.length) (hJ:J.length = 1 + Z.length) (ha:a = i) (hb:b = i + 1) (hc:c = i + 1) (hd:d = i + 1 + Z.length) :
  ((R.take i ++ J).take a ++ [x] ++ (R.take i ++ J).drop b).take c ++ Z ++ ((R.take i ++ J).take a ++ [x] ++ (R.take i ++ J).drop b).drop d = R.take i ++ ([x] ++ Z):=by
 subst ha;subst hb;subst hc;subst hd
 have h1:(R.take a ++ J).take a = R.take a:=by rw [List.take_append_of_le_length (by simp;omega),List.take_of_length_le (by simp;omega)]
 have h2:(R.take a ++ [x] ++ (R.take a ++ J).drop (a + 1)).take (a + 1) = R.take a ++ [x]:=by
  rw [List.take_append_of_le_length (by simp;omega),List.take_of_length_le (by simp;omega)]
 have h3:(R.take a ++ [x] ++ (R.take a ++ J).drop (a + 1)).drop (a + 1 + Z.length) = []:=List.drop_of_length_le (by simp;omega)
 rw [h1,h2,h3];simp
theorem qfX {α:Type} (R Z:List α) (x:α) {i a b c d m:Nat} (hi:i + 1 ≤ R.length) (ha:a = i + 1) (hc:c = i) (hd:d = i + 1) (hm:m = i + 1 + Z.length) :
  ((R.take a ++ Z ++ R.drop b).take c ++ [x] ++ (R.take a ++ Z ++ R.drop b).drop d).take m = R.take i ++ ([x] ++ Z):=by
 subst ha;subst hc;subst hd;subst hm
 have h1:(R.take (c + 1) ++ Z ++ R.drop b).take c = R.take c:=by
  rw [List.append_assoc,List.take_append_of_le_length (by simp;omega),List.take_take,Nat.min_eq_left (by omega)]
 have h2:(R.take (c + 1) ++ Z ++ R.drop b).drop (c + 1) = Z ++ R.drop b:=by
  rw [List.append_assoc,List.drop_append_of_le_length (by simp;omega),List.drop_of_length_le (by simp;omega),List.nil_append]
 rw [h1,h2, ← List.append_assoc,List.take_append_of_le_length (by simp;omega),List.take_of_length_le (by simp;omega),List.append_assoc]
theorem qb9 (l:List Ent) (g:Ent) (i:Nat) (hi:i < l.length) (hl:l.length ≤ 1000000) :
  qo C1.P 199 [.os 0 0 l.length,.v (.int .i64 (i:Int)),.sl false [g.row]] [.own false 4 (l.map Ent.row)] (.os 1 0 (l.length + 1)) [.dead,.own false 4 ((l.take i ++ ([g] ++ l.drop i)).map Ent.row)]:=by
 refine qa (C:=C1) Tryz.func199 rfl _ Tryz.ntmps199 (Nat.le_of_ble_eq_true rfl) _ Tryz.results199 1 rfl rfl ?_
 refine Wx 0 4 (l.map Ent.row) rfl fun cap hcap=>?_
 rw [List.length_map] at hcap
 have hRt:(l.map Ent.row ++ vQ 4 (cap - (l.map Ent.row).length)).take l.length = l.map Ent.row:=by
  rw [List.take_append_of_le_length (by simp),List.take_of_length_le (by simp)]
 have hRl:l.length ≤ (l.map Ent.row ++ vQ 4 (cap - (l.map Ent.row).length)).length:=by simp
 generalize l.map Ent.row ++ vQ 4 (cap - (l.map Ent.row).length) = R at hRt hRl ⊢
 have hcut:(R.drop i).take (l.length - i) = (l.drop i).map Ent.row:=by rw [← List.drop_take,hRt,List.map_drop]
 have hti:R.take i = (l.take i).map Ent.row:=by rw [List.map_take, ← hRt,List.take_take,Nat.min_eq_left (by omega)]
 have hck : ∀ row,row ∈ (l.drop i).map Ent.row → row.length = 4:=fun row hr=>by obtain ⟨x,_,rfl⟩:=List.mem_map.1 hr;rfl
 have hcl : ∀ row,row ∈ (l.drop i).map Ent.row → row.all j5 = true:=fun row hr=>by obtain ⟨x,_,rfl⟩:=List.mem_map.1 hr;rfl
 repeat' (first|refine qe ?_|(first|(refine Jm ?_)|(apply qj;apply XH;(case hx=>rfl);(case hn=>rfl);(case hT=>rfl);(case he=>rfl);(case hN=>exact nle rfl))|(apply yW;apply Qa;(case hx=>rfl);(case hT=>rfl);(case he=>rfl);(case hE=>rfl);(case hn=>rfl);(case hl=>(first|omega|(simp;done)|(simp only [List.length_cons,List.length_nil,List.length_map];omega)|(simp;omega)));(case hy=>exact congrArg (fun z=>AV.v (Value.int IntKind.i64 z)) (show ((l.length + 1:Nat):Int) - (i:Int) = ((l.length + 1 - i:Nat):Int) from by omega));(case hxT=>rfl);(case hxk=>rfl);(case hz=>rfl);(case hs0=>exact Nat.ne_of_beq_eq_false rfl);(case hg=>omega);(case hsz=>(first|omega|(simp;done)|(simp only [List.length_cons,List.length_nil,List.length_map];omega)|(simp;omega)));(case hlen=>(first|omega|(simp;done)|(simp only [List.length_cons,List.length_nil,List.length_map];omega)|(simp;omega)));(case hN=>exact nle rfl))|(apply qj;apply JU;exact Tryz.func206;(case hname=>rfl);(case hb=>rfl);(case hnx=>rfl);(case hex=>rfl);(case hT=>rfl);(case he=>rfl);(case hE=>rfl);(case hx=>rfl);(case hy=>rfl);(case hm=>rfl);(case hk=>exact Nat.ne_of_beq_eq_false rfl);(case hrw=>intro row hrow;rw [List.mem_singleton.1 hrow];exact Nat.succ_ne_zero _);(case hN=>exact nle rfl))|(apply kD;apply kO;(case hx=>rfl);(case hT=>rfl);(case he=>rfl);(case hE=>rfl);(case hn=>rfl);(case hsrc=>exact W9 (xQ rfl rfl));(case hmin=>exact Nat.min_eq_left (by (first|omega|(simp;done)|(simp only [List.length_cons,List.length_nil,List.length_map];omega)|(simp;omega))));(case hfit=>(first|omega|(simp;done)|(simp only [List.length_cons,List.length_nil,List.length_map];omega)|(simp;omega)));(case hN=>exact nle rfl))|(apply kD;apply kO;(case hx=>rfl);(case hT=>rfl);(case he=>rfl);(case hE=>rfl);(case hn=>rfl);(case hsrc=>exact ZI (cnt:=l.length - i) rfl (List.mem_singleton.2 rfl) rfl (by omega) (by omega) (by first|exact hcut|simpa using hcut) hck hcl);(case hmin=>(first|exact (Nat.min_eq_left (by (first|omega|(simp;done)|(simp only [List.length_cons,List.length_nil,List.length_map];omega)|(simp;omega)))).trans (by (first|omega|(simp;done)|(simp only [List.length_cons,List.length_nil,List.length_map];omega)|(simp;omega)))|exact (Nat.min_eq_right (by (first|omega|(simp;done)|(simp only [List.length_cons,List.length_nil,List.length_map];omega)|(simp;omega)))).trans (by (first|omega|(simp;done)|(simp only [List.length_cons,List.length_nil,List.length_map];omega)|(simp;omega)))));(case hfit=>(first|omega|(simp;done)|(simp only [List.length_cons,List.length_nil,List.length_map];omega)|(simp;omega)));(case hN=>exact nle rfl)))|((first|refine qb ?_ ?_|refine qc ?_ ?_|refine xsC ?_ ?_);all_goals (intro hc;have hp:=hc;try simp at hp;try (exfalso;omega)))|refine qp ?_ ?_)
 all_goals try (exfalso;omega)
 ·have hrow:=qdX R (vQ 4 (l.length + 1 - i)) ((l.drop i).map Ent.row) g.row (i:=i) (a:=0 + i) (b:=0 + i + 1) (c:=0 + (i + 1)) (d:=0 + (i + 1) + ((l.drop i).map Ent.row).length) (by omega) (by simp;omega) (by omega) (by omega) (by omega) (by omega)
  (apply jp (rs:=[.tmp 6]) [(1,1)] 2;(case hr=>(repeat (first|exact qS|(apply qU;rfl)|(apply qK;rfl;rfl;rfl;rfl;rfl))));(case hL=>rfl);(case hh=>(apply yp 0;exact jj rfl;(repeat (first|exact qf|refine jV ?_|refine qH ?_ ?_)));all_goals (refine hrow.trans ?_;rw [hti];simp));(case hi=>first|exact (rfl:_ = ([]:List (Nat × Nat)))|exact (rfl:_ = [((0:Nat),(0:Nat))])|exact (rfl:_ = [((0:Nat),(0:Nat)),(1,1)]));(case hz=>first|rfl|(simp [jI,AV.ren,AV.ren.renL,qZ,qu,qX];done)|(simp [jI,AV.ren,AV.ren.renL,qZ,qu,qX, *];done)|(simp [jI,AV.ren,AV.ren.renL,qZ,qu,qX];omega)))
 ·have hrow:=qfX R ((l.drop i).map Ent.row) g.row (i:=i) (a:=0 + 0 + (i + 1)) (b:=0 + 0 + (i + 1) + ((l.drop i).map Ent.row).length) (c:=0 + 0 + i) (d:=0 + 0 + i + 1) (m:=l.length + 1) (by omega) (by omega) (by omega) (by omega) (by simp;omega)
  have hrow:=hrow.trans (show _ = (l.take i ++ ([g] ++ l.drop i)).map Ent.row from by rw [hti];simp)
  apply QB (C:=C1) 6 0 (l.length + 1)
  case hi=>rfl
  case hn=>rfl
  case hr=>exact hrow
  case hnn=>exact Nat.ne_of_beq_eq_false rfl
  case hnx=>exact Nat.le_of_ble_eq_true rfl
  (apply jp (rs:=[.tmp 6]) [(1,1)] 2;(case hr=>(repeat (first|exact qS|(apply qU;rfl)|(apply qK;rfl;rfl;rfl;rfl;rfl))));(case hL=>rfl);(case hh=>(apply yp 0;exact jj rfl;(repeat (first|exact qf|refine jV ?_|refine qH ?_ ?_)));all_goals trace_state);(case hi=>first|exact (rfl:_ = ([]:List (Nat × Nat)))|exact (rfl:_ = [((0:Nat),(0:Nat))])|exact (rfl:_ = [((0:Nat),(0:Nat)),(1,1)]));(case hz=>first|rfl|(simp [jI,AV.ren,AV.ren.renL,qZ,qu,qX];done)|(simp [jI,AV.ren,AV.ren.renL,qZ,qu,qX, *];done)|(simp [jI,AV.ren,AV.ren.renL,qZ,qu,qX];omega)))
def xg (t:List Ent) (x:Ent):List Ent:=if yV t x.path = true then t.take (xM t x.path) ++ ([x] ++ t.drop (xM t x.path + 1)) else t.take (xM t x.path) ++ ([x] ++ t.drop (xM t x.path))
theorem qgk (t:List Ent) (x:Ent) (hl:t.length ≤ 1000000) (hs:qv yt t = true) :
  qo C1.P 189 [.os 0 0 t.length,.agg x.row] [.own false 4 (t.map Ent.row)] (.os 1 0 (xg t x).length) [.dead,.own false 4 ((xg t x).map Ent.row)]:=by
 have hat:=qhA t x.path (by omega) hs
 cases hh:yV t x.path with
 | true =>
   obtain ⟨hp0, -, -, -⟩:=kW hs hh
   have hL:xg t x = t.take (xM t x.path) ++ ([x] ++ t.drop (xM t x.path + 1)):=by simp [xg,hh]
   rw [hh] at hat
   generalize xg t x = L at hL ⊢
   generalize xM t x.path = p at hL hp0 hat
   have hlen:L.length = t.length:=by rw [hL];simp;omega
   have hrow:=qx (f:=Ent.row) hp0
   refine qa (C:=C1) Tryz.func189 rfl _ Tryz.ntmps189 (Nat.le_of_ble_eq_true rfl) _ Tryz.results189 1 rfl rfl ?_
   repeat' (first|refine qe ?_|(first|(apply qj;apply yy ([0]);exact jP Tryz.func67 rfl rfl;apply hat;(case hz=>(repeat' (first|exact qL|apply qk|exact qB rfl|exact yi|(apply yn;(case hn=>rfl);(case hl=>first|with_reducible rfl|(simp;done)|(simp [*];done)|omega);(case hp=>(first|assumption|exact yO rfl|exact jq fun _=>rfl)))|apply jT|apply jQ)));(case hfl=>rfl);(case hN=>exact nle rfl))|(refine vV ?_))|((first|refine qb ?_ ?_|refine qc ?_ ?_|refine xsC ?_ ?_);all_goals (intro hc;have hp:=hc;try simp at hp;try (exfalso;omega)))|refine qp ?_ ?_)
   all_goals try (exfalso;omega)
   apply QB (C:=C1) 4 0 t.length
   case hi=>rfl
   case hn=>rfl
   case hr=>(show ((t.map Ent.row).set p x.row).take t.length = L.map Ent.row;rw [← List.map_set,hL,List.set_eq_take_append_cons_drop,if_pos hp0,List.take_of_length_le (by simp;omega)];rfl)
   case hnn=>exact Nat.ne_of_beq_eq_false rfl
   case hnx=>exact Nat.le_of_ble_eq_true rfl
   (apply jp (rs:=[.tmp 4]) [(2,1)] 2;(case hr=>(repeat (first|exact qS|(apply qU;rfl)|(apply qK;rfl;rfl;rfl;rfl;rfl))));(case hL=>rfl);(case hh=>(apply yp 0;exact jj rfl;(repeat (first|exact qf|refine jV ?_|refine qH ?_ ?_)));all_goals trace_state);(case hi=>first|exact (rfl:_ = ([]:List (Nat × Nat)))|exact (rfl:_ = [((0:Nat),(0:Nat))])|exact (rfl:_ = [((0:Nat),(0:Nat)),(1,1)]));(case hz=>first|rfl|(simp [jI,AV.ren,AV.ren.renL,qZ,qu,qX];done)|(simp [jI,AV.ren,AV.ren.renL,qZ,qu,qX, *];done)|(simp [jI,AV.ren,AV.ren.renL,qZ,qu,qX];omega)))
 | false =>
   have hL:xg t x = t.take (xM t x.path) ++ ([x] ++ t.drop (xM t x.path)):=by simp [xg,hh]
   have hple:=qg5 t x.path
   rw [hh] at hat
   generalize xg t x = L at hL ⊢
   generalize xM t x.path = p at hL hple hat
   have hlen:L.length = t.length + 1:=by rw [hL];simp;omega
   by_cases hp0:p = t.length
   ·have hin:=qaF t x hl
    have hL2:L = t ++ [x]:=by rw [hL,hp0];simp
    rw [hp0] at hat
    refine qa (C:=C1) Tryz.func189 rfl _ Tryz.ntmps189 (Nat.le_of_ble_eq_true rfl) _ Tryz.results189 1 rfl rfl ?_
    repeat' (first|refine qe ?_|(first|(apply qj;apply yy ([0]);exact jP Tryz.func67 rfl rfl;apply hat;(case hz=>(repeat' (first|exact qL|apply qk|exact qB rfl|exact yi|(apply yn;(case hn=>rfl);(case hl=>first|with_reducible rfl|(simp;done)|(simp [*];done)|omega);(case hp=>(first|assumption|exact yO rfl|exact jq fun _=>rfl)))|apply jT|apply jQ)));(case hfl=>rfl);(case hN=>exact nle rfl))|(refine vV ?_)|(refine jN ?_)|(apply qN Tryz.func199 rfl rfl;intro hIsFn;refine zP ([0]) 0 hIsFn (hin ..) ?_))|((first|refine qb ?_ ?_|refine qc ?_ ?_|refine xsC ?_ ?_);all_goals (intro hc;have hp:=hc;try simp at hp;try (exfalso;omega)))|refine qp ?_ ?_)
    all_goals try (exfalso;omega)
    (apply jp (rs:=[.tmp 4]) [(2,1)] 2;(case hr=>(repeat (first|exact qS|(apply qU;rfl)|(apply qK;rfl;rfl;rfl;rfl;rfl))));(case hL=>rfl);(case hh=>(apply yp 0;exact jj rfl;(repeat (first|exact qf|refine jV ?_|refine qH ?_ ?_)));all_goals (rw [hL2]));(case hi=>first|exact (rfl:_ = ([]:List (Nat × Nat)))|exact (rfl:_ = [((0:Nat),(0:Nat))])|exact (rfl:_ = [((0:Nat),(0:Nat)),(1,1)]));(case hz=>first|rfl|(simp [jI,AV.ren,AV.ren.renL,qZ,qu,qX];done)|(simp [jI,AV.ren,AV.ren.renL,qZ,qu,qX, *];done)|(simp [jI,AV.ren,AV.ren.renL,qZ,qu,qX];omega)))
   ·have hin:=qb9 t x p (by omega) hl
    refine qa (C:=C1) Tryz.func189 rfl _ Tryz.ntmps189 (Nat.le_of_ble_eq_true rfl) _ Tryz.results189 1 rfl rfl ?_
    repeat' (first|refine qe ?_|(first|(apply qj;apply yy ([0]);exact jP Tryz.func67 rfl rfl;apply hat;(case hz=>(repeat' (first|exact qL|apply qk|exact qB rfl|exact yi|(apply yn;(case hn=>rfl);(case hl=>first|with_reducible rfl|(simp;done)|(simp [*];done)|omega);(case hp=>(first|assumption|exact yO rfl|exact jq fun _=>rfl)))|apply jT|apply jQ)));(case hfl=>rfl);(case hN=>exact nle rfl))|(refine vV ?_)|(refine jN ?_)|(apply qN Tryz.func199 rfl rfl;intro hIsFn;refine zP ([0]) 0 hIsFn (hin ..) ?_))|((first|refine qb ?_ ?_|refine qc ?_ ?_|refine xsC ?_ ?_);all_goals (intro hc;have hp:=hc;try simp at hp;try (exfalso;omega)))|refine qp ?_ ?_)
    all_goals try (exfalso;omega)
    (apply jp (rs:=[.tmp 4]) [(2,1)] 2;(case hr=>(repeat (first|exact qS|(apply qU;rfl)|(apply qK;rfl;rfl;rfl;rfl;rfl))));(case hL=>rfl);(case hh=>(apply yp 0;exact jj rfl;(repeat (first|exact qf|refine jV ?_|refine qH ?_ ?_)));all_goals (rw [hL]));(case hi=>first|exact (rfl:_ = ([]:List (Nat × Nat)))|exact (rfl:_ = [((0:Nat),(0:Nat))])|exact (rfl:_ = [((0:Nat),(0:Nat)),(1,1)]));(case hz=>first|rfl|(simp [jI,AV.ren,AV.ren.renL,qZ,qu,qX];done)|(simp [jI,AV.ren,AV.ren.renL,qZ,qu,qX, *];done)|(simp [jI,AV.ren,AV.ren.renL,qZ,qu,qX];omega)))
end Go.Proofs.YtiljlcgmcmjcoaaGreatDoor
