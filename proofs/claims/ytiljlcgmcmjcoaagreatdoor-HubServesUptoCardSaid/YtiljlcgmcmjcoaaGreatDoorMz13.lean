import Derived.Test.YtiljlcgmcmjcoaaGreatDoorMz12
set_option linter.unusedSimpArgs false
set_option linter.unnecessarySimpa false
set_option linter.unusedVariables false
set_option maxHeartbeats 1000000
namespace Go.Proofs.YtiljlcgmcmjcoaaGreatDoor
open Go.Ab Go.RowKit
set_option maxRecDepth 10000
attribute [local irreducible] Awp ye ji qQ Red qF Go.Ab.Fin qo Rz xx qG qO ResOk jK je jX qW
def vP (t:List Ent) (c:Chg):Int :=
 if ¬ yC t (qR (jW c)) = 0 then yC t (qR (jW c))
 else if ¬ zN t c = 0 then zN t c else wa t c
theorem qhR (t:List Ent) (c:Chg):zY t c = if vP t c = 0 then yv t c else vP t c:=by
 unfold zY vP
 split<;>(try split)<;>(try split)<;>simp_all
theorem qji (t:List Ent) (c:Chg) (v:Int) (h60:t.length ≤ 60) (hcs:c.small) (h0:¬ yI c = 0):jO C.P 130 [qr t,.agg c.row,.v (.int .i64 v)] (.tup [qr [],.v (.int .i64 (yI c))]):=by
 have hform:=vz c hcs
 generalize yI c = E at *
 refine qa Tryz.func130 rfl _ Tryz.ntmps130 (Nat.le_of_ble_eq_true rfl) _ Tryz.results130 0 rfl rfl ?_
 repeat' (first|refine qe ?_|(first|refine xsF Tryz.func160 (hform ..) ?_)|((first|refine qb ?_ ?_|refine qc ?_ ?_|refine xsC ?_ ?_);all_goals (intro hc;have hp:=hc;try simp at hp;try (exfalso;omega)))|refine qp ?_ ?_)
 all_goals try (exfalso;omega)
 (exact j1 (rs:=[.tmp 6,.tmp 7]))
theorem qjd (t:List Ent) (c:Chg) (v:Int) (h60:t.length ≤ 60) (hs:qv yt t = true) (hcs:c.small) (h0:yI c = 0) (h1:¬ vP t c = 0):jO C.P 130 [qr t,.agg c.row,.v (.int .i64 v)] (.tup [qr [],.v (.int .i64 (vP t c))]):=by
 obtain ⟨l1,l2,l3⟩:=hcs
 have hform:=vz c ⟨l1,l2,l3⟩
 have hpo1:=yR c.path (by omega)
 have hpo2:=yR c.to (by omega)
 have hfo:=zc t (qR (jW c)) (by omega)
 have hea:=xB t c.path (by omega)
 have heb:=xB t c.to (by omega)
 have hinn:=vI c.to c.path (by omega) (by omega)
 have hkk:=yS h0
 rw [h0] at hform
 have hE:vP t c = if ¬ yC t (qR (jW c)) = 0 then yC t (qR (jW c)) else if ¬ zN t c = 0 then zN t c else wa t c:=rfl
 have hI:zN t c = if c.kind = 1 then (if yV t c.path = true then 6 else 0) else if c.kind = 2 then (if vr t c.path = true then 4 else 0) else (if yV t c.path = true then 0 else 5):=rfl
 have hM:wa t c = if c.kind = 3 then (if inB c.to c.path = true then 3 else if yV t c.to = true then 6 else 0) else 0:=rfl
 have hg3:c.kind = 3 → jW c = c.to:=fun h=>by simp [jW,h]
 have hg0:¬ c.kind = 3 → jW c = c.path:=fun h=>by simp [jW,h]
 have hrow:yV t c.path = true → ∃ hk:xM t c.path < t.length,vr t c.path = t[xM t c.path].fold ∧ j0 (atP c.path) t = xM t c.path:=fun h=>by
  obtain ⟨hk,_,hfi,hix⟩:=kW hs h
  exact ⟨hk,by unfold vr;rw [hfi],hix⟩
 have hnorow:yV t c.path = false → vr t c.path = false ∧ j0 (atP c.path) t = -1:=fun h=>by
  unfold vr;rw [(x9 h).1];exact ⟨rfl,(x9 h).2⟩
 have hto:(yV t c.to = true ∧ 0 ≤ j0 (atP c.to) t) ∨ (yV t c.to = false ∧ j0 (atP c.to) t = -1):=by
  cases h:yV t c.to with
  | true=>obtain ⟨hk,_,hfi,hix⟩:=kW hs h;exact .inl ⟨rfl,by rw [hix];omega⟩
  | false=>exact .inr ⟨rfl,(x9 h).2⟩
 obtain ⟨kk1,kk2, -⟩:=hkk
 generalize vP t c = E at *
 generalize zN t c = I at *
 generalize wa t c = Mv at *
 generalize inB c.to c.path = IB at *
 generalize yV t c.to = HT at *
 generalize j0 (atP c.to) t = IT at *
 generalize yC t (qR (jW c)) = FE at *
 by_cases hFE:FE = 0
 ·rw [hFE] at hfo
  rw [if_neg (by simp [hFE])] at hE
  clear hFE
  cases hh:yV t c.path with
  | true =>
    obtain ⟨hk,hfa,hix⟩:=hrow hh
    rw [hix] at hea
    rw [hh,hfa] at hI
    have hr:=qx (f:=Ent.row) hk
    clear hrow hnorow hix
    generalize xM t c.path = k at *
    by_cases k3:c.kind = 3
    ·rw [hg3 k3] at hfo
     clear hg3 hg0
     refine qa Tryz.func130 rfl _ Tryz.ntmps130 (Nat.le_of_ble_eq_true rfl) _ Tryz.results130 0 rfl rfl ?_
     repeat' (first|refine qe ?_|(first|refine xsF Tryz.func160 (hform ..) ?_|refine xsF Tryz.func139 (hpo1 ..) ?_|refine xsF Tryz.func139 (hpo2 ..) ?_|refine xsQ Tryz.func138 (hfo ..) ?_|refine xsQ Tryz.func161 (hea ..) ?_|refine xsQ Tryz.func161 (heb ..) ?_|refine xsF Tryz.func162 (hinn ..) ?_)|((first|refine qb ?_ ?_|refine qc ?_ ?_|refine xsC ?_ ?_);all_goals (intro hc;have hp:=hc;try simp at hp;try (exfalso;omega)))|refine qp ?_ ?_)
     all_goals try (exfalso;omega)
     all_goals first
      | ((refine yu (rs:=[.tmp 6,.tmp 7]) ?_;(repeat' (first|exact qL|apply qk|exact qB rfl|exact yi|exact vS|apply jT|apply yl|apply jQ|apply yo|apply jY|apply yq|refine vY ?_|apply y0));all_goals (clear hea heb hfo hform hinn hpo1 hpo2;simp_all)))
      | (exfalso;clear hea heb hfo hform hinn hpo1 hpo2;simp_all;done)
    ·rw [hg0 k3] at hfo
     clear hg3 hg0
     refine qa Tryz.func130 rfl _ Tryz.ntmps130 (Nat.le_of_ble_eq_true rfl) _ Tryz.results130 0 rfl rfl ?_
     repeat' (first|refine qe ?_|(first|refine xsF Tryz.func160 (hform ..) ?_|refine xsF Tryz.func139 (hpo1 ..) ?_|refine xsF Tryz.func139 (hpo2 ..) ?_|refine xsQ Tryz.func138 (hfo ..) ?_|refine xsQ Tryz.func161 (hea ..) ?_|refine xsQ Tryz.func161 (heb ..) ?_|refine xsF Tryz.func162 (hinn ..) ?_)|((first|refine qb ?_ ?_|refine qc ?_ ?_|refine xsC ?_ ?_);all_goals (intro hc;have hp:=hc;try simp at hp;try (exfalso;omega)))|refine qp ?_ ?_)
     all_goals try (exfalso;omega)
     all_goals first
      | ((refine yu (rs:=[.tmp 6,.tmp 7]) ?_;(repeat' (first|exact qL|apply qk|exact qB rfl|exact yi|exact vS|apply jT|apply yl|apply jQ|apply yo|apply jY|apply yq|refine vY ?_|apply y0));all_goals (clear hea heb hfo hform hinn hpo1 hpo2;simp_all)))
      | (exfalso;clear hea heb hfo hform hinn hpo1 hpo2;simp_all;done)
  | false =>
    obtain ⟨hfa,hix⟩:=hnorow hh
    rw [hix] at hea
    rw [hh,hfa] at hI
    clear hrow hnorow hix
    by_cases k3:c.kind = 3
    ·rw [hg3 k3] at hfo
     clear hg3 hg0
     refine qa Tryz.func130 rfl _ Tryz.ntmps130 (Nat.le_of_ble_eq_true rfl) _ Tryz.results130 0 rfl rfl ?_
     repeat' (first|refine qe ?_|(first|refine xsF Tryz.func160 (hform ..) ?_|refine xsF Tryz.func139 (hpo1 ..) ?_|refine xsF Tryz.func139 (hpo2 ..) ?_|refine xsQ Tryz.func138 (hfo ..) ?_|refine xsQ Tryz.func161 (hea ..) ?_|refine xsQ Tryz.func161 (heb ..) ?_|refine xsF Tryz.func162 (hinn ..) ?_)|((first|refine qb ?_ ?_|refine qc ?_ ?_|refine xsC ?_ ?_);all_goals (intro hc;have hp:=hc;try simp at hp;try (exfalso;omega)))|refine qp ?_ ?_)
     all_goals try (exfalso;omega)
     all_goals first
      | ((refine yu (rs:=[.tmp 6,.tmp 7]) ?_;(repeat' (first|exact qL|apply qk|exact qB rfl|exact yi|exact vS|apply jT|apply yl|apply jQ|apply yo|apply jY|apply yq|refine vY ?_|apply y0));all_goals (clear hea heb hfo hform hinn hpo1 hpo2;simp_all)))
      | (exfalso;clear hea heb hfo hform hinn hpo1 hpo2;simp_all;done)
    ·rw [hg0 k3] at hfo
     clear hg3 hg0
     refine qa Tryz.func130 rfl _ Tryz.ntmps130 (Nat.le_of_ble_eq_true rfl) _ Tryz.results130 0 rfl rfl ?_
     repeat' (first|refine qe ?_|(first|refine xsF Tryz.func160 (hform ..) ?_|refine xsF Tryz.func139 (hpo1 ..) ?_|refine xsF Tryz.func139 (hpo2 ..) ?_|refine xsQ Tryz.func138 (hfo ..) ?_|refine xsQ Tryz.func161 (hea ..) ?_|refine xsQ Tryz.func161 (heb ..) ?_|refine xsF Tryz.func162 (hinn ..) ?_)|((first|refine qb ?_ ?_|refine qc ?_ ?_|refine xsC ?_ ?_);all_goals (intro hc;have hp:=hc;try simp at hp;try (exfalso;omega)))|refine qp ?_ ?_)
     all_goals try (exfalso;omega)
     all_goals first
      | ((refine yu (rs:=[.tmp 6,.tmp 7]) ?_;(repeat' (first|exact qL|apply qk|exact qB rfl|exact yi|exact vS|apply jT|apply yl|apply jQ|apply yo|apply jY|apply yq|refine vY ?_|apply y0));all_goals (clear hea heb hfo hform hinn hpo1 hpo2;simp_all)))
      | (exfalso;clear hea heb hfo hform hinn hpo1 hpo2;simp_all;done)
 ·rw [if_pos hFE] at hE
  subst hE
  clear hI hM hrow hnorow hto
  by_cases k3:c.kind = 3
  ·rw [hg3 k3] at hfo
   clear hg3 hg0
   refine qa Tryz.func130 rfl _ Tryz.ntmps130 (Nat.le_of_ble_eq_true rfl) _ Tryz.results130 0 rfl rfl ?_
   repeat' (first|refine qe ?_|(first|refine xsF Tryz.func160 (hform ..) ?_|refine xsF Tryz.func139 (hpo1 ..) ?_|refine xsF Tryz.func139 (hpo2 ..) ?_|refine xsQ Tryz.func138 (hfo ..) ?_|refine xsQ Tryz.func161 (hea ..) ?_|refine xsQ Tryz.func161 (heb ..) ?_|refine xsF Tryz.func162 (hinn ..) ?_)|((first|refine qb ?_ ?_|refine qc ?_ ?_|refine xsC ?_ ?_);all_goals (intro hc;have hp:=hc;try simp at hp;try (exfalso;omega)))|refine qp ?_ ?_)
   all_goals try (exfalso;omega)
   all_goals ((exact j1 (rs:=[.tmp 6,.tmp 7])))
  ·rw [hg0 k3] at hfo
   clear hg3 hg0
   refine qa Tryz.func130 rfl _ Tryz.ntmps130 (Nat.le_of_ble_eq_true rfl) _ Tryz.results130 0 rfl rfl ?_
   repeat' (first|refine qe ?_|(first|refine xsF Tryz.func160 (hform ..) ?_|refine xsF Tryz.func139 (hpo1 ..) ?_|refine xsF Tryz.func139 (hpo2 ..) ?_|refine xsQ Tryz.func138 (hfo ..) ?_|refine xsQ Tryz.func161 (hea ..) ?_|refine xsQ Tryz.func161 (heb ..) ?_|refine xsF Tryz.func162 (hinn ..) ?_)|((first|refine qb ?_ ?_|refine qc ?_ ?_|refine xsC ?_ ?_);all_goals (intro hc;have hp:=hc;try simp at hp;try (exfalso;omega)))|refine qp ?_ ?_)
   all_goals try (exfalso;omega)
   all_goals ((exact j1 (rs:=[.tmp 6,.tmp 7])))
end Go.Proofs.YtiljlcgmcmjcoaaGreatDoor
set_option linter.unusedSimpArgs false
set_option linter.unnecessarySimpa false
set_option linter.unusedVariables false
set_option maxHeartbeats 1000000
namespace Go.Proofs.YtiljlcgmcmjcoaaGreatDoor
open Go.Ab Go.RowKit
set_option maxRecDepth 10000
attribute [local irreducible] Awp ye ji qQ Red qF Go.Ab.Fin qo Rz xx qG qO ResOk jK je jX qW
theorem QE {t:List Ent} {c:Chg} (h:vP t c = 0):yC t (qR (jW c)) = 0 ∧ zN t c = 0 ∧ wa t c = 0:=by
 unfold vP at h
 split at h
 ·contradiction
 ·split at h
  ·contradiction
  ·exact ⟨by omega,by omega,h⟩
theorem QN {c:Chg} (h:yI c = 0) : -1 ≤ c.base:=by
 have:=(yS h).2.2.2.2
 unfold kS at this
 split at this
 ·exact absurd this (by decide)
 ·split at this
  ·exact absurd this (by decide)
  ·split at this
   ·exact absurd this (by decide)
   ·omega
theorem qjb (t:List Ent) (c:Chg) (v:Int) (h60:t.length ≤ 60) (hs:qv yt t = true) (hgt : ∀ x,x ∈ t → qM x.path = 0) (hcs:c.small) (hk:c.kind = 1) (h0:yI c = 0) (h1:vP t c = 0) (h2:yv t c = 0):jO C.P 130 [qr t,.agg c.row,.v (.int .i64 v)] (.tup [qr (if yw t c v = 0 then ju t c v else []),.v (.int .i64 (yw t c v))]):=by
 obtain ⟨l1,l2,l3⟩:=hcs
 have hform:=vz c ⟨l1,l2,l3⟩
 have hpo1:=yR c.path (by omega)
 have hpo2:=yR c.to (by omega)
 have hfo:=zc t (qR (jW c)) (by omega)
 have hea:=xB t c.path (by omega)
 have heb:=xB t c.to (by omega)
 have hinn:=vI c.to c.path (by omega) (by omega)
 have hkk:=yS h0
 have hbase : -1 ≤ c.base:=QN h0
 obtain ⟨hz1,hz2,hz3⟩:=QE h1
 have hst : ∀ x,x ∈ t → ¬ c.base = -1 → (decide (c.base < x.ver) && inB x.path c.path) = false:=fun x hx hb=>by
  unfold yv at h2
  by_cases h3:t.any (xH c) = true
  ·rw [if_pos ⟨hb,h3⟩] at h2;exact absurd h2 (by decide)
  ·have h4:t.any (xH c) = false:=by simpa using h3
   rw [List.any_eq_false] at h4
   have h5:=h4 x hx
   simpa [xH] using h5
 clear h2
 have hx:yV t c.path = false:=by
  unfold zN at hz2
  rw [if_pos hk] at hz2
  cases h:yV t c.path with
  | true=>simp [h] at hz2
  | false=>rfl
 rw [(x9 hx).2] at hea
 have hg0:jW c = c.path:=by simp [jW,hk]
 rw [hz1,hg0] at hfo
 rw [h0] at hform
 have hput:jO C.P 163 [qr t,.agg [.v (str c.path),.v (.bool true),.v (str []),.v (.int .i64 v)]] (qr (ju t c v)):=by
  have h:=Qu t ⟨c.path,true,[],v⟩ (by omega)
  rw [Yf hs] at h
  have hD:ju t c v = xg t ⟨c.path,true,[],v⟩:=by simp [ju,hk]
  rw [hD];exact h
 have hE:yw t c v = if 60 < (ju t c v).length then 2 else 0:=by simp [yw,y7,hk]
 rw [hE]
 have hlen:=J0 t c v
 generalize ju t c v = L at *
 by_cases hL:60 < L.length
 ·rw [if_pos hL]
  refine qa Tryz.func130 rfl _ Tryz.ntmps130 (Nat.le_of_ble_eq_true rfl) _ Tryz.results130 0 rfl rfl ?_
  repeat' (first|refine qe ?_|(first|refine xsF Tryz.func160 (hform ..) ?_|refine xsF Tryz.func139 (hpo1 ..) ?_|refine xsF Tryz.func139 (hpo2 ..) ?_|refine xsQ Tryz.func138 (hfo ..) ?_|refine xsQ Tryz.func161 (hea ..) ?_|refine xsQ Tryz.func161 (heb ..) ?_|refine xsF Tryz.func162 (hinn ..) ?_)|((first|refine qb ?_ ?_|refine qc ?_ ?_|refine xsC ?_ ?_);all_goals (intro hc;have hp:=hc;try simp at hp;try (exfalso;omega)))|refine qp ?_ ?_)
  all_goals try (exfalso;omega)
  refine xV 4 0 ?_
  (refine Awp.red (qg (ts:=[(0,qr t),(2,.v (.int .i64 v)),(4,.fp [c.row] 0 0),(11,.v (.int .i64 ((0:Nat):Int)))]) ?_) ?_;((repeat (first|exact qd|refine qi ?_|refine qI ?_ ?_))))
  refine qq (fun n σ => ∃ i:Nat,i ≤ t.length ∧ n = t.length - i ∧ (True) ∧ σ = ⟨[(0,qr t),(2,.v (.int .i64 v)),(4,.fp [c.row] 0 0),(11,.v (.int .i64 (i:Int)))],[],C.nh⟩) t.length ⟨0,Nat.zero_le _,rfl,trivial,rfl⟩ ?_
  rintro n σ ⟨i,hi,rfl, -,rfl⟩
  by_cases hlt:i < t.length
  ·have hr:=qx (f:=Ent.row) hlt
   have hnw:=hst t[i] (List.getElem_mem _)
   have hpl:=jt (hgt t[i] (List.getElem_mem _))
   have hii:=vI t[i].path c.path (by omega) (by omega)
   generalize inB t[i].path c.path = IB at *
   repeat' (first|refine qe ?_|(first|refine xsF Tryz.func162 (hii ..) ?_)|((first|refine qb ?_ ?_|refine qc ?_ ?_|refine xsC ?_ ?_);all_goals (intro hc;have hp:=hc;try simp at hp;try (exfalso;omega)))|refine qp ?_ ?_)
   all_goals try (exfalso;omega)
   all_goals try (
    have h9:=hnw (by omega)
    rw [Bool.and_eq_false_iff] at h9
    rcases h9 with h9|h9
    ·exact absurd (h9.symm.trans (by assumption)) Bool.false_ne_true
    ·exact absurd (h9.symm.trans (by assumption)) Bool.false_ne_true)
   all_goals first
    | (refine ⟨t.length - (i + 1),_,by omega,qg (ts:=[(0,qr t),(2,.v (.int .i64 v)),(4,.fp [c.row] 0 0),(11,.v (.int .i64 ((i + 1:Nat):Int)))]) ?_,i + 1,by omega,rfl,trivial,rfl⟩;((repeat (first|exact qd|refine qi ?_|refine qI ?_ ?_))))
    | ((repeat' (first|refine qe ?_|(first|refine xsQ Tryz.func163 (hput ..) ?_)|((first|refine qb ?_ ?_|refine qc ?_ ?_|refine xsC ?_ ?_);all_goals (intro hc;have hp:=hc;try simp at hp;try (exfalso;omega)))|refine qp ?_ ?_));(all_goals try (exfalso;omega));(all_goals ((exact j1 (rs:=[.tmp 6,.tmp 7])))))
  ·obtain rfl:i = t.length:=by omega
   (repeat' (first|refine qe ?_|(first|refine xsQ Tryz.func163 (hput ..) ?_)|((first|refine qb ?_ ?_|refine qc ?_ ?_|refine xsC ?_ ?_);all_goals (intro hc;have hp:=hc;try simp at hp;try (exfalso;omega)))|refine qp ?_ ?_));(all_goals try (exfalso;omega));(all_goals ((exact j1 (rs:=[.tmp 6,.tmp 7]))))
 ·rw [if_neg hL]
  refine qa Tryz.func130 rfl _ Tryz.ntmps130 (Nat.le_of_ble_eq_true rfl) _ Tryz.results130 0 rfl rfl ?_
  repeat' (first|refine qe ?_|(first|refine xsF Tryz.func160 (hform ..) ?_|refine xsF Tryz.func139 (hpo1 ..) ?_|refine xsF Tryz.func139 (hpo2 ..) ?_|refine xsQ Tryz.func138 (hfo ..) ?_|refine xsQ Tryz.func161 (hea ..) ?_|refine xsQ Tryz.func161 (heb ..) ?_|refine xsF Tryz.func162 (hinn ..) ?_)|((first|refine qb ?_ ?_|refine qc ?_ ?_|refine xsC ?_ ?_);all_goals (intro hc;have hp:=hc;try simp at hp;try (exfalso;omega)))|refine qp ?_ ?_)
  all_goals try (exfalso;omega)
  refine xV 4 0 ?_
  (refine Awp.red (qg (ts:=[(0,qr t),(2,.v (.int .i64 v)),(4,.fp [c.row] 0 0),(11,.v (.int .i64 ((0:Nat):Int)))]) ?_) ?_;((repeat (first|exact qd|refine qi ?_|refine qI ?_ ?_))))
  refine qq (fun n σ => ∃ i:Nat,i ≤ t.length ∧ n = t.length - i ∧ (True) ∧ σ = ⟨[(0,qr t),(2,.v (.int .i64 v)),(4,.fp [c.row] 0 0),(11,.v (.int .i64 (i:Int)))],[],C.nh⟩) t.length ⟨0,Nat.zero_le _,rfl,trivial,rfl⟩ ?_
  rintro n σ ⟨i,hi,rfl, -,rfl⟩
  by_cases hlt:i < t.length
  ·have hr:=qx (f:=Ent.row) hlt
   have hnw:=hst t[i] (List.getElem_mem _)
   have hpl:=jt (hgt t[i] (List.getElem_mem _))
   have hii:=vI t[i].path c.path (by omega) (by omega)
   generalize inB t[i].path c.path = IB at *
   repeat' (first|refine qe ?_|(first|refine xsF Tryz.func162 (hii ..) ?_)|((first|refine qb ?_ ?_|refine qc ?_ ?_|refine xsC ?_ ?_);all_goals (intro hc;have hp:=hc;try simp at hp;try (exfalso;omega)))|refine qp ?_ ?_)
   all_goals try (exfalso;omega)
   all_goals try (
    have h9:=hnw (by omega)
    rw [Bool.and_eq_false_iff] at h9
    rcases h9 with h9|h9
    ·exact absurd (h9.symm.trans (by assumption)) Bool.false_ne_true
    ·exact absurd (h9.symm.trans (by assumption)) Bool.false_ne_true)
   all_goals first
    | (refine ⟨t.length - (i + 1),_,by omega,qg (ts:=[(0,qr t),(2,.v (.int .i64 v)),(4,.fp [c.row] 0 0),(11,.v (.int .i64 ((i + 1:Nat):Int)))]) ?_,i + 1,by omega,rfl,trivial,rfl⟩;((repeat (first|exact qd|refine qi ?_|refine qI ?_ ?_))))
    | ((repeat' (first|refine qe ?_|(first|refine xsQ Tryz.func163 (hput ..) ?_)|((first|refine qb ?_ ?_|refine qc ?_ ?_|refine xsC ?_ ?_);all_goals (intro hc;have hp:=hc;try simp at hp;try (exfalso;omega)))|refine qp ?_ ?_));(all_goals try (exfalso;omega));(all_goals ((exact j1 (rs:=[.tmp 6,.tmp 7])))))
  ·obtain rfl:i = t.length:=by omega
   (repeat' (first|refine qe ?_|(first|refine xsQ Tryz.func163 (hput ..) ?_)|((first|refine qb ?_ ?_|refine qc ?_ ?_|refine xsC ?_ ?_);all_goals (intro hc;have hp:=hc;try simp at hp;try (exfalso;omega)))|refine qp ?_ ?_));(all_goals try (exfalso;omega));(all_goals ((exact j1 (rs:=[.tmp 6,.tmp 7]))))
theorem qit (t:List Ent) (c:Chg) (v:Int) (h60:t.length ≤ 60) (hs:qv yt t = true) (hgt : ∀ x,x ∈ t → qM x.path = 0) (hcs:c.small) (hk:c.kind = 2) (hh:yV t c.path = true) (h0:yI c = 0) (h1:vP t c = 0) (h2:yv t c = 0):jO C.P 130 [qr t,.agg c.row,.v (.int .i64 v)] (.tup [qr (if yw t c v = 0 then ju t c v else []),.v (.int .i64 (yw t c v))]):=by
 obtain ⟨l1,l2,l3⟩:=hcs
 have hform:=vz c ⟨l1,l2,l3⟩
 have hpo1:=yR c.path (by omega)
 have hpo2:=yR c.to (by omega)
 have hfo:=zc t (qR (jW c)) (by omega)
 have hea:=xB t c.path (by omega)
 have heb:=xB t c.to (by omega)
 have hinn:=vI c.to c.path (by omega) (by omega)
 have hkk:=yS h0
 have hbase : -1 ≤ c.base:=QN h0
 obtain ⟨hz1,hz2,hz3⟩:=QE h1
 have hst : ∀ x,x ∈ t → ¬ c.base = -1 → (decide (c.base < x.ver) && inB x.path c.path) = false:=fun x hx hb=>by
  unfold yv at h2
  by_cases h3:t.any (xH c) = true
  ·rw [if_pos ⟨hb,h3⟩] at h2;exact absurd h2 (by decide)
  ·have h4:t.any (xH c) = false:=by simpa using h3
   rw [List.any_eq_false] at h4
   have h5:=h4 x hx
   simpa [xH] using h5
 clear h2
 have hk1:¬ c.kind = 1:=by omega
 have hfa:vr t c.path = false:=by
  unfold zN at hz2
  rw [if_neg hk1,if_pos hk] at hz2
  cases h:vr t c.path with
  | true=>simp [h] at hz2
  | false=>rfl
 have hg0:jW c = c.path:=by simp [jW,hk]
 rw [hz1,hg0] at hfo
 rw [h0] at hform
 have hput:jO C.P 163 [qr t,.agg [.v (str c.path),.v (.bool false),.v (str c.text),.v (.int .i64 v)]] (qr (ju t c v)):=by
  have h:=Qu t ⟨c.path,false,c.text,v⟩ (by omega)
  rw [Yf hs] at h
  have hD:ju t c v = xg t ⟨c.path,false,c.text,v⟩:=by simp [ju,hk]
  rw [hD];exact h
 have hE:yw t c v = if 60 < (ju t c v).length then 2 else 0:=by simp [yw,y7,hk]
 rw [hE]
 have hlen:=J0 t c v
 generalize ju t c v = L at *
 obtain ⟨hkk2,_,hfi,hix⟩:=kW hs hh
 have hrk:=qx (f:=Ent.row) hkk2
 have hfold:t[xM t c.path].fold = false:=by unfold vr at hfa;rw [hfi] at hfa;exact hfa
 rw [hix] at hea
 generalize xM t c.path = k at *
 by_cases hL:60 < L.length
 ·rw [if_pos hL]
  refine qa Tryz.func130 rfl _ Tryz.ntmps130 (Nat.le_of_ble_eq_true rfl) _ Tryz.results130 0 rfl rfl ?_
  repeat' (first|refine qe ?_|(first|refine xsF Tryz.func160 (hform ..) ?_|refine xsF Tryz.func139 (hpo1 ..) ?_|refine xsF Tryz.func139 (hpo2 ..) ?_|refine xsQ Tryz.func138 (hfo ..) ?_|refine xsQ Tryz.func161 (hea ..) ?_|refine xsQ Tryz.func161 (heb ..) ?_|refine xsF Tryz.func162 (hinn ..) ?_)|((first|refine qb ?_ ?_|refine qc ?_ ?_|refine xsC ?_ ?_);all_goals (intro hc;have hp:=hc;try simp at hp;try (exfalso;omega)))|refine qp ?_ ?_)
  all_goals try (exfalso;omega)
  refine xV 4 0 ?_
  (refine Awp.red (qg (ts:=[(0,qr t),(2,.v (.int .i64 v)),(4,.fp [c.row] 0 0),(11,.v (.int .i64 ((0:Nat):Int)))]) ?_) ?_;((repeat (first|exact qd|refine qi ?_|refine qI ?_ ?_))))
  refine qq (fun n σ => ∃ i:Nat,i ≤ t.length ∧ n = t.length - i ∧ (True) ∧ σ = ⟨[(0,qr t),(2,.v (.int .i64 v)),(4,.fp [c.row] 0 0),(11,.v (.int .i64 (i:Int)))],[],C.nh⟩) t.length ⟨0,Nat.zero_le _,rfl,trivial,rfl⟩ ?_
  rintro n σ ⟨i,hi,rfl, -,rfl⟩
  by_cases hlt:i < t.length
  ·have hr:=qx (f:=Ent.row) hlt
   have hnw:=hst t[i] (List.getElem_mem _)
   have hpl:=jt (hgt t[i] (List.getElem_mem _))
   have hii:=vI t[i].path c.path (by omega) (by omega)
   generalize inB t[i].path c.path = IB at *
   repeat' (first|refine qe ?_|(first|refine xsF Tryz.func162 (hii ..) ?_)|((first|refine qb ?_ ?_|refine qc ?_ ?_|refine xsC ?_ ?_);all_goals (intro hc;have hp:=hc;try simp at hp;try (exfalso;omega)))|refine qp ?_ ?_)
   all_goals try (exfalso;omega)
   all_goals try (
    have h9:=hnw (by omega)
    rw [Bool.and_eq_false_iff] at h9
    rcases h9 with h9|h9
    ·exact absurd (h9.symm.trans (by assumption)) Bool.false_ne_true
    ·exact absurd (h9.symm.trans (by assumption)) Bool.false_ne_true)
   all_goals first
    | (refine ⟨t.length - (i + 1),_,by omega,qg (ts:=[(0,qr t),(2,.v (.int .i64 v)),(4,.fp [c.row] 0 0),(11,.v (.int .i64 ((i + 1:Nat):Int)))]) ?_,i + 1,by omega,rfl,trivial,rfl⟩;((repeat (first|exact qd|refine qi ?_|refine qI ?_ ?_))))
    | ((repeat' (first|refine qe ?_|(first|refine xsQ Tryz.func163 (hput ..) ?_)|((first|refine qb ?_ ?_|refine qc ?_ ?_|refine xsC ?_ ?_);all_goals (intro hc;have hp:=hc;try simp at hp;try (exfalso;omega)))|refine qp ?_ ?_));(all_goals try (exfalso;omega));(all_goals ((exact j1 (rs:=[.tmp 6,.tmp 7])))))
  ·obtain rfl:i = t.length:=by omega
   (repeat' (first|refine qe ?_|(first|refine xsQ Tryz.func163 (hput ..) ?_)|((first|refine qb ?_ ?_|refine qc ?_ ?_|refine xsC ?_ ?_);all_goals (intro hc;have hp:=hc;try simp at hp;try (exfalso;omega)))|refine qp ?_ ?_));(all_goals try (exfalso;omega));(all_goals ((exact j1 (rs:=[.tmp 6,.tmp 7]))))
 ·rw [if_neg hL]
  refine qa Tryz.func130 rfl _ Tryz.ntmps130 (Nat.le_of_ble_eq_true rfl) _ Tryz.results130 0 rfl rfl ?_
  repeat' (first|refine qe ?_|(first|refine xsF Tryz.func160 (hform ..) ?_|refine xsF Tryz.func139 (hpo1 ..) ?_|refine xsF Tryz.func139 (hpo2 ..) ?_|refine xsQ Tryz.func138 (hfo ..) ?_|refine xsQ Tryz.func161 (hea ..) ?_|refine xsQ Tryz.func161 (heb ..) ?_|refine xsF Tryz.func162 (hinn ..) ?_)|((first|refine qb ?_ ?_|refine qc ?_ ?_|refine xsC ?_ ?_);all_goals (intro hc;have hp:=hc;try simp at hp;try (exfalso;omega)))|refine qp ?_ ?_)
  all_goals try (exfalso;omega)
  refine xV 4 0 ?_
  (refine Awp.red (qg (ts:=[(0,qr t),(2,.v (.int .i64 v)),(4,.fp [c.row] 0 0),(11,.v (.int .i64 ((0:Nat):Int)))]) ?_) ?_;((repeat (first|exact qd|refine qi ?_|refine qI ?_ ?_))))
  refine qq (fun n σ => ∃ i:Nat,i ≤ t.length ∧ n = t.length - i ∧ (True) ∧ σ = ⟨[(0,qr t),(2,.v (.int .i64 v)),(4,.fp [c.row] 0 0),(11,.v (.int .i64 (i:Int)))],[],C.nh⟩) t.length ⟨0,Nat.zero_le _,rfl,trivial,rfl⟩ ?_
  rintro n σ ⟨i,hi,rfl, -,rfl⟩
  by_cases hlt:i < t.length
  ·have hr:=qx (f:=Ent.row) hlt
   have hnw:=hst t[i] (List.getElem_mem _)
   have hpl:=jt (hgt t[i] (List.getElem_mem _))
   have hii:=vI t[i].path c.path (by omega) (by omega)
   generalize inB t[i].path c.path = IB at *
   repeat' (first|refine qe ?_|(first|refine xsF Tryz.func162 (hii ..) ?_)|((first|refine qb ?_ ?_|refine qc ?_ ?_|refine xsC ?_ ?_);all_goals (intro hc;have hp:=hc;try simp at hp;try (exfalso;omega)))|refine qp ?_ ?_)
   all_goals try (exfalso;omega)
   all_goals try (
    have h9:=hnw (by omega)
    rw [Bool.and_eq_false_iff] at h9
    rcases h9 with h9|h9
    ·exact absurd (h9.symm.trans (by assumption)) Bool.false_ne_true
    ·exact absurd (h9.symm.trans (by assumption)) Bool.false_ne_true)
   all_goals first
    | (refine ⟨t.length - (i + 1),_,by omega,qg (ts:=[(0,qr t),(2,.v (.int .i64 v)),(4,.fp [c.row] 0 0),(11,.v (.int .i64 ((i + 1:Nat):Int)))]) ?_,i + 1,by omega,rfl,trivial,rfl⟩;((repeat (first|exact qd|refine qi ?_|refine qI ?_ ?_))))
    | ((repeat' (first|refine qe ?_|(first|refine xsQ Tryz.func163 (hput ..) ?_)|((first|refine qb ?_ ?_|refine qc ?_ ?_|refine xsC ?_ ?_);all_goals (intro hc;have hp:=hc;try simp at hp;try (exfalso;omega)))|refine qp ?_ ?_));(all_goals try (exfalso;omega));(all_goals ((exact j1 (rs:=[.tmp 6,.tmp 7])))))
  ·obtain rfl:i = t.length:=by omega
   (repeat' (first|refine qe ?_|(first|refine xsQ Tryz.func163 (hput ..) ?_)|((first|refine qb ?_ ?_|refine qc ?_ ?_|refine xsC ?_ ?_);all_goals (intro hc;have hp:=hc;try simp at hp;try (exfalso;omega)))|refine qp ?_ ?_));(all_goals try (exfalso;omega));(all_goals ((exact j1 (rs:=[.tmp 6,.tmp 7]))))
theorem qiE (t:List Ent) (c:Chg) (v:Int) (h60:t.length ≤ 60) (hs:qv yt t = true) (hgt : ∀ x,x ∈ t → qM x.path = 0) (hcs:c.small) (hk:c.kind = 2) (hh:yV t c.path = false) (h0:yI c = 0) (h1:vP t c = 0) (h2:yv t c = 0):jO C.P 130 [qr t,.agg c.row,.v (.int .i64 v)] (.tup [qr (if yw t c v = 0 then ju t c v else []),.v (.int .i64 (yw t c v))]):=by
 obtain ⟨l1,l2,l3⟩:=hcs
 have hform:=vz c ⟨l1,l2,l3⟩
 have hpo1:=yR c.path (by omega)
 have hpo2:=yR c.to (by omega)
 have hfo:=zc t (qR (jW c)) (by omega)
 have hea:=xB t c.path (by omega)
 have heb:=xB t c.to (by omega)
 have hinn:=vI c.to c.path (by omega) (by omega)
 have hkk:=yS h0
 have hbase : -1 ≤ c.base:=QN h0
 obtain ⟨hz1,hz2,hz3⟩:=QE h1
 have hst : ∀ x,x ∈ t → ¬ c.base = -1 → (decide (c.base < x.ver) && inB x.path c.path) = false:=fun x hx hb=>by
  unfold yv at h2
  by_cases h3:t.any (xH c) = true
  ·rw [if_pos ⟨hb,h3⟩] at h2;exact absurd h2 (by decide)
  ·have h4:t.any (xH c) = false:=by simpa using h3
   rw [List.any_eq_false] at h4
   have h5:=h4 x hx
   simpa [xH] using h5
 clear h2
 have hk1:¬ c.kind = 1:=by omega
 have hfa:vr t c.path = false:=by
  unfold zN at hz2
  rw [if_neg hk1,if_pos hk] at hz2
  cases h:vr t c.path with
  | true=>simp [h] at hz2
  | false=>rfl
 have hg0:jW c = c.path:=by simp [jW,hk]
 rw [hz1,hg0] at hfo
 rw [h0] at hform
 have hput:jO C.P 163 [qr t,.agg [.v (str c.path),.v (.bool false),.v (str c.text),.v (.int .i64 v)]] (qr (ju t c v)):=by
  have h:=Qu t ⟨c.path,false,c.text,v⟩ (by omega)
  rw [Yf hs] at h
  have hD:ju t c v = xg t ⟨c.path,false,c.text,v⟩:=by simp [ju,hk]
  rw [hD];exact h
 have hE:yw t c v = if 60 < (ju t c v).length then 2 else 0:=by simp [yw,y7,hk]
 rw [hE]
 have hlen:=J0 t c v
 generalize ju t c v = L at *
 rw [(x9 hh).2] at hea
 by_cases hL:60 < L.length
 ·rw [if_pos hL]
  refine qa Tryz.func130 rfl _ Tryz.ntmps130 (Nat.le_of_ble_eq_true rfl) _ Tryz.results130 0 rfl rfl ?_
  repeat' (first|refine qe ?_|(first|refine xsF Tryz.func160 (hform ..) ?_|refine xsF Tryz.func139 (hpo1 ..) ?_|refine xsF Tryz.func139 (hpo2 ..) ?_|refine xsQ Tryz.func138 (hfo ..) ?_|refine xsQ Tryz.func161 (hea ..) ?_|refine xsQ Tryz.func161 (heb ..) ?_|refine xsF Tryz.func162 (hinn ..) ?_)|((first|refine qb ?_ ?_|refine qc ?_ ?_|refine xsC ?_ ?_);all_goals (intro hc;have hp:=hc;try simp at hp;try (exfalso;omega)))|refine qp ?_ ?_)
  all_goals try (exfalso;omega)
  refine xV 4 0 ?_
  (refine Awp.red (qg (ts:=[(0,qr t),(2,.v (.int .i64 v)),(4,.fp [c.row] 0 0),(11,.v (.int .i64 ((0:Nat):Int)))]) ?_) ?_;((repeat (first|exact qd|refine qi ?_|refine qI ?_ ?_))))
  refine qq (fun n σ => ∃ i:Nat,i ≤ t.length ∧ n = t.length - i ∧ (True) ∧ σ = ⟨[(0,qr t),(2,.v (.int .i64 v)),(4,.fp [c.row] 0 0),(11,.v (.int .i64 (i:Int)))],[],C.nh⟩) t.length ⟨0,Nat.zero_le _,rfl,trivial,rfl⟩ ?_
  rintro n σ ⟨i,hi,rfl, -,rfl⟩
  by_cases hlt:i < t.length
  ·have hr:=qx (f:=Ent.row) hlt
   have hnw:=hst t[i] (List.getElem_mem _)
   have hpl:=jt (hgt t[i] (List.getElem_mem _))
   have hii:=vI t[i].path c.path (by omega) (by omega)
   generalize inB t[i].path c.path = IB at *
   repeat' (first|refine qe ?_|(first|refine xsF Tryz.func162 (hii ..) ?_)|((first|refine qb ?_ ?_|refine qc ?_ ?_|refine xsC ?_ ?_);all_goals (intro hc;have hp:=hc;try simp at hp;try (exfalso;omega)))|refine qp ?_ ?_)
   all_goals try (exfalso;omega)
   all_goals try (
    have h9:=hnw (by omega)
    rw [Bool.and_eq_false_iff] at h9
    rcases h9 with h9|h9
    ·exact absurd (h9.symm.trans (by assumption)) Bool.false_ne_true
    ·exact absurd (h9.symm.trans (by assumption)) Bool.false_ne_true)
   all_goals first
    | (refine ⟨t.length - (i + 1),_,by omega,qg (ts:=[(0,qr t),(2,.v (.int .i64 v)),(4,.fp [c.row] 0 0),(11,.v (.int .i64 ((i + 1:Nat):Int)))]) ?_,i + 1,by omega,rfl,trivial,rfl⟩;((repeat (first|exact qd|refine qi ?_|refine qI ?_ ?_))))
    | ((repeat' (first|refine qe ?_|(first|refine xsQ Tryz.func163 (hput ..) ?_)|((first|refine qb ?_ ?_|refine qc ?_ ?_|refine xsC ?_ ?_);all_goals (intro hc;have hp:=hc;try simp at hp;try (exfalso;omega)))|refine qp ?_ ?_));(all_goals try (exfalso;omega));(all_goals ((exact j1 (rs:=[.tmp 6,.tmp 7])))))
  ·obtain rfl:i = t.length:=by omega
   (repeat' (first|refine qe ?_|(first|refine xsQ Tryz.func163 (hput ..) ?_)|((first|refine qb ?_ ?_|refine qc ?_ ?_|refine xsC ?_ ?_);all_goals (intro hc;have hp:=hc;try simp at hp;try (exfalso;omega)))|refine qp ?_ ?_));(all_goals try (exfalso;omega));(all_goals ((exact j1 (rs:=[.tmp 6,.tmp 7]))))
 ·rw [if_neg hL]
  refine qa Tryz.func130 rfl _ Tryz.ntmps130 (Nat.le_of_ble_eq_true rfl) _ Tryz.results130 0 rfl rfl ?_
  repeat' (first|refine qe ?_|(first|refine xsF Tryz.func160 (hform ..) ?_|refine xsF Tryz.func139 (hpo1 ..) ?_|refine xsF Tryz.func139 (hpo2 ..) ?_|refine xsQ Tryz.func138 (hfo ..) ?_|refine xsQ Tryz.func161 (hea ..) ?_|refine xsQ Tryz.func161 (heb ..) ?_|refine xsF Tryz.func162 (hinn ..) ?_)|((first|refine qb ?_ ?_|refine qc ?_ ?_|refine xsC ?_ ?_);all_goals (intro hc;have hp:=hc;try simp at hp;try (exfalso;omega)))|refine qp ?_ ?_)
  all_goals try (exfalso;omega)
  refine xV 4 0 ?_
  (refine Awp.red (qg (ts:=[(0,qr t),(2,.v (.int .i64 v)),(4,.fp [c.row] 0 0),(11,.v (.int .i64 ((0:Nat):Int)))]) ?_) ?_;((repeat (first|exact qd|refine qi ?_|refine qI ?_ ?_))))
  refine qq (fun n σ => ∃ i:Nat,i ≤ t.length ∧ n = t.length - i ∧ (True) ∧ σ = ⟨[(0,qr t),(2,.v (.int .i64 v)),(4,.fp [c.row] 0 0),(11,.v (.int .i64 (i:Int)))],[],C.nh⟩) t.length ⟨0,Nat.zero_le _,rfl,trivial,rfl⟩ ?_
  rintro n σ ⟨i,hi,rfl, -,rfl⟩
  by_cases hlt:i < t.length
  ·have hr:=qx (f:=Ent.row) hlt
   have hnw:=hst t[i] (List.getElem_mem _)
   have hpl:=jt (hgt t[i] (List.getElem_mem _))
   have hii:=vI t[i].path c.path (by omega) (by omega)
   generalize inB t[i].path c.path = IB at *
   repeat' (first|refine qe ?_|(first|refine xsF Tryz.func162 (hii ..) ?_)|((first|refine qb ?_ ?_|refine qc ?_ ?_|refine xsC ?_ ?_);all_goals (intro hc;have hp:=hc;try simp at hp;try (exfalso;omega)))|refine qp ?_ ?_)
   all_goals try (exfalso;omega)
   all_goals try (
    have h9:=hnw (by omega)
    rw [Bool.and_eq_false_iff] at h9
    rcases h9 with h9|h9
    ·exact absurd (h9.symm.trans (by assumption)) Bool.false_ne_true
    ·exact absurd (h9.symm.trans (by assumption)) Bool.false_ne_true)
   all_goals first
    | (refine ⟨t.length - (i + 1),_,by omega,qg (ts:=[(0,qr t),(2,.v (.int .i64 v)),(4,.fp [c.row] 0 0),(11,.v (.int .i64 ((i + 1:Nat):Int)))]) ?_,i + 1,by omega,rfl,trivial,rfl⟩;((repeat (first|exact qd|refine qi ?_|refine qI ?_ ?_))))
    | ((repeat' (first|refine qe ?_|(first|refine xsQ Tryz.func163 (hput ..) ?_)|((first|refine qb ?_ ?_|refine qc ?_ ?_|refine xsC ?_ ?_);all_goals (intro hc;have hp:=hc;try simp at hp;try (exfalso;omega)))|refine qp ?_ ?_));(all_goals try (exfalso;omega));(all_goals ((exact j1 (rs:=[.tmp 6,.tmp 7])))))
  ·obtain rfl:i = t.length:=by omega
   (repeat' (first|refine qe ?_|(first|refine xsQ Tryz.func163 (hput ..) ?_)|((first|refine qb ?_ ?_|refine qc ?_ ?_|refine xsC ?_ ?_);all_goals (intro hc;have hp:=hc;try simp at hp;try (exfalso;omega)))|refine qp ?_ ?_));(all_goals try (exfalso;omega));(all_goals ((exact j1 (rs:=[.tmp 6,.tmp 7]))))
theorem qiZ (t:List Ent) (c:Chg) (v:Int) (h60:t.length ≤ 60) (hs:qv yt t = true) (hgt : ∀ x,x ∈ t → qM x.path = 0) (hcs:c.small) (hk:c.kind = 2) (h0:yI c = 0) (h1:vP t c = 0) (h2:yv t c = 0):jO C.P 130 [qr t,.agg c.row,.v (.int .i64 v)] (.tup [qr (if yw t c v = 0 then ju t c v else []),.v (.int .i64 (yw t c v))]):=by
 cases hh:yV t c.path with
 | true=>exact qit t c v h60 hs hgt hcs hk hh h0 h1 h2
 | false=>exact qiE t c v h60 hs hgt hcs hk hh h0 h1 h2
end Go.Proofs.YtiljlcgmcmjcoaaGreatDoor
set_option linter.unusedSimpArgs false
set_option linter.unnecessarySimpa false
set_option linter.unusedVariables false
set_option maxHeartbeats 1000000
namespace Go.Proofs.YtiljlcgmcmjcoaaGreatDoor
open Go.Ab Go.RowKit
set_option maxRecDepth 10000
attribute [local irreducible] Awp ye ji qQ Red qF Go.Ab.Fin qo Rz xx qG qO ResOk jK je jX qW
theorem K2 {t:List Ent} {c:Chg} (hk:3 ≤ c.kind) (h:zN t c = 0):yV t c.path = true:=by
 unfold zN at h
 rw [if_neg (by omega),if_neg (by omega)] at h
 cases hh:yV t c.path with
 | true=>rfl
 | false=>simp [hh] at h
theorem qjg (t:List Ent) (c:Chg) (v:Int) (h60:t.length ≤ 60) (hs:qv yt t = true) (hgt : ∀ x,x ∈ t → qM x.path = 0) (hcs:c.small) (h0:yI c = 0) (h1:vP t c = 0) (h2:¬ yv t c = 0):jO C.P 130 [qr t,.agg c.row,.v (.int .i64 v)] (.tup [qr [],.v (.int .i64 8)]):=by
 obtain ⟨l1,l2,l3⟩:=hcs
 have hform:=vz c ⟨l1,l2,l3⟩
 have hpo1:=yR c.path (by omega)
 have hpo2:=yR c.to (by omega)
 have hfo:=zc t (qR (jW c)) (by omega)
 have hea:=xB t c.path (by omega)
 have heb:=xB t c.to (by omega)
 have hinn:=vI c.to c.path (by omega) (by omega)
 have hkk:=yS h0
 have hbase : -1 ≤ c.base:=QN h0
 obtain ⟨hz1,hz2,hz3⟩:=QE h1
 have hst:¬ c.base = -1 ∧ t.any (xH c) = true:=by
  unfold yv at h2
  split at h2
  ·assumption
  ·exact absurd rfl h2
 obtain ⟨hst1,hst2⟩:=hst
 clear h2
 have hI:zN t c = if c.kind = 1 then (if yV t c.path = true then 6 else 0) else if c.kind = 2 then (if vr t c.path = true then 4 else 0) else (if yV t c.path = true then 0 else 5):=rfl
 have hM:wa t c = if c.kind = 3 then (if inB c.to c.path = true then 3 else if yV t c.to = true then 6 else 0) else 0:=rfl
 rw [hz2] at hI
 rw [hz3] at hM
 replace hI:=hI.symm
 replace hM:=hM.symm
 rw [h0] at hform
 have hto:(yV t c.to = true ∧ 0 ≤ j0 (atP c.to) t) ∨ (yV t c.to = false ∧ j0 (atP c.to) t = -1):=by
  cases h:yV t c.to with
  | true=>obtain ⟨hk,_,hfi,hix⟩:=kW hs h;exact .inl ⟨rfl,by rw [hix];omega⟩
  | false=>exact .inr ⟨rfl,(x9 h).2⟩
 have hrow:yV t c.path = true → ∃ hk:xM t c.path < t.length,vr t c.path = t[xM t c.path].fold ∧ j0 (atP c.path) t = xM t c.path:=fun h=>by
  obtain ⟨hk,_,hfi,hix⟩:=kW hs h
  exact ⟨hk,by unfold vr;rw [hfi],hix⟩
 have hnorow:yV t c.path = false → vr t c.path = false ∧ j0 (atP c.path) t = -1:=fun h=>by
  unfold vr;rw [(x9 h).1];exact ⟨rfl,(x9 h).2⟩
 obtain ⟨kk1,kk2, -⟩:=hkk
 have hg3:c.kind = 3 → jW c = c.to:=fun h=>by simp [jW,h]
 have hg0:¬ c.kind = 3 → jW c = c.path:=fun h=>by simp [jW,h]
 rw [hz1] at hfo
 clear hz1 hz2 hz3
 generalize hIB:inB c.to c.path = IB at *
 generalize hHT:yV t c.to = HT at *
 generalize hIT:j0 (atP c.to) t = IT at *
 clear hIB hHT hIT
 cases hh:yV t c.path with
 | true =>
   obtain ⟨hk,hfa,hix⟩:=hrow hh
   rw [hix] at hea
   rw [hh,hfa] at hI
   have hrk:=qx (f:=Ent.row) hk
   clear hrow hnorow hix hfa
   generalize xM t c.path = k at *
   by_cases k3:c.kind = 3
   ·rw [hg3 k3] at hfo
    clear hg3 hg0
    refine qa Tryz.func130 rfl _ Tryz.ntmps130 (Nat.le_of_ble_eq_true rfl) _ Tryz.results130 0 rfl rfl ?_
    repeat' (first|refine qe ?_|(first|refine xsF Tryz.func160 (hform ..) ?_|refine xsF Tryz.func139 (hpo1 ..) ?_|refine xsF Tryz.func139 (hpo2 ..) ?_|refine xsQ Tryz.func138 (hfo ..) ?_|refine xsQ Tryz.func161 (hea ..) ?_|refine xsQ Tryz.func161 (heb ..) ?_|refine xsF Tryz.func162 (hinn ..) ?_)|((first|refine qb ?_ ?_|refine qc ?_ ?_|refine xsC ?_ ?_);all_goals (intro hc;have hp:=hc;try simp at hp;try (exfalso;omega)))|refine qp ?_ ?_)
    all_goals try (exfalso;omega)
    all_goals try (exfalso;clear hst2 hea heb hfo hform hinn hpo1 hpo2;simp_all;done)
    all_goals (
     refine xV 4 0 ?_
     (refine Awp.red (qg (ts:=[(0,qr t),(2,.v (.int .i64 v)),(4,.fp [c.row] 0 0),(11,.v (.int .i64 ((0:Nat):Int)))]) ?_) ?_;((repeat (first|exact qd|refine qi ?_|refine qI ?_ ?_))))
     refine qq (fun n σ => ∃ i:Nat,i ≤ t.length ∧ n = t.length - i ∧ (∀ x,x ∈ t.take i → xH c x = false) ∧ σ = ⟨[(0,qr t),(2,.v (.int .i64 v)),(4,.fp [c.row] 0 0),(11,.v (.int .i64 (i:Int)))],[],C.nh⟩) t.length ⟨0,Nat.zero_le _,rfl,(by simp),rfl⟩ ?_
     rintro n σ ⟨i,hi,rfl,hsofar,rfl⟩
     by_cases hlt:i < t.length
     ·have hr:=qx (f:=Ent.row) hlt
      have hnx:=qJ (p:=fun x=>xH c x = false) hlt hsofar
      have hnw:xH c t[i] = (decide (c.base < t[i].ver) && inB t[i].path c.path):=rfl
      have hpl:=jt (hgt t[i] (List.getElem_mem _))
      have hii:=vI t[i].path c.path (by omega) (by omega)
      generalize inB t[i].path c.path = IB at *
      generalize xH c t[i] = NW at *
      clear hst2 hsofar
      repeat' (first|refine qe ?_|(first|refine xsF Tryz.func162 (hii ..) ?_)|((first|refine qb ?_ ?_|refine qc ?_ ?_|refine xsC ?_ ?_);all_goals (intro hc;have hp:=hc;try simp at hp;try (exfalso;omega)))|refine qp ?_ ?_)
      all_goals try (exfalso;omega)
      all_goals first
       | ((exact j1 (rs:=[.tmp 6,.tmp 7])))
       | (refine ⟨t.length - (i + 1),_,by omega,qg (ts:=[(0,qr t),(2,.v (.int .i64 v)),(4,.fp [c.row] 0 0),(11,.v (.int .i64 ((i + 1:Nat):Int)))]) ?_,i + 1,by omega,rfl,(hnx (by rw [hnw];simp_all)),rfl⟩;((repeat (first|exact qd|refine qi ?_|refine qI ?_ ?_))))
     ·exfalso
      obtain rfl:i = t.length:=by omega
      rw [List.take_length] at hsofar
      obtain ⟨x,hx,hxn⟩:=List.any_eq_true.1 hst2
      rw [hsofar x hx] at hxn;cases hxn)
   ·rw [hg0 k3] at hfo
    clear hg3 hg0
    refine qa Tryz.func130 rfl _ Tryz.ntmps130 (Nat.le_of_ble_eq_true rfl) _ Tryz.results130 0 rfl rfl ?_
    repeat' (first|refine qe ?_|(first|refine xsF Tryz.func160 (hform ..) ?_|refine xsF Tryz.func139 (hpo1 ..) ?_|refine xsF Tryz.func139 (hpo2 ..) ?_|refine xsQ Tryz.func138 (hfo ..) ?_|refine xsQ Tryz.func161 (hea ..) ?_|refine xsQ Tryz.func161 (heb ..) ?_|refine xsF Tryz.func162 (hinn ..) ?_)|((first|refine qb ?_ ?_|refine qc ?_ ?_|refine xsC ?_ ?_);all_goals (intro hc;have hp:=hc;try simp at hp;try (exfalso;omega)))|refine qp ?_ ?_)
    all_goals try (exfalso;omega)
    all_goals try (exfalso;clear hst2 hea heb hfo hform hinn hpo1 hpo2;simp_all;done)
    all_goals (
     refine xV 4 0 ?_
     (refine Awp.red (qg (ts:=[(0,qr t),(2,.v (.int .i64 v)),(4,.fp [c.row] 0 0),(11,.v (.int .i64 ((0:Nat):Int)))]) ?_) ?_;((repeat (first|exact qd|refine qi ?_|refine qI ?_ ?_))))
     refine qq (fun n σ => ∃ i:Nat,i ≤ t.length ∧ n = t.length - i ∧ (∀ x,x ∈ t.take i → xH c x = false) ∧ σ = ⟨[(0,qr t),(2,.v (.int .i64 v)),(4,.fp [c.row] 0 0),(11,.v (.int .i64 (i:Int)))],[],C.nh⟩) t.length ⟨0,Nat.zero_le _,rfl,(by simp),rfl⟩ ?_
     rintro n σ ⟨i,hi,rfl,hsofar,rfl⟩
     by_cases hlt:i < t.length
     ·have hr:=qx (f:=Ent.row) hlt
      have hnx:=qJ (p:=fun x=>xH c x = false) hlt hsofar
      have hnw:xH c t[i] = (decide (c.base < t[i].ver) && inB t[i].path c.path):=rfl
      have hpl:=jt (hgt t[i] (List.getElem_mem _))
      have hii:=vI t[i].path c.path (by omega) (by omega)
      generalize inB t[i].path c.path = IB at *
      generalize xH c t[i] = NW at *
      clear hst2 hsofar
      repeat' (first|refine qe ?_|(first|refine xsF Tryz.func162 (hii ..) ?_)|((first|refine qb ?_ ?_|refine qc ?_ ?_|refine xsC ?_ ?_);all_goals (intro hc;have hp:=hc;try simp at hp;try (exfalso;omega)))|refine qp ?_ ?_)
      all_goals try (exfalso;omega)
      all_goals first
       | ((exact j1 (rs:=[.tmp 6,.tmp 7])))
       | (refine ⟨t.length - (i + 1),_,by omega,qg (ts:=[(0,qr t),(2,.v (.int .i64 v)),(4,.fp [c.row] 0 0),(11,.v (.int .i64 ((i + 1:Nat):Int)))]) ?_,i + 1,by omega,rfl,(hnx (by rw [hnw];simp_all)),rfl⟩;((repeat (first|exact qd|refine qi ?_|refine qI ?_ ?_))))
     ·exfalso
      obtain rfl:i = t.length:=by omega
      rw [List.take_length] at hsofar
      obtain ⟨x,hx,hxn⟩:=List.any_eq_true.1 hst2
      rw [hsofar x hx] at hxn;cases hxn)
 | false =>
   obtain ⟨hfa,hix⟩:=hnorow hh
   rw [hix] at hea
   rw [hh,hfa] at hI
   clear hrow hnorow hix hfa
   by_cases k3:c.kind = 3
   ·exfalso;clear hst2 hea heb hfo hform hinn hpo1 hpo2;simp_all;done
   ·rw [hg0 k3] at hfo
    clear hg3 hg0
    refine qa Tryz.func130 rfl _ Tryz.ntmps130 (Nat.le_of_ble_eq_true rfl) _ Tryz.results130 0 rfl rfl ?_
    repeat' (first|refine qe ?_|(first|refine xsF Tryz.func160 (hform ..) ?_|refine xsF Tryz.func139 (hpo1 ..) ?_|refine xsF Tryz.func139 (hpo2 ..) ?_|refine xsQ Tryz.func138 (hfo ..) ?_|refine xsQ Tryz.func161 (hea ..) ?_|refine xsQ Tryz.func161 (heb ..) ?_|refine xsF Tryz.func162 (hinn ..) ?_)|((first|refine qb ?_ ?_|refine qc ?_ ?_|refine xsC ?_ ?_);all_goals (intro hc;have hp:=hc;try simp at hp;try (exfalso;omega)))|refine qp ?_ ?_)
    all_goals try (exfalso;omega)
    all_goals try (exfalso;clear hst2 hea heb hfo hform hinn hpo1 hpo2;simp_all;done)
    all_goals (
     refine xV 4 0 ?_
     (refine Awp.red (qg (ts:=[(0,qr t),(2,.v (.int .i64 v)),(4,.fp [c.row] 0 0),(11,.v (.int .i64 ((0:Nat):Int)))]) ?_) ?_;((repeat (first|exact qd|refine qi ?_|refine qI ?_ ?_))))
     refine qq (fun n σ => ∃ i:Nat,i ≤ t.length ∧ n = t.length - i ∧ (∀ x,x ∈ t.take i → xH c x = false) ∧ σ = ⟨[(0,qr t),(2,.v (.int .i64 v)),(4,.fp [c.row] 0 0),(11,.v (.int .i64 (i:Int)))],[],C.nh⟩) t.length ⟨0,Nat.zero_le _,rfl,(by simp),rfl⟩ ?_
     rintro n σ ⟨i,hi,rfl,hsofar,rfl⟩
     by_cases hlt:i < t.length
     ·have hr:=qx (f:=Ent.row) hlt
      have hnx:=qJ (p:=fun x=>xH c x = false) hlt hsofar
      have hnw:xH c t[i] = (decide (c.base < t[i].ver) && inB t[i].path c.path):=rfl
      have hpl:=jt (hgt t[i] (List.getElem_mem _))
      have hii:=vI t[i].path c.path (by omega) (by omega)
      generalize inB t[i].path c.path = IB at *
      generalize xH c t[i] = NW at *
      clear hst2 hsofar
      repeat' (first|refine qe ?_|(first|refine xsF Tryz.func162 (hii ..) ?_)|((first|refine qb ?_ ?_|refine qc ?_ ?_|refine xsC ?_ ?_);all_goals (intro hc;have hp:=hc;try simp at hp;try (exfalso;omega)))|refine qp ?_ ?_)
      all_goals try (exfalso;omega)
      all_goals first
       | ((exact j1 (rs:=[.tmp 6,.tmp 7])))
       | (refine ⟨t.length - (i + 1),_,by omega,qg (ts:=[(0,qr t),(2,.v (.int .i64 v)),(4,.fp [c.row] 0 0),(11,.v (.int .i64 ((i + 1:Nat):Int)))]) ?_,i + 1,by omega,rfl,(hnx (by rw [hnw];simp_all)),rfl⟩;((repeat (first|exact qd|refine qi ?_|refine qI ?_ ?_))))
     ·exfalso
      obtain rfl:i = t.length:=by omega
      rw [List.take_length] at hsofar
      obtain ⟨x,hx,hxn⟩:=List.any_eq_true.1 hst2
      rw [hsofar x hx] at hxn;cases hxn)
end Go.Proofs.YtiljlcgmcmjcoaaGreatDoor
set_option linter.unusedSimpArgs false
set_option linter.unnecessarySimpa false
set_option linter.unusedVariables false
set_option maxHeartbeats 1000000
namespace Go.Proofs.YtiljlcgmcmjcoaaGreatDoor
open Go.Ab Go.RowKit
set_option maxRecDepth 10000
attribute [local irreducible] Awp ye ji qQ Red qF Go.Ab.Fin qo Rz xx qG qO ResOk jK je jX qW
theorem qje (t:List Ent) (c:Chg) (v:Int) (h60:t.length ≤ 60) (hs:qv yt t = true) (hgt : ∀ x,x ∈ t → qM x.path = 0) (hcs:c.small) (hk:c.kind = 4) (h0:yI c = 0) (h1:vP t c = 0) (h2:yv t c = 0):jO C.P 130 [qr t,.agg c.row,.v (.int .i64 v)] (.tup [qr (if yw t c v = 0 then ju t c v else []),.v (.int .i64 (yw t c v))]):=by
 obtain ⟨l1,l2,l3⟩:=hcs
 have hform:=vz c ⟨l1,l2,l3⟩
 have hpo1:=yR c.path (by omega)
 have hpo2:=yR c.to (by omega)
 have hfo:=zc t (qR (jW c)) (by omega)
 have hea:=xB t c.path (by omega)
 have heb:=xB t c.to (by omega)
 have hinn:=vI c.to c.path (by omega) (by omega)
 have hkk:=yS h0
 have hbase : -1 ≤ c.base:=QN h0
 obtain ⟨hz1,hz2,hz3⟩:=QE h1
 have hst : ∀ x,x ∈ t → ¬ c.base = -1 → (decide (c.base < x.ver) && inB x.path c.path) = false:=fun x hx hb=>by
  unfold yv at h2
  by_cases h3:t.any (xH c) = true
  ·rw [if_pos ⟨hb,h3⟩] at h2;exact absurd h2 (by decide)
  ·have h4:t.any (xH c) = false:=by simpa using h3
   rw [List.any_eq_false] at h4
   have h5:=h4 x hx
   simpa [xH] using h5
 clear h2
 have hh:=K2 (by omega) hz2
 obtain ⟨hkk2,_,hfi,hix⟩:=kW hs hh
 have hg0:jW c = c.path:=by simp [jW,hk]
 rw [hz1,hg0] at hfo
 rw [h0] at hform
 rw [hix] at hea
 generalize xM t c.path = k at *
 have hD:ju t c v = yb (kr c.path) t:=by simp [ju,hk]
 have hE:yw t c v = if 60 < (ju t c v).length then 2 else 0:=by simp [yw,y7,hk]
 rw [hE,hD]
 clear hE hD hz1 hz2 hz3 h1 h0
 have hlen:(yb (kr c.path) t).length ≤ t.length:=List.length_filter_le ..
 have hL:¬ 60 < (yb (kr c.path) t).length:=by omega
 rw [if_neg hL]
 refine qa Tryz.func130 rfl _ Tryz.ntmps130 (Nat.le_of_ble_eq_true rfl) _ Tryz.results130 0 rfl rfl ?_
 repeat' (first|refine qe ?_|(first|refine xsF Tryz.func160 (hform ..) ?_|refine xsF Tryz.func139 (hpo1 ..) ?_|refine xsF Tryz.func139 (hpo2 ..) ?_|refine xsQ Tryz.func138 (hfo ..) ?_|refine xsQ Tryz.func161 (hea ..) ?_|refine xsQ Tryz.func161 (heb ..) ?_|refine xsF Tryz.func162 (hinn ..) ?_)|((first|refine qb ?_ ?_|refine qc ?_ ?_|refine xsC ?_ ?_);all_goals (intro hc;have hp:=hc;try simp at hp;try (exfalso;omega)))|refine qp ?_ ?_)
 all_goals try (exfalso;omega)
 apply qbQ
 case h =>
  intro key
  refine xV 4 0 ?_
  (refine Awp.red (qg (ts:=[(0,qr t),(2,.v (.int .i64 v)),(4,.fp [c.row] 0 0),(11,.v (.int .i64 ((0:Nat):Int)))]) ?_) ?_;((repeat (first|exact qd|refine qi ?_|refine qI ?_ ?_))))
  refine qq (fun n σ => ∃ i:Nat,i ≤ t.length ∧ n = t.length - i ∧ (True) ∧ σ = ⟨[(0,qr t),(2,.v (.int .i64 v)),(4,.fp [c.row] 0 0),(11,.v (.int .i64 (i:Int)))],[],C.nh⟩) t.length ⟨0,Nat.zero_le _,rfl,trivial,rfl⟩ ?_
  rintro n σ ⟨i,hi,rfl, -,rfl⟩
  by_cases hlt:i < t.length
  ·have hr:=qx (f:=Ent.row) hlt
   have hnw:=hst t[i] (List.getElem_mem _)
   have hpl:=jt (hgt t[i] (List.getElem_mem _))
   have hii:=vI t[i].path c.path (by omega) (by omega)
   generalize inB t[i].path c.path = IB at *
   repeat' (first|refine qe ?_|(first|refine xsF Tryz.func162 (hii ..) ?_)|((first|refine qb ?_ ?_|refine qc ?_ ?_|refine xsC ?_ ?_);all_goals (intro hc;have hp:=hc;try simp at hp;try (exfalso;omega)))|refine qp ?_ ?_)
   all_goals try (exfalso;omega)
   all_goals try (
    have h9:=hnw (by omega)
    rw [Bool.and_eq_false_iff] at h9
    rcases h9 with h9|h9
    ·exact absurd (h9.symm.trans (by assumption)) Bool.false_ne_true
    ·exact absurd (h9.symm.trans (by assumption)) Bool.false_ne_true)
   all_goals first
    | (refine ⟨t.length - (i + 1),_,by omega,qg (ts:=[(0,qr t),(2,.v (.int .i64 v)),(4,.fp [c.row] 0 0),(11,.v (.int .i64 ((i + 1:Nat):Int)))]) ?_,i + 1,by omega,rfl,trivial,rfl⟩;((repeat (first|exact qd|refine qi ?_|refine qI ?_ ?_))))
    | ((repeat' (first|refine qe ?_|(first|fail)|((first|refine qb ?_ ?_|refine qc ?_ ?_|refine xsC ?_ ?_);all_goals (intro hc;have hp:=hc;try simp at hp;try (exfalso;omega)))|refine qp ?_ ?_))
       (all_goals try (exfalso;omega))
       (refine Awp.red (qg (ts:=[(0,qr t),(2,.v (.int .i64 v)),(4,.fp [c.row] 0 0),(12,.sl true []),(13,.v (.int .i64 ((0:Nat):Int)))]) ?_) ?_;((repeat (first|exact qd|refine qi ?_|refine qI ?_ ?_))))
       exact key.out)
  ·obtain rfl:i = t.length:=by omega
   (repeat' (first|refine qe ?_|(first|fail)|((first|refine qb ?_ ?_|refine qc ?_ ?_|refine xsC ?_ ?_);all_goals (intro hc;have hp:=hc;try simp at hp;try (exfalso;omega)))|refine qp ?_ ?_))
   (all_goals try (exfalso;omega))
   (refine Awp.red (qg (ts:=[(0,qr t),(2,.v (.int .i64 v)),(4,.fp [c.row] 0 0),(12,.sl true []),(13,.v (.int .i64 ((0:Nat):Int)))]) ?_) ?_;((repeat (first|exact qd|refine qi ?_|refine qI ?_ ?_))))
   exact key.out
 refine Awp.red (zd 12 4 rfl (Nat.le_refl _)) ?_
 (refine Awp.red (qY (τ:=⟨[(0,qr t),(2,.v (.int .i64 v)),(4,.fp [c.row] 0 0),(12,.os 0 0 0),(13,.v (.int .i64 ((0:Nat):Int)))],[(0,.own false 4 [])],1⟩) [(0,0)] rfl ?gts ?ghs) ?gmain;(case gts=>(repeat (first|exact qd|refine qi ?_|refine xd ?_|refine xL ?_|refine qI ?_ ?_)));(case ghs=>(repeat (first|exact qf|refine jV ?_|refine qH ?_ ?_))))
 refine qq (fun n σ => ∃ i:Nat,i ≤ t.length ∧ n = t.length - i ∧ (True) ∧ σ = ⟨[(0,qr t),(2,.v (.int .i64 v)),(4,.fp [c.row] 0 0),(12,.os 0 0 (yb (kr c.path) (t.take i)).length),(13,.v (.int .i64 (i:Int)))],[(0,.own false 4 ((yb (kr c.path) (t.take i)).map Ent.row))],1⟩) t.length ⟨0,Nat.zero_le _,rfl,trivial,rfl⟩ ?_
 rintro n σ ⟨i,hi,rfl, -,rfl⟩
 by_cases hlt:i < t.length
 ·have hr:=qx (f:=Ent.row) hlt
  have hpl:=jt (hgt t[i] (List.getElem_mem _))
  have hii:=vI t[i].path c.path (by omega) (by omega)
  have hks := @QU (kr c.path) t i hlt
  have hkl:=XU (kr c.path) t i (by omega)
  have hin:kr c.path t[i] = inB t[i].path c.path:=rfl
  rw [hin] at hks
  generalize inB t[i].path c.path = IB at *
  clear hin hst
  generalize hGG:yb (kr c.path) (t.take i) = G at hks hkl ⊢
  clear hGG
  cases IB with
  | true =>
    rw [if_pos rfl] at hks
    repeat' (first|refine qe ?_|(first|(refine jN ?_)|(refine yX ?_)|refine xsF Tryz.func162 (hii ..) ?_)|((first|refine qb ?_ ?_|refine qc ?_ ?_|refine xsC ?_ ?_);all_goals (intro hc;have hp:=hc;try simp at hp;try (exfalso;omega)))|refine qp ?_ ?_)
    all_goals try (exfalso;omega)
    refine ⟨t.length - (i + 1),_,by omega,qY (τ:=⟨[(0,qr t),(2,.v (.int .i64 v)),(4,.fp [c.row] 0 0),(12,.os 0 0 (yb (kr c.path) (t.take (i + 1))).length),(13,.v (.int .i64 ((i + 1:Nat):Int)))],[(0,.own false 4 ((yb (kr c.path) (t.take (i + 1))).map Ent.row))],1⟩) [(0,0)] rfl ?gts ?ghs,i + 1,by omega,rfl,trivial,rfl⟩;(case gts=>(repeat (first|exact qd|refine qi ?_|refine xd ?_|refine xL ?_|refine qI ?_ ?_));all_goals (rw [hks]));(case ghs=>(repeat (first|exact qf|refine jV ?_|refine qH ?_ ?_));all_goals (rw [hks]))
  | false =>
    rw [if_neg (by decide)] at hks
    repeat' (first|refine qe ?_|(first|(refine jN ?_)|(refine yX ?_)|refine xsF Tryz.func162 (hii ..) ?_)|((first|refine qb ?_ ?_|refine qc ?_ ?_|refine xsC ?_ ?_);all_goals (intro hc;have hp:=hc;try simp at hp;try (exfalso;omega)))|refine qp ?_ ?_)
    all_goals try (exfalso;omega)
    refine ⟨t.length - (i + 1),_,by omega,qY (τ:=⟨[(0,qr t),(2,.v (.int .i64 v)),(4,.fp [c.row] 0 0),(12,.os 0 0 (yb (kr c.path) (t.take (i + 1))).length),(13,.v (.int .i64 ((i + 1:Nat):Int)))],[(0,.own false 4 ((yb (kr c.path) (t.take (i + 1))).map Ent.row))],1⟩) [(1,0)] rfl ?gts ?ghs,i + 1,by omega,rfl,trivial,rfl⟩;(case gts=>(repeat (first|exact qd|refine qi ?_|refine xd ?_|refine xL ?_|refine qI ?_ ?_));all_goals (rw [hks];try first|(simp;done)|(rw [List.take_of_length_le (by simp)];simp;done)));(case ghs=>(repeat (first|exact qf|refine jV ?_|refine qH ?_ ?_));all_goals (rw [hks];try first|(simp;done)|(rw [List.take_of_length_le (by simp)];simp;done)))
 ·obtain rfl:i = t.length:=by omega
  rw [List.take_length]
  (repeat' (first|refine qe ?_|(first|fail)|((first|refine qb ?_ ?_|refine qc ?_ ?_|refine xsC ?_ ?_);all_goals (intro hc;have hp:=hc;try simp at hp;try (exfalso;omega)))|refine qp ?_ ?_))
  (all_goals try (exfalso;omega))
  refine Awp.red (wR 0 rfl (by intro row hrow;obtain ⟨x,_,rfl⟩:=List.mem_map.1 hrow;rfl)) ?_
  refine Awp.red (WV 12 0 rfl rfl (by simp)) ?_
  (refine Awp.red (qg (ts:=[(0,qr t),(2,.v (.int .i64 v)),(4,.fp [c.row] 0 0),(12,qr (yb (kr c.path) t)),(14,.v (.int .i64 ((0:Nat):Int)))]) ?_) ?_;((repeat (first|exact qd|refine qi ?_|refine qI ?_ ?_))))
  all_goals try (rw [List.drop_zero,List.take_of_length_le (by simp)];rfl)
  refine qq (fun n σ => ∃ i:Nat,i ≤ t.length ∧ n = t.length - i ∧ (True) ∧ σ = ⟨[(0,qr t),(2,.v (.int .i64 v)),(4,.fp [c.row] 0 0),(12,qr (yb (kr c.path) t)),(14,.v (.int .i64 (i:Int)))],[],C.nh⟩) t.length ⟨0,Nat.zero_le _,rfl,trivial,rfl⟩ ?_
  rintro n σ ⟨i,hi,rfl, -,rfl⟩
  have hml:(List.map Ent.row (yb (kr c.path) t)).length = (yb (kr c.path) t).length:=List.length_map ..
  (repeat' (first|refine qe ?_|(first|fail)|((first|refine qb ?_ ?_|refine qc ?_ ?_|refine xsC ?_ ?_);all_goals (intro hc;have hp:=hc;try simp at hp;try (exfalso;omega)))|refine qp ?_ ?_))
  (all_goals try (exfalso;omega))
  (all_goals ((exact j1 (rs:=[.tmp 6,.tmp 7]))))
end Go.Proofs.YtiljlcgmcmjcoaaGreatDoor
