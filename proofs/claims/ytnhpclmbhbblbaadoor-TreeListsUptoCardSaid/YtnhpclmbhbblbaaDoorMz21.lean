import Derived.Test.YtnhpclmbhbblbaaDoorMz14
import Derived.Test.YtnhpclmbhbblbaaDoorMz17
import Derived.Test.YtnhpclmbhbblbaaDoorMz20
import Derived.Test.YtnhpclmbhbblbaaDoorMz12
import Derived.Test.YtnhpclmbhbblbaaDoorMz0
set_option linter.unusedSimpArgs false
set_option linter.unnecessarySimpa false
set_option linter.unusedVariables false
set_option maxHeartbeats 1000000
namespace Go.Proofs.YtnhpclmbhbblbaaDoor
open Go.Ab Go.RowKit
set_option maxRecDepth 10000
attribute [local irreducible] Awp jk qG q9 Red qp Go.Ab.Fin qx Rz yS qX qT ResOk jp jd jG qR
theorem Q7 (l:List qv) (s:qv):(l.map j1).take l.length ++ [[.v (str s)]] = (l ++ [s]).map j1:=by
 rw [List.take_of_length_le (by simp),List.map_append];rfl
theorem YX (N:List qv) (h:N.length ≤ 1000000):qx C.P 16 [.os 0 0 N.length] [.own false 1 (N.map j1)] (.tup []) [.own false 1 ((N.mergeSort leB).map j1)] :=
 JV (by omega) (fun blk off cap w h1 h2=>Go.Proofs.AnyM.slices_Sort_string Tryd.sortT blk off cap N w h1 h2 (by omega)) (fun p cap w=>Go.Proofs.AnyM.slices_Sort_string_none Tryd.sortT p cap w)
def x9 (t:List Ent) (p:qv):Int:=if ¬ qu t = 0 then qu t else if ¬ p = [] ∧ ¬ qg p = 0 then qg p else q0 t p
def yq (t:List Ent) (p:qv):List qv:=if x9 t p = 0 then Qi t p else []
theorem Xh (t:List Ent) (p:qv):(Qi t p).length ≤ t.length:=by
 unfold Qi;rw [List.length_mergeSort];exact xF t p
set_option maxHeartbeats 4000000 in
theorem VL (t:List Ent) (p:qv) (ht:EBig t) (hp:p.length ≤ 1000000000):yc C.P 4 [qo t,.v (str p)] (.tup [yv (yq t p),.v (.int .i64 (x9 t p))]):=by
 have h1:=v6 t ht
 have h2:=v2 p (by omega)
 unfold yv
 by_cases e1:qu t = 0
 case neg =>
  have hE:x9 t p = qu t:=by unfold x9;rw [if_pos e1]
  have hR:yq t p = []:=by unfold yq;rw [hE,if_neg e1]
  rw [hR,hE]
  generalize qu t = E at *
  refine qa Tryd.func4 rfl _ Tryd.ntmps4 (Nat.le_of_ble_eq_true rfl) _ Tryd.results4 0 rfl rfl ?_
  repeat' (first|refine qj ?_|(first|(refine jr ?_)|refine jH Tryd.func12 (h1 ..) ?_)|((first|refine qe ?_ ?_|refine qf ?_ ?_|refine xsC ?_ ?_);all_goals (intro hc;have hp:=hc;try simp at hp;try (exfalso;omega)))|refine qD ?_ ?_)
  all_goals try (exfalso;first|omega|contradiction|simp_all;done)
  all_goals ((exact zh (rs:=[.tmp 4,.tmp 5])))
 have rt:=zD.1 e1
 have lt:=rt.len
 rw [e1] at h1
 by_cases e2:¬ p = [] ∧ ¬ qg p = 0
 ·have hE:x9 t p = qg p:=by unfold x9;rw [if_neg (by simp [e1]),if_pos e2]
  have hR:yq t p = []:=by unfold yq;rw [hE,if_neg e2.2]
  rw [hR,hE]
  obtain ⟨e2,e3⟩:=e2
  have d:decide (p = []) = false:=decide_eq_false e2
  generalize qg p = E at *
  refine qa Tryd.func4 rfl _ Tryd.ntmps4 (Nat.le_of_ble_eq_true rfl) _ Tryd.results4 0 rfl rfl ?_
  repeat' (first|refine qj ?_|(first|(refine jr ?_)|refine jH Tryd.func12 (h1 ..) ?_|refine jH Tryd.func13 (h2 ..) ?_)|((first|refine qe ?_ ?_|refine qf ?_ ?_|refine xsC ?_ ?_);all_goals (intro hc;have hp:=hc;try simp at hp;try (exfalso;omega)))|refine qD ?_ ?_)
  all_goals try (exfalso;first|omega|contradiction|simp_all;done)
  all_goals ((exact zh (rs:=[.tmp 4,.tmp 5])))
 have h4:=Xk t p (by omega) rt.rise
 have hE:x9 t p = q0 t p:=by unfold x9;rw [if_neg (by simp [e1]),if_neg e2]
 have hp2:¬ p = [] → qg p = 0:=fun h=>Classical.not_not.1 fun h2=>e2 ⟨h,h2⟩
 have hF:q0 t p = if p = [] then 0 else match t.find? (atP p) with|none=>5|some x=>if x.fold = true then 0 else 4:=rfl
 by_cases hp0:p = []
 case neg =>
  have d:decide (p = []) = false:=decide_eq_false hp0
  rw [if_neg hp0] at hF
  rw [hp2 hp0] at h2
  cases hh:jY t p with
  | false =>
    rw [hh] at h4
    have hl:qB t p = none:=by
     have:=Y8 (t:=t) (p:=p)
     rw [hh] at this
     cases h5:qB t p with
     | none=>rfl
     | some y=>rw [h5] at this;cases this
    unfold qB at hl
    rw [hl] at hF
    have hF:q0 t p = 5:=hF
    have hR:yq t p = []:=by unfold yq;rw [hE,hF];rfl
    rw [hR,hE,hF]
    generalize jC t p = PP at *
    refine qa Tryd.func4 rfl _ Tryd.ntmps4 (Nat.le_of_ble_eq_true rfl) _ Tryd.results4 0 rfl rfl ?_
    repeat' (first|refine qj ?_|(first|(refine jr ?_)|refine jH Tryd.func12 (h1 ..) ?_|refine jH Tryd.func13 (h2 ..) ?_|refine jV Tryd.func14 (h4 ..) ?_)|((first|refine qe ?_ ?_|refine qf ?_ ?_|refine xsC ?_ ?_);all_goals (intro hc;have hp:=hc;try simp at hp;try (exfalso;omega)))|refine qD ?_ ?_)
    all_goals try (exfalso;first|omega|contradiction|simp_all;done)
    all_goals ((exact zh (rs:=[.tmp 4,.tmp 5])))
  | true =>
    rw [hh] at h4
    obtain ⟨hk,_,hfd,_⟩:=z1 rt.rise hh
    have hrow:=qL (f:=Ent.row) hk
    rw [hfd] at hF
    cases hfo:(t[jC t p]).fold with
    | false =>
      have hF:q0 t p = 4:=by rw [hF];simp only [hfo];rfl
      have hR:yq t p = []:=by unfold yq;rw [hE,hF];rfl
      rw [hR,hE,hF]
      generalize jC t p = PP at *
      have hrow2:(t.map Ent.row)[((PP:Nat):Int).toNat]? = some t[PP].row:=hrow
      refine qa Tryd.func4 rfl _ Tryd.ntmps4 (Nat.le_of_ble_eq_true rfl) _ Tryd.results4 0 rfl rfl ?_
      repeat' (first|refine qj ?_|(first|(refine jr ?_)|refine jH Tryd.func12 (h1 ..) ?_|refine jH Tryd.func13 (h2 ..) ?_|refine jV Tryd.func14 (h4 ..) ?_)|((first|refine qe ?_ ?_|refine qf ?_ ?_|refine xsC ?_ ?_);all_goals (intro hc;have hp:=hc;try simp at hp;try (exfalso;omega)))|refine qD ?_ ?_)
      all_goals try (exfalso;first|omega|contradiction|simp_all;done)
      all_goals ((exact zh (rs:=[.tmp 4,.tmp 5])))
    | true =>
      have hF:q0 t p = 0:=by rw [hF];simp only [hfo];rfl
      have hR:yq t p = Qi t p:=by unfold yq;rw [hE,hF];rfl
      rw [hR,hE,hF]
      generalize jC t p = PP at *
      have hrow2:(t.map Ent.row)[((PP:Nat):Int).toNat]? = some t[PP].row:=hrow
      refine qa Tryd.func4 rfl _ Tryd.ntmps4 (Nat.le_of_ble_eq_true rfl) _ Tryd.results4 0 rfl rfl ?_
      repeat' (first|refine qj ?_|(first|(refine jr ?_)|refine jH Tryd.func12 (h1 ..) ?_|refine jH Tryd.func13 (h2 ..) ?_|refine jV Tryd.func14 (h4 ..) ?_)|((first|refine qe ?_ ?_|refine qf ?_ ?_|refine xsC ?_ ?_);all_goals (intro hc;have hp:=hc;try simp at hp;try (exfalso;omega)))|refine qD ?_ ?_)
      all_goals try (exfalso;first|omega|contradiction|simp_all;done)
      refine Awp.red (vB 9 1 rfl (Nat.zero_le _)) ?_
      (refine Awp.red (je (τ:=⟨[(1,.v (str p)),(9,.os 0 0 (jS (t.take 0) p).length),(46,qo t),(47,.v (.int .i64 (t.length:Int))),(48,.v (.int .i64 ((0:Nat):Int)))],[(0,.own false 1 ((jS (t.take 0) p).map j1))],1⟩) [(0,0)] rfl ?gts2 ?ghs2) ?_;(case gts2=>(repeat (first|exact qd|refine qn ?_|refine xd ?_|refine wz ?_|refine Yj ?_|refine wE ?_ ?_|refine qM ?_ ?_));all_goals (first|rfl|(simp;done)|trace_state));(case ghs2=>(repeat' (first|exact qr|refine q_dead ?_|refine wy ?_ ?_|refine VR ?_|refine jb ?_ ?_|exact xI|apply yY|exact j5 rfl|exact yb rfl|refine yb ?_|(apply xz;(first|exact qA rfl|exact .inr (List.mem_cons_self ..)|exact .inr (List.mem_cons_of_mem _ (List.mem_cons_self ..))|exact .inr (List.mem_cons_of_mem _ (List.mem_cons_of_mem _ (List.mem_cons_self ..)))|exact .inr (List.mem_cons_of_mem _ (List.mem_cons_of_mem _ (List.mem_cons_of_mem _ (List.mem_cons_self ..))))))));all_goals (first|rfl|trace_state)))
      refine qy (fun n σ => ∃ i:Nat,i ≤ t.length ∧ n = t.length - i ∧ True ∧ σ = ⟨[(1,.v (str p)),(9,.os 0 0 (jS (t.take i) p).length),(46,qo t),(47,.v (.int .i64 (t.length:Int))),(48,.v (.int .i64 (i:Int)))],[(0,.own false 1 ((jS (t.take i) p).map j1))],1⟩) t.length ⟨0,by omega,rfl,trivial,rfl⟩ ?_
      rintro n σ ⟨i,hi,rfl, -,rfl⟩
      by_cases hlt:i < t.length
      ·have hr:=qL (f:=Ent.row) hlt
       have hsm:=jf (ja (rt.ent t[i] (List.getElem_mem hlt))).1
       have h5:=Qc t[i].path (by omega)
       have hN:=zy (p:=p) hlt
       have hNl:=xF (t.take i) p
       rw [List.length_take] at hNl
       by_cases hpe:qm t[i].path = p
       ·rw [if_pos hpe] at hN
        rw [hpe] at h5
        generalize hQ2:jS (t.take (i + 1)) p = Q2 at *
        generalize jS (t.take i) p = Q1 at *
        generalize qP t[i].path = la at *
        repeat' (first|refine qj ?_|(first|(refine jr ?_)|(refine xt ?_)|refine jV Tryd.func15 (h5 ..) ?_)|((first|refine qe ?_ ?_|refine qf ?_ ?_|refine xsC ?_ ?_);all_goals (intro hc;have hp:=hc;try simp at hp;try (exfalso;omega)))|refine qD ?_ ?_)
        all_goals try (exfalso;first|omega|contradiction|simp_all;done)
        subst hN
        all_goals (refine ⟨t.length - (i + 1),⟨[(1,.v (str p)),(9,.os 0 0 (Q1 ++ [la]).length),(46,qo t),(47,.v (.int .i64 (t.length:Int))),(48,.v (.int .i64 ((i + 1:Nat):Int)))],[(0,.own false 1 ((Q1 ++ [la]).map j1))],1⟩,by omega,?_,i + 1,by omega,rfl,trivial,(by rw [hQ2])⟩;refine je [(2,0)] rfl ?gts ?ghs;(case gts=>(repeat (first|exact qd|refine qn ?_|refine xd ?_|refine wz ?_|refine Yj ?_|refine wE ?_ ?_|refine qM ?_ ?_));all_goals (first|(simp;done)|trace_state));(case ghs=>(repeat' (first|exact qr|refine q_dead ?_|refine wy ?_ ?_|refine VR ?_|refine jb ?_ ?_|exact xI|apply yY|exact j5 rfl|exact yb rfl|refine yb ?_|(apply xz;(first|exact qA rfl|exact .inr (List.mem_cons_self ..)|exact .inr (List.mem_cons_of_mem _ (List.mem_cons_self ..))|exact .inr (List.mem_cons_of_mem _ (List.mem_cons_of_mem _ (List.mem_cons_self ..)))|exact .inr (List.mem_cons_of_mem _ (List.mem_cons_of_mem _ (List.mem_cons_of_mem _ (List.mem_cons_self ..))))))));all_goals (first|exact Q7 _ _|trace_state)))
       ·rw [if_neg hpe] at hN
        have d:decide (qm t[i].path = p) = false:=decide_eq_false hpe
        generalize hQ2:jS (t.take (i + 1)) p = Q2 at *
        rw [← hN]
        generalize qm t[i].path = pa at *
        repeat' (first|refine qj ?_|(first|refine jV Tryd.func15 (h5 ..) ?_)|((first|refine qe ?_ ?_|refine qf ?_ ?_|refine xsC ?_ ?_);all_goals (intro hc;have hp:=hc;try simp at hp;try (exfalso;omega)))|refine qD ?_ ?_)
        all_goals try (exfalso;first|omega|contradiction|simp_all;done)
        all_goals (refine ⟨t.length - (i + 1),⟨[(1,.v (str p)),(9,.os 0 0 Q2.length),(46,qo t),(47,.v (.int .i64 (t.length:Int))),(48,.v (.int .i64 ((i + 1:Nat):Int)))],[(0,.own false 1 (Q2.map j1))],1⟩,by omega,?_,i + 1,by omega,rfl,trivial,(by rw [hQ2])⟩;refine je [(0,0)] rfl ?gts ?ghs;(case gts=>(repeat (first|exact qd|refine qn ?_|refine xd ?_|refine wz ?_|refine Yj ?_|refine wE ?_ ?_|refine qM ?_ ?_));all_goals trace_state);(case ghs=>(repeat' (first|exact qr|refine q_dead ?_|refine wy ?_ ?_|refine VR ?_|refine jb ?_ ?_|exact xI|apply yY|exact j5 rfl|exact yb rfl|refine yb ?_|(apply xz;(first|exact qA rfl|exact .inr (List.mem_cons_self ..)|exact .inr (List.mem_cons_of_mem _ (List.mem_cons_self ..))|exact .inr (List.mem_cons_of_mem _ (List.mem_cons_of_mem _ (List.mem_cons_self ..)))|exact .inr (List.mem_cons_of_mem _ (List.mem_cons_of_mem _ (List.mem_cons_of_mem _ (List.mem_cons_self ..))))))));all_goals trace_state))
      obtain rfl:i = t.length:=by omega
      rw [List.take_length]
      have hNl:=xF t p
      have hso:=YX (jS t p) (by omega)
      unfold Qi
      repeat' (first|refine qj ?_|(first|(apply jo Tryd.func16 rfl rfl;intro hIsFn;refine xO ([0]) 0 hIsFn (hso ..) ?_))|((first|refine qe ?_ ?_|refine qf ?_ ?_|refine xsC ?_ ?_);all_goals (intro hc;have hp:=hc;try simp at hp;try (exfalso;omega)))|refine qD ?_ ?_)
      all_goals try (exfalso;first|omega|contradiction|simp_all;done)
      all_goals ((refine xV (rs:=[.tmp 4,.tmp 5]) ?_;(repeat' (first|exact qS|apply qw|exact qK rfl|exact yH|exact k9|apply j4|apply xo|apply jN|apply xu|apply yy|apply xx|refine wj ?_|apply vM));all_goals (first|rfl|(simp;done)|trace_state)))
 subst hp0
 rw [if_pos rfl] at hF
 have hR:yq t [] = Qi t []:=by unfold yq;rw [hE,hF];rfl
 rw [hR,hE,hF]
 refine qa Tryd.func4 rfl _ Tryd.ntmps4 (Nat.le_of_ble_eq_true rfl) _ Tryd.results4 0 rfl rfl ?_
 repeat' (first|refine qj ?_|(first|(refine jr ?_)|refine jH Tryd.func12 (h1 ..) ?_)|((first|refine qe ?_ ?_|refine qf ?_ ?_|refine xsC ?_ ?_);all_goals (intro hc;have hp:=hc;try simp at hp;try (exfalso;omega)))|refine qD ?_ ?_)
 all_goals try (exfalso;first|omega|contradiction|simp_all;done)
 refine Awp.red (vB 9 1 rfl (Nat.zero_le _)) ?_
 (refine Awp.red (je (τ:=⟨[(1,.v (str [])),(9,.os 0 0 (jS (t.take 0) []).length),(46,qo t),(47,.v (.int .i64 (t.length:Int))),(48,.v (.int .i64 ((0:Nat):Int)))],[(0,.own false 1 ((jS (t.take 0) []).map j1))],1⟩) [(0,0)] rfl ?gts2 ?ghs2) ?_;(case gts2=>(repeat (first|exact qd|refine qn ?_|refine xd ?_|refine wz ?_|refine Yj ?_|refine wE ?_ ?_|refine qM ?_ ?_));all_goals (first|rfl|(simp;done)|trace_state));(case ghs2=>(repeat' (first|exact qr|refine q_dead ?_|refine wy ?_ ?_|refine VR ?_|refine jb ?_ ?_|exact xI|apply yY|exact j5 rfl|exact yb rfl|refine yb ?_|(apply xz;(first|exact qA rfl|exact .inr (List.mem_cons_self ..)|exact .inr (List.mem_cons_of_mem _ (List.mem_cons_self ..))|exact .inr (List.mem_cons_of_mem _ (List.mem_cons_of_mem _ (List.mem_cons_self ..)))|exact .inr (List.mem_cons_of_mem _ (List.mem_cons_of_mem _ (List.mem_cons_of_mem _ (List.mem_cons_self ..))))))));all_goals (first|rfl|trace_state)))
 refine qy (fun n σ => ∃ i:Nat,i ≤ t.length ∧ n = t.length - i ∧ True ∧ σ = ⟨[(1,.v (str [])),(9,.os 0 0 (jS (t.take i) []).length),(46,qo t),(47,.v (.int .i64 (t.length:Int))),(48,.v (.int .i64 (i:Int)))],[(0,.own false 1 ((jS (t.take i) []).map j1))],1⟩) t.length ⟨0,by omega,rfl,trivial,rfl⟩ ?_
 rintro n σ ⟨i,hi,rfl, -,rfl⟩
 by_cases hlt:i < t.length
 ·have hr:=qL (f:=Ent.row) hlt
  have hsm:=jf (ja (rt.ent t[i] (List.getElem_mem hlt))).1
  have h5:=Qc t[i].path (by omega)
  have hN:=zy (p:=[]) hlt
  have hNl:=xF (t.take i) []
  rw [List.length_take] at hNl
  by_cases hpe:qm t[i].path = []
  ·rw [if_pos hpe] at hN
   rw [hpe] at h5
   generalize hQ2:jS (t.take (i + 1)) [] = Q2 at *
   generalize jS (t.take i) [] = Q1 at *
   generalize qP t[i].path = la at *
   repeat' (first|refine qj ?_|(first|(refine jr ?_)|(refine xt ?_)|refine jV Tryd.func15 (h5 ..) ?_)|((first|refine qe ?_ ?_|refine qf ?_ ?_|refine xsC ?_ ?_);all_goals (intro hc;have hp:=hc;try simp at hp;try (exfalso;omega)))|refine qD ?_ ?_)
   all_goals try (exfalso;first|omega|contradiction|simp_all;done)
   subst hN
   all_goals (refine ⟨t.length - (i + 1),⟨[(1,.v (str [])),(9,.os 0 0 (Q1 ++ [la]).length),(46,qo t),(47,.v (.int .i64 (t.length:Int))),(48,.v (.int .i64 ((i + 1:Nat):Int)))],[(0,.own false 1 ((Q1 ++ [la]).map j1))],1⟩,by omega,?_,i + 1,by omega,rfl,trivial,(by rw [hQ2])⟩;refine je [(2,0)] rfl ?gts ?ghs;(case gts=>(repeat (first|exact qd|refine qn ?_|refine xd ?_|refine wz ?_|refine Yj ?_|refine wE ?_ ?_|refine qM ?_ ?_));all_goals (first|(simp;done)|trace_state));(case ghs=>(repeat' (first|exact qr|refine q_dead ?_|refine wy ?_ ?_|refine VR ?_|refine jb ?_ ?_|exact xI|apply yY|exact j5 rfl|exact yb rfl|refine yb ?_|(apply xz;(first|exact qA rfl|exact .inr (List.mem_cons_self ..)|exact .inr (List.mem_cons_of_mem _ (List.mem_cons_self ..))|exact .inr (List.mem_cons_of_mem _ (List.mem_cons_of_mem _ (List.mem_cons_self ..)))|exact .inr (List.mem_cons_of_mem _ (List.mem_cons_of_mem _ (List.mem_cons_of_mem _ (List.mem_cons_self ..))))))));all_goals (first|exact Q7 _ _|trace_state)))
  ·rw [if_neg hpe] at hN
   have d:decide (qm t[i].path = []) = false:=decide_eq_false hpe
   generalize hQ2:jS (t.take (i + 1)) [] = Q2 at *
   rw [← hN]
   generalize qm t[i].path = pa at *
   repeat' (first|refine qj ?_|(first|refine jV Tryd.func15 (h5 ..) ?_)|((first|refine qe ?_ ?_|refine qf ?_ ?_|refine xsC ?_ ?_);all_goals (intro hc;have hp:=hc;try simp at hp;try (exfalso;omega)))|refine qD ?_ ?_)
   all_goals try (exfalso;first|omega|contradiction|simp_all;done)
   all_goals (refine ⟨t.length - (i + 1),⟨[(1,.v (str [])),(9,.os 0 0 Q2.length),(46,qo t),(47,.v (.int .i64 (t.length:Int))),(48,.v (.int .i64 ((i + 1:Nat):Int)))],[(0,.own false 1 (Q2.map j1))],1⟩,by omega,?_,i + 1,by omega,rfl,trivial,(by rw [hQ2])⟩;refine je [(0,0)] rfl ?gts ?ghs;(case gts=>(repeat (first|exact qd|refine qn ?_|refine xd ?_|refine wz ?_|refine Yj ?_|refine wE ?_ ?_|refine qM ?_ ?_));all_goals trace_state);(case ghs=>(repeat' (first|exact qr|refine q_dead ?_|refine wy ?_ ?_|refine VR ?_|refine jb ?_ ?_|exact xI|apply yY|exact j5 rfl|exact yb rfl|refine yb ?_|(apply xz;(first|exact qA rfl|exact .inr (List.mem_cons_self ..)|exact .inr (List.mem_cons_of_mem _ (List.mem_cons_self ..))|exact .inr (List.mem_cons_of_mem _ (List.mem_cons_of_mem _ (List.mem_cons_self ..)))|exact .inr (List.mem_cons_of_mem _ (List.mem_cons_of_mem _ (List.mem_cons_of_mem _ (List.mem_cons_self ..))))))));all_goals trace_state))
 obtain rfl:i = t.length:=by omega
 rw [List.take_length]
 have hNl:=xF t []
 have hso:=YX (jS t []) (by omega)
 unfold Qi
 repeat' (first|refine qj ?_|(first|(apply jo Tryd.func16 rfl rfl;intro hIsFn;refine xO ([0]) 0 hIsFn (hso ..) ?_))|((first|refine qe ?_ ?_|refine qf ?_ ?_|refine xsC ?_ ?_);all_goals (intro hc;have hp:=hc;try simp at hp;try (exfalso;omega)))|refine qD ?_ ?_)
 all_goals try (exfalso;first|omega|contradiction|simp_all;done)
 all_goals ((refine xV (rs:=[.tmp 4,.tmp 5]) ?_;(repeat' (first|exact qS|apply qw|exact qK rfl|exact yH|exact k9|apply j4|apply xo|apply jN|apply xu|apply yy|apply xx|refine wj ?_|apply vM));all_goals (first|rfl|(simp;done)|trace_state)))
theorem Q9 (t:List Ent):0 ≤ qI t:=by
 unfold qI
 induction t with
 | nil=>simp
 | cons x t ih=>rw [List.map_cons,List.sum_cons];omega
theorem Jd {t:List Ent} (h : ∀ x,x ∈ t → x.text.length ≤ 300):qI t ≤ 300 * t.length:=by
 unfold qI
 induction t with
 | nil=>simp
 | cons x t ih =>
   have h1:=h x (List.mem_cons_self ..)
   have h2:=ih fun y hy=>h y (List.mem_cons_of_mem _ hy)
   rw [List.map_cons,List.sum_cons,List.length_cons]
   omega
def XH (t:List Ent):Int:=if qu t = 0 then qI t else 0
theorem Vu (t:List Ent) (ht:EBig t):yc C.P 5 [qo t] (.tup [.v (.int .i64 (XH t)),.v (.int .i64 (qu t))]):=by
 have h1:=v6 t ht
 unfold XH
 by_cases e1:qu t = 0
 case neg =>
  rw [if_neg e1]
  generalize qu t = E at *
  refine qa Tryd.func5 rfl _ Tryd.ntmps5 (Nat.le_of_ble_eq_true rfl) _ Tryd.results5 0 rfl rfl ?_
  repeat' (first|refine qj ?_|(first|(refine jr ?_)|refine jH Tryd.func12 (h1 ..) ?_)|((first|refine xsC ?_ ?_);all_goals (intro hc;have hp:=hc;try simp at hp;try (exfalso;omega)))|refine qD ?_ ?_)
  all_goals try (exfalso;first|omega|contradiction|simp_all;done)
  all_goals ((exact zh (rs:=[.tmp 2,.tmp 3])))
 have rt:=zD.1 e1
 have lt:=rt.len
 rw [if_pos e1]
 rw [e1] at h1 ⊢
 have hup : ∀ i,qI (t.take i) ≤ 18000:=fun i=>by
  have:=Jd (t:=t.take i) fun x hx=>(ja (rt.ent x (List.mem_of_mem_take hx))).2.2.1
  rw [List.length_take] at this
  omega
 have hlo : ∀ i,0 ≤ qI (t.take i):=fun i=>Q9 _
 refine qa Tryd.func5 rfl _ Tryd.ntmps5 (Nat.le_of_ble_eq_true rfl) _ Tryd.results5 0 rfl rfl ?_
 repeat' (first|refine qj ?_|(first|(refine jr ?_)|refine jH Tryd.func12 (h1 ..) ?_)|((first|refine xsC ?_ ?_);all_goals (intro hc;have hp:=hc;try simp at hp;try (exfalso;omega)))|refine qD ?_ ?_)
 all_goals try (exfalso;first|omega|contradiction|simp_all;done)
 (refine Awp.red (ql (ts:=[(5,.v (.int .i64 (qI (t.take 0)))),(14,qo t),(15,.v (.int .i64 (t.length:Int))),(16,.v (.int .i64 ((0:Nat):Int)))]) ?_) ?_;((repeat (first|exact qd|refine qn ?_|refine qM ?_ ?_))))
 any_goals (exact congrArg (fun n:Nat=>AV.v (.int .i64 (n:Int))) (List.length_map ..))
 refine qy (fun n σ => ∃ i:Nat,i ≤ t.length ∧ n = t.length - i ∧ (True) ∧ σ = ⟨[(5,.v (.int .i64 (qI (t.take i)))),(14,qo t),(15,.v (.int .i64 (t.length:Int))),(16,.v (.int .i64 (i:Int)))],[],C.nh⟩) t.length ⟨0,Nat.zero_le _,rfl,trivial,rfl⟩ ?_
 rintro n σ ⟨i,hi,rfl, -,rfl⟩
 by_cases hlt:i < t.length
 ·have hr:=qL (f:=Ent.row) hlt
  have hs:=yu hlt
  have hu1:=hup i
  have hl1:=hlo i
  have htx:=(ja (rt.ent t[i] (List.getElem_mem hlt))).2.2.1
  generalize hS2:qI (t.take (i + 1)) = S2 at *
  generalize qI (t.take i) = S1 at *
  generalize t[i] = e at *
  repeat' (first|refine qj ?_|fail|((first|refine xsC ?_ ?_);all_goals (intro hc;have hp:=hc;try simp at hp;try (exfalso;omega)))|refine qD ?_ ?_)
  all_goals try (exfalso;first|omega|contradiction)
  refine ⟨t.length - (i + 1),⟨[(5,.v (.int .i64 S2)),(14,qo t),(15,.v (.int .i64 (t.length:Int))),(16,.v (.int .i64 ((i + 1:Nat):Int)))],[],0⟩,by omega,ql ?_,i + 1,by omega,rfl,trivial,(by subst hS2;rfl)⟩
  subst hs
  (repeat (first|exact qd|refine qn ?_|refine qM ?_ ?_))
 obtain rfl:i = t.length:=by omega
 rw [List.take_length]
 repeat' (first|refine qj ?_|fail|((first|refine xsC ?_ ?_);all_goals (intro hc;have hp:=hc;try simp at hp;try (exfalso;omega)))|refine qD ?_ ?_)
 all_goals try (exfalso;omega)
 all_goals ((exact zh (rs:=[.tmp 2,.tmp 3])))
theorem Xx (t:List Ent) (p:qv) (hR:Right t):yc C.P 9 [qo t,.v (str p)] (yv (Qi t p)):=by
 rw [JA hR]
 have lt:=hR.len
 have hln : ∀ i,((jS (t.take i) p).foldl yt []).length ≤ 60:=fun i=>by
  have h1:=kZ (jS (t.take i) p) []
  have h2:=xF (t.take i) p
  rw [List.length_take] at h2
  simp at h1
  omega
 unfold yv
 refine qa Tryd.func9 rfl _ Tryd.ntmps9 (Nat.le_of_ble_eq_true rfl) _ Tryd.results9 0 rfl rfl ?_
 repeat' (first|refine qj ?_|fail|((first|refine xsC ?_ ?_);all_goals (intro hc;have hp:=hc;try simp at hp;try (exfalso;omega)))|refine qD ?_ ?_)
 refine Awp.red (je (τ:=⟨[(0,qo t),(1,.v (str p)),(5,.sl false (((jS (t.take 0) p).foldl yt []).map qi)),(6,.v (.int .i64 ((0:Nat):Int)))],[],0⟩) [] rfl ?gts2 ?ghs2) ?_
 case ghs2=>exact qr
 case gts2=>(repeat (first|exact qd|refine qn ?_|refine Zh ?_))
 refine qy (fun n σ => ∃ i:Nat,i ≤ t.length ∧ n = t.length - i ∧ (True) ∧ σ = ⟨[(0,qo t),(1,.v (str p)),(5,.sl false (((jS (t.take i) p).foldl yt []).map qi)),(6,.v (.int .i64 (i:Int)))],[],C.nh⟩) t.length ⟨0,Nat.zero_le _,rfl,trivial,rfl⟩ ?_
 rintro n σ ⟨i,hi,rfl, -,rfl⟩
 by_cases hlt:i < t.length
 ·have hr:=qL (f:=Ent.row) hlt
  have hsm:=jf (ja (hR.ent t[i] (List.getElem_mem hlt))).1
  have h1:=vR t[i].path (by omega)
  have h2:=Y9 t[i].path (by omega)
  have h3:=Yh ((jS (t.take i) p).foldl yt []) (qP t[i].path) (by have:=hln i;omega)
  have hN:=zy (p:=p) hlt
  unfold yv at h3
  by_cases hpe:qm t[i].path = p
  ·rw [if_pos hpe] at hN
   have hN2:(jS (t.take (i + 1)) p).foldl yt [] = yt ((jS (t.take i) p).foldl yt []) (qP t[i].path):=by rw [hN,List.foldl_append];rfl
   rw [← hN2] at h3
   rw [hpe] at h1
   generalize hQ2:(jS (t.take (i + 1)) p).foldl yt [] = Q2 at *
   generalize (jS (t.take i) p).foldl yt [] = Q1 at *
   generalize qP t[i].path = la at *
   repeat' (first|refine qj ?_|(first|refine jH Tryd.func18 (h1 ..) ?_|refine jH Tryd.func24 (h2 ..) ?_|refine jV Tryd.func23 (h3 ..) ?_)|((first|refine xsC ?_ ?_);all_goals (intro hc;have hp:=hc;try simp at hp;try (exfalso;omega)))|refine qD ?_ ?_)
   all_goals try (exfalso;first|omega|contradiction|simp_all;done)
   refine ⟨t.length - (i + 1),⟨[(0,qo t),(1,.v (str p)),(5,.sl false (Q2.map qi)),(6,.v (.int .i64 ((i + 1:Nat):Int)))],[],0⟩,by omega,ql ?_,i + 1,by omega,rfl,trivial,(by subst hQ2;rfl)⟩
   (repeat (first|exact qd|refine qn ?_|refine qM ?_ ?_))
  ·rw [if_neg hpe] at hN
   generalize hQ2:(jS (t.take (i + 1)) p).foldl yt [] = Q2 at *
   have hQ1:(jS (t.take i) p).foldl yt [] = Q2:=by rw [← hQ2,hN]
   rw [hQ1] at *
   have d:decide (qm t[i].path = p) = false:=decide_eq_false hpe
   generalize qm t[i].path = pa at *
   repeat' (first|refine qj ?_|(first|refine jH Tryd.func18 (h1 ..) ?_)|((first|refine xsC ?_ ?_);all_goals (intro hc;have hp:=hc;try simp at hp;try (exfalso;omega)))|refine qD ?_ ?_)
   all_goals try (exfalso;first|omega|contradiction|simp_all;done)
   refine ⟨t.length - (i + 1),⟨[(0,qo t),(1,.v (str p)),(5,.sl false (Q2.map qi)),(6,.v (.int .i64 ((i + 1:Nat):Int)))],[],0⟩,by omega,ql ?_,i + 1,by omega,rfl,trivial,(by subst hQ2;rfl)⟩
   (repeat (first|exact qd|refine qn ?_|refine qM ?_ ?_))
 obtain rfl:i = t.length:=by omega
 rw [List.take_length]
 repeat' (first|refine qj ?_|fail|((first|refine xsC ?_ ?_);all_goals (intro hc;have hp:=hc;try simp at hp;try (exfalso;omega)))|refine qD ?_ ?_)
 all_goals try (exfalso;omega)
 all_goals ((exact zh (rs:=[.tmp 4])))
theorem zO (l:List qv) (hl:l.length ≤ 1000000):yc C.P 11 [.sl false (l.map qi),.sl false (l.map qi)] (.v (.bool true)):=by
 refine qa Tryd.func11 rfl _ Tryd.ntmps11 (Nat.le_of_ble_eq_true rfl) _ Tryd.results11 0 rfl rfl ?_
 repeat' (first|refine qj ?_|fail|((first|refine xsC ?_ ?_);all_goals (intro hc;have hp:=hc;try simp at hp;try (exfalso;omega)))|refine qD ?_ ?_)
 all_goals try (exfalso;simp_all;done)
 (refine Awp.red (ql (ts:=[(0,.sl false (l.map qi)),(1,.sl false (l.map qi)),(5,.v (.int .i64 ((0:Nat):Int)))]) ?_) ?_;((repeat (first|exact qd|refine qn ?_|refine qM ?_ ?_))))
 refine qy (fun n σ => ∃ i:Nat,i ≤ l.length ∧ n = l.length - i ∧ (True) ∧ σ = ⟨[(0,.sl false (l.map qi)),(1,.sl false (l.map qi)),(5,.v (.int .i64 (i:Int)))],[],C.nh⟩) l.length ⟨0,Nat.zero_le _,rfl,trivial,rfl⟩ ?_
 rintro n σ ⟨i,hi,rfl, -,rfl⟩
 by_cases hlt:i < l.length
 ·have hr:=qL (f:=qi) hlt
  repeat' (first|refine qj ?_|fail|((first|refine xsC ?_ ?_);all_goals (intro hc;have hp:=hc;try simp at hp;try (exfalso;omega)))|refine qD ?_ ?_)
  all_goals try (exfalso;omega)
  all_goals try (exfalso;simp_all;done)
  refine ⟨l.length - (i + 1),_,by omega,ql (ts:=[(0,.sl false (l.map qi)),(1,.sl false (l.map qi)),(5,.v (.int .i64 ((i + 1:Nat):Int)))]) ?_,i + 1,by omega,rfl,trivial,rfl⟩;((repeat (first|exact qd|refine qn ?_|refine qM ?_ ?_)))
 obtain rfl:i = l.length:=by omega
 repeat' (first|refine qj ?_|fail|((first|refine xsC ?_ ?_);all_goals (intro hc;have hp:=hc;try simp at hp;try (exfalso;omega)))|refine qD ?_ ?_)
 all_goals try (exfalso;omega)
 apply q8
 rfl
 rfl
end Go.Proofs.YtnhpclmbhbblbaaDoor
set_option linter.unusedSimpArgs false
set_option linter.unnecessarySimpa false
set_option linter.unusedVariables false
set_option maxHeartbeats 1000000
namespace Go.Proofs.YtnhpclmbhbblbaaDoor
open Go.Ab Go.RowKit
set_option maxRecDepth 10000
attribute [local irreducible] Awp jk qG q9 Red qp Go.Ab.Fin qx Rz yS qX qT ResOk jp jd jG qR
set_option maxHeartbeats 4000000 in
theorem JW (t:List Ent) (p:qv) (ht:EBig t) (hp:p.length ≤ 1000000000):yc C.P 3 [qo t,.v (str p)] (.v (.bool true)):=by
 have h1:=VL t p ht hp
 have h2:=Vu t ht
 have h3:=Qg t ht
 have h4:=zM p (by omega)
 have h5:=vW t p (by have:=ht.len;omega)
 have hg:=QS
 have lt0:=ht.len
 unfold XH at h2
 by_cases e1:qu t = 0
 case neg =>
  have hE:x9 t p = qu t:=by unfold x9;rw [if_pos e1]
  have hR:yq t p = []:=by unfold yq;rw [hE,if_neg e1]
  rw [hR,hE] at h1
  rw [if_neg e1] at h2
  have h6:=zO [] (by simp)
  generalize qu t = E at *
  unfold yv at h1
  have d0:decide (E = E) = true:=by simp
  have d1:decide (E = 0) = false:=decide_eq_false e1
  refine qa Tryd.func3 rfl _ Tryd.ntmps3 (Nat.le_of_ble_eq_true rfl) _ Tryd.results3 0 rfl rfl ?_
  repeat' (first|refine qj ?_|(first|refine jV Tryd.func4 (h1 ..) ?_|refine jV Tryd.func5 (h2 ..) ?_|refine jH Tryd.func6 (h3 ..) ?_)|((first|refine qe ?_ ?_|refine qf ?_ ?_|refine xsC ?_ ?_);all_goals (intro hc;have hp:=hc;try simp at hp;try (exfalso;omega)))|refine qD ?_ ?_)
  all_goals try (exfalso;first|omega|contradiction|simp_all;done)
  (refine Awp.red (ql (ts:=[(0,qo t),(5,.sl false (([]:List qv).map qi)),(6,.v (.int .i64 E)),(7,.v (.int .i64 0)),(8,.v (.int .i64 E)),(9,.v (.int .i64 E)),(10,.v (.int .i64 E)),(11,.sl true []),(12,.v (.int .i64 0)),(13,.v (.int .i64 ((0:Nat):Int)))]) ?_) ?_;((repeat (first|exact qd|refine qn ?_|refine qM ?_ ?_))))
  refine qy (fun n σ => ∃ i:Nat,i ≤ t.length ∧ n = t.length - i ∧ (True) ∧ σ = ⟨[(0,qo t),(5,.sl false (([]:List qv).map qi)),(6,.v (.int .i64 E)),(7,.v (.int .i64 0)),(8,.v (.int .i64 E)),(9,.v (.int .i64 E)),(10,.v (.int .i64 E)),(11,.sl true []),(12,.v (.int .i64 0)),(13,.v (.int .i64 (i:Int)))],[],C.nh⟩) t.length ⟨0,Nat.zero_le _,rfl,trivial,rfl⟩ ?_
  rintro n σ ⟨i,hi,rfl, -,rfl⟩
  repeat' (first|refine qj ?_|(first|refine jH Tryd.func10 (hg ..) ?_|refine jV Tryd.func11 (h6 ..) ?_)|((first|refine qe ?_ ?_|refine qf ?_ ?_|refine xsC ?_ ?_);all_goals (intro hc;have hp:=hc;try simp at hp;try (exfalso;omega)))|refine qD ?_ ?_)
  all_goals try (exfalso;first|omega|contradiction|simp_all;done)
  all_goals (apply q8;rfl;first|rfl|simp;done|simp_all;done)
 have rt:=zD.1 e1
 have lt:=rt.len
 rw [e1] at h2 h3
 rw [if_pos rfl] at h2
 have hup : ∀ i,qI (t.take i) ≤ 18000:=fun i=>by
  have:=Jd (t:=t.take i) fun x hx=>(ja (rt.ent x (List.mem_of_mem_take hx))).2.2.1
  rw [List.length_take] at this
  omega
 have hlo : ∀ i,0 ≤ qI (t.take i):=fun i=>Q9 _
 have hW : ∃ (E:Int) (L:List qv),x9 t p = E ∧ yq t p = L ∧ L.length ≤ 60 ∧ (E = 0 → yc C.P 9 [qo t,.v (str p)] (.sl false (L.map qi))) ∧ (¬ E = 0 → L = []) ∧ E = (if ¬ p = [] ∧ ¬ qg p = 0 then qg p else q0 t p):=by
  refine ⟨_,_,rfl,rfl,?_,fun h=>?_,fun h=>?_,?_⟩
  ·unfold yq;split
   ·have:=Xh t p;omega
   ·simp
  ·unfold yq;rw [if_pos h];exact Xx t p rt
  ·unfold yq;rw [if_neg h]
  ·unfold x9;rw [if_neg (by simp [e1])]
 obtain ⟨E,L,q1,q2,q3,q4,q5,q6⟩:=hW
 rw [q1,q2] at h1
 have h6:=zO L (by omega)
 have hS:qI (t.take t.length) = qI t:=by rw [List.take_length]
 unfold yv at h1
 have d0:decide (E = E) = true:=by simp
 by_cases hp0:p = []
 ·have dp:decide (p = []) = true:=decide_eq_true hp0
  rw [if_neg (fun h=>h.1 hp0)] at q6
  rw [← q6] at h5
  by_cases hE:E = 0
  ·subst hE
   have h7:=q4 rfl
   clear q4 q5 q6 h4
   refine qa Tryd.func3 rfl _ Tryd.ntmps3 (Nat.le_of_ble_eq_true rfl) _ Tryd.results3 0 rfl rfl ?_
   repeat' (first|refine qj ?_|(first|refine jV Tryd.func4 (h1 ..) ?_|refine jV Tryd.func5 (h2 ..) ?_|refine jH Tryd.func6 (h3 ..) ?_|refine jH Tryd.func8 (h5 ..) ?_|refine jV Tryd.func9 (h7 ..) ?_)|((first|refine qe ?_ ?_|refine qf ?_ ?_|refine xsC ?_ ?_);all_goals (intro hc;have hp:=hc;try simp at hp;try (exfalso;omega)))|refine qD ?_ ?_)
   all_goals try (exfalso;first|omega|contradiction|simp_all;done)
   (refine Awp.red (ql (ts:=[(0,qo t),(5,.sl false (L.map qi)),(6,.v (.int .i64 0)),(7,.v (.int .i64 (qI t))),(8,.v (.int .i64 0)),(9,.v (.int .i64 0)),(10,.v (.int .i64 0)),(11,.sl false (L.map qi)),(12,.v (.int .i64 (qI (t.take 0)))),(13,.v (.int .i64 ((0:Nat):Int)))]) ?_) ?_;((repeat (first|exact qd|refine qn ?_|refine qM ?_ ?_))))
   refine qy (fun n σ => ∃ i:Nat,i ≤ t.length ∧ n = t.length - i ∧ (True) ∧ σ = ⟨[(0,qo t),(5,.sl false (L.map qi)),(6,.v (.int .i64 0)),(7,.v (.int .i64 (qI t))),(8,.v (.int .i64 0)),(9,.v (.int .i64 0)),(10,.v (.int .i64 0)),(11,.sl false (L.map qi)),(12,.v (.int .i64 (qI (t.take i)))),(13,.v (.int .i64 (i:Int)))],[],C.nh⟩) t.length ⟨0,Nat.zero_le _,rfl,trivial,rfl⟩ ?_
   rintro n σ ⟨i,hi,rfl, -,rfl⟩
   by_cases hlt:i < t.length
   ·have hr:=qL (f:=Ent.row) hlt
    have hs:=yu hlt
    have hu1:=hup i
    have hl1:=hlo i
    have htx:=(ja (rt.ent t[i] (List.getElem_mem hlt))).2.2.1
    generalize hS2:qI (t.take (i + 1)) = S2 at *
    generalize qI (t.take i) = S1 at *
    generalize t[i] = e at *
    repeat' (first|refine qj ?_|fail|((first|refine qe ?_ ?_|refine qf ?_ ?_|refine xsC ?_ ?_);all_goals (intro hc;have hp:=hc;try simp at hp;try (exfalso;omega)))|refine qD ?_ ?_)
    all_goals try (exfalso;first|omega|contradiction)
    refine ⟨t.length - (i + 1),⟨[(0,qo t),(5,.sl false (L.map qi)),(6,.v (.int .i64 0)),(7,.v (.int .i64 (qI t))),(8,.v (.int .i64 0)),(9,.v (.int .i64 0)),(10,.v (.int .i64 0)),(11,.sl false (L.map qi)),(12,.v (.int .i64 S2)),(13,.v (.int .i64 ((i + 1:Nat):Int)))],[],0⟩,by omega,ql ?_,i + 1,by omega,rfl,trivial,(by subst hS2;rfl)⟩
    subst hs
    (repeat (first|exact qd|refine qn ?_|refine qM ?_ ?_))
   obtain rfl:i = t.length:=by omega
   rw [hS]
   repeat' (first|refine qj ?_|(first|refine jH Tryd.func10 (hg ..) ?_|refine jV Tryd.func11 (h6 ..) ?_)|((first|refine qe ?_ ?_|refine qf ?_ ?_|refine xsC ?_ ?_);all_goals (intro hc;have hp:=hc;try simp at hp;try (exfalso;omega)))|refine qD ?_ ?_)
   all_goals try (exfalso;first|omega|contradiction|simp_all;done)
   all_goals (apply q8;rfl;first|rfl|simp;done|simp_all;done)
  ·have hL:=q5 hE
   subst hL
   have d1:decide (E = 0) = false:=decide_eq_false hE
   clear q4 q5 q6 h4
   refine qa Tryd.func3 rfl _ Tryd.ntmps3 (Nat.le_of_ble_eq_true rfl) _ Tryd.results3 0 rfl rfl ?_
   repeat' (first|refine qj ?_|(first|refine jV Tryd.func4 (h1 ..) ?_|refine jV Tryd.func5 (h2 ..) ?_|refine jH Tryd.func6 (h3 ..) ?_|refine jH Tryd.func8 (h5 ..) ?_)|((first|refine qe ?_ ?_|refine qf ?_ ?_|refine xsC ?_ ?_);all_goals (intro hc;have hp:=hc;try simp at hp;try (exfalso;omega)))|refine qD ?_ ?_)
   all_goals try (exfalso;first|omega|contradiction|simp_all;done)
   (refine Awp.red (ql (ts:=[(0,qo t),(5,.sl false (([]:List qv).map qi)),(6,.v (.int .i64 E)),(7,.v (.int .i64 (qI t))),(8,.v (.int .i64 0)),(9,.v (.int .i64 0)),(10,.v (.int .i64 E)),(11,.sl true []),(12,.v (.int .i64 (qI (t.take 0)))),(13,.v (.int .i64 ((0:Nat):Int)))]) ?_) ?_;((repeat (first|exact qd|refine qn ?_|refine qM ?_ ?_))))
   refine qy (fun n σ => ∃ i:Nat,i ≤ t.length ∧ n = t.length - i ∧ (True) ∧ σ = ⟨[(0,qo t),(5,.sl false (([]:List qv).map qi)),(6,.v (.int .i64 E)),(7,.v (.int .i64 (qI t))),(8,.v (.int .i64 0)),(9,.v (.int .i64 0)),(10,.v (.int .i64 E)),(11,.sl true []),(12,.v (.int .i64 (qI (t.take i)))),(13,.v (.int .i64 (i:Int)))],[],C.nh⟩) t.length ⟨0,Nat.zero_le _,rfl,trivial,rfl⟩ ?_
   rintro n σ ⟨i,hi,rfl, -,rfl⟩
   by_cases hlt:i < t.length
   ·have hr:=qL (f:=Ent.row) hlt
    have hs:=yu hlt
    have hu1:=hup i
    have hl1:=hlo i
    have htx:=(ja (rt.ent t[i] (List.getElem_mem hlt))).2.2.1
    generalize hS2:qI (t.take (i + 1)) = S2 at *
    generalize qI (t.take i) = S1 at *
    generalize t[i] = e at *
    repeat' (first|refine qj ?_|fail|((first|refine qe ?_ ?_|refine qf ?_ ?_|refine xsC ?_ ?_);all_goals (intro hc;have hp:=hc;try simp at hp;try (exfalso;omega)))|refine qD ?_ ?_)
    all_goals try (exfalso;first|omega|contradiction)
    refine ⟨t.length - (i + 1),⟨[(0,qo t),(5,.sl false (([]:List qv).map qi)),(6,.v (.int .i64 E)),(7,.v (.int .i64 (qI t))),(8,.v (.int .i64 0)),(9,.v (.int .i64 0)),(10,.v (.int .i64 E)),(11,.sl true []),(12,.v (.int .i64 S2)),(13,.v (.int .i64 ((i + 1:Nat):Int)))],[],0⟩,by omega,ql ?_,i + 1,by omega,rfl,trivial,(by subst hS2;rfl)⟩
    subst hs
    (repeat (first|exact qd|refine qn ?_|refine qM ?_ ?_))
   obtain rfl:i = t.length:=by omega
   rw [hS]
   repeat' (first|refine qj ?_|(first|refine jH Tryd.func10 (hg ..) ?_|refine jV Tryd.func11 (h6 ..) ?_)|((first|refine qe ?_ ?_|refine qf ?_ ?_|refine xsC ?_ ?_);all_goals (intro hc;have hp:=hc;try simp at hp;try (exfalso;omega)))|refine qD ?_ ?_)
   all_goals try (exfalso;first|omega|contradiction|simp_all;done)
   all_goals (apply q8;rfl;first|rfl|simp;done|simp_all;done)
 have dp:decide (p = []) = false:=decide_eq_false hp0
 by_cases hpe:qg p = 0
 case neg =>
  rw [if_pos ⟨hp0,hpe⟩] at q6
  rw [← q6] at h4 hpe
  have hL:=q5 hpe
  subst hL
  have d1:decide (E = 0) = false:=decide_eq_false hpe
  clear q4 q5 q6 h5
  refine qa Tryd.func3 rfl _ Tryd.ntmps3 (Nat.le_of_ble_eq_true rfl) _ Tryd.results3 0 rfl rfl ?_
  repeat' (first|refine qj ?_|(first|refine jV Tryd.func4 (h1 ..) ?_|refine jV Tryd.func5 (h2 ..) ?_|refine jH Tryd.func6 (h3 ..) ?_|refine jH Tryd.func7 (h4 ..) ?_)|((first|refine qe ?_ ?_|refine qf ?_ ?_|refine xsC ?_ ?_);all_goals (intro hc;have hp:=hc;try simp at hp;try (exfalso;omega)))|refine qD ?_ ?_)
  all_goals try (exfalso;first|omega|contradiction|simp_all;done)
  (refine Awp.red (ql (ts:=[(0,qo t),(5,.sl false (([]:List qv).map qi)),(6,.v (.int .i64 E)),(7,.v (.int .i64 (qI t))),(8,.v (.int .i64 0)),(9,.v (.int .i64 0)),(10,.v (.int .i64 E)),(11,.sl true []),(12,.v (.int .i64 (qI (t.take 0)))),(13,.v (.int .i64 ((0:Nat):Int)))]) ?_) ?_;((repeat (first|exact qd|refine qn ?_|refine qM ?_ ?_))))
  refine qy (fun n σ => ∃ i:Nat,i ≤ t.length ∧ n = t.length - i ∧ (True) ∧ σ = ⟨[(0,qo t),(5,.sl false (([]:List qv).map qi)),(6,.v (.int .i64 E)),(7,.v (.int .i64 (qI t))),(8,.v (.int .i64 0)),(9,.v (.int .i64 0)),(10,.v (.int .i64 E)),(11,.sl true []),(12,.v (.int .i64 (qI (t.take i)))),(13,.v (.int .i64 (i:Int)))],[],C.nh⟩) t.length ⟨0,Nat.zero_le _,rfl,trivial,rfl⟩ ?_
  rintro n σ ⟨i,hi,rfl, -,rfl⟩
  by_cases hlt:i < t.length
  ·have hr:=qL (f:=Ent.row) hlt
   have hs:=yu hlt
   have hu1:=hup i
   have hl1:=hlo i
   have htx:=(ja (rt.ent t[i] (List.getElem_mem hlt))).2.2.1
   generalize hS2:qI (t.take (i + 1)) = S2 at *
   generalize qI (t.take i) = S1 at *
   generalize t[i] = e at *
   repeat' (first|refine qj ?_|fail|((first|refine qe ?_ ?_|refine qf ?_ ?_|refine xsC ?_ ?_);all_goals (intro hc;have hp:=hc;try simp at hp;try (exfalso;omega)))|refine qD ?_ ?_)
   all_goals try (exfalso;first|omega|contradiction)
   refine ⟨t.length - (i + 1),⟨[(0,qo t),(5,.sl false (([]:List qv).map qi)),(6,.v (.int .i64 E)),(7,.v (.int .i64 (qI t))),(8,.v (.int .i64 0)),(9,.v (.int .i64 0)),(10,.v (.int .i64 E)),(11,.sl true []),(12,.v (.int .i64 S2)),(13,.v (.int .i64 ((i + 1:Nat):Int)))],[],0⟩,by omega,ql ?_,i + 1,by omega,rfl,trivial,(by subst hS2;rfl)⟩
   subst hs
   (repeat (first|exact qd|refine qn ?_|refine qM ?_ ?_))
  obtain rfl:i = t.length:=by omega
  rw [hS]
  repeat' (first|refine qj ?_|(first|refine jH Tryd.func10 (hg ..) ?_|refine jV Tryd.func11 (h6 ..) ?_)|((first|refine qe ?_ ?_|refine qf ?_ ?_|refine xsC ?_ ?_);all_goals (intro hc;have hp:=hc;try simp at hp;try (exfalso;omega)))|refine qD ?_ ?_)
  all_goals try (exfalso;first|omega|contradiction|simp_all;done)
  all_goals (apply q8;rfl;first|rfl|simp;done|simp_all;done)
 rw [if_neg (fun h=>h.2 hpe)] at q6
 rw [← q6] at h5
 rw [hpe] at h4
 by_cases hE:E = 0
 ·subst hE
  have h7:=q4 rfl
  clear q4 q5 q6
  refine qa Tryd.func3 rfl _ Tryd.ntmps3 (Nat.le_of_ble_eq_true rfl) _ Tryd.results3 0 rfl rfl ?_
  repeat' (first|refine qj ?_|(first|refine jV Tryd.func4 (h1 ..) ?_|refine jV Tryd.func5 (h2 ..) ?_|refine jH Tryd.func6 (h3 ..) ?_|refine jH Tryd.func7 (h4 ..) ?_|refine jH Tryd.func8 (h5 ..) ?_|refine jV Tryd.func9 (h7 ..) ?_)|((first|refine qe ?_ ?_|refine qf ?_ ?_|refine xsC ?_ ?_);all_goals (intro hc;have hp:=hc;try simp at hp;try (exfalso;omega)))|refine qD ?_ ?_)
  all_goals try (exfalso;first|omega|contradiction|simp_all;done)
  (refine Awp.red (ql (ts:=[(0,qo t),(5,.sl false (L.map qi)),(6,.v (.int .i64 0)),(7,.v (.int .i64 (qI t))),(8,.v (.int .i64 0)),(9,.v (.int .i64 0)),(10,.v (.int .i64 0)),(11,.sl false (L.map qi)),(12,.v (.int .i64 (qI (t.take 0)))),(13,.v (.int .i64 ((0:Nat):Int)))]) ?_) ?_;((repeat (first|exact qd|refine qn ?_|refine qM ?_ ?_))))
  refine qy (fun n σ => ∃ i:Nat,i ≤ t.length ∧ n = t.length - i ∧ (True) ∧ σ = ⟨[(0,qo t),(5,.sl false (L.map qi)),(6,.v (.int .i64 0)),(7,.v (.int .i64 (qI t))),(8,.v (.int .i64 0)),(9,.v (.int .i64 0)),(10,.v (.int .i64 0)),(11,.sl false (L.map qi)),(12,.v (.int .i64 (qI (t.take i)))),(13,.v (.int .i64 (i:Int)))],[],C.nh⟩) t.length ⟨0,Nat.zero_le _,rfl,trivial,rfl⟩ ?_
  rintro n σ ⟨i,hi,rfl, -,rfl⟩
  by_cases hlt:i < t.length
  ·have hr:=qL (f:=Ent.row) hlt
   have hs:=yu hlt
   have hu1:=hup i
   have hl1:=hlo i
   have htx:=(ja (rt.ent t[i] (List.getElem_mem hlt))).2.2.1
   generalize hS2:qI (t.take (i + 1)) = S2 at *
   generalize qI (t.take i) = S1 at *
   generalize t[i] = e at *
   repeat' (first|refine qj ?_|fail|((first|refine qe ?_ ?_|refine qf ?_ ?_|refine xsC ?_ ?_);all_goals (intro hc;have hp:=hc;try simp at hp;try (exfalso;omega)))|refine qD ?_ ?_)
   all_goals try (exfalso;first|omega|contradiction)
   refine ⟨t.length - (i + 1),⟨[(0,qo t),(5,.sl false (L.map qi)),(6,.v (.int .i64 0)),(7,.v (.int .i64 (qI t))),(8,.v (.int .i64 0)),(9,.v (.int .i64 0)),(10,.v (.int .i64 0)),(11,.sl false (L.map qi)),(12,.v (.int .i64 S2)),(13,.v (.int .i64 ((i + 1:Nat):Int)))],[],0⟩,by omega,ql ?_,i + 1,by omega,rfl,trivial,(by subst hS2;rfl)⟩
   subst hs
   (repeat (first|exact qd|refine qn ?_|refine qM ?_ ?_))
  obtain rfl:i = t.length:=by omega
  rw [hS]
  repeat' (first|refine qj ?_|(first|refine jH Tryd.func10 (hg ..) ?_|refine jV Tryd.func11 (h6 ..) ?_)|((first|refine qe ?_ ?_|refine qf ?_ ?_|refine xsC ?_ ?_);all_goals (intro hc;have hp:=hc;try simp at hp;try (exfalso;omega)))|refine qD ?_ ?_)
  all_goals try (exfalso;first|omega|contradiction|simp_all;done)
  all_goals (apply q8;rfl;first|rfl|simp;done|simp_all;done)
 ·have hL:=q5 hE
  subst hL
  have d1:decide (E = 0) = false:=decide_eq_false hE
  clear q4 q5 q6
  refine qa Tryd.func3 rfl _ Tryd.ntmps3 (Nat.le_of_ble_eq_true rfl) _ Tryd.results3 0 rfl rfl ?_
  repeat' (first|refine qj ?_|(first|refine jV Tryd.func4 (h1 ..) ?_|refine jV Tryd.func5 (h2 ..) ?_|refine jH Tryd.func6 (h3 ..) ?_|refine jH Tryd.func7 (h4 ..) ?_|refine jH Tryd.func8 (h5 ..) ?_)|((first|refine qe ?_ ?_|refine qf ?_ ?_|refine xsC ?_ ?_);all_goals (intro hc;have hp:=hc;try simp at hp;try (exfalso;omega)))|refine qD ?_ ?_)
  all_goals try (exfalso;first|omega|contradiction|simp_all;done)
  (refine Awp.red (ql (ts:=[(0,qo t),(5,.sl false (([]:List qv).map qi)),(6,.v (.int .i64 E)),(7,.v (.int .i64 (qI t))),(8,.v (.int .i64 0)),(9,.v (.int .i64 0)),(10,.v (.int .i64 E)),(11,.sl true []),(12,.v (.int .i64 (qI (t.take 0)))),(13,.v (.int .i64 ((0:Nat):Int)))]) ?_) ?_;((repeat (first|exact qd|refine qn ?_|refine qM ?_ ?_))))
  refine qy (fun n σ => ∃ i:Nat,i ≤ t.length ∧ n = t.length - i ∧ (True) ∧ σ = ⟨[(0,qo t),(5,.sl false (([]:List qv).map qi)),(6,.v (.int .i64 E)),(7,.v (.int .i64 (qI t))),(8,.v (.int .i64 0)),(9,.v (.int .i64 0)),(10,.v (.int .i64 E)),(11,.sl true []),(12,.v (.int .i64 (qI (t.take i)))),(13,.v (.int .i64 (i:Int)))],[],C.nh⟩) t.length ⟨0,Nat.zero_le _,rfl,trivial,rfl⟩ ?_
  rintro n σ ⟨i,hi,rfl, -,rfl⟩
  by_cases hlt:i < t.length
  ·have hr:=qL (f:=Ent.row) hlt
   have hs:=yu hlt
   have hu1:=hup i
   have hl1:=hlo i
   have htx:=(ja (rt.ent t[i] (List.getElem_mem hlt))).2.2.1
   generalize hS2:qI (t.take (i + 1)) = S2 at *
   generalize qI (t.take i) = S1 at *
   generalize t[i] = e at *
   repeat' (first|refine qj ?_|fail|((first|refine qe ?_ ?_|refine qf ?_ ?_|refine xsC ?_ ?_);all_goals (intro hc;have hp:=hc;try simp at hp;try (exfalso;omega)))|refine qD ?_ ?_)
   all_goals try (exfalso;first|omega|contradiction)
   refine ⟨t.length - (i + 1),⟨[(0,qo t),(5,.sl false (([]:List qv).map qi)),(6,.v (.int .i64 E)),(7,.v (.int .i64 (qI t))),(8,.v (.int .i64 0)),(9,.v (.int .i64 0)),(10,.v (.int .i64 E)),(11,.sl true []),(12,.v (.int .i64 S2)),(13,.v (.int .i64 ((i + 1:Nat):Int)))],[],0⟩,by omega,ql ?_,i + 1,by omega,rfl,trivial,(by subst hS2;rfl)⟩
   subst hs
   (repeat (first|exact qd|refine qn ?_|refine qM ?_ ?_))
  obtain rfl:i = t.length:=by omega
  rw [hS]
  repeat' (first|refine qj ?_|(first|refine jH Tryd.func10 (hg ..) ?_|refine jV Tryd.func11 (h6 ..) ?_)|((first|refine qe ?_ ?_|refine qf ?_ ?_|refine xsC ?_ ?_);all_goals (intro hc;have hp:=hc;try simp at hp;try (exfalso;omega)))|refine qD ?_ ?_)
  all_goals try (exfalso;first|omega|contradiction|simp_all;done)
  all_goals (apply q8;rfl;first|rfl|simp;done|simp_all;done)
theorem kI (ys:List AV) (h:w8 C.tab 1000000000 [22,9] ys):yc C.P 3 ys (.v (.bool true)):=by
 obtain ⟨_,_,rfl,h0,_,_,rfl,h1,rfl⟩:=h
 obtain ⟨a,rfl,ha⟩:=Xo h0
 obtain ⟨b,rfl,hb⟩:=X9 h1
 exact JW a b ha hb
end Go.Proofs.YtnhpclmbhbblbaaDoor
