import Derived.Test.YtnhpclmbhbblbaaGreatDoorMz19
set_option linter.unusedSimpArgs false
set_option linter.unnecessarySimpa false
set_option linter.unusedVariables false
set_option maxHeartbeats 1000000
namespace Go.Proofs.YtnhpclmbhbblbaaGreatDoor
open Go.Ab Go.RowKit
set_option maxRecDepth 10000
attribute [local irreducible] Awp jW jh jn Red qD Go.Ab.Fin qI Rz x4 ji jf ResOk jQ jq yl jg
set_option maxHeartbeats 16000000 in
theorem KF (B M T:List Ent) (s:MS) (iS:MInv s.out) (lS:s.out.length ≤ 360) (hcl0:s.cps.length ≤ 180) (R:Option MS) (hms2:v8 M T ((s.out.map Ent.path).flatMap q0) s = R) :
  Awp C5 125 (tl 6 QH) (qaE C5 #[ResultVar.tmp 2] 5 (.v (.bool R.isSome)) (H8o B M T R)) ⟨[(0,.op 0 0 0)],[(0,.own false 5 [yN 5 s.cps.length]),(1,.mp (qd B)),(2,.mp (qd M)),(3,.mp (qd T)),(4,.mp (qd s.out)),(5,.own false 2 (s.cps.map Cpy.row))],6⟩:=by
 conv=>arg 3;whnf
 have pS : ∀ x,x ∈ s.out.map Ent.path → qn x = 0:=fun x hx=>by
  obtain ⟨e,he,rfl⟩:=List.mem_map.1 hx
  exact (jM (iS.ent e he)).1
 have ap3:=Je (qd s.out) (s.out.map Ent.path) (Y7 iS.rise) (by rw [xK]) (by rw [List.length_map];omega) (fun x hx=>Nat.le_trans (q9 (pS x hx)) (by decide))
 have lS2:(s.out.map Ent.path).length ≤ 360:=by rw [List.length_map];exact lS
 generalize s.out.map Ent.path = K3 at *
 repeat' (first|refine qu ?_|(first|fail)|((first|refine qk ?_ ?_|refine qj ?_ ?_|refine xsC ?_ ?_);all_goals (intro hc;have hp:=hc;try simp at hp;try (exfalso;omega)))|refine jc ?_ ?_)
 all_goals try (exfalso;omega)
 apply jm Tryz.func25 rfl rfl
 intro hIsFn
 refine yr [4] [6] [(4,.mp (qd s.out)),(6,.own false 1 (K3.map jy))] 7 (.os 6 0 K3.length) hIsFn (ap3) (by ((repeat' (first|exact jp|apply ja|exact jo rfl|exact jU|(apply qw;apply qU;exact .inr (of_decide_eq_true rfl))|(apply qw;apply qt;exact .inr (of_decide_eq_true rfl))|(apply qw;apply qO;exact .inr (of_decide_eq_true rfl))|apply jz|apply jA)))<;>fail) (by ((repeat' (first|exact qW|exact qV|refine qL _ ?_ ?_|refine qK ?_ ?_|exact qF|exact qe (qc _)|exact qe (qR _)|exact qe (qv _)|exact qH (fun _=>rfl)|refine qM ?_|exact qm|apply qf|exact ql rfl|(apply qt;exact .inr (of_decide_eq_true rfl))|(apply qO;exact .inr (of_decide_eq_true rfl))|(apply qU;exact .inr (of_decide_eq_true rfl))|fail)))<;>fail) (by ((repeat' (first|exact qW|exact qV|refine qL _ ?_ ?_|refine qK ?_ ?_|exact qF|exact qe (qc _)|exact qe (qR _)|exact qe (qv _)|exact qH (fun _=>rfl)|refine qM ?_|exact qm|apply qf|exact ql rfl|(apply qt;exact .inr (of_decide_eq_true rfl))|(apply qO;exact .inr (of_decide_eq_true rfl))|(apply qU;exact .inr (of_decide_eq_true rfl))|fail)))<;>fail) ?_
 repeat' (first|refine qu ?_|(first|fail)|((first|refine qk ?_ ?_|refine qj ?_ ?_|refine xsC ?_ ?_);all_goals (intro hc;have hp:=hc;try simp at hp;try (exfalso;omega)))|refine jc ?_ ?_)
 all_goals try (exfalso;omega)
 clear ap3
 (refine Awp.red (qN (τ:=⟨[(0,.op 0 0 0),(88,.os 6 0 K3.length),(89,.v (.int .i64 K3.length)),(90,.v (.int .i64 ((0:Nat):Int)))],[(0,.own false 5 [yN 5 s.cps.length]),(1,.mp (qd B)),(2,.mp (qd M)),(3,.mp (qd T)),(4,.mp (qd s.out)),(5,.own false 2 (s.cps.map Cpy.row)),(6,.own false 1 (K3.map jy))],7⟩) [(5,5),(6,6)] rfl ?gts2 ?ghs2) ?_;(case gts2=>(repeat (first|exact qp|refine qE ?_|refine yq ?_|refine j1 ?_|refine xg ?_|refine j3 ?_ ?_|refine ju ?_ ?_));all_goals (first|rfl|(rw [List.length_map];done)|trace_state));(case ghs2=>(repeat' (first|exact qh|refine vl ?_|refine yo ?_ ?_ ?_|refine x5 ?_));all_goals (first|with_reducible exact qc _|with_reducible exact List.Perm.refl _|rfl|trace_state)))
 have hri0:=iS.rise
 refine jr (fun n σ => ∃ (i:Nat) (s:MS),i ≤ K3.length ∧ n = K3.length - i ∧ (v8 M T ((K3.drop i).flatMap q0) s = R ∧ qS jj s.out = true ∧ s.cps.length ≤ 180 + 80 * i) ∧ σ = ⟨[(0,.op 0 0 0),(88,.os 6 0 K3.length),(89,.v (.int .i64 K3.length)),(90,.v (.int .i64 (i:Int)))],[(0,.own false 5 [yN 5 s.cps.length]),(1,.mp (qd B)),(2,.mp (qd M)),(3,.mp (qd T)),(4,.mp (qd s.out)),(5,.own false 2 (s.cps.map Cpy.row)),(6,.own false 1 (K3.map jy))],7⟩) K3.length ⟨0,s,by omega,rfl,⟨hms2,hri0,by omega⟩,rfl⟩ ?_
 clear hri0 hcl0 hms2 iS lS s
 rintro n σ ⟨i,s,hi,rfl,⟨hpa,hri,hcl⟩,rfl⟩
 by_cases hlt:i < K3.length
 ·have hrow:(K3.map jy)[i]? = some (jy K3[i]):=by rw [List.getElem?_map,List.getElem?_eq_getElem hlt];rfl
  have hpe:=pS K3[i] (List.getElem_mem hlt)
  have apr:=Ke K3[i] hpe
  have lQ:=VL hpe
  have rQ : ∀ a,a ∈ q0 K3[i] → qn a = 0:=fun a ha=>wG hpe ha
  rw [List.drop_eq_getElem_cons hlt,List.flatMap_cons] at hpa
  generalize q0 K3[i] = Q at *
  repeat' (first|refine qu ?_|(first|(refine xC ?_))|((first|refine qk ?_ ?_|refine qj ?_ ?_|refine xsC ?_ ?_);all_goals (intro hc;have hp:=hc;try simp at hp;try (exfalso;omega)))|refine jc ?_ ?_)
  all_goals try (exfalso;first|omega|contradiction)
  apply jm Tryz.func60 rfl rfl
  intro hIsFn2
  refine yr [] [7] [(7,.own false 1 (Q.map jy))] 8 (.os 7 0 Q.length) hIsFn2 (apr) (by ((repeat' (first|exact jp|apply ja|exact jo rfl|exact jU|(apply qw;apply qU;exact .inr (of_decide_eq_true rfl))|(apply qw;apply qt;exact .inr (of_decide_eq_true rfl))|(apply qw;apply qO;exact .inr (of_decide_eq_true rfl))|apply jz|apply jA)))<;>fail) (by ((repeat' (first|exact qW|exact qV|refine qL _ ?_ ?_|refine qK ?_ ?_|exact qF|exact qe (qc _)|exact qe (qR _)|exact qe (qv _)|exact qH (fun _=>rfl)|refine qM ?_|exact qm|apply qf|exact ql rfl|(apply qt;exact .inr (of_decide_eq_true rfl))|(apply qO;exact .inr (of_decide_eq_true rfl))|(apply qU;exact .inr (of_decide_eq_true rfl))|fail)))<;>fail) (by ((repeat' (first|exact qW|exact qV|refine qL _ ?_ ?_|refine qK ?_ ?_|exact qF|exact qe (qc _)|exact qe (qR _)|exact qe (qv _)|exact qH (fun _=>rfl)|refine qM ?_|exact qm|apply qf|exact ql rfl|(apply qt;exact .inr (of_decide_eq_true rfl))|(apply qO;exact .inr (of_decide_eq_true rfl))|(apply qU;exact .inr (of_decide_eq_true rfl))|fail)))<;>fail) ?_
  repeat' (first|refine qu ?_|(first|fail)|((first|refine qk ?_ ?_|refine qj ?_ ?_|refine xsC ?_ ?_);all_goals (intro hc;have hp:=hc;try simp at hp;try (exfalso;omega)))|refine jc ?_ ?_)
  all_goals try (exfalso;first|omega|contradiction)
  clear apr hpe
  generalize hRest:(K3.drop (i + 1)).flatMap q0 = rest at *
  (refine Awp.red (qN (τ:=⟨[(0,.op 0 0 0),(88,.os 6 0 K3.length),(89,.v (.int .i64 K3.length)),(90,.v (.int .i64 (i:Int))),(95,.os 7 0 Q.length),(96,.v (.int .i64 Q.length)),(97,.v (.int .i64 ((0:Nat):Int)))],[(0,.own false 5 [yN 5 s.cps.length]),(1,.mp (qd B)),(2,.mp (qd M)),(3,.mp (qd T)),(4,.mp (qd s.out)),(5,.own false 2 (s.cps.map Cpy.row)),(6,.own false 1 (K3.map jy)),(7,.own false 1 (Q.map jy))],8⟩) [(5,5),(6,6),(7,7)] rfl ?gts2 ?ghs2) ?_;(case gts2=>(repeat (first|exact qp|refine qE ?_|refine yq ?_|refine j1 ?_|refine xg ?_|refine j3 ?_ ?_|refine ju ?_ ?_));all_goals (first|rfl|(rw [List.length_map];done)|trace_state));(case ghs2=>(repeat' (first|exact qh|refine vl ?_|refine yo ?_ ?_ ?_|refine x5 ?_));all_goals (first|with_reducible exact qc _|with_reducible exact List.Perm.refl _|rfl|trace_state)))
  refine jr (fun n σ => ∃ (j:Nat) (s:MS),j ≤ Q.length ∧ n = Q.length - j ∧ (v8 M T (Q.drop j ++ rest) s = R ∧ qS jj s.out = true ∧ s.cps.length ≤ 180 + 80 * i + j) ∧ σ = ⟨[(0,.op 0 0 0),(88,.os 6 0 K3.length),(89,.v (.int .i64 K3.length)),(90,.v (.int .i64 (i:Int))),(95,.os 7 0 Q.length),(96,.v (.int .i64 Q.length)),(97,.v (.int .i64 (j:Int)))],[(0,.own false 5 [yN 5 s.cps.length]),(1,.mp (qd B)),(2,.mp (qd M)),(3,.mp (qd T)),(4,.mp (qd s.out)),(5,.own false 2 (s.cps.map Cpy.row)),(6,.own false 1 (K3.map jy)),(7,.own false 1 (Q.map jy))],8⟩) Q.length ⟨0,s,by omega,rfl,⟨hpa,hri,by omega⟩,rfl⟩ ?_
  clear hpa hri hcl s
  rintro n σ ⟨j,s,hj,rfl,⟨hpa,hri,hcl⟩,rfl⟩
  by_cases hjl:j < Q.length
  ·have hrow2:(Q.map jy)[j]? = some (jy Q[j]):=by rw [List.getElem?_map,List.getElem?_eq_getElem hjl];rfl
   have hqe:=rQ Q[j] (List.getElem_mem hjl)
   rw [List.drop_eq_getElem_cons hjl,List.cons_append,Zz] at hpa
   generalize Q[j] = q at *
   have hget:=y3 s.out q
   have hpt:=Yo (e:=⟨q,true,[],1⟩) hri
   have hro2:qS jj (js s.out (⟨q,true,[],1⟩ : Ent)) = true:=yS hri
   have ano:=Ya B M T (js s.out (⟨q,true,[],1⟩ : Ent)) s.cps q (stT s.out q).text hqe
   have ayes:=fun q'=>Q5 B M T (js s.out (⟨q,true,[],1⟩ : Ent)) s.cps q (stT s.out q).text q' hqe
   have hgood:=ka s.out q
   have p1 := @WR M T s q
   have p0 := @KN M T s q
   have p2 := @WS M T s q
   have pf := @KS s.out q
   generalize hv:stT s.out q = v at *
   obtain ⟨vk,vt⟩:=v
   dsimp only at p1 p0 p2 ano ayes pf
   by_cases hk2:vk = 2
   ·subst hk2
    have d2:decide ((2:Int) = 2) = true:=rfl
    rw [p2 rfl] at hpa
    repeat' (first|refine qu ?_|(first|(refine xC ?_)|(apply qb;apply q5;(case hm=>rfl);(case hn=>rfl);(case hk=>rfl);(case hT=>rfl);(case he=>rfl);(case hK=>rfl);(case hks=>rfl);(case hz=>exact qz);(case hzv=>exact q6);(case hx=>exact hget);(case hN=>exact nle rfl))|(apply jD;apply j0;rfl;rfl;rfl;rfl;rfl;rfl;rfl;rfl))|((first|refine qk ?_ ?_|refine qj ?_ ?_|refine xsC ?_ ?_);all_goals (intro hc;have hp:=hc;try simp at hp;try (exfalso;omega)))|refine jc ?_ ?_)
    all_goals try (exfalso;first|omega|contradiction)
    apply jm Tryz.func59 rfl rfl
    intro hIsFn3
    cases hasd:xX M T (js s.out (⟨q,true,[],1⟩ : Ent)) q 99 1 with
    | none =>
      rw [QV hasd] at hpa
      have hR:R = none:=hpa.symm
      rw [hR]
      refine yr [0,1,2,3,4,5] [] [(0,.own false 5 [yN 5 s.cps.length]),(1,.mp (qd B)),(2,.mp (qd M)),(3,.mp (qd T)),(4,.mp (qd (js s.out (⟨q,true,[],1⟩ : Ent)))),(5,.own false 2 (s.cps.map Cpy.row))] 9 (.v (.bool false)) hIsFn3 (ano hasd (by omega)) (by ((repeat' (first|exact jp|apply ja|exact jo rfl|exact jU|(apply qw;apply qU;exact .inr (of_decide_eq_true rfl))|(apply qw;apply qt;exact .inr (of_decide_eq_true rfl))|(apply qw;apply qO;exact .inr (of_decide_eq_true rfl))|apply jz|apply jA)))<;>fail) (by ((repeat' (first|exact qW|exact qV|refine qL _ ?_ ?_|refine qK ?_ ?_|exact qF|exact qe (qc _)|exact qe (qR _)|exact qe (qv _)|exact qH (fun _=>rfl)|refine qM ?_|exact qm|apply qf|exact ql rfl|(apply qt;exact .inr (of_decide_eq_true rfl))|(apply qO;exact .inr (of_decide_eq_true rfl))|(apply qU;exact .inr (of_decide_eq_true rfl))|exact Yk hpt (qc _))))<;>fail) (by ((repeat' (first|exact qW|exact qV|refine qL _ ?_ ?_|refine qK ?_ ?_|exact qF|exact qe (qc _)|exact qe (qR _)|exact qe (qv _)|exact qH (fun _=>rfl)|refine qM ?_|exact qm|apply qf|exact ql rfl|(apply qt;exact .inr (of_decide_eq_true rfl))|(apply qO;exact .inr (of_decide_eq_true rfl))|(apply qU;exact .inr (of_decide_eq_true rfl))|fail)))<;>fail) ?_
      repeat' (first|refine qu ?_|(first|fail)|((first|refine qk ?_ ?_|refine qj ?_ ?_|refine xsC ?_ ?_);all_goals (intro hc;have hp:=hc;try simp at hp;try (exfalso;omega)))|refine jc ?_ ?_)
      all_goals try (exfalso;first|omega|contradiction)
      all_goals ((apply jb (rs:=[.tmp 2]) [] 5;(case hr=>(repeat (first|exact qP|(apply qQ;rfl)|(apply qJ;rfl;rfl;rfl;rfl;rfl))));(case hL=>rfl);(case hh=>(repeat' (first|exact qh|refine jv ?_|refine x5 ?_|refine yo ?_ ?_ ?_|refine yE ?_ ?_|refine jZ ?_ ?_|refine jS ?_ ?_ ?_ ?_|refine q7 ?_ ?_|exact qm|apply qf|exact ql rfl|(apply qt;(first|exact qq rfl|exact .inr (List.mem_cons_self ..)|exact .inr (List.mem_cons_of_mem _ (List.mem_cons_self ..))|exact .inr (List.mem_cons_of_mem _ (List.mem_cons_of_mem _ (List.mem_cons_self ..)))|exact .inr (List.mem_cons_of_mem _ (List.mem_cons_of_mem _ (List.mem_cons_of_mem _ (List.mem_cons_self ..))))))|refine qX ?_|refine jT ?_ rfl|with_reducible exact List.Perm.refl _));all_goals (first|rfl|trace_state));(case hi=>exact rfl);(case hz=>first|rfl|(simp [jx,AV.ren,AV.ren.renL,q4,qr,qZ];done)|(simp [jx,AV.ren,AV.ren.renL,q4,qr,qZ, *];done)|trace_state)))
    | some q' =>
      rw [QW hasd] at hpa
      have hro3:qS jj (js (js s.out (⟨q,true,[],1⟩ : Ent)) (⟨q',false,vt,1⟩ : Ent)) = true:=yS hro2
      refine yr [0,1,2,3,4,5] [9] [(0,.own false 5 [yN 9 (s.cps ++ [(⟨q,q'⟩ : Cpy)]).length]),(1,.mp (qd B)),(2,.mp (qd M)),(3,.mp (qd T)),(4,.mp (qd (js (js s.out (⟨q,true,[],1⟩ : Ent)) (⟨q',false,vt,1⟩ : Ent)))),(5,.dead),(9,.own false 2 ((s.cps ++ [(⟨q,q'⟩ : Cpy)]).map Cpy.row))] 10 (.v (.bool true)) hIsFn3 (ayes q' hasd hro2 (by omega)) (by ((repeat' (first|exact jp|apply ja|exact jo rfl|exact jU|(apply qw;apply qU;exact .inr (of_decide_eq_true rfl))|(apply qw;apply qt;exact .inr (of_decide_eq_true rfl))|(apply qw;apply qO;exact .inr (of_decide_eq_true rfl))|apply jz|apply jA)))<;>fail) (by ((repeat' (first|exact qW|exact qV|refine qL _ ?_ ?_|refine qK ?_ ?_|exact qF|exact qe (qc _)|exact qe (qR _)|exact qe (qv _)|exact qH (fun _=>rfl)|refine qM ?_|exact qm|apply qf|exact ql rfl|(apply qt;exact .inr (of_decide_eq_true rfl))|(apply qO;exact .inr (of_decide_eq_true rfl))|(apply qU;exact .inr (of_decide_eq_true rfl))|exact Yk hpt (qc _))))<;>fail) (by ((repeat' (first|exact qW|exact qV|refine qL _ ?_ ?_|refine qK ?_ ?_|exact qF|exact qe (qc _)|exact qe (qR _)|exact qe (qv _)|exact qH (fun _=>rfl)|refine qM ?_|exact qm|apply qf|exact ql rfl|(apply qt;exact .inr (of_decide_eq_true rfl))|(apply qO;exact .inr (of_decide_eq_true rfl))|(apply qU;exact .inr (of_decide_eq_true rfl))|fail)))<;>fail) ?_
      repeat' (first|refine qu ?_|(first|fail)|((first|refine qk ?_ ?_|refine qj ?_ ?_|refine xsC ?_ ?_);all_goals (intro hc;have hp:=hc;try simp at hp;try (exfalso;omega)))|refine jc ?_ ?_)
      all_goals try (exfalso;first|omega|contradiction)
      refine ⟨Q.length - (j + 1),⟨[(0,.op 0 0 0),(88,.os 6 0 K3.length),(89,.v (.int .i64 K3.length)),(90,.v (.int .i64 (i:Int))),(95,.os 7 0 Q.length),(96,.v (.int .i64 Q.length)),(97,.v (.int .i64 ((j + 1:Nat):Int)))],[(0,.own false 5 [yN 5 (s.cps ++ [(⟨q,q'⟩ : Cpy)]).length]),(1,.mp (qd B)),(2,.mp (qd M)),(3,.mp (qd T)),(4,.mp (qd (js (js s.out (⟨q,true,[],1⟩ : Ent)) (⟨q',false,vt,1⟩ : Ent)))),(5,.own false 2 ((s.cps ++ [(⟨q,q'⟩ : Cpy)]).map Cpy.row)),(6,.own false 1 (K3.map jy)),(7,.own false 1 (Q.map jy))],8⟩,by omega,?_,j + 1,⟨(js (js s.out (⟨q,true,[],1⟩ : Ent)) (⟨q',false,vt,1⟩ : Ent)),(s.cps ++ [(⟨q,q'⟩ : Cpy)])⟩,by omega,rfl,⟨hpa,hro3,by simp;omega⟩,rfl⟩;(skip);refine qN [(9,5),(6,6),(7,7)] rfl ?gts ?ghs;(case gts=>(repeat (first|exact qp|refine qE ?_|refine yq ?_|refine j1 ?_|refine xg ?_|refine j3 ?_ ?_|refine ju ?_ ?_));all_goals (first|rfl|trace_state));(case ghs=>(repeat' (first|exact qh|refine vl ?_|refine yo ?_ ?_ ?_|refine x5 ?_));all_goals (first|with_reducible exact qc _|with_reducible exact List.Perm.refl _|fail|rfl|trace_state))
   ·have d2:decide (vk = 2) = false:=decide_eq_false hk2
    repeat' (first|refine qu ?_|(first|(refine xC ?_)|(apply qb;apply q5;(case hm=>rfl);(case hn=>rfl);(case hk=>rfl);(case hT=>rfl);(case he=>rfl);(case hK=>rfl);(case hks=>rfl);(case hz=>exact qz);(case hzv=>exact q6);(case hx=>exact hget);(case hN=>exact nle rfl))|(apply jD;apply j0;rfl;rfl;rfl;rfl;rfl;rfl;rfl;rfl))|((first|refine qk ?_ ?_|refine qj ?_ ?_|refine xsC ?_ ?_);all_goals (intro hc;have hp:=hc;try simp at hp;try (exfalso;omega)))|refine jc ?_ ?_)
    all_goals try (exfalso;first|omega|contradiction)
    by_cases hk1:vk = 1
    ·rw [p1 hk1] at hpa
     have hpf:=List.Perm.of_eq (pf hk1)
     refine ⟨Q.length - (j + 1),⟨[(0,.op 0 0 0),(88,.os 6 0 K3.length),(89,.v (.int .i64 K3.length)),(90,.v (.int .i64 (i:Int))),(95,.os 7 0 Q.length),(96,.v (.int .i64 Q.length)),(97,.v (.int .i64 ((j + 1:Nat):Int)))],[(0,.own false 5 [yN 5 s.cps.length]),(1,.mp (qd B)),(2,.mp (qd M)),(3,.mp (qd T)),(4,.mp (qd s.out)),(5,.own false 2 (s.cps.map Cpy.row)),(6,.own false 1 (K3.map jy)),(7,.own false 1 (Q.map jy))],8⟩,by omega,?_,j + 1,s,by omega,rfl,⟨hpa,hri,by omega⟩,rfl⟩;(skip);refine qN [(5,5),(6,6),(7,7)] rfl ?gts ?ghs;(case gts=>(repeat (first|exact qp|refine qE ?_|refine yq ?_|refine j1 ?_|refine xg ?_|refine j3 ?_ ?_|refine ju ?_ ?_));all_goals (first|rfl|trace_state));(case ghs=>(repeat' (first|exact qh|refine vl ?_|refine yo ?_ ?_ ?_|refine x5 ?_));all_goals (first|with_reducible exact qc _|with_reducible exact List.Perm.refl _|exact hpf|exact hpf.symm|rfl|trace_state))
    ·rw [p0 hk1 hk2] at hpa
     refine ⟨Q.length - (j + 1),⟨[(0,.op 0 0 0),(88,.os 6 0 K3.length),(89,.v (.int .i64 K3.length)),(90,.v (.int .i64 (i:Int))),(95,.os 7 0 Q.length),(96,.v (.int .i64 Q.length)),(97,.v (.int .i64 ((j + 1:Nat):Int)))],[(0,.own false 5 [yN 5 s.cps.length]),(1,.mp (qd B)),(2,.mp (qd M)),(3,.mp (qd T)),(4,.mp (qd (js s.out (⟨q,true,[],1⟩ : Ent)))),(5,.own false 2 (s.cps.map Cpy.row)),(6,.own false 1 (K3.map jy)),(7,.own false 1 (Q.map jy))],8⟩,by omega,?_,j + 1,⟨(js s.out (⟨q,true,[],1⟩ : Ent)),s.cps⟩,by omega,rfl,⟨hpa,hro2,by simp only;omega⟩,rfl⟩;(skip);refine qN [(5,5),(6,6),(7,7)] rfl ?gts ?ghs;(case gts=>(repeat (first|exact qp|refine qE ?_|refine yq ?_|refine j1 ?_|refine xg ?_|refine j3 ?_ ?_|refine ju ?_ ?_));all_goals (first|rfl|trace_state));(case ghs=>(repeat' (first|exact qh|refine vl ?_|refine yo ?_ ?_ ?_|refine x5 ?_));all_goals (first|with_reducible exact qc _|with_reducible exact List.Perm.refl _|exact hpt|exact hpt.symm|rfl|trace_state))
  ·obtain rfl:j = Q.length:=by omega
   rw [List.drop_length,List.nil_append, ← hRest] at hpa
   repeat' (first|refine qu ?_|(first|fail)|((first|refine qk ?_ ?_|refine qj ?_ ?_|refine xsC ?_ ?_);all_goals (intro hc;have hp:=hc;try simp at hp;try (exfalso;omega)))|refine jc ?_ ?_)
   all_goals try (exfalso;first|omega|contradiction)
   refine ⟨K3.length - (i + 1),⟨[(0,.op 0 0 0),(88,.os 6 0 K3.length),(89,.v (.int .i64 K3.length)),(90,.v (.int .i64 ((i + 1:Nat):Int)))],[(0,.own false 5 [yN 5 s.cps.length]),(1,.mp (qd B)),(2,.mp (qd M)),(3,.mp (qd T)),(4,.mp (qd s.out)),(5,.own false 2 (s.cps.map Cpy.row)),(6,.own false 1 (K3.map jy))],7⟩,by omega,?_,i + 1,s,by omega,rfl,⟨hpa,hri,by omega⟩,rfl⟩;(skip);refine qN [(5,5),(6,6)] rfl ?gts ?ghs;(case gts=>(repeat (first|exact qp|refine qE ?_|refine yq ?_|refine j1 ?_|refine xg ?_|refine j3 ?_ ?_|refine ju ?_ ?_));all_goals (first|rfl|trace_state));(case ghs=>(repeat' (first|exact qh|refine vl ?_|refine yo ?_ ?_ ?_|refine x5 ?_));all_goals (first|with_reducible exact qc _|with_reducible exact List.Perm.refl _|rfl|trace_state))
 ·obtain rfl:i = K3.length:=by omega
  rw [List.drop_length] at hpa
  have hR2:R = some s:=hpa.symm
  rw [hR2]
  repeat' (first|refine qu ?_|(first|fail)|((first|refine qk ?_ ?_|refine qj ?_ ?_|refine xsC ?_ ?_);all_goals (intro hc;have hp:=hc;try simp at hp;try (exfalso;omega)))|refine jc ?_ ?_)
  all_goals try (exfalso;first|omega|contradiction)
  (apply jb (rs:=[.tmp 2]) [(5,5)] 6;(case hr=>(repeat (first|exact qP|(apply qQ;rfl)|(apply qJ;rfl;rfl;rfl;rfl;rfl))));(case hL=>rfl);(case hh=>(repeat' (first|exact qh|refine vl ?_|refine yo ?_ ?_ ?_|refine x5 ?_));all_goals (first|with_reducible exact qc _|with_reducible exact List.Perm.refl _|rfl));(case hi=>exact rfl);(case hz=>rfl))
end Go.Proofs.YtnhpclmbhbblbaaGreatDoor
set_option linter.unusedSimpArgs false
set_option linter.unnecessarySimpa false
set_option linter.unusedVariables false
set_option maxHeartbeats 1000000
namespace Go.Proofs.YtnhpclmbhbblbaaGreatDoor
open Go.Ab Go.RowKit
set_option maxRecDepth 10000
attribute [local irreducible] Awp jW jh jn Red qD Go.Ab.Fin qI Rz x4 ji jf ResOk jQ jq yl jg
set_option maxHeartbeats 16000000 in
theorem KE (B M T:List Ent) (G:List (qx × qx)) (O0:List Ent) (R:Option MS) (iO:MInv O0) (lO:O0.length ≤ 180) (rG:zO (G.map (·.1))) (lG:G.length ≤ 180) (gG : ∀ g,g ∈ G → qn g.1 = 0 ∧ g.2.length ≤ 300) (hms:(match Yw M T G ⟨O0,[]⟩ with|none=>none|some s=>v8 M T ((s.out.map Ent.path).flatMap q0) s) = R) :
  Awp C5 125 (tl 5 QH) (qaE C5 #[ResultVar.tmp 2] 5 (.v (.bool R.isSome)) (H8o B M T R)) ⟨[(0,.op 0 0 0),(6,.mp 6)],[(0,.own false 5 [yN 5 0]),(1,.mp (qd B)),(2,.mp (qd M)),(3,.mp (qd T)),(4,.mp (qd O0)),(5,.own false 2 []),(6,.mp (y0 G))],7⟩:=by
 conv=>arg 3;whnf
 have ap2:=Je (y0 G) (G.map (·.1)) rG (by rw [wD]) (by rw [List.length_map];omega) (fun x hx=>by
  obtain ⟨g,hg,rfl⟩:=List.mem_map.1 hx
  exact Nat.le_trans (q9 (gG g hg).1) (by decide))
 generalize hK:G.map (·.1) = K at *
 have lK:K.length = G.length:=by rw [← hK,List.length_map]
 repeat' (first|refine qu ?_|(first|fail)|((first|refine qk ?_ ?_|refine qj ?_ ?_|refine xsC ?_ ?_);all_goals (intro hc;have hp:=hc;try simp at hp;try (exfalso;omega)))|refine jc ?_ ?_)
 all_goals try (exfalso;omega)
 apply jm Tryz.func25 rfl rfl
 intro hIsFn
 refine yr [6] [7] [(6,.mp (y0 G)),(7,.own false 1 (K.map jy))] 8 (.os 7 0 K.length) hIsFn (ap2) (by ((repeat' (first|exact jp|apply ja|exact jo rfl|exact jU|(apply qw;apply qU;exact .inr (of_decide_eq_true rfl))|(apply qw;apply qt;exact .inr (of_decide_eq_true rfl))|(apply qw;apply qO;exact .inr (of_decide_eq_true rfl))|apply jz|apply jA)))<;>fail) (by ((repeat' (first|exact qW|exact qV|refine qL _ ?_ ?_|refine qK ?_ ?_|exact qF|exact qe (qc _)|exact qe (qR _)|exact qe (qv _)|exact qH (fun _=>rfl)|refine qM ?_|exact qm|apply qf|exact ql rfl|(apply qt;exact .inr (of_decide_eq_true rfl))|(apply qO;exact .inr (of_decide_eq_true rfl))|(apply qU;exact .inr (of_decide_eq_true rfl))|fail)))<;>fail) (by ((repeat' (first|exact qW|exact qV|refine qL _ ?_ ?_|refine qK ?_ ?_|exact qF|exact qe (qc _)|exact qe (qR _)|exact qe (qv _)|exact qH (fun _=>rfl)|refine qM ?_|exact qm|apply qf|exact ql rfl|(apply qt;exact .inr (of_decide_eq_true rfl))|(apply qO;exact .inr (of_decide_eq_true rfl))|(apply qU;exact .inr (of_decide_eq_true rfl))|fail)))<;>fail) ?_
 repeat' (first|refine qu ?_|(first|fail)|((first|refine qk ?_ ?_|refine qj ?_ ?_|refine xsC ?_ ?_);all_goals (intro hc;have hp:=hc;try simp at hp;try (exfalso;omega)))|refine jc ?_ ?_)
 all_goals try (exfalso;omega)
 clear ap2
 (refine Awp.red (qN (τ:=⟨[(0,.op 0 0 0),(6,.mp 6),(70,.os 7 0 K.length),(71,.v (.int .i64 K.length)),(72,.v (.int .i64 ((0:Nat):Int)))],[(0,.own false 5 [yN 5 0]),(1,.mp (qd B)),(2,.mp (qd M)),(3,.mp (qd T)),(4,.mp (qd O0)),(5,.own false 2 []),(6,.mp (y0 G)),(7,.own false 1 (K.map jy))],8⟩) [(5,5),(6,6),(7,7)] rfl ?gts2 ?ghs2) ?_;(case gts2=>(repeat (first|exact qp|refine qE ?_|refine yq ?_|refine j1 ?_|refine xg ?_|refine j3 ?_ ?_|refine ju ?_ ?_));all_goals (first|rfl|(rw [List.length_map];done)|trace_state));(case ghs2=>(repeat' (first|exact qh|refine vl ?_|refine yo ?_ ?_ ?_|refine x5 ?_));all_goals (first|with_reducible exact qc _|with_reducible exact qv _|with_reducible exact List.Perm.refl _|rfl|trace_state)))
 refine jr (fun n σ => ∃ (i:Nat) (s:MS),i ≤ K.length ∧ n = K.length - i ∧ (Yw M T (G.drop i) s = Yw M T G ⟨O0,[]⟩ ∧ qS jj s.out = true ∧ s.cps.length ≤ i) ∧ σ = ⟨[(0,.op 0 0 0),(6,.mp 6),(70,.os 7 0 K.length),(71,.v (.int .i64 K.length)),(72,.v (.int .i64 (i:Int)))],[(0,.own false 5 [yN 5 s.cps.length]),(1,.mp (qd B)),(2,.mp (qd M)),(3,.mp (qd T)),(4,.mp (qd s.out)),(5,.own false 2 (s.cps.map Cpy.row)),(6,.mp (y0 G)),(7,.own false 1 (K.map jy))],8⟩) K.length ⟨0,⟨O0,[]⟩,by omega,rfl,⟨rfl,iO.rise,Nat.le_refl _⟩,rfl⟩ ?_
 rintro n σ ⟨i,s,hi,rfl,⟨hgo,hri,hcl⟩,rfl⟩
 by_cases hlt:i < K.length
 ·have hG:i < G.length:=by omega
  have hrow:(K.map jy)[i]? = some (jy G[i].1):=by rw [List.getElem?_map, ← hK,List.getElem?_map,List.getElem?_eq_getElem hG];rfl
  have hget:=Kw (by rw [hK];exact xj rG) (List.getElem_mem hG)
  have hdr:=WA (m:=M) (t:=T) hG s
  have hpe:=(gG G[i] (List.getElem_mem hG)).1
  have hEx:G[i] = (G[i].1,G[i].2):=rfl
  generalize G[i].1 = p at *
  generalize G[i].2 = x at *
  have ano:=Ya B M T s.out s.cps p x hpe
  have ayes:=fun q=>Q5 B M T s.out s.cps p x q hpe
  repeat' (first|refine qu ?_|(first|(refine xC ?_)|(apply qb;apply q5;(case hm=>rfl);(case hn=>rfl);(case hk=>rfl);(case hT=>rfl);(case he=>rfl);(case hK=>rfl);(case hks=>rfl);(case hz=>exact qz);(case hzv=>exact q6);(case hx=>exact hget);(case hN=>exact nle rfl)))|((first|refine qk ?_ ?_|refine qj ?_ ?_|refine xsC ?_ ?_);all_goals (intro hc;have hp:=hc;try simp at hp;try (exfalso;omega)))|refine jc ?_ ?_)
  all_goals try (exfalso;first|omega|contradiction)
  apply jm Tryz.func59 rfl rfl
  intro hIsFn2
  cases hasd:xX M T s.out p 99 1 with
  | none =>
    refine yr [0,1,2,3,4,5] [] [(0,.own false 5 [yN 5 s.cps.length]),(1,.mp (qd B)),(2,.mp (qd M)),(3,.mp (qd T)),(4,.mp (qd s.out)),(5,.own false 2 (s.cps.map Cpy.row))] 8 (.v (.bool false)) hIsFn2 (ano hasd (by omega)) (by ((repeat' (first|exact jp|apply ja|exact jo rfl|exact jU|(apply qw;apply qU;exact .inr (of_decide_eq_true rfl))|(apply qw;apply qt;exact .inr (of_decide_eq_true rfl))|(apply qw;apply qO;exact .inr (of_decide_eq_true rfl))|apply jz|apply jA)))<;>fail) (by ((repeat' (first|exact qW|exact qV|refine qL _ ?_ ?_|refine qK ?_ ?_|exact qF|exact qe (qc _)|exact qe (qR _)|exact qe (qv _)|exact qH (fun _=>rfl)|refine qM ?_|exact qm|apply qf|exact ql rfl|(apply qt;exact .inr (of_decide_eq_true rfl))|(apply qO;exact .inr (of_decide_eq_true rfl))|(apply qU;exact .inr (of_decide_eq_true rfl))|fail)))<;>fail) (by ((repeat' (first|exact qW|exact qV|refine qL _ ?_ ?_|refine qK ?_ ?_|exact qF|exact qe (qc _)|exact qe (qR _)|exact qe (qv _)|exact qH (fun _=>rfl)|refine qM ?_|exact qm|apply qf|exact ql rfl|(apply qt;exact .inr (of_decide_eq_true rfl))|(apply qO;exact .inr (of_decide_eq_true rfl))|(apply qU;exact .inr (of_decide_eq_true rfl))|fail)))<;>fail) ?_
    have hno:R = none:=by
     rw [← hms, ← hgo,hdr,QV hasd]
    rw [hno]
    repeat' (first|refine qu ?_|(first|fail)|((first|refine qk ?_ ?_|refine qj ?_ ?_|refine xsC ?_ ?_);all_goals (intro hc;have hp:=hc;try simp at hp;try (exfalso;omega)))|refine jc ?_ ?_)
    all_goals try (exfalso;first|omega|contradiction)
    all_goals ((apply jb (rs:=[.tmp 2]) [] 5;(case hr=>(repeat (first|exact qP|(apply qQ;rfl)|(apply qJ;rfl;rfl;rfl;rfl;rfl))));(case hL=>rfl);(case hh=>(repeat' (first|exact qh|refine jv ?_|refine x5 ?_|refine yo ?_ ?_ ?_|refine yE ?_ ?_|refine jZ ?_ ?_|refine jS ?_ ?_ ?_ ?_|refine q7 ?_ ?_|exact qm|apply qf|exact ql rfl|(apply qt;(first|exact qq rfl|exact .inr (List.mem_cons_self ..)|exact .inr (List.mem_cons_of_mem _ (List.mem_cons_self ..))|exact .inr (List.mem_cons_of_mem _ (List.mem_cons_of_mem _ (List.mem_cons_self ..)))|exact .inr (List.mem_cons_of_mem _ (List.mem_cons_of_mem _ (List.mem_cons_of_mem _ (List.mem_cons_self ..))))))|refine qX ?_|refine jT ?_ rfl|with_reducible exact List.Perm.refl _));all_goals (first|rfl|trace_state));(case hi=>exact rfl);(case hz=>first|rfl|(simp [jx,AV.ren,AV.ren.renL,q4,qr,qZ];done)|(simp [jx,AV.ren,AV.ren.renL,q4,qr,qZ, *];done)|trace_state)))
  | some q =>
    rw [QW hasd] at hdr
    have hro2:qS jj (js s.out (⟨q,false,x,1⟩ : Ent)) = true:=yS hri
    refine yr [0,1,2,3,4,5] [8] [(0,.own false 5 [yN 8 (s.cps ++ [(⟨p,q⟩ : Cpy)]).length]),(1,.mp (qd B)),(2,.mp (qd M)),(3,.mp (qd T)),(4,.mp (qd (js s.out (⟨q,false,x,1⟩ : Ent)))),(5,.dead),(8,.own false 2 ((s.cps ++ [(⟨p,q⟩ : Cpy)]).map Cpy.row))] 9 (.v (.bool true)) hIsFn2 (ayes q hasd hri (by omega)) (by ((repeat' (first|exact jp|apply ja|exact jo rfl|exact jU|(apply qw;apply qU;exact .inr (of_decide_eq_true rfl))|(apply qw;apply qt;exact .inr (of_decide_eq_true rfl))|(apply qw;apply qO;exact .inr (of_decide_eq_true rfl))|apply jz|apply jA)))<;>fail) (by ((repeat' (first|exact qW|exact qV|refine qL _ ?_ ?_|refine qK ?_ ?_|exact qF|exact qe (qc _)|exact qe (qR _)|exact qe (qv _)|exact qH (fun _=>rfl)|refine qM ?_|exact qm|apply qf|exact ql rfl|(apply qt;exact .inr (of_decide_eq_true rfl))|(apply qO;exact .inr (of_decide_eq_true rfl))|(apply qU;exact .inr (of_decide_eq_true rfl))|fail)))<;>fail) (by ((repeat' (first|exact qW|exact qV|refine qL _ ?_ ?_|refine qK ?_ ?_|exact qF|exact qe (qc _)|exact qe (qR _)|exact qe (qv _)|exact qH (fun _=>rfl)|refine qM ?_|exact qm|apply qf|exact ql rfl|(apply qt;exact .inr (of_decide_eq_true rfl))|(apply qO;exact .inr (of_decide_eq_true rfl))|(apply qU;exact .inr (of_decide_eq_true rfl))|fail)))<;>fail) ?_
    repeat' (first|refine qu ?_|(first|fail)|((first|refine qk ?_ ?_|refine qj ?_ ?_|refine xsC ?_ ?_);all_goals (intro hc;have hp:=hc;try simp at hp;try (exfalso;omega)))|refine jc ?_ ?_)
    all_goals try (exfalso;first|omega|contradiction)
    refine ⟨K.length - (i + 1),⟨[(0,.op 0 0 0),(6,.mp 6),(70,.os 7 0 K.length),(71,.v (.int .i64 K.length)),(72,.v (.int .i64 ((i + 1:Nat):Int)))],[(0,.own false 5 [yN 5 (s.cps ++ [(⟨p,q⟩ : Cpy)]).length]),(1,.mp (qd B)),(2,.mp (qd M)),(3,.mp (qd T)),(4,.mp (qd (js s.out (⟨q,false,x,1⟩ : Ent)))),(5,.own false 2 ((s.cps ++ [(⟨p,q⟩ : Cpy)]).map Cpy.row)),(6,.mp (y0 G)),(7,.own false 1 (K.map jy))],8⟩,by omega,?_,i + 1,⟨js s.out (⟨q,false,x,1⟩ : Ent),s.cps ++ [⟨p,q⟩]⟩,by omega,rfl,⟨hdr.symm.trans hgo,hro2,by simp;omega⟩,rfl⟩;(skip);refine qN [(8,5),(6,6),(7,7)] rfl ?gts ?ghs;(case gts=>(repeat (first|exact qp|refine qE ?_|refine yq ?_|refine j1 ?_|refine xg ?_|refine j3 ?_ ?_|refine ju ?_ ?_));all_goals (first|rfl|trace_state));(case ghs=>(repeat' (first|exact qh|refine vl ?_|refine yo ?_ ?_ ?_|refine x5 ?_));all_goals (first|with_reducible exact qc _|with_reducible exact qv _|with_reducible exact List.Perm.refl _|rfl|trace_state))
 ·obtain rfl:i = K.length:=by omega
  rw [List.drop_eq_nil_of_le (by omega)] at hgo
  have hgo2:Yw M T G ⟨O0,[]⟩ = some s:=hgo.symm
  have iS:MInv s.out:=Jm (s:=⟨O0,[]⟩) iO gG hgo2
  have lS:s.out.length ≤ 360:=by have:=Xu hgo2;simp at this;omega
  rw [hgo2] at hms
  have hcl0:s.cps.length ≤ 180:=by omega
  repeat' (first|(refine Awp.red (qN (τ:=⟨[(0,.op 0 0 0)],[(0,.own false 5 [yN 5 s.cps.length]),(1,.mp (qd B)),(2,.mp (qd M)),(3,.mp (qd T)),(4,.mp (qd s.out)),(5,.own false 2 (s.cps.map Cpy.row))],6⟩) [(5,5)] rfl ?_ ?_) ?_;rotate_left 2;exact KF B M T s iS lS hcl0 R hms;(focus ((repeat (first|exact qp|refine qE ?_|refine yq ?_|refine j1 ?_|refine xg ?_|refine j3 ?_ ?_|refine ju ?_ ?_));all_goals trace_state));(focus ((repeat' (first|exact qh|refine vl ?_|refine yo ?_ ?_ ?_|refine x5 ?_));all_goals (first|with_reducible exact qc _|with_reducible exact qv _|with_reducible exact qR _|with_reducible exact List.Perm.refl _|rfl|trace_state))))|refine qaf ?_|((first|refine qk ?_ ?_|refine qj ?_ ?_|refine xsC ?_ ?_);all_goals (intro hc;have hp:=hc;try simp at hp;try (exfalso;omega)))|refine jc ?_ ?_)
end Go.Proofs.YtnhpclmbhbblbaaGreatDoor
set_option linter.unusedSimpArgs false
set_option linter.unnecessarySimpa false
set_option linter.unusedVariables false
set_option maxHeartbeats 1000000
namespace Go.Proofs.YtnhpclmbhbblbaaGreatDoor
open Go.Ab Go.RowKit
set_option maxRecDepth 10000
attribute [local irreducible] Awp jW jh jn Red qD Go.Ab.Fin qI Rz x4 ji jf ResOk jQ jq yl jg
set_option maxHeartbeats 16000000 in
theorem KD (B M T:List Ent) (hB:Right B) (hM:Right M) (hT:Right T) (P:List qx) (hP:y4 B M T = P) (lP:P.length ≤ 180) :
  Awp C5 125 (tl 3 QH) (qaE C5 #[ResultVar.tmp 2] 5 (.v (.bool (xx B M T).isSome)) (H8o B M T (xx B M T))) ⟨[(0,.op 0 0 0),(3,.mp 6)],[(0,.own false 5 [yN 5 0]),(1,.mp (qd B)),(2,.mp (qd M)),(3,.mp (qd T)),(4,.mp (qd [])),(5,.own false 2 []),(6,.mp (jk P))],7⟩:=by
 conv=>arg 3;whnf
 have rP:zO P:=hP ▸ Wc B M T
 have pP : ∀ x,x ∈ P → qn x = 0:=fun x hx=>zS hB hM hT (hP ▸ hx)
 have ap1:=Je (jk P) P rP (by rw [Xy]) (by omega) (fun x hx=>Nat.le_trans (q9 (pP x hx)) (by decide))
 repeat' (first|refine qu ?_|(first|(apply yJ;apply vY;exact nle rfl))|((first|refine qk ?_ ?_|refine qj ?_ ?_|refine xsC ?_ ?_);all_goals (intro hc;have hp:=hc;try simp at hp;try (exfalso;omega)))|refine jc ?_ ?_)
 all_goals try (exfalso;omega)
 apply jm Tryz.func25 rfl rfl
 intro hIsFn
 refine yr [6] [8] [(6,.mp (jk P)),(8,.own false 1 (P.map jy))] 9 (.os 8 0 P.length) hIsFn (ap1) (by ((repeat' (first|exact jp|apply ja|exact jo rfl|exact jU|(apply qw;apply qU;exact .inr (of_decide_eq_true rfl))|(apply qw;apply qt;exact .inr (of_decide_eq_true rfl))|(apply qw;apply qO;exact .inr (of_decide_eq_true rfl))|apply jz|apply jA)))<;>fail) (by ((repeat' (first|exact qW|exact qV|refine qL _ ?_ ?_|refine qK ?_ ?_|exact qF|exact qe (qc _)|exact qe (qR _)|exact qe (qv _)|exact qH (fun _=>rfl)|refine qM ?_|exact qm|apply qf|exact ql rfl|(apply qt;exact .inr (of_decide_eq_true rfl))|(apply qO;exact .inr (of_decide_eq_true rfl))|(apply qU;exact .inr (of_decide_eq_true rfl))|fail)))<;>fail) (by ((repeat' (first|exact qW|exact qV|refine qL _ ?_ ?_|refine qK ?_ ?_|exact qF|exact qe (qc _)|exact qe (qR _)|exact qe (qv _)|exact qH (fun _=>rfl)|refine qM ?_|exact qm|apply qf|exact ql rfl|(apply qt;exact .inr (of_decide_eq_true rfl))|(apply qO;exact .inr (of_decide_eq_true rfl))|(apply qU;exact .inr (of_decide_eq_true rfl))|fail)))<;>fail) ?_
 repeat' (first|refine qu ?_|(first|(apply yJ;apply vY;exact nle rfl))|((first|refine qk ?_ ?_|refine qj ?_ ?_|refine xsC ?_ ?_);all_goals (intro hc;have hp:=hc;try simp at hp;try (exfalso;omega)))|refine jc ?_ ?_)
 all_goals try (exfalso;omega)
 clear ap1
 (refine Awp.red (qN (τ:=⟨[(0,.op 0 0 0),(6,.mp 6),(43,.os 7 0 P.length),(44,.v (.int .i64 P.length)),(45,.v (.int .i64 ((0:Nat):Int)))],[(0,.own false 5 [yN 5 0]),(1,.mp (qd B)),(2,.mp (qd M)),(3,.mp (qd T)),(4,.mp (qd (yK B M T (P.take 0)))),(5,.own false 2 []),(6,.mp (y0 (yy B M T (P.take 0)))),(7,.own false 1 (P.map jy))],8⟩) [(5,5),(7,6),(8,7)] rfl ?gts2 ?ghs2) ?_;(case gts2=>(repeat (first|exact qp|refine qE ?_|refine yq ?_|refine j1 ?_|refine xg ?_|refine j3 ?_ ?_|refine ju ?_ ?_));all_goals (first|exact qc _|exact qv _|rfl|(rw [List.length_map];done)|trace_state));(case ghs2=>(repeat' (first|exact qh|refine jv ?_|refine x5 ?_|refine yo ?_ ?_ ?_|refine yE ?_ ?_|refine jZ ?_ ?_|refine jS ?_ ?_ ?_ ?_|refine q7 ?_ ?_|exact qm|apply qf|exact ql rfl|(apply qt;(first|exact qq rfl|exact .inr (List.mem_cons_self ..)|exact .inr (List.mem_cons_of_mem _ (List.mem_cons_self ..))|exact .inr (List.mem_cons_of_mem _ (List.mem_cons_of_mem _ (List.mem_cons_self ..)))|exact .inr (List.mem_cons_of_mem _ (List.mem_cons_of_mem _ (List.mem_cons_of_mem _ (List.mem_cons_self ..))))))|refine qX ?_|refine jT ?_ rfl|with_reducible exact List.Perm.refl _));all_goals (first|exact qc _|exact qv _|rfl|(rw [List.length_map];done)|trace_state)))
 refine jr (fun n σ => ∃ i:Nat,i ≤ P.length ∧ n = P.length - i ∧ True ∧ σ = ⟨[(0,.op 0 0 0),(6,.mp 6),(43,.os 7 0 P.length),(44,.v (.int .i64 P.length)),(45,.v (.int .i64 (i:Int)))],[(0,.own false 5 [yN 5 0]),(1,.mp (qd B)),(2,.mp (qd M)),(3,.mp (qd T)),(4,.mp (qd (yK B M T (P.take i)))),(5,.own false 2 []),(6,.mp (y0 (yy B M T (P.take i)))),(7,.own false 1 (P.map jy))],8⟩) P.length ⟨0,by omega,rfl,trivial,rfl⟩ ?_
 rintro n σ ⟨i,hi,rfl, -,rfl⟩
 by_cases hlt:i < P.length
 ·have hrow:(P.map jy)[i]? = some (jy P[i]):=by rw [List.getElem?_map,List.getElem?_eq_getElem hlt];rfl
  have hro:qS jj (yK B M T (P.take i)) = true:=WN hB hM hT _
  have aone:qI C6.P 57 [.op 0 0 0,.v (str P[i])] [.own false 5 [yN 5 0],.mp (qd B),.mp (qd M),.mp (qd T),.mp (qd (yK B M T (P.take i))),.own false 2 []] (.tup [j6 (yj B M T P[i]).1,j6 (yj B M T P[i]).2]) [.own false 5 [yN 5 0],.mp (qd B),.mp (qd M),.mp (qd T),.mp (qd (yK B M T (P.take i))),.own false 2 []]:=qbM B M T (yK B M T (P.take i)) [] P[i]
  have gone:=WD B M T P[i]
  have hpn:=qaY (b:=B) (m:=M) (t:=T) (xj rP) hlt
  have hgn:=WB (b:=B) (m:=M) (t:=T) (xj rP) hlt
  have hos:=KL (b:=B) (m:=M) (t:=T) hlt
  have hgs:=Zo (b:=B) (m:=M) (t:=T) hlt
  have hpu:=KU hro gone.1 hpn
  rw [← hos] at hpu
  have hpp:=KV (qd (yK B M T (P.take i))) P[i] (yj B M T P[i]).1 (qc _)
  have aput:qI C1.P 58 [.mp 0,.v (str P[i]),j6 (yj B M T P[i]).1] [.mp (qd (yK B M T (P.take i)))] (.tup []) [.mp (.map (if (yj B M T P[i]).1.kind = 0 then j7 (qd (yK B M T (P.take i))) P[i] else jR (qd (yK B M T (P.take i))) P[i] (j6 (yj B M T P[i]).1)))]:=by
   have h:=qbk (qd (yK B M T (P.take i))) P[i] (yj B M T P[i]).1 (qc _)
   by_cases h0:(yj B M T P[i]).1.kind = 0
   ·rw [if_pos h0] at h ⊢;exact h
   ·rw [if_neg h0] at h ⊢;exact h
  have hbn:y0 (yy B M T (P.take i)) = y0 (yy B M T (P.take i)):=rfl
  generalize hX:yj B M T P[i] = X at *
  obtain ⟨x,y⟩:=X
  dsimp only at *
  repeat' (first|refine qu ?_|(first|(refine xC ?_))|((first|refine qk ?_ ?_|refine qj ?_ ?_|refine xsC ?_ ?_);all_goals (intro hc;have hp:=hc;try simp at hp;try (exfalso;omega)))|refine jc ?_ ?_)
  all_goals try (exfalso;first|omega|contradiction)
  apply jm Tryz.func57 rfl rfl
  intro hIsFn
  refine yr [0,1,2,3,4,5] [] [(0,.own false 5 [yN 5 0]),(1,.mp (qd B)),(2,.mp (qd M)),(3,.mp (qd T)),(4,.mp (qd (yK B M T (P.take i)))),(5,.own false 2 [])] 8 (.tup [j6 x,j6 y]) hIsFn (aone) (by ((repeat' (first|exact jp|apply ja|exact jo rfl|exact jU|(apply qw;apply qU;exact .inr (of_decide_eq_true rfl))|(apply qw;apply qt;exact .inr (of_decide_eq_true rfl))|(apply qw;apply qO;exact .inr (of_decide_eq_true rfl))|apply jz|apply jA)))<;>fail) (by ((repeat' (first|exact qW|exact qV|refine qL _ ?_ ?_|refine qK ?_ ?_|exact qF|exact qe (qc _)|exact qe (qR _)|exact qe (qv _)|exact qH (fun _=>rfl)|refine qM ?_|exact qm|apply qf|exact ql rfl|(apply qt;exact .inr (of_decide_eq_true rfl))|(apply qO;exact .inr (of_decide_eq_true rfl))|(apply qU;exact .inr (of_decide_eq_true rfl))|exact qH (l:=([]:List Cpy)) (f:=Cpy.row) (fun _=>rfl))))<;>fail) (by ((repeat' (first|exact qW|exact qV|refine qL _ ?_ ?_|refine qK ?_ ?_|exact qF|exact qe (qc _)|exact qe (qR _)|exact qe (qv _)|exact qH (fun _=>rfl)|refine qM ?_|exact qm|apply qf|exact ql rfl|(apply qt;exact .inr (of_decide_eq_true rfl))|(apply qO;exact .inr (of_decide_eq_true rfl))|(apply qU;exact .inr (of_decide_eq_true rfl))|exact qH (l:=([]:List Cpy)) (f:=Cpy.row) (fun _=>rfl))))<;>fail) ?_
  repeat' (first|refine qu ?_|(first|(refine xC ?_))|((first|refine qk ?_ ?_|refine qj ?_ ?_|refine xsC ?_ ?_);all_goals (intro hc;have hp:=hc;try simp at hp;try (exfalso;omega)))|refine jc ?_ ?_)
  all_goals try (exfalso;first|omega|contradiction)
  apply jm Tryz.func58 rfl rfl
  intro hIsFn2
  refine yr [4] [] [(4,.mp (.map (if x.kind = 0 then j7 (qd (yK B M T (P.take i))) P[i] else jR (qd (yK B M T (P.take i))) P[i] (j6 x))))] 10 (.tup []) hIsFn2 (aput) (by ((repeat' (first|exact jp|apply ja|exact jo rfl|exact jU|(apply qw;apply qU;exact .inr (of_decide_eq_true rfl))|(apply qw;apply qt;exact .inr (of_decide_eq_true rfl))|(apply qw;apply qO;exact .inr (of_decide_eq_true rfl))|apply jz|apply jA)))<;>fail) (by ((repeat' (first|exact qW|exact qV|refine qL _ ?_ ?_|refine qK ?_ ?_|exact qF|exact qe (qc _)|exact qe (qR _)|exact qe (qv _)|exact qH (fun _=>rfl)|refine qM ?_|exact qm|apply qf|exact ql rfl|(apply qt;exact .inr (of_decide_eq_true rfl))|(apply qO;exact .inr (of_decide_eq_true rfl))|(apply qU;exact .inr (of_decide_eq_true rfl))|fail)))<;>fail) (by ((repeat' (first|exact qW|exact qV|refine qL _ ?_ ?_|refine qK ?_ ?_|exact qF|exact qe (qc _)|exact qe (qR _)|exact qe (qv _)|exact qH (fun _=>rfl)|refine qM ?_|exact qm|apply qf|exact ql rfl|(apply qt;exact .inr (of_decide_eq_true rfl))|(apply qO;exact .inr (of_decide_eq_true rfl))|(apply qU;exact .inr (of_decide_eq_true rfl))|exact qe hpp)))<;>fail) ?_
  have d2:decide (y.kind = 2) = true ∨ decide (y.kind = 2) = false:=by cases decide (y.kind = 2)<;>simp
  rcases d2 with d2|d2
  ·have hy2:y.kind = 2:=of_decide_eq_true d2
   have hy:y = ⟨2,y.text⟩:=Jw hy2
   have hgp:jR (y0 (yy B M T (P.take i))) P[i] (j6 y) = y0 (yy B M T (P.take (i + 1))):=by
    rw [hgs,if_pos hy2,hy];exact Kx hgn
   repeat' (first|refine qu ?_|(first|(apply jD;apply j0;rfl;rfl;rfl;rfl;rfl;rfl;rfl;rfl))|((first|refine qk ?_ ?_|refine qj ?_ ?_|refine xsC ?_ ?_);all_goals (intro hc;have hp:=hc;try simp at hp;try (exfalso;omega)))|refine jc ?_ ?_)
   all_goals try (exfalso;first|omega|contradiction)
   have hO2p:=qc (yK B M T (P.take (i + 1)))
   have hG2p:=qv (yy B M T (P.take (i + 1)))
   refine ⟨P.length - (i + 1),⟨[(0,.op 0 0 0),(6,.mp 6),(43,.os 7 0 P.length),(44,.v (.int .i64 P.length)),(45,.v (.int .i64 ((i + 1:Nat):Int)))],[(0,.own false 5 [yN 5 0]),(1,.mp (qd B)),(2,.mp (qd M)),(3,.mp (qd T)),(4,.mp (qd (yK B M T (P.take (i + 1))))),(5,.own false 2 []),(6,.mp (y0 (yy B M T (P.take (i + 1))))),(7,.own false 1 (P.map jy))],8⟩,by omega,?_,i + 1,by omega,rfl,trivial,rfl⟩;((generalize qd (yK B M T (P.take (i + 1))) = O2 at hpu hO2p ⊢;generalize y0 (yy B M T (P.take (i + 1))) = G2 at hgp hG2p ⊢;generalize (if x.kind = 0 then j7 (qd (yK B M T (P.take i))) P[i] else jR (qd (yK B M T (P.take i))) P[i] (j6 x)) = I1 at hpp hpu ⊢));refine qN [(5,5),(6,6),(7,7)] rfl ?gts ?ghs;(case gts=>(repeat (first|exact qp|refine qE ?_|refine yq ?_|refine j1 ?_|refine xg ?_|refine j3 ?_ ?_|refine ju ?_ ?_));all_goals (first|rfl|trace_state));(case ghs=>(repeat' (first|exact qh|refine vl ?_|refine yo ?_ ?_ ?_|refine x5 ?_));all_goals (first|with_reducible exact qc _|with_reducible exact hO2p|with_reducible exact hG2p|with_reducible exact List.Perm.refl _|with_reducible exact hpp|with_reducible exact hpu|with_reducible exact hpu.symm|exact hpu|exact hpu.symm|exact List.Perm.of_eq hgp|exact (List.Perm.of_eq hgp).symm|rfl|trace_state))
  ·have hy2:¬ y.kind = 2:=of_decide_eq_false d2
   have hgp:y0 (yy B M T (P.take i)) = y0 (yy B M T (P.take (i + 1))):=by rw [hgs,if_neg hy2,List.append_nil]
   repeat' (first|refine qu ?_|(first|(apply jD;apply j0;rfl;rfl;rfl;rfl;rfl;rfl;rfl;rfl))|((first|refine qk ?_ ?_|refine qj ?_ ?_|refine xsC ?_ ?_);all_goals (intro hc;have hp:=hc;try simp at hp;try (exfalso;omega)))|refine jc ?_ ?_)
   all_goals try (exfalso;first|omega|contradiction)
   have hO2p:=qc (yK B M T (P.take (i + 1)))
   have hG2p:=qv (yy B M T (P.take (i + 1)))
   refine ⟨P.length - (i + 1),⟨[(0,.op 0 0 0),(6,.mp 6),(43,.os 7 0 P.length),(44,.v (.int .i64 P.length)),(45,.v (.int .i64 ((i + 1:Nat):Int)))],[(0,.own false 5 [yN 5 0]),(1,.mp (qd B)),(2,.mp (qd M)),(3,.mp (qd T)),(4,.mp (qd (yK B M T (P.take (i + 1))))),(5,.own false 2 []),(6,.mp (y0 (yy B M T (P.take (i + 1))))),(7,.own false 1 (P.map jy))],8⟩,by omega,?_,i + 1,by omega,rfl,trivial,rfl⟩;((generalize qd (yK B M T (P.take (i + 1))) = O2 at hpu hO2p ⊢;generalize y0 (yy B M T (P.take (i + 1))) = G2 at hgp hG2p ⊢;generalize (if x.kind = 0 then j7 (qd (yK B M T (P.take i))) P[i] else jR (qd (yK B M T (P.take i))) P[i] (j6 x)) = I1 at hpp hpu ⊢));refine qN [(5,5),(6,6),(7,7)] rfl ?gts ?ghs;(case gts=>(repeat (first|exact qp|refine qE ?_|refine yq ?_|refine j1 ?_|refine xg ?_|refine j3 ?_ ?_|refine ju ?_ ?_));all_goals (first|rfl|trace_state));(case ghs=>(repeat' (first|exact qh|refine vl ?_|refine yo ?_ ?_ ?_|refine x5 ?_));all_goals (first|with_reducible exact qc _|with_reducible exact hO2p|with_reducible exact hG2p|with_reducible exact List.Perm.refl _|with_reducible exact hpp|with_reducible exact hpu|with_reducible exact hpu.symm|exact hpu|exact hpu.symm|exact List.Perm.of_eq hgp|exact (List.Perm.of_eq hgp).symm|rfl|trace_state))
 obtain rfl:i = P.length:=by omega
 rw [List.take_length]
 have rG:zO ((yy B M T P).map (·.1)):=WC rP
 have lG:=Vt B M T P
 have gG : ∀ g,g ∈ yy B M T P → qn g.1 = 0 ∧ g.2.length ≤ 300:=by rw [← hP];exact z8 hB hM hT
 have iO:MInv (yK B M T P):=by rw [← hP];exact Ql hB hM hT
 have lO:(yK B M T P).length ≤ 180:=by have:=XI B M T P [];simp at this;show (P.foldl _ []).length ≤ 180;omega
 have hms:xx B M T = match Yw M T (yy B M T P) ⟨yK B M T P,[]⟩ with|none=>none|some s=>v8 M T ((s.out.map Ent.path).flatMap q0) s:=by rw [← hP];rfl
 repeat' (first|(refine Awp.red (qN (τ:=⟨[(0,.op 0 0 0),(6,.mp 6)],[(0,.own false 5 [yN 5 0]),(1,.mp (qd B)),(2,.mp (qd M)),(3,.mp (qd T)),(4,.mp (qd (yK B M T P))),(5,.own false 2 []),(6,.mp (y0 (yy B M T P)))],7⟩) [(5,5),(6,6)] rfl ?_ ?_) ?_;rotate_left 2;exact KE B M T (yy B M T P) (yK B M T P) (xx B M T) iO lO rG (Nat.le_trans lG lP) gG hms.symm;(focus ((repeat (first|exact qp|refine qE ?_|refine yq ?_|refine j1 ?_|refine xg ?_|refine j3 ?_ ?_|refine ju ?_ ?_));all_goals trace_state));(focus ((repeat' (first|exact qh|refine vl ?_|refine yo ?_ ?_ ?_|refine x5 ?_));all_goals (first|with_reducible exact qc _|with_reducible exact qv _|with_reducible exact qR _|with_reducible exact List.Perm.refl _|rfl|trace_state))))|refine qaf ?_|((first|refine qk ?_ ?_|refine qj ?_ ?_|refine xsC ?_ ?_);all_goals (intro hc;have hp:=hc;try simp at hp;try (exfalso;omega)))|refine jc ?_ ?_)
end Go.Proofs.YtnhpclmbhbblbaaGreatDoor
set_option linter.unusedSimpArgs false
set_option linter.unnecessarySimpa false
set_option linter.unusedVariables false
set_option maxHeartbeats 1000000
namespace Go.Proofs.YtnhpclmbhbblbaaGreatDoor
open Go.Ab Go.RowKit
set_option maxRecDepth 10000
attribute [local irreducible] Awp jW jh jn Red qD Go.Ab.Fin qI Rz x4 ji jf ResOk jQ jq yl jg
def qaN (a b c:List qx):Nat → List qx
 | 0 => []
 | 1=>a
 | 2=>b
 | _=>c
set_option maxHeartbeats 16000000 in
theorem qaV (B M T:List Ent) (hB:Right B) (hM:Right M) (hT:Right T):qI C5.P 24 [.op 0 0 0] (H5 B M T) (.v (.bool (xx B M T).isSome)) (H8o B M T (xx B M T)):=by
 have lB:=hB.len
 have lM:=hM.len
 have lT:=hT.len
 have pth : ∀ u:List Ent,Right u → ∀ x,x ∈ u → x.path.length ≤ 1000000:=fun u hu x hx=>Nat.le_trans (q9 (jM (hu.ent x hx)).1) (by decide)
 have k1:=kR (L:=B.map Ent.path) (l:=[]) List.Pairwise.nil
 have k2:=kR (L:=M.map Ent.path) k1.1
 have k3:=kR (L:=T.map Ent.path) k2.1
 have n1:=zG (B.map Ent.path) []
 have n2:=zG (M.map Ent.path) (vj B M T 1)
 have n3:=zG (T.map Ent.path) (vj B M T 2)
 rw [List.length_map] at n1 n2 n3
 have lP:(y4 B M T).length ≤ 180:=by
  rw [← QG]
  have e1:(vj B M T 1).length ≤ 60:=by simp at n1;show ((B.map Ent.path).foldl vL []).length ≤ 60;omega
  have e2:(vj B M T 2).length ≤ 120:=by show ((M.map Ent.path).foldl vL (vj B M T 1)).length ≤ 120;omega
  show ((T.map Ent.path).foldl vL (vj B M T 2)).length ≤ 180
  omega
 have pall : ∀ i, ∀ s,s ∈ vj B M T i → s.length ≤ 1000000:=fun i s hs=>by
  have:s ∈ y4 B M T:=by
   rw [← QG]
   match i with
   | 0=>cases hs
   | 1=>exact (k3.2 s).2 (.inr ((k2.2 s).2 (.inr hs)))
   | 2=>exact (k3.2 s).2 (.inr hs)
   | i + 3=>exact hs
  exact Nat.le_trans (q9 (zS hB hM hT this)) (by decide)
 have cp1:=V6 [] (vj B M T 1) B List.nodup_nil (xj k1.1) (fun x=>by rw [show vj B M T 1 = (B.map Ent.path).foldl vL [] from rfl,k1.2 x];simp) (by simp) (by omega) (fun s hs=>by cases hs) (pth B hB)
 have cp2:=V6 (vj B M T 1) (vj B M T 2) M (xj k1.1) (xj k2.1) (fun x=>by exact (k2.2 x).trans Or.comm) (by show ((B.map Ent.path).foldl vL []).length ≤ _;simp at n1;omega) (by omega) (pall 1) (pth M hM)
 have cp3:=V6 (vj B M T 2) (vj B M T 3) T (xj k2.1) (xj k3.1) (fun x=>by exact (k3.2 x).trans Or.comm) (by show ((M.map Ent.path).foldl vL (vj B M T 1)).length ≤ _;simp at n1;simp [vj] at n2 ⊢;omega) (by omega) (pall 2) (pth T hT)
 rw [QG] at cp3
 clear k1 k2 k3 n1 n2 n3
 generalize hK1:vj B M T 1 = K1 at *
 generalize hK2:vj B M T 2 = K2 at *
 refine qa (C:=C5) Tryz.func24 rfl _ Tryz.ntmps24 (Nat.le_of_ble_eq_true rfl) _ Tryz.results24 5 rfl rfl ?_
 refine Awp.red (W4 (C:=C5) 0 4 2 rfl rfl (Nat.le_refl _) (by decide)) ?_
 repeat' (first|refine qu ?_|(first|(apply yJ;apply vY;exact nle rfl)|(apply yJ;focus (apply Yz;rfl;rfl;rfl;rfl;rfl;rfl;rfl;exact nle rfl;exact nle rfl)))|((first|refine qk ?_ ?_|refine qj ?_ ?_|refine xsC ?_ ?_);all_goals (intro hc;have hp:=hc;try simp at hp;try (exfalso;omega)))|refine jc ?_ ?_)
 all_goals try (exfalso;omega)
 (refine Awp.red (qN (τ:=⟨[(0,.op 0 0 0),(3,.mp 6),(31,.os 7 0 3),(32,.v (.int .i64 3)),(33,.v (.int .i64 0))],[(0,.own false 5 [yN 5 0]),(1,.mp (qd B)),(2,.mp (qd M)),(3,.mp (qd T)),(4,.mp (qd [])),(5,.own false 2 []),(6,.mp (jk [])),(7,.own false 1 [[.mp 1],[.mp 2],[.mp 3]])],8⟩) [(5,5),(6,6),(7,7)] rfl ?gts2 ?ghs2) ?_;(case gts2=>(repeat (first|exact qp|refine qE ?_|refine yq ?_|refine j1 ?_|refine xg ?_|refine j3 ?_ ?_|refine ju ?_ ?_));all_goals (first|exact qc _|exact qR _|rfl|trace_state));(case ghs2=>(repeat' (first|exact qh|refine jv ?_|refine x5 ?_|refine yo ?_ ?_ ?_|refine yE ?_ ?_|refine jZ ?_ ?_|refine jS ?_ ?_ ?_ ?_|refine q7 ?_ ?_|exact qm|apply qf|exact ql rfl|(apply qt;(first|exact qq rfl|exact .inr (List.mem_cons_self ..)|exact .inr (List.mem_cons_of_mem _ (List.mem_cons_self ..))|exact .inr (List.mem_cons_of_mem _ (List.mem_cons_of_mem _ (List.mem_cons_self ..)))|exact .inr (List.mem_cons_of_mem _ (List.mem_cons_of_mem _ (List.mem_cons_of_mem _ (List.mem_cons_self ..))))))|refine qX ?_|refine jT ?_ rfl|with_reducible exact List.Perm.refl _));all_goals (first|exact qc _|exact qR _|rfl|trace_state)))
 refine jr (fun n σ => ∃ i:Nat,i ≤ 3 ∧ n = 3 - i ∧ True ∧ σ = ⟨[(0,.op 0 0 0),(3,.mp 6),(31,.os 7 0 3),(32,.v (.int .i64 3)),(33,.v (.int .i64 (i:Int)))],[(0,.own false 5 [yN 5 0]),(1,.mp (qd B)),(2,.mp (qd M)),(3,.mp (qd T)),(4,.mp (qd [])),(5,.own false 2 []),(6,.mp (jk (qaN K1 K2 (y4 B M T) i))),(7,.own false 1 [[.mp 1],[.mp 2],[.mp 3]])],8⟩) 3 ⟨0,by omega,rfl,trivial,rfl⟩ ?_
 rintro n σ ⟨i,hi,rfl, -,rfl⟩
 rcases show i = 0 ∨ i = 1 ∨ i = 2 ∨ i = 3 from by omega with rfl|rfl|rfl|rfl
 ·repeat' (first|refine qu ?_|(first|(refine xC ?_))|((first|refine qk ?_ ?_|refine qj ?_ ?_|refine xsC ?_ ?_);all_goals (intro hc;have hp:=hc;try simp at hp;try (exfalso;omega)))|refine jc ?_ ?_)
  all_goals try (exfalso;first|omega|contradiction)
  apply jm Tryz.func56 rfl rfl
  intro hIsFn
  refine yr [6,1] [] [(6,.mp (jk K1)),(1,.mp (qd B))] 8 (.tup []) hIsFn (cp1) (by ((repeat' (first|exact jp|apply ja|exact jo rfl|exact jU|(apply qw;apply qU;exact .inr (of_decide_eq_true rfl))|(apply qw;apply qt;exact .inr (of_decide_eq_true rfl))|(apply qw;apply qO;exact .inr (of_decide_eq_true rfl))|apply jz|apply jA)))<;>fail) (by ((repeat' (first|exact qW|exact qV|refine qL _ ?_ ?_|refine qK ?_ ?_|exact qF|exact qe (qc _)|exact qe (qR _)|exact qe (qv _)|exact qH (fun _=>rfl)|refine qM ?_|exact qm|apply qf|exact ql rfl|(apply qt;exact .inr (of_decide_eq_true rfl))|(apply qO;exact .inr (of_decide_eq_true rfl))|(apply qU;exact .inr (of_decide_eq_true rfl))|fail)))<;>fail) (by ((repeat' (first|exact qW|exact qV|refine qL _ ?_ ?_|refine qK ?_ ?_|exact qF|exact qe (qc _)|exact qe (qR _)|exact qe (qv _)|exact qH (fun _=>rfl)|refine qM ?_|exact qm|apply qf|exact ql rfl|(apply qt;exact .inr (of_decide_eq_true rfl))|(apply qO;exact .inr (of_decide_eq_true rfl))|(apply qU;exact .inr (of_decide_eq_true rfl))|fail)))<;>fail) ?_
  repeat' (first|refine qu ?_|(first|(refine xC ?_))|((first|refine qk ?_ ?_|refine qj ?_ ?_|refine xsC ?_ ?_);all_goals (intro hc;have hp:=hc;try simp at hp;try (exfalso;omega)))|refine jc ?_ ?_)
  refine ⟨3 - 1,_,by omega,qN (τ:=⟨[(0,.op 0 0 0),(3,.mp 6),(31,.os 7 0 3),(32,.v (.int .i64 3)),(33,.v (.int .i64 ((1:Nat):Int)))],[(0,.own false 5 [yN 5 0]),(1,.mp (qd B)),(2,.mp (qd M)),(3,.mp (qd T)),(4,.mp (qd [])),(5,.own false 2 []),(6,.mp (jk (qaN K1 K2 (y4 B M T) 1))),(7,.own false 1 [[.mp 1],[.mp 2],[.mp 3]])],8⟩) [(5,5),(6,6),(7,7)] rfl ?gts ?ghs,1,by omega,rfl,trivial,rfl⟩;(case gts=>(repeat (first|exact qp|refine qE ?_|refine yq ?_|refine j1 ?_|refine xg ?_|refine j3 ?_ ?_|refine ju ?_ ?_));all_goals (first|exact qc _|exact qR _|rfl|trace_state));(case ghs=>(repeat' (first|exact qh|refine jv ?_|refine x5 ?_|refine yo ?_ ?_ ?_|refine yE ?_ ?_|refine jZ ?_ ?_|refine jS ?_ ?_ ?_ ?_|refine q7 ?_ ?_|exact qm|apply qf|exact ql rfl|(apply qt;(first|exact qq rfl|exact .inr (List.mem_cons_self ..)|exact .inr (List.mem_cons_of_mem _ (List.mem_cons_self ..))|exact .inr (List.mem_cons_of_mem _ (List.mem_cons_of_mem _ (List.mem_cons_self ..)))|exact .inr (List.mem_cons_of_mem _ (List.mem_cons_of_mem _ (List.mem_cons_of_mem _ (List.mem_cons_self ..))))))|refine qX ?_|refine jT ?_ rfl|with_reducible exact List.Perm.refl _));all_goals (first|exact qc _|exact qR _|rfl|trace_state))
 ·repeat' (first|refine qu ?_|(first|(refine xC ?_))|((first|refine qk ?_ ?_|refine qj ?_ ?_|refine xsC ?_ ?_);all_goals (intro hc;have hp:=hc;try simp at hp;try (exfalso;omega)))|refine jc ?_ ?_)
  all_goals try (exfalso;first|omega|contradiction)
  apply jm Tryz.func56 rfl rfl
  intro hIsFn
  refine yr [6,2] [] [(6,.mp (jk K2)),(2,.mp (qd M))] 8 (.tup []) hIsFn (cp2) (by ((repeat' (first|exact jp|apply ja|exact jo rfl|exact jU|(apply qw;apply qU;exact .inr (of_decide_eq_true rfl))|(apply qw;apply qt;exact .inr (of_decide_eq_true rfl))|(apply qw;apply qO;exact .inr (of_decide_eq_true rfl))|apply jz|apply jA)))<;>fail) (by ((repeat' (first|exact qW|exact qV|refine qL _ ?_ ?_|refine qK ?_ ?_|exact qF|exact qe (qc _)|exact qe (qR _)|exact qe (qv _)|exact qH (fun _=>rfl)|refine qM ?_|exact qm|apply qf|exact ql rfl|(apply qt;exact .inr (of_decide_eq_true rfl))|(apply qO;exact .inr (of_decide_eq_true rfl))|(apply qU;exact .inr (of_decide_eq_true rfl))|fail)))<;>fail) (by ((repeat' (first|exact qW|exact qV|refine qL _ ?_ ?_|refine qK ?_ ?_|exact qF|exact qe (qc _)|exact qe (qR _)|exact qe (qv _)|exact qH (fun _=>rfl)|refine qM ?_|exact qm|apply qf|exact ql rfl|(apply qt;exact .inr (of_decide_eq_true rfl))|(apply qO;exact .inr (of_decide_eq_true rfl))|(apply qU;exact .inr (of_decide_eq_true rfl))|fail)))<;>fail) ?_
  repeat' (first|refine qu ?_|(first|(refine xC ?_))|((first|refine qk ?_ ?_|refine qj ?_ ?_|refine xsC ?_ ?_);all_goals (intro hc;have hp:=hc;try simp at hp;try (exfalso;omega)))|refine jc ?_ ?_)
  refine ⟨3 - 2,_,by omega,qN (τ:=⟨[(0,.op 0 0 0),(3,.mp 6),(31,.os 7 0 3),(32,.v (.int .i64 3)),(33,.v (.int .i64 ((2:Nat):Int)))],[(0,.own false 5 [yN 5 0]),(1,.mp (qd B)),(2,.mp (qd M)),(3,.mp (qd T)),(4,.mp (qd [])),(5,.own false 2 []),(6,.mp (jk (qaN K1 K2 (y4 B M T) 2))),(7,.own false 1 [[.mp 1],[.mp 2],[.mp 3]])],8⟩) [(5,5),(6,6),(7,7)] rfl ?gts ?ghs,2,by omega,rfl,trivial,rfl⟩;(case gts=>(repeat (first|exact qp|refine qE ?_|refine yq ?_|refine j1 ?_|refine xg ?_|refine j3 ?_ ?_|refine ju ?_ ?_));all_goals (first|exact qc _|exact qR _|rfl|trace_state));(case ghs=>(repeat' (first|exact qh|refine jv ?_|refine x5 ?_|refine yo ?_ ?_ ?_|refine yE ?_ ?_|refine jZ ?_ ?_|refine jS ?_ ?_ ?_ ?_|refine q7 ?_ ?_|exact qm|apply qf|exact ql rfl|(apply qt;(first|exact qq rfl|exact .inr (List.mem_cons_self ..)|exact .inr (List.mem_cons_of_mem _ (List.mem_cons_self ..))|exact .inr (List.mem_cons_of_mem _ (List.mem_cons_of_mem _ (List.mem_cons_self ..)))|exact .inr (List.mem_cons_of_mem _ (List.mem_cons_of_mem _ (List.mem_cons_of_mem _ (List.mem_cons_self ..))))))|refine qX ?_|refine jT ?_ rfl|with_reducible exact List.Perm.refl _));all_goals (first|exact qc _|exact qR _|rfl|trace_state))
 ·repeat' (first|refine qu ?_|(first|(refine xC ?_))|((first|refine qk ?_ ?_|refine qj ?_ ?_|refine xsC ?_ ?_);all_goals (intro hc;have hp:=hc;try simp at hp;try (exfalso;omega)))|refine jc ?_ ?_)
  all_goals try (exfalso;first|omega|contradiction)
  apply jm Tryz.func56 rfl rfl
  intro hIsFn
  refine yr [6,3] [] [(6,.mp (jk (y4 B M T))),(3,.mp (qd T))] 8 (.tup []) hIsFn (cp3) (by ((repeat' (first|exact jp|apply ja|exact jo rfl|exact jU|(apply qw;apply qU;exact .inr (of_decide_eq_true rfl))|(apply qw;apply qt;exact .inr (of_decide_eq_true rfl))|(apply qw;apply qO;exact .inr (of_decide_eq_true rfl))|apply jz|apply jA)))<;>fail) (by ((repeat' (first|exact qW|exact qV|refine qL _ ?_ ?_|refine qK ?_ ?_|exact qF|exact qe (qc _)|exact qe (qR _)|exact qe (qv _)|exact qH (fun _=>rfl)|refine qM ?_|exact qm|apply qf|exact ql rfl|(apply qt;exact .inr (of_decide_eq_true rfl))|(apply qO;exact .inr (of_decide_eq_true rfl))|(apply qU;exact .inr (of_decide_eq_true rfl))|fail)))<;>fail) (by ((repeat' (first|exact qW|exact qV|refine qL _ ?_ ?_|refine qK ?_ ?_|exact qF|exact qe (qc _)|exact qe (qR _)|exact qe (qv _)|exact qH (fun _=>rfl)|refine qM ?_|exact qm|apply qf|exact ql rfl|(apply qt;exact .inr (of_decide_eq_true rfl))|(apply qO;exact .inr (of_decide_eq_true rfl))|(apply qU;exact .inr (of_decide_eq_true rfl))|fail)))<;>fail) ?_
  repeat' (first|refine qu ?_|(first|(refine xC ?_))|((first|refine qk ?_ ?_|refine qj ?_ ?_|refine xsC ?_ ?_);all_goals (intro hc;have hp:=hc;try simp at hp;try (exfalso;omega)))|refine jc ?_ ?_)
  refine ⟨3 - 3,_,by omega,qN (τ:=⟨[(0,.op 0 0 0),(3,.mp 6),(31,.os 7 0 3),(32,.v (.int .i64 3)),(33,.v (.int .i64 ((3:Nat):Int)))],[(0,.own false 5 [yN 5 0]),(1,.mp (qd B)),(2,.mp (qd M)),(3,.mp (qd T)),(4,.mp (qd [])),(5,.own false 2 []),(6,.mp (jk (qaN K1 K2 (y4 B M T) 3))),(7,.own false 1 [[.mp 1],[.mp 2],[.mp 3]])],8⟩) [(5,5),(6,6),(7,7)] rfl ?gts ?ghs,3,by omega,rfl,trivial,rfl⟩;(case gts=>(repeat (first|exact qp|refine qE ?_|refine yq ?_|refine j1 ?_|refine xg ?_|refine j3 ?_ ?_|refine ju ?_ ?_));all_goals (first|exact qc _|exact qR _|rfl|trace_state));(case ghs=>(repeat' (first|exact qh|refine jv ?_|refine x5 ?_|refine yo ?_ ?_ ?_|refine yE ?_ ?_|refine jZ ?_ ?_|refine jS ?_ ?_ ?_ ?_|refine q7 ?_ ?_|exact qm|apply qf|exact ql rfl|(apply qt;(first|exact qq rfl|exact .inr (List.mem_cons_self ..)|exact .inr (List.mem_cons_of_mem _ (List.mem_cons_self ..))|exact .inr (List.mem_cons_of_mem _ (List.mem_cons_of_mem _ (List.mem_cons_self ..)))|exact .inr (List.mem_cons_of_mem _ (List.mem_cons_of_mem _ (List.mem_cons_of_mem _ (List.mem_cons_self ..))))))|refine qX ?_|refine jT ?_ rfl|with_reducible exact List.Perm.refl _));all_goals (first|exact qc _|exact qR _|rfl|trace_state))
 ·clear cp1 cp2 cp3 pall pth
  repeat' (first|(refine Awp.red (qN (τ:=⟨[(0,.op 0 0 0),(3,.mp 6)],[(0,.own false 5 [yN 5 0]),(1,.mp (qd B)),(2,.mp (qd M)),(3,.mp (qd T)),(4,.mp (qd [])),(5,.own false 2 []),(6,.mp (jk (y4 B M T)))],7⟩) [(5,5),(6,6)] rfl ?_ ?_) ?_;rotate_left 2;exact KD B M T hB hM hT (y4 B M T) rfl lP;(focus ((repeat (first|exact qp|refine qE ?_|refine yq ?_|refine j1 ?_|refine xg ?_|refine j3 ?_ ?_|refine ju ?_ ?_));all_goals trace_state));(focus ((repeat' (first|exact qh|refine vl ?_|refine yo ?_ ?_ ?_|refine x5 ?_));all_goals (first|with_reducible exact qc _|with_reducible exact qv _|with_reducible exact qR _|with_reducible exact List.Perm.refl _|rfl|trace_state))))|refine qaf ?_|((first|refine qk ?_ ?_|refine qj ?_ ?_|refine xsC ?_ ?_);all_goals (intro hc;have hp:=hc;try simp at hp;try (exfalso;omega)))|refine jc ?_ ?_)
end Go.Proofs.YtnhpclmbhbblbaaGreatDoor
set_option linter.unusedSimpArgs false
set_option linter.unnecessarySimpa false
set_option linter.unusedVariables false
set_option maxHeartbeats 1000000
namespace Go.Proofs.YtnhpclmbhbblbaaGreatDoor
open Go.Ab Go.RowKit
set_option maxRecDepth 10000
attribute [local irreducible] Awp jW jh jn Red qD Go.Ab.Fin qI Rz x4 ji jf ResOk jQ jq yl jg
theorem kn {L:List (Nat × Nat)} {σ:St} {n n' c c' k:Nat} {ex ex' : Bool} {l:List (Nat × HB)} (hl:yO L 6 σ l) (hm:Maps L 6 n n':=by (first|exact qq rfl|exact .inr (List.mem_cons_self ..)|exact .inr (List.mem_cons_of_mem _ (List.mem_cons_self ..))|exact .inr (List.mem_cons_of_mem _ (List.mem_cons_of_mem _ (List.mem_cons_self ..)))|exact .inr (List.mem_cons_of_mem _ (List.mem_cons_of_mem _ (List.mem_cons_of_mem _ (List.mem_cons_self ..)))))) (hc:Maps L 6 c c':=by (first|exact qq rfl|exact .inr (List.mem_cons_self ..)|exact .inr (List.mem_cons_of_mem _ (List.mem_cons_self ..))|exact .inr (List.mem_cons_of_mem _ (List.mem_cons_of_mem _ (List.mem_cons_self ..)))|exact .inr (List.mem_cons_of_mem _ (List.mem_cons_of_mem _ (List.mem_cons_of_mem _ (List.mem_cons_self ..)))))) (hx:qB σ.hs n = .own ex 5 [yN c k]:=by rfl) (he:ex' = true → ex = true:=by first|exact id|exact nofun):yO L 6 σ ((n',.own ex' 5 [yN c' k]) :: l) :=
 zI hm hx he (yU (qf (qt (qq rfl)) (qf (qt (qq rfl)) (qf (qt (qq rfl)) (qf (qt (qq rfl)) (qf (qO hc) qm))))) x3) hl
def qaA (m t o:List Ent) (p:qx):Ent:=vD m t (zX p (stT o p))
theorem JX {t:List Ent} {p:qx} (hs:qS jj t = true) (h:j9 t p = true) : ∃ hk:yx t p < t.length,qG t p = some t[yx t p]:=by
 obtain ⟨hk,_,h2,_⟩:=Jn hs h
 exact ⟨hk,h2⟩
theorem ZL {t:List Ent} {p:qx} {x:Thg} {y:Ent} (hl:qG t p = some y) (hx:zh x) (h0:¬ x.kind = 0) (he:stT t p = x):zQ t (zX p x) = some y.ver:=by
 unfold zQ
 rw [show (zX p x).path = p from rfl,hl,XZ hx h0]
 unfold stT at he
 rw [hl] at he
 have he:yw y = x:=he
 simp only [he,if_true]
theorem qae {t:List Ent} {p:qx} {x:Thg} (hx:zh x) (h0:¬ x.kind = 0) (he:¬ stT t p = x):zQ t (zX p x) = none:=by
 unfold zQ
 rw [show (zX p x).path = p from rfl,XZ hx h0]
 unfold stT at he
 cases hl:qG t p with
 | none=>rfl
 | some y =>
   rw [hl] at he
   have he:¬ yw y = x:=he
   simp only [he,if_false]
theorem X1 {t:List Ent} {p:qx} {x:Thg} (h:j9 t p = false):zQ t (zX p x) = none:=by
 unfold zQ
 rw [J8] at h
 rw [show (zX p x).path = p from rfl]
 cases hl:qG t p with
 | none=>rfl
 | some y=>rw [hl] at h;cases h
set_option maxHeartbeats 4000000 in
theorem qaU (B M T O:List Ent) (cs:List Cpy) (p:qx) (hM:qS jj M = true) (hT:qS jj T = true) (lM:M.length ≤ 60) (lT:T.length ≤ 60) (h0:¬ (stT O p).kind = 0) :
  qI C6.P 26 [.op 0 0 0,.v (str p),qo M,qo T] (H6 B M T O cs) (.agg (qaA M T O p).row) (H6 B M T O cs):=by
 have g1:=y3 O p
 have g2:=y3 T p
 have g3:=y3 M p
 have at1:=Ka T p (by omega) hT
 have at2:=Ka M p (by omega) hM
 have hx:=ka O p
 have hE:(qaA M T O p).row = [.v (str p),.v (.bool (decide ((stT O p).kind = 1))),.v (str (stT O p).text),.v (.int .i64 (zu M T (zX p (stT O p))))]:=rfl
 rw [hE]
 generalize hxx:stT O p = x at *
 clear hE
 have key : ∀ v:Int,zu M T (zX p x) = v → qI C6.P 26 [.op 0 0 0,.v (str p),qo M,qo T] (H6 B M T O cs) (.agg [.v (str p),.v (.bool (decide (x.kind = 1))),.v (str x.text),.v (.int .i64 v)]) (H6 B M T O cs) → qI C6.P 26 [.op 0 0 0,.v (str p),qo M,qo T] (H6 B M T O cs) (.agg [.v (str p),.v (.bool (decide (x.kind = 1))),.v (str x.text),.v (.int .i64 (zu M T (zX p x)))]) (H6 B M T O cs):=fun v e h=>by rw [e];exact h
 cases hT1:j9 T p with
 | true =>
   rw [hT1] at at1
   obtain ⟨kT,lkT⟩:=JX hT hT1
   have rowT:(T.map Ent.row)[yx T p]? = some T[yx T p].row:=yA kT
   generalize hPT:yx T p = PT at *
   by_cases eT:stT T p = x
   ·refine key T[PT].ver (by unfold zu;rw [ZL lkT hx h0 eT]) ?_
    clear key
    have dT:decide (stT T p = x) = true:=decide_eq_true eT
    generalize stT T p = tt at *
    generalize stT M p = mm at *
    generalize T[PT] = yT at *
    refine qa (C:=C6) Tryz.func26 rfl _ Tryz.ntmps26 (Nat.le_of_ble_eq_true rfl) _ Tryz.results26 6 rfl rfl ?_
    repeat (first|refine qu ?_|(apply qb;apply q5;(case hm=>rfl);(case hn=>rfl);(case hk=>rfl);(case hT=>rfl);(case he=>rfl);(case hK=>rfl);(case hks=>rfl);(case hz=>exact qz);(case hzv=>exact q6);(case hx=>exact g1);(case hN=>exact nle rfl))|(apply qb;apply q5;(case hm=>rfl);(case hn=>rfl);(case hk=>rfl);(case hT=>rfl);(case he=>rfl);(case hK=>rfl);(case hks=>rfl);(case hz=>exact qz);(case hzv=>exact q6);(case hx=>exact g2);(case hN=>exact nle rfl))|(apply qb;apply q5;(case hm=>rfl);(case hn=>rfl);(case hk=>rfl);(case hT=>rfl);(case he=>rfl);(case hK=>rfl);(case hks=>rfl);(case hz=>exact qz);(case hzv=>exact q6);(case hx=>exact g3);(case hN=>exact nle rfl))|(apply qb;apply yG;rfl;rfl;exact y9;exact yg _ _;(first|exact .inl ⟨rfl,rfl⟩|exact .inr ⟨rfl,rfl⟩);exact nle rfl)|refine xP Tryz.func63 (at1 ..) ?_|refine xP Tryz.func63 (at2 ..) ?_)
    (apply jb (rs:=[.cell 8 59]) [] 6;(case hr=>(repeat (first|exact qP|(apply qQ;rfl)|(apply qJ;rfl;rfl;rfl;rfl;rfl))));(case hL=>rfl);(case hh=>(repeat' (first|exact qh|refine kn ?_|refine yo ?_ ?_ ?_|refine x5 ?_));all_goals (first|with_reducible exact qc _|with_reducible exact List.Perm.refl _|rfl|trace_state));(case hi=>exact rfl);(case hz=>first|rfl|(simp [jx,AV.ren,AV.ren.renL,q4,qr,qZ];done)|(simp [jx,AV.ren,AV.ren.renL,q4,qr,qZ, *];done)))
   ·have dT:decide (stT T p = x) = false:=decide_eq_false eT
    have nT:=qae hx h0 eT
    cases hM1:j9 M p with
    | true =>
      rw [hM1] at at2
      obtain ⟨kM,lkM⟩:=JX hM hM1
      have rowM:(M.map Ent.row)[yx M p]? = some M[yx M p].row:=yA kM
      generalize hPM:yx M p = PM at *
      by_cases eM:stT M p = x
      ·refine key M[PM].ver (by unfold zu;rw [nT,ZL lkM hx h0 eM]) ?_
       clear key
       have dM:decide (stT M p = x) = true:=decide_eq_true eM
       generalize stT T p = tt at *
       generalize stT M p = mm at *
       generalize M[PM] = yM at *
       refine qa (C:=C6) Tryz.func26 rfl _ Tryz.ntmps26 (Nat.le_of_ble_eq_true rfl) _ Tryz.results26 6 rfl rfl ?_
       repeat (first|refine qu ?_|(apply qb;apply q5;(case hm=>rfl);(case hn=>rfl);(case hk=>rfl);(case hT=>rfl);(case he=>rfl);(case hK=>rfl);(case hks=>rfl);(case hz=>exact qz);(case hzv=>exact q6);(case hx=>exact g1);(case hN=>exact nle rfl))|(apply qb;apply q5;(case hm=>rfl);(case hn=>rfl);(case hk=>rfl);(case hT=>rfl);(case he=>rfl);(case hK=>rfl);(case hks=>rfl);(case hz=>exact qz);(case hzv=>exact q6);(case hx=>exact g2);(case hN=>exact nle rfl))|(apply qb;apply q5;(case hm=>rfl);(case hn=>rfl);(case hk=>rfl);(case hT=>rfl);(case he=>rfl);(case hK=>rfl);(case hks=>rfl);(case hz=>exact qz);(case hzv=>exact q6);(case hx=>exact g3);(case hN=>exact nle rfl))|(apply qb;apply yG;rfl;rfl;exact y9;exact yg _ _;(first|exact .inl ⟨rfl,rfl⟩|exact .inr ⟨rfl,rfl⟩);exact nle rfl)|refine xP Tryz.func63 (at1 ..) ?_|refine xP Tryz.func63 (at2 ..) ?_)
       (apply jb (rs:=[.cell 8 59]) [] 6;(case hr=>(repeat (first|exact qP|(apply qQ;rfl)|(apply qJ;rfl;rfl;rfl;rfl;rfl))));(case hL=>rfl);(case hh=>(repeat' (first|exact qh|refine kn ?_|refine yo ?_ ?_ ?_|refine x5 ?_));all_goals (first|with_reducible exact qc _|with_reducible exact List.Perm.refl _|rfl|trace_state));(case hi=>exact rfl);(case hz=>first|rfl|(simp [jx,AV.ren,AV.ren.renL,q4,qr,qZ];done)|(simp [jx,AV.ren,AV.ren.renL,q4,qr,qZ, *];done)))
      ·refine key 1 (by unfold zu;rw [nT,qae hx h0 eM]) ?_
       clear key
       have dM:decide (stT M p = x) = false:=decide_eq_false eM
       generalize stT T p = tt at *
       generalize stT M p = mm at *
       refine qa (C:=C6) Tryz.func26 rfl _ Tryz.ntmps26 (Nat.le_of_ble_eq_true rfl) _ Tryz.results26 6 rfl rfl ?_
       repeat (first|refine qu ?_|(apply qb;apply q5;(case hm=>rfl);(case hn=>rfl);(case hk=>rfl);(case hT=>rfl);(case he=>rfl);(case hK=>rfl);(case hks=>rfl);(case hz=>exact qz);(case hzv=>exact q6);(case hx=>exact g1);(case hN=>exact nle rfl))|(apply qb;apply q5;(case hm=>rfl);(case hn=>rfl);(case hk=>rfl);(case hT=>rfl);(case he=>rfl);(case hK=>rfl);(case hks=>rfl);(case hz=>exact qz);(case hzv=>exact q6);(case hx=>exact g2);(case hN=>exact nle rfl))|(apply qb;apply q5;(case hm=>rfl);(case hn=>rfl);(case hk=>rfl);(case hT=>rfl);(case he=>rfl);(case hK=>rfl);(case hks=>rfl);(case hz=>exact qz);(case hzv=>exact q6);(case hx=>exact g3);(case hN=>exact nle rfl))|(apply qb;apply yG;rfl;rfl;exact y9;exact yg _ _;(first|exact .inl ⟨rfl,rfl⟩|exact .inr ⟨rfl,rfl⟩);exact nle rfl)|refine xP Tryz.func63 (at1 ..) ?_|refine xP Tryz.func63 (at2 ..) ?_)
       (apply jb (rs:=[.cell 8 59]) [] 6;(case hr=>(repeat (first|exact qP|(apply qQ;rfl)|(apply qJ;rfl;rfl;rfl;rfl;rfl))));(case hL=>rfl);(case hh=>(repeat' (first|exact qh|refine kn ?_|refine yo ?_ ?_ ?_|refine x5 ?_));all_goals (first|with_reducible exact qc _|with_reducible exact List.Perm.refl _|rfl|trace_state));(case hi=>exact rfl);(case hz=>first|rfl|(simp [jx,AV.ren,AV.ren.renL,q4,qr,qZ];done)|(simp [jx,AV.ren,AV.ren.renL,q4,qr,qZ, *];done)))
    | false =>
      rw [hM1] at at2
      refine key 1 (by unfold zu;rw [nT,X1 hM1]) ?_
      clear key
      generalize stT T p = tt at *
      generalize stT M p = mm at *
      refine qa (C:=C6) Tryz.func26 rfl _ Tryz.ntmps26 (Nat.le_of_ble_eq_true rfl) _ Tryz.results26 6 rfl rfl ?_
      repeat (first|refine qu ?_|(apply qb;apply q5;(case hm=>rfl);(case hn=>rfl);(case hk=>rfl);(case hT=>rfl);(case he=>rfl);(case hK=>rfl);(case hks=>rfl);(case hz=>exact qz);(case hzv=>exact q6);(case hx=>exact g1);(case hN=>exact nle rfl))|(apply qb;apply q5;(case hm=>rfl);(case hn=>rfl);(case hk=>rfl);(case hT=>rfl);(case he=>rfl);(case hK=>rfl);(case hks=>rfl);(case hz=>exact qz);(case hzv=>exact q6);(case hx=>exact g2);(case hN=>exact nle rfl))|(apply qb;apply q5;(case hm=>rfl);(case hn=>rfl);(case hk=>rfl);(case hT=>rfl);(case he=>rfl);(case hK=>rfl);(case hks=>rfl);(case hz=>exact qz);(case hzv=>exact q6);(case hx=>exact g3);(case hN=>exact nle rfl))|(apply qb;apply yG;rfl;rfl;exact y9;exact yg _ _;(first|exact .inl ⟨rfl,rfl⟩|exact .inr ⟨rfl,rfl⟩);exact nle rfl)|refine xP Tryz.func63 (at1 ..) ?_|refine xP Tryz.func63 (at2 ..) ?_)
      (apply jb (rs:=[.cell 8 59]) [] 6;(case hr=>(repeat (first|exact qP|(apply qQ;rfl)|(apply qJ;rfl;rfl;rfl;rfl;rfl))));(case hL=>rfl);(case hh=>(repeat' (first|exact qh|refine kn ?_|refine yo ?_ ?_ ?_|refine x5 ?_));all_goals (first|with_reducible exact qc _|with_reducible exact List.Perm.refl _|rfl|trace_state));(case hi=>exact rfl);(case hz=>first|rfl|(simp [jx,AV.ren,AV.ren.renL,q4,qr,qZ];done)|(simp [jx,AV.ren,AV.ren.renL,q4,qr,qZ, *];done)))
 | false =>
   rw [hT1] at at1
   have nT:=X1 (x:=x) hT1
   cases hM1:j9 M p with
   | true =>
     rw [hM1] at at2
     obtain ⟨kM,lkM⟩:=JX hM hM1
     have rowM:(M.map Ent.row)[yx M p]? = some M[yx M p].row:=yA kM
     generalize hPM:yx M p = PM at *
     by_cases eM:stT M p = x
     ·refine key M[PM].ver (by unfold zu;rw [nT,ZL lkM hx h0 eM]) ?_
      clear key
      have dM:decide (stT M p = x) = true:=decide_eq_true eM
      generalize stT T p = tt at *
      generalize stT M p = mm at *
      generalize M[PM] = yM at *
      refine qa (C:=C6) Tryz.func26 rfl _ Tryz.ntmps26 (Nat.le_of_ble_eq_true rfl) _ Tryz.results26 6 rfl rfl ?_
      repeat (first|refine qu ?_|(apply qb;apply q5;(case hm=>rfl);(case hn=>rfl);(case hk=>rfl);(case hT=>rfl);(case he=>rfl);(case hK=>rfl);(case hks=>rfl);(case hz=>exact qz);(case hzv=>exact q6);(case hx=>exact g1);(case hN=>exact nle rfl))|(apply qb;apply q5;(case hm=>rfl);(case hn=>rfl);(case hk=>rfl);(case hT=>rfl);(case he=>rfl);(case hK=>rfl);(case hks=>rfl);(case hz=>exact qz);(case hzv=>exact q6);(case hx=>exact g2);(case hN=>exact nle rfl))|(apply qb;apply q5;(case hm=>rfl);(case hn=>rfl);(case hk=>rfl);(case hT=>rfl);(case he=>rfl);(case hK=>rfl);(case hks=>rfl);(case hz=>exact qz);(case hzv=>exact q6);(case hx=>exact g3);(case hN=>exact nle rfl))|(apply qb;apply yG;rfl;rfl;exact y9;exact yg _ _;(first|exact .inl ⟨rfl,rfl⟩|exact .inr ⟨rfl,rfl⟩);exact nle rfl)|refine xP Tryz.func63 (at1 ..) ?_|refine xP Tryz.func63 (at2 ..) ?_)
      (apply jb (rs:=[.cell 8 59]) [] 6;(case hr=>(repeat (first|exact qP|(apply qQ;rfl)|(apply qJ;rfl;rfl;rfl;rfl;rfl))));(case hL=>rfl);(case hh=>(repeat' (first|exact qh|refine kn ?_|refine yo ?_ ?_ ?_|refine x5 ?_));all_goals (first|with_reducible exact qc _|with_reducible exact List.Perm.refl _|rfl|trace_state));(case hi=>exact rfl);(case hz=>first|rfl|(simp [jx,AV.ren,AV.ren.renL,q4,qr,qZ];done)|(simp [jx,AV.ren,AV.ren.renL,q4,qr,qZ, *];done)))
     ·refine key 1 (by unfold zu;rw [nT,qae hx h0 eM]) ?_
      clear key
      have dM:decide (stT M p = x) = false:=decide_eq_false eM
      generalize stT T p = tt at *
      generalize stT M p = mm at *
      refine qa (C:=C6) Tryz.func26 rfl _ Tryz.ntmps26 (Nat.le_of_ble_eq_true rfl) _ Tryz.results26 6 rfl rfl ?_
      repeat (first|refine qu ?_|(apply qb;apply q5;(case hm=>rfl);(case hn=>rfl);(case hk=>rfl);(case hT=>rfl);(case he=>rfl);(case hK=>rfl);(case hks=>rfl);(case hz=>exact qz);(case hzv=>exact q6);(case hx=>exact g1);(case hN=>exact nle rfl))|(apply qb;apply q5;(case hm=>rfl);(case hn=>rfl);(case hk=>rfl);(case hT=>rfl);(case he=>rfl);(case hK=>rfl);(case hks=>rfl);(case hz=>exact qz);(case hzv=>exact q6);(case hx=>exact g2);(case hN=>exact nle rfl))|(apply qb;apply q5;(case hm=>rfl);(case hn=>rfl);(case hk=>rfl);(case hT=>rfl);(case he=>rfl);(case hK=>rfl);(case hks=>rfl);(case hz=>exact qz);(case hzv=>exact q6);(case hx=>exact g3);(case hN=>exact nle rfl))|(apply qb;apply yG;rfl;rfl;exact y9;exact yg _ _;(first|exact .inl ⟨rfl,rfl⟩|exact .inr ⟨rfl,rfl⟩);exact nle rfl)|refine xP Tryz.func63 (at1 ..) ?_|refine xP Tryz.func63 (at2 ..) ?_)
      (apply jb (rs:=[.cell 8 59]) [] 6;(case hr=>(repeat (first|exact qP|(apply qQ;rfl)|(apply qJ;rfl;rfl;rfl;rfl;rfl))));(case hL=>rfl);(case hh=>(repeat' (first|exact qh|refine kn ?_|refine yo ?_ ?_ ?_|refine x5 ?_));all_goals (first|with_reducible exact qc _|with_reducible exact List.Perm.refl _|rfl|trace_state));(case hi=>exact rfl);(case hz=>first|rfl|(simp [jx,AV.ren,AV.ren.renL,q4,qr,qZ];done)|(simp [jx,AV.ren,AV.ren.renL,q4,qr,qZ, *];done)))
   | false =>
     rw [hM1] at at2
     refine key 1 (by unfold zu;rw [nT,X1 hM1]) ?_
     clear key
     generalize stT T p = tt at *
     generalize stT M p = mm at *
     refine qa (C:=C6) Tryz.func26 rfl _ Tryz.ntmps26 (Nat.le_of_ble_eq_true rfl) _ Tryz.results26 6 rfl rfl ?_
     repeat (first|refine qu ?_|(apply qb;apply q5;(case hm=>rfl);(case hn=>rfl);(case hk=>rfl);(case hT=>rfl);(case he=>rfl);(case hK=>rfl);(case hks=>rfl);(case hz=>exact qz);(case hzv=>exact q6);(case hx=>exact g1);(case hN=>exact nle rfl))|(apply qb;apply q5;(case hm=>rfl);(case hn=>rfl);(case hk=>rfl);(case hT=>rfl);(case he=>rfl);(case hK=>rfl);(case hks=>rfl);(case hz=>exact qz);(case hzv=>exact q6);(case hx=>exact g2);(case hN=>exact nle rfl))|(apply qb;apply q5;(case hm=>rfl);(case hn=>rfl);(case hk=>rfl);(case hT=>rfl);(case he=>rfl);(case hK=>rfl);(case hks=>rfl);(case hz=>exact qz);(case hzv=>exact q6);(case hx=>exact g3);(case hN=>exact nle rfl))|(apply qb;apply yG;rfl;rfl;exact y9;exact yg _ _;(first|exact .inl ⟨rfl,rfl⟩|exact .inr ⟨rfl,rfl⟩);exact nle rfl)|refine xP Tryz.func63 (at1 ..) ?_|refine xP Tryz.func63 (at2 ..) ?_)
     (apply jb (rs:=[.cell 8 59]) [] 6;(case hr=>(repeat (first|exact qP|(apply qQ;rfl)|(apply qJ;rfl;rfl;rfl;rfl;rfl))));(case hL=>rfl);(case hh=>(repeat' (first|exact qh|refine kn ?_|refine yo ?_ ?_ ?_|refine x5 ?_));all_goals (first|with_reducible exact qc _|with_reducible exact List.Perm.refl _|rfl|trace_state));(case hi=>exact rfl);(case hz=>first|rfl|(simp [jx,AV.ren,AV.ren.renL,q4,qr,qZ];done)|(simp [jx,AV.ren,AV.ren.renL,q4,qr,qZ, *];done)))
end Go.Proofs.YtnhpclmbhbblbaaGreatDoor
