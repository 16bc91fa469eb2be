import Derived.Test.YtamejbkifpjhiaaGreatDoorMz25
set_option linter.unusedSimpArgs false
set_option linter.unnecessarySimpa false
set_option linter.unusedVariables false
set_option maxHeartbeats 1000000
namespace Go.Proofs.YtamejbkifpjhiaaGreatDoor
open Go.Ab Go.RowKit
set_option maxRecDepth 10000
attribute [local irreducible] Awp yH jH jw Red ja Go.Ab.Fin qZ Rz vn jr jp ResOk j3 jC yC jA
set_option maxHeartbeats 16000000 in
theorem qcH (B M T:List Ent) (s:MS) (iS:MInv s.out) (lS:s.out.length ≤ 360) (hcl0:s.cps.length ≤ 180) (R:Option MS) (hms2:kn M T ((s.out.map Ent.path).flatMap jE) s = R) :
  Awp C5 125 (tl 6 Xr) (Kl C5 #[ResultVar.tmp 2] 5 (.v (.bool R.isSome)) (H8o B M T R)) ⟨[(0,.op 0 0 0)],[(0,.own false 5 [vm 5 s.cps.length]),(1,.mp (qr B)),(2,.mp (qr M)),(3,.mp (qr T)),(4,.mp (qr s.out)),(5,.own false 2 (s.cps.map Cpy.row))],6⟩:=by
 conv=>arg 3;whnf
 have pS : ∀ x,x ∈ s.out.map Ent.path → qH x = 0:=fun x hx=>by
  obtain ⟨e,he,rfl⟩:=List.mem_map.1 hx
  exact (jz (iS.ent e he)).1
 have ap3:=Yi (qr s.out) (s.out.map Ent.path) (Xy iS.rise) (by rw [v2]) (by rw [List.length_map];omega) (fun x hx=>Nat.le_trans (qQ (pS x hx)) (by decide))
 have lS2:(s.out.map Ent.path).length ≤ 360:=by rw [List.length_map];exact lS
 generalize s.out.map Ent.path = K3 at *
 repeat' (first|refine qn ?_|(first|fail)|((first|refine qf ?_ ?_|refine qe ?_ ?_|refine xsC ?_ ?_);all_goals (intro hc;have hp:=hc;try simp at hp;try (exfalso;omega)))|refine qX ?_ ?_)
 all_goals try (exfalso;omega)
 apply jo Tryz.func66 rfl rfl
 intro hIsFn
 refine yD [4] [6] [(4,.mp (qr s.out)),(6,.own false 1 (K3.map jn))] 7 (.os 6 0 K3.length) hIsFn (ap3) (by ((repeat' (first|exact q9|apply qR|exact q8 rfl|exact jy|(apply qm;apply qD;exact .inr (of_decide_eq_true rfl))|(apply qm;apply qt;exact .inr (of_decide_eq_true rfl))|(apply qm;apply qz;exact .inr (of_decide_eq_true rfl))|apply jd|apply je)))<;>fail) (by ((repeat' (first|exact qG|exact qF|refine qx _ ?_ ?_|refine qw ?_ ?_|exact qq|exact qb (qh _)|exact qb (qL _)|exact qb (qp _)|exact qv (fun _=>rfl)|refine qy ?_|exact ql|apply qd|exact qk rfl|(apply qt;exact .inr (of_decide_eq_true rfl))|(apply qz;exact .inr (of_decide_eq_true rfl))|(apply qD;exact .inr (of_decide_eq_true rfl))|fail)))<;>fail) (by ((repeat' (first|exact qG|exact qF|refine qx _ ?_ ?_|refine qw ?_ ?_|exact qq|exact qb (qh _)|exact qb (qL _)|exact qb (qp _)|exact qv (fun _=>rfl)|refine qy ?_|exact ql|apply qd|exact qk rfl|(apply qt;exact .inr (of_decide_eq_true rfl))|(apply qz;exact .inr (of_decide_eq_true rfl))|(apply qD;exact .inr (of_decide_eq_true rfl))|fail)))<;>fail) ?_
 repeat' (first|refine qn ?_|(first|fail)|((first|refine qf ?_ ?_|refine qe ?_ ?_|refine xsC ?_ ?_);all_goals (intro hc;have hp:=hc;try simp at hp;try (exfalso;omega)))|refine qX ?_ ?_)
 all_goals try (exfalso;omega)
 clear ap3
 (refine Awp.red (qB (τ:=⟨[(0,.op 0 0 0),(88,.os 6 0 K3.length),(89,.v (.int .i64 K3.length)),(90,.v (.int .i64 ((0:Nat):Int)))],[(0,.own false 5 [vm 5 s.cps.length]),(1,.mp (qr B)),(2,.mp (qr M)),(3,.mp (qr T)),(4,.mp (qr s.out)),(5,.own false 2 (s.cps.map Cpy.row)),(6,.own false 1 (K3.map jn))],7⟩) [(5,5),(6,6)] rfl ?gts2 ?ghs2) ?_;(case gts2=>(repeat (first|exact qg|refine qo ?_|refine yg ?_|refine xM ?_|refine zi ?_|refine xN ?_ ?_|refine qY ?_ ?_));all_goals (first|rfl|(rw [List.length_map];done)|trace_state));(case ghs2=>(repeat' (first|exact qj|refine kh ?_|refine x2 ?_ ?_ ?_|refine zy ?_));all_goals (first|with_reducible exact qh _|with_reducible exact List.Perm.refl _|rfl|trace_state)))
 have hri0:=iS.rise
 refine qV (fun n σ => ∃ (i:Nat) (s:MS),i ≤ K3.length ∧ n = K3.length - i ∧ (kn M T ((K3.drop i).flatMap jE) s = R ∧ qU jf s.out = true ∧ s.cps.length ≤ 180 + 80 * i) ∧ σ = ⟨[(0,.op 0 0 0),(88,.os 6 0 K3.length),(89,.v (.int .i64 K3.length)),(90,.v (.int .i64 (i:Int)))],[(0,.own false 5 [vm 5 s.cps.length]),(1,.mp (qr B)),(2,.mp (qr M)),(3,.mp (qr T)),(4,.mp (qr s.out)),(5,.own false 2 (s.cps.map Cpy.row)),(6,.own false 1 (K3.map jn))],7⟩) K3.length ⟨0,s,by omega,rfl,⟨hms2,hri0,by omega⟩,rfl⟩ ?_
 clear hri0 hcl0 hms2 iS lS s
 rintro n σ ⟨i,s,hi,rfl,⟨hpa,hri,hcl⟩,rfl⟩
 by_cases hlt:i < K3.length
 ·have hrow:(K3.map jn)[i]? = some (jn K3[i]):=by rw [List.getElem?_map,List.getElem?_eq_getElem hlt];rfl
  have hpe:=pS K3[i] (List.getElem_mem hlt)
  have apr:=qcc K3[i] hpe
  have lQ:=V3 hpe
  have rQ : ∀ a,a ∈ jE K3[i] → qH a = 0:=fun a ha=>QD hpe ha
  rw [List.drop_eq_getElem_cons hlt,List.flatMap_cons] at hpa
  generalize jE K3[i] = Q at *
  repeat' (first|refine qn ?_|(first|(refine xC ?_))|((first|refine qf ?_ ?_|refine qe ?_ ?_|refine xsC ?_ ?_);all_goals (intro hc;have hp:=hc;try simp at hp;try (exfalso;omega)))|refine qX ?_ ?_)
  all_goals try (exfalso;first|omega|contradiction)
  apply jo Tryz.func117 rfl rfl
  intro hIsFn2
  refine yD [] [7] [(7,.own false 1 (Q.map jn))] 8 (.os 7 0 Q.length) hIsFn2 (apr) (by ((repeat' (first|exact q9|apply qR|exact q8 rfl|exact jy|(apply qm;apply qD;exact .inr (of_decide_eq_true rfl))|(apply qm;apply qt;exact .inr (of_decide_eq_true rfl))|(apply qm;apply qz;exact .inr (of_decide_eq_true rfl))|apply jd|apply je)))<;>fail) (by ((repeat' (first|exact qG|exact qF|refine qx _ ?_ ?_|refine qw ?_ ?_|exact qq|exact qb (qh _)|exact qb (qL _)|exact qb (qp _)|exact qv (fun _=>rfl)|refine qy ?_|exact ql|apply qd|exact qk rfl|(apply qt;exact .inr (of_decide_eq_true rfl))|(apply qz;exact .inr (of_decide_eq_true rfl))|(apply qD;exact .inr (of_decide_eq_true rfl))|fail)))<;>fail) (by ((repeat' (first|exact qG|exact qF|refine qx _ ?_ ?_|refine qw ?_ ?_|exact qq|exact qb (qh _)|exact qb (qL _)|exact qb (qp _)|exact qv (fun _=>rfl)|refine qy ?_|exact ql|apply qd|exact qk rfl|(apply qt;exact .inr (of_decide_eq_true rfl))|(apply qz;exact .inr (of_decide_eq_true rfl))|(apply qD;exact .inr (of_decide_eq_true rfl))|fail)))<;>fail) ?_
  repeat' (first|refine qn ?_|(first|fail)|((first|refine qf ?_ ?_|refine qe ?_ ?_|refine xsC ?_ ?_);all_goals (intro hc;have hp:=hc;try simp at hp;try (exfalso;omega)))|refine qX ?_ ?_)
  all_goals try (exfalso;first|omega|contradiction)
  clear apr hpe
  generalize hRest:(K3.drop (i + 1)).flatMap jE = rest at *
  (refine Awp.red (qB (τ:=⟨[(0,.op 0 0 0),(88,.os 6 0 K3.length),(89,.v (.int .i64 K3.length)),(90,.v (.int .i64 (i:Int))),(95,.os 7 0 Q.length),(96,.v (.int .i64 Q.length)),(97,.v (.int .i64 ((0:Nat):Int)))],[(0,.own false 5 [vm 5 s.cps.length]),(1,.mp (qr B)),(2,.mp (qr M)),(3,.mp (qr T)),(4,.mp (qr s.out)),(5,.own false 2 (s.cps.map Cpy.row)),(6,.own false 1 (K3.map jn)),(7,.own false 1 (Q.map jn))],8⟩) [(5,5),(6,6),(7,7)] rfl ?gts2 ?ghs2) ?_;(case gts2=>(repeat (first|exact qg|refine qo ?_|refine yg ?_|refine xM ?_|refine zi ?_|refine xN ?_ ?_|refine qY ?_ ?_));all_goals (first|rfl|(rw [List.length_map];done)|trace_state));(case ghs2=>(repeat' (first|exact qj|refine kh ?_|refine x2 ?_ ?_ ?_|refine zy ?_));all_goals (first|with_reducible exact qh _|with_reducible exact List.Perm.refl _|rfl|trace_state)))
  refine qV (fun n σ => ∃ (j:Nat) (s:MS),j ≤ Q.length ∧ n = Q.length - j ∧ (kn M T (Q.drop j ++ rest) s = R ∧ qU jf s.out = true ∧ s.cps.length ≤ 180 + 80 * i + j) ∧ σ = ⟨[(0,.op 0 0 0),(88,.os 6 0 K3.length),(89,.v (.int .i64 K3.length)),(90,.v (.int .i64 (i:Int))),(95,.os 7 0 Q.length),(96,.v (.int .i64 Q.length)),(97,.v (.int .i64 (j:Int)))],[(0,.own false 5 [vm 5 s.cps.length]),(1,.mp (qr B)),(2,.mp (qr M)),(3,.mp (qr T)),(4,.mp (qr s.out)),(5,.own false 2 (s.cps.map Cpy.row)),(6,.own false 1 (K3.map jn)),(7,.own false 1 (Q.map jn))],8⟩) Q.length ⟨0,s,by omega,rfl,⟨hpa,hri,by omega⟩,rfl⟩ ?_
  clear hpa hri hcl s
  rintro n σ ⟨j,s,hj,rfl,⟨hpa,hri,hcl⟩,rfl⟩
  by_cases hjl:j < Q.length
  ·have hrow2:(Q.map jn)[j]? = some (jn Q[j]):=by rw [List.getElem?_map,List.getElem?_eq_getElem hjl];rfl
   have hqe:=rQ Q[j] (List.getElem_mem hjl)
   rw [List.drop_eq_getElem_cons hjl,List.cons_append,V2] at hpa
   generalize Q[j] = q at *
   have hget:=vM s.out q
   have hpt:=Zb (e:=⟨q,true,[],1⟩) hri
   have hro2:qU jf (jR s.out (⟨q,true,[],1⟩ : Ent)) = true:=yW hri
   have ano:=VS B M T (jR s.out (⟨q,true,[],1⟩ : Ent)) s.cps q (stT s.out q).text hqe
   have ayes:=fun q'=>XS B M T (jR s.out (⟨q,true,[],1⟩ : Ent)) s.cps q (stT s.out q).text q' hqe
   have hgood:=ku s.out q
   have p1 := @WS M T s q
   have p0 := @ZR M T s q
   have p2 := @WT M T s q
   have pf := @qc2 s.out q
   generalize hv:stT s.out q = v at *
   obtain ⟨vk,vt⟩:=v
   dsimp only at p1 p0 p2 ano ayes pf
   by_cases hk2:vk = 2
   ·subst hk2
    have d2:decide ((2:Int) = 2) = true:=rfl
    rw [p2 rfl] at hpa
    repeat' (first|refine qn ?_|(first|(refine xC ?_)|(apply qi;apply jP;(case hm=>rfl);(case hn=>rfl);(case hk=>rfl);(case hT=>rfl);(case he=>rfl);(case hK=>rfl);(case hks=>rfl);(case hz=>exact ji);(case hzv=>exact jQ);(case hx=>exact hget);(case hN=>exact nle rfl))|(apply yL;apply xx;rfl;rfl;rfl;rfl;rfl;rfl;rfl;rfl))|((first|refine qf ?_ ?_|refine qe ?_ ?_|refine xsC ?_ ?_);all_goals (intro hc;have hp:=hc;try simp at hp;try (exfalso;omega)))|refine qX ?_ ?_)
    all_goals try (exfalso;first|omega|contradiction)
    apply jo Tryz.func116 rfl rfl
    intro hIsFn3
    cases hasd:xX M T (jR s.out (⟨q,true,[],1⟩ : Ent)) q 99 1 with
    | none =>
      rw [wC hasd] at hpa
      have hR:R = none:=hpa.symm
      rw [hR]
      refine yD [0,1,2,3,4,5] [] [(0,.own false 5 [vm 5 s.cps.length]),(1,.mp (qr B)),(2,.mp (qr M)),(3,.mp (qr T)),(4,.mp (qr (jR s.out (⟨q,true,[],1⟩ : Ent)))),(5,.own false 2 (s.cps.map Cpy.row))] 9 (.v (.bool false)) hIsFn3 (ano hasd (by omega)) (by ((repeat' (first|exact q9|apply qR|exact q8 rfl|exact jy|(apply qm;apply qD;exact .inr (of_decide_eq_true rfl))|(apply qm;apply qt;exact .inr (of_decide_eq_true rfl))|(apply qm;apply qz;exact .inr (of_decide_eq_true rfl))|apply jd|apply je)))<;>fail) (by ((repeat' (first|exact qG|exact qF|refine qx _ ?_ ?_|refine qw ?_ ?_|exact qq|exact qb (qh _)|exact qb (qL _)|exact qb (qp _)|exact qv (fun _=>rfl)|refine qy ?_|exact ql|apply qd|exact qk rfl|(apply qt;exact .inr (of_decide_eq_true rfl))|(apply qz;exact .inr (of_decide_eq_true rfl))|(apply qD;exact .inr (of_decide_eq_true rfl))|exact V7 hpt (qh _))))<;>fail) (by ((repeat' (first|exact qG|exact qF|refine qx _ ?_ ?_|refine qw ?_ ?_|exact qq|exact qb (qh _)|exact qb (qL _)|exact qb (qp _)|exact qv (fun _=>rfl)|refine qy ?_|exact ql|apply qd|exact qk rfl|(apply qt;exact .inr (of_decide_eq_true rfl))|(apply qz;exact .inr (of_decide_eq_true rfl))|(apply qD;exact .inr (of_decide_eq_true rfl))|fail)))<;>fail) ?_
      repeat' (first|refine qn ?_|(first|fail)|((first|refine qf ?_ ?_|refine qe ?_ ?_|refine xsC ?_ ?_);all_goals (intro hc;have hp:=hc;try simp at hp;try (exfalso;omega)))|refine qX ?_ ?_)
      all_goals try (exfalso;first|omega|contradiction)
      all_goals ((apply jM (rs:=[.tmp 2]) [] 5;(case hr=>(repeat (first|exact js|(apply jt;rfl)|(apply jl;rfl;rfl;rfl;rfl;rfl))));(case hL=>rfl);(case hh=>(repeat' (first|exact qj|refine jx ?_|refine zy ?_|refine x2 ?_ ?_ ?_|refine ve ?_ ?_|refine yY ?_ ?_|refine xh ?_ ?_ ?_ ?_|refine q6 ?_ ?_|exact ql|apply qd|exact qk rfl|(apply qt;(first|exact qN rfl|exact .inr (List.mem_cons_self ..)|exact .inr (List.mem_cons_of_mem _ (List.mem_cons_self ..))|exact .inr (List.mem_cons_of_mem _ (List.mem_cons_of_mem _ (List.mem_cons_self ..)))|exact .inr (List.mem_cons_of_mem _ (List.mem_cons_of_mem _ (List.mem_cons_of_mem _ (List.mem_cons_self ..))))))|refine ju ?_|refine xi ?_ rfl|with_reducible exact List.Perm.refl _));all_goals (first|rfl|trace_state));(case hi=>exact rfl);(case hz=>first|rfl|(simp [yh,AV.ren,AV.ren.renL,jF,qS,jD];done)|(simp [yh,AV.ren,AV.ren.renL,jF,qS,jD, *];done)|trace_state)))
    | some q' =>
      rw [wD hasd] at hpa
      have hro3:qU jf (jR (jR s.out (⟨q,true,[],1⟩ : Ent)) (⟨q',false,vt,1⟩ : Ent)) = true:=yW hro2
      refine yD [0,1,2,3,4,5] [9] [(0,.own false 5 [vm 9 (s.cps ++ [(⟨q,q'⟩ : Cpy)]).length]),(1,.mp (qr B)),(2,.mp (qr M)),(3,.mp (qr T)),(4,.mp (qr (jR (jR s.out (⟨q,true,[],1⟩ : Ent)) (⟨q',false,vt,1⟩ : Ent)))),(5,.dead),(9,.own false 2 ((s.cps ++ [(⟨q,q'⟩ : Cpy)]).map Cpy.row))] 10 (.v (.bool true)) hIsFn3 (ayes q' hasd hro2 (by omega)) (by ((repeat' (first|exact q9|apply qR|exact q8 rfl|exact jy|(apply qm;apply qD;exact .inr (of_decide_eq_true rfl))|(apply qm;apply qt;exact .inr (of_decide_eq_true rfl))|(apply qm;apply qz;exact .inr (of_decide_eq_true rfl))|apply jd|apply je)))<;>fail) (by ((repeat' (first|exact qG|exact qF|refine qx _ ?_ ?_|refine qw ?_ ?_|exact qq|exact qb (qh _)|exact qb (qL _)|exact qb (qp _)|exact qv (fun _=>rfl)|refine qy ?_|exact ql|apply qd|exact qk rfl|(apply qt;exact .inr (of_decide_eq_true rfl))|(apply qz;exact .inr (of_decide_eq_true rfl))|(apply qD;exact .inr (of_decide_eq_true rfl))|exact V7 hpt (qh _))))<;>fail) (by ((repeat' (first|exact qG|exact qF|refine qx _ ?_ ?_|refine qw ?_ ?_|exact qq|exact qb (qh _)|exact qb (qL _)|exact qb (qp _)|exact qv (fun _=>rfl)|refine qy ?_|exact ql|apply qd|exact qk rfl|(apply qt;exact .inr (of_decide_eq_true rfl))|(apply qz;exact .inr (of_decide_eq_true rfl))|(apply qD;exact .inr (of_decide_eq_true rfl))|fail)))<;>fail) ?_
      repeat' (first|refine qn ?_|(first|fail)|((first|refine qf ?_ ?_|refine qe ?_ ?_|refine xsC ?_ ?_);all_goals (intro hc;have hp:=hc;try simp at hp;try (exfalso;omega)))|refine qX ?_ ?_)
      all_goals try (exfalso;first|omega|contradiction)
      refine ⟨Q.length - (j + 1),⟨[(0,.op 0 0 0),(88,.os 6 0 K3.length),(89,.v (.int .i64 K3.length)),(90,.v (.int .i64 (i:Int))),(95,.os 7 0 Q.length),(96,.v (.int .i64 Q.length)),(97,.v (.int .i64 ((j + 1:Nat):Int)))],[(0,.own false 5 [vm 5 (s.cps ++ [(⟨q,q'⟩ : Cpy)]).length]),(1,.mp (qr B)),(2,.mp (qr M)),(3,.mp (qr T)),(4,.mp (qr (jR (jR s.out (⟨q,true,[],1⟩ : Ent)) (⟨q',false,vt,1⟩ : Ent)))),(5,.own false 2 ((s.cps ++ [(⟨q,q'⟩ : Cpy)]).map Cpy.row)),(6,.own false 1 (K3.map jn)),(7,.own false 1 (Q.map jn))],8⟩,by omega,?_,j + 1,⟨(jR (jR s.out (⟨q,true,[],1⟩ : Ent)) (⟨q',false,vt,1⟩ : Ent)),(s.cps ++ [(⟨q,q'⟩ : Cpy)])⟩,by omega,rfl,⟨hpa,hro3,by simp;omega⟩,rfl⟩;(skip);refine qB [(9,5),(6,6),(7,7)] rfl ?gts ?ghs;(case gts=>(repeat (first|exact qg|refine qo ?_|refine yg ?_|refine xM ?_|refine zi ?_|refine xN ?_ ?_|refine qY ?_ ?_));all_goals (first|rfl|trace_state));(case ghs=>(repeat' (first|exact qj|refine kh ?_|refine x2 ?_ ?_ ?_|refine zy ?_));all_goals (first|with_reducible exact qh _|with_reducible exact List.Perm.refl _|fail|rfl|trace_state))
   ·have d2:decide (vk = 2) = false:=decide_eq_false hk2
    repeat' (first|refine qn ?_|(first|(refine xC ?_)|(apply qi;apply jP;(case hm=>rfl);(case hn=>rfl);(case hk=>rfl);(case hT=>rfl);(case he=>rfl);(case hK=>rfl);(case hks=>rfl);(case hz=>exact ji);(case hzv=>exact jQ);(case hx=>exact hget);(case hN=>exact nle rfl))|(apply yL;apply xx;rfl;rfl;rfl;rfl;rfl;rfl;rfl;rfl))|((first|refine qf ?_ ?_|refine qe ?_ ?_|refine xsC ?_ ?_);all_goals (intro hc;have hp:=hc;try simp at hp;try (exfalso;omega)))|refine qX ?_ ?_)
    all_goals try (exfalso;first|omega|contradiction)
    by_cases hk1:vk = 1
    ·rw [p1 hk1] at hpa
     have hpf:=List.Perm.of_eq (pf hk1)
     refine ⟨Q.length - (j + 1),⟨[(0,.op 0 0 0),(88,.os 6 0 K3.length),(89,.v (.int .i64 K3.length)),(90,.v (.int .i64 (i:Int))),(95,.os 7 0 Q.length),(96,.v (.int .i64 Q.length)),(97,.v (.int .i64 ((j + 1:Nat):Int)))],[(0,.own false 5 [vm 5 s.cps.length]),(1,.mp (qr B)),(2,.mp (qr M)),(3,.mp (qr T)),(4,.mp (qr s.out)),(5,.own false 2 (s.cps.map Cpy.row)),(6,.own false 1 (K3.map jn)),(7,.own false 1 (Q.map jn))],8⟩,by omega,?_,j + 1,s,by omega,rfl,⟨hpa,hri,by omega⟩,rfl⟩;(skip);refine qB [(5,5),(6,6),(7,7)] rfl ?gts ?ghs;(case gts=>(repeat (first|exact qg|refine qo ?_|refine yg ?_|refine xM ?_|refine zi ?_|refine xN ?_ ?_|refine qY ?_ ?_));all_goals (first|rfl|trace_state));(case ghs=>(repeat' (first|exact qj|refine kh ?_|refine x2 ?_ ?_ ?_|refine zy ?_));all_goals (first|with_reducible exact qh _|with_reducible exact List.Perm.refl _|exact hpf|exact hpf.symm|rfl|trace_state))
    ·rw [p0 hk1 hk2] at hpa
     refine ⟨Q.length - (j + 1),⟨[(0,.op 0 0 0),(88,.os 6 0 K3.length),(89,.v (.int .i64 K3.length)),(90,.v (.int .i64 (i:Int))),(95,.os 7 0 Q.length),(96,.v (.int .i64 Q.length)),(97,.v (.int .i64 ((j + 1:Nat):Int)))],[(0,.own false 5 [vm 5 s.cps.length]),(1,.mp (qr B)),(2,.mp (qr M)),(3,.mp (qr T)),(4,.mp (qr (jR s.out (⟨q,true,[],1⟩ : Ent)))),(5,.own false 2 (s.cps.map Cpy.row)),(6,.own false 1 (K3.map jn)),(7,.own false 1 (Q.map jn))],8⟩,by omega,?_,j + 1,⟨(jR s.out (⟨q,true,[],1⟩ : Ent)),s.cps⟩,by omega,rfl,⟨hpa,hro2,by simp only;omega⟩,rfl⟩;(skip);refine qB [(5,5),(6,6),(7,7)] rfl ?gts ?ghs;(case gts=>(repeat (first|exact qg|refine qo ?_|refine yg ?_|refine xM ?_|refine zi ?_|refine xN ?_ ?_|refine qY ?_ ?_));all_goals (first|rfl|trace_state));(case ghs=>(repeat' (first|exact qj|refine kh ?_|refine x2 ?_ ?_ ?_|refine zy ?_));all_goals (first|with_reducible exact qh _|with_reducible exact List.Perm.refl _|exact hpt|exact hpt.symm|rfl|trace_state))
  ·obtain rfl:j = Q.length:=by omega
   rw [List.drop_length,List.nil_append, ← hRest] at hpa
   repeat' (first|refine qn ?_|(first|fail)|((first|refine qf ?_ ?_|refine qe ?_ ?_|refine xsC ?_ ?_);all_goals (intro hc;have hp:=hc;try simp at hp;try (exfalso;omega)))|refine qX ?_ ?_)
   all_goals try (exfalso;first|omega|contradiction)
   refine ⟨K3.length - (i + 1),⟨[(0,.op 0 0 0),(88,.os 6 0 K3.length),(89,.v (.int .i64 K3.length)),(90,.v (.int .i64 ((i + 1:Nat):Int)))],[(0,.own false 5 [vm 5 s.cps.length]),(1,.mp (qr B)),(2,.mp (qr M)),(3,.mp (qr T)),(4,.mp (qr s.out)),(5,.own false 2 (s.cps.map Cpy.row)),(6,.own false 1 (K3.map jn))],7⟩,by omega,?_,i + 1,s,by omega,rfl,⟨hpa,hri,by omega⟩,rfl⟩;(skip);refine qB [(5,5),(6,6)] rfl ?gts ?ghs;(case gts=>(repeat (first|exact qg|refine qo ?_|refine yg ?_|refine xM ?_|refine zi ?_|refine xN ?_ ?_|refine qY ?_ ?_));all_goals (first|rfl|trace_state));(case ghs=>(repeat' (first|exact qj|refine kh ?_|refine x2 ?_ ?_ ?_|refine zy ?_));all_goals (first|with_reducible exact qh _|with_reducible exact List.Perm.refl _|rfl|trace_state))
 ·obtain rfl:i = K3.length:=by omega
  rw [List.drop_length] at hpa
  have hR2:R = some s:=hpa.symm
  rw [hR2]
  repeat' (first|refine qn ?_|(first|fail)|((first|refine qf ?_ ?_|refine qe ?_ ?_|refine xsC ?_ ?_);all_goals (intro hc;have hp:=hc;try simp at hp;try (exfalso;omega)))|refine qX ?_ ?_)
  all_goals try (exfalso;first|omega|contradiction)
  (apply jM (rs:=[.tmp 2]) [(5,5)] 6;(case hr=>(repeat (first|exact js|(apply jt;rfl)|(apply jl;rfl;rfl;rfl;rfl;rfl))));(case hL=>rfl);(case hh=>(repeat' (first|exact qj|refine kh ?_|refine x2 ?_ ?_ ?_|refine zy ?_));all_goals (first|with_reducible exact qh _|with_reducible exact List.Perm.refl _|rfl));(case hi=>exact rfl);(case hz=>rfl))
end Go.Proofs.YtamejbkifpjhiaaGreatDoor
set_option linter.unusedSimpArgs false
set_option linter.unnecessarySimpa false
set_option linter.unusedVariables false
set_option maxHeartbeats 1000000
namespace Go.Proofs.YtamejbkifpjhiaaGreatDoor
open Go.Ab Go.RowKit
set_option maxRecDepth 10000
attribute [local irreducible] Awp yH jH jw Red ja Go.Ab.Fin qZ Rz vn jr jp ResOk j3 jC yC jA
set_option maxHeartbeats 16000000 in
theorem qcG (B M T:List Ent) (G:List (qP × qP)) (O0:List Ent) (R:Option MS) (iO:MInv O0) (lO:O0.length ≤ 180) (rG:Qa (G.map (·.1))) (lG:G.length ≤ 180) (gG : ∀ g,g ∈ G → qH g.1 = 0 ∧ g.2.length ≤ 300) (hms:(match Vd M T G ⟨O0,[]⟩ with|none=>none|some s=>kn M T ((s.out.map Ent.path).flatMap jE) s) = R) :
  Awp C5 125 (tl 5 Xr) (Kl C5 #[ResultVar.tmp 2] 5 (.v (.bool R.isSome)) (H8o B M T R)) ⟨[(0,.op 0 0 0),(6,.mp 6)],[(0,.own false 5 [vm 5 0]),(1,.mp (qr B)),(2,.mp (qr M)),(3,.mp (qr T)),(4,.mp (qr O0)),(5,.own false 2 []),(6,.mp (vK G))],7⟩:=by
 conv=>arg 3;whnf
 have ap2:=Yi (vK G) (G.map (·.1)) rG (by rw [J2]) (by rw [List.length_map];omega) (fun x hx=>by
  obtain ⟨g,hg,rfl⟩:=List.mem_map.1 hx
  exact Nat.le_trans (qQ (gG g hg).1) (by decide))
 generalize hK:G.map (·.1) = K at *
 have lK:K.length = G.length:=by rw [← hK,List.length_map]
 repeat' (first|refine qn ?_|(first|fail)|((first|refine qf ?_ ?_|refine qe ?_ ?_|refine xsC ?_ ?_);all_goals (intro hc;have hp:=hc;try simp at hp;try (exfalso;omega)))|refine qX ?_ ?_)
 all_goals try (exfalso;omega)
 apply jo Tryz.func66 rfl rfl
 intro hIsFn
 refine yD [6] [7] [(6,.mp (vK G)),(7,.own false 1 (K.map jn))] 8 (.os 7 0 K.length) hIsFn (ap2) (by ((repeat' (first|exact q9|apply qR|exact q8 rfl|exact jy|(apply qm;apply qD;exact .inr (of_decide_eq_true rfl))|(apply qm;apply qt;exact .inr (of_decide_eq_true rfl))|(apply qm;apply qz;exact .inr (of_decide_eq_true rfl))|apply jd|apply je)))<;>fail) (by ((repeat' (first|exact qG|exact qF|refine qx _ ?_ ?_|refine qw ?_ ?_|exact qq|exact qb (qh _)|exact qb (qL _)|exact qb (qp _)|exact qv (fun _=>rfl)|refine qy ?_|exact ql|apply qd|exact qk rfl|(apply qt;exact .inr (of_decide_eq_true rfl))|(apply qz;exact .inr (of_decide_eq_true rfl))|(apply qD;exact .inr (of_decide_eq_true rfl))|fail)))<;>fail) (by ((repeat' (first|exact qG|exact qF|refine qx _ ?_ ?_|refine qw ?_ ?_|exact qq|exact qb (qh _)|exact qb (qL _)|exact qb (qp _)|exact qv (fun _=>rfl)|refine qy ?_|exact ql|apply qd|exact qk rfl|(apply qt;exact .inr (of_decide_eq_true rfl))|(apply qz;exact .inr (of_decide_eq_true rfl))|(apply qD;exact .inr (of_decide_eq_true rfl))|fail)))<;>fail) ?_
 repeat' (first|refine qn ?_|(first|fail)|((first|refine qf ?_ ?_|refine qe ?_ ?_|refine xsC ?_ ?_);all_goals (intro hc;have hp:=hc;try simp at hp;try (exfalso;omega)))|refine qX ?_ ?_)
 all_goals try (exfalso;omega)
 clear ap2
 (refine Awp.red (qB (τ:=⟨[(0,.op 0 0 0),(6,.mp 6),(70,.os 7 0 K.length),(71,.v (.int .i64 K.length)),(72,.v (.int .i64 ((0:Nat):Int)))],[(0,.own false 5 [vm 5 0]),(1,.mp (qr B)),(2,.mp (qr M)),(3,.mp (qr T)),(4,.mp (qr O0)),(5,.own false 2 []),(6,.mp (vK G)),(7,.own false 1 (K.map jn))],8⟩) [(5,5),(6,6),(7,7)] rfl ?gts2 ?ghs2) ?_;(case gts2=>(repeat (first|exact qg|refine qo ?_|refine yg ?_|refine xM ?_|refine zi ?_|refine xN ?_ ?_|refine qY ?_ ?_));all_goals (first|rfl|(rw [List.length_map];done)|trace_state));(case ghs2=>(repeat' (first|exact qj|refine kh ?_|refine x2 ?_ ?_ ?_|refine zy ?_));all_goals (first|with_reducible exact qh _|with_reducible exact qp _|with_reducible exact List.Perm.refl _|rfl|trace_state)))
 refine qV (fun n σ => ∃ (i:Nat) (s:MS),i ≤ K.length ∧ n = K.length - i ∧ (Vd M T (G.drop i) s = Vd M T G ⟨O0,[]⟩ ∧ qU jf s.out = true ∧ s.cps.length ≤ i) ∧ σ = ⟨[(0,.op 0 0 0),(6,.mp 6),(70,.os 7 0 K.length),(71,.v (.int .i64 K.length)),(72,.v (.int .i64 (i:Int)))],[(0,.own false 5 [vm 5 s.cps.length]),(1,.mp (qr B)),(2,.mp (qr M)),(3,.mp (qr T)),(4,.mp (qr s.out)),(5,.own false 2 (s.cps.map Cpy.row)),(6,.mp (vK G)),(7,.own false 1 (K.map jn))],8⟩) K.length ⟨0,⟨O0,[]⟩,by omega,rfl,⟨rfl,iO.rise,Nat.le_refl _⟩,rfl⟩ ?_
 rintro n σ ⟨i,s,hi,rfl,⟨hgo,hri,hcl⟩,rfl⟩
 by_cases hlt:i < K.length
 ·have hG:i < G.length:=by omega
  have hrow:(K.map jn)[i]? = some (jn G[i].1):=by rw [List.getElem?_map, ← hK,List.getElem?_map,List.getElem?_eq_getElem hG];rfl
  have hget:=qcy (by rw [hK];exact vY rG) (List.getElem_mem hG)
  have hdr:=Wy (m:=M) (t:=T) hG s
  have hpe:=(gG G[i] (List.getElem_mem hG)).1
  have hEx:G[i] = (G[i].1,G[i].2):=rfl
  generalize G[i].1 = p at *
  generalize G[i].2 = x at *
  have ano:=VS B M T s.out s.cps p x hpe
  have ayes:=fun q=>XS B M T s.out s.cps p x q hpe
  repeat' (first|refine qn ?_|(first|(refine xC ?_)|(apply qi;apply jP;(case hm=>rfl);(case hn=>rfl);(case hk=>rfl);(case hT=>rfl);(case he=>rfl);(case hK=>rfl);(case hks=>rfl);(case hz=>exact ji);(case hzv=>exact jQ);(case hx=>exact hget);(case hN=>exact nle rfl)))|((first|refine qf ?_ ?_|refine qe ?_ ?_|refine xsC ?_ ?_);all_goals (intro hc;have hp:=hc;try simp at hp;try (exfalso;omega)))|refine qX ?_ ?_)
  all_goals try (exfalso;first|omega|contradiction)
  apply jo Tryz.func116 rfl rfl
  intro hIsFn2
  cases hasd:xX M T s.out p 99 1 with
  | none =>
    refine yD [0,1,2,3,4,5] [] [(0,.own false 5 [vm 5 s.cps.length]),(1,.mp (qr B)),(2,.mp (qr M)),(3,.mp (qr T)),(4,.mp (qr s.out)),(5,.own false 2 (s.cps.map Cpy.row))] 8 (.v (.bool false)) hIsFn2 (ano hasd (by omega)) (by ((repeat' (first|exact q9|apply qR|exact q8 rfl|exact jy|(apply qm;apply qD;exact .inr (of_decide_eq_true rfl))|(apply qm;apply qt;exact .inr (of_decide_eq_true rfl))|(apply qm;apply qz;exact .inr (of_decide_eq_true rfl))|apply jd|apply je)))<;>fail) (by ((repeat' (first|exact qG|exact qF|refine qx _ ?_ ?_|refine qw ?_ ?_|exact qq|exact qb (qh _)|exact qb (qL _)|exact qb (qp _)|exact qv (fun _=>rfl)|refine qy ?_|exact ql|apply qd|exact qk rfl|(apply qt;exact .inr (of_decide_eq_true rfl))|(apply qz;exact .inr (of_decide_eq_true rfl))|(apply qD;exact .inr (of_decide_eq_true rfl))|fail)))<;>fail) (by ((repeat' (first|exact qG|exact qF|refine qx _ ?_ ?_|refine qw ?_ ?_|exact qq|exact qb (qh _)|exact qb (qL _)|exact qb (qp _)|exact qv (fun _=>rfl)|refine qy ?_|exact ql|apply qd|exact qk rfl|(apply qt;exact .inr (of_decide_eq_true rfl))|(apply qz;exact .inr (of_decide_eq_true rfl))|(apply qD;exact .inr (of_decide_eq_true rfl))|fail)))<;>fail) ?_
    have hno:R = none:=by
     rw [← hms, ← hgo,hdr,wC hasd]
    rw [hno]
    repeat' (first|refine qn ?_|(first|fail)|((first|refine qf ?_ ?_|refine qe ?_ ?_|refine xsC ?_ ?_);all_goals (intro hc;have hp:=hc;try simp at hp;try (exfalso;omega)))|refine qX ?_ ?_)
    all_goals try (exfalso;first|omega|contradiction)
    all_goals ((apply jM (rs:=[.tmp 2]) [] 5;(case hr=>(repeat (first|exact js|(apply jt;rfl)|(apply jl;rfl;rfl;rfl;rfl;rfl))));(case hL=>rfl);(case hh=>(repeat' (first|exact qj|refine jx ?_|refine zy ?_|refine x2 ?_ ?_ ?_|refine ve ?_ ?_|refine yY ?_ ?_|refine xh ?_ ?_ ?_ ?_|refine q6 ?_ ?_|exact ql|apply qd|exact qk rfl|(apply qt;(first|exact qN rfl|exact .inr (List.mem_cons_self ..)|exact .inr (List.mem_cons_of_mem _ (List.mem_cons_self ..))|exact .inr (List.mem_cons_of_mem _ (List.mem_cons_of_mem _ (List.mem_cons_self ..)))|exact .inr (List.mem_cons_of_mem _ (List.mem_cons_of_mem _ (List.mem_cons_of_mem _ (List.mem_cons_self ..))))))|refine ju ?_|refine xi ?_ rfl|with_reducible exact List.Perm.refl _));all_goals (first|rfl|trace_state));(case hi=>exact rfl);(case hz=>first|rfl|(simp [yh,AV.ren,AV.ren.renL,jF,qS,jD];done)|(simp [yh,AV.ren,AV.ren.renL,jF,qS,jD, *];done)|trace_state)))
  | some q =>
    rw [wD hasd] at hdr
    have hro2:qU jf (jR s.out (⟨q,false,x,1⟩ : Ent)) = true:=yW hri
    refine yD [0,1,2,3,4,5] [8] [(0,.own false 5 [vm 8 (s.cps ++ [(⟨p,q⟩ : Cpy)]).length]),(1,.mp (qr B)),(2,.mp (qr M)),(3,.mp (qr T)),(4,.mp (qr (jR s.out (⟨q,false,x,1⟩ : Ent)))),(5,.dead),(8,.own false 2 ((s.cps ++ [(⟨p,q⟩ : Cpy)]).map Cpy.row))] 9 (.v (.bool true)) hIsFn2 (ayes q hasd hri (by omega)) (by ((repeat' (first|exact q9|apply qR|exact q8 rfl|exact jy|(apply qm;apply qD;exact .inr (of_decide_eq_true rfl))|(apply qm;apply qt;exact .inr (of_decide_eq_true rfl))|(apply qm;apply qz;exact .inr (of_decide_eq_true rfl))|apply jd|apply je)))<;>fail) (by ((repeat' (first|exact qG|exact qF|refine qx _ ?_ ?_|refine qw ?_ ?_|exact qq|exact qb (qh _)|exact qb (qL _)|exact qb (qp _)|exact qv (fun _=>rfl)|refine qy ?_|exact ql|apply qd|exact qk rfl|(apply qt;exact .inr (of_decide_eq_true rfl))|(apply qz;exact .inr (of_decide_eq_true rfl))|(apply qD;exact .inr (of_decide_eq_true rfl))|fail)))<;>fail) (by ((repeat' (first|exact qG|exact qF|refine qx _ ?_ ?_|refine qw ?_ ?_|exact qq|exact qb (qh _)|exact qb (qL _)|exact qb (qp _)|exact qv (fun _=>rfl)|refine qy ?_|exact ql|apply qd|exact qk rfl|(apply qt;exact .inr (of_decide_eq_true rfl))|(apply qz;exact .inr (of_decide_eq_true rfl))|(apply qD;exact .inr (of_decide_eq_true rfl))|fail)))<;>fail) ?_
    repeat' (first|refine qn ?_|(first|fail)|((first|refine qf ?_ ?_|refine qe ?_ ?_|refine xsC ?_ ?_);all_goals (intro hc;have hp:=hc;try simp at hp;try (exfalso;omega)))|refine qX ?_ ?_)
    all_goals try (exfalso;first|omega|contradiction)
    refine ⟨K.length - (i + 1),⟨[(0,.op 0 0 0),(6,.mp 6),(70,.os 7 0 K.length),(71,.v (.int .i64 K.length)),(72,.v (.int .i64 ((i + 1:Nat):Int)))],[(0,.own false 5 [vm 5 (s.cps ++ [(⟨p,q⟩ : Cpy)]).length]),(1,.mp (qr B)),(2,.mp (qr M)),(3,.mp (qr T)),(4,.mp (qr (jR s.out (⟨q,false,x,1⟩ : Ent)))),(5,.own false 2 ((s.cps ++ [(⟨p,q⟩ : Cpy)]).map Cpy.row)),(6,.mp (vK G)),(7,.own false 1 (K.map jn))],8⟩,by omega,?_,i + 1,⟨jR s.out (⟨q,false,x,1⟩ : Ent),s.cps ++ [⟨p,q⟩]⟩,by omega,rfl,⟨hdr.symm.trans hgo,hro2,by simp;omega⟩,rfl⟩;(skip);refine qB [(8,5),(6,6),(7,7)] rfl ?gts ?ghs;(case gts=>(repeat (first|exact qg|refine qo ?_|refine yg ?_|refine xM ?_|refine zi ?_|refine xN ?_ ?_|refine qY ?_ ?_));all_goals (first|rfl|trace_state));(case ghs=>(repeat' (first|exact qj|refine kh ?_|refine x2 ?_ ?_ ?_|refine zy ?_));all_goals (first|with_reducible exact qh _|with_reducible exact qp _|with_reducible exact List.Perm.refl _|rfl|trace_state))
 ·obtain rfl:i = K.length:=by omega
  rw [List.drop_eq_nil_of_le (by omega)] at hgo
  have hgo2:Vd M T G ⟨O0,[]⟩ = some s:=hgo.symm
  have iS:MInv s.out:=YB (s:=⟨O0,[]⟩) iO gG hgo2
  have lS:s.out.length ≤ 360:=by have:=Kn hgo2;simp at this;omega
  rw [hgo2] at hms
  have hcl0:s.cps.length ≤ 180:=by omega
  repeat' (first|(refine Awp.red (qB (τ:=⟨[(0,.op 0 0 0)],[(0,.own false 5 [vm 5 s.cps.length]),(1,.mp (qr B)),(2,.mp (qr M)),(3,.mp (qr T)),(4,.mp (qr s.out)),(5,.own false 2 (s.cps.map Cpy.row))],6⟩) [(5,5)] rfl ?_ ?_) ?_;rotate_left 2;exact qcH B M T s iS lS hcl0 R hms;(focus ((repeat (first|exact qg|refine qo ?_|refine yg ?_|refine xM ?_|refine zi ?_|refine xN ?_ ?_|refine qY ?_ ?_));all_goals trace_state));(focus ((repeat' (first|exact qj|refine kh ?_|refine x2 ?_ ?_ ?_|refine zy ?_));all_goals (first|with_reducible exact qh _|with_reducible exact qp _|with_reducible exact qL _|with_reducible exact List.Perm.refl _|rfl|trace_state))))|refine Zk ?_|((first|refine qf ?_ ?_|refine qe ?_ ?_|refine xsC ?_ ?_);all_goals (intro hc;have hp:=hc;try simp at hp;try (exfalso;omega)))|refine qX ?_ ?_)
end Go.Proofs.YtamejbkifpjhiaaGreatDoor
set_option linter.unusedSimpArgs false
set_option linter.unnecessarySimpa false
set_option linter.unusedVariables false
set_option maxHeartbeats 1000000
namespace Go.Proofs.YtamejbkifpjhiaaGreatDoor
open Go.Ab Go.RowKit
set_option maxRecDepth 10000
attribute [local irreducible] Awp yH jH jw Red ja Go.Ab.Fin qZ Rz vn jr jp ResOk j3 jC yC jA
set_option maxHeartbeats 16000000 in
theorem qcF (B M T:List Ent) (hB:Right B) (hM:Right M) (hT:Right T) (P:List qP) (hP:ze B M T = P) (lP:P.length ≤ 180) :
  Awp C5 125 (tl 3 Xr) (Kl C5 #[ResultVar.tmp 2] 5 (.v (.bool (vG B M T).isSome)) (H8o B M T (vG B M T))) ⟨[(0,.op 0 0 0),(3,.mp 6)],[(0,.own false 5 [vm 5 0]),(1,.mp (qr B)),(2,.mp (qr M)),(3,.mp (qr T)),(4,.mp (qr [])),(5,.own false 2 []),(6,.mp (jk P))],7⟩:=by
 conv=>arg 3;whnf
 have rP:Qa P:=hP ▸ qdw B M T
 have pP : ∀ x,x ∈ P → qH x = 0:=fun x hx=>Qg hB hM hT (hP ▸ hx)
 have ap1:=Yi (jk P) P rP (by rw [Kq]) (by omega) (fun x hx=>Nat.le_trans (qQ (pP x hx)) (by decide))
 repeat' (first|refine qn ?_|(first|(apply xe;apply kq;exact nle rfl))|((first|refine qf ?_ ?_|refine qe ?_ ?_|refine xsC ?_ ?_);all_goals (intro hc;have hp:=hc;try simp at hp;try (exfalso;omega)))|refine qX ?_ ?_)
 all_goals try (exfalso;omega)
 apply jo Tryz.func66 rfl rfl
 intro hIsFn
 refine yD [6] [8] [(6,.mp (jk P)),(8,.own false 1 (P.map jn))] 9 (.os 8 0 P.length) hIsFn (ap1) (by ((repeat' (first|exact q9|apply qR|exact q8 rfl|exact jy|(apply qm;apply qD;exact .inr (of_decide_eq_true rfl))|(apply qm;apply qt;exact .inr (of_decide_eq_true rfl))|(apply qm;apply qz;exact .inr (of_decide_eq_true rfl))|apply jd|apply je)))<;>fail) (by ((repeat' (first|exact qG|exact qF|refine qx _ ?_ ?_|refine qw ?_ ?_|exact qq|exact qb (qh _)|exact qb (qL _)|exact qb (qp _)|exact qv (fun _=>rfl)|refine qy ?_|exact ql|apply qd|exact qk rfl|(apply qt;exact .inr (of_decide_eq_true rfl))|(apply qz;exact .inr (of_decide_eq_true rfl))|(apply qD;exact .inr (of_decide_eq_true rfl))|fail)))<;>fail) (by ((repeat' (first|exact qG|exact qF|refine qx _ ?_ ?_|refine qw ?_ ?_|exact qq|exact qb (qh _)|exact qb (qL _)|exact qb (qp _)|exact qv (fun _=>rfl)|refine qy ?_|exact ql|apply qd|exact qk rfl|(apply qt;exact .inr (of_decide_eq_true rfl))|(apply qz;exact .inr (of_decide_eq_true rfl))|(apply qD;exact .inr (of_decide_eq_true rfl))|fail)))<;>fail) ?_
 repeat' (first|refine qn ?_|(first|(apply xe;apply kq;exact nle rfl))|((first|refine qf ?_ ?_|refine qe ?_ ?_|refine xsC ?_ ?_);all_goals (intro hc;have hp:=hc;try simp at hp;try (exfalso;omega)))|refine qX ?_ ?_)
 all_goals try (exfalso;omega)
 clear ap1
 (refine Awp.red (qB (τ:=⟨[(0,.op 0 0 0),(6,.mp 6),(43,.os 7 0 P.length),(44,.v (.int .i64 P.length)),(45,.v (.int .i64 ((0:Nat):Int)))],[(0,.own false 5 [vm 5 0]),(1,.mp (qr B)),(2,.mp (qr M)),(3,.mp (qr T)),(4,.mp (qr (xK B M T (P.take 0)))),(5,.own false 2 []),(6,.mp (vK (yK B M T (P.take 0)))),(7,.own false 1 (P.map jn))],8⟩) [(5,5),(7,6),(8,7)] rfl ?gts2 ?ghs2) ?_;(case gts2=>(repeat (first|exact qg|refine qo ?_|refine yg ?_|refine xM ?_|refine zi ?_|refine xN ?_ ?_|refine qY ?_ ?_));all_goals (first|exact qh _|exact qp _|rfl|(rw [List.length_map];done)|trace_state));(case ghs2=>(repeat' (first|exact qj|refine jx ?_|refine zy ?_|refine x2 ?_ ?_ ?_|refine ve ?_ ?_|refine yY ?_ ?_|refine xh ?_ ?_ ?_ ?_|refine q6 ?_ ?_|exact ql|apply qd|exact qk rfl|(apply qt;(first|exact qN rfl|exact .inr (List.mem_cons_self ..)|exact .inr (List.mem_cons_of_mem _ (List.mem_cons_self ..))|exact .inr (List.mem_cons_of_mem _ (List.mem_cons_of_mem _ (List.mem_cons_self ..)))|exact .inr (List.mem_cons_of_mem _ (List.mem_cons_of_mem _ (List.mem_cons_of_mem _ (List.mem_cons_self ..))))))|refine ju ?_|refine xi ?_ rfl|with_reducible exact List.Perm.refl _));all_goals (first|exact qh _|exact qp _|rfl|(rw [List.length_map];done)|trace_state)))
 refine qV (fun n σ => ∃ i:Nat,i ≤ P.length ∧ n = P.length - i ∧ True ∧ σ = ⟨[(0,.op 0 0 0),(6,.mp 6),(43,.os 7 0 P.length),(44,.v (.int .i64 P.length)),(45,.v (.int .i64 (i:Int)))],[(0,.own false 5 [vm 5 0]),(1,.mp (qr B)),(2,.mp (qr M)),(3,.mp (qr T)),(4,.mp (qr (xK B M T (P.take i)))),(5,.own false 2 []),(6,.mp (vK (yK B M T (P.take i)))),(7,.own false 1 (P.map jn))],8⟩) P.length ⟨0,by omega,rfl,trivial,rfl⟩ ?_
 rintro n σ ⟨i,hi,rfl, -,rfl⟩
 by_cases hlt:i < P.length
 ·have hrow:(P.map jn)[i]? = some (jn P[i]):=by rw [List.getElem?_map,List.getElem?_eq_getElem hlt];rfl
  have hro:qU jf (xK B M T (P.take i)) = true:=WR hB hM hT _
  have aone:qZ C6.P 114 [.op 0 0 0,.v (str P[i])] [.own false 5 [vm 5 0],.mp (qr B),.mp (qr M),.mp (qr T),.mp (qr (xK B M T (P.take i))),.own false 2 []] (.tup [xI (x3 B M T P[i]).1,xI (x3 B M T P[i]).2]) [.own false 5 [vm 5 0],.mp (qr B),.mp (qr M),.mp (qr T),.mp (qr (xK B M T (P.take i))),.own false 2 []]:=qgL B M T (xK B M T (P.take i)) [] P[i]
  have gone:=qd8 B M T P[i]
  have hpn:=qfv (b:=B) (m:=M) (t:=T) (vY rP) hlt
  have hgn:=qd6 (b:=B) (m:=M) (t:=T) (vY rP) hlt
  have hos:=ZQ (b:=B) (m:=M) (t:=T) hlt
  have hgs:=VH (b:=B) (m:=M) (t:=T) hlt
  have hpu:=qc4 hro gone.1 hpn
  rw [← hos] at hpu
  have hpp:=qc5 (qr (xK B M T (P.take i))) P[i] (x3 B M T P[i]).1 (qh _)
  have aput:qZ C1.P 115 [.mp 0,.v (str P[i]),xI (x3 B M T P[i]).1] [.mp (qr (xK B M T (P.take i)))] (.tup []) [.mp (.map (if (x3 B M T P[i]).1.kind = 0 then xJ (qr (xK B M T (P.take i))) P[i] else xb (qr (xK B M T (P.take i))) P[i] (xI (x3 B M T P[i]).1)))]:=by
   have h:=qgc (qr (xK B M T (P.take i))) P[i] (x3 B M T P[i]).1 (qh _)
   by_cases h0:(x3 B M T P[i]).1.kind = 0
   ·rw [if_pos h0] at h ⊢;exact h
   ·rw [if_neg h0] at h ⊢;exact h
  have hbn:vK (yK B M T (P.take i)) = vK (yK B M T (P.take i)):=rfl
  generalize hX:x3 B M T P[i] = X at *
  obtain ⟨x,y⟩:=X
  dsimp only at *
  repeat' (first|refine qn ?_|(first|(refine xC ?_))|((first|refine qf ?_ ?_|refine qe ?_ ?_|refine xsC ?_ ?_);all_goals (intro hc;have hp:=hc;try simp at hp;try (exfalso;omega)))|refine qX ?_ ?_)
  all_goals try (exfalso;first|omega|contradiction)
  apply jo Tryz.func114 rfl rfl
  intro hIsFn
  refine yD [0,1,2,3,4,5] [] [(0,.own false 5 [vm 5 0]),(1,.mp (qr B)),(2,.mp (qr M)),(3,.mp (qr T)),(4,.mp (qr (xK B M T (P.take i)))),(5,.own false 2 [])] 8 (.tup [xI x,xI y]) hIsFn (aone) (by ((repeat' (first|exact q9|apply qR|exact q8 rfl|exact jy|(apply qm;apply qD;exact .inr (of_decide_eq_true rfl))|(apply qm;apply qt;exact .inr (of_decide_eq_true rfl))|(apply qm;apply qz;exact .inr (of_decide_eq_true rfl))|apply jd|apply je)))<;>fail) (by ((repeat' (first|exact qG|exact qF|refine qx _ ?_ ?_|refine qw ?_ ?_|exact qq|exact qb (qh _)|exact qb (qL _)|exact qb (qp _)|exact qv (fun _=>rfl)|refine qy ?_|exact ql|apply qd|exact qk rfl|(apply qt;exact .inr (of_decide_eq_true rfl))|(apply qz;exact .inr (of_decide_eq_true rfl))|(apply qD;exact .inr (of_decide_eq_true rfl))|exact qv (l:=([]:List Cpy)) (f:=Cpy.row) (fun _=>rfl))))<;>fail) (by ((repeat' (first|exact qG|exact qF|refine qx _ ?_ ?_|refine qw ?_ ?_|exact qq|exact qb (qh _)|exact qb (qL _)|exact qb (qp _)|exact qv (fun _=>rfl)|refine qy ?_|exact ql|apply qd|exact qk rfl|(apply qt;exact .inr (of_decide_eq_true rfl))|(apply qz;exact .inr (of_decide_eq_true rfl))|(apply qD;exact .inr (of_decide_eq_true rfl))|exact qv (l:=([]:List Cpy)) (f:=Cpy.row) (fun _=>rfl))))<;>fail) ?_
  repeat' (first|refine qn ?_|(first|(refine xC ?_))|((first|refine qf ?_ ?_|refine qe ?_ ?_|refine xsC ?_ ?_);all_goals (intro hc;have hp:=hc;try simp at hp;try (exfalso;omega)))|refine qX ?_ ?_)
  all_goals try (exfalso;first|omega|contradiction)
  apply jo Tryz.func115 rfl rfl
  intro hIsFn2
  refine yD [4] [] [(4,.mp (.map (if x.kind = 0 then xJ (qr (xK B M T (P.take i))) P[i] else xb (qr (xK B M T (P.take i))) P[i] (xI x))))] 10 (.tup []) hIsFn2 (aput) (by ((repeat' (first|exact q9|apply qR|exact q8 rfl|exact jy|(apply qm;apply qD;exact .inr (of_decide_eq_true rfl))|(apply qm;apply qt;exact .inr (of_decide_eq_true rfl))|(apply qm;apply qz;exact .inr (of_decide_eq_true rfl))|apply jd|apply je)))<;>fail) (by ((repeat' (first|exact qG|exact qF|refine qx _ ?_ ?_|refine qw ?_ ?_|exact qq|exact qb (qh _)|exact qb (qL _)|exact qb (qp _)|exact qv (fun _=>rfl)|refine qy ?_|exact ql|apply qd|exact qk rfl|(apply qt;exact .inr (of_decide_eq_true rfl))|(apply qz;exact .inr (of_decide_eq_true rfl))|(apply qD;exact .inr (of_decide_eq_true rfl))|fail)))<;>fail) (by ((repeat' (first|exact qG|exact qF|refine qx _ ?_ ?_|refine qw ?_ ?_|exact qq|exact qb (qh _)|exact qb (qL _)|exact qb (qp _)|exact qv (fun _=>rfl)|refine qy ?_|exact ql|apply qd|exact qk rfl|(apply qt;exact .inr (of_decide_eq_true rfl))|(apply qz;exact .inr (of_decide_eq_true rfl))|(apply qD;exact .inr (of_decide_eq_true rfl))|exact qb hpp)))<;>fail) ?_
  have d2:decide (y.kind = 2) = true ∨ decide (y.kind = 2) = false:=by cases decide (y.kind = 2)<;>simp
  rcases d2 with d2|d2
  ·have hy2:y.kind = 2:=of_decide_eq_true d2
   have hy:y = ⟨2,y.text⟩:=KQ hy2
   have hgp:xb (vK (yK B M T (P.take i))) P[i] (xI y) = vK (yK B M T (P.take (i + 1))):=by
    rw [hgs,if_pos hy2,hy];exact qcz hgn
   repeat' (first|refine qn ?_|(first|(apply yL;apply xx;rfl;rfl;rfl;rfl;rfl;rfl;rfl;rfl))|((first|refine qf ?_ ?_|refine qe ?_ ?_|refine xsC ?_ ?_);all_goals (intro hc;have hp:=hc;try simp at hp;try (exfalso;omega)))|refine qX ?_ ?_)
   all_goals try (exfalso;first|omega|contradiction)
   have hO2p:=qh (xK B M T (P.take (i + 1)))
   have hG2p:=qp (yK B M T (P.take (i + 1)))
   refine ⟨P.length - (i + 1),⟨[(0,.op 0 0 0),(6,.mp 6),(43,.os 7 0 P.length),(44,.v (.int .i64 P.length)),(45,.v (.int .i64 ((i + 1:Nat):Int)))],[(0,.own false 5 [vm 5 0]),(1,.mp (qr B)),(2,.mp (qr M)),(3,.mp (qr T)),(4,.mp (qr (xK B M T (P.take (i + 1))))),(5,.own false 2 []),(6,.mp (vK (yK B M T (P.take (i + 1))))),(7,.own false 1 (P.map jn))],8⟩,by omega,?_,i + 1,by omega,rfl,trivial,rfl⟩;((generalize qr (xK B M T (P.take (i + 1))) = O2 at hpu hO2p ⊢;generalize vK (yK B M T (P.take (i + 1))) = G2 at hgp hG2p ⊢;generalize (if x.kind = 0 then xJ (qr (xK B M T (P.take i))) P[i] else xb (qr (xK B M T (P.take i))) P[i] (xI x)) = I1 at hpp hpu ⊢));refine qB [(5,5),(6,6),(7,7)] rfl ?gts ?ghs;(case gts=>(repeat (first|exact qg|refine qo ?_|refine yg ?_|refine xM ?_|refine zi ?_|refine xN ?_ ?_|refine qY ?_ ?_));all_goals (first|rfl|trace_state));(case ghs=>(repeat' (first|exact qj|refine kh ?_|refine x2 ?_ ?_ ?_|refine zy ?_));all_goals (first|with_reducible exact qh _|with_reducible exact hO2p|with_reducible exact hG2p|with_reducible exact List.Perm.refl _|with_reducible exact hpp|with_reducible exact hpu|with_reducible exact hpu.symm|exact hpu|exact hpu.symm|exact List.Perm.of_eq hgp|exact (List.Perm.of_eq hgp).symm|rfl|trace_state))
  ·have hy2:¬ y.kind = 2:=of_decide_eq_false d2
   have hgp:vK (yK B M T (P.take i)) = vK (yK B M T (P.take (i + 1))):=by rw [hgs,if_neg hy2,List.append_nil]
   repeat' (first|refine qn ?_|(first|(apply yL;apply xx;rfl;rfl;rfl;rfl;rfl;rfl;rfl;rfl))|((first|refine qf ?_ ?_|refine qe ?_ ?_|refine xsC ?_ ?_);all_goals (intro hc;have hp:=hc;try simp at hp;try (exfalso;omega)))|refine qX ?_ ?_)
   all_goals try (exfalso;first|omega|contradiction)
   have hO2p:=qh (xK B M T (P.take (i + 1)))
   have hG2p:=qp (yK B M T (P.take (i + 1)))
   refine ⟨P.length - (i + 1),⟨[(0,.op 0 0 0),(6,.mp 6),(43,.os 7 0 P.length),(44,.v (.int .i64 P.length)),(45,.v (.int .i64 ((i + 1:Nat):Int)))],[(0,.own false 5 [vm 5 0]),(1,.mp (qr B)),(2,.mp (qr M)),(3,.mp (qr T)),(4,.mp (qr (xK B M T (P.take (i + 1))))),(5,.own false 2 []),(6,.mp (vK (yK B M T (P.take (i + 1))))),(7,.own false 1 (P.map jn))],8⟩,by omega,?_,i + 1,by omega,rfl,trivial,rfl⟩;((generalize qr (xK B M T (P.take (i + 1))) = O2 at hpu hO2p ⊢;generalize vK (yK B M T (P.take (i + 1))) = G2 at hgp hG2p ⊢;generalize (if x.kind = 0 then xJ (qr (xK B M T (P.take i))) P[i] else xb (qr (xK B M T (P.take i))) P[i] (xI x)) = I1 at hpp hpu ⊢));refine qB [(5,5),(6,6),(7,7)] rfl ?gts ?ghs;(case gts=>(repeat (first|exact qg|refine qo ?_|refine yg ?_|refine xM ?_|refine zi ?_|refine xN ?_ ?_|refine qY ?_ ?_));all_goals (first|rfl|trace_state));(case ghs=>(repeat' (first|exact qj|refine kh ?_|refine x2 ?_ ?_ ?_|refine zy ?_));all_goals (first|with_reducible exact qh _|with_reducible exact hO2p|with_reducible exact hG2p|with_reducible exact List.Perm.refl _|with_reducible exact hpp|with_reducible exact hpu|with_reducible exact hpu.symm|exact hpu|exact hpu.symm|exact List.Perm.of_eq hgp|exact (List.Perm.of_eq hgp).symm|rfl|trace_state))
 obtain rfl:i = P.length:=by omega
 rw [List.take_length]
 have rG:Qa ((yK B M T P).map (·.1)):=qd7 rP
 have lG:=YC B M T P
 have gG : ∀ g,g ∈ yK B M T P → qH g.1 = 0 ∧ g.2.length ≤ 300:=by rw [← hP];exact Qq hB hM hT
 have iO:MInv (xK B M T P):=by rw [← hP];exact Vl hB hM hT
 have lO:(xK B M T P).length ≤ 180:=by have:=YP B M T P [];simp at this;show (P.foldl _ []).length ≤ 180;omega
 have hms:vG B M T = match Vd M T (yK B M T P) ⟨xK B M T P,[]⟩ with|none=>none|some s=>kn M T ((s.out.map Ent.path).flatMap jE) s:=by rw [← hP];rfl
 repeat' (first|(refine Awp.red (qB (τ:=⟨[(0,.op 0 0 0),(6,.mp 6)],[(0,.own false 5 [vm 5 0]),(1,.mp (qr B)),(2,.mp (qr M)),(3,.mp (qr T)),(4,.mp (qr (xK B M T P))),(5,.own false 2 []),(6,.mp (vK (yK B M T P)))],7⟩) [(5,5),(6,6)] rfl ?_ ?_) ?_;rotate_left 2;exact qcG B M T (yK B M T P) (xK B M T P) (vG B M T) iO lO rG (Nat.le_trans lG lP) gG hms.symm;(focus ((repeat (first|exact qg|refine qo ?_|refine yg ?_|refine xM ?_|refine zi ?_|refine xN ?_ ?_|refine qY ?_ ?_));all_goals trace_state));(focus ((repeat' (first|exact qj|refine kh ?_|refine x2 ?_ ?_ ?_|refine zy ?_));all_goals (first|with_reducible exact qh _|with_reducible exact qp _|with_reducible exact qL _|with_reducible exact List.Perm.refl _|rfl|trace_state))))|refine Zk ?_|((first|refine qf ?_ ?_|refine qe ?_ ?_|refine xsC ?_ ?_);all_goals (intro hc;have hp:=hc;try simp at hp;try (exfalso;omega)))|refine qX ?_ ?_)
end Go.Proofs.YtamejbkifpjhiaaGreatDoor
set_option linter.unusedSimpArgs false
set_option linter.unnecessarySimpa false
set_option linter.unusedVariables false
set_option maxHeartbeats 1000000
namespace Go.Proofs.YtamejbkifpjhiaaGreatDoor
open Go.Ab Go.RowKit
set_option maxRecDepth 10000
attribute [local irreducible] Awp yH jH jw Red ja Go.Ab.Fin qZ Rz vn jr jp ResOk j3 jC yC jA
def qfh (a b c:List qP):Nat → List qP
 | 0 => []
 | 1=>a
 | 2=>b
 | _=>c
set_option maxHeartbeats 16000000 in
theorem qbU (B M T:List Ent) (hB:Right B) (hM:Right M) (hT:Right T):qZ C5.P 65 [.op 0 0 0] (H5 B M T) (.v (.bool (vG B M T).isSome)) (H8o B M T (vG B M T)):=by
 have lB:=hB.len
 have lM:=hM.len
 have lT:=hT.len
 have pth : ∀ u:List Ent,Right u → ∀ x,x ∈ u → x.path.length ≤ 1000000:=fun u hu x hx=>Nat.le_trans (qQ (jz (hu.ent x hx)).1) (by decide)
 have k1:=Ji (L:=B.map Ent.path) (l:=[]) List.Pairwise.nil
 have k2:=Ji (L:=M.map Ent.path) k1.1
 have k3:=Ji (L:=T.map Ent.path) k2.1
 have n1:=wY (B.map Ent.path) []
 have n2:=wY (M.map Ent.path) (ka B M T 1)
 have n3:=wY (T.map Ent.path) (ka B M T 2)
 rw [List.length_map] at n1 n2 n3
 have lP:(ze B M T).length ≤ 180:=by
  rw [← Xl]
  have e1:(ka B M T 1).length ≤ 60:=by simp at n1;show ((B.map Ent.path).foldl zE []).length ≤ 60;omega
  have e2:(ka B M T 2).length ≤ 120:=by show ((M.map Ent.path).foldl zE (ka B M T 1)).length ≤ 120;omega
  show ((T.map Ent.path).foldl zE (ka B M T 2)).length ≤ 180
  omega
 have pall : ∀ i, ∀ s,s ∈ ka B M T i → s.length ≤ 1000000:=fun i s hs=>by
  have:s ∈ ze B M T:=by
   rw [← Xl]
   match i with
   | 0=>cases hs
   | 1=>exact (k3.2 s).2 (.inr ((k2.2 s).2 (.inr hs)))
   | 2=>exact (k3.2 s).2 (.inr hs)
   | i + 3=>exact hs
  exact Nat.le_trans (qQ (Qg hB hM hT this)) (by decide)
 have cp1:=qas [] (ka B M T 1) B List.nodup_nil (vY k1.1) (fun x=>by rw [show ka B M T 1 = (B.map Ent.path).foldl zE [] from rfl,k1.2 x];simp) (by simp) (by omega) (fun s hs=>by cases hs) (pth B hB)
 have cp2:=qas (ka B M T 1) (ka B M T 2) M (vY k1.1) (vY k2.1) (fun x=>by exact (k2.2 x).trans Or.comm) (by show ((B.map Ent.path).foldl zE []).length ≤ _;simp at n1;omega) (by omega) (pall 1) (pth M hM)
 have cp3:=qas (ka B M T 2) (ka B M T 3) T (vY k2.1) (vY k3.1) (fun x=>by exact (k3.2 x).trans Or.comm) (by show ((M.map Ent.path).foldl zE (ka B M T 1)).length ≤ _;simp at n1;simp [ka] at n2 ⊢;omega) (by omega) (pall 2) (pth T hT)
 rw [Xl] at cp3
 clear k1 k2 k3 n1 n2 n3
 generalize hK1:ka B M T 1 = K1 at *
 generalize hK2:ka B M T 2 = K2 at *
 refine qc (C:=C5) Tryz.func65 rfl _ Tryz.ntmps65 (Nat.le_of_ble_eq_true rfl) _ Tryz.results65 5 rfl rfl ?_
 refine Awp.red (V5 (C:=C5) 0 4 2 rfl rfl (Nat.le_refl _) (by decide)) ?_
 repeat' (first|refine qn ?_|(first|(apply xe;apply kq;exact nle rfl)|(apply xe;focus (apply Zp;rfl;rfl;rfl;rfl;rfl;rfl;rfl;exact nle rfl;exact nle rfl)))|((first|refine qf ?_ ?_|refine qe ?_ ?_|refine xsC ?_ ?_);all_goals (intro hc;have hp:=hc;try simp at hp;try (exfalso;omega)))|refine qX ?_ ?_)
 all_goals try (exfalso;omega)
 (refine Awp.red (qB (τ:=⟨[(0,.op 0 0 0),(3,.mp 6),(31,.os 7 0 3),(32,.v (.int .i64 3)),(33,.v (.int .i64 0))],[(0,.own false 5 [vm 5 0]),(1,.mp (qr B)),(2,.mp (qr M)),(3,.mp (qr T)),(4,.mp (qr [])),(5,.own false 2 []),(6,.mp (jk [])),(7,.own false 1 [[.mp 1],[.mp 2],[.mp 3]])],8⟩) [(5,5),(6,6),(7,7)] rfl ?gts2 ?ghs2) ?_;(case gts2=>(repeat (first|exact qg|refine qo ?_|refine yg ?_|refine xM ?_|refine zi ?_|refine xN ?_ ?_|refine qY ?_ ?_));all_goals (first|exact qh _|exact qL _|rfl|trace_state));(case ghs2=>(repeat' (first|exact qj|refine jx ?_|refine zy ?_|refine x2 ?_ ?_ ?_|refine ve ?_ ?_|refine yY ?_ ?_|refine xh ?_ ?_ ?_ ?_|refine q6 ?_ ?_|exact ql|apply qd|exact qk rfl|(apply qt;(first|exact qN rfl|exact .inr (List.mem_cons_self ..)|exact .inr (List.mem_cons_of_mem _ (List.mem_cons_self ..))|exact .inr (List.mem_cons_of_mem _ (List.mem_cons_of_mem _ (List.mem_cons_self ..)))|exact .inr (List.mem_cons_of_mem _ (List.mem_cons_of_mem _ (List.mem_cons_of_mem _ (List.mem_cons_self ..))))))|refine ju ?_|refine xi ?_ rfl|with_reducible exact List.Perm.refl _));all_goals (first|exact qh _|exact qL _|rfl|trace_state)))
 refine qV (fun n σ => ∃ i:Nat,i ≤ 3 ∧ n = 3 - i ∧ True ∧ σ = ⟨[(0,.op 0 0 0),(3,.mp 6),(31,.os 7 0 3),(32,.v (.int .i64 3)),(33,.v (.int .i64 (i:Int)))],[(0,.own false 5 [vm 5 0]),(1,.mp (qr B)),(2,.mp (qr M)),(3,.mp (qr T)),(4,.mp (qr [])),(5,.own false 2 []),(6,.mp (jk (qfh K1 K2 (ze B M T) i))),(7,.own false 1 [[.mp 1],[.mp 2],[.mp 3]])],8⟩) 3 ⟨0,by omega,rfl,trivial,rfl⟩ ?_
 rintro n σ ⟨i,hi,rfl, -,rfl⟩
 rcases show i = 0 ∨ i = 1 ∨ i = 2 ∨ i = 3 from by omega with rfl|rfl|rfl|rfl
 ·repeat' (first|refine qn ?_|(first|(refine xC ?_))|((first|refine qf ?_ ?_|refine qe ?_ ?_|refine xsC ?_ ?_);all_goals (intro hc;have hp:=hc;try simp at hp;try (exfalso;omega)))|refine qX ?_ ?_)
  all_goals try (exfalso;first|omega|contradiction)
  apply jo Tryz.func113 rfl rfl
  intro hIsFn
  refine yD [6,1] [] [(6,.mp (jk K1)),(1,.mp (qr B))] 8 (.tup []) hIsFn (cp1) (by ((repeat' (first|exact q9|apply qR|exact q8 rfl|exact jy|(apply qm;apply qD;exact .inr (of_decide_eq_true rfl))|(apply qm;apply qt;exact .inr (of_decide_eq_true rfl))|(apply qm;apply qz;exact .inr (of_decide_eq_true rfl))|apply jd|apply je)))<;>fail) (by ((repeat' (first|exact qG|exact qF|refine qx _ ?_ ?_|refine qw ?_ ?_|exact qq|exact qb (qh _)|exact qb (qL _)|exact qb (qp _)|exact qv (fun _=>rfl)|refine qy ?_|exact ql|apply qd|exact qk rfl|(apply qt;exact .inr (of_decide_eq_true rfl))|(apply qz;exact .inr (of_decide_eq_true rfl))|(apply qD;exact .inr (of_decide_eq_true rfl))|fail)))<;>fail) (by ((repeat' (first|exact qG|exact qF|refine qx _ ?_ ?_|refine qw ?_ ?_|exact qq|exact qb (qh _)|exact qb (qL _)|exact qb (qp _)|exact qv (fun _=>rfl)|refine qy ?_|exact ql|apply qd|exact qk rfl|(apply qt;exact .inr (of_decide_eq_true rfl))|(apply qz;exact .inr (of_decide_eq_true rfl))|(apply qD;exact .inr (of_decide_eq_true rfl))|fail)))<;>fail) ?_
  repeat' (first|refine qn ?_|(first|(refine xC ?_))|((first|refine qf ?_ ?_|refine qe ?_ ?_|refine xsC ?_ ?_);all_goals (intro hc;have hp:=hc;try simp at hp;try (exfalso;omega)))|refine qX ?_ ?_)
  refine ⟨3 - 1,_,by omega,qB (τ:=⟨[(0,.op 0 0 0),(3,.mp 6),(31,.os 7 0 3),(32,.v (.int .i64 3)),(33,.v (.int .i64 ((1:Nat):Int)))],[(0,.own false 5 [vm 5 0]),(1,.mp (qr B)),(2,.mp (qr M)),(3,.mp (qr T)),(4,.mp (qr [])),(5,.own false 2 []),(6,.mp (jk (qfh K1 K2 (ze B M T) 1))),(7,.own false 1 [[.mp 1],[.mp 2],[.mp 3]])],8⟩) [(5,5),(6,6),(7,7)] rfl ?gts ?ghs,1,by omega,rfl,trivial,rfl⟩;(case gts=>(repeat (first|exact qg|refine qo ?_|refine yg ?_|refine xM ?_|refine zi ?_|refine xN ?_ ?_|refine qY ?_ ?_));all_goals (first|exact qh _|exact qL _|rfl|trace_state));(case ghs=>(repeat' (first|exact qj|refine jx ?_|refine zy ?_|refine x2 ?_ ?_ ?_|refine ve ?_ ?_|refine yY ?_ ?_|refine xh ?_ ?_ ?_ ?_|refine q6 ?_ ?_|exact ql|apply qd|exact qk rfl|(apply qt;(first|exact qN rfl|exact .inr (List.mem_cons_self ..)|exact .inr (List.mem_cons_of_mem _ (List.mem_cons_self ..))|exact .inr (List.mem_cons_of_mem _ (List.mem_cons_of_mem _ (List.mem_cons_self ..)))|exact .inr (List.mem_cons_of_mem _ (List.mem_cons_of_mem _ (List.mem_cons_of_mem _ (List.mem_cons_self ..))))))|refine ju ?_|refine xi ?_ rfl|with_reducible exact List.Perm.refl _));all_goals (first|exact qh _|exact qL _|rfl|trace_state))
 ·repeat' (first|refine qn ?_|(first|(refine xC ?_))|((first|refine qf ?_ ?_|refine qe ?_ ?_|refine xsC ?_ ?_);all_goals (intro hc;have hp:=hc;try simp at hp;try (exfalso;omega)))|refine qX ?_ ?_)
  all_goals try (exfalso;first|omega|contradiction)
  apply jo Tryz.func113 rfl rfl
  intro hIsFn
  refine yD [6,2] [] [(6,.mp (jk K2)),(2,.mp (qr M))] 8 (.tup []) hIsFn (cp2) (by ((repeat' (first|exact q9|apply qR|exact q8 rfl|exact jy|(apply qm;apply qD;exact .inr (of_decide_eq_true rfl))|(apply qm;apply qt;exact .inr (of_decide_eq_true rfl))|(apply qm;apply qz;exact .inr (of_decide_eq_true rfl))|apply jd|apply je)))<;>fail) (by ((repeat' (first|exact qG|exact qF|refine qx _ ?_ ?_|refine qw ?_ ?_|exact qq|exact qb (qh _)|exact qb (qL _)|exact qb (qp _)|exact qv (fun _=>rfl)|refine qy ?_|exact ql|apply qd|exact qk rfl|(apply qt;exact .inr (of_decide_eq_true rfl))|(apply qz;exact .inr (of_decide_eq_true rfl))|(apply qD;exact .inr (of_decide_eq_true rfl))|fail)))<;>fail) (by ((repeat' (first|exact qG|exact qF|refine qx _ ?_ ?_|refine qw ?_ ?_|exact qq|exact qb (qh _)|exact qb (qL _)|exact qb (qp _)|exact qv (fun _=>rfl)|refine qy ?_|exact ql|apply qd|exact qk rfl|(apply qt;exact .inr (of_decide_eq_true rfl))|(apply qz;exact .inr (of_decide_eq_true rfl))|(apply qD;exact .inr (of_decide_eq_true rfl))|fail)))<;>fail) ?_
  repeat' (first|refine qn ?_|(first|(refine xC ?_))|((first|refine qf ?_ ?_|refine qe ?_ ?_|refine xsC ?_ ?_);all_goals (intro hc;have hp:=hc;try simp at hp;try (exfalso;omega)))|refine qX ?_ ?_)
  refine ⟨3 - 2,_,by omega,qB (τ:=⟨[(0,.op 0 0 0),(3,.mp 6),(31,.os 7 0 3),(32,.v (.int .i64 3)),(33,.v (.int .i64 ((2:Nat):Int)))],[(0,.own false 5 [vm 5 0]),(1,.mp (qr B)),(2,.mp (qr M)),(3,.mp (qr T)),(4,.mp (qr [])),(5,.own false 2 []),(6,.mp (jk (qfh K1 K2 (ze B M T) 2))),(7,.own false 1 [[.mp 1],[.mp 2],[.mp 3]])],8⟩) [(5,5),(6,6),(7,7)] rfl ?gts ?ghs,2,by omega,rfl,trivial,rfl⟩;(case gts=>(repeat (first|exact qg|refine qo ?_|refine yg ?_|refine xM ?_|refine zi ?_|refine xN ?_ ?_|refine qY ?_ ?_));all_goals (first|exact qh _|exact qL _|rfl|trace_state));(case ghs=>(repeat' (first|exact qj|refine jx ?_|refine zy ?_|refine x2 ?_ ?_ ?_|refine ve ?_ ?_|refine yY ?_ ?_|refine xh ?_ ?_ ?_ ?_|refine q6 ?_ ?_|exact ql|apply qd|exact qk rfl|(apply qt;(first|exact qN rfl|exact .inr (List.mem_cons_self ..)|exact .inr (List.mem_cons_of_mem _ (List.mem_cons_self ..))|exact .inr (List.mem_cons_of_mem _ (List.mem_cons_of_mem _ (List.mem_cons_self ..)))|exact .inr (List.mem_cons_of_mem _ (List.mem_cons_of_mem _ (List.mem_cons_of_mem _ (List.mem_cons_self ..))))))|refine ju ?_|refine xi ?_ rfl|with_reducible exact List.Perm.refl _));all_goals (first|exact qh _|exact qL _|rfl|trace_state))
 ·repeat' (first|refine qn ?_|(first|(refine xC ?_))|((first|refine qf ?_ ?_|refine qe ?_ ?_|refine xsC ?_ ?_);all_goals (intro hc;have hp:=hc;try simp at hp;try (exfalso;omega)))|refine qX ?_ ?_)
  all_goals try (exfalso;first|omega|contradiction)
  apply jo Tryz.func113 rfl rfl
  intro hIsFn
  refine yD [6,3] [] [(6,.mp (jk (ze B M T))),(3,.mp (qr T))] 8 (.tup []) hIsFn (cp3) (by ((repeat' (first|exact q9|apply qR|exact q8 rfl|exact jy|(apply qm;apply qD;exact .inr (of_decide_eq_true rfl))|(apply qm;apply qt;exact .inr (of_decide_eq_true rfl))|(apply qm;apply qz;exact .inr (of_decide_eq_true rfl))|apply jd|apply je)))<;>fail) (by ((repeat' (first|exact qG|exact qF|refine qx _ ?_ ?_|refine qw ?_ ?_|exact qq|exact qb (qh _)|exact qb (qL _)|exact qb (qp _)|exact qv (fun _=>rfl)|refine qy ?_|exact ql|apply qd|exact qk rfl|(apply qt;exact .inr (of_decide_eq_true rfl))|(apply qz;exact .inr (of_decide_eq_true rfl))|(apply qD;exact .inr (of_decide_eq_true rfl))|fail)))<;>fail) (by ((repeat' (first|exact qG|exact qF|refine qx _ ?_ ?_|refine qw ?_ ?_|exact qq|exact qb (qh _)|exact qb (qL _)|exact qb (qp _)|exact qv (fun _=>rfl)|refine qy ?_|exact ql|apply qd|exact qk rfl|(apply qt;exact .inr (of_decide_eq_true rfl))|(apply qz;exact .inr (of_decide_eq_true rfl))|(apply qD;exact .inr (of_decide_eq_true rfl))|fail)))<;>fail) ?_
  repeat' (first|refine qn ?_|(first|(refine xC ?_))|((first|refine qf ?_ ?_|refine qe ?_ ?_|refine xsC ?_ ?_);all_goals (intro hc;have hp:=hc;try simp at hp;try (exfalso;omega)))|refine qX ?_ ?_)
  refine ⟨3 - 3,_,by omega,qB (τ:=⟨[(0,.op 0 0 0),(3,.mp 6),(31,.os 7 0 3),(32,.v (.int .i64 3)),(33,.v (.int .i64 ((3:Nat):Int)))],[(0,.own false 5 [vm 5 0]),(1,.mp (qr B)),(2,.mp (qr M)),(3,.mp (qr T)),(4,.mp (qr [])),(5,.own false 2 []),(6,.mp (jk (qfh K1 K2 (ze B M T) 3))),(7,.own false 1 [[.mp 1],[.mp 2],[.mp 3]])],8⟩) [(5,5),(6,6),(7,7)] rfl ?gts ?ghs,3,by omega,rfl,trivial,rfl⟩;(case gts=>(repeat (first|exact qg|refine qo ?_|refine yg ?_|refine xM ?_|refine zi ?_|refine xN ?_ ?_|refine qY ?_ ?_));all_goals (first|exact qh _|exact qL _|rfl|trace_state));(case ghs=>(repeat' (first|exact qj|refine jx ?_|refine zy ?_|refine x2 ?_ ?_ ?_|refine ve ?_ ?_|refine yY ?_ ?_|refine xh ?_ ?_ ?_ ?_|refine q6 ?_ ?_|exact ql|apply qd|exact qk rfl|(apply qt;(first|exact qN rfl|exact .inr (List.mem_cons_self ..)|exact .inr (List.mem_cons_of_mem _ (List.mem_cons_self ..))|exact .inr (List.mem_cons_of_mem _ (List.mem_cons_of_mem _ (List.mem_cons_self ..)))|exact .inr (List.mem_cons_of_mem _ (List.mem_cons_of_mem _ (List.mem_cons_of_mem _ (List.mem_cons_self ..))))))|refine ju ?_|refine xi ?_ rfl|with_reducible exact List.Perm.refl _));all_goals (first|exact qh _|exact qL _|rfl|trace_state))
 ·clear cp1 cp2 cp3 pall pth
  repeat' (first|(refine Awp.red (qB (τ:=⟨[(0,.op 0 0 0),(3,.mp 6)],[(0,.own false 5 [vm 5 0]),(1,.mp (qr B)),(2,.mp (qr M)),(3,.mp (qr T)),(4,.mp (qr [])),(5,.own false 2 []),(6,.mp (jk (ze B M T)))],7⟩) [(5,5),(6,6)] rfl ?_ ?_) ?_;rotate_left 2;exact qcF B M T hB hM hT (ze B M T) rfl lP;(focus ((repeat (first|exact qg|refine qo ?_|refine yg ?_|refine xM ?_|refine zi ?_|refine xN ?_ ?_|refine qY ?_ ?_));all_goals trace_state));(focus ((repeat' (first|exact qj|refine kh ?_|refine x2 ?_ ?_ ?_|refine zy ?_));all_goals (first|with_reducible exact qh _|with_reducible exact qp _|with_reducible exact qL _|with_reducible exact List.Perm.refl _|rfl|trace_state))))|refine Zk ?_|((first|refine qf ?_ ?_|refine qe ?_ ?_|refine xsC ?_ ?_);all_goals (intro hc;have hp:=hc;try simp at hp;try (exfalso;omega)))|refine qX ?_ ?_)
end Go.Proofs.YtamejbkifpjhiaaGreatDoor
