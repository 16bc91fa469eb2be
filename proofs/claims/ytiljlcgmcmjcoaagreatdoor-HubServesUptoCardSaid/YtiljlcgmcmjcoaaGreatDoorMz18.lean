import Derived.Test.YtiljlcgmcmjcoaaGreatDoorMz14
import Derived.Test.YtiljlcgmcmjcoaaGreatDoorMz17
import Derived.Test.YtiljlcgmcmjcoaaGreatDoorMz1
import Derived.Test.YtiljlcgmcmjcoaaGreatDoorMz2
set_option linter.unusedSimpArgs false
set_option maxHeartbeats 1000000
namespace Go.Proofs.YtiljlcgmcmjcoaaGreatDoor
open Go.Ab Go.RowKit
set_option maxRecDepth 10000
attribute [local irreducible] Awp ye ji qQ Red qF Go.Ab.Fin qo Rz xx qG qO ResOk jK je jX qW
theorem qhr (l:List Gra) (hl:l.length ≤ 1000000):jO C.P 76 [q9 l] (.v (.bool (Qx l))):=by
 refine qa Tryz.func76 rfl _ Tryz.ntmps76 (Nat.le_of_ble_eq_true rfl) _ Tryz.results76 0 rfl rfl ?_
 repeat' (first|refine qe ?_|(first|(apply yW;apply zr;exact nle rfl)|(apply qj;apply zE;rfl;rfl;rfl;rfl;exact nle rfl)|(apply xS;apply vw;rfl;rfl;rfl;rfl;rfl;rfl;rfl;rfl))|((first|refine xsC ?_ ?_);all_goals (intro hc;have hp:=hc;try simp at hp;try (exfalso;omega)))|refine qp ?_ ?_)
 (refine Awp.red (qY (τ:=⟨[(3,.mp 0),(4,.mp 1),(9,q9 l),(10,.v (.int .i64 l.length)),(11,.v (.int .i64 ((0:Nat):Int)))],[(0,.mp (VS (l.take 0))),(1,.mp (XC (l.take 0)))],2⟩) [(0,0),(1,1)] rfl ?gts ?ghs) ?gmain;(case gts=>(repeat (first|exact qd|(apply wM;(case hx=>rfl);(case hp=>first|rfl|(simp [AV.pure,AV.pure.pureL, *];done)))|(apply JZ;(case hx=>rfl);(case hm=>(first|exact jj rfl|exact .inr (List.mem_cons_self ..)|exact .inr (List.mem_cons_of_mem _ (List.mem_cons_self ..))|exact .inr (List.mem_cons_of_mem _ (List.mem_cons_of_mem _ (List.mem_cons_self ..)))|exact .inr (List.mem_cons_of_mem _ (List.mem_cons_of_mem _ (List.mem_cons_of_mem _ (List.mem_cons_self ..)))))))|(apply J7;rfl;(first|exact jj rfl|exact .inr (List.mem_cons_self ..)|exact .inr (List.mem_cons_of_mem _ (List.mem_cons_self ..))|exact .inr (List.mem_cons_of_mem _ (List.mem_cons_of_mem _ (List.mem_cons_self ..)))|exact .inr (List.mem_cons_of_mem _ (List.mem_cons_of_mem _ (List.mem_cons_of_mem _ (List.mem_cons_self ..))))))|(apply Y8;(conv=>lhs;whnf);rotate_left;rfl)));all_goals (rw [List.length_map]));(case ghs=>(repeat (first|exact qf|(apply Xp;(case hm=>(first|exact jj rfl|exact .inr (List.mem_cons_self ..)|exact .inr (List.mem_cons_of_mem _ (List.mem_cons_self ..))|exact .inr (List.mem_cons_of_mem _ (List.mem_cons_of_mem _ (List.mem_cons_self ..)))|exact .inr (List.mem_cons_of_mem _ (List.mem_cons_of_mem _ (List.mem_cons_of_mem _ (List.mem_cons_self ..))))));(case hx=>rfl);(case hp=>first|assumption|exact nofun|skip);(first|(case hr=>rfl)|(case hr=>assumption)|rotate_left))))))
 refine qq (fun n σ => ∃ i:Nat,i ≤ l.length ∧ n = l.length - i ∧ (True) ∧ σ = ⟨[(3,.mp 0),(4,.mp 1),(9,q9 l),(10,.v (.int .i64 l.length)),(11,.v (.int .i64 (i:Int)))],[(0,.mp (VS (l.take i))),(1,.mp (XC (l.take i)))],2⟩) l.length ⟨0,Nat.zero_le _,rfl,trivial,rfl⟩ ?_
 rintro n σ ⟨i,hi,rfl, -,rfl⟩
 by_cases hlt:i < l.length
 ·have hr:=qx (f:=Gra.row) hlt
  have hp1:=Yc ((l.take (i + 1)).map (·.folder))
  have hp2:=Yc (((l.take (i + 1)).filter (fun g=>decide (g.right = 3))).map (·.folder))
  repeat' (first|refine qe ?_|(first|(apply yW;apply zr;exact nle rfl)|(apply qj;apply zE;rfl;rfl;rfl;rfl;exact nle rfl)|(apply xS;apply vw;rfl;rfl;rfl;rfl;rfl;rfl;rfl;rfl))|((first|refine xsC ?_ ?_);all_goals (intro hc;have hp:=hc;try simp at hp;try (exfalso;omega)))|refine qp ?_ ?_)
  all_goals try (exfalso;omega)
  all_goals try (have h3:=qfz hlt hp)
  all_goals try (have h3:=qhH hlt hp)
  all_goals (have h4:=KW hlt)
  all_goals (refine ⟨l.length - (i + 1),_,by omega,qY (τ:=⟨[(3,.mp 0),(4,.mp 1),(9,q9 l),(10,.v (.int .i64 l.length)),(11,.v (.int .i64 ((i + 1:Nat):Int)))],[(0,.mp (VS (l.take (i + 1)))),(1,.mp (XC (l.take (i + 1))))],2⟩) [(0,0),(1,1)] rfl ?gts ?ghs,i + 1,by omega,rfl,trivial,rfl⟩;(case gts=>(repeat (first|exact qd|(apply wM;(case hx=>rfl);(case hp=>first|rfl|(simp [AV.pure,AV.pure.pureL, *];done)))|(apply JZ;(case hx=>rfl);(case hm=>(first|exact jj rfl|exact .inr (List.mem_cons_self ..)|exact .inr (List.mem_cons_of_mem _ (List.mem_cons_self ..))|exact .inr (List.mem_cons_of_mem _ (List.mem_cons_of_mem _ (List.mem_cons_self ..)))|exact .inr (List.mem_cons_of_mem _ (List.mem_cons_of_mem _ (List.mem_cons_of_mem _ (List.mem_cons_self ..)))))))|(apply J7;rfl;(first|exact jj rfl|exact .inr (List.mem_cons_self ..)|exact .inr (List.mem_cons_of_mem _ (List.mem_cons_self ..))|exact .inr (List.mem_cons_of_mem _ (List.mem_cons_of_mem _ (List.mem_cons_self ..)))|exact .inr (List.mem_cons_of_mem _ (List.mem_cons_of_mem _ (List.mem_cons_of_mem _ (List.mem_cons_self ..))))))|(apply Y8;(conv=>lhs;whnf);rotate_left;rfl))));(case ghs=>(repeat (first|exact qf|(apply Xp;(case hm=>(first|exact jj rfl|exact .inr (List.mem_cons_self ..)|exact .inr (List.mem_cons_of_mem _ (List.mem_cons_self ..))|exact .inr (List.mem_cons_of_mem _ (List.mem_cons_of_mem _ (List.mem_cons_self ..)))|exact .inr (List.mem_cons_of_mem _ (List.mem_cons_of_mem _ (List.mem_cons_of_mem _ (List.mem_cons_self ..))))));(case hx=>rfl);(case hp=>first|assumption|exact nofun|skip);(first|(case hr=>rfl)|(case hr=>assumption)|rotate_left))));all_goals (first|exact h3.symm|exact h4.symm)))
 obtain rfl:i = l.length:=by omega
 repeat' (first|refine qe ?_|(first|(apply yW;apply zr;exact nle rfl)|(apply qj;apply zE;rfl;rfl;rfl;rfl;exact nle rfl)|(apply xS;apply vw;rfl;rfl;rfl;rfl;rfl;rfl;rfl;rfl))|((first|refine xsC ?_ ?_);all_goals (intro hc;have hp:=hc;try simp at hp;try (exfalso;omega)))|refine qp ?_ ?_)
 all_goals try (exfalso;omega)
 apply jd
 rfl
 rw [← qcG,List.take_length]
 simp [Int.ofNat_inj]
end Go.Proofs.YtiljlcgmcmjcoaaGreatDoor
set_option linter.unusedSimpArgs false
set_option maxHeartbeats 1000000
namespace Go.Proofs.YtiljlcgmcmjcoaaGreatDoor
open Go.Ab Go.RowKit
set_option maxRecDepth 10000
attribute [local irreducible] Awp ye ji qQ Red qF Go.Ab.Fin qo Rz xx qG qO ResOk jK je jX qW
theorem qbo (l:List Gra) (hl:l.length ≤ 140737488355328) (f:qC):jO C.P 77 [q9 l,.v (str f)] (.v (.bool (Yw l f))):=by
 refine qa Tryz.func77 rfl _ Tryz.ntmps77 (Nat.le_of_ble_eq_true rfl) _ Tryz.results77 0 rfl rfl ?_
 repeat' (first|refine qe ?_|fail|((first|refine qb ?_ ?_|refine qc ?_ ?_|refine xsC ?_ ?_);all_goals (intro hc;have hp:=hc;try simp at hp;try (exfalso;omega)))|refine qp ?_ ?_)
 (refine Awp.red (qg (ts:=[(0,q9 l),(1,.v (str f)),(5,.v (.int .i64 ((0:Nat):Int)))]) ?_) ?_;((repeat (first|exact qd|refine qi ?_|refine qI ?_ ?_))))
 refine qq (fun n σ => ∃ i:Nat,i ≤ l.length ∧ n = l.length - i ∧ (∀ g,g ∈ l.take i → (decide (g.folder = f) && decide (g.right = 3)) = false) ∧ σ = ⟨[(0,q9 l),(1,.v (str f)),(5,.v (.int .i64 (i:Int)))],[],C.nh⟩) l.length ⟨0,Nat.zero_le _,rfl,(by simp),rfl⟩ ?_
 rintro n σ ⟨i,hi,rfl,hsofar,rfl⟩
 by_cases hlt:i < l.length
 ·have hr:=qx (f:=Gra.row) hlt
  repeat' (first|refine qe ?_|fail|((first|refine qb ?_ ?_|refine qc ?_ ?_|refine xsC ?_ ?_);all_goals (intro hc;have hp:=hc;try simp at hp;try (exfalso;omega)))|refine qp ?_ ?_)
  all_goals try (exfalso;omega)
  all_goals first
   | (have he:(decide (l[i].folder = f) && decide (l[i].right = 3)) = false:=(by simp_all)
      refine ⟨l.length - (i + 1),_,by omega,qg (ts:=[(0,q9 l),(1,.v (str f)),(5,.v (.int .i64 ((i + 1:Nat):Int)))]) ?_,i + 1,by omega,rfl,qJ hlt hsofar he,rfl⟩;((repeat (first|exact qd|refine qi ?_|refine qI ?_ ?_))))
   | (apply jd;rfl;exact (List.any_eq_true.2 ⟨l[i],List.getElem_mem _,by simp_all⟩).symm)
 obtain rfl:i = l.length:=by omega
 repeat' (first|refine qe ?_|fail|((first|refine qb ?_ ?_|refine qc ?_ ?_|refine xsC ?_ ?_);all_goals (intro hc;have hp:=hc;try simp at hp;try (exfalso;omega)))|refine qp ?_ ?_)
 all_goals try (exfalso;omega)
 apply jd
 rfl
 rw [List.take_length] at hsofar
 exact (List.any_eq_false.2 (fun g hg=>by rw [hsofar g hg];simp)).symm
theorem Jn (l:List Gra) (hl:GBig l):jO C.P 39 [q9 l] (.v (.int .i64 (jH l))):=by
 have hll:=hl.len
 refine qa Tryz.func39 rfl _ Tryz.ntmps39 (Nat.le_of_ble_eq_true rfl) _ Tryz.results39 0 rfl rfl ?_
 repeat' (first|refine qe ?_|fail|((first|refine qb ?_ ?_|refine qc ?_ ?_|refine xsC ?_ ?_);all_goals (intro hc;have hp:=hc;try simp at hp;try (exfalso;omega)))|refine qp ?_ ?_)
 ·apply qE
  rfl
  have h60:60 < l.length:=by omega
  simp [jH,h60]
 have h60:¬ 60 < l.length:=by omega
 (refine Awp.red (qg (ts:=[(0,q9 l),(9,q9 l),(10,.v (.int .i64 l.length)),(11,.v (.int .i64 ((0:Nat):Int)))]) ?_) ?_;((repeat (first|exact qd|refine qi ?_|refine qI ?_ ?_))))
 all_goals try (rw [List.length_map];done)
 refine qq (fun n σ => ∃ i:Nat,i ≤ l.length ∧ n = l.length - i ∧ (∀ g,g ∈ l.take i → vR g = 0) ∧ σ = ⟨[(0,q9 l),(9,q9 l),(10,.v (.int .i64 l.length)),(11,.v (.int .i64 (i:Int)))],[],C.nh⟩) l.length ⟨0,Nat.zero_le _,rfl,(by simp),rfl⟩ ?_
 rintro n σ ⟨i,hi,rfl,hsofar,rfl⟩
 by_cases hlt:i < l.length
 ·have hr:=qx (f:=Gra.row) hlt
  have hsm:=hl.each l[i] (List.getElem_mem _)
  have hnm:=Y9 [l[i].folder,l[i].who] (by simp) (by simp;exact hsm)
  simp only [List.map,List.all_cons,List.all_nil,Bool.and_true] at hnm
  repeat' (first|refine qe ?_|(first|refine xsQ Tryz.func62 (hnm ..) ?_|(refine jN ?_))|((first|refine qb ?_ ?_|refine qc ?_ ?_|refine xsC ?_ ?_);all_goals (intro hc;have hp:=hc;try simp at hp;try (exfalso;omega)))|refine qp ?_ ?_)
  all_goals try (exfalso;omega)
  all_goals first
   | (apply qE;rfl;exact wz h60 hlt hsofar (VH (by assumption)) (by omega))
   | (apply qE;rfl;exact wz h60 hlt hsofar (YU (by assumption) (by omega)) (by omega))
   | (have he:vR l[i] = 0:=X4 (by assumption) (by omega)
      refine ⟨l.length - (i + 1),_,by omega,qg (ts:=[(0,q9 l),(9,q9 l),(10,.v (.int .i64 l.length)),(11,.v (.int .i64 ((i + 1:Nat):Int)))]) ?_,i + 1,by omega,rfl,qJ hlt hsofar he,rfl⟩;((repeat (first|exact qd|refine qi ?_|refine qI ?_ ?_))))
 obtain rfl:i = l.length:=by omega
 have hz:jU vR l = 0:=jL.2 (fun s hs=>hsofar s (by rw [List.take_length];exact hs))
 clear hsofar
 repeat' (first|refine qe ?_|fail|((first|refine qb ?_ ?_|refine qc ?_ ?_|refine xsC ?_ ?_);all_goals (intro hc;have hp:=hc;try simp at hp;try (exfalso;omega)))|refine qp ?_ ?_)
 all_goals try (exfalso;omega)
 (refine Awp.red (qg (ts:=[(0,q9 l),(5,.v (.int .i64 ((0 + 1:Nat):Int)))]) ?_) ?_;((repeat (first|exact qd|refine qi ?_|refine qI ?_ ?_))))
 refine qq (fun n σ => ∃ i:Nat,i ≤ (l.drop 1).length ∧ n = (l.drop 1).length - i ∧ (∀ (k:Nat) (h:k + 1 < l.length),k < i → jv (l[k]'(by omega)) l[k + 1] = true) ∧ σ = ⟨[(0,q9 l),(5,.v (.int .i64 ((i + 1:Nat):Int)))],[],C.nh⟩) (l.drop 1).length ⟨0,Nat.zero_le _,rfl,(fun k h hk=>absurd hk (Nat.not_lt_zero _)),rfl⟩ ?_
 have hdl:(l.drop 1).length = l.length - 1:=by simp
 rintro n σ ⟨i,hi,rfl,hsofar,rfl⟩
 by_cases hlt:i + 1 < l.length
 ·have hr:=qx (f:=Gra.row) hlt
  have hr':=qx (f:=Gra.row) (l:=l) (i:=i) (by omega)
  repeat' (first|refine qe ?_|(first|refine xsF Tryz.func75 (V7 ..) ?_)|((first|refine qb ?_ ?_|refine qc ?_ ?_|refine xsC ?_ ?_);all_goals (intro hc;have hp:=hc;try simp at hp;try (exfalso;omega)))|refine qp ?_ ?_)
  all_goals try (exfalso;simp_all;done)
  ·have hrf:¬ qv jv l = true:=fun h=>by
    have:=(wZ _ _).2 (yf.1 h i hlt)
    omega
   apply qE
   rfl
   simp [jH,h60,hz,hrf]
  ·refine ⟨(l.drop 1).length - (i + 1),_,by omega,qg (ts:=[(0,q9 l),(5,.v (.int .i64 ((i + 1 + 1:Nat):Int)))]) ?_,i + 1,by omega,rfl,(fun k h hk=>by
    by_cases e:k = i
    ·subst e;exact (wZ _ _).1 (by omega)
    ·exact hsofar k h (by omega)),rfl⟩;((repeat (first|exact qd|refine qi ?_|refine qI ?_ ?_)))
 have hrise:qv jv l = true:=yf.2 fun k h=>hsofar k h (by simp at hi;omega)
 clear hsofar
 have hown:=qhr l (by omega)
 repeat' (first|refine qe ?_|(first|refine xsF Tryz.func76 (hown ..) ?_)|((first|refine qb ?_ ?_|refine qc ?_ ?_|refine xsC ?_ ?_);all_goals (intro hc;have hp:=hc;try simp at hp;try (exfalso;omega)))|refine qp ?_ ?_)
 all_goals try (exfalso;omega)
 all_goals (apply qE;rfl;simp_all [jH])
end Go.Proofs.YtiljlcgmcmjcoaaGreatDoor
set_option linter.unusedSimpArgs false
set_option maxHeartbeats 1000000
namespace Go.Proofs.YtiljlcgmcmjcoaaGreatDoor
open Go.Ab Go.RowKit
set_option maxRecDepth 10000
attribute [local irreducible] Awp ye ji qQ Red qF Go.Ab.Fin qo Rz xx qG qO ResOk jK je jX qW
theorem qe4 (a b:Gra):jv a b = true ↔ ¬ (Op.bytesLess b.folder a.folder = true ∨ (b.folder = a.folder ∧ (Op.bytesLess b.who a.who = true ∨ b.who = a.who))):=by
 have h:=qep a b
 rw [Bool.eq_iff_iff] at h
 simp only [Bool.or_eq_true,Bool.and_eq_true,decide_eq_true_eq,Bool.not_eq_true',Bool.eq_false_iff] at h
 rw [h];simp
theorem qeF (l:List Gra) (hl:GBig l):jO C.P 42 [q9 l] (.v (.int .i64 (jH l))):=by
 have hll:=hl.len
 refine qa Tryz.func42 rfl _ Tryz.ntmps42 (Nat.le_of_ble_eq_true rfl) _ Tryz.results42 0 rfl rfl ?_
 repeat' (first|refine qe ?_|fail|((first|refine qb ?_ ?_|refine qc ?_ ?_|refine xsC ?_ ?_);all_goals (intro hc;have hp:=hc;try simp at hp;try (exfalso;omega)))|refine qp ?_ ?_)
 ·apply qE
  rfl
  have h60:60 < l.length:=by omega
  simp [jH,h60]
 have h60:¬ 60 < l.length:=by omega
 (refine Awp.red (qg (ts:=[(0,q9 l),(3,.v (.int .i64 ((0:Nat):Int)))]) ?_) ?_;((repeat (first|exact qd|refine qi ?_|refine qI ?_ ?_))))
 refine qq (fun n σ => ∃ i:Nat,i ≤ l.length ∧ n = l.length - i ∧ (∀ g,g ∈ l.take i → vR g = 0) ∧ σ = ⟨[(0,q9 l),(3,.v (.int .i64 (i:Int)))],[],C.nh⟩) l.length ⟨0,Nat.zero_le _,rfl,(by simp),rfl⟩ ?_
 rintro n σ ⟨i,hi,rfl,hsofar,rfl⟩
 by_cases hlt:i < l.length
 ·have hr:=qx (f:=Gra.row) hlt
  have hsm:=hl.each l[i] (List.getElem_mem _)
  repeat' (first|refine qe ?_|(first|refine xsF Tryz.func25 (vU _ hsm.1 ..) ?_|refine xsF Tryz.func25 (vU _ hsm.2 ..) ?_)|((first|refine qb ?_ ?_|refine qc ?_ ?_|refine xsC ?_ ?_);all_goals (intro hc;have hp:=hc;try simp at hp;try (exfalso;omega)))|refine qp ?_ ?_)
  all_goals try (exfalso;omega)
  all_goals first
   | (apply qE;rfl;exact wz h60 hlt hsofar (VH (by first|(left;assumption)|(right;assumption))) (by omega))
   | (apply qE;rfl;exact wz h60 hlt hsofar (YU ⟨by assumption,by assumption⟩ (by omega)) (by omega))
   | (have he:vR l[i] = 0:=X4 ⟨by assumption,by assumption⟩ (by omega)
      refine ⟨l.length - (i + 1),_,by omega,qg (ts:=[(0,q9 l),(3,.v (.int .i64 ((i + 1:Nat):Int)))]) ?_,i + 1,by omega,rfl,qJ hlt hsofar he,rfl⟩;((repeat (first|exact qd|refine qi ?_|refine qI ?_ ?_))))
 obtain rfl:i = l.length:=by omega
 have hz:jU vR l = 0:=jL.2 (fun s hs=>hsofar s (by rw [List.take_length];exact hs))
 clear hsofar
 repeat' (first|refine qe ?_|fail|((first|refine qb ?_ ?_|refine qc ?_ ?_|refine xsC ?_ ?_);all_goals (intro hc;have hp:=hc;try simp at hp;try (exfalso;omega)))|refine qp ?_ ?_)
 all_goals try (exfalso;omega)
 (refine Awp.red (qg (ts:=[(0,q9 l),(4,.v (.int .i64 ((0 + 1:Nat):Int)))]) ?_) ?_;((repeat (first|exact qd|refine qi ?_|refine qI ?_ ?_))))
 refine qq (fun n σ => ∃ i:Nat,i ≤ (l.drop 1).length ∧ n = (l.drop 1).length - i ∧ (∀ (k:Nat) (h:k + 1 < l.length),k < i → jv (l[k]'(by omega)) l[k + 1] = true) ∧ σ = ⟨[(0,q9 l),(4,.v (.int .i64 ((i + 1:Nat):Int)))],[],C.nh⟩) (l.drop 1).length ⟨0,Nat.zero_le _,rfl,(fun k h hk=>absurd hk (Nat.not_lt_zero _)),rfl⟩ ?_
 have hdl:(l.drop 1).length = l.length - 1:=by simp
 rintro n σ ⟨i,hi,rfl,hsofar,rfl⟩
 by_cases hlt:i + 1 < l.length
 ·have hr:=qx (f:=Gra.row) hlt
  have hr':=qx (f:=Gra.row) (l:=l) (i:=i) (by omega)
  have hiff:=qe4 l[i] l[i + 1]
  repeat' (first|refine qe ?_|fail|((first|refine qb ?_ ?_|refine qc ?_ ?_|refine xsC ?_ ?_);all_goals (intro hc;have hp:=hc;try simp at hp;try (exfalso;omega)))|refine qp ?_ ?_)
  all_goals try (exfalso;omega)
  all_goals first
   | (have hrf:¬ qv jv l = true:=fun h=>absurd (yf.1 h i hlt) (by rw [hiff];simp_all)
      apply qE
      rfl
      simp [jH,h60,hz,hrf])
   | (have hok:jv l[i] l[i + 1] = true:=(by rw [hiff];simp_all)
      refine ⟨(l.drop 1).length - (i + 1),_,by omega,qg (ts:=[(0,q9 l),(4,.v (.int .i64 ((i + 1 + 1:Nat):Int)))]) ?_,i + 1,by omega,rfl,(fun k h hk=>by
     by_cases e:k = i
     ·subst e;exact hok
     ·exact hsofar k h (by omega)),rfl⟩;((repeat (first|exact qd|refine qi ?_|refine qI ?_ ?_))))
 have hrise:qv jv l = true:=yf.2 fun k h=>hsofar k h (by simp at hi;omega)
 clear hsofar
 repeat' (first|refine qe ?_|fail|((first|refine qb ?_ ?_|refine qc ?_ ?_|refine xsC ?_ ?_);all_goals (intro hc;have hp:=hc;try simp at hp;try (exfalso;omega)))|refine qp ?_ ?_)
 all_goals try (exfalso;omega)
 (refine Awp.red (qg (ts:=[(0,q9 l),(5,.v (.int .i64 ((0:Nat):Int)))]) ?_) ?_;((repeat (first|exact qd|refine qi ?_|refine qI ?_ ?_))))
 refine qq (fun n σ => ∃ i:Nat,i ≤ l.length ∧ n = l.length - i ∧ (∀ g,g ∈ l.take i → Yw l g.folder = true) ∧ σ = ⟨[(0,q9 l),(5,.v (.int .i64 (i:Int)))],[],C.nh⟩) l.length ⟨0,Nat.zero_le _,rfl,(by simp),rfl⟩ ?_
 rintro n σ ⟨i,hi,rfl,hsofar,rfl⟩
 by_cases hlt:i < l.length
 ·have hr:=qx (f:=Gra.row) hlt
  repeat' (first|refine qe ?_|(first|(apply qN Tryz.func77 rfl rfl;intro hIsFn;refine qat hIsFn (qbo l (by omega) ..) ?_;skip))|((first|refine qb ?_ ?_|refine qc ?_ ?_|refine xsC ?_ ?_);all_goals (intro hc;have hp:=hc;try simp at hp;try (exfalso;omega)))|refine qp ?_ ?_)
  all_goals try (exfalso;omega)
  all_goals first
   | (have hof:¬ Qx l = true:=fun h=>by
        have:=List.all_eq_true.1 h l[i] (List.getElem_mem _)
        simp_all
      apply qE
      rfl
      simp [jH,h60,hz,hrise,hof])
   | (refine ⟨l.length - (i + 1),_,by omega,qg (ts:=[(0,q9 l),(5,.v (.int .i64 ((i + 1:Nat):Int)))]) ?_,i + 1,by omega,rfl,qJ hlt hsofar (by assumption),rfl⟩;((repeat (first|exact qd|refine qi ?_|refine qI ?_ ?_))))
 obtain rfl:i = l.length:=by omega
 have hown:Qx l = true:=List.all_eq_true.2 fun g hg=>hsofar g (by rw [List.take_length];exact hg)
 clear hsofar
 repeat' (first|refine qe ?_|fail|((first|refine qb ?_ ?_|refine qc ?_ ?_|refine xsC ?_ ?_);all_goals (intro hc;have hp:=hc;try simp at hp;try (exfalso;omega)))|refine qp ?_ ?_)
 all_goals try (exfalso;omega)
 apply qE
 rfl
 simp [jH,h60,hz,hrise,hown]
end Go.Proofs.YtiljlcgmcmjcoaaGreatDoor
set_option linter.unusedSimpArgs false
set_option maxHeartbeats 1000000
namespace Go.Proofs.YtiljlcgmcmjcoaaGreatDoor
open Go.Ab Go.RowKit
set_option maxRecDepth 10000
attribute [local irreducible] Awp ye ji qQ Red qF Go.Ab.Fin qo Rz xx qG qO ResOk jK je jX qW
theorem qgf (l:List Gra) (g:Gra) (hl:l.length ≤ 1000000) (hs:qv jv l = true) :
  jO C.P 136 [q9 l,.agg g.row,.clo (.func 75) [] []] (.tup [.v (.int .i64 (v2 l g)),.v (.bool (kq l g))]):=by
 refine qa Tryz.func136 rfl _ Tryz.ntmps136 (Nat.le_of_ble_eq_true rfl) _ Tryz.results136 0 rfl rfl ?_
 (repeat apply jg);apply qw;(repeat' (first|apply qT|refine xi ?_|refine xe ?_|refine xl ?_|refine xj ?_|refine vm ?_|refine xb ?_|refine vb ?_|refine xn ?_|(first|fail)|refine yg ?_|refine j6 ?_|refine j4 ?_|refine jF ?_|refine jG ?_|refine yL ?_|refine yK ?_|refine j7 ?_|refine j8 ?_|((first|refine qb ?_ ?_|refine qc ?_ ?_);all_goals (intro hc;have hp:=hc;try simp at hp;try (exfalso;omega)))));show Awp _ _ _ _ _
 refine xV 4 0 ?_
 repeat' (first|refine qe ?_|fail|((first|refine qb ?_ ?_|refine qc ?_ ?_|refine xsC ?_ ?_);all_goals (intro hc;have hp:=hc;try simp at hp;try (exfalso;omega)))|refine qp ?_ ?_)
 (refine Awp.red (qg (ts:=[(0,q9 l),(2,.clo (.func 75) [] []),(4,.fp [g.row] 0 0),(8,.v (.int .i64 l.length)),(9,.v (.int .i64 ((0:Nat):Int))),(10,.v (.int .i64 l.length))]) ?_) ?_;((repeat (first|exact qd|refine qi ?_|refine qI ?_ ?_))))
 all_goals try (rw [List.length_map];done)
 refine qq (fun n σ => ∃ lo hi:Nat,lo ≤ hi ∧ hi ≤ l.length ∧ n = hi - lo ∧ (∀ (k:Nat) (h:k < l.length),k < lo → jv l[k] g = true) ∧ (∀ (k:Nat) (h:k < l.length),hi ≤ k → jv l[k] g = false) ∧ σ = ⟨[(0,q9 l),(2,.clo (.func 75) [] []),(4,.fp [g.row] 0 0),(8,.v (.int .i64 l.length)),(9,.v (.int .i64 ((lo:Nat):Int))),(10,.v (.int .i64 ((hi:Nat):Int)))],[],C.nh⟩) l.length ⟨0,l.length,by omega,Nat.le_refl _,rfl,fun _ _ h=>absurd h (by omega),fun _ _ h=>absurd h (by omega),rfl⟩ ?_
 rintro n σ ⟨lo,hi,hle,hhi,rfl,h1,h2,rfl⟩
 by_cases hlt:lo < hi
 ·obtain ⟨m,hm⟩ : ∃ m:Nat,m = (lo + hi) / 2:=⟨_,rfl⟩
  have hmi:((lo:Int) + (hi:Int)) / 2 = (m:Int):=by omega
  have hml:m < l.length:=by omega
  have hr:=qx (f:=Gra.row) hml
  have hr2:(l.map Gra.row)[(((lo:Int) + (hi:Int)) / 2).toNat]? = some l[m].row:=by rw [hmi];exact hr
  repeat' (first|refine qe ?_|(first|(apply qj;first|(apply XT;rfl;rfl;rfl;rfl;rfl;omega;omega;exact nle rfl)|(apply X2;rfl;rfl;rfl;rfl;rfl;omega;omega;exact nle rfl))|(apply qj;apply WS;(case hx=>rfl);(case hy=>rfl);(case hk=>decide);(case hN=>exact nle rfl))|(refine zO Tryz.func75 (V7 ..) ?_))|((first|refine qb ?_ ?_|refine qc ?_ ?_|refine xsC ?_ ?_);all_goals (intro hc;have hp:=hc;try simp at hp;try (exfalso;omega)))|refine qp ?_ ?_)
  all_goals try (exfalso;omega)
  ·have hmg:jv l[m] g = true:=(wZ _ _).1 hp
   refine ⟨hi - (m + 1),_,by omega,qg (ts:=[(0,q9 l),(2,.clo (.func 75) [] []),(4,.fp [g.row] 0 0),(8,.v (.int .i64 l.length)),(9,.v (.int .i64 ((m + 1:Nat):Int))),(10,.v (.int .i64 ((hi:Nat):Int)))]) ?_,m + 1,hi,by omega,hhi,rfl,fun k h hk=>?_,h2,rfl⟩
   · (repeat (first|exact qd|refine qi ?_|refine qI ?_ ?_))
     all_goals (rw [hmi];rfl)
   ·by_cases e:k = m
    ·subst e;exact hmg
    ·exact wm (J1 hs k m h hml (by omega)) hmg
  ·have hmg:jv l[m] g = false:=(by
    cases h:jv l[m] g
    ·rfl
    ·have:=(wZ _ _).2 h;omega)
   refine ⟨m - lo,_,by omega,qg (ts:=[(0,q9 l),(2,.clo (.func 75) [] []),(4,.fp [g.row] 0 0),(8,.v (.int .i64 l.length)),(9,.v (.int .i64 ((lo:Nat):Int))),(10,.v (.int .i64 ((m:Nat):Int)))]) ?_,lo,m,by omega,by omega,rfl,h1,fun k h hk=>?_,rfl⟩
   · (repeat (first|exact qd|refine qi ?_|refine qI ?_ ?_))
     all_goals (rw [hmi])
   ·by_cases e:k = m
    ·subst e;exact hmg
    ·cases hkg:jv l[k] g
     ·rfl
     ·rw [wm (J1 hs m k hml h (by omega)) hkg] at hmg;cases hmg
 obtain rfl:lo = hi:=by omega
 have hpos:v2 l g = lo:=qae hhi h1 (fun h=>h2 lo h (by omega))
 by_cases hin:lo < l.length
 ·have hr:=qx (f:=Gra.row) hin
  have hhit:kq l g = decide (kQ l[lo] g = 0):=by
   unfold kq
   rw [hpos,List.getElem?_eq_getElem hin]
  repeat' (first|refine qe ?_|(first|(refine zO Tryz.func75 (V7 ..) ?_))|((first|refine qb ?_ ?_|refine qc ?_ ?_|refine xsC ?_ ?_);all_goals (intro hc;have hp:=hc;try simp at hp;try (exfalso;omega)))|refine qp ?_ ?_)
  all_goals try (exfalso;omega)
  rw [hpos,hhit]
  (exact j1 (rs:=[.tmp 6,.tmp 7]))
 ·have hhit:kq l g = false:=by
   unfold kq
   rw [hpos,List.getElem?_eq_none (by omega)]
  repeat' (first|refine qe ?_|(first|(refine zO Tryz.func75 (V7 ..) ?_))|((first|refine qb ?_ ?_|refine qc ?_ ?_|refine xsC ?_ ?_);all_goals (intro hc;have hp:=hc;try simp at hp;try (exfalso;omega)))|refine qp ?_ ?_)
  all_goals try (exfalso;omega)
  rw [hpos,hhit]
  (exact j1 (rs:=[.tmp 6,.tmp 7]))
end Go.Proofs.YtiljlcgmcmjcoaaGreatDoor
set_option linter.unusedSimpArgs false
set_option maxHeartbeats 1000000
namespace Go.Proofs.YtiljlcgmcmjcoaaGreatDoor
open Go.Ab Go.RowKit
set_option maxRecDepth 10000
attribute [local irreducible] Awp ye ji qQ Red qF Go.Ab.Fin qo Rz xx qG qO ResOk jK je jX qW
theorem qcg (l:List Gra) (f w:qC) (hl:l.length ≤ 1000000) (hs:qv jv l = true) :
  jO C.P 108 [q9 l,.v (str f),.v (str w)] (.tup [.v (.int .i64 (v2 l ⟨f,w,0⟩)),.v (.bool (kq l ⟨f,w,0⟩))]):=by
 have hse:=qgf l ⟨f,w,0⟩ hl hs
 refine qa Tryz.func108 rfl _ Tryz.ntmps108 (Nat.le_of_ble_eq_true rfl) _ Tryz.results108 0 rfl rfl ?_
 repeat' (first|refine qe ?_|(first|refine xsQ Tryz.func136 (hse ..) ?_)|((first|refine xsC ?_ ?_);all_goals (intro hc;have hp:=hc;try simp at hp;try (exfalso;omega)))|refine qp ?_ ?_)
 (exact j1 (rs:=[.tmp 6,.tmp 7]))
def jx (l:List Gra) (f w:qC):Int:=match l.find? (sameKey ⟨f,w,0⟩) with|some g=>g.right|none=>0
theorem qb8 {l:List Gra} (hs:qv jv l = true) {f w:qC} (h:kq l ⟨f,w,0⟩ = true) : ∃ hk:v2 l ⟨f,w,0⟩ < l.length,l[v2 l ⟨f,w,0⟩].right = jx l f w:=by
 rw [qbU hs] at h
 obtain ⟨x,hx,hk⟩:=List.any_eq_true.1 h
 obtain ⟨k,hkl,rfl⟩:=List.getElem_of_mem hx
 have hp:=WZ hs hkl hk
 refine ⟨by omega,?_⟩
 have hfind:l.find? (sameKey ⟨f,w,0⟩) = some l[k]:=by
  rw [List.find?_eq_some_iff_getElem]
  refine ⟨hk,k,hkl,rfl,fun j hj=>?_⟩
  cases hjk:sameKey ⟨f,w,0⟩ l[j]
  ·rfl
  ·have:=WZ hs (by omega) hjk
   omega
 unfold jx
 rw [hfind]
 simp only [hp]
theorem VQ {l:List Gra} (hs:qv jv l = true) {f w:qC} (h:kq l ⟨f,w,0⟩ = false):jx l f w = 0:=by
 rw [qbU hs] at h
 have:l.find? (sameKey ⟨f,w,0⟩) = none:=by
  rw [List.find?_eq_none]
  exact List.any_eq_false.1 h
 unfold jx
 rw [this]
theorem qfN (l:List Gra) (f w:qC) (hl:l.length ≤ 1000000) (hs:qv jv l = true) :
  jO C.P 63 [q9 l,.v (str f),.v (str w)] (.v (.int .i64 (jx l f w))):=by
 have hfi:=qcg l f w hl hs
 cases hh:kq l ⟨f,w,0⟩ with
 | true =>
   rw [hh] at hfi
   obtain ⟨hk,he⟩:=qb8 hs hh
   have hr:=qx (f:=Gra.row) hk
   rw [← he]
   refine qa Tryz.func63 rfl _ Tryz.ntmps63 (Nat.le_of_ble_eq_true rfl) _ Tryz.results63 0 rfl rfl ?_
   repeat' (first|refine qe ?_|(first|refine xsQ Tryz.func108 (hfi ..) ?_)|((first|refine xsC ?_ ?_);all_goals (intro hc;have hp:=hc;try simp at hp;try (exfalso;omega)))|refine qp ?_ ?_)
   all_goals (apply qE;rfl;rfl)
 | false =>
   rw [hh] at hfi
   rw [VQ hs hh]
   refine qa Tryz.func63 rfl _ Tryz.ntmps63 (Nat.le_of_ble_eq_true rfl) _ Tryz.results63 0 rfl rfl ?_
   repeat' (first|refine qe ?_|(first|refine xsQ Tryz.func108 (hfi ..) ?_)|((first|refine xsC ?_ ?_);all_goals (intro hc;have hp:=hc;try simp at hp;try (exfalso;omega)))|refine qp ?_ ?_)
   all_goals (apply qE;rfl;rfl)
theorem vd (l:List Gra) (f w:qC) (hl:l.length ≤ 1000000):jO C.P 47 [q9 l,.v (str f),.v (str w)] (.v (.int .i64 (jx l f w))):=by
 refine qa Tryz.func47 rfl _ Tryz.ntmps47 (Nat.le_of_ble_eq_true rfl) _ Tryz.results47 0 rfl rfl ?_
 repeat' (first|refine qe ?_|fail|((first|refine qb ?_ ?_|refine qc ?_ ?_|refine xsC ?_ ?_);all_goals (intro hc;have hp:=hc;try simp at hp;try (exfalso;omega)))|refine qp ?_ ?_)
 (refine Awp.red (qg (ts:=[(0,q9 l),(1,.v (str f)),(2,.v (str w)),(7,.v (.int .i64 ((0:Nat):Int)))]) ?_) ?_;((repeat (first|exact qd|refine qi ?_|refine qI ?_ ?_))))
 refine qq (fun n σ => ∃ i:Nat,i ≤ l.length ∧ n = l.length - i ∧ (∀ g,g ∈ l.take i → sameKey ⟨f,w,0⟩ g = false) ∧ σ = ⟨[(0,q9 l),(1,.v (str f)),(2,.v (str w)),(7,.v (.int .i64 (i:Int)))],[],C.nh⟩) l.length ⟨0,Nat.zero_le _,rfl,(by simp),rfl⟩ ?_
 rintro n σ ⟨i,hi,rfl,hsofar,rfl⟩
 by_cases hlt:i < l.length
 ·have hr:=qx (f:=Gra.row) hlt
  repeat' (first|refine qe ?_|fail|((first|refine qb ?_ ?_|refine qc ?_ ?_|refine xsC ?_ ?_);all_goals (intro hc;have hp:=hc;try simp at hp;try (exfalso;omega)))|refine qp ?_ ?_)
  all_goals try (exfalso;omega)
  all_goals first
   | (have he:sameKey ⟨f,w,0⟩ l[i] = false:=(by simp_all [sameKey])
      refine ⟨l.length - (i + 1),_,by omega,qg (ts:=[(0,q9 l),(1,.v (str f)),(2,.v (str w)),(7,.v (.int .i64 ((i + 1:Nat):Int)))]) ?_,i + 1,by omega,rfl,qJ hlt hsofar he,rfl⟩;((repeat (first|exact qd|refine qi ?_|refine qI ?_ ?_))))
   | (have he:sameKey ⟨f,w,0⟩ l[i] = true:=(by simp_all [sameKey])
      apply qE
      rfl
      have hfind:l.find? (sameKey ⟨f,w,0⟩) = some l[i]:=List.find?_eq_some_iff_getElem.2 ⟨he,i,hlt,rfl,fun j hj=>by rw [hsofar l[j] (List.mem_take_iff_getElem.2 ⟨j,by omega,rfl⟩)];rfl⟩
      simp only [jx,hfind])
 obtain rfl:i = l.length:=by omega
 rw [List.take_length] at hsofar
 repeat' (first|refine qe ?_|fail|((first|refine qb ?_ ?_|refine qc ?_ ?_|refine xsC ?_ ?_);all_goals (intro hc;have hp:=hc;try simp at hp;try (exfalso;omega)))|refine qp ?_ ?_)
 all_goals try (exfalso;omega)
 apply qE
 rfl
 have hfind:l.find? (sameKey ⟨f,w,0⟩) = none:=List.find?_eq_none.2 fun g hg=>by rw [hsofar g hg];simp
 simp only [jx,hfind]
end Go.Proofs.YtiljlcgmcmjcoaaGreatDoor
set_option linter.unusedSimpArgs false
set_option maxHeartbeats 1000000
namespace Go.Proofs.YtiljlcgmcmjcoaaGreatDoor
open Go.Ab Go.RowKit
set_option maxRecDepth 10000
attribute [local irreducible] Awp ye ji qQ Red qF Go.Ab.Fin qo Rz xx qG qO ResOk jK je jX qW
theorem JF (l:List Gra) (hl:l.length ≤ 1000000) :
  qo C.P 79 [q9 l] [] (.os 0 0 l.length) [.own false 3 (l.map Gra.row)]:=by
 by_cases h0:l = []
 ·subst h0
  refine qa Tryz.func79 rfl _ Tryz.ntmps79 (Nat.le_of_ble_eq_true rfl) _ Tryz.results79 0 rfl rfl ?_
  repeat' (first|refine qe ?_|(first|(refine jN ?_)|(refine vL ?_)|(refine J9 ?_))|((first|refine xsC ?_ ?_);all_goals (intro hc;have hp:=hc;try simp at hp;try (exfalso;omega)))|refine qp ?_ ?_)
  · (refine Qv (C:=C) (zd (C:=C) 2 3 rfl (Nat.zero_le _)) ?_)
    (refine Jf (rs:=[.tmp 2]) [(0,0)] 1 ?_;(repeat (first|exact qf|refine jV ?_|refine qH ?_ ?_));all_goals skip)
  · (refine Jf (rs:=[.tmp 2]) [(0,0)] 1 ?_;(repeat (first|exact qf|refine jV ?_|refine qH ?_ ?_));all_goals skip)
 ·refine qa Tryz.func79 rfl _ Tryz.ntmps79 (Nat.le_of_ble_eq_true rfl) _ Tryz.results79 0 rfl rfl ?_
  repeat' (first|refine qe ?_|(first|(refine jN ?_)|(refine vL ?_)|(apply qj;apply wK;rfl;exact (fun h=>h0 (List.map_eq_nil_iff.1 h));rfl;rfl;(first|exact .inl rfl|exact .inr rfl);exact nle rfl))|((first|refine xsC ?_ ?_);all_goals (intro hc;have hp:=hc;try simp at hp;try (exfalso;omega)))|refine qp ?_ ?_)
  (refine Jf (rs:=[.tmp 2]) [(0,0)] 1 ?_;(repeat (first|exact qf|refine jV ?_|refine qH ?_ ?_));all_goals skip)
theorem qa7 (l:List Gra) (g:Gra) (hl:l.length ≤ 1000000) :
  qo C1.P 134 [.os 0 0 l.length,.v (.int .i64 l.length),.sl false [g.row]] [.own false 3 (l.map Gra.row)] (.os 1 0 (l.length + 1)) [.dead,.own false 3 ((l ++ [g]).map Gra.row)]:=by
 refine qa (C:=C1) Tryz.func134 rfl _ Tryz.ntmps134 (Nat.le_of_ble_eq_true rfl) _ Tryz.results134 1 rfl rfl ?_
 repeat' (first|refine qe ?_|(first|(refine Jm ?_)|(refine yX ?_))|((first|refine qb ?_ ?_|refine qc ?_ ?_|refine xsC ?_ ?_);all_goals (intro hc;have hp:=hc;try simp at hp;try (exfalso;omega)))|refine qp ?_ ?_)
 (refine Jf (rs:=[.tmp 6]) [(1,1)] 2 ?_;(apply yp 0;exact jj rfl;(repeat (first|exact qf|refine jV ?_|refine qH ?_ ?_)));all_goals trace_state)
end Go.Proofs.YtiljlcgmcmjcoaaGreatDoor
set_option linter.unusedSimpArgs false
set_option maxHeartbeats 1000000
namespace Go.Proofs.YtiljlcgmcmjcoaaGreatDoor
open Go.Ab Go.RowKit
set_option maxRecDepth 10000
attribute [local irreducible] Awp ye ji qQ Red qF Go.Ab.Fin qo Rz xx qG qO ResOk jK je jX qW
theorem qgF (l:List Gra) (f w:qC) (r:Int) (hl:l.length ≤ 1000000) (hs:qv jv l = true) (hr:r ≠ 0) (hh:kq l ⟨f,w,0⟩ = false) (hp:v2 l ⟨f,w,0⟩ = l.length) :
  qo C.P 104 [q9 l,.v (str f),.v (str w),.v (.int .i64 r)] [] (.os 0 0 (l.length + 1)) [.own false 3 ((l ++ [(⟨f,w,r⟩ : Gra)]).map Gra.row)]:=by
 have hfi:=qcg l f w hl hs
 rw [hh,hp] at hfi
 have hin:=qa7 l ⟨f,w,r⟩ hl
 refine qa Tryz.func104 rfl _ Tryz.ntmps104 (Nat.le_of_ble_eq_true rfl) _ Tryz.results104 0 rfl rfl ?_
 repeat' (first|refine qe ?_|(first|(apply qN Tryz.func79 rfl rfl;intro hIsFn;refine yr ([]) hIsFn (JF l hl ..) ?_)|(apply qj;apply yy ([0]);exact jP Tryz.func108 rfl rfl;apply hfi;(case hz=>(repeat' (first|exact qL|apply qk|exact qB rfl|exact yi|(apply yn;(case hn=>rfl);(case hl=>first|with_reducible rfl|(simp;done)|(simp [*];done)|omega);(case hp=>(first|assumption|exact yO rfl|exact jq fun _=>rfl)))|apply jT|apply jQ)));(case hfl=>rfl);(case hN=>exact nle rfl))|(refine jN ?_)|(apply qN Tryz.func134 rfl rfl;intro hIsFn;refine zP ([0]) 0 hIsFn (hin ..) ?_))|((first|refine xsC ?_ ?_);all_goals (intro hc;have hp:=hc;try simp at hp;try (exfalso;omega)))|refine qp ?_ ?_)
 all_goals try (exfalso;omega)
 (refine Jf (rs:=[.tmp 8]) [(1,0)] 1 ?_;(repeat (first|exact qf|refine jV ?_|refine qH ?_ ?_));all_goals trace_state)
theorem qfY (p:Gra → Bool) (g:FuncId) (hg:IsFn C.P g) (cap:List AV) (hcap:AV.pure.pureL cap = true) (l:List (Gra)) (hl:l.length ≤ 1000000) (hc : ∀ s,s ∈ l → jO C.P g ((AV.agg (Gra.row s)) :: cap) (.v (.bool (p s)))) :
  jO C.P 132 [.sl false (l.map Gra.row),.clo (.func g) [] cap] (.v (.int .i64 (j0 p l))):=by
 refine qa Tryz.func132 rfl _ Tryz.ntmps132 (Nat.le_of_ble_eq_true rfl) _ Tryz.results132 0 rfl rfl ?_
 repeat' (first|refine qe ?_|fail|((first|refine xsC ?_ ?_);all_goals (intro hc;have hp:=hc;try simp at hp;try (exfalso;omega)))|refine qp ?_ ?_)
 (refine Awp.red (qg (ts:=[(0,.sl false (l.map Gra.row)),(1,.clo (.func g) [] cap),(7,.v (.int .i64 l.length)),(8,.v (.int .i64 ((0:Nat):Int)))]) ?_) ?_;((repeat (first|exact qd|refine qi ?_|refine qI ?_ ?_))))
 all_goals try (rw [List.length_map];done)
 refine qq (fun n σ => ∃ i:Nat,i ≤ l.length ∧ n = l.length - i ∧ (∀ s,s ∈ l.take i → p s = false) ∧ σ = ⟨[(0,.sl false (l.map Gra.row)),(1,.clo (.func g) [] cap),(7,.v (.int .i64 l.length)),(8,.v (.int .i64 (i:Int)))],[],C.nh⟩) l.length ⟨0,Nat.zero_le _,rfl,(by simp),rfl⟩ ?_
 rintro n σ ⟨i,hi,rfl,hsofar,rfl⟩
 by_cases hlt:i < l.length
 ·have hr:=qx (f:=Gra.row) hlt
  have hci:=hc l[i] (List.getElem_mem _)
  repeat' (first|refine qe ?_|(first|(apply qj;apply kt [];rfl;exact hg;exact hci;(case hz=>exact qk (qB rfl) (wk hcap));(case hfl=>rfl);(case hN=>exact nle rfl)))|((first|refine xsC ?_ ?_);all_goals (intro hc;have hp:=hc;try simp at hp;try (exfalso;omega)))|refine qp ?_ ?_)
  all_goals try (exfalso;omega)
  ·apply qE
   rfl
   exact (zu hlt hsofar hp).symm
  ·refine ⟨l.length - (i + 1),_,by omega,qg (ts:=[(0,.sl false (l.map Gra.row)),(1,.clo (.func g) [] cap),(7,.v (.int .i64 l.length)),(8,.v (.int .i64 ((i + 1:Nat):Int)))]) ?_,i + 1,by omega,rfl,qJ hlt hsofar hp,rfl⟩;((repeat (first|exact qd|refine qi ?_|refine qI ?_ ?_)))
 obtain rfl:i = l.length:=by omega
 repeat' (first|refine qe ?_|fail|((first|refine xsC ?_ ?_);all_goals (intro hc;have hp:=hc;try simp at hp;try (exfalso;omega)))|refine qp ?_ ?_)
 all_goals try (exfalso;omega)
 apply qE
 rfl
 exact (vH fun s hs=>hsofar s (by rw [List.take_length];exact hs)).symm
theorem JK (p:Gra → Bool) (g:FuncId) (hg:IsFn C.P g) (cap:List AV) (hcap:AV.pure.pureL cap = true) (l:List (Gra)) (hl:l.length ≤ 1000000) (hc : ∀ s,s ∈ l → jO C.P g ((AV.agg (Gra.row s)) :: cap) (.v (.bool (p s)))) :
  jO C.P 102 [.sl false (l.map Gra.row),.clo (.func g) [] cap] (.v (.bool (l.any p))):=by
 have hidx:=qfY p g hg cap hcap l hl hc
 refine qa Tryz.func102 rfl _ Tryz.ntmps102 (Nat.le_of_ble_eq_true rfl) _ Tryz.results102 0 rfl rfl ?_
 repeat' (first|refine qe ?_|(first|(apply qj;apply yy [];exact jP Tryz.func132 rfl rfl;exact hidx;(case hz=>exact qk (qB rfl) (qk (x8 hcap) qL));(case hfl=>rfl);(case hN=>exact nle rfl)))|((first|refine xsC ?_ ?_);all_goals (intro hc;have hp:=hc;try simp at hp;try (exfalso;omega)))|refine qp ?_ ?_)
 apply jd
 rfl
 rw [← Vh]
def vg (f:qC) (g:Gra):Bool:=decide (g.folder = f)
theorem qdw (g:Gra) (f:qC):jO C.P 103 [.agg g.row,.fp [[.v (str f)]] 0 0] (.v (.bool (vg f g))):=by
 refine qa Tryz.func103 rfl _ Tryz.ntmps103 (Nat.le_of_ble_eq_true rfl) _ Tryz.results103 0 rfl rfl ?_
 repeat' (first|refine qe ?_|fail|((first|refine xsC ?_ ?_);all_goals (intro hc;have hp:=hc;try simp at hp;try (exfalso;omega)))|refine qp ?_ ?_)
 all_goals (apply jd;rfl;simp_all [vg])
def wl (f:qC) (g:Gra):Bool:=decide (g.folder = f) && decide (g.right = 3)
theorem qhZ (g:Gra) (f:qC):jO C.P 105 [.agg g.row,.fp [[.v (str f)]] 0 0] (.v (.bool (wl f g))):=by
 refine qa Tryz.func105 rfl _ Tryz.ntmps105 (Nat.le_of_ble_eq_true rfl) _ Tryz.results105 0 rfl rfl ?_
 repeat' (first|refine qe ?_|fail|((first|refine qb ?_ ?_|refine qc ?_ ?_|refine xsC ?_ ?_);all_goals (intro hc;have hp:=hc;try simp at hp;try (exfalso;omega)))|refine qp ?_ ?_)
 all_goals (apply jd;rfl;simp_all [wl])
def j3 (l:List Gra) (f w:qC):Int :=
 if jH l = 0 then
  if ql f && ql w then
   if l.any (vg f) then 6 else if l.length = 60 then 2 else 0
  else 1
 else jH l
theorem vJ {l:List Gra} (h:jH l = 0):l.length ≤ 60:=by
 unfold jH at h
 split at h
 ·omega
 ·omega
theorem qdq (l:List Gra) (hl:GBig l) (f w:qC) (hf:f.length ≤ 140737488355328) (hw:w.length ≤ 140737488355328) (he:j3 l f w ≠ 0) :
  jO C.P 60 [q9 l,.v (str f),.v (str w)] (.tup [q9 [],.v (.int .i64 (j3 l f w))]):=by
 have hch:=Jn l hl
 by_cases h0:jH l = 0
 ·rw [h0] at hch
  have hlen:=vJ h0
  have hnm:=Y9 [f,w] (by simp) (by simp;exact ⟨hf,hw⟩)
  simp only [List.map,List.all_cons,List.all_nil,Bool.and_true] at hnm
  have hcon:=JK (vg f) 103 (jP Tryz.func103 rfl rfl) [.fp [[.v (str f)]] 0 0] rfl l (by omega) (fun g _=>qdw g f)
  refine qa Tryz.func60 rfl _ Tryz.ntmps60 (Nat.le_of_ble_eq_true rfl) _ Tryz.results60 0 rfl rfl ?_
  (repeat apply jg);apply qw;(repeat' (first|apply qT|refine xi ?_|refine xe ?_|refine xl ?_|refine xj ?_|refine xb ?_|refine vl ?_|refine vZ ?_|refine xn ?_|(first|fail)|refine yg ?_));show Awp _ _ _ _ _
  refine xV 4 0 ?_
  repeat' (first|refine qe ?_|(first|refine xsF Tryz.func39 (hch ..) ?_|refine xsQ Tryz.func62 (hnm ..) ?_|(refine jN ?_)|refine xsQ Tryz.func102 (hcon ..) ?_)|((first|refine xsC ?_ ?_);all_goals (intro hc;have hp:=hc;try simp at hp;try (exfalso;omega)))|refine qp ?_ ?_)
  all_goals try (exfalso;simp_all [j3];done)
  ·have h1:j3 l f w = 1:=by
    rcases hp with hp|hp<;>simp [j3,h0,hp]
   rw [h1]
   (exact j1 (rs:=[.tmp 6,.tmp 7]))
  ·have h1:j3 l f w = 6:=by simp_all [j3]
   rw [h1]
   (exact j1 (rs:=[.tmp 6,.tmp 7]))
  ·have h1:j3 l f w = 2:=by
    have h60:l.length = 60:=by omega
    simp_all [j3]
   rw [h1]
   (exact j1 (rs:=[.tmp 6,.tmp 7]))
 ·refine qa Tryz.func60 rfl _ Tryz.ntmps60 (Nat.le_of_ble_eq_true rfl) _ Tryz.results60 0 rfl rfl ?_
  repeat' (first|refine qe ?_|(first|refine xsF Tryz.func39 (hch ..) ?_)|((first|refine xsC ?_ ?_);all_goals (intro hc;have hp:=hc;try simp at hp;try (exfalso;omega)))|refine qp ?_ ?_)
  all_goals try (exfalso;simp_all;done)
  rw [show j3 l f w = jH l from by simp [j3,h0]]
  (exact j1 (rs:=[.tmp 6,.tmp 7]))
theorem qed (l:List Gra) (hl:GBig l) (f w:qC) (hf:f.length ≤ 140737488355328) (hw:w.length ≤ 140737488355328) (he:j3 l f w = 0) (L:List Gra)
  (hset:qo C.P 104 [q9 l,.v (str f),.v (str w),.v (.int .i64 3)] [] (.os 0 0 L.length) [.own false 3 (L.map Gra.row)]) :
  jO C.P 60 [q9 l,.v (str f),.v (str w)] (.tup [q9 L,.v (.int .i64 0)]):=by
 have hch:=Jn l hl
 have h0:jH l = 0:=by
  cases Classical.em (jH l = 0) with
  | inl h=>exact h
  | inr h=>simp [j3,h] at he
 rw [h0] at hch
 have hlen:=vJ h0
 have hnm:=Y9 [f,w] (by simp) (by simp;exact ⟨hf,hw⟩)
 simp only [List.map,List.all_cons,List.all_nil,Bool.and_true] at hnm
 have hcon:=JK (vg f) 103 (jP Tryz.func103 rfl rfl) [.fp [[.v (str f)]] 0 0] rfl l (by omega) (fun g _=>qdw g f)
 have hb1:(ql f && ql w) = true:=by
  cases h:ql f && ql w
  ·simp [j3,h0,h] at he
  ·rfl
 have hb2:l.any (vg f) = false:=by
  cases h:l.any (vg f)
  ·rfl
  ·simp only [j3,h0,hb1,h,if_true] at he;omega
 have hb3:l.length ≠ 60:=by
  intro h
  simp [j3,h0,hb1,hb2,h] at he
 rw [hb1] at hnm
 rw [hb2] at hcon
 refine qa Tryz.func60 rfl _ Tryz.ntmps60 (Nat.le_of_ble_eq_true rfl) _ Tryz.results60 0 rfl rfl ?_
 (repeat apply jg);apply qw;(repeat' (first|apply qT|refine xi ?_|refine xe ?_|refine xl ?_|refine xj ?_|refine xb ?_|refine vl ?_|refine vZ ?_|refine xn ?_|(first|fail)|refine yg ?_));show Awp _ _ _ _ _
 refine xV 4 0 ?_
 repeat' (first|refine qe ?_|(first|refine xsF Tryz.func39 (hch ..) ?_|refine xsQ Tryz.func62 (hnm ..) ?_|(refine jN ?_)|refine xsQ Tryz.func102 (hcon ..) ?_|(apply qN Tryz.func104 rfl rfl;intro hIsFn;refine yr ([]) hIsFn (hset ..) ?_))|((first|refine xsC ?_ ?_);all_goals (intro hc;have hp:=hc;try simp at hp;try (exfalso;omega)))|refine qp ?_ ?_)
 all_goals try (exfalso;omega)
 (exact j1 (rs:=[.tmp 6,.tmp 7]))
end Go.Proofs.YtiljlcgmcmjcoaaGreatDoor
set_option linter.unusedSimpArgs false
set_option maxHeartbeats 1000000
namespace Go.Proofs.YtiljlcgmcmjcoaaGreatDoor
open Go.Ab Go.RowKit
set_option maxRecDepth 10000
attribute [local irreducible] Awp ye ji qQ Red qF Go.Ab.Fin qo Rz xx qG qO ResOk jK je jX qW
theorem qf4 {α:Type} (R J Z:List α) (x:α) {i a b c d:Nat} (hi:i ≤ R.length) (hJ:J.length = 1 + Z.length) (ha:a = i) (hb:b = i + 1) (hc:c = i + 1) (hd:d = i + 1 + Z.length) :
  ((R.take i ++ J).take a ++ [x] ++ (R.take i ++ J).drop b).take c ++ Z ++ ((R.take i ++ J).take a ++ [x] ++ (R.take i ++ J).drop b).drop d = R.take i ++ ([x] ++ Z):=by
 subst ha;subst hb;subst hc;subst hd
 have h1:(R.take a ++ J).take a = R.take a:=by rw [List.take_append_of_le_length (by simp;omega),List.take_of_length_le (by simp;omega)]
 have h2:(R.take a ++ [x] ++ (R.take a ++ J).drop (a + 1)).take (a + 1) = R.take a ++ [x]:=by
  rw [List.take_append_of_le_length (by simp;omega),List.take_of_length_le (by simp;omega)]
 have h3:(R.take a ++ [x] ++ (R.take a ++ J).drop (a + 1)).drop (a + 1 + Z.length) = []:=List.drop_of_length_le (by simp;omega)
 rw [h1,h2,h3];simp
theorem qhW {α:Type} (R Z:List α) (x:α) {i a b c d m:Nat} (hi:i + 1 ≤ R.length) (ha:a = i + 1) (hc:c = i) (hd:d = i + 1) (hm:m = i + 1 + Z.length) :
  ((R.take a ++ Z ++ R.drop b).take c ++ [x] ++ (R.take a ++ Z ++ R.drop b).drop d).take m = R.take i ++ ([x] ++ Z):=by
 subst ha;subst hc;subst hd;subst hm
 have h1:(R.take (c + 1) ++ Z ++ R.drop b).take c = R.take c:=by
  rw [List.append_assoc,List.take_append_of_le_length (by simp;omega),List.take_take,Nat.min_eq_left (by omega)]
 have h2:(R.take (c + 1) ++ Z ++ R.drop b).drop (c + 1) = Z ++ R.drop b:=by
  rw [List.append_assoc,List.drop_append_of_le_length (by simp;omega),List.drop_of_length_le (by simp;omega),List.nil_append]
 rw [h1,h2, ← List.append_assoc,List.take_append_of_le_length (by simp;omega),List.take_of_length_le (by simp;omega),List.append_assoc]
theorem qcz (l:List Gra) (g:Gra) (i:Nat) (hi:i < l.length) (hl:l.length ≤ 1000000) :
  qo C1.P 134 [.os 0 0 l.length,.v (.int .i64 (i:Int)),.sl false [g.row]] [.own false 3 (l.map Gra.row)] (.os 1 0 (l.length + 1)) [.dead,.own false 3 ((l.take i ++ ([g] ++ l.drop i)).map Gra.row)]:=by
 refine qa (C:=C1) Tryz.func134 rfl _ Tryz.ntmps134 (Nat.le_of_ble_eq_true rfl) _ Tryz.results134 1 rfl rfl ?_
 refine Wx 0 3 (l.map Gra.row) rfl fun cap hcap=>?_
 rw [List.length_map] at hcap
 have hRt:(l.map Gra.row ++ vQ 3 (cap - (l.map Gra.row).length)).take l.length = l.map Gra.row:=by
  rw [List.take_append_of_le_length (by simp),List.take_of_length_le (by simp)]
 have hRl:l.length ≤ (l.map Gra.row ++ vQ 3 (cap - (l.map Gra.row).length)).length:=by simp
 generalize l.map Gra.row ++ vQ 3 (cap - (l.map Gra.row).length) = R at hRt hRl ⊢
 have hcut:(R.drop i).take (l.length - i) = (l.drop i).map Gra.row:=by rw [← List.drop_take,hRt,List.map_drop]
 have hti:R.take i = (l.take i).map Gra.row:=by rw [List.map_take, ← hRt,List.take_take,Nat.min_eq_left (by omega)]
 have hck : ∀ row,row ∈ (l.drop i).map Gra.row → row.length = 3:=fun row hr=>by obtain ⟨x,_,rfl⟩:=List.mem_map.1 hr;rfl
 have hcl : ∀ row,row ∈ (l.drop i).map Gra.row → row.all j5 = true:=fun row hr=>by obtain ⟨x,_,rfl⟩:=List.mem_map.1 hr;rfl
 repeat' (first|refine qe ?_|(first|(refine Jm ?_)|(apply qj;apply XH;(case hx=>rfl);(case hn=>rfl);(case hT=>rfl);(case he=>rfl);(case hN=>exact nle rfl))|(apply yW;apply Qa;(case hx=>rfl);(case hT=>rfl);(case he=>rfl);(case hE=>rfl);(case hn=>rfl);(case hl=>(first|omega|(simp;done)|(simp only [List.length_cons,List.length_nil,List.length_map];omega)|(simp;omega)));(case hy=>exact congrArg (fun z=>AV.v (Value.int IntKind.i64 z)) (show ((l.length + 1:Nat):Int) - (i:Int) = ((l.length + 1 - i:Nat):Int) from by omega));(case hxT=>rfl);(case hxk=>rfl);(case hz=>rfl);(case hs0=>exact Nat.ne_of_beq_eq_false rfl);(case hg=>omega);(case hsz=>(first|omega|(simp;done)|(simp only [List.length_cons,List.length_nil,List.length_map];omega)|(simp;omega)));(case hlen=>(first|omega|(simp;done)|(simp only [List.length_cons,List.length_nil,List.length_map];omega)|(simp;omega)));(case hN=>exact nle rfl))|(apply qj;apply JU;exact Tryz.func167;(case hname=>rfl);(case hb=>rfl);(case hnx=>rfl);(case hex=>rfl);(case hT=>rfl);(case he=>rfl);(case hE=>rfl);(case hx=>rfl);(case hy=>rfl);(case hm=>rfl);(case hk=>exact Nat.ne_of_beq_eq_false rfl);(case hrw=>intro row hrow;rw [List.mem_singleton.1 hrow];exact Nat.succ_ne_zero _);(case hN=>exact nle rfl))|(apply kD;apply kO;(case hx=>rfl);(case hT=>rfl);(case he=>rfl);(case hE=>rfl);(case hn=>rfl);(case hsrc=>exact W9 (xQ rfl rfl));(case hmin=>exact Nat.min_eq_left (by (first|omega|(simp;done)|(simp only [List.length_cons,List.length_nil,List.length_map];omega)|(simp;omega))));(case hfit=>(first|omega|(simp;done)|(simp only [List.length_cons,List.length_nil,List.length_map];omega)|(simp;omega)));(case hN=>exact nle rfl))|(apply kD;apply kO;(case hx=>rfl);(case hT=>rfl);(case he=>rfl);(case hE=>rfl);(case hn=>rfl);(case hsrc=>exact ZI (cnt:=l.length - i) rfl (List.mem_singleton.2 rfl) rfl (by omega) (by omega) (by first|exact hcut|simpa using hcut) hck hcl);(case hmin=>(first|exact (Nat.min_eq_left (by (first|omega|(simp;done)|(simp only [List.length_cons,List.length_nil,List.length_map];omega)|(simp;omega)))).trans (by (first|omega|(simp;done)|(simp only [List.length_cons,List.length_nil,List.length_map];omega)|(simp;omega)))|exact (Nat.min_eq_right (by (first|omega|(simp;done)|(simp only [List.length_cons,List.length_nil,List.length_map];omega)|(simp;omega)))).trans (by (first|omega|(simp;done)|(simp only [List.length_cons,List.length_nil,List.length_map];omega)|(simp;omega)))));(case hfit=>(first|omega|(simp;done)|(simp only [List.length_cons,List.length_nil,List.length_map];omega)|(simp;omega)));(case hN=>exact nle rfl)))|((first|refine qb ?_ ?_|refine qc ?_ ?_|refine xsC ?_ ?_);all_goals (intro hc;have hp:=hc;try simp at hp;try (exfalso;omega)))|refine qp ?_ ?_)
 all_goals try (exfalso;omega)
 ·have hrow:=qf4 R (vQ 3 (l.length + 1 - i)) ((l.drop i).map Gra.row) g.row (i:=i) (a:=0 + i) (b:=0 + i + 1) (c:=0 + (i + 1)) (d:=0 + (i + 1) + ((l.drop i).map Gra.row).length) (by omega) (by simp;omega) (by omega) (by omega) (by omega) (by omega)
  (apply jp (rs:=[.tmp 6]) [(1,1)] 2;(case hr=>(repeat (first|exact qS|(apply qU;rfl)|(apply qK;rfl;rfl;rfl;rfl;rfl))));(case hL=>rfl);(case hh=>(apply yp 0;exact jj rfl;(repeat (first|exact qf|refine jV ?_|refine qH ?_ ?_)));all_goals (refine hrow.trans ?_;rw [hti];simp));(case hi=>first|exact (rfl:_ = ([]:List (Nat × Nat)))|exact (rfl:_ = [((0:Nat),(0:Nat))])|exact (rfl:_ = [((0:Nat),(0:Nat)),(1,1)]));(case hz=>first|rfl|(simp [jI,AV.ren,AV.ren.renL,qZ,qu,qX];done)|(simp [jI,AV.ren,AV.ren.renL,qZ,qu,qX, *];done)|(simp [jI,AV.ren,AV.ren.renL,qZ,qu,qX];omega)))
 ·have hrow:=qhW R ((l.drop i).map Gra.row) g.row (i:=i) (a:=0 + 0 + (i + 1)) (b:=0 + 0 + (i + 1) + ((l.drop i).map Gra.row).length) (c:=0 + 0 + i) (d:=0 + 0 + i + 1) (m:=l.length + 1) (by omega) (by omega) (by omega) (by omega) (by simp;omega)
  have hrow:=hrow.trans (show _ = (l.take i ++ ([g] ++ l.drop i)).map Gra.row from by rw [hti];simp)
  apply QB (C:=C1) 6 0 (l.length + 1)
  case hi=>rfl
  case hn=>rfl
  case hr=>exact hrow
  case hnn=>exact Nat.ne_of_beq_eq_false rfl
  case hnx=>exact Nat.le_of_ble_eq_true rfl
  (apply jp (rs:=[.tmp 6]) [(1,1)] 2;(case hr=>(repeat (first|exact qS|(apply qU;rfl)|(apply qK;rfl;rfl;rfl;rfl;rfl))));(case hL=>rfl);(case hh=>(apply yp 0;exact jj rfl;(repeat (first|exact qf|refine jV ?_|refine qH ?_ ?_)));all_goals trace_state);(case hi=>first|exact (rfl:_ = ([]:List (Nat × Nat)))|exact (rfl:_ = [((0:Nat),(0:Nat))])|exact (rfl:_ = [((0:Nat),(0:Nat)),(1,1)]));(case hz=>first|rfl|(simp [jI,AV.ren,AV.ren.renL,qZ,qu,qX];done)|(simp [jI,AV.ren,AV.ren.renL,qZ,qu,qX, *];done)|(simp [jI,AV.ren,AV.ren.renL,qZ,qu,qX];omega)))
end Go.Proofs.YtiljlcgmcmjcoaaGreatDoor
set_option linter.unusedSimpArgs false
set_option maxHeartbeats 1000000
namespace Go.Proofs.YtiljlcgmcmjcoaaGreatDoor
open Go.Ab Go.RowKit
set_option maxRecDepth 10000
attribute [local irreducible] Awp ye ji qQ Red qF Go.Ab.Fin qo Rz xx qG qO ResOk jK je jX qW
def jD (l:List Gra) (f b w:qC) (r:Int):Int :=
 if jH l = 0 then
  if ql f && (ql b && ql w) then
   if qA r 0 3 then
    if decide (jx l f b ≠ 3) && !(decide (b = w) && decide (r = 0)) then 9
    else if decide (r = 0) && decide (jx l f w = 0) then 5 else 0
   else 3
  else 1
 else jH l
theorem wg {l:List Gra} (h:jH l = 0):qv jv l = true:=by
 unfold jH at h
 split at h
 ·omega
 ·split at h
  ·split at h
   ·assumption
   ·omega
  ·exact absurd h (by assumption)
section
variable {l:List Gra} {f b w:qC} {r:Int}
theorem WX (h0:jH l = 0) (h:ql f = false ∨ ql b = false ∨ ql w = false):jD l f b w r = 1:=by
 unfold jD;rcases h with h|h|h<;>simp [h0,h]
theorem ZU (h0:jH l = 0) (h:ql f = true ∧ ql b = true ∧ ql w = true) (hr:¬ (0 ≤ r ∧ r ≤ 3)):jD l f b w r = 3:=by
 have:qA r 0 3 = false:=by simp [qA];omega
 unfold jD;simp [h0,h.1,h.2.1,h.2.2,this]
theorem qdb (h0:jH l = 0) (h:ql f = true ∧ ql b = true ∧ ql w = true) (hr:0 ≤ r ∧ r ≤ 3) (ho:¬ jx l f b = 3) (hd:¬ b = w ∨ ¬ r = 0):jD l f b w r = 9:=by
 have:qA r 0 3 = true:=by simp [qA];omega
 unfold jD;rcases hd with hd|hd<;>simp [h0,h.1,h.2.1,h.2.2,this,ho,hd]
theorem Wu (h0:jH l = 0) (h:ql f = true ∧ ql b = true ∧ ql w = true) (ho:jx l f b = 3 ∨ (b = w ∧ r = 0)) (hr:r = 0) (hw:jx l f w = 0):jD l f b w r = 5:=by
 subst hr
 have:qA 0 0 3 = true:=rfl
 unfold jD
 rcases ho with ho|ho
 ·simp [h0,h.1,h.2.1,h.2.2,this,ho,hw]
 ·simp [h0,h.2.1,h.2.2,h.1,this,ho.1,hw]
theorem qif (h0:jH l = 0) (h:ql f = true ∧ ql b = true ∧ ql w = true) (hr:0 ≤ r ∧ r ≤ 3) (ho:jx l f b = 3 ∨ (b = w ∧ r = 0)) (hw:¬ r = 0 ∨ ¬ jx l f w = 0):jD l f b w r = 0:=by
 have hb:qA r 0 3 = true:=by simp [qA];omega
 unfold jD
 rcases ho with ho|ho
 ·rcases hw with hw|hw<;>simp [h0,h.1,h.2.1,h.2.2,hb,ho,hw]
 ·obtain ⟨rfl,rfl⟩:=ho
  have hw:¬ jx l f b = 0:=hw.elim (fun h=>absurd rfl h) id
  simp [h0,h.1,h.2.1,hb,hw]
theorem Wp (h:jD l f b w r = 0):jH l = 0 ∧ (ql f = true ∧ ql b = true ∧ ql w = true) ∧ (0 ≤ r ∧ r ≤ 3) ∧ (jx l f b = 3 ∨ (b = w ∧ r = 0)) ∧ (¬ r = 0 ∨ ¬ jx l f w = 0):=by
 by_cases h0:jH l = 0
 ·by_cases hn:ql f = true ∧ ql b = true ∧ ql w = true
  ·by_cases hr:0 ≤ r ∧ r ≤ 3
   ·by_cases ho:jx l f b = 3 ∨ (b = w ∧ r = 0)
    ·by_cases hw:¬ r = 0 ∨ ¬ jx l f w = 0
     ·exact ⟨h0,hn,hr,ho,hw⟩
     ·have:=Wu h0 hn ho (by omega) (by omega)
      omega
    ·have:=qdb (w:=w) h0 hn hr (fun e=>ho (.inl e)) (by
      by_cases e:b = w
      ·exact .inr fun e'=>ho (.inr ⟨e,e'⟩)
      ·exact .inl e)
     omega
   ·have:=ZU h0 hn hr;omega
  ·have:=WX (r:=r) h0 (f:=f) (b:=b) (w:=w) (by
    cases h1:ql f<;>cases h2:ql b<;>cases h3:ql w<;>simp_all)
   omega
 ·unfold jD at h
  rw [if_neg h0] at h
  exact absurd h h0
end
theorem qcW (l:List Gra) (hl:GBig l) (f b w:qC) (r:Int) (hf:f.length ≤ 140737488355328) (hb:b.length ≤ 140737488355328) (hw:w.length ≤ 140737488355328) (he:jD l f b w r ≠ 0) :
  jO C.P 61 [q9 l,.v (str f),.v (str b),.v (str w),.v (.int .i64 r)] (.tup [q9 [],.v (.int .i64 (jD l f b w r))]):=by
 have hch:=Jn l hl
 by_cases h0:jH l = 0
 ·rw [h0] at hch
  have hlen:=vJ h0
  have hri:=wg h0
  have hnm:=Y9 [f,b,w] (by simp) (by simp;exact ⟨hf,hb,hw⟩)
  simp only [List.map,List.all_cons,List.all_nil,Bool.and_true] at hnm
  have ho1:=qfN l f b (by omega) hri
  have ho2:=qfN l f w (by omega) hri
  have hof := @WX l f b w r h0
  have hor := @ZU l f b w r h0
  have hod := @qdb l f b w r h0
  have hon := @Wu l f b w r h0
  have hok := @qif l f b w r h0
  refine qa Tryz.func61 rfl _ Tryz.ntmps61 (Nat.le_of_ble_eq_true rfl) _ Tryz.results61 0 rfl rfl ?_
  (repeat apply jg);apply qw;(repeat' (first|apply qT|refine xi ?_|refine xe ?_|refine xl ?_|refine xj ?_|refine vm ?_|refine xb ?_|refine vl ?_|refine vZ ?_|refine xn ?_|(first|fail)|refine yg ?_|refine j6 ?_|refine j4 ?_|refine jF ?_|refine jG ?_|refine yL ?_|refine yK ?_|refine j7 ?_|refine j8 ?_|((first|refine qb ?_ ?_|refine qc ?_ ?_);all_goals (intro hc;have hp:=hc;try simp at hp;try (exfalso;omega)))));show Awp _ _ _ _ _
  refine xV 6 0 ?_
  repeat' (first|refine qe ?_|(first|refine xsF Tryz.func39 (hch ..) ?_|refine xsQ Tryz.func62 (hnm ..) ?_|(refine jN ?_)|refine xsF Tryz.func63 (ho1 ..) ?_|refine xsF Tryz.func63 (ho2 ..) ?_)|((first|refine qb ?_ ?_|refine qc ?_ ?_|refine xsC ?_ ?_);all_goals (intro hc;have hp:=hc;try simp at hp;try (exfalso;omega)))|refine qp ?_ ?_)
  all_goals try (exfalso;simp_all;done)
  all_goals first
   | (have h1:jD l f b w r = 1:=hof (by assumption)
      rw [h1]
      (exact j1 (rs:=[.tmp 10,.tmp 11])))
   | (have h1:jD l f b w r = 3:=hor (by assumption) (by omega)
      rw [h1]
      (exact j1 (rs:=[.tmp 10,.tmp 11])))
   | (have h1:jD l f b w r = 9:=hod (by assumption) (by omega) (by assumption) (by first|exact .inl (by assumption)|exact .inr (by assumption))
      rw [h1]
      (exact j1 (rs:=[.tmp 10,.tmp 11])))
   | (have h1:jD l f b w r = 5:=hon (by assumption) (by first|exact .inl (by assumption)|exact .inr ⟨by assumption,by assumption⟩) (by assumption) (by assumption)
      rw [h1]
      (exact j1 (rs:=[.tmp 10,.tmp 11])))
   | (have h1:jD l f b w r = 0:=hok (by assumption) (by omega) (by first|exact .inl (by assumption)|exact .inr ⟨by assumption,by assumption⟩) (by first|exact .inl (by assumption)|exact .inr (by assumption))
      exact absurd h1 he)
 ·refine qa Tryz.func61 rfl _ Tryz.ntmps61 (Nat.le_of_ble_eq_true rfl) _ Tryz.results61 0 rfl rfl ?_
  (repeat apply jg);apply qw;(repeat' (first|apply qT|refine xi ?_|refine xe ?_|refine xl ?_|refine xj ?_|refine vm ?_|refine xb ?_|refine vl ?_|refine vZ ?_|refine xn ?_|(first|fail)|refine yg ?_|refine j6 ?_|refine j4 ?_|refine jF ?_|refine jG ?_|refine yL ?_|refine yK ?_|refine j7 ?_|refine j8 ?_|((first|refine qb ?_ ?_|refine qc ?_ ?_);all_goals (intro hc;have hp:=hc;try simp at hp;try (exfalso;omega)))));show Awp _ _ _ _ _
  repeat' (first|refine qe ?_|(first|refine xsF Tryz.func39 (hch ..) ?_)|((first|refine qb ?_ ?_|refine qc ?_ ?_|refine xsC ?_ ?_);all_goals (intro hc;have hp:=hc;try simp at hp;try (exfalso;omega)))|refine qp ?_ ?_)
  all_goals try (exfalso;simp_all;done)
  rw [show jD l f b w r = jH l from by simp [jD,h0]]
  (exact j1 (rs:=[.tmp 10,.tmp 11]))
end Go.Proofs.YtiljlcgmcmjcoaaGreatDoor
