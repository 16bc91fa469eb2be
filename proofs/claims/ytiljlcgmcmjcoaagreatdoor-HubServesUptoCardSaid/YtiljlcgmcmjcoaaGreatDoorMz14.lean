import Derived.Test.YtiljlcgmcmjcoaaGreatDoorMz13
import Derived.Test.YtiljlcgmcmjcoaaGreatDoorMz12
import Derived.Test.YtiljlcgmcmjcoaaGreatDoorMz1
import Derived.Test.YtiljlcgmcmjcoaaGreatDoorMz9
import Derived.Test.YtiljlcgmcmjcoaaGreatDoorMz7
import Derived.Test.YtiljlcgmcmjcoaaGreatDoorMz10
set_option linter.unusedSimpArgs false
set_option linter.unnecessarySimpa false
set_option linter.unusedVariables false
set_option maxHeartbeats 1000000
namespace Go.Proofs.YtiljlcgmcmjcoaaGreatDoor
open Go.Ab Go.RowKit
set_option maxRecDepth 10000
attribute [local irreducible] Awp ye ji qQ Red qF Go.Ab.Fin qo Rz xx qG qO ResOk jK je jX qW
set_option maxHeartbeats 1000000 in
theorem qiX (t:List Ent) (c:Chg) (v:Int) (h60:t.length ≤ 60) (hs:qv yt t = true) (hgt : ∀ x,x ∈ t → qM x.path = 0) (hcs:c.small) (hk:c.kind = 3) (h0:yI c = 0) (h1:vP t c = 0) (h2:yv t c = 0):jO C.P 130 [qr t,.agg c.row,.v (.int .i64 v)] (.tup [qr (if yw t c v = 0 then ju t c v else []),.v (.int .i64 (yw t c v))]):=by
 obtain ⟨l1,l2,l3⟩:=hcs
 have hform:=vz c ⟨l1,l2,l3⟩
 have hpo1:=yR c.path (by omega)
 have hpo2:=yR c.to (by omega)
 have hfo:=zc t (qR (jW c)) (by omega)
 have hea:=xB t c.path (by omega)
 have heb:=xB t c.to (by omega)
 have hinn:=vI c.to c.path (by omega) (by omega)
 have hkk:=yS h0
 have hbase : -1 ≤ c.base:=QN h0
 obtain ⟨hz1,hz2,hz3⟩:=QE h1
 have hst : ∀ x,x ∈ t → ¬ c.base = -1 → (decide (c.base < x.ver) && inB x.path c.path) = false:=fun x hx hb=>by
  unfold yv at h2
  by_cases h3:t.any (xH c) = true
  ·rw [if_pos ⟨hb,h3⟩] at h2;exact absurd h2 (by decide)
  ·have h4:t.any (xH c) = false:=by simpa using h3
   rw [List.any_eq_false] at h4
   have h5:=h4 x hx
   simpa [xH] using h5
 clear h2
 have hh:=K2 (by omega) hz2
 obtain ⟨hkk2,_,hfi,hix⟩:=kW hs hh
 have hg0:jW c = c.to:=by simp [jW,hk]
 rw [hz1,hg0] at hfo
 rw [h0] at hform
 rw [hix] at hea
 have hM:wa t c = if inB c.to c.path = true then 3 else if yV t c.to = true then 6 else 0:=by unfold wa;rw [if_pos hk]
 rw [hz3] at hM
 have hin0:inB c.to c.path = false:=by
  cases h:inB c.to c.path with
  | true=>rw [h] at hM;simp at hM
  | false=>rfl
 rw [hin0,if_neg (by decide)] at hM
 have hhit:yV t c.to = false:=by
  cases h:yV t c.to with
  | true=>rw [h] at hM;simp at hM
  | false=>rfl
 rw [(x9 hhit).2] at heb
 rw [hin0] at hinn
 obtain ⟨-, -,hpe,hte, -⟩:=hkk
 have hpt:=hte hk
 have hps:=jt hpe
 have hpts:=jt hpt
 generalize xM t c.path = k at *
 have hDD:ju t c v = (jz t c v).foldl xg (yb (kr c.path) t):=by simp [ju,hk]
 have hEE:y7 t c = false → yw t c v = if 60 < (ju t c v).length then 2 else 0:=fun h=>by simp [yw,h]
 have hKl:(yb (kr c.path) t).length ≤ t.length:=List.length_filter_le ..
 have hKr:=kw (p:=kr c.path) hs
 clear hM hz1 hz2 hz3 h1 h0 hin0 hfi hix
 refine qa Tryz.func130 rfl _ Tryz.ntmps130 (Nat.le_of_ble_eq_true rfl) _ Tryz.results130 0 rfl rfl ?_
 repeat' (first|refine qe ?_|(first|refine xsF Tryz.func160 (hform ..) ?_|refine xsF Tryz.func139 (hpo1 ..) ?_|refine xsF Tryz.func139 (hpo2 ..) ?_|refine xsQ Tryz.func138 (hfo ..) ?_|refine xsQ Tryz.func161 (hea ..) ?_|refine xsQ Tryz.func161 (heb ..) ?_|refine xsF Tryz.func162 (hinn ..) ?_)|((first|refine qb ?_ ?_|refine qc ?_ ?_|refine xsC ?_ ?_);all_goals (intro hc;have hp:=hc;try simp at hp;try (exfalso;omega)))|refine qp ?_ ?_)
 all_goals try (exfalso;omega)
 apply qbQ
 case h =>
  intro key
  refine xV 4 0 ?_
  (refine Awp.red (qg (ts:=[(0,qr t),(2,.v (.int .i64 v)),(4,.fp [c.row] 0 0),(11,.v (.int .i64 ((0:Nat):Int)))]) ?_) ?_;((repeat (first|exact qd|refine qi ?_|refine qI ?_ ?_))))
  refine qq (fun n σ => ∃ i:Nat,i ≤ t.length ∧ n = t.length - i ∧ (True) ∧ σ = ⟨[(0,qr t),(2,.v (.int .i64 v)),(4,.fp [c.row] 0 0),(11,.v (.int .i64 (i:Int)))],[],C.nh⟩) t.length ⟨0,Nat.zero_le _,rfl,trivial,rfl⟩ ?_
  rintro n σ ⟨i,hi,rfl, -,rfl⟩
  by_cases hlt:i < t.length
  ·have hr:=qx (f:=Ent.row) hlt
   have hnw:=hst t[i] (List.getElem_mem _)
   have hpl:=jt (hgt t[i] (List.getElem_mem _))
   have hii:=vI t[i].path c.path (by omega) (by omega)
   generalize inB t[i].path c.path = IB at *
   repeat' (first|refine qe ?_|(first|refine xsF Tryz.func162 (hii ..) ?_)|((first|refine qb ?_ ?_|refine qc ?_ ?_|refine xsC ?_ ?_);all_goals (intro hc;have hp:=hc;try simp at hp;try (exfalso;omega)))|refine qp ?_ ?_)
   all_goals try (exfalso;omega)
   all_goals try (
    have h9:=hnw (by omega)
    rw [Bool.and_eq_false_iff] at h9
    rcases h9 with h9|h9
    ·exact absurd (h9.symm.trans (by assumption)) Bool.false_ne_true
    ·exact absurd (h9.symm.trans (by assumption)) Bool.false_ne_true)
   all_goals first
    | (refine ⟨t.length - (i + 1),_,by omega,qg (ts:=[(0,qr t),(2,.v (.int .i64 v)),(4,.fp [c.row] 0 0),(11,.v (.int .i64 ((i + 1:Nat):Int)))]) ?_,i + 1,by omega,rfl,trivial,rfl⟩;((repeat (first|exact qd|refine qi ?_|refine qI ?_ ?_))))
    | ((repeat' (first|refine qe ?_|(first|fail)|((first|refine qb ?_ ?_|refine qc ?_ ?_|refine xsC ?_ ?_);all_goals (intro hc;have hp:=hc;try simp at hp;try (exfalso;omega)))|refine qp ?_ ?_))
       (all_goals try (exfalso;omega))
       (refine Awp.red (qg (ts:=[(0,qr t),(2,.v (.int .i64 v)),(4,.fp [c.row] 0 0),(12,.sl true []),(13,.v (.int .i64 ((0:Nat):Int)))]) ?_) ?_;((repeat (first|exact qd|refine qi ?_|refine qI ?_ ?_))))
       exact key.out)
  ·obtain rfl:i = t.length:=by omega
   (repeat' (first|refine qe ?_|(first|fail)|((first|refine qb ?_ ?_|refine qc ?_ ?_|refine xsC ?_ ?_);all_goals (intro hc;have hp:=hc;try simp at hp;try (exfalso;omega)))|refine qp ?_ ?_))
   (all_goals try (exfalso;omega))
   (refine Awp.red (qg (ts:=[(0,qr t),(2,.v (.int .i64 v)),(4,.fp [c.row] 0 0),(12,.sl true []),(13,.v (.int .i64 ((0:Nat):Int)))]) ?_) ?_;((repeat (first|exact qd|refine qi ?_|refine qI ?_ ?_))))
   exact key.out
 refine Awp.red (zd 12 4 rfl (Nat.le_refl _)) ?_
 (refine Awp.red (qY (τ:=⟨[(0,qr t),(2,.v (.int .i64 v)),(4,.fp [c.row] 0 0),(12,.os 0 0 0),(13,.v (.int .i64 ((0:Nat):Int)))],[(0,.own false 4 [])],1⟩) [(0,0)] rfl ?gts ?ghs) ?gmain;(case gts=>(repeat (first|exact qd|refine qi ?_|refine xd ?_|refine xL ?_|refine qI ?_ ?_)));(case ghs=>(repeat (first|exact qf|refine jV ?_|refine qH ?_ ?_))))
 refine qq (fun n σ => ∃ i:Nat,i ≤ t.length ∧ n = t.length - i ∧ (True) ∧ σ = ⟨[(0,qr t),(2,.v (.int .i64 v)),(4,.fp [c.row] 0 0),(12,.os 0 0 (yb (kr c.path) (t.take i)).length),(13,.v (.int .i64 (i:Int)))],[(0,.own false 4 ((yb (kr c.path) (t.take i)).map Ent.row))],1⟩) t.length ⟨0,Nat.zero_le _,rfl,trivial,rfl⟩ ?_
 rintro n σ ⟨i,hi,rfl, -,rfl⟩
 by_cases hlt:i < t.length
 ·have hr:=qx (f:=Ent.row) hlt
  have hpl:=jt (hgt t[i] (List.getElem_mem _))
  have hii:=vI t[i].path c.path (by omega) (by omega)
  have hks := @QU (kr c.path) t i hlt
  have hkl:=XU (kr c.path) t i (by omega)
  have hin:kr c.path t[i] = inB t[i].path c.path:=rfl
  rw [hin] at hks
  generalize inB t[i].path c.path = IB at *
  clear hin hst
  generalize hGG:yb (kr c.path) (t.take i) = G at hks hkl ⊢
  clear hGG
  cases IB with
  | true =>
    rw [if_pos rfl] at hks
    repeat' (first|refine qe ?_|(first|(refine jN ?_)|(refine yX ?_)|refine xsF Tryz.func162 (hii ..) ?_)|((first|refine qb ?_ ?_|refine qc ?_ ?_|refine xsC ?_ ?_);all_goals (intro hc;have hp:=hc;try simp at hp;try (exfalso;omega)))|refine qp ?_ ?_)
    all_goals try (exfalso;omega)
    refine ⟨t.length - (i + 1),_,by omega,qY (τ:=⟨[(0,qr t),(2,.v (.int .i64 v)),(4,.fp [c.row] 0 0),(12,.os 0 0 (yb (kr c.path) (t.take (i + 1))).length),(13,.v (.int .i64 ((i + 1:Nat):Int)))],[(0,.own false 4 ((yb (kr c.path) (t.take (i + 1))).map Ent.row))],1⟩) [(0,0)] rfl ?gts ?ghs,i + 1,by omega,rfl,trivial,rfl⟩;(case gts=>(repeat (first|exact qd|refine qi ?_|refine xd ?_|refine xL ?_|refine qI ?_ ?_));all_goals (rw [hks]));(case ghs=>(repeat (first|exact qf|refine jV ?_|refine qH ?_ ?_));all_goals (rw [hks]))
  | false =>
    rw [if_neg (by decide)] at hks
    repeat' (first|refine qe ?_|(first|(refine jN ?_)|(refine yX ?_)|refine xsF Tryz.func162 (hii ..) ?_)|((first|refine qb ?_ ?_|refine qc ?_ ?_|refine xsC ?_ ?_);all_goals (intro hc;have hp:=hc;try simp at hp;try (exfalso;omega)))|refine qp ?_ ?_)
    all_goals try (exfalso;omega)
    refine ⟨t.length - (i + 1),_,by omega,qY (τ:=⟨[(0,qr t),(2,.v (.int .i64 v)),(4,.fp [c.row] 0 0),(12,.os 0 0 (yb (kr c.path) (t.take (i + 1))).length),(13,.v (.int .i64 ((i + 1:Nat):Int)))],[(0,.own false 4 ((yb (kr c.path) (t.take (i + 1))).map Ent.row))],1⟩) [(1,0)] rfl ?gts ?ghs,i + 1,by omega,rfl,trivial,rfl⟩;(case gts=>(repeat (first|exact qd|refine qi ?_|refine xd ?_|refine xL ?_|refine qI ?_ ?_));all_goals (rw [hks];try first|(simp;done)|(rw [List.take_of_length_le (by simp)];simp;done)));(case ghs=>(repeat (first|exact qf|refine jV ?_|refine qH ?_ ?_));all_goals (rw [hks];try first|(simp;done)|(rw [List.take_of_length_le (by simp)];simp;done)))
 ·obtain rfl:i = t.length:=by omega
  rw [List.take_length]
  (repeat' (first|refine qe ?_|(first|fail)|((first|refine qb ?_ ?_|refine qc ?_ ?_|refine xsC ?_ ?_);all_goals (intro hc;have hp:=hc;try simp at hp;try (exfalso;omega)))|refine qp ?_ ?_))
  (all_goals try (exfalso;omega))
  refine Awp.red (wR 0 rfl (by intro row hrow;obtain ⟨x,_,rfl⟩:=List.mem_map.1 hrow;rfl)) ?_
  refine Awp.red (WV 12 0 rfl rfl (by simp)) ?_
  (refine Awp.red (qg (ts:=[(0,qr t),(2,.v (.int .i64 v)),(4,.fp [c.row] 0 0),(12,qr (((jz (t.take 0) c v).foldl xg (yb (kr c.path) t)))),(14,.v (.int .i64 ((0:Nat):Int)))]) ?_) ?_;((repeat (first|exact qd|refine qi ?_|refine qI ?_ ?_))))
  all_goals try (rw [List.drop_zero,List.take_of_length_le (by simp)];rfl)
  generalize hKK:yb (kr c.path) t = K at *
  refine qq (fun n σ => ∃ i:Nat,i ≤ t.length ∧ n = t.length - i ∧ (ku t c i = false) ∧ σ = ⟨[(0,qr t),(2,.v (.int .i64 v)),(4,.fp [c.row] 0 0),(12,qr ((jz (t.take i) c v).foldl xg K)),(14,.v (.int .i64 (i:Int)))],[],C.nh⟩) t.length ⟨0,Nat.zero_le _,rfl,rfl,rfl⟩ ?_
  rintro n σ ⟨i,hi,rfl,hsofar,rfl⟩
  by_cases hlt:i < t.length
  ·have hr:=qx (f:=Ent.row) hlt
   have hxp:=hgt t[i] (List.getElem_mem _)
   have hpl:=jt hxp
   have hii:=vI t[i].path c.path (by omega) (by omega)
   have hgs := @Vg t c v i hlt
   have hbs := @qbl t c i hlt
   have hgl:(jz (t.take i) c v).length ≤ i:=by
    unfold jz
    rw [List.length_map]
    have h1:((t.take i).filter (kr c.path)).length ≤ (t.take i).length:=List.length_filter_le ..
    simp at h1;omega
   have hal:=QZ (jz (t.take i) c v) K
   have har:=kV (l:=jz (t.take i) c v) hKr
   have hmt : ∀ w,(if t[i].path = c.path then v else t[i].ver) = w → (y8 c v t[i]).row = [.v (str (c.to ++ t[i].path.drop c.path.length)),.v (.bool t[i].fold),.v (str t[i].text),.v (.int .i64 w)]:=fun w hw=>by simp [y8,Ent.row,hw]
   have hmr := @Wj t[i].path c.path c.to
   have hpu:=Qu ((jz (t.take i) c v).foldl xg K) (y8 c v t[i]) (by omega)
   rw [Yf har] at hpu
   have hbd:inB t[i].path c.path = true → yF (c.to ++ t[i].path.drop c.path.length) = true → yw t c v = 2:=fun h3 h4=>by
    have:y7 t c = true:=by
     simp only [y7,hk,decide_true,Bool.true_and,List.any_eq_true]
     exact ⟨t[i],List.mem_filter.2 ⟨List.getElem_mem _,h3⟩,h4⟩
    simp [yw,this]
   rw [hsofar] at hbs
   generalize hIB:inB t[i].path c.path = IB at *
   clear hst hsofar hDD hEE hhit
   cases IB with
   | false =>
     have hgs2:jz (t.take (i + 1)) c v = jz (t.take i) c v:=by rw [hgs,if_neg (by decide)]
     have hbs2:ku t c (i + 1) = false:=hbs
     generalize hOO:(jz (t.take i) c v).foldl xg K = O at *
     repeat' (first|refine qe ?_|(first|refine xsF Tryz.func162 (hii ..) ?_)|((first|refine qb ?_ ?_|refine qc ?_ ?_|refine xsC ?_ ?_);all_goals (intro hc;have hp:=hc;try simp at hp;try (exfalso;omega)))|refine qp ?_ ?_)
     all_goals try (exfalso;omega)
     refine ⟨t.length - (i + 1),_,by omega,qg (ts:=[(0,qr t),(2,.v (.int .i64 v)),(4,.fp [c.row] 0 0),(12,qr ((jz (t.take (i + 1)) c v).foldl xg K)),(14,.v (.int .i64 ((i + 1:Nat):Int)))]) ?_,i + 1,by omega,rfl,hbs2,rfl⟩;((repeat (first|exact qd|refine qi ?_|refine qI ?_ ?_));all_goals (rw [hgs2,hOO];rfl))
   | true =>
     have hgs2:jz (t.take (i + 1)) c v = jz (t.take i) c v ++ [y8 c v t[i]]:=by rw [hgs,if_pos rfl]
     have hO2:(jz (t.take (i + 1)) c v).foldl xg K = xg ((jz (t.take i) c v).foldl xg K) (y8 c v t[i]):=by rw [hgs2,List.foldl_append];rfl
     rw [← hO2] at hpu
     have hmr:=hmr rfl
     have n1:=kb c.to (by omega)
     have n2:=kb t[i].path (by omega)
     have n3:=kb c.path (by omega)
     have m1:=zF c.to
     have m2:=zF t[i].path
     have hcount:(qm c.path).length ≤ (qm t[i].path).length:=by
      rw [V0,List.isPrefixOf_iff_prefix] at hIB
      exact hIB.length_le
     have hql:(c.to ++ t[i].path.drop c.path.length).length ≤ 4000000:=by simp;omega
     have hpo:=qaC (qm c.to ++ (qm t[i].path).drop (qm c.path).length) (by simp;omega) (by rw [hmr];omega)
     rw [hmr] at hpo
     have hgg:=Kd (c.to ++ t[i].path.drop c.path.length) (by omega)
     have hbs2:ku t c (i + 1) = yF (c.to ++ t[i].path.drop c.path.length):=by simpa using hbs
     have hbd:=hbd rfl
     clear hgs hbs hgs2 hO2 hIB hmr hxp
     generalize hOO2:(jz (t.take (i + 1)) c v).foldl xg K = O2 at *
     generalize (jz (t.take i) c v).foldl xg K = O at *
     generalize c.to ++ t[i].path.drop c.path.length = Q at *
     have hrk : ∀ row,row ∈ (qm t[i].path).map jr → row.length = 1:=fun row hr=>by obtain ⟨x,_,rfl⟩:=List.mem_map.1 hr;rfl
     generalize hA:qm c.to = A at *
     generalize hB:qm t[i].path = B at *
     generalize hD:qm c.path = D at *
     have hml:(B.map jr).length = B.length:=List.length_map ..
     have hmd:(D.map jr).length = D.length:=List.length_map ..
     have hma:(A.map jr).length = A.length:=List.length_map ..
     have hee:(A ++ B.drop D.length).map jr = A.map jr ++ ((B.map jr).take (B.map jr).length).drop (D.map jr).length:=by rw [List.take_length,hmd,List.map_append,List.map_drop]
     rw [hee] at hpo
     have hrd:(((B.map jr).take (B.map jr).length).drop (D.map jr).length).all (fun row=>row.length == 1 && row.all j5) = true:=by
      rw [List.all_eq_true];intro x hx
      obtain ⟨y,_,rfl⟩:=List.mem_map.1 (List.mem_of_mem_take (List.mem_of_mem_drop hx))
      rfl
     have hdl:(((B.map jr).take (B.map jr).length).drop (D.map jr).length).length ≤ 4000000:=by rw [List.length_drop,List.take_length];omega
     clear hA hB hD hee
     cases hGT:yF Q with
     | true =>
       rw [hbd hGT,if_neg (by decide)]
       rw [hGT] at hgg
       clear hbd hbs2 hpu hmt
       repeat' (first|refine qe ?_|(first|(refine jN ?_)|refine xsF Tryz.func162 (hii ..) ?_|refine xsQ Tryz.func165 (n1 ..) ?_|refine xsQ Tryz.func165 (n2 ..) ?_|refine xsQ Tryz.func165 (n3 ..) ?_|(refine vL ?_)|(apply w4;apply vK;(case hx=>rfl);(case hT=>rfl);(case he=>rfl);(case hE=>rfl);(case hn=>rfl);(case hl=>(first|omega|(simp;done)|(simp only [List.length_cons,List.length_nil,List.length_map];omega)|(simp;omega)));(case hz=>rfl);(case hsrc=>(first|(first|(apply xQ;rfl;rfl)|(apply JI;rfl;intro a;rfl)|(apply QR;rfl;rfl;first|omega|(simp;done)|(simp;omega);rfl;first|rfl|exact yA fun _=>rfl))|(apply xQ;rfl;exact hrd)));(case hsz=>(first|omega|(simp;done)|(simp only [List.length_cons,List.length_nil,List.length_map];omega)|(simp;omega)));(case hlen=>(first|omega|(simp;done)|(simp only [List.length_cons,List.length_nil,List.length_map];omega)|(simp;omega)));(case hmn=>exact Nat.ne_of_beq_eq_false rfl);(case hN=>exact nle rfl))|(apply qj;apply xo (ex':=false) (a:=(D.map jr).length) (b:=(B.map jr).length) (m:=0);(case hx=>rfl);(case hT=>rfl);(case he=>rfl);(case hE=>rfl);(case ha=>exact ⟨_,rfl⟩);(case hb=>rfl);(case hm=>trivial);(case hab=>(first|omega|(simp;done)|(simp only [List.length_cons,List.length_nil,List.length_map];omega)|(simp;omega)));(case hbl=>(first|omega|(simp;done)|(simp only [List.length_cons,List.length_nil,List.length_map];omega)|(simp;omega)));(case hrk=>exact hrk);(case hex=>exact nofun);(case hN=>exact nle rfl))|(apply qj;apply yy ([2]);exact jP Tryz.func164 rfl rfl;apply hpo;(case hz=>refine qk ?_ qL;(apply Xi;(case hn=>rfl);(case hl=>(simp;done));(case he=>(congr 1;exact List.take_length));(case hp=>(intro row hrow;rcases List.mem_append.1 hrow with hrow|hrow;(obtain ⟨y,_,rfl⟩:=List.mem_map.1 hrow;rfl);(obtain ⟨y,_,rfl⟩:=List.mem_map.1 (List.mem_of_mem_take (List.mem_of_mem_drop hrow));rfl)))));(case hfl=>rfl);(case hN=>exact nle rfl))|refine xsF Tryz.func166 (hgg ..) ?_)|((first|refine qb ?_ ?_|refine qc ?_ ?_|refine xsC ?_ ?_);all_goals (intro hc;have hp:=hc;try simp at hp;try (exfalso;omega)))|refine qp ?_ ?_)
       all_goals try (exfalso;omega)
       all_goals ((exact j1 (rs:=[.tmp 6,.tmp 7])))
     | false =>
       rw [hGT] at hgg hbs2
       clear hbd
       by_cases hpe2:t[i].path = c.path
       ·rw [hmt v (if_pos hpe2)] at hpu
        clear hmt
        repeat' (first|refine qe ?_|(first|(refine jN ?_)|refine xsF Tryz.func162 (hii ..) ?_|refine xsQ Tryz.func165 (n1 ..) ?_|refine xsQ Tryz.func165 (n2 ..) ?_|refine xsQ Tryz.func165 (n3 ..) ?_|(refine vL ?_)|(apply w4;apply vK;(case hx=>rfl);(case hT=>rfl);(case he=>rfl);(case hE=>rfl);(case hn=>rfl);(case hl=>(first|omega|(simp;done)|(simp only [List.length_cons,List.length_nil,List.length_map];omega)|(simp;omega)));(case hz=>rfl);(case hsrc=>(first|(first|(apply xQ;rfl;rfl)|(apply JI;rfl;intro a;rfl)|(apply QR;rfl;rfl;first|omega|(simp;done)|(simp;omega);rfl;first|rfl|exact yA fun _=>rfl))|(apply xQ;rfl;exact hrd)));(case hsz=>(first|omega|(simp;done)|(simp only [List.length_cons,List.length_nil,List.length_map];omega)|(simp;omega)));(case hlen=>(first|omega|(simp;done)|(simp only [List.length_cons,List.length_nil,List.length_map];omega)|(simp;omega)));(case hmn=>exact Nat.ne_of_beq_eq_false rfl);(case hN=>exact nle rfl))|(apply qj;apply xo (ex':=false) (a:=(D.map jr).length) (b:=(B.map jr).length) (m:=0);(case hx=>rfl);(case hT=>rfl);(case he=>rfl);(case hE=>rfl);(case ha=>exact ⟨_,rfl⟩);(case hb=>rfl);(case hm=>trivial);(case hab=>(first|omega|(simp;done)|(simp only [List.length_cons,List.length_nil,List.length_map];omega)|(simp;omega)));(case hbl=>(first|omega|(simp;done)|(simp only [List.length_cons,List.length_nil,List.length_map];omega)|(simp;omega)));(case hrk=>exact hrk);(case hex=>exact nofun);(case hN=>exact nle rfl))|(apply qj;apply yy ([2]);exact jP Tryz.func164 rfl rfl;apply hpo;(case hz=>refine qk ?_ qL;(apply Xi;(case hn=>rfl);(case hl=>(simp;done));(case he=>(congr 1;exact List.take_length));(case hp=>(intro row hrow;rcases List.mem_append.1 hrow with hrow|hrow;(obtain ⟨y,_,rfl⟩:=List.mem_map.1 hrow;rfl);(obtain ⟨y,_,rfl⟩:=List.mem_map.1 (List.mem_of_mem_take (List.mem_of_mem_drop hrow));rfl)))));(case hfl=>rfl);(case hN=>exact nle rfl))|refine xsF Tryz.func166 (hgg ..) ?_|refine xsQ Tryz.func163 (hpu ..) ?_)|((first|refine qb ?_ ?_|refine qc ?_ ?_|refine xsC ?_ ?_);all_goals (intro hc;have hp:=hc;try simp at hp;try (exfalso;omega)))|refine qp ?_ ?_)
        all_goals try (exfalso;omega)
        all_goals try (exfalso;contradiction)
        refine ⟨t.length - (i + 1),_,by omega,qg (ts:=[(0,qr t),(2,.v (.int .i64 v)),(4,.fp [c.row] 0 0),(12,qr ((jz (t.take (i + 1)) c v).foldl xg K)),(14,.v (.int .i64 ((i + 1:Nat):Int)))]) ?_,i + 1,by omega,rfl,hbs2,rfl⟩;((repeat (first|exact qd|refine qi ?_|refine qI ?_ ?_));all_goals (rw [hOO2];rfl))
       ·rw [hmt t[i].ver (if_neg hpe2)] at hpu
        clear hmt
        repeat' (first|refine qe ?_|(first|(refine jN ?_)|refine xsF Tryz.func162 (hii ..) ?_|refine xsQ Tryz.func165 (n1 ..) ?_|refine xsQ Tryz.func165 (n2 ..) ?_|refine xsQ Tryz.func165 (n3 ..) ?_|(refine vL ?_)|(apply w4;apply vK;(case hx=>rfl);(case hT=>rfl);(case he=>rfl);(case hE=>rfl);(case hn=>rfl);(case hl=>(first|omega|(simp;done)|(simp only [List.length_cons,List.length_nil,List.length_map];omega)|(simp;omega)));(case hz=>rfl);(case hsrc=>(first|(first|(apply xQ;rfl;rfl)|(apply JI;rfl;intro a;rfl)|(apply QR;rfl;rfl;first|omega|(simp;done)|(simp;omega);rfl;first|rfl|exact yA fun _=>rfl))|(apply xQ;rfl;exact hrd)));(case hsz=>(first|omega|(simp;done)|(simp only [List.length_cons,List.length_nil,List.length_map];omega)|(simp;omega)));(case hlen=>(first|omega|(simp;done)|(simp only [List.length_cons,List.length_nil,List.length_map];omega)|(simp;omega)));(case hmn=>exact Nat.ne_of_beq_eq_false rfl);(case hN=>exact nle rfl))|(apply qj;apply xo (ex':=false) (a:=(D.map jr).length) (b:=(B.map jr).length) (m:=0);(case hx=>rfl);(case hT=>rfl);(case he=>rfl);(case hE=>rfl);(case ha=>exact ⟨_,rfl⟩);(case hb=>rfl);(case hm=>trivial);(case hab=>(first|omega|(simp;done)|(simp only [List.length_cons,List.length_nil,List.length_map];omega)|(simp;omega)));(case hbl=>(first|omega|(simp;done)|(simp only [List.length_cons,List.length_nil,List.length_map];omega)|(simp;omega)));(case hrk=>exact hrk);(case hex=>exact nofun);(case hN=>exact nle rfl))|(apply qj;apply yy ([2]);exact jP Tryz.func164 rfl rfl;apply hpo;(case hz=>refine qk ?_ qL;(apply Xi;(case hn=>rfl);(case hl=>(simp;done));(case he=>(congr 1;exact List.take_length));(case hp=>(intro row hrow;rcases List.mem_append.1 hrow with hrow|hrow;(obtain ⟨y,_,rfl⟩:=List.mem_map.1 hrow;rfl);(obtain ⟨y,_,rfl⟩:=List.mem_map.1 (List.mem_of_mem_take (List.mem_of_mem_drop hrow));rfl)))));(case hfl=>rfl);(case hN=>exact nle rfl))|refine xsF Tryz.func166 (hgg ..) ?_|refine xsQ Tryz.func163 (hpu ..) ?_)|((first|refine qb ?_ ?_|refine qc ?_ ?_|refine xsC ?_ ?_);all_goals (intro hc;have hp:=hc;try simp at hp;try (exfalso;omega)))|refine qp ?_ ?_)
        all_goals try (exfalso;omega)
        all_goals try (exfalso;contradiction)
        refine ⟨t.length - (i + 1),_,by omega,qg (ts:=[(0,qr t),(2,.v (.int .i64 v)),(4,.fp [c.row] 0 0),(12,qr ((jz (t.take (i + 1)) c v).foldl xg K)),(14,.v (.int .i64 ((i + 1:Nat):Int)))]) ?_,i + 1,by omega,rfl,hbs2,rfl⟩;((repeat (first|exact qd|refine qi ?_|refine qI ?_ ?_));all_goals (rw [hOO2];rfl))
  ·obtain rfl:i = t.length:=by omega
   have hmb:y7 t c = false:=by
    unfold ku at hsofar
    rw [List.take_length] at hsofar
    simp [y7,hsofar]
   rw [hEE hmb]
   rw [List.take_length]
   rw [← hDD]
   generalize ju t c v = L at *
   have hml:(List.map Ent.row L).length = L.length:=List.length_map ..
   by_cases hL:60 < L.length
   ·rw [if_pos hL]
    (repeat' (first|refine qe ?_|(first|fail)|((first|refine qb ?_ ?_|refine qc ?_ ?_|refine xsC ?_ ?_);all_goals (intro hc;have hp:=hc;try simp at hp;try (exfalso;omega)))|refine qp ?_ ?_))
    (all_goals try (exfalso;omega))
    (all_goals ((exact j1 (rs:=[.tmp 6,.tmp 7]))))
   ·rw [if_neg hL]
    (repeat' (first|refine qe ?_|(first|fail)|((first|refine qb ?_ ?_|refine qc ?_ ?_|refine xsC ?_ ?_);all_goals (intro hc;have hp:=hc;try simp at hp;try (exfalso;omega)))|refine qp ?_ ?_))
    (all_goals try (exfalso;omega))
    (all_goals ((exact j1 (rs:=[.tmp 6,.tmp 7]))))
end Go.Proofs.YtiljlcgmcmjcoaaGreatDoor
set_option linter.unusedSimpArgs false
set_option linter.unnecessarySimpa false
set_option linter.unusedVariables false
set_option maxHeartbeats 1000000
namespace Go.Proofs.YtiljlcgmcmjcoaaGreatDoor
open Go.Ab Go.RowKit
set_option maxRecDepth 10000
attribute [local irreducible] Awp ye ji qQ Red qF Go.Ab.Fin qo Rz xx qG qO ResOk jK je jX qW
def VW (v:Int):List Ent → List Chg → Nat → List Ent × Nat × Int
 | t,[],n=>(t,n,0)
 | t,c :: l,n=>if kE t c v = 0 then VW v (ju t c v) l (n + 1) else ([],n,kE t c v)
def vF (v:Int) (t:List Ent) (l:List Chg):List Ent × Nat × Int :=
 if ¬ jJ t = 0 then ([],0,jJ t) else if 20 < l.length then ([],0,2) else if v8 v = false ∧ 0 < l.length then ([],0,3) else VW v t l 0
def qgE (r:List Ent × Nat × Int):AV := .tup [qr r.1,.v (.int .i64 (r.2.1:Nat)),.v (.int .i64 r.2.2)]
theorem KR {v:Int} {t:List Ent} {l:List Chg} {i:Nat} (h:i < l.length):VW v t (l.drop i) i = if kE t l[i] v = 0 then VW v (ju t l[i] v) (l.drop (i + 1)) (i + 1) else ([],i,kE t l[i] v):=by
 rw [List.drop_eq_getElem_cons h];rfl
theorem qaT (t:List Ent) (l:List Chg) (v:Int) (hb:EBig t) (hcb:CBig l):jO C.P 119 [qr t,xu l,.v (.int .i64 v)] (qgE (vF v t l)):=by
 have h1:=qbK t hb
 have h2:=qaP v
 have hll:=hcb.len
 have hml:(l.map Chg.row).length = l.length:=List.length_map ..
 have hE:vF v t l = if ¬ jJ t = 0 then ([],0,jJ t) else if 20 < l.length then ([],0,2) else if v8 v = false ∧ 0 < l.length then ([],0,3) else VW v t l 0:=rfl
 by_cases hte:jJ t = 0
 ·rw [if_neg (by simp [hte])] at hE
  have hR:=RightE.of hte
  rw [hte] at h1
  have h60:=(Jh hte).1
  have h3:=ZY t (by omega)
  by_cases h20:20 < l.length
  ·rw [if_pos h20] at hE
   rw [hE]
   refine qa Tryz.func119 rfl _ Tryz.ntmps119 (Nat.le_of_ble_eq_true rfl) _ Tryz.results119 0 rfl rfl ?_
   repeat' (first|refine qe ?_|(first|(refine jN ?_)|refine xsQ Tryz.func65 (h1 ..) ?_)|((first|refine qb ?_ ?_|refine qc ?_ ?_|refine xsC ?_ ?_);all_goals (intro hc;have hp:=hc;try simp at hp;try (exfalso;omega)))|refine qp ?_ ?_)
   all_goals try (exfalso;omega)
   all_goals try (exfalso;first|omega|(simp_all;done)|(simp_all;omega))
   all_goals ((exact j1 (rs:=[.tmp 6,.tmp 7,.tmp 8])))
  ·rw [if_neg h20] at hE
   by_cases hv:v8 v = false ∧ 0 < l.length
   ·rw [if_pos hv] at hE
    rw [hE]
    rw [hv.1] at h2
    refine qa Tryz.func119 rfl _ Tryz.ntmps119 (Nat.le_of_ble_eq_true rfl) _ Tryz.results119 0 rfl rfl ?_
    repeat' (first|refine qe ?_|(first|(refine jN ?_)|refine xsQ Tryz.func65 (h1 ..) ?_|refine xsF Tryz.func148 (h2 ..) ?_)|((first|refine qb ?_ ?_|refine qc ?_ ?_|refine xsC ?_ ?_);all_goals (intro hc;have hp:=hc;try simp at hp;try (exfalso;omega)))|refine qp ?_ ?_)
    all_goals try (exfalso;omega)
    all_goals try (exfalso;first|omega|(simp_all;done)|(simp_all;omega))
    all_goals ((exact j1 (rs:=[.tmp 6,.tmp 7,.tmp 8])))
   ·rw [if_neg hv] at hE
    generalize hV:v8 v = V at *
    have hv2:V = false → l.length = 0:=fun h=>by
     rcases Nat.eq_zero_or_pos l.length with h4|h4
     ·exact h4
     ·exact absurd ⟨h,h4⟩ hv
    clear hV
    generalize hA:vF v t l = A at *
    clear hA
    refine qa Tryz.func119 rfl _ Tryz.ntmps119 (Nat.le_of_ble_eq_true rfl) _ Tryz.results119 0 rfl rfl ?_
    repeat' (first|refine qe ?_|(first|(refine jN ?_)|refine xsQ Tryz.func65 (h1 ..) ?_|refine xsF Tryz.func148 (h2 ..) ?_|(apply qN Tryz.func101 rfl rfl;intro hIsFn;refine yr ([]) hIsFn (h3 ..) ?_))|((first|refine qb ?_ ?_|refine qc ?_ ?_|refine xsC ?_ ?_);all_goals (intro hc;have hp:=hc;try simp at hp;try (exfalso;omega)))|refine qp ?_ ?_)
    all_goals try (exfalso;omega)
    all_goals try (exfalso;first|omega|(simp_all;done)|(simp_all;omega))
    all_goals (
     refine Awp.red (wR 0 rfl (by intro row hrow;obtain ⟨x,_,rfl⟩:=List.mem_map.1 hrow;rfl)) ?_
     refine Awp.red (WV 0 0 rfl rfl (by simp)) ?_
     (refine Awp.red (qg (ts:=[(0,qr t),(1,xu l),(2,.v (.int .i64 v)),(33,xu l),(34,.v (.int .i64 l.length)),(35,.v (.int .i64 ((0:Nat):Int)))]) ?_) ?_;((repeat (first|exact qd|refine qi ?_|refine qI ?_ ?_))))
     all_goals try (rw [List.length_map];done)
     all_goals try (rw [List.drop_zero,List.take_of_length_le (by simp)];rfl)
     refine qq (fun n σ => ∃ (i:Nat) (u:List Ent),i ≤ l.length ∧ n = l.length - i ∧ (A = VW v u (l.drop i) i ∧ RightE u) ∧ σ = ⟨[(0,qr u),(1,xu l),(2,.v (.int .i64 v)),(33,xu l),(34,.v (.int .i64 l.length)),(35,.v (.int .i64 (i:Int)))],[],C.nh⟩) l.length ⟨0,t,Nat.zero_le _,rfl,⟨by rw [hE];rfl,hR⟩,rfl⟩ ?_
     rintro n σ ⟨i,u,hi,rfl,⟨hA,hRu⟩,rfl⟩
     by_cases hlt:i < l.length
     ·have hr:=qx (f:=Chg.row) hlt
      have hraw:=qip u l[i] v hRu (hcb.each _ (List.getElem_mem _))
      rw [KR hlt] at hA
      have hL:KF u l[i] v = if kE u l[i] v = 0 then ju u l[i] v else []:=rfl
      by_cases hz:kE u l[i] v = 0
      ·have hRn:=hRu.done hz
       rw [if_pos hz] at hA hL
       rw [hL,hz] at hraw
       generalize ju u l[i] v = U at *
       clear hE hL hz
       repeat' (first|refine qe ?_|(first|refine xsQ Tryz.func149 (hraw ..) ?_)|((first|refine qb ?_ ?_|refine qc ?_ ?_|refine xsC ?_ ?_);all_goals (intro hc;have hp:=hc;try simp at hp;try (exfalso;omega)))|refine qp ?_ ?_)
       all_goals try (exfalso;omega)
       refine ⟨l.length - (i + 1),_,by omega,qg (ts:=[(0,qr U),(1,xu l),(2,.v (.int .i64 v)),(33,xu l),(34,.v (.int .i64 l.length)),(35,.v (.int .i64 ((i + 1:Nat):Int)))]) ?_,i + 1,U,by omega,rfl,⟨hA,hRn⟩,rfl⟩
       (repeat (first|exact qd|refine qi ?_|refine qI ?_ ?_))
      ·rw [if_neg hz] at hA hL
       rw [hL] at hraw
       rw [hA]
       generalize kE u l[i] v = E at *
       clear hE hL hA
       repeat' (first|refine qe ?_|(first|refine xsQ Tryz.func149 (hraw ..) ?_)|((first|refine qb ?_ ?_|refine qc ?_ ?_|refine xsC ?_ ?_);all_goals (intro hc;have hp:=hc;try simp at hp;try (exfalso;omega)))|refine qp ?_ ?_)
       all_goals try (exfalso;omega)
       (exact j1 (rs:=[.tmp 6,.tmp 7,.tmp 8]))
     obtain rfl:i = l.length:=by omega
     rw [List.drop_length] at hA
     have hA:A = (u,l.length,0):=hA
     rw [hA]
     clear hE hA
     repeat' (first|refine qe ?_|fail|((first|refine qb ?_ ?_|refine qc ?_ ?_|refine xsC ?_ ?_);all_goals (intro hc;have hp:=hc;try simp at hp;try (exfalso;omega)))|refine qp ?_ ?_)
     all_goals try (exfalso;omega)
     (refine yu (rs:=[.tmp 6,.tmp 7,.tmp 8]) ?_;(repeat' (first|exact qL|apply qk|exact qB rfl|exact yi|exact vS|apply jT|apply yl|apply jQ|apply yo|apply jY|apply yq|refine vY ?_|apply y0));all_goals (rw [List.length_map])))
 ·rw [if_pos hte] at hE
  rw [hE]
  generalize jJ t = E at *
  refine qa Tryz.func119 rfl _ Tryz.ntmps119 (Nat.le_of_ble_eq_true rfl) _ Tryz.results119 0 rfl rfl ?_
  repeat' (first|refine qe ?_|(first|(refine jN ?_)|refine xsQ Tryz.func65 (h1 ..) ?_)|((first|refine qb ?_ ?_|refine qc ?_ ?_|refine xsC ?_ ?_);all_goals (intro hc;have hp:=hc;try simp at hp;try (exfalso;omega)))|refine qp ?_ ?_)
  all_goals try (exfalso;omega)
  all_goals ((exact j1 (rs:=[.tmp 6,.tmp 7,.tmp 8])))
end Go.Proofs.YtiljlcgmcmjcoaaGreatDoor
set_option linter.unusedSimpArgs false
set_option linter.unnecessarySimpa false
set_option linter.unusedVariables false
set_option maxHeartbeats 1000000
namespace Go.Proofs.YtiljlcgmcmjcoaaGreatDoor
open Go.Ab Go.RowKit
set_option maxRecDepth 10000
attribute [local irreducible] Awp ye ji qQ Red qF Go.Ab.Fin qo Rz xx qG qO ResOk jK je jX qW
theorem qh5 (t:List Ent) (c:Chg) (v:Int):kE t c v = if ¬ yI c = 0 then yI c else if ¬ vP t c = 0 then vP t c else if ¬ yv t c = 0 then yv t c else yw t c v:=by
 unfold kE
 rw [qhR]
 by_cases h0:yI c = 0<;>by_cases h1:vP t c = 0<;>by_cases h2:yv t c = 0<;>simp [h0,h1,h2]
theorem qhP {t:List Ent} {c:Chg} (h:¬ yv t c = 0):yv t c = 8:=by
 unfold yv at *
 split at h
 ·rename_i h1;rw [if_pos h1]
 ·exact absurd rfl h
theorem qdp (t:List Ent) (c:Chg) (v:Int) (h60:t.length ≤ 60) (hs:qv yt t = true) (hgt : ∀ x,x ∈ t → qM x.path = 0) (hcs:c.small):jO C.P 130 [qr t,.agg c.row,.v (.int .i64 v)] (.tup [qr (KF t c v),.v (.int .i64 (kE t c v))]):=by
 have hR:=qh5 t c v
 by_cases h0:yI c = 0
 ·rw [if_neg (by simp [h0])] at hR
  by_cases h1:vP t c = 0
  ·rw [if_neg (by simp [h1])] at hR
   by_cases h2:yv t c = 0
   ·rw [if_neg (by simp [h2])] at hR
    obtain ⟨k1,k2, -⟩:=yS h0
    have hL:KF t c v = if yw t c v = 0 then ju t c v else []:=by unfold KF;rw [hR]
    rw [hL,hR]
    by_cases e1:c.kind = 1
    ·exact qjb t c v h60 hs hgt hcs e1 h0 h1 h2
    ·by_cases e2:c.kind = 2
     ·exact qiZ t c v h60 hs hgt hcs e2 h0 h1 h2
     ·by_cases e3:c.kind = 3
      ·exact qiX t c v h60 hs hgt hcs e3 h0 h1 h2
      ·exact qje t c v h60 hs hgt hcs (by omega) h0 h1 h2
   ·rw [if_pos h2] at hR
    rw [Xs (by rw [hR];exact h2),hR,qhP h2]
    exact qjg t c v h60 hs hgt hcs h0 h1 h2
  ·rw [if_pos h1] at hR
   rw [Xs (by rw [hR];exact h1),hR]
   exact qjd t c v h60 hs hcs h0 h1
 ·rw [if_pos h0] at hR
  rw [Xs (by rw [hR];exact h0),hR]
  exact qji t c v h60 hcs h0
theorem qhl {t:List Ent} {c:Chg} {v:Int} (hr:kE t c v = 0):(ju t c v).length ≤ 60:=by
 unfold kE at hr
 split at hr
 ·contradiction
 ·split at hr
  ·contradiction
  ·exact (W4 hr).2
def qcX (t:List Ent) (l:List Chg) (v:Int):List Ent × Nat × Int:=if 20 < l.length then ([],0,2) else if v8 v = false ∧ 0 < l.length then ([],0,3) else VW v t l 0
theorem WD (t:List Ent) (l:List Chg) (v:Int) (h60:t.length ≤ 60) (hR:RightE t) (hcb:CBig l):jO C.P 97 [qr t,xu l,.v (.int .i64 v)] (qgE (qcX t l v)):=by
 have h2:=Kf v
 have hll:=hcb.len
 have hml:(l.map Chg.row).length = l.length:=List.length_map ..
 have hE:qcX t l v = if 20 < l.length then ([],0,2) else if v8 v = false ∧ 0 < l.length then ([],0,3) else VW v t l 0:=rfl
 by_cases h20:20 < l.length
 ·rw [if_pos h20] at hE
  rw [hE]
  refine qa Tryz.func97 rfl _ Tryz.ntmps97 (Nat.le_of_ble_eq_true rfl) _ Tryz.results97 0 rfl rfl ?_
  repeat' (first|refine qe ?_|fail|((first|refine qb ?_ ?_|refine qc ?_ ?_|refine xsC ?_ ?_);all_goals (intro hc;have hp:=hc;try simp at hp;try (exfalso;omega)))|refine qp ?_ ?_)
  all_goals try (exfalso;first|omega|(simp_all;done)|(simp_all;omega))
  all_goals ((exact j1 (rs:=[.tmp 6,.tmp 7,.tmp 8])))
 ·rw [if_neg h20] at hE
  by_cases hv:v8 v = false ∧ 0 < l.length
  ·rw [if_pos hv] at hE
   rw [hE]
   rw [hv.1] at h2
   refine qa Tryz.func97 rfl _ Tryz.ntmps97 (Nat.le_of_ble_eq_true rfl) _ Tryz.results97 0 rfl rfl ?_
   repeat' (first|refine qe ?_|(first|refine xsF Tryz.func110 (h2 ..) ?_)|((first|refine qb ?_ ?_|refine qc ?_ ?_|refine xsC ?_ ?_);all_goals (intro hc;have hp:=hc;try simp at hp;try (exfalso;omega)))|refine qp ?_ ?_)
   all_goals try (exfalso;first|omega|(simp_all;done)|(simp_all;omega))
   all_goals ((exact j1 (rs:=[.tmp 6,.tmp 7,.tmp 8])))
  ·rw [if_neg hv] at hE
   generalize hV:v8 v = V at *
   have hv2:V = false → l.length = 0:=fun h=>by
    rcases Nat.eq_zero_or_pos l.length with h4|h4
    ·exact h4
    ·exact absurd ⟨h,h4⟩ hv
   clear hV
   generalize hA:qcX t l v = A at *
   clear hA
   refine qa Tryz.func97 rfl _ Tryz.ntmps97 (Nat.le_of_ble_eq_true rfl) _ Tryz.results97 0 rfl rfl ?_
   repeat' (first|refine qe ?_|(first|refine xsF Tryz.func110 (h2 ..) ?_)|((first|refine qb ?_ ?_|refine qc ?_ ?_|refine xsC ?_ ?_);all_goals (intro hc;have hp:=hc;try simp at hp;try (exfalso;omega)))|refine qp ?_ ?_)
   all_goals try (exfalso;first|omega|(simp_all;done)|(simp_all;omega))
   all_goals (
    (refine Awp.red (qg (ts:=[(0,qr t),(1,xu l),(2,.v (.int .i64 v)),(9,.v (.int .i64 ((0:Nat):Int)))]) ?_) ?_;((repeat (first|exact qd|refine qi ?_|refine qI ?_ ?_))))
    refine qq (fun n σ => ∃ (i:Nat) (u:List Ent),i ≤ l.length ∧ n = l.length - i ∧ (A = VW v u (l.drop i) i ∧ RightE u ∧ u.length ≤ 60) ∧ σ = ⟨[(0,qr u),(1,xu l),(2,.v (.int .i64 v)),(9,.v (.int .i64 (i:Int)))],[],C.nh⟩) l.length ⟨0,t,Nat.zero_le _,rfl,⟨by rw [hE];rfl,hR,h60⟩,rfl⟩ ?_
    rintro n σ ⟨i,u,hi,rfl,⟨hA,hRu,hu60⟩,rfl⟩
    by_cases hlt:i < l.length
    ·have hr:=qx (f:=Chg.row) hlt
     have hraw:=qdp u l[i] v hu60 hRu.rise hRu.paths (hcb.each _ (List.getElem_mem _))
     rw [KR hlt] at hA
     have hL:KF u l[i] v = if kE u l[i] v = 0 then ju u l[i] v else []:=rfl
     by_cases hz:kE u l[i] v = 0
     ·have hRn:=hRu.done hz
      have hRl:=qhl hz
      rw [if_pos hz] at hA hL
      rw [hL,hz] at hraw
      generalize ju u l[i] v = U at *
      clear hE hL hz
      repeat' (first|refine qe ?_|(first|refine xsQ Tryz.func130 (hraw ..) ?_)|((first|refine qb ?_ ?_|refine qc ?_ ?_|refine xsC ?_ ?_);all_goals (intro hc;have hp:=hc;try simp at hp;try (exfalso;omega)))|refine qp ?_ ?_)
      all_goals try (exfalso;omega)
      refine ⟨l.length - (i + 1),_,by omega,qg (ts:=[(0,qr U),(1,xu l),(2,.v (.int .i64 v)),(9,.v (.int .i64 ((i + 1:Nat):Int)))]) ?_,i + 1,U,by omega,rfl,⟨hA,hRn,hRl⟩,rfl⟩
      (repeat (first|exact qd|refine qi ?_|refine qI ?_ ?_))
     ·rw [if_neg hz] at hA hL
      rw [hL] at hraw
      rw [hA]
      generalize kE u l[i] v = E at *
      clear hE hL hA
      repeat' (first|refine qe ?_|(first|refine xsQ Tryz.func130 (hraw ..) ?_)|((first|refine qb ?_ ?_|refine qc ?_ ?_|refine xsC ?_ ?_);all_goals (intro hc;have hp:=hc;try simp at hp;try (exfalso;omega)))|refine qp ?_ ?_)
      all_goals try (exfalso;omega)
      (exact j1 (rs:=[.tmp 6,.tmp 7,.tmp 8]))
    obtain rfl:i = l.length:=by omega
    rw [List.drop_length] at hA
    have hA:A = (u,l.length,0):=hA
    rw [hA]
    clear hE hA
    repeat' (first|refine qe ?_|fail|((first|refine qb ?_ ?_|refine qc ?_ ?_|refine xsC ?_ ?_);all_goals (intro hc;have hp:=hc;try simp at hp;try (exfalso;omega)))|refine qp ?_ ?_)
    all_goals try (exfalso;omega)
    (refine yu (rs:=[.tmp 6,.tmp 7,.tmp 8]) ?_;(repeat' (first|exact qL|apply qk|exact qB rfl|exact yi|exact vS|apply jT|apply yl|apply jQ|apply yo|apply jY|apply yq|refine vY ?_|apply y0));all_goals (rw [List.length_map])))
theorem qhT (t:List Ent) (l:List Chg) (v:Int):vF v t l = if ¬ jJ t = 0 then ([],0,jJ t) else qcX t l v:=rfl
end Go.Proofs.YtiljlcgmcmjcoaaGreatDoor
set_option linter.unusedSimpArgs false
set_option linter.unnecessarySimpa false
set_option linter.unusedVariables false
set_option maxHeartbeats 1000000
namespace Go.Proofs.YtiljlcgmcmjcoaaGreatDoor
open Go.Ab Go.RowKit
set_option maxRecDepth 10000
attribute [local irreducible] Awp ye ji qQ Red qF Go.Ab.Fin qo Rz xx qG qO ResOk jK je jX qW
end Go.Proofs.YtiljlcgmcmjcoaaGreatDoor
set_option linter.unusedSimpArgs false
set_option maxHeartbeats 1000000
namespace Go.Proofs.YtiljlcgmcmjcoaaGreatDoor
open Go.Ab Go.RowKit
set_option maxRecDepth 10000
attribute [local irreducible] Awp ye ji qQ Red qF Go.Ab.Fin qo Rz xx qG qO ResOk jK je jX qW
theorem qjh (a b:Int):jO C.P 120 [.sl false [[.v (.int .i64 a)],[.v (.int .i64 b)]]] (.v (.int .i64 (if a = 0 then b else a))):=by
 have hc:([a,b].map fun x => [AV.v (.int .i64 x)]) = [[.v (.int .i64 a)],[.v (.int .i64 b)]]:=rfl
 rw [← hc]
 refine qa Tryz.func120 rfl _ Tryz.ntmps120 (Nat.le_of_ble_eq_true rfl) _ Tryz.results120 0 rfl rfl ?_
 repeat' (first|refine qe ?_|fail|((first|refine xsC ?_ ?_);all_goals (intro hc;have hp:=hc;try simp at hp;try (exfalso;omega)))|refine qp ?_ ?_)
 (refine Awp.red (qg (ts:=[(3,.v (.int .i64 0)),(6,.sl false ([a,b].map fun x => [AV.v (.int .i64 x)])),(7,.v (.int .i64 (2:Int))),(8,.v (.int .i64 ((0:Nat):Int)))]) ?_) ?_;((repeat (first|exact qd|refine qi ?_|refine qI ?_ ?_))))
 refine qq (fun n σ => ∃ i:Nat,i ≤ [a,b].length ∧ n = [a,b].length - i ∧ (∀ x,x ∈ [a,b].take i → x = 0) ∧ σ = ⟨[(3,.v (.int .i64 0)),(6,.sl false ([a,b].map fun x => [AV.v (.int .i64 x)])),(7,.v (.int .i64 (2:Int))),(8,.v (.int .i64 (i:Int)))],[],C.nh⟩) [a,b].length ⟨0,Nat.zero_le _,rfl,(by simp),rfl⟩ ?_
 rintro n σ ⟨i,hi,rfl,hsofar,rfl⟩
 have hi2:i ≤ 2:=hi
 by_cases hlt:i < [a,b].length
 ·have hlt2:i < 2:=hlt
  have hr:=qx (f:=fun x:Int => [AV.v (.int .i64 x)]) hlt
  repeat' (first|refine qe ?_|fail|((first|refine xsC ?_ ?_);all_goals (intro hc;have hp:=hc;try simp at hp;try (exfalso;omega)))|refine qp ?_ ?_)
  all_goals try (exfalso;omega)
  ·apply qE
   rfl
   match i,hlt,hp,hsofar with
   | 0,_,hp,_=>simp at hp ⊢;simp [hp]
   | 1,_,hp,hsofar=>simp at hsofar;simp [hsofar]
  ·refine ⟨[a,b].length - (i + 1),_,by omega,qg (ts:=[(3,.v (.int .i64 0)),(6,.sl false ([a,b].map fun x => [AV.v (.int .i64 x)])),(7,.v (.int .i64 (2:Int))),(8,.v (.int .i64 ((i + 1:Nat):Int)))]) ?_,i + 1,by omega,rfl,qJ hlt hsofar hp,rfl⟩;((repeat (first|exact qd|refine qi ?_|refine qI ?_ ?_)))
 have hi3:¬ i < 2:=hlt
 repeat' (first|refine qe ?_|fail|((first|refine xsC ?_ ?_);all_goals (intro hc;have hp:=hc;try simp at hp;try (exfalso;omega)))|refine qp ?_ ?_)
 all_goals try (exfalso;omega)
 obtain rfl:i = 2:=by omega
 apply qE
 rfl
 simp at hsofar
 simp [hsofar]
theorem V7 (a b:Gra):jO C.P 75 [.agg a.row,.agg b.row] (.v (.int .i64 (kQ a b))):=by
 refine qa Tryz.func75 rfl _ Tryz.ntmps75 (Nat.le_of_ble_eq_true rfl) _ Tryz.results75 0 rfl rfl ?_
 repeat' (first|refine qe ?_|(first|refine xsF Tryz.func100 (Ve ..) ?_|refine xsQ Tryz.func120 (qjh ..) ?_|(refine jN ?_))|((first|refine xsC ?_ ?_);all_goals (intro hc;have hp:=hc;try simp at hp;try (exfalso;omega)))|refine qp ?_ ?_)
 all_goals (apply qE;rfl;simp [kQ])
end Go.Proofs.YtiljlcgmcmjcoaaGreatDoor
set_option linter.unusedSimpArgs false
set_option maxHeartbeats 1000000
namespace Go.Proofs.YtiljlcgmcmjcoaaGreatDoor
open Go.Ab Go.RowKit
set_option maxRecDepth 10000
attribute [local irreducible] Awp ye ji qQ Red qF Go.Ab.Fin qo Rz xx qG qO ResOk jK je jX qW
theorem qdd (p:qC → Bool) (g:FuncId) (hg:IsFn C.P g) (cap:List AV) (hcap:AV.pure.pureL cap = true) (l:List (qC)) (hl:l.length ≤ 1000000) (hc : ∀ s,s ∈ l → jO C.P g ((AV.v (str s)) :: cap) (.v (.bool (p s)))) :
  jO C.P 135 [.sl false (l.map jr),.clo (.func g) [] cap] (.v (.int .i64 (j0 p l))):=by
 refine qa Tryz.func135 rfl _ Tryz.ntmps135 (Nat.le_of_ble_eq_true rfl) _ Tryz.results135 0 rfl rfl ?_
 repeat' (first|refine qe ?_|fail|((first|refine xsC ?_ ?_);all_goals (intro hc;have hp:=hc;try simp at hp;try (exfalso;omega)))|refine qp ?_ ?_)
 (refine Awp.red (qg (ts:=[(0,.sl false (l.map jr)),(1,.clo (.func g) [] cap),(7,.v (.int .i64 l.length)),(8,.v (.int .i64 ((0:Nat):Int)))]) ?_) ?_;((repeat (first|exact qd|refine qi ?_|refine qI ?_ ?_))))
 all_goals try (rw [List.length_map];done)
 refine qq (fun n σ => ∃ i:Nat,i ≤ l.length ∧ n = l.length - i ∧ (∀ s,s ∈ l.take i → p s = false) ∧ σ = ⟨[(0,.sl false (l.map jr)),(1,.clo (.func g) [] cap),(7,.v (.int .i64 l.length)),(8,.v (.int .i64 (i:Int)))],[],C.nh⟩) l.length ⟨0,Nat.zero_le _,rfl,(by simp),rfl⟩ ?_
 rintro n σ ⟨i,hi,rfl,hsofar,rfl⟩
 by_cases hlt:i < l.length
 ·have hr:=qx (f:=jr) hlt
  have hci:=hc l[i] (List.getElem_mem _)
  repeat' (first|refine qe ?_|(first|(apply qj;apply kt [];rfl;exact hg;exact hci;(case hz=>exact qk (qB rfl) (wk hcap));(case hfl=>rfl);(case hN=>exact nle rfl)))|((first|refine xsC ?_ ?_);all_goals (intro hc;have hp:=hc;try simp at hp;try (exfalso;omega)))|refine qp ?_ ?_)
  all_goals try (exfalso;omega)
  ·apply qE
   rfl
   exact (zu hlt hsofar hp).symm
  ·refine ⟨l.length - (i + 1),_,by omega,qg (ts:=[(0,.sl false (l.map jr)),(1,.clo (.func g) [] cap),(7,.v (.int .i64 l.length)),(8,.v (.int .i64 ((i + 1:Nat):Int)))]) ?_,i + 1,by omega,rfl,qJ hlt hsofar hp,rfl⟩;((repeat (first|exact qd|refine qi ?_|refine qI ?_ ?_)))
 obtain rfl:i = l.length:=by omega
 repeat' (first|refine qe ?_|fail|((first|refine xsC ?_ ?_);all_goals (intro hc;have hp:=hc;try simp at hp;try (exfalso;omega)))|refine qp ?_ ?_)
 all_goals try (exfalso;omega)
 apply qE
 rfl
 exact (vH fun s hs=>hsofar s (by rw [List.take_length];exact hs)).symm
theorem Ku (p:qC → Bool) (g:FuncId) (hg:IsFn C.P g) (cap:List AV) (hcap:AV.pure.pureL cap = true) (l:List (qC)) (hl:l.length ≤ 1000000) (hc : ∀ s,s ∈ l → jO C.P g ((AV.v (str s)) :: cap) (.v (.bool (p s)))) :
  jO C.P 106 [.sl false (l.map jr),.clo (.func g) [] cap] (.v (.bool (l.any p))):=by
 have hidx:=qdd p g hg cap hcap l hl hc
 refine qa Tryz.func106 rfl _ Tryz.ntmps106 (Nat.le_of_ble_eq_true rfl) _ Tryz.results106 0 rfl rfl ?_
 repeat' (first|refine qe ?_|(first|(apply qj;apply yy [];exact jP Tryz.func135 rfl rfl;exact hidx;(case hz=>exact qk (qB rfl) (qk (x8 hcap) qL));(case hfl=>rfl);(case hN=>exact nle rfl)))|((first|refine xsC ?_ ?_);all_goals (intro hc;have hp:=hc;try simp at hp;try (exfalso;omega)))|refine qp ?_ ?_)
 apply jd
 rfl
 rw [← Vh]
theorem qfx (s:qC) (hs:s.length ≤ 140737488355328):jO C.P 107 [.v (str s)] (.v (.bool (!ql s))):=by
 refine qa Tryz.func107 rfl _ Tryz.ntmps107 (Nat.le_of_ble_eq_true rfl) _ Tryz.results107 0 rfl rfl ?_
 repeat' (first|refine qe ?_|(first|refine xsF Tryz.func37 (vA _ hs ..) ?_)|((first|refine xsC ?_ ?_);all_goals (intro hc;have hp:=hc;try simp at hp;try (exfalso;omega)))|refine qp ?_ ?_)
 all_goals (apply jd;rfl;simp_all)
theorem Y9 (l:List qC) (hl:l.length ≤ 1000000) (hs : ∀ s,s ∈ l → s.length ≤ 140737488355328):jO C.P 62 [.sl false (l.map jr)] (.v (.bool (l.all ql))):=by
 have hcon:=Ku (fun s => !ql s) 107 (jP Tryz.func107 rfl rfl) [] rfl l hl (fun s h=>qfx s (hs s h))
 refine qa Tryz.func62 rfl _ Tryz.ntmps62 (Nat.le_of_ble_eq_true rfl) _ Tryz.results62 0 rfl rfl ?_
 repeat' (first|refine qe ?_|(first|refine xsF Tryz.func106 (hcon ..) ?_)|((first|refine xsC ?_ ?_);all_goals (intro hc;have hp:=hc;try simp at hp;try (exfalso;omega)))|refine qp ?_ ?_)
 all_goals (apply jd;rfl;simp_all [List.all_eq_not_any_not])
end Go.Proofs.YtiljlcgmcmjcoaaGreatDoor
set_option linter.unusedSimpArgs false
set_option linter.unnecessarySimpa false
set_option linter.unusedVariables false
set_option maxHeartbeats 1000000
namespace Go.Proofs.YtiljlcgmcmjcoaaGreatDoor
open Go.Ab Go.RowKit
set_option maxRecDepth 10000
attribute [local irreducible] Awp ye ji qQ Red qF Go.Ab.Fin qo Rz xx qG qO ResOk jK je jX qW
theorem qhI:qeN C.P 81 = some [0,1,1,1,0]:=by kernel_rfl
theorem qel (a b:Chg):QI [0,1,1,1,0] a.row b.row = some (decide (a = b)):=by
 obtain ⟨a1,a2,a3,a4,a5⟩:=a
 obtain ⟨b1,b2,b3,b4,b5⟩:=b
 simp only [Chg.row,QI,Jb,str,Chg.mk.injEq,if_true,Option.some.injEq]
 by_cases h1:a1 = b1<;>by_cases h2:a2 = b2<;>by_cases h3:a3 = b3<;>by_cases h4:a4 = b4<;>by_cases h5:a5 = b5<;>simp [h1,h2,h3,h4,h5]
theorem KE (a b:List Chg) (ha:a.length ≤ 1000000000) (hb:b.length ≤ 1000000000):jO C.P 115 [xu a,xu b] (.v (.bool (decide (a = b)))):=by
 have hma:(a.map Chg.row).length = a.length:=List.length_map ..
 have hmb:(b.map Chg.row).length = b.length:=List.length_map ..
 refine qa Tryz.func115 rfl _ Tryz.ntmps115 (Nat.le_of_ble_eq_true rfl) _ Tryz.results115 0 rfl rfl ?_
 repeat' (first|refine qe ?_|fail|((first|refine xsC ?_ ?_);all_goals (intro hc;have hp:=hc;try simp at hp;try (exfalso;omega)))|refine qp ?_ ?_)
 ·apply jd
  rfl
  have hne:¬ a = b:=fun e=>by subst e;simp at *
  simp [hne]
 have hab:a.length = b.length:=by simp at *;omega
 (refine Awp.red (qg (ts:=[(0,xu a),(1,xu b),(5,.v (.int .i64 ((0:Nat):Int)))]) ?_) ?_;((repeat (first|exact qd|refine qi ?_|refine qI ?_ ?_))))
 refine qq (fun n σ => ∃ i:Nat,i ≤ a.length ∧ n = a.length - i ∧ (a.take i = b.take i) ∧ σ = ⟨[(0,xu a),(1,xu b),(5,.v (.int .i64 (i:Int)))],[],C.nh⟩) a.length ⟨0,Nat.zero_le _,rfl,rfl,rfl⟩ ?_
 rintro n σ ⟨i,hi,rfl,hsofar,rfl⟩
 by_cases hlt:i < a.length
 ·have hlt2:i < b.length:=by omega
  have hr:=qx (f:=Chg.row) hlt
  have hr':=qx (f:=Chg.row) hlt2
  have hnx:=Vd hlt hlt2 hsofar
  repeat' (first|refine qe ?_|(first|(apply qj;apply Y1;rfl;rfl;exact qhI;exact qel _ _;(first|exact .inl ⟨rfl,rfl⟩|exact .inr ⟨rfl,rfl⟩);exact nle rfl))|((first|refine xsC ?_ ?_);all_goals (intro hc;have hp:=hc;try simp at hp;try (exfalso;omega)))|refine qp ?_ ?_)
  all_goals try (exfalso;omega)
  ·apply jd
   rfl
   have hne:¬ a = b:=fun e=>by subst e;simp at *
   simp [hne]
  ·refine ⟨a.length - (i + 1),_,by omega,qg (ts:=[(0,xu a),(1,xu b),(5,.v (.int .i64 ((i + 1:Nat):Int)))]) ?_,i + 1,by omega,rfl,(hnx (by simp_all)),rfl⟩;((repeat (first|exact qd|refine qi ?_|refine qI ?_ ?_)))
 obtain rfl:i = a.length:=by omega
 have he:a = b:=by rw [List.take_length] at hsofar;rw [hsofar,hab,List.take_length]
 repeat' (first|refine qe ?_|fail|((first|refine xsC ?_ ?_);all_goals (intro hc;have hp:=hc;try simp at hp;try (exfalso;omega)))|refine qp ?_ ?_)
 all_goals try (exfalso;omega)
 apply jd
 rfl
 simp [he]
end Go.Proofs.YtiljlcgmcmjcoaaGreatDoor
set_option linter.unusedSimpArgs false
set_option linter.unnecessarySimpa false
set_option linter.unusedVariables false
set_option maxHeartbeats 1000000
namespace Go.Proofs.YtiljlcgmcmjcoaaGreatDoor
open Go.Ab Go.RowKit
set_option maxRecDepth 10000
attribute [local irreducible] Awp ye ji qQ Red qF Go.Ab.Fin qo Rz xx qG qO ResOk jK je jX qW
end Go.Proofs.YtiljlcgmcmjcoaaGreatDoor
set_option linter.unusedSimpArgs false
set_option linter.unnecessarySimpa false
set_option linter.unusedVariables false
set_option maxHeartbeats 1000000
namespace Go.Proofs.YtiljlcgmcmjcoaaGreatDoor
open Go.Ab Go.RowKit
set_option maxRecDepth 10000
attribute [local irreducible] Awp ye ji qQ Red qF Go.Ab.Fin qo Rz xx qG qO ResOk jK je jX qW
theorem wN (l:List Ent) (hl:l.length ≤ 1000000):jO C.P 101 [qr l] (qr l) :=
 Qc (ZY l hl) (yn rfl (by simp) (jq fun _=>rfl))
theorem qgd (l:List Chg) (hl:l.length ≤ 1000000) :
  qo C.P 122 [xu l] [] (.os 0 0 l.length) [.own false 5 (l.map Chg.row)]:=by
 by_cases h0:l = []
 ·subst h0
  refine qa Tryz.func122 rfl _ Tryz.ntmps122 (Nat.le_of_ble_eq_true rfl) _ Tryz.results122 0 rfl rfl ?_
  repeat' (first|refine qe ?_|(first|(refine jN ?_)|(refine vL ?_)|(refine J9 ?_))|((first|refine xsC ?_ ?_);all_goals (intro hc;have hp:=hc;try simp at hp;try (exfalso;omega)))|refine qp ?_ ?_)
  · (refine Qv (C:=C) (zd (C:=C) 2 5 rfl (Nat.zero_le _)) ?_)
    (refine Jf (rs:=[.tmp 2]) [(0,0)] 1 ?_;(repeat (first|exact qf|refine jV ?_|refine qH ?_ ?_));all_goals skip)
  · (refine Jf (rs:=[.tmp 2]) [(0,0)] 1 ?_;(repeat (first|exact qf|refine jV ?_|refine qH ?_ ?_));all_goals skip)
 ·refine qa Tryz.func122 rfl _ Tryz.ntmps122 (Nat.le_of_ble_eq_true rfl) _ Tryz.results122 0 rfl rfl ?_
  repeat' (first|refine qe ?_|(first|(refine jN ?_)|(refine vL ?_)|(apply qj;apply wK;rfl;exact (fun h=>h0 (List.map_eq_nil_iff.1 h));rfl;rfl;(first|exact .inl rfl|exact .inr rfl);exact nle rfl))|((first|refine xsC ?_ ?_);all_goals (intro hc;have hp:=hc;try simp at hp;try (exfalso;omega)))|refine qp ?_ ?_)
  (refine Jf (rs:=[.tmp 2]) [(0,0)] 1 ?_;(repeat (first|exact qf|refine jV ?_|refine qH ?_ ?_));all_goals skip)
theorem J6 (l:List Chg) (hl:l.length ≤ 1000000):jO C.P 122 [xu l] (xu l) :=
 Qc (qgd l hl) (yn rfl (by simp) (jq fun _=>rfl))
end Go.Proofs.YtiljlcgmcmjcoaaGreatDoor
