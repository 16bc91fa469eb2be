import Derived.Test.YtiljlcgmcmjcoaaGreatDoorMz22
import Derived.Test.YtiljlcgmcmjcoaaGreatDoorMz23
import Derived.Test.YtiljlcgmcmjcoaaGreatDoorMz15
set_option linter.unusedSimpArgs false
set_option linter.unnecessarySimpa false
set_option linter.unusedVariables false
set_option maxHeartbeats 1000000
namespace Go.Proofs.YtiljlcgmcmjcoaaGreatDoor
open Go.Ab Go.RowKit
set_option maxRecDepth 10000
attribute [local irreducible] Awp ye ji qQ Red qF Go.Ab.Fin qo Rz xx qG qO ResOk jK je jX qW
theorem JD {α:Type} {l:List α} {k c:Nat} (h:k + c < l.length):(l.drop k).take (c + 1) = (l.drop k).take c ++ [l[k + c]]:=by
 rw [List.take_succ_eq_append_getElem (by simp;omega)]
 simp
set_option maxHeartbeats 4000000 in
theorem qgY (j:Jou) (cursor most:Int) (hb:JBig j) (hJ:JRight j):jO C.P 50 [.agg j.row,.v (.int .i64 cursor),.v (.int .i64 most)] (qgw (QA j cursor most)):=by
 have hmj:(j.coms.map Com.row).length = j.coms.length:=List.length_map ..
 have hlen:=hJ.len
 have hlo:=hJ.lo
 have hhi:=hJ.hi
 have htr:=qbp j hb hJ
 have hL:vy j = j.first + ((j.coms.map Com.row).length:Int) - 1:=by rw [hmj];rfl
 have hnum:=fun i h=>KQ hJ.run i h
 unfold QA
 generalize hNW:vc j = U at *
 clear hNW
 generalize vy j = LN at *
 subst hL
 by_cases h1:most < 1 ∨ 10 < most ∨ cursor < 0
 ·rw [if_pos h1]
  refine qa Tryz.func50 rfl _ Tryz.ntmps50 (Nat.le_of_ble_eq_true rfl) _ Tryz.results50 0 rfl rfl ?_
  (repeat apply jg);apply qw;(repeat' (first|apply qT|refine xi ?_|refine xe ?_|refine xl ?_|refine xN ?_|refine xj ?_|refine vm ?_|refine xb ?_|refine vb ?_|refine vX ?_|refine xX ?_|refine xn ?_|refine yG ?_|(first|fail)|refine yg ?_|refine j6 ?_|refine j4 ?_|refine jF ?_|refine jG ?_|refine yL ?_|refine yK ?_|refine j7 ?_|refine j8 ?_|((first|refine qb ?_ ?_|refine qc ?_ ?_);all_goals (intro hc;have hp:=hc;try simp at hp;try (exfalso;omega)))));show Awp _ _ _ _ _
  refine xV 3 0 ?_
  (repeat' (first|refine qe ?_|(first|fail)|((first|refine qb ?_ ?_|refine qc ?_ ?_|refine xsC ?_ ?_);all_goals (intro hc;have hp:=hc;try simp at hp;try (exfalso;omega)))|refine qp ?_ ?_))
  (all_goals try (exfalso;first|omega|contradiction))
  all_goals ((exact j1 (rs:=[.cell 6 44,.tmp 7])))
 ·rw [if_neg h1]
  by_cases h2:j.first + ((j.coms.map Com.row).length:Int) - 1 < cursor
  ·rw [if_pos h2]
   refine qa Tryz.func50 rfl _ Tryz.ntmps50 (Nat.le_of_ble_eq_true rfl) _ Tryz.results50 0 rfl rfl ?_
   (repeat apply jg);apply qw;(repeat' (first|apply qT|refine xi ?_|refine xe ?_|refine xl ?_|refine xN ?_|refine xj ?_|refine vm ?_|refine xb ?_|refine vb ?_|refine vX ?_|refine xX ?_|refine xn ?_|refine yG ?_|(first|fail)|refine yg ?_|refine j6 ?_|refine j4 ?_|refine jF ?_|refine jG ?_|refine yL ?_|refine yK ?_|refine j7 ?_|refine j8 ?_|((first|refine qb ?_ ?_|refine qc ?_ ?_);all_goals (intro hc;have hp:=hc;try simp at hp;try (exfalso;omega)))));show Awp _ _ _ _ _
   refine xV 3 0 ?_
   (repeat' (first|refine qe ?_|(first|fail)|((first|refine qb ?_ ?_|refine qc ?_ ?_|refine xsC ?_ ?_);all_goals (intro hc;have hp:=hc;try simp at hp;try (exfalso;omega)))|refine qp ?_ ?_))
   (all_goals try (exfalso;first|omega|contradiction))
   all_goals ((exact j1 (rs:=[.cell 6 44,.tmp 7])))
  ·rw [if_neg h2]
   by_cases h3:cursor < j.first - 1
   ·rw [if_pos h3]
    refine qa Tryz.func50 rfl _ Tryz.ntmps50 (Nat.le_of_ble_eq_true rfl) _ Tryz.results50 0 rfl rfl ?_
    (repeat apply jg);apply qw;(repeat' (first|apply qT|refine xi ?_|refine xe ?_|refine xl ?_|refine xN ?_|refine xj ?_|refine vm ?_|refine xb ?_|refine vb ?_|refine vX ?_|refine xX ?_|refine xn ?_|refine yG ?_|(first|fail)|refine yg ?_|refine j6 ?_|refine j4 ?_|refine jF ?_|refine jG ?_|refine yL ?_|refine yK ?_|refine j7 ?_|refine j8 ?_|((first|refine qb ?_ ?_|refine qc ?_ ?_);all_goals (intro hc;have hp:=hc;try simp at hp;try (exfalso;omega)))));show Awp _ _ _ _ _
    refine xV 3 0 ?_
    (repeat' (first|refine qe ?_|(first|refine xsQ Tryz.func28 (htr ..) ?_)|((first|refine qb ?_ ?_|refine qc ?_ ?_|refine xsC ?_ ?_);all_goals (intro hc;have hp:=hc;try simp at hp;try (exfalso;omega)))|refine qp ?_ ?_))
    (all_goals try (exfalso;first|omega|contradiction))
    all_goals ((exact j1 (rs:=[.cell 6 44,.tmp 7])))
   ·rw [if_neg h3]
    obtain ⟨k,hk⟩ : ∃ k:Nat,k = (cursor - j.first + 1).toNat:=⟨_,rfl⟩
    obtain ⟨m,hm⟩ : ∃ m:Nat,most = m:=⟨most.toNat,by omega⟩
    subst hm
    have hP:Xe j cursor m = (j.coms.drop k).take m:=by unfold Xe;rw [hk];simp
    rw [hP]
    have hcur:cursor = j.first - 1 + k:=by omega
    have hkl:k ≤ j.coms.length:=by omega
    clear hP hk
    subst hcur
    refine qa Tryz.func50 rfl _ Tryz.ntmps50 (Nat.le_of_ble_eq_true rfl) _ Tryz.results50 0 rfl rfl ?_
    (repeat apply jg);apply qw;(repeat' (first|apply qT|refine xi ?_|refine xe ?_|refine xl ?_|refine xN ?_|refine xj ?_|refine vm ?_|refine xb ?_|refine vb ?_|refine vX ?_|refine xX ?_|refine xn ?_|refine yG ?_|(first|fail)|refine yg ?_|refine j6 ?_|refine j4 ?_|refine jF ?_|refine jG ?_|refine yL ?_|refine yK ?_|refine j7 ?_|refine j8 ?_|((first|refine qb ?_ ?_|refine qc ?_ ?_);all_goals (intro hc;have hp:=hc;try simp at hp;try (exfalso;omega)))));show Awp _ _ _ _ _
    refine xV 3 0 ?_
    (repeat' (first|refine qe ?_|(first|fail)|((first|refine qb ?_ ?_|refine qc ?_ ?_|refine xsC ?_ ?_);all_goals (intro hc;have hp:=hc;try simp at hp;try (exfalso;omega)))|refine qp ?_ ?_))
    (all_goals try (exfalso;first|omega|contradiction))
    (refine Awp.red (qY (τ:=⟨[(1,.v (.int .i64 (j.first - 1 + (k:Int)))),(2,.v (.int .i64 (m:Int))),(3,.fp [j.row] 0 0),(6,.op 0 0 0),(8,.v (.int .i64 (j.first + ((j.coms.map Com.row).length:Int) - 1))),(9,.op 1 0 0),(10,.v (.int .i64 ((0:Nat):Int)))],[(0,.own false 5 [[.v (.bool false),.sl true [],.sl true [],.v (.int .i64 0),.v (.bool false)]]),(1,.own false 5 [[.v (.bool false),.sl true [],.sl true [],.v (.int .i64 (j.first - 1 + (k:Int))),.v (.bool false)]])],2⟩) [(1,0),(2,1)] rfl ?gts2 ?ghs2) ?gmain2;(case gts2=>(repeat (first|exact qd|refine qi ?_|refine xd ?_|refine ZX ?_|refine Zd ?_ ?_|refine qI ?_ ?_));all_goals trace_state);(case ghs2=>(repeat' (first|exact qf|refine Ji ?_|refine qdy ?_ ?_|refine qH ?_ ?_|exact qV|apply qt|exact qy rfl|refine VX ?_|refine qaj ?_ rfl));all_goals trace_state))
    refine qq (fun n σ => ∃ i:Nat,i ≤ j.coms.length ∧ n = j.coms.length - i ∧ ((i ≤ k ∧ σ = ⟨[(1,.v (.int .i64 (j.first - 1 + (k:Int)))),(2,.v (.int .i64 (m:Int))),(3,.fp [j.row] 0 0),(6,.op 0 0 0),(8,.v (.int .i64 (j.first + ((j.coms.map Com.row).length:Int) - 1))),(9,.op 1 0 0),(10,.v (.int .i64 (i:Int)))],[(0,.own false 5 [[.v (.bool false),.sl true [],.sl true [],.v (.int .i64 0),.v (.bool false)]]),(1,.own false 5 [[.v (.bool false),.sl true [],.sl true [],.v (.int .i64 (j.first - 1 + (k:Int))),.v (.bool false)]])],2⟩) ∨ ∃ c:Nat,i = k + c ∧ 0 < c ∧ c ≤ m ∧ σ = ⟨[(1,.v (.int .i64 (j.first - 1 + (k:Int)))),(2,.v (.int .i64 (m:Int))),(3,.fp [j.row] 0 0),(6,.op 0 0 0),(8,.v (.int .i64 (j.first + ((j.coms.map Com.row).length:Int) - 1))),(9,.op 1 0 0),(10,.v (.int .i64 ((k + c:Nat):Int)))],[(0,.own false 5 [[.v (.bool false),.sl true [],.sl true [],.v (.int .i64 0),.v (.bool false)]]),(1,.own false 5 [[.v (.bool false),.sl true [],.os 2 0 c,.v (.int .i64 (j.first - 1 + ((k + c:Nat):Int))),.v (.bool false)]]),(2,.own false 3 (((j.coms.drop k).take c).map Com.row))],3⟩)) j.coms.length ⟨0,Nat.zero_le _,rfl,.inl ⟨Nat.zero_le _,rfl⟩⟩ ?_
    rintro n σ ⟨i,hi,rfl,hcase⟩
    rcases hcase with ⟨hik,rfl⟩|⟨c,rfl,hc0,hcm,rfl⟩
    ·by_cases hlt:i < j.coms.length
     ·have hr:=qx (f:=Com.row) hlt
      have hn:=(hnum i hlt).1
      by_cases he:i = k
      ·have hd1:(j.coms.drop i).take 1 = [j.coms[i]]:=by simpa using JD (l:=j.coms) (k:=i) (c:=0) (by omega)
       subst he
       repeat' (first|refine qe ?_|(first|(refine jN ?_)|(refine vL ?_))|((first|refine qb ?_ ?_|refine qc ?_ ?_|refine xsC ?_ ?_);all_goals (intro hc;have hp:=hc;try simp at hp;try (exfalso;omega)))|refine qp ?_ ?_)
       all_goals try (exfalso;first|omega|contradiction)
       refine ⟨j.coms.length - (i + 1),_,by omega,qY (τ:=⟨[(1,.v (.int .i64 (j.first - 1 + (i:Int)))),(2,.v (.int .i64 (m:Int))),(3,.fp [j.row] 0 0),(6,.op 0 0 0),(8,.v (.int .i64 (j.first + ((j.coms.map Com.row).length:Int) - 1))),(9,.op 1 0 0),(10,.v (.int .i64 ((i + 1:Nat):Int)))],[(0,.own false 5 [[.v (.bool false),.sl true [],.sl true [],.v (.int .i64 0),.v (.bool false)]]),(1,.own false 5 [[.v (.bool false),.sl true [],.os 2 0 1,.v (.int .i64 (j.first - 1 + ((i + 1:Nat):Int))),.v (.bool false)]]),(2,.own false 3 (((j.coms.drop i).take 1).map Com.row))],3⟩) [(0,0),(1,1),(2,2)] rfl ?gts ?ghs,i + 1,by omega,rfl,.inr ⟨1,rfl,by omega,by omega,rfl⟩⟩;(case gts=>(repeat (first|exact qd|refine qi ?_|refine xd ?_|refine ZX ?_|refine Zd ?_ ?_|refine qI ?_ ?_));all_goals (first|rfl|(apply wQ;omega)|(rw [hd1];rfl)));(case ghs=>(repeat' (first|exact qf|refine Ji ?_|refine qdy ?_ ?_|refine qH ?_ ?_|exact qV|apply qt|exact qy rfl|refine VX ?_|refine qaj ?_ rfl));all_goals (first|rfl|(apply wQ;omega)|(rw [hd1];rfl)))
      ·repeat' (first|refine qe ?_|fail|((first|refine qb ?_ ?_|refine qc ?_ ?_|refine xsC ?_ ?_);all_goals (intro hc;have hp:=hc;try simp at hp;try (exfalso;omega)))|refine qp ?_ ?_)
       all_goals try (exfalso;first|omega|contradiction)
       refine ⟨j.coms.length - (i + 1),_,by omega,qY (τ:=⟨[(1,.v (.int .i64 (j.first - 1 + (k:Int)))),(2,.v (.int .i64 (m:Int))),(3,.fp [j.row] 0 0),(6,.op 0 0 0),(8,.v (.int .i64 (j.first + ((j.coms.map Com.row).length:Int) - 1))),(9,.op 1 0 0),(10,.v (.int .i64 ((i + 1:Nat):Int)))],[(0,.own false 5 [[.v (.bool false),.sl true [],.sl true [],.v (.int .i64 0),.v (.bool false)]]),(1,.own false 5 [[.v (.bool false),.sl true [],.sl true [],.v (.int .i64 (j.first - 1 + (k:Int))),.v (.bool false)]])],2⟩) [(0,0),(1,1)] rfl ?gts ?ghs,i + 1,by omega,rfl,.inl ⟨by omega,rfl⟩⟩;(case gts=>(repeat (first|exact qd|refine qi ?_|refine xd ?_|refine ZX ?_|refine Zd ?_ ?_|refine qI ?_ ?_));all_goals trace_state);(case ghs=>(repeat' (first|exact qf|refine Ji ?_|refine qdy ?_ ?_|refine qH ?_ ?_|exact qV|apply qt|exact qy rfl|refine VX ?_|refine qaj ?_ rfl));all_goals trace_state)
     ·obtain rfl:i = j.coms.length:=by omega
      obtain rfl:k = j.coms.length:=by omega
      rw [List.drop_length]
      repeat' (first|refine qe ?_|fail|((first|refine qb ?_ ?_|refine qc ?_ ?_|refine xsC ?_ ?_);all_goals (intro hc;have hp:=hc;try simp at hp;try (exfalso;omega)))|refine qp ?_ ?_)
      all_goals try (exfalso;first|omega|contradiction)
      all_goals ((refine yu (rs:=[.cell 6 44,.tmp 7]) ?_;(repeat' (first|exact qL|apply qk|exact qB rfl|exact yi|exact vS|apply jT|apply yl|apply jQ|apply yo|apply jY|apply yq|refine vY ?_|apply y0));all_goals (simp;done)))
    ·have hcl:(((j.coms.drop k).take c).map Com.row).length = c:=by simp;omega
     by_cases hgo:k + c < j.coms.length ∧ c < m
     ·have hr:=qx (f:=Com.row) hgo.1
      have hn:=(hnum (k + c) hgo.1).1
      have hts:=JD hgo.1
      repeat' (first|refine qe ?_|(first|(refine jN ?_)|(refine yX ?_))|((first|refine qb ?_ ?_|refine qc ?_ ?_|refine xsC ?_ ?_);all_goals (intro hc;have hp:=hc;try simp at hp;try (exfalso;omega)))|refine qp ?_ ?_)
      all_goals try (exfalso;first|omega|contradiction)
      refine ⟨j.coms.length - (k + c + 1),_,by omega,qY (τ:=⟨[(1,.v (.int .i64 (j.first - 1 + (k:Int)))),(2,.v (.int .i64 (m:Int))),(3,.fp [j.row] 0 0),(6,.op 0 0 0),(8,.v (.int .i64 (j.first + ((j.coms.map Com.row).length:Int) - 1))),(9,.op 1 0 0),(10,.v (.int .i64 ((k + (c + 1):Nat):Int)))],[(0,.own false 5 [[.v (.bool false),.sl true [],.sl true [],.v (.int .i64 0),.v (.bool false)]]),(1,.own false 5 [[.v (.bool false),.sl true [],.os 2 0 (c + 1),.v (.int .i64 (j.first - 1 + ((k + (c + 1):Nat):Int))),.v (.bool false)]]),(2,.own false 3 (((j.coms.drop k).take (c + 1)).map Com.row))],3⟩) [(0,0),(1,1),(3,2)] rfl ?gts ?ghs,k + c + 1,by omega,rfl,.inr ⟨c + 1,rfl,by omega,by omega,rfl⟩⟩
      (case gts=>(repeat (first|exact qd|refine qi ?_|refine xd ?_|refine ZX ?_|refine Zd ?_ ?_|refine qI ?_ ?_)))
      (case ghs=>(repeat' (first|exact qf|refine Ji ?_|refine qdy ?_ ?_|refine qH ?_ ?_|exact qV|apply qt|exact qy rfl|refine VX ?_|refine qaj ?_ rfl));all_goals (first|(apply wQ;omega)|rfl|(rw [hts,List.map_append,List.take_of_length_le (by omega)];rfl)|trace_state))
     ·have hX:(j.coms.drop k).take m = (j.coms.drop k).take c:=by
       by_cases h:c = m
       ·rw [h]
       ·rw [List.take_of_length_le (by simp;omega),List.take_of_length_le (by simp;omega)]
      rw [hX]
      have hcl2:((j.coms.drop k).take c).length = c:=by simpa using hcl
      repeat' (first|refine qe ?_|fail|((first|refine qb ?_ ?_|refine qc ?_ ?_|refine xsC ?_ ?_);all_goals (intro hc;have hp:=hc;try simp at hp;try (exfalso;omega)))|refine qp ?_ ?_)
      all_goals try (exfalso;first|omega|contradiction)
      all_goals ((refine yu (rs:=[.cell 6 44,.tmp 7]) ?_;(repeat' (first|exact qL|apply qk|exact qB rfl|exact yi|exact vS|apply jT|apply yl|apply jQ|apply yo|apply jY|apply yq|refine vY ?_|apply y0));all_goals (first|rfl|(simp only [hcl2];omega)|(rw [decide_eq_decide];simp only [hcl2];omega))))
end Go.Proofs.YtiljlcgmcmjcoaaGreatDoor
set_option linter.unusedSimpArgs false
set_option linter.unnecessarySimpa false
set_option linter.unusedVariables false
set_option maxHeartbeats 1000000
namespace Go.Proofs.YtiljlcgmcmjcoaaGreatDoor
open Go.Ab Go.RowKit
set_option maxRecDepth 10000
attribute [local irreducible] Awp ye ji qQ Red qF Go.Ab.Fin qo Rz xx qG qO ResOk jK je jX qW
end Go.Proofs.YtiljlcgmcmjcoaaGreatDoor
