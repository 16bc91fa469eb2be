import Derived.Test.YtnhpclmbhbblbaaGreatDoorMz17
import Derived.Test.YtnhpclmbhbblbaaGreatDoorMz22
import Derived.Test.YtnhpclmbhbblbaaGreatDoorMz23
import Derived.Test.YtnhpclmbhbblbaaGreatDoorMz13
import Derived.Test.YtnhpclmbhbblbaaGreatDoorMz12
set_option linter.unusedSimpArgs false
set_option linter.unnecessarySimpa false
set_option linter.unusedVariables false
set_option maxHeartbeats 1000000
namespace Go.Proofs.YtnhpclmbhbblbaaGreatDoor
open Go.Ab Go.RowKit
set_option maxRecDepth 10000
attribute [local irreducible] Awp yl jE jl Red qX Go.Ab.Fin qW Rz vl jj ji ResOk jV jz yb jv
end Go.Proofs.YtnhpclmbhbblbaaGreatDoor
set_option linter.unusedSimpArgs false
set_option linter.unnecessarySimpa false
set_option linter.unusedVariables false
set_option maxHeartbeats 1000000
namespace Go.Proofs.YtnhpclmbhbblbaaGreatDoor
open Go.Ab Go.RowKit
set_option maxRecDepth 10000
attribute [local irreducible] Awp yl jE jl Red qX Go.Ab.Fin qW Rz vl jj ji ResOk jV jz yb jv
end Go.Proofs.YtnhpclmbhbblbaaGreatDoor
set_option linter.unusedSimpArgs false
set_option linter.unnecessarySimpa false
set_option linter.unusedVariables false
set_option maxHeartbeats 1000000
namespace Go.Proofs.YtnhpclmbhbblbaaGreatDoor
open Go.Ab Go.RowKit
set_option maxRecDepth 10000
attribute [local irreducible] Awp yl jE jl Red qX Go.Ab.Fin qW Rz vl jj ji ResOk jV jz yb jv
end Go.Proofs.YtnhpclmbhbblbaaGreatDoor
set_option linter.unusedSimpArgs false
set_option linter.unnecessarySimpa false
set_option linter.unusedVariables false
namespace Go.Ab
end Go.Ab
set_option maxHeartbeats 1000000
namespace Go.Proofs.YtnhpclmbhbblbaaGreatDoor
open Go.Ab Go.RowKit
set_option maxRecDepth 10000
attribute [local irreducible] Awp yl jE jl Red qX Go.Ab.Fin qW Rz vl jj ji ResOk jV jz yb jv
end Go.Proofs.YtnhpclmbhbblbaaGreatDoor
set_option linter.unusedSimpArgs false
set_option linter.unnecessarySimpa false
set_option linter.unusedVariables false
set_option maxHeartbeats 1000000
namespace Go.Proofs.YtnhpclmbhbblbaaGreatDoor
open Go.Ab Go.RowKit
set_option maxRecDepth 10000
attribute [local irreducible] Awp yl jE jl Red qX Go.Ab.Fin qW Rz vl jj ji ResOk jV jz yb jv
theorem J2 (n:Int):yO C.P 100 [.v (.int .i64 n)] (.v (.bool (ka n))):=by
 refine qa Tryz.func100 rfl _ Tryz.ntmps100 (Nat.le_of_ble_eq_true rfl) _ Tryz.results100 0 rfl rfl ?_
 repeat' (first|refine qm ?_|fail|((first|refine qd ?_ ?_|refine qc ?_ ?_|refine xsC ?_ ?_);all_goals (intro hc;have hp:=hc;try simp at hp;try (exfalso;omega)))|refine qO ?_ ?_)
 all_goals (apply jB;rfl;rw [Bool.eq_iff_iff];simp [ka];try omega)
theorem Q7 (n:Int):yO C.P 47 [.v (.int .i64 n)] (.v (.bool (ka n))):=by
 refine qa Tryz.func47 rfl _ Tryz.ntmps47 (Nat.le_of_ble_eq_true rfl) _ Tryz.results47 0 rfl rfl ?_
 repeat' (first|refine qm ?_|fail|((first|refine qd ?_ ?_|refine qc ?_ ?_|refine xsC ?_ ?_);all_goals (intro hc;have hp:=hc;try simp at hp;try (exfalso;omega)))|refine qO ?_ ?_)
 all_goals (apply jB;rfl;rw [Bool.eq_iff_iff];simp [ka];try omega)
def qcV (r:List Ent × Int × Int):AV := .tup [qb r.1,.v (.int .i64 r.2.1),.v (.int .i64 r.2.2)]
def JB (t:List Ent) (cursor:Int) (p:Pag):List Ent × Int × Int :=
 if ¬ p.tree = [] then ([],0,1) else if 10 < p.coms.length then ([],0,2) else if kg (cursor + 1) p.coms = false then ([],0,4) else if ¬ p.cur = cursor + p.coms.length then ([],0,4)
 else if ¬ (kL t p.coms).2 = 0 then ([],0,(kL t p.coms).2) else ((kL t p.coms).1,p.cur,0)
theorem VQ {t:List Ent} {cursor:Int} {p:Pag} (h1:qD t = 0) (h2:ka cursor = true) (h3:p.reset = false):j0 t cursor p = JB t cursor p:=by
 unfold j0 JB
 rw [if_neg (by simp [h1]),if_neg (by simp [h2]),if_neg (by simp [h3])]
theorem qb6 (t:List Ent) (cursor:Int) (p:Pag) (hR:Right t) (h2:ka cursor = true) (h3:p.reset = false) (hb:PBig p):yO C.P 78 [qb t,.v (.int .i64 cursor),.agg p.row] (qcV (JB t cursor p)):=by
 have hc:=wn t hR.big
 rw [ju.2 hR] at hc
 have hi:=J2 cursor
 have hcb:0 ≤ cursor ∧ cursor ≤ 1000000:=by simpa [ka] using h2
 rw [h2] at hi
 have hce:=Jt t (by have:=hR.len;omega)
 have hml:(p.coms.map Com.row).length = p.coms.length:=List.length_map ..
 have hmt:(p.tree.map Ent.row).length = p.tree.length:=List.length_map ..
 have hrow:p.row = [.v (.bool false),qb p.tree,vN p.coms,.v (.int .i64 p.cur),.v (.bool p.more)]:=by unfold Pag.row;rw [h3]
 rw [hrow]
 unfold JB
 by_cases h4:p.tree = []
 ·rw [if_neg (by simp [h4]),h4]
  by_cases h5:10 < p.coms.length
  ·rw [if_pos h5]
   refine qa Tryz.func78 rfl _ Tryz.ntmps78 (Nat.le_of_ble_eq_true rfl) _ Tryz.results78 0 rfl rfl ?_
   repeat' (first|refine qm ?_|(first|refine xsQ Tryz.func15 (hc ..) ?_|refine jc Tryz.func100 (hi ..) ?_)|((first|refine qd ?_ ?_|refine qc ?_ ?_|refine xsC ?_ ?_);all_goals (intro hc;have hp:=hc;try simp at hp;try (exfalso;omega)))|refine qO ?_ ?_)
   all_goals try (exfalso;first|omega|contradiction)
   all_goals ((exact xE (rs:=[.tmp 6,.tmp 7,.tmp 8])))
  ·rw [if_neg h5]
   generalize hO:(if kg (cursor + 1) p.coms = false then (([],0,4):List Ent × Int × Int) else if ¬ p.cur = cursor + p.coms.length then ([],0,4) else if ¬ (kL t p.coms).2 = 0 then ([],0,(kL t p.coms).2) else ((kL t p.coms).1,p.cur,0)) = O
   generalize hNN:kg (cursor + 1) p.coms = NN at hO
   generalize hFF:kL t p.coms = FF at hO
   refine qa Tryz.func78 rfl _ Tryz.ntmps78 (Nat.le_of_ble_eq_true rfl) _ Tryz.results78 0 rfl rfl ?_
   (repeat apply kW);apply vS;(repeat' (first|apply kh|refine qcK ?_|refine qcH ?_|refine qfF ?_|refine qfC ?_|refine qcI ?_|refine qcL ?_|refine qcJ ?_|refine qfE ?_|refine qfG ?_|refine qfB ?_|refine qek ?_|refine qfz ?_|refine W4 ?_|(first|fail)|refine Kd ?_|refine Xp ?_|refine Xo ?_|refine JD ?_|refine JC ?_|refine ZW ?_|refine ZX ?_|refine Xn ?_|refine Xm ?_|((first|refine qd ?_ ?_|refine qc ?_ ?_);all_goals (intro hc;have hp:=hc;try simp at hp;try (exfalso;omega)))));show Awp _ _ _ _ _
   refine xsZ 5 0 ?_
   repeat' (first|refine qm ?_|(first|refine xsQ Tryz.func15 (hc ..) ?_|refine jc Tryz.func100 (hi ..) ?_)|((first|refine qd ?_ ?_|refine qc ?_ ?_|refine xsC ?_ ?_);all_goals (intro hc;have hp:=hc;try simp at hp;try (exfalso;omega)))|refine qO ?_ ?_)
   all_goals try (exfalso;first|omega|contradiction)
   (refine Awp.red (qv (ts:=[(0,qb t),(1,.v (.int .i64 cursor)),(5,.fp [[.v (.bool false),qb [],vN p.coms,.v (.int .i64 p.cur),.v (.bool p.more)]] 0 0),(69,vN p.coms),(70,.v (.int .i64 p.coms.length)),(71,.v (.int .i64 ((0:Nat):Int)))]) ?_) ?_;((repeat (first|exact qg|refine qn ?_|refine qS ?_ ?_))))
   all_goals try (rw [List.length_map];done)
   refine qP (fun n σ => ∃ i:Nat,i ≤ p.coms.length ∧ n = p.coms.length - i ∧ (NN = kg (cursor + 1 + i) (p.coms.drop i)) ∧ σ = ⟨[(0,qb t),(1,.v (.int .i64 cursor)),(5,.fp [[.v (.bool false),qb [],vN p.coms,.v (.int .i64 p.cur),.v (.bool p.more)]] 0 0),(69,vN p.coms),(70,.v (.int .i64 p.coms.length)),(71,.v (.int .i64 (i:Int)))],[],C.nh⟩) p.coms.length ⟨0,Nat.zero_le _,rfl,(by rw [← hNN];simp),rfl⟩ ?_
   rintro n σ ⟨i,hii,rfl,hni,rfl⟩
   by_cases hlt:i < p.coms.length
   ·have hr:=js (f:=Com.row) hlt
    rw [XU hlt] at hni
    by_cases hnum:p.coms[i].num = cursor + 1 + i
    ·have hni2:NN = kg (cursor + 1 + ((i + 1:Nat):Int)) (p.coms.drop (i + 1)):=by rw [hni,decide_eq_true hnum,Bool.true_and];congr 1;omega
     clear hni hO hNN hFF
     repeat' (first|refine qm ?_|fail|((first|refine qd ?_ ?_|refine qc ?_ ?_|refine xsC ?_ ?_);all_goals (intro hc;have hp:=hc;try simp at hp;try (exfalso;omega)))|refine qO ?_ ?_)
     all_goals try (exfalso;first|omega|contradiction)
     refine ⟨p.coms.length - (i + 1),_,by omega,qv (ts:=[(0,qb t),(1,.v (.int .i64 cursor)),(5,.fp [[.v (.bool false),qb [],vN p.coms,.v (.int .i64 p.cur),.v (.bool p.more)]] 0 0),(69,vN p.coms),(70,.v (.int .i64 p.coms.length)),(71,.v (.int .i64 ((i + 1:Nat):Int)))]) ?_,i + 1,by omega,rfl,hni2,rfl⟩;((repeat (first|exact qg|refine qn ?_|refine qS ?_ ?_)))
    ·rw [decide_eq_false hnum,Bool.false_and] at hni
     rw [if_pos hni] at hO
     subst hO
     clear hni hNN hFF
     repeat' (first|refine qm ?_|fail|((first|refine qd ?_ ?_|refine qc ?_ ?_|refine xsC ?_ ?_);all_goals (intro hc;have hp:=hc;try simp at hp;try (exfalso;omega)))|refine qO ?_ ?_)
     all_goals try (exfalso;first|omega|contradiction)
     all_goals ((exact xE (rs:=[.tmp 6,.tmp 7,.tmp 8])))
   ·obtain rfl:i = p.coms.length:=by omega
    rw [List.drop_length] at hni
    have hni:NN = true:=hni
    rw [if_neg (by simp [hni])] at hO
    by_cases h6:p.cur = cursor + p.coms.length
    ·rw [if_neg (by simp [h6])] at hO
     (repeat' (first|refine qm ?_|(first|(apply jT Tryz.func75 rfl rfl;intro hIsFn;refine wY ([]) hIsFn (fail ..) ?_)|refine xsQ Tryz.func75 (hce ..) ?_)|((first|refine qd ?_ ?_|refine qc ?_ ?_|refine xsC ?_ ?_);all_goals (intro hc;have hp:=hc;try simp at hp;try (exfalso;omega)))|refine qO ?_ ?_))
     (all_goals try (exfalso;first|omega|contradiction))
     (refine Awp.red (qv (ts:=[(0,qb t),(1,.v (.int .i64 cursor)),(5,.fp [[.v (.bool false),qb [],vN p.coms,.v (.int .i64 p.cur),.v (.bool p.more)]] 0 0),(95,vN p.coms),(96,.v (.int .i64 p.coms.length)),(97,.v (.int .i64 ((0:Nat):Int)))]) ?_) ?_;((repeat (first|exact qg|refine qn ?_|refine qS ?_ ?_))))
     all_goals try (rw [List.length_map];done)
     refine qP (fun n σ => ∃ (i:Nat) (u:List Ent),i ≤ p.coms.length ∧ n = p.coms.length - i ∧ (FF = kL u (p.coms.drop i) ∧ Right u) ∧ σ = ⟨[(0,qb u),(1,.v (.int .i64 cursor)),(5,.fp [[.v (.bool false),qb [],vN p.coms,.v (.int .i64 p.cur),.v (.bool p.more)]] 0 0),(95,vN p.coms),(96,.v (.int .i64 p.coms.length)),(97,.v (.int .i64 (i:Int)))],[],C.nh⟩) p.coms.length ⟨0,t,Nat.zero_le _,rfl,⟨hFF.symm,hR⟩,rfl⟩ ?_
     rintro n σ ⟨i,u,hi2,rfl,⟨hFi,hRu⟩,rfl⟩
     by_cases hlt2:i < p.coms.length
     ·have hr:=js (f:=Com.row) hlt2
      have hall:=qgQ u p.coms[i].chs p.coms[i].num hRu.big (hb.coms.each _ (List.getElem_mem _)).chs
      have hRn := @J4 p.coms[i].num u p.coms[i].chs hRu
      rw [ZU hlt2] at hFi
      generalize Q3 p.coms[i].num u p.coms[i].chs = T at *
      obtain ⟨t2,n2,e2⟩:=T
      by_cases he:e2 = 0
      ·subst he
       rw [if_neg (by simp)] at hFi
       have hRn:=hRn rfl
       clear hO hNN hFF
       repeat' (first|refine qm ?_|(first|refine xsQ Tryz.func41 (hall ..) ?_)|((first|refine qd ?_ ?_|refine qc ?_ ?_|refine xsC ?_ ?_);all_goals (intro hc;have hp:=hc;try simp at hp;try (exfalso;omega)))|refine qO ?_ ?_)
       all_goals try (exfalso;first|omega|contradiction)
       refine ⟨p.coms.length - (i + 1),_,by omega,qv (ts:=[(0,qb t2),(1,.v (.int .i64 cursor)),(5,.fp [[.v (.bool false),qb [],vN p.coms,.v (.int .i64 p.cur),.v (.bool p.more)]] 0 0),(95,vN p.coms),(96,.v (.int .i64 p.coms.length)),(97,.v (.int .i64 ((i + 1:Nat):Int)))]) ?_,i + 1,t2,by omega,rfl,⟨hFi,hRn⟩,rfl⟩
       (repeat (first|exact qg|refine qn ?_|refine qS ?_ ?_))
      ·rw [if_pos he] at hFi
       rw [hFi,if_pos he] at hO
       subst hO
       clear hNN hFF
       repeat' (first|refine qm ?_|(first|refine xsQ Tryz.func41 (hall ..) ?_)|((first|refine qd ?_ ?_|refine qc ?_ ?_|refine xsC ?_ ?_);all_goals (intro hc;have hp:=hc;try simp at hp;try (exfalso;omega)))|refine qO ?_ ?_)
       all_goals try (exfalso;first|omega|contradiction)
       all_goals ((exact xE (rs:=[.tmp 6,.tmp 7,.tmp 8])))
     ·obtain rfl:i = p.coms.length:=by omega
      rw [List.drop_length] at hFi
      rw [hFi,if_neg (by simp [kL])] at hO
      subst hO
      clear hNN hFF
      repeat' (first|refine qm ?_|fail|((first|refine qd ?_ ?_|refine qc ?_ ?_|refine xsC ?_ ?_);all_goals (intro hc;have hp:=hc;try simp at hp;try (exfalso;omega)))|refine qO ?_ ?_)
      all_goals try (exfalso;first|omega|contradiction)
      all_goals ((exact xE (rs:=[.tmp 6,.tmp 7,.tmp 8])))
    ·rw [if_pos h6] at hO
     subst hO
     clear hNN hFF
     repeat' (first|refine qm ?_|fail|((first|refine qd ?_ ?_|refine qc ?_ ?_|refine xsC ?_ ?_);all_goals (intro hc;have hp:=hc;try simp at hp;try (exfalso;omega)))|refine qO ?_ ?_)
     all_goals try (exfalso;first|omega|contradiction)
     all_goals ((exact xE (rs:=[.tmp 6,.tmp 7,.tmp 8])))
 ·rw [if_pos h4]
  have h5:¬ p.tree.length = 0:=fun e=>h4 (List.eq_nil_of_length_eq_zero e)
  refine qa Tryz.func78 rfl _ Tryz.ntmps78 (Nat.le_of_ble_eq_true rfl) _ Tryz.results78 0 rfl rfl ?_
  repeat' (first|refine qm ?_|(first|refine xsQ Tryz.func15 (hc ..) ?_|refine jc Tryz.func100 (hi ..) ?_)|((first|refine qd ?_ ?_|refine qc ?_ ?_|refine xsC ?_ ?_);all_goals (intro hc;have hp:=hc;try simp at hp;try (exfalso;omega)))|refine qO ?_ ?_)
  all_goals try (exfalso;first|omega|contradiction)
  all_goals ((exact xE (rs:=[.tmp 6,.tmp 7,.tmp 8])))
theorem qdi (t:List Ent) (cursor:Int) (p:Pag) (hbt:EBig t) (hb:PBig p):yO C.P 78 [qb t,.v (.int .i64 cursor),.agg p.row] (qcV (j0 t cursor p)):=by
 have hc:=wn t hbt
 have hi:=J2 cursor
 have hml:(p.coms.map Com.row).length = p.coms.length:=List.length_map ..
 by_cases h1:qD t = 0
 ·have hR:=ju.1 h1
  rw [h1] at hc
  cases h2:ka cursor with
  | true =>
    rw [h2] at hi
    cases h3:p.reset with
    | false=>rw [VQ h1 h2 h3];exact qb6 t cursor p hR h2 h3 hb
    | true =>
      have hE:j0 t cursor p = if ¬ qD p.tree = 0 then ([],0,qD p.tree) else if ka p.cur = false then ([],0,3) else if ¬ p.coms = [] ∨ p.more = true then ([],0,1) else (p.tree,p.cur,0):=by
       unfold j0;rw [if_neg (by simp [h1]),if_neg (by simp [h2]),if_pos h3]
      rw [hE]
      have hc2:=wn p.tree hb.tree
      have hi2:=J2 p.cur
      have hrow:p.row = [.v (.bool true),qb p.tree,vN p.coms,.v (.int .i64 p.cur),.v (.bool p.more)]:=by unfold Pag.row;rw [h3]
      rw [hrow]
      clear hE hrow
      by_cases h4:qD p.tree = 0
      ·have hR2:=ju.1 h4
       have hce:=Jt p.tree (by have:=hR2.len;omega)
       rw [h4] at hc2
       rw [if_neg (by simp [h4])]
       cases h5:ka p.cur with
       | false =>
         rw [h5] at hi2
         rw [if_pos rfl]
         refine qa Tryz.func78 rfl _ Tryz.ntmps78 (Nat.le_of_ble_eq_true rfl) _ Tryz.results78 0 rfl rfl ?_
         (repeat' (first|refine qm ?_|(first|refine xsQ Tryz.func15 (hc ..) ?_|refine xsQ Tryz.func15 (hc2 ..) ?_|refine jc Tryz.func100 (hi ..) ?_|refine jc Tryz.func100 (hi2 ..) ?_|fail)|((first|refine qd ?_ ?_|refine qc ?_ ?_|refine xsC ?_ ?_);all_goals (intro hc;have hp:=hc;try simp at hp;try (exfalso;omega)))|refine qO ?_ ?_))
         (all_goals try (exfalso;first|omega|contradiction))
         (all_goals ((exact xE (rs:=[.tmp 6,.tmp 7,.tmp 8]))))
       | true =>
         rw [h5] at hi2
         rw [if_neg (by decide)]
         by_cases h6:p.coms.length = 0
         ·have h6b:=List.eq_nil_of_length_eq_zero h6
          cases h7:p.more with
          | true =>
            rw [if_pos (.inr rfl)]
            refine qa Tryz.func78 rfl _ Tryz.ntmps78 (Nat.le_of_ble_eq_true rfl) _ Tryz.results78 0 rfl rfl ?_
            (repeat' (first|refine qm ?_|(first|refine xsQ Tryz.func15 (hc ..) ?_|refine xsQ Tryz.func15 (hc2 ..) ?_|refine jc Tryz.func100 (hi ..) ?_|refine jc Tryz.func100 (hi2 ..) ?_|fail)|((first|refine qd ?_ ?_|refine qc ?_ ?_|refine xsC ?_ ?_);all_goals (intro hc;have hp:=hc;try simp at hp;try (exfalso;omega)))|refine qO ?_ ?_))
            (all_goals try (exfalso;first|omega|contradiction))
            (all_goals ((exact xE (rs:=[.tmp 6,.tmp 7,.tmp 8]))))
          | false =>
            rw [if_neg (by simp [h6b])]
            refine qa Tryz.func78 rfl _ Tryz.ntmps78 (Nat.le_of_ble_eq_true rfl) _ Tryz.results78 0 rfl rfl ?_
            (repeat' (first|refine qm ?_|(first|refine xsQ Tryz.func15 (hc ..) ?_|refine xsQ Tryz.func15 (hc2 ..) ?_|refine jc Tryz.func100 (hi ..) ?_|refine jc Tryz.func100 (hi2 ..) ?_|refine xsQ Tryz.func75 (hce ..) ?_)|((first|refine qd ?_ ?_|refine qc ?_ ?_|refine xsC ?_ ?_);all_goals (intro hc;have hp:=hc;try simp at hp;try (exfalso;omega)))|refine qO ?_ ?_))
            (all_goals try (exfalso;first|omega|contradiction))
            (all_goals ((exact xE (rs:=[.tmp 6,.tmp 7,.tmp 8]))))
         ·have h6b:¬ p.coms = []:=fun e=>h6 (by rw [e];rfl)
          rw [if_pos (.inl h6b)]
          refine qa Tryz.func78 rfl _ Tryz.ntmps78 (Nat.le_of_ble_eq_true rfl) _ Tryz.results78 0 rfl rfl ?_
          (repeat' (first|refine qm ?_|(first|refine xsQ Tryz.func15 (hc ..) ?_|refine xsQ Tryz.func15 (hc2 ..) ?_|refine jc Tryz.func100 (hi ..) ?_|refine jc Tryz.func100 (hi2 ..) ?_|fail)|((first|refine qd ?_ ?_|refine qc ?_ ?_|refine xsC ?_ ?_);all_goals (intro hc;have hp:=hc;try simp at hp;try (exfalso;omega)))|refine qO ?_ ?_))
          (all_goals try (exfalso;first|omega|contradiction))
          (all_goals ((exact xE (rs:=[.tmp 6,.tmp 7,.tmp 8]))))
      ·rw [if_pos h4]
       generalize qD p.tree = E at *
       refine qa Tryz.func78 rfl _ Tryz.ntmps78 (Nat.le_of_ble_eq_true rfl) _ Tryz.results78 0 rfl rfl ?_
       (repeat' (first|refine qm ?_|(first|refine xsQ Tryz.func15 (hc ..) ?_|refine xsQ Tryz.func15 (hc2 ..) ?_|refine jc Tryz.func100 (hi ..) ?_|refine jc Tryz.func100 (hi2 ..) ?_|fail)|((first|refine qd ?_ ?_|refine qc ?_ ?_|refine xsC ?_ ?_);all_goals (intro hc;have hp:=hc;try simp at hp;try (exfalso;omega)))|refine qO ?_ ?_))
       (all_goals try (exfalso;first|omega|contradiction))
       (all_goals ((exact xE (rs:=[.tmp 6,.tmp 7,.tmp 8]))))
  | false =>
    rw [h2] at hi
    have hE:j0 t cursor p = ([],0,3):=by unfold j0;rw [if_neg (by simp [h1]),if_pos h2]
    rw [hE]
    refine qa Tryz.func78 rfl _ Tryz.ntmps78 (Nat.le_of_ble_eq_true rfl) _ Tryz.results78 0 rfl rfl ?_
    (repeat' (first|refine qm ?_|(first|refine xsQ Tryz.func15 (hc ..) ?_|refine xsQ Tryz.func15 (hc2 ..) ?_|refine jc Tryz.func100 (hi ..) ?_|refine jc Tryz.func100 (hi2 ..) ?_|fail)|((first|refine qd ?_ ?_|refine qc ?_ ?_|refine xsC ?_ ?_);all_goals (intro hc;have hp:=hc;try simp at hp;try (exfalso;omega)))|refine qO ?_ ?_))
    (all_goals try (exfalso;first|omega|contradiction))
    (all_goals ((exact xE (rs:=[.tmp 6,.tmp 7,.tmp 8]))))
 ·have hE:j0 t cursor p = ([],0,qD t):=by unfold j0;rw [if_pos h1]
  rw [hE]
  generalize qD t = E at *
  refine qa Tryz.func78 rfl _ Tryz.ntmps78 (Nat.le_of_ble_eq_true rfl) _ Tryz.results78 0 rfl rfl ?_
  (repeat' (first|refine qm ?_|(first|refine xsQ Tryz.func15 (hc ..) ?_|refine xsQ Tryz.func15 (hc2 ..) ?_|refine jc Tryz.func100 (hi ..) ?_|refine jc Tryz.func100 (hi2 ..) ?_|fail)|((first|refine qd ?_ ?_|refine qc ?_ ?_|refine xsC ?_ ?_);all_goals (intro hc;have hp:=hc;try simp at hp;try (exfalso;omega)))|refine qO ?_ ?_))
  (all_goals try (exfalso;first|omega|contradiction))
  (all_goals ((exact xE (rs:=[.tmp 6,.tmp 7,.tmp 8]))))
end Go.Proofs.YtnhpclmbhbblbaaGreatDoor
set_option linter.unusedSimpArgs false
set_option linter.unnecessarySimpa false
set_option linter.unusedVariables false
set_option maxHeartbeats 1000000
namespace Go.Proofs.YtnhpclmbhbblbaaGreatDoor
open Go.Ab Go.RowKit
set_option maxRecDepth 10000
attribute [local irreducible] Awp yl jE jl Red qX Go.Ab.Fin qW Rz vl jj ji ResOk jV jz yb jv
set_option maxHeartbeats 4000000 in
theorem qaG (t:List Ent) (cursor:Int) (p:Pag) (hR:Right t) (h2:ka cursor = true) (h3:p.reset = false) (hb:PBig p):yO C.P 48 [qb t,.v (.int .i64 cursor),.agg p.row] (qcV (JB t cursor p)):=by
 have hc:=zW t hR.big
 rw [ju.2 hR] at hc
 have hi:=Q7 cursor
 have hcb:0 ≤ cursor ∧ cursor ≤ 1000000:=by simpa [ka] using h2
 rw [h2] at hi
 have hml:(p.coms.map Com.row).length = p.coms.length:=List.length_map ..
 have hmt:(p.tree.map Ent.row).length = p.tree.length:=List.length_map ..
 have hrow:p.row = [.v (.bool false),qb p.tree,vN p.coms,.v (.int .i64 p.cur),.v (.bool p.more)]:=by unfold Pag.row;rw [h3]
 rw [hrow]
 unfold JB
 by_cases h4:p.tree = []
 ·rw [if_neg (by simp [h4]),h4]
  by_cases h5:10 < p.coms.length
  ·rw [if_pos h5]
   refine qa Tryz.func48 rfl _ Tryz.ntmps48 (Nat.le_of_ble_eq_true rfl) _ Tryz.results48 0 rfl rfl ?_
   repeat' (first|refine qm ?_|(first|refine xsQ Tryz.func28 (hc ..) ?_|refine jc Tryz.func47 (hi ..) ?_)|((first|refine qd ?_ ?_|refine qc ?_ ?_|refine xsC ?_ ?_);all_goals (intro hc;have hp:=hc;try simp at hp;try (exfalso;omega)))|refine qO ?_ ?_)
   all_goals try (exfalso;first|omega|contradiction)
   all_goals ((exact xE (rs:=[.tmp 6,.tmp 7,.tmp 8])))
  ·rw [if_neg h5]
   generalize hO:(if kg (cursor + 1) p.coms = false then (([],0,4):List Ent × Int × Int) else if ¬ p.cur = cursor + p.coms.length then ([],0,4) else if ¬ (kL t p.coms).2 = 0 then ([],0,(kL t p.coms).2) else ((kL t p.coms).1,p.cur,0)) = O
   generalize hNN:kg (cursor + 1) p.coms = NN at hO
   generalize hFF:kL t p.coms = FF at hO
   refine qa Tryz.func48 rfl _ Tryz.ntmps48 (Nat.le_of_ble_eq_true rfl) _ Tryz.results48 0 rfl rfl ?_
   (repeat apply kW);apply vS;(repeat' (first|apply kh|refine qcK ?_|refine qcH ?_|refine qfF ?_|refine qfC ?_|refine qcI ?_|refine qcL ?_|refine qcJ ?_|refine qfE ?_|refine qfG ?_|refine qfB ?_|refine qfz ?_|(first|fail)|refine Kd ?_|refine Xp ?_|refine Xo ?_|refine JD ?_|refine JC ?_|refine ZW ?_|refine ZX ?_|refine Xn ?_|refine Xm ?_|((first|refine qd ?_ ?_|refine qc ?_ ?_);all_goals (intro hc;have hp:=hc;try simp at hp;try (exfalso;omega)))));show Awp _ _ _ _ _
   refine xsZ 5 0 ?_
   repeat' (first|refine qm ?_|(first|refine xsQ Tryz.func28 (hc ..) ?_|refine jc Tryz.func47 (hi ..) ?_)|((first|refine qd ?_ ?_|refine qc ?_ ?_|refine xsC ?_ ?_);all_goals (intro hc;have hp:=hc;try simp at hp;try (exfalso;omega)))|refine qO ?_ ?_)
   all_goals try (exfalso;first|omega|contradiction)
   (refine Awp.red (qv (ts:=[(0,qb t),(1,.v (.int .i64 (cursor + ((0:Nat):Int)))),(5,.fp [[.v (.bool false),qb [],vN p.coms,.v (.int .i64 p.cur),.v (.bool p.more)]] 0 0),(10,.v (.int .i64 ((0:Nat):Int)))]) ?_) ?_;((repeat (first|exact qg|refine qn ?_|refine qS ?_ ?_))))
   all_goals try (simp;done)
   refine qP (fun n σ => ∃ i:Nat,i ≤ p.coms.length ∧ n = p.coms.length - i ∧ (NN = kg (cursor + 1 + i) (p.coms.drop i)) ∧ σ = ⟨[(0,qb t),(1,.v (.int .i64 (cursor + (i:Int)))),(5,.fp [[.v (.bool false),qb [],vN p.coms,.v (.int .i64 p.cur),.v (.bool p.more)]] 0 0),(10,.v (.int .i64 (i:Int)))],[],C.nh⟩) p.coms.length ⟨0,Nat.zero_le _,rfl,(by rw [← hNN];simp),rfl⟩ ?_
   rintro n σ ⟨i,hii,rfl,hni,rfl⟩
   by_cases hlt:i < p.coms.length
   ·have hr:=js (f:=Com.row) hlt
    rw [XU hlt] at hni
    by_cases hnum:p.coms[i].num = cursor + 1 + i
    ·have hni2:NN = kg (cursor + 1 + ((i + 1:Nat):Int)) (p.coms.drop (i + 1)):=by rw [hni,decide_eq_true hnum,Bool.true_and];congr 1;omega
     clear hni hO hNN hFF
     repeat' (first|refine qm ?_|fail|((first|refine qd ?_ ?_|refine qc ?_ ?_|refine xsC ?_ ?_);all_goals (intro hc;have hp:=hc;try simp at hp;try (exfalso;omega)))|refine qO ?_ ?_)
     all_goals try (exfalso;first|omega|contradiction)
     refine ⟨p.coms.length - (i + 1),_,by omega,qv (ts:=[(0,qb t),(1,.v (.int .i64 (cursor + ((i + 1:Nat):Int)))),(5,.fp [[.v (.bool false),qb [],vN p.coms,.v (.int .i64 p.cur),.v (.bool p.more)]] 0 0),(10,.v (.int .i64 ((i + 1:Nat):Int)))]) ?_,i + 1,by omega,rfl,hni2,rfl⟩;((repeat (first|exact qg|refine qn ?_|refine qS ?_ ?_));all_goals (apply xi;omega))
    ·rw [decide_eq_false hnum,Bool.false_and] at hni
     rw [if_pos hni] at hO
     subst hO
     clear hni hNN hFF
     repeat' (first|refine qm ?_|fail|((first|refine qd ?_ ?_|refine qc ?_ ?_|refine xsC ?_ ?_);all_goals (intro hc;have hp:=hc;try simp at hp;try (exfalso;omega)))|refine qO ?_ ?_)
     all_goals try (exfalso;first|omega|contradiction)
     all_goals ((exact xE (rs:=[.tmp 6,.tmp 7,.tmp 8])))
   ·obtain rfl:i = p.coms.length:=by omega
    rw [List.drop_length] at hni
    have hni:NN = true:=hni
    rw [if_neg (by simp [hni])] at hO
    by_cases h6:p.cur = cursor + p.coms.length
    ·rw [if_neg (by simp [h6])] at hO
     (repeat' (first|refine qm ?_|(first|fail)|((first|refine qd ?_ ?_|refine qc ?_ ?_|refine xsC ?_ ?_);all_goals (intro hc;have hp:=hc;try simp at hp;try (exfalso;omega)))|refine qO ?_ ?_))
     (all_goals try (exfalso;first|omega|contradiction))
     (refine Awp.red (qv (ts:=[(0,qb t),(1,.v (.int .i64 (cursor + (p.coms.length:Int)))),(5,.fp [[.v (.bool false),qb [],vN p.coms,.v (.int .i64 p.cur),.v (.bool p.more)]] 0 0),(11,.v (.int .i64 ((0:Nat):Int)))]) ?_) ?_;((repeat (first|exact qg|refine qn ?_|refine qS ?_ ?_))))
     refine qP (fun n σ => ∃ (i:Nat) (u:List Ent),i ≤ p.coms.length ∧ n = p.coms.length - i ∧ (FF = kL u (p.coms.drop i) ∧ Right u) ∧ σ = ⟨[(0,qb u),(1,.v (.int .i64 (cursor + (p.coms.length:Int)))),(5,.fp [[.v (.bool false),qb [],vN p.coms,.v (.int .i64 p.cur),.v (.bool p.more)]] 0 0),(11,.v (.int .i64 (i:Int)))],[],C.nh⟩) p.coms.length ⟨0,t,Nat.zero_le _,rfl,⟨hFF.symm,hR⟩,rfl⟩ ?_
     rintro n σ ⟨i,u,hi2,rfl,⟨hFi,hRu⟩,rfl⟩
     by_cases hlt2:i < p.coms.length
     ·have hr:=js (f:=Com.row) hlt2
      have hall:=qeH u p.coms[i].chs p.coms[i].num hRu.len (RightE.of (ju.2 hRu)) (hb.coms.each _ (List.getElem_mem _)).chs
      rw [← Wr hRu] at hall
      have hRn := @J4 p.coms[i].num u p.coms[i].chs hRu
      rw [ZU hlt2] at hFi
      generalize Q3 p.coms[i].num u p.coms[i].chs = T at *
      obtain ⟨t2,n2,e2⟩:=T
      by_cases he:e2 = 0
      ·subst he
       rw [if_neg (by simp)] at hFi
       have hRn:=hRn rfl
       clear hO hNN hFF
       repeat' (first|refine qm ?_|(first|refine xsQ Tryz.func79 (hall ..) ?_)|((first|refine qd ?_ ?_|refine qc ?_ ?_|refine xsC ?_ ?_);all_goals (intro hc;have hp:=hc;try simp at hp;try (exfalso;omega)))|refine qO ?_ ?_)
       all_goals try (exfalso;first|omega|contradiction)
       refine ⟨p.coms.length - (i + 1),_,by omega,qv (ts:=[(0,qb t2),(1,.v (.int .i64 (cursor + (p.coms.length:Int)))),(5,.fp [[.v (.bool false),qb [],vN p.coms,.v (.int .i64 p.cur),.v (.bool p.more)]] 0 0),(11,.v (.int .i64 ((i + 1:Nat):Int)))]) ?_,i + 1,t2,by omega,rfl,⟨hFi,hRn⟩,rfl⟩
       (repeat (first|exact qg|refine qn ?_|refine qS ?_ ?_))
      ·rw [if_pos he] at hFi
       rw [hFi,if_pos he] at hO
       subst hO
       clear hNN hFF
       repeat' (first|refine qm ?_|(first|refine xsQ Tryz.func79 (hall ..) ?_)|((first|refine qd ?_ ?_|refine qc ?_ ?_|refine xsC ?_ ?_);all_goals (intro hc;have hp:=hc;try simp at hp;try (exfalso;omega)))|refine qO ?_ ?_)
       all_goals try (exfalso;first|omega|contradiction)
       all_goals ((exact xE (rs:=[.tmp 6,.tmp 7,.tmp 8])))
     ·obtain rfl:i = p.coms.length:=by omega
      rw [List.drop_length] at hFi
      rw [hFi,if_neg (by simp [kL]),h6] at hO
      subst hO
      clear hNN hFF
      repeat' (first|refine qm ?_|fail|((first|refine qd ?_ ?_|refine qc ?_ ?_|refine xsC ?_ ?_);all_goals (intro hc;have hp:=hc;try simp at hp;try (exfalso;omega)))|refine qO ?_ ?_)
      all_goals try (exfalso;first|omega|contradiction)
      all_goals ((exact xE (rs:=[.tmp 6,.tmp 7,.tmp 8])))
    ·rw [if_pos h6] at hO
     subst hO
     clear hNN hFF
     repeat' (first|refine qm ?_|fail|((first|refine qd ?_ ?_|refine qc ?_ ?_|refine xsC ?_ ?_);all_goals (intro hc;have hp:=hc;try simp at hp;try (exfalso;omega)))|refine qO ?_ ?_)
     all_goals try (exfalso;first|omega|contradiction)
     all_goals ((exact xE (rs:=[.tmp 6,.tmp 7,.tmp 8])))
 ·rw [if_pos h4]
  have h5:¬ p.tree.length = 0:=fun e=>h4 (List.eq_nil_of_length_eq_zero e)
  refine qa Tryz.func48 rfl _ Tryz.ntmps48 (Nat.le_of_ble_eq_true rfl) _ Tryz.results48 0 rfl rfl ?_
  repeat' (first|refine qm ?_|(first|refine xsQ Tryz.func28 (hc ..) ?_|refine jc Tryz.func47 (hi ..) ?_)|((first|refine qd ?_ ?_|refine qc ?_ ?_|refine xsC ?_ ?_);all_goals (intro hc;have hp:=hc;try simp at hp;try (exfalso;omega)))|refine qO ?_ ?_)
  all_goals try (exfalso;first|omega|contradiction)
  all_goals ((exact xE (rs:=[.tmp 6,.tmp 7,.tmp 8])))
theorem qaF (t:List Ent) (cursor:Int) (p:Pag) (hbt:EBig t) (hb:PBig p):yO C.P 48 [qb t,.v (.int .i64 cursor),.agg p.row] (qcV (j0 t cursor p)):=by
 have hc:=zW t hbt
 have hi:=Q7 cursor
 have hml:(p.coms.map Com.row).length = p.coms.length:=List.length_map ..
 by_cases h1:qD t = 0
 ·have hR:=ju.1 h1
  rw [h1] at hc
  cases h2:ka cursor with
  | true =>
    rw [h2] at hi
    cases h3:p.reset with
    | false=>rw [VQ h1 h2 h3];exact qaG t cursor p hR h2 h3 hb
    | true =>
      have hE:j0 t cursor p = if ¬ qD p.tree = 0 then ([],0,qD p.tree) else if ka p.cur = false then ([],0,3) else if ¬ p.coms = [] ∨ p.more = true then ([],0,1) else (p.tree,p.cur,0):=by
       unfold j0;rw [if_neg (by simp [h1]),if_neg (by simp [h2]),if_pos h3]
      rw [hE]
      have hc2:=zW p.tree hb.tree
      have hi2:=Q7 p.cur
      have hrow:p.row = [.v (.bool true),qb p.tree,vN p.coms,.v (.int .i64 p.cur),.v (.bool p.more)]:=by unfold Pag.row;rw [h3]
      rw [hrow]
      clear hE hrow
      by_cases h4:qD p.tree = 0
      ·rw [h4] at hc2
       rw [if_neg (by simp [h4])]
       cases h5:ka p.cur with
       | false =>
         rw [h5] at hi2
         rw [if_pos rfl]
         refine qa Tryz.func48 rfl _ Tryz.ntmps48 (Nat.le_of_ble_eq_true rfl) _ Tryz.results48 0 rfl rfl ?_
         (repeat' (first|refine qm ?_|(first|refine xsQ Tryz.func28 (hc ..) ?_|refine xsQ Tryz.func28 (hc2 ..) ?_|refine jc Tryz.func47 (hi ..) ?_|refine jc Tryz.func47 (hi2 ..) ?_)|((first|refine qd ?_ ?_|refine qc ?_ ?_|refine xsC ?_ ?_);all_goals (intro hc;have hp:=hc;try simp at hp;try (exfalso;omega)))|refine qO ?_ ?_))
         (all_goals try (exfalso;first|omega|contradiction))
         (all_goals ((exact xE (rs:=[.tmp 6,.tmp 7,.tmp 8]))))
       | true =>
         rw [h5] at hi2
         rw [if_neg (by decide)]
         by_cases h6:p.coms.length = 0
         ·have h6b:=List.eq_nil_of_length_eq_zero h6
          cases h7:p.more with
          | true =>
            rw [if_pos (.inr rfl)]
            refine qa Tryz.func48 rfl _ Tryz.ntmps48 (Nat.le_of_ble_eq_true rfl) _ Tryz.results48 0 rfl rfl ?_
            (repeat' (first|refine qm ?_|(first|refine xsQ Tryz.func28 (hc ..) ?_|refine xsQ Tryz.func28 (hc2 ..) ?_|refine jc Tryz.func47 (hi ..) ?_|refine jc Tryz.func47 (hi2 ..) ?_)|((first|refine qd ?_ ?_|refine qc ?_ ?_|refine xsC ?_ ?_);all_goals (intro hc;have hp:=hc;try simp at hp;try (exfalso;omega)))|refine qO ?_ ?_))
            (all_goals try (exfalso;first|omega|contradiction))
            (all_goals ((exact xE (rs:=[.tmp 6,.tmp 7,.tmp 8]))))
          | false =>
            rw [if_neg (by simp [h6b])]
            refine qa Tryz.func48 rfl _ Tryz.ntmps48 (Nat.le_of_ble_eq_true rfl) _ Tryz.results48 0 rfl rfl ?_
            (repeat' (first|refine qm ?_|(first|refine xsQ Tryz.func28 (hc ..) ?_|refine xsQ Tryz.func28 (hc2 ..) ?_|refine jc Tryz.func47 (hi ..) ?_|refine jc Tryz.func47 (hi2 ..) ?_)|((first|refine qd ?_ ?_|refine qc ?_ ?_|refine xsC ?_ ?_);all_goals (intro hc;have hp:=hc;try simp at hp;try (exfalso;omega)))|refine qO ?_ ?_))
            (all_goals try (exfalso;first|omega|contradiction))
            (all_goals ((exact xE (rs:=[.tmp 6,.tmp 7,.tmp 8]))))
         ·have h6b:¬ p.coms = []:=fun e=>h6 (by rw [e];rfl)
          rw [if_pos (.inl h6b)]
          refine qa Tryz.func48 rfl _ Tryz.ntmps48 (Nat.le_of_ble_eq_true rfl) _ Tryz.results48 0 rfl rfl ?_
          (repeat' (first|refine qm ?_|(first|refine xsQ Tryz.func28 (hc ..) ?_|refine xsQ Tryz.func28 (hc2 ..) ?_|refine jc Tryz.func47 (hi ..) ?_|refine jc Tryz.func47 (hi2 ..) ?_)|((first|refine qd ?_ ?_|refine qc ?_ ?_|refine xsC ?_ ?_);all_goals (intro hc;have hp:=hc;try simp at hp;try (exfalso;omega)))|refine qO ?_ ?_))
          (all_goals try (exfalso;first|omega|contradiction))
          (all_goals ((exact xE (rs:=[.tmp 6,.tmp 7,.tmp 8]))))
      ·rw [if_pos h4]
       generalize qD p.tree = E at *
       refine qa Tryz.func48 rfl _ Tryz.ntmps48 (Nat.le_of_ble_eq_true rfl) _ Tryz.results48 0 rfl rfl ?_
       (repeat' (first|refine qm ?_|(first|refine xsQ Tryz.func28 (hc ..) ?_|refine xsQ Tryz.func28 (hc2 ..) ?_|refine jc Tryz.func47 (hi ..) ?_|refine jc Tryz.func47 (hi2 ..) ?_)|((first|refine qd ?_ ?_|refine qc ?_ ?_|refine xsC ?_ ?_);all_goals (intro hc;have hp:=hc;try simp at hp;try (exfalso;omega)))|refine qO ?_ ?_))
       (all_goals try (exfalso;first|omega|contradiction))
       (all_goals ((exact xE (rs:=[.tmp 6,.tmp 7,.tmp 8]))))
  | false =>
    rw [h2] at hi
    have hE:j0 t cursor p = ([],0,3):=by unfold j0;rw [if_neg (by simp [h1]),if_pos h2]
    rw [hE]
    refine qa Tryz.func48 rfl _ Tryz.ntmps48 (Nat.le_of_ble_eq_true rfl) _ Tryz.results48 0 rfl rfl ?_
    (repeat' (first|refine qm ?_|(first|refine xsQ Tryz.func28 (hc ..) ?_|refine xsQ Tryz.func28 (hc2 ..) ?_|refine jc Tryz.func47 (hi ..) ?_|refine jc Tryz.func47 (hi2 ..) ?_)|((first|refine qd ?_ ?_|refine qc ?_ ?_|refine xsC ?_ ?_);all_goals (intro hc;have hp:=hc;try simp at hp;try (exfalso;omega)))|refine qO ?_ ?_))
    (all_goals try (exfalso;first|omega|contradiction))
    (all_goals ((exact xE (rs:=[.tmp 6,.tmp 7,.tmp 8]))))
 ·have hE:j0 t cursor p = ([],0,qD t):=by unfold j0;rw [if_pos h1]
  rw [hE]
  generalize qD t = E at *
  refine qa Tryz.func48 rfl _ Tryz.ntmps48 (Nat.le_of_ble_eq_true rfl) _ Tryz.results48 0 rfl rfl ?_
  (repeat' (first|refine qm ?_|(first|refine xsQ Tryz.func28 (hc ..) ?_|refine xsQ Tryz.func28 (hc2 ..) ?_|refine jc Tryz.func47 (hi ..) ?_|refine jc Tryz.func47 (hi2 ..) ?_)|((first|refine qd ?_ ?_|refine qc ?_ ?_|refine xsC ?_ ?_);all_goals (intro hc;have hp:=hc;try simp at hp;try (exfalso;omega)))|refine qO ?_ ?_))
  (all_goals try (exfalso;first|omega|contradiction))
  (all_goals ((exact xE (rs:=[.tmp 6,.tmp 7,.tmp 8]))))
end Go.Proofs.YtnhpclmbhbblbaaGreatDoor
