import Derived.Test.YtnhpclmbhbblbaaGreatDoorMz8
import Derived.Test.YtnhpclmbhbblbaaGreatDoorMz1
import Derived.Test.YtnhpclmbhbblbaaGreatDoorMz7
set_option linter.unusedSimpArgs false
set_option linter.unnecessarySimpa false
set_option maxHeartbeats 1000000
namespace Go.Proofs.YtnhpclmbhbblbaaGreatDoor
open Go.Ab Go.RowKit
set_option maxRecDepth 10000
attribute [local irreducible] Awp yl jE jl Red qX Go.Ab.Fin qW Rz vl jj ji ResOk jV jz yb jv
def fromN (p:qQ) (i:Nat):Nat:=i - (qY (p.take i)).length
def WZ (p:qQ) (i:Nat):List qQ:=(qo (p.take i)).dropLast
@[simp] theorem qg6 (p:qQ):WZ p 0 = []:=rfl
@[simp] theorem qgA (p:qQ):fromN p 0 = 0:=rfl
@[simp] theorem qf8 (s:qQ):cellsOf (AV.v (str s)) = [AV.v (str s)]:=rfl
theorem qbN {s:qQ} {X:List qQ} {y:qQ} (h:qo s = X ++ [y]):(qo s).dropLast = X ∧ qY s = y:=by
 have h1:=(vL s).1
 rw [h,List.dropLast_concat] at h1
 refine ⟨by rw [h,List.dropLast_concat],?_⟩
 have:=List.append_cancel_left h1
 simpa using this.symm
theorem qbr {p:qQ} {i:Nat} (h:i < p.length) (hc:p[i] = 47):WZ p (i + 1) = WZ p i ++ [qY (p.take i)] ∧ fromN p (i + 1) = i + 1:=by
 have e:p.take (i + 1) = p.take i ++ [47]:=by rw [List.take_succ_eq_append_getElem h,hc]
 obtain ⟨h1,h2⟩:=qbN (JY (p.take i))
 refine ⟨?_,?_⟩
 ·show (qo (p.take (i + 1))).dropLast = _
  rw [e,h1];exact (vL (p.take i)).1
 ·show i + 1 - (qY (p.take (i + 1))).length = _
  rw [e,h2];rfl
theorem qbq {p:qQ} {i:Nat} (h:i < p.length) (hc:¬ p[i] = 47):WZ p (i + 1) = WZ p i ∧ fromN p (i + 1) = fromN p i:=by
 have e:p.take (i + 1) = p.take i ++ [p[i]]:=List.take_succ_eq_append_getElem h
 obtain ⟨h1,h2⟩:=qbN (YQ hc (p.take i))
 refine ⟨?_,?_⟩
 ·show (qo (p.take (i + 1))).dropLast = _
  rw [e,h1];rfl
 ·show i + 1 - (qY (p.take (i + 1))).length = _
  rw [e,h2];unfold fromN;simp
theorem qbK {p:qQ} {i:Nat} (h:i ≤ p.length):fromN p i ≤ i ∧ (p.take i).drop (fromN p i) = qY (p.take i):=by
 have:=(Zx (p.take i)).2
 rw [List.length_take,Nat.min_eq_left h] at this
 exact ⟨Nat.sub_le _ _,this⟩
theorem qfy (p:qQ) (i:Nat):(WZ p i).length ≤ p.length:=by
 unfold WZ
 rw [List.length_dropLast,wW]
 have h1:(p.take i).count 47 ≤ (p.take i).length:=List.count_le_length
 have h2:(p.take i).length ≤ p.length:=by rw [List.length_take];omega
 omega
theorem v8 (p:qQ) (hp:p.length ≤ 4000000000):yO C.P 37 [.v (str p)] (.sl false ((qo p).map qN)):=by
 refine qa Tryz.func37 rfl _ Tryz.ntmps37 (Nat.le_of_ble_eq_true rfl) _ Tryz.results37 0 rfl rfl ?_
 repeat' (first|refine qm ?_|fail|((first|refine xsC ?_ ?_);all_goals (intro hc;have hp:=hc;try simp at hp;try (exfalso;omega)))|refine qO ?_ ?_)
 refine Awp.red (vX 3 1 rfl (Nat.zero_le _)) ?_
 (refine Awp.red (qC (τ:=⟨[(0,.v (str p)),(3,.os 0 0 (WZ p 0).length),(4,.v (.int .i64 ((fromN p 0:Nat):Int))),(5,.v (.int .i64 ((0:Nat):Int)))],[(0,.own false 1 ((WZ p 0).map qN))],1⟩) [(0,0)] rfl ?gts ?ghs) ?gmain;(case gts=>(repeat (first|exact qg|refine qn ?_|refine ye ?_|refine vj ?_|refine qS ?_ ?_)));(case ghs=>(repeat (first|exact qj|refine yA ?_|refine q9 ?_ ?_))))
 refine qP (fun n σ => ∃ i:Nat,i ≤ p.length ∧ n = p.length - i ∧ (True) ∧ σ = ⟨[(0,.v (str p)),(3,.os 0 0 (WZ p i).length),(4,.v (.int .i64 ((fromN p i:Nat):Int))),(5,.v (.int .i64 (i:Int)))],[(0,.own false 1 ((WZ p i).map qN))],1⟩) p.length ⟨0,Nat.zero_le _,rfl,trivial,rfl⟩ ?_
 rintro n σ ⟨i,hi,rfl, -,rfl⟩
 have hnl:=qfy p i
 by_cases hlt:i < p.length
 ·have hr:p[i]? = some p[i]:=List.getElem?_eq_getElem hlt
  obtain ⟨hfl,hfd⟩:=qbK hi
  have hs1 := @qbr p i hlt
  have hs2 := @qbq p i hlt
  generalize hF:fromN p i = fr at hfl hfd hs1 hs2 ⊢
  repeat' (first|refine qm ?_|(first|(apply qf;apply jm (a:=fr) (b:=i);(case hx=>rfl);(case hT=>rfl);(case he=>rfl);(case ha=>exact ⟨_,rfl⟩);(case hb=>exact ⟨_,rfl⟩);(case hab=>(first|omega|(simp;done)|(simp only [List.length_cons,List.length_nil,List.length_map];omega)|(simp;omega)));(case hbl=>(first|omega|(simp;done)|(simp only [List.length_cons,List.length_nil,List.length_map];omega)|(simp;omega)));(case hN=>exact nle rfl))|(refine jM ?_)|(refine yg ?_))|((first|refine xsC ?_ ?_);all_goals (intro hc;have hp:=hc;try simp at hp;try (exfalso;omega)))|refine qO ?_ ?_)
  all_goals try (exfalso;omega)
  ·have hc:p[i] = 47:=UInt8.toNat.inj (by show p[i].toNat = 47;omega)
   obtain ⟨hk,hk2⟩:=hs1 hc
   refine ⟨p.length - (i + 1),_,by omega,qC (τ:=⟨[(0,.v (str p)),(3,.os 0 0 (WZ p (i + 1)).length),(4,.v (.int .i64 ((fromN p (i + 1):Nat):Int))),(5,.v (.int .i64 ((i + 1:Nat):Int)))],[(0,.own false 1 ((WZ p (i + 1)).map qN))],1⟩) [(1,0)] rfl ?gts ?ghs,i + 1,by omega,rfl,trivial,rfl⟩;(case gts=>(repeat (first|exact qg|refine qn ?_|refine ye ?_|refine vj ?_|refine qS ?_ ?_));all_goals (first|(rw [hk2];rfl)|(rw [hk2])|(rw [hk,hfd,List.take_of_length_le (by simp)];simp [qN])));(case ghs=>(repeat (first|exact qj|refine yA ?_|refine q9 ?_ ?_));all_goals (first|(rw [hk2];rfl)|(rw [hk2])|(rw [hk,hfd,List.take_of_length_le (by simp)];simp [qN])))
  ·have hc:¬ p[i] = 47:=fun e=>by rw [e] at hp;simp at hp
   obtain ⟨hk,hk2⟩:=hs2 hc
   refine ⟨p.length - (i + 1),_,by omega,qC (τ:=⟨[(0,.v (str p)),(3,.os 0 0 (WZ p (i + 1)).length),(4,.v (.int .i64 ((fromN p (i + 1):Nat):Int))),(5,.v (.int .i64 ((i + 1:Nat):Int)))],[(0,.own false 1 ((WZ p (i + 1)).map qN))],1⟩) [(0,0)] rfl ?gts ?ghs,i + 1,by omega,rfl,trivial,rfl⟩;(case gts=>(repeat (first|exact qg|refine qn ?_|refine ye ?_|refine vj ?_|refine qS ?_ ?_));all_goals (first|(rw [hk2];rfl)|(rw [hk2])|(rw [hk])));(case ghs=>(repeat (first|exact qj|refine yA ?_|refine q9 ?_ ?_));all_goals (first|(rw [hk2];rfl)|(rw [hk2])|(rw [hk])))
 obtain rfl:i = p.length:=by omega
 obtain ⟨hfl,hfd⟩:=qbK hi
 generalize hF:fromN p p.length = fr at hfl hfd ⊢
 repeat' (first|refine qm ?_|(first|(apply qf;apply jm (a:=fr) (b:=p.length);(case hx=>rfl);(case hT=>rfl);(case he=>rfl);(case ha=>exact ⟨_,rfl⟩);(case hb=>rfl);(case hab=>(first|omega|(simp;done)|(simp only [List.length_cons,List.length_nil,List.length_map];omega)|(simp;omega)));(case hbl=>(first|omega|(simp;done)|(simp only [List.length_cons,List.length_nil,List.length_map];omega)|(simp;omega)));(case hN=>exact nle rfl))|(refine jM ?_)|(refine yg ?_))|((first|refine xsC ?_ ?_);all_goals (intro hc;have hp:=hc;try simp at hp;try (exfalso;omega)))|refine qO ?_ ?_)
 all_goals try (exfalso;omega)
 have hall:WZ p p.length ++ [qY p] = qo p:=by unfold WZ;rw [List.take_length];exact (vL p).1.symm
 rw [List.take_length] at hfd
 (refine yP (rs:=[.tmp 2]) ?_;(repeat' (first|exact q5|apply qH|exact q8 rfl|exact yn|exact zA|apply jR|apply yL|apply jJ|apply yJ|apply ya|apply yK|refine zi ?_|apply va));all_goals (rw [← hall,List.take_of_length_le (by simp),List.take_length,hfd];simp [qN]))
theorem xP (p:qQ):(qo p).length ≤ p.length + 1:=by
 rw [wW]
 have:p.count 47 ≤ p.length:=List.count_le_length
 omega
theorem J3 (p:qQ) (hp:p.length ≤ 4000000000):yO C.P 72 [.v (str p)] (.v (.bool (jZ p))):=by
 have hn:=v8 p hp
 have htg:jZ p = (decide (6 < (qo p).length) || decide (80 < p.length)):=rfl
 refine qa Tryz.func72 rfl _ Tryz.ntmps72 (Nat.le_of_ble_eq_true rfl) _ Tryz.results72 0 rfl rfl ?_
 repeat' (first|refine qm ?_|(first|refine xsQ Tryz.func37 (hn ..) ?_)|((first|refine qd ?_ ?_|refine qc ?_ ?_|refine xsC ?_ ?_);all_goals (intro hc;have hp:=hc;try simp at hp;try (exfalso;omega)))|refine qO ?_ ?_)
 all_goals (apply jB;rfl;rw [htg])
 all_goals first
  | (have h6:¬ 6 < (qo p).length:=(by omega)
     simp [h6];done)
  | (have h6:6 < (qo p).length:=(by omega)
     simp [h6];done)
  | (have h6:¬ 6 < (qo p).length:=(by omega)
     simp [h6];omega)
theorem Q6 (p:qQ) (hp:p.length ≤ 4000000000):yO C.P 64 [.v (str p)] (.v (.int .i64 (qy p))):=by
 have hn:=v8 p hp
 have hg:=J3 p hp
 have hpe:qy p = if (qo p).all jP = true then (if jZ p = true then 2 else 0) else 1:=rfl
 have hsh : ∀ n,n ∈ qo p → n.length ≤ p.length:=fun n h=>JX h
 have hmn:=xP p
 generalize qy p = E at hpe ⊢
 generalize qo p = L at hn hpe hsh hmn
 refine qa Tryz.func64 rfl _ Tryz.ntmps64 (Nat.le_of_ble_eq_true rfl) _ Tryz.results64 0 rfl rfl ?_
 repeat' (first|refine qm ?_|(first|refine xsQ Tryz.func37 (hn ..) ?_)|((first|refine xsC ?_ ?_);all_goals (intro hc;have hp:=hc;try simp at hp;try (exfalso;omega)))|refine qO ?_ ?_)
 (refine Awp.red (qv (ts:=[(0,.v (str p)),(3,.sl false (L.map qN)),(4,.v (.int .i64 ((0:Nat):Int)))]) ?_) ?_;((repeat (first|exact qg|refine qn ?_|refine qS ?_ ?_))))
 refine qP (fun n σ => ∃ i:Nat,i ≤ L.length ∧ n = L.length - i ∧ (∀ x,x ∈ L.take i → jP x = true) ∧ σ = ⟨[(0,.v (str p)),(3,.sl false (L.map qN)),(4,.v (.int .i64 (i:Int)))],[],C.nh⟩) L.length ⟨0,Nat.zero_le _,rfl,(by simp),rfl⟩ ?_
 rintro n σ ⟨i,hi,rfl,hsofar,rfl⟩
 by_cases hlt:i < L.length
 ·have hr:=js (f:=qN) hlt
  have hnm:=Xl L[i] (by have:=hsh L[i] (List.getElem_mem hlt);omega)
  repeat' (first|refine qm ?_|(first|refine jc Tryz.func45 (hnm ..) ?_)|((first|refine xsC ?_ ?_);all_goals (intro hc;have hp:=hc;try simp at hp;try (exfalso;omega)))|refine qO ?_ ?_)
  all_goals try (exfalso;omega)
  ·apply jL
   rfl
   have hall:¬ L.all jP = true:=fun h=>by
    have:=List.all_eq_true.1 h L[i] (List.getElem_mem hlt)
    simp_all
   rw [hpe,if_neg hall]
  ·refine ⟨L.length - (i + 1),_,by omega,qv (ts:=[(0,.v (str p)),(3,.sl false (L.map qN)),(4,.v (.int .i64 ((i + 1:Nat):Int)))]) ?_,i + 1,by omega,rfl,jU hlt hsofar (by assumption),rfl⟩;((repeat (first|exact qg|refine qn ?_|refine qS ?_ ?_)))
 obtain rfl:i = L.length:=by omega
 rw [List.take_length] at hsofar
 have hall:L.all jP = true:=List.all_eq_true.2 hsofar
 rw [if_pos hall] at hpe
 repeat' (first|refine qm ?_|(first|refine jc Tryz.func72 (hg ..) ?_)|((first|refine xsC ?_ ?_);all_goals (intro hc;have hp:=hc;try simp at hp;try (exfalso;omega)))|refine qO ?_ ?_)
 all_goals try (exfalso;omega)
 all_goals (apply jL;rfl;simp_all)
end Go.Proofs.YtnhpclmbhbblbaaGreatDoor
set_option linter.unusedSimpArgs false
set_option linter.unnecessarySimpa false
set_option maxHeartbeats 1000000
namespace Go.Proofs.YtnhpclmbhbblbaaGreatDoor
open Go.Ab Go.RowKit
set_option maxRecDepth 10000
attribute [local irreducible] Awp yl jE jl Red qX Go.Ab.Fin qW Rz vl jj ji ResOk jV jz yb jv
theorem XX (l:List qQ) (i:Nat):(yF (l.take i)).length ≤ (yF l).length:=by
 by_cases h1:l.take i = []
 ·rw [h1];simp [yF]
 ·by_cases h2:l.drop i = []
  ·have:=List.take_append_drop i l
   rw [h2,List.append_nil] at this
   rw [this];exact Nat.le_refl _
  ·have h3:=QP h1 h2
   rw [List.take_append_drop] at h3
   rw [h3];simp
theorem qbb {l:List qQ} {i:Nat} (h:i < l.length):l[i].length ≤ (yF l).length:=by
 have h1:=XX l (i + 1)
 by_cases h0:i = 0
 ·subst h0
  rw [Y0 h] at h1;exact h1
 ·rw [XW h (by omega)] at h1
  simp at h1;omega
theorem Vv (l:List qQ) (hl:l.length ≤ 8000000000) (hp:(yF l).length ≤ 8000000000):yO C.P 38 [.sl false (l.map qN)] (.v (str (yF l))):=by
 refine qa Tryz.func38 rfl _ Tryz.ntmps38 (Nat.le_of_ble_eq_true rfl) _ Tryz.results38 0 rfl rfl ?_
 repeat' (first|refine qm ?_|fail|((first|refine xsC ?_ ?_);all_goals (intro hc;have hp:=hc;try simp at hp;try (exfalso;omega)))|refine qO ?_ ?_)
 (refine Awp.red (qv (ts:=[(0,.sl false (l.map qN)),(3,.v (str (yF (l.take 0)))),(4,.v (.int .i64 ((0:Nat):Int)))]) ?_) ?_;((repeat (first|exact qg|refine qn ?_|refine qS ?_ ?_))))
 refine qP (fun n σ => ∃ i:Nat,i ≤ l.length ∧ n = l.length - i ∧ (True) ∧ σ = ⟨[(0,.sl false (l.map qN)),(3,.v (str (yF (l.take i)))),(4,.v (.int .i64 (i:Int)))],[],C.nh⟩) l.length ⟨0,Nat.zero_le _,rfl,trivial,rfl⟩ ?_
 rintro n σ ⟨i,hi,rfl, -,rfl⟩
 by_cases hlt:i < l.length
 ·have hr:=js (f:=qN) hlt
  have hb1:=XX l i
  have hb2:=qbb hlt
  have hs0 := @XW l i hlt
  have hf0 := @Y0 l (by omega)
  repeat' (first|refine qm ?_|(first|(apply qf;apply vU;rfl;rfl;(simp only [List.length_append,List.length_cons,List.length_nil];omega);exact nle rfl))|((first|refine xsC ?_ ?_);all_goals (intro hc;have hp:=hc;try simp at hp;try (exfalso;omega)))|refine qO ?_ ?_)
  all_goals try (exfalso;omega)
  ·refine ⟨l.length - (i + 1),_,by omega,qv (ts:=[(0,.sl false (l.map qN)),(3,.v (str (yF (l.take (i + 1))))),(4,.v (.int .i64 ((i + 1:Nat):Int)))]) ?_,i + 1,by omega,rfl,trivial,rfl⟩;((repeat (first|exact qg|refine qn ?_|refine qS ?_ ?_));all_goals (rw [hs0 (by omega)]))
  ·have h0:i = 0:=by omega
   have hf1:yF (l.take (i + 1)) = l[i]:=by subst h0;exact hf0
   refine ⟨l.length - (i + 1),_,by omega,qv (ts:=[(0,.sl false (l.map qN)),(3,.v (str (yF (l.take (i + 1))))),(4,.v (.int .i64 ((i + 1:Nat):Int)))]) ?_,i + 1,by omega,rfl,trivial,rfl⟩;((repeat (first|exact qg|refine qn ?_|refine qS ?_ ?_));all_goals (rw [hf1];subst h0;rfl))
 obtain rfl:i = l.length:=by omega
 rw [List.take_length]
 repeat' (first|refine qm ?_|fail|((first|refine xsC ?_ ?_);all_goals (intro hc;have hp:=hc;try simp at hp;try (exfalso;omega)))|refine qO ?_ ?_)
 all_goals try (exfalso;omega)
 (exact xE (rs:=[.tmp 2]))
theorem Xy (p:qQ):0 < (qo p).length:=List.length_pos_iff.2 (xo p)
theorem yC (p:qQ) (hp:p.length ≤ 4000000000):yO C.P 67 [.v (str p)] (.v (str (qG p))):=by
 have hn:=v8 p hp
 have hm:=xP p
 have hpos:=Xy p
 obtain ⟨h1,h2⟩:=vL p
 have hpl:(qG p).length ≤ p.length:=by simp [qG];omega
 have hpo:=Vv (qo p).dropLast (by rw [List.length_dropLast];omega) (by rw [h2];omega)
 rw [h2,List.dropLast_eq_take,List.map_take] at hpo
 have hrk : ∀ row,row ∈ (qo p).map qN → row.length = 1:=fun row hr=>by obtain ⟨x,_,rfl⟩:=List.mem_map.1 hr;rfl
 generalize qo p = L at hn hm hpos hpo hrk
 have hml:(L.map qN).length = L.length:=List.length_map ..
 refine qa Tryz.func67 rfl _ Tryz.ntmps67 (Nat.le_of_ble_eq_true rfl) _ Tryz.results67 0 rfl rfl ?_
 repeat' (first|refine qm ?_|(first|refine xsQ Tryz.func37 (hn ..) ?_|(apply qf;apply xU (ex':=false) (a:=0) (b:=L.length - 1) (m:=0);(case hx=>rfl);(case hT=>rfl);(case he=>rfl);(case hE=>rfl);(case ha=>rfl);(case hb=>exact ⟨_,xi (by omega)⟩);(case hm=>trivial);(case hab=>(first|omega|(simp;done)|(simp only [List.length_cons,List.length_nil,List.length_map];omega)|(simp;omega)));(case hbl=>(first|omega|(simp;done)|(simp only [List.length_cons,List.length_nil,List.length_map];omega)|(simp;omega)));(case hrk=>exact hrk);(case hex=>exact nofun);(case hN=>exact nle rfl))|refine xsQ Tryz.func38 (hpo ..) ?_)|((first|refine xsC ?_ ?_);all_goals (intro hc;have hp:=hc;try simp at hp;try (exfalso;omega)))|refine qO ?_ ?_)
 (exact xE (rs:=[.tmp 2]))
theorem qdq (p:qQ) (hp:p.length ≤ 4000000000):yO C.P 69 [.v (str p)] (.v (str (qY p))):=by
 have hn:=v8 p hp
 have hm:=xP p
 have hpos:=Xy p
 obtain ⟨h1,h2⟩:=vL p
 have hlast : ∀ h:(qo p).length - 1 < (qo p).length,(qo p)[(qo p).length - 1] = qY p:=fun h=>by
  have h3:(qo p)[(qo p).length - 1]? = some (qY p):=by
   generalize (qo p).dropLast = X at h1
   rw [h1];simp
  rw [List.getElem?_eq_getElem h] at h3
  exact Option.some.inj h3
 generalize qo p = L at hn hm hpos hlast
 have hlt:L.length - 1 < L.length:=by omega
 have hr:=js (f:=qN) hlt
 rw [hlast hlt] at hr
 have hml:(L.map qN).length = L.length:=List.length_map ..
 refine qa Tryz.func69 rfl _ Tryz.ntmps69 (Nat.le_of_ble_eq_true rfl) _ Tryz.results69 0 rfl rfl ?_
 repeat' (first|refine qm ?_|(first|refine xsQ Tryz.func37 (hn ..) ?_|(apply qf;apply vZ (i:=L.length - 1);(case hx=>rfl);(case hy=>exact xi (by omega));(case hT=>rfl);(case he=>rfl);(case hE=>rfl);(case hr=>exact hr);(case hk=>rfl);(case hN=>exact nle rfl)))|((first|refine xsC ?_ ?_);all_goals (intro hc;have hp:=hc;try simp at hp;try (exfalso;omega)))|refine qO ?_ ?_)
 (exact xE (rs:=[.tmp 2]))
theorem qb8 (p n:qQ) (hp:p.length ≤ 140737488355328) (hn:n.length ≤ 1407374883553280):yO C.P 71 [.v (str p),.v (str n)] (.v (str (zM p n))):=by
 refine qa Tryz.func71 rfl _ Tryz.ntmps71 (Nat.le_of_ble_eq_true rfl) _ Tryz.results71 0 rfl rfl ?_
 repeat' (first|refine qm ?_|fail|((first|refine xsC ?_ ?_);all_goals (intro hc;have hp:=hc;try simp at hp;try (exfalso;omega)))|refine qO ?_ ?_)
 · (refine yP (rs:=[.tmp 4]) ?_;(repeat' (first|exact q5|apply qH|exact q8 rfl|exact yn|exact zA|apply jR|apply yL|apply jJ|apply yJ|apply ya|apply yK|refine zi ?_|apply va));all_goals (simp_all [zM]))
 · (refine yP (rs:=[.tmp 4]) ?_;(repeat' (first|exact q5|apply qH|exact q8 rfl|exact yn|exact zA|apply jR|apply yL|apply jJ|apply yJ|apply ya|apply yK|refine zi ?_|apply va));all_goals (simp_all [zM]))
theorem vy (p q:qQ) (hp:p.length ≤ 4000000000) (hq:q.length ≤ 4000000000):yO C.P 126 [.v (str p),.v (str q)] (.v (.bool (inB p q))):=by
 have h1:=v8 p hp
 have h2:=v8 q hq
 have m1:=xP p
 have m2:=xP q
 rw [Vh]
 generalize qo p = A at h1 m1 ⊢
 generalize qo q = B at h2 m2 ⊢
 refine qa Tryz.func126 rfl _ Tryz.ntmps126 (Nat.le_of_ble_eq_true rfl) _ Tryz.results126 0 rfl rfl ?_
 repeat' (first|refine qm ?_|(first|refine xsQ Tryz.func37 (h1 ..) ?_|refine xsQ Tryz.func37 (h2 ..) ?_)|((first|refine xsC ?_ ?_);all_goals (intro hc;have hp:=hc;try simp at hp;try (exfalso;omega)))|refine qO ?_ ?_)
 ·apply jB
  rfl
  rw [qbf (by simp at *;omega)]
 have hle:B.length ≤ A.length:=by simp at *;omega
 (refine Awp.red (qv (ts:=[(5,.sl false (A.map qN)),(6,.sl false (B.map qN)),(7,.v (.int .i64 ((0:Nat):Int)))]) ?_) ?_;((repeat (first|exact qg|refine qn ?_|refine qS ?_ ?_))))
 refine qP (fun n σ => ∃ i:Nat,i ≤ B.length ∧ n = B.length - i ∧ (∀ k (h1:k < B.length) (h2:k < A.length),k < i → A[k] = B[k]) ∧ σ = ⟨[(5,.sl false (A.map qN)),(6,.sl false (B.map qN)),(7,.v (.int .i64 (i:Int)))],[],C.nh⟩) B.length ⟨0,Nat.zero_le _,rfl,(fun k _ _ h=>absurd h (Nat.not_lt_zero _)),rfl⟩ ?_
 rintro n σ ⟨i,hi,rfl,hsofar,rfl⟩
 by_cases hlt:i < B.length
 ·have hr:=js (f:=qN) hlt
  have hr':=js (f:=qN) (l:=A) (i:=i) (by omega)
  repeat' (first|refine qm ?_|fail|((first|refine xsC ?_ ?_);all_goals (intro hc;have hp:=hc;try simp at hp;try (exfalso;omega)))|refine qO ?_ ?_)
  all_goals try (exfalso;omega)
  ·apply jB
   rfl
   rw [qbe hle hlt (by assumption)]
  ·refine ⟨B.length - (i + 1),_,by omega,qv (ts:=[(5,.sl false (A.map qN)),(6,.sl false (B.map qN)),(7,.v (.int .i64 ((i + 1:Nat):Int)))]) ?_,i + 1,by omega,rfl,(fun k h1 h2 hk=>by
    by_cases e:k = i
    ·subst e;assumption
    ·exact hsofar k h1 h2 (by omega)),rfl⟩;((repeat (first|exact qg|refine qn ?_|refine qS ?_ ?_)))
 obtain rfl:i = B.length:=by omega
 repeat' (first|refine qm ?_|fail|((first|refine xsC ?_ ?_);all_goals (intro hc;have hp:=hc;try simp at hp;try (exfalso;omega)))|refine qO ?_ ?_)
 all_goals try (exfalso;omega)
 apply jB
 rfl
 rw [qbd hle fun k hk=>hsofar k hk (by omega) hk]
end Go.Proofs.YtnhpclmbhbblbaaGreatDoor
set_option linter.unusedSimpArgs false
set_option linter.unnecessarySimpa false
set_option maxHeartbeats 1000000
namespace Go.Proofs.YtnhpclmbhbblbaaGreatDoor
open Go.Ab Go.RowKit
set_option maxRecDepth 10000
attribute [local irreducible] Awp yl jE jl Red qX Go.Ab.Fin qW Rz vl jj ji ResOk jV jz yb jv
theorem qeN (s:qQ):yO C.P 118 [.v (str s)] (.v (.bool false)):=by
 refine qa Tryz.func118 rfl _ Tryz.ntmps118 (Nat.le_of_ble_eq_true rfl) _ Tryz.results118 0 rfl rfl ?_
 repeat' (first|refine qm ?_|fail|((first|refine xsC ?_ ?_);all_goals (intro hc;have hp:=hc;try simp at hp;try (exfalso;omega)))|refine qO ?_ ?_)
 all_goals (apply jB;rfl;simp)
theorem qb4 (a b:qQ):yO C.P 94 [.v (str a),.v (str b)] (.v (.int .i64 (w9 a b))):=by
 refine qa Tryz.func94 rfl _ Tryz.ntmps94 (Nat.le_of_ble_eq_true rfl) _ Tryz.results94 0 rfl rfl ?_
 repeat' (first|refine qm ?_|(first|refine jc Tryz.func118 (qeN ..) ?_)|((first|refine xsC ?_ ?_);all_goals (intro hc;have hp:=hc;try simp at hp;try (exfalso;omega)))|refine qO ?_ ?_)
 all_goals (apply jL;rfl;simp_all [w9])
theorem Vu (n:Int):yO C.P 73 [.v (.int .i64 n)] (.v (.bool (vH n))):=by
 refine qa Tryz.func73 rfl _ Tryz.ntmps73 (Nat.le_of_ble_eq_true rfl) _ Tryz.results73 0 rfl rfl ?_
 repeat' (first|refine qm ?_|fail|((first|refine qd ?_ ?_|refine qc ?_ ?_|refine xsC ?_ ?_);all_goals (intro hc;have hp:=hc;try simp at hp;try (exfalso;omega)))|refine qO ?_ ?_)
 all_goals (apply jB;rfl;simp_all [vH];try (intro _;omega))
theorem Wo (n:Int):yO C.P 65 [.v (.int .i64 n)] (.v (.bool (vH n))):=by
 refine qa Tryz.func65 rfl _ Tryz.ntmps65 (Nat.le_of_ble_eq_true rfl) _ Tryz.results65 0 rfl rfl ?_
 repeat' (first|refine qm ?_|fail|((first|refine qd ?_ ?_|refine qc ?_ ?_|refine xsC ?_ ?_);all_goals (intro hc;have hp:=hc;try simp at hp;try (exfalso;omega)))|refine qO ?_ ?_)
 all_goals (apply jB;rfl;simp_all [vH];try (intro _;omega))
theorem Kq (e:Ent) (he:e.small):yO C.P 98 [.agg e.row] (.v (.int .i64 (xg e))):=by
 have h1:=he.1
 have h2:=he.2
 have hp:=Vw e.path (by omega)
 have hv:=Vu e.ver
 have hE:xg e = if qy e.path = 0 then (if e.fold = true ∧ ¬ e.text = [] then 1 else if 300 < e.text.length then 2 else if vH e.ver = true then 0 else 3) else qy e.path:=rfl
 generalize xg e = E at *
 generalize vH e.ver = V at *
 generalize qy e.path = F at *
 refine qa Tryz.func98 rfl _ Tryz.ntmps98 (Nat.le_of_ble_eq_true rfl) _ Tryz.results98 0 rfl rfl ?_
 repeat' (first|refine qm ?_|(first|refine jc Tryz.func119 (hp ..) ?_|refine jc Tryz.func73 (hv ..) ?_)|((first|refine qd ?_ ?_|refine qc ?_ ?_|refine xsC ?_ ?_);all_goals (intro hc;have hp:=hc;try simp at hp;try (exfalso;omega)))|refine qO ?_ ?_)
 all_goals try (exfalso;omega)
 all_goals (apply jL;rfl;rw [hE];simp_all;try omega)
theorem qde (e:Ent) (p:qQ):yO C.P 93 [.agg e.row,.v (str p)] (.v (.int .i64 (w9 e.path p))):=by
 refine qa Tryz.func93 rfl _ Tryz.ntmps93 (Nat.le_of_ble_eq_true rfl) _ Tryz.results93 0 rfl rfl ?_
 repeat' (first|refine qm ?_|(first|refine jc Tryz.func94 (qb4 ..) ?_)|((first|refine xsC ?_ ?_);all_goals (intro hc;have hp:=hc;try simp at hp;try (exfalso;omega)))|refine qO ?_ ?_)
 all_goals (apply jL;rfl;rfl)
theorem qce (l:List Ent) (p:qQ) (hl:l.length ≤ 1000000000) (hs:q4 jr l = true) :
  yO C.P 92 [qb l,.v (str p),.clo (.func 93) [] []] (.tup [.v (.int .i64 (y0 l p)),.v (.bool (jW l p))]):=by
 refine qa Tryz.func92 rfl _ Tryz.ntmps92 (Nat.le_of_ble_eq_true rfl) _ Tryz.results92 0 rfl rfl ?_
 repeat' (first|refine qm ?_|fail|((first|refine qd ?_ ?_|refine qc ?_ ?_|refine xsC ?_ ?_);all_goals (intro hc;have hp:=hc;try simp at hp;try (exfalso;omega)))|refine qO ?_ ?_)
 (refine Awp.red (qv (ts:=[(0,qb l),(1,.v (str p)),(2,.clo (.func 93) [] []),(8,.v (.int .i64 l.length)),(9,.v (.int .i64 ((0:Nat):Int))),(10,.v (.int .i64 l.length))]) ?_) ?_;((repeat (first|exact qg|refine qn ?_|refine qS ?_ ?_))))
 all_goals try (rw [List.length_map];done)
 refine qP (fun n σ => ∃ lo hi:Nat,lo ≤ hi ∧ hi ≤ l.length ∧ n = hi - lo ∧ (∀ (k:Nat) (h:k < l.length),k < lo → Op.bytesLess l[k].path p = true) ∧ (∀ (k:Nat) (h:k < l.length),hi ≤ k → Op.bytesLess l[k].path p = false) ∧ σ = ⟨[(0,qb l),(1,.v (str p)),(2,.clo (.func 93) [] []),(8,.v (.int .i64 l.length)),(9,.v (.int .i64 ((lo:Nat):Int))),(10,.v (.int .i64 ((hi:Nat):Int)))],[],C.nh⟩) l.length ⟨0,l.length,by omega,Nat.le_refl _,rfl,fun _ _ h=>absurd h (by omega),fun _ _ h=>absurd h (by omega),rfl⟩ ?_
 rintro n σ ⟨lo,hi,hle,hhi,rfl,h1,h2,rfl⟩
 by_cases hlt:lo < hi
 ·obtain ⟨m,hm⟩ : ∃ m:Nat,m = (lo + hi) / 2:=⟨_,rfl⟩
  have hmi:((lo:Int) + (hi:Int)) / 2 = (m:Int):=by omega
  have hml:m < l.length:=by omega
  have hr:=js (f:=Ent.row) hml
  have hr2:(l.map Ent.row)[(((lo:Int) + (hi:Int)) / 2).toNat]? = some l[m].row:=by rw [hmi];exact hr
  repeat' (first|refine qm ?_|(first|(apply qf;first|(apply qcp;rfl;rfl;rfl;rfl;rfl;omega;omega;exact nle rfl)|(apply qco;rfl;rfl;rfl;rfl;rfl;omega;omega;exact nle rfl))|(apply qf;apply qfg;(case hx=>rfl);(case hy=>rfl);(case hk=>decide);(case hN=>exact nle rfl))|(refine Vl Tryz.func93 (qde ..) ?_))|((first|refine qd ?_ ?_|refine qc ?_ ?_|refine xsC ?_ ?_);all_goals (intro hc;have hp:=hc;try simp at hp;try (exfalso;omega)))|refine qO ?_ ?_)
  all_goals try (exfalso;omega)
  ·have hmg:Op.bytesLess l[m].path p = true:=(Zl _ _).1 hp
   refine ⟨hi - (m + 1),_,by omega,qv (ts:=[(0,qb l),(1,.v (str p)),(2,.clo (.func 93) [] []),(8,.v (.int .i64 l.length)),(9,.v (.int .i64 ((m + 1:Nat):Int))),(10,.v (.int .i64 ((hi:Nat):Int)))]) ?_,m + 1,hi,by omega,hhi,rfl,fun k h hk=>?_,h2,rfl⟩
   · (repeat (first|exact qg|refine qn ?_|refine qS ?_ ?_))
     all_goals (rw [hmi];rfl)
   ·by_cases e:k = m
    ·subst e;exact hmg
    ·exact ky (zP hs k m h hml (by omega)) hmg
  ·have hmg:Op.bytesLess l[m].path p = false:=(by
    cases h:Op.bytesLess l[m].path p
    ·rfl
    ·have:=(Zl _ _).2 h;omega)
   refine ⟨m - lo,_,by omega,qv (ts:=[(0,qb l),(1,.v (str p)),(2,.clo (.func 93) [] []),(8,.v (.int .i64 l.length)),(9,.v (.int .i64 ((lo:Nat):Int))),(10,.v (.int .i64 ((m:Nat):Int)))]) ?_,lo,m,by omega,by omega,rfl,h1,fun k h hk=>?_,rfl⟩
   · (repeat (first|exact qg|refine qn ?_|refine qS ?_ ?_))
     all_goals (rw [hmi])
   ·by_cases e:k = m
    ·subst e;exact hmg
    ·cases hkg:Op.bytesLess l[k].path p
     ·rfl
     ·rw [ky (zP hs m k hml h (by omega)) hkg] at hmg;cases hmg
 obtain rfl:lo = hi:=by omega
 have hpos:y0 l p = lo:=KQ hhi h1 (fun h=>h2 lo h (by omega))
 by_cases hin:lo < l.length
 ·have hr:=js (f:=Ent.row) hin
  have hhit:jW l p = decide (w9 l[lo].path p = 0):=by
   rw [WN hs,hpos,List.getElem?_eq_getElem hin]
  repeat' (first|refine qm ?_|(first|(refine Vl Tryz.func93 (qde ..) ?_))|((first|refine qd ?_ ?_|refine qc ?_ ?_|refine xsC ?_ ?_);all_goals (intro hc;have hp:=hc;try simp at hp;try (exfalso;omega)))|refine qO ?_ ?_)
  all_goals try (exfalso;omega)
  rw [hpos,hhit]
  (exact xE (rs:=[.tmp 6,.tmp 7]))
 ·have hhit:jW l p = false:=by
   rw [WN hs,hpos,List.getElem?_eq_none (by omega)]
  repeat' (first|refine qm ?_|(first|(refine Vl Tryz.func93 (qde ..) ?_))|((first|refine qd ?_ ?_|refine qc ?_ ?_|refine xsC ?_ ?_);all_goals (intro hc;have hp:=hc;try simp at hp;try (exfalso;omega)))|refine qO ?_ ?_)
  all_goals try (exfalso;omega)
  rw [hpos,hhit]
  (exact xE (rs:=[.tmp 6,.tmp 7]))
theorem We (l:List Ent) (p:qQ) (hl:l.length ≤ 1000000000) (hs:q4 jr l = true) :
  yO C.P 63 [qb l,.v (str p)] (.tup [.v (.int .i64 (y0 l p)),.v (.bool (jW l p))]):=by
 have hse:=qce l p hl hs
 refine qa Tryz.func63 rfl _ Tryz.ntmps63 (Nat.le_of_ble_eq_true rfl) _ Tryz.results63 0 rfl rfl ?_
 repeat' (first|refine qm ?_|(first|refine xsQ Tryz.func92 (hse ..) ?_)|((first|refine xsC ?_ ?_);all_goals (intro hc;have hp:=hc;try simp at hp;try (exfalso;omega)))|refine qO ?_ ?_)
 (exact xE (rs:=[.tmp 4,.tmp 5]))
end Go.Proofs.YtnhpclmbhbblbaaGreatDoor
set_option linter.unusedSimpArgs false
set_option linter.unnecessarySimpa false
set_option maxHeartbeats 1000000
namespace Go.Proofs.YtnhpclmbhbblbaaGreatDoor
open Go.Ab Go.RowKit
set_option maxRecDepth 10000
attribute [local irreducible] Awp yl jE jl Red qX Go.Ab.Fin qW Rz vl jj ji ResOk jV jz yb jv
def wD (l:List Ent) (p:qQ):Ent:=if qG p = [] then ⟨[],true,[],0⟩ else match l.find? (atP (qG p)) with|some x=>x|none=>⟨[],false,[],0⟩
def Ji (l:List Ent) (p:qQ):Bool:=decide (qG p = []) || jW l (qG p)
theorem Za (l:List Ent) (p:qQ):yw l (qG p) = if Ji l p = true then (if (wD l p).fold = true then 0 else 4) else 5:=by
 unfold yw Ji wD
 by_cases h:qG p = []
 ·simp [h]
 ·cases hh:jW l (qG p) with
  | true =>
    obtain ⟨x,hx,hk⟩:=List.any_eq_true.1 hh
    cases hf:l.find? (atP (qG p)) with
    | none=>rw [List.find?_eq_none] at hf;exact absurd hk (hf x hx)
    | some y=>simp [h]
  | false=>simp [h,(xK hh).1]
theorem ZC (l:List Ent) (p:qQ) (hl:l.length ≤ 1000000000) (hs:q4 jr l = true) (hp:p.length ≤ 140737488355328) :
  yO C.P 99 [qb l,.v (str p)] (.tup [.agg (wD l p).row,.v (.bool (Ji l p))]):=by
 have hsp:=qbC p (by omega)
 have hat:=We l (qG p) hl hs
 by_cases h:qG p = []
 ·have e1:wD l p = ⟨[],true,[],0⟩:=by simp [wD,h]
  have e2:Ji l p = true:=by simp [Ji,h]
  rw [h] at hsp hat
  rw [e1,e2]
  refine qa Tryz.func99 rfl _ Tryz.ntmps99 (Nat.le_of_ble_eq_true rfl) _ Tryz.results99 0 rfl rfl ?_
  repeat' (first|refine qm ?_|(first|refine xsQ Tryz.func110 (hsp ..) ?_|refine xsQ Tryz.func63 (hat ..) ?_)|((first|refine xsC ?_ ?_);all_goals (intro hc;have hp:=hc;try simp at hp;try (exfalso;omega)))|refine qO ?_ ?_)
  all_goals try (exfalso;simp_all;done)
  (exact xE (rs:=[.cell 4 59,.tmp 5]))
 ·cases hh:jW l (qG p) with
  | true =>
    obtain ⟨hk,hpe,hfi, -⟩:=zu hs hh
    have e1:wD l p = l[y0 l (qG p)]:=by simp [wD,h,hfi]
    have e2:Ji l p = true:=by simp [Ji,hh]
    rw [hh] at hat
    rw [e1,e2]
    generalize y0 l (qG p) = k at *
    have hr:=js (f:=Ent.row) hk
    refine qa Tryz.func99 rfl _ Tryz.ntmps99 (Nat.le_of_ble_eq_true rfl) _ Tryz.results99 0 rfl rfl ?_
    repeat' (first|refine qm ?_|(first|refine xsQ Tryz.func110 (hsp ..) ?_|refine xsQ Tryz.func63 (hat ..) ?_)|((first|refine xsC ?_ ?_);all_goals (intro hc;have hp:=hc;try simp at hp;try (exfalso;omega)))|refine qO ?_ ?_)
    all_goals try (exfalso;first|exact h (by assumption)|(simp_all;done))
    (exact xE (rs:=[.cell 4 59,.tmp 5]))
  | false =>
    have e1:wD l p = ⟨[],false,[],0⟩:=by simp [wD,h,(xK hh).1]
    have e2:Ji l p = false:=by simp [Ji,hh,h]
    rw [hh] at hat
    rw [e1,e2]
    refine qa Tryz.func99 rfl _ Tryz.ntmps99 (Nat.le_of_ble_eq_true rfl) _ Tryz.results99 0 rfl rfl ?_
    repeat' (first|refine qm ?_|(first|refine xsQ Tryz.func110 (hsp ..) ?_|refine xsQ Tryz.func63 (hat ..) ?_)|((first|refine xsC ?_ ?_);all_goals (intro hc;have hp:=hc;try simp at hp;try (exfalso;omega)))|refine qO ?_ ?_)
    all_goals try (exfalso;first|exact h (by assumption)|(simp_all;done))
    (exact xE (rs:=[.cell 4 59,.tmp 5]))
end Go.Proofs.YtnhpclmbhbblbaaGreatDoor
set_option linter.unusedSimpArgs false
set_option linter.unnecessarySimpa false
set_option maxHeartbeats 1000000
namespace Go.Proofs.YtnhpclmbhbblbaaGreatDoor
open Go.Ab Go.RowKit
set_option maxRecDepth 10000
attribute [local irreducible] Awp yl jE jl Red qX Go.Ab.Fin qW Rz vl jj ji ResOk jV jz yb jv
theorem qbP (a b:Ent):(Op.bytesLess b.path a.path || decide (b.path = a.path)) = !jr a b:=by
 unfold jr
 rcases w4 a.path b.path with ⟨h1,h2,h3⟩|⟨h1,h2,h3⟩|⟨h1,h2,h3⟩
 ·have h4:¬ b.path = a.path:=fun e=>h3 e.symm
  simp [h1,h2,h4]
 ·simp [h1,zj]
 ·simp [h1,h2]
theorem X1 {t:List Ent} (h60:¬ 60 < t.length) {k:Nat} (hk:k < t.length) (hs : ∀ g,g ∈ t.take k → xg g = 0) (h0:xg t[k] ≠ 0):xg t[k] = qD t:=by
 have h1:=Jc hk hs h0
 have hz:¬ j3 xg t = 0:=by rw [h1];exact h0
 simp only [qD,h60,hz,if_false]
 rw [h1]
theorem Wg (l:List Ent) (hl:EBig l):yO C.P 76 [qb l] (.v (.int .i64 (qD l))):=by
 have hll:=hl.len
 refine qa Tryz.func76 rfl _ Tryz.ntmps76 (Nat.le_of_ble_eq_true rfl) _ Tryz.results76 0 rfl rfl ?_
 repeat' (first|refine qm ?_|fail|((first|refine xsC ?_ ?_);all_goals (intro hc;have hp:=hc;try simp at hp;try (exfalso;omega)))|refine qO ?_ ?_)
 ·apply jL
  rfl
  have h60:60 < l.length:=by omega
  simp [qD,h60]
 have h60:¬ 60 < l.length:=by omega
 (refine Awp.red (qv (ts:=[(0,qb l),(15,qb l),(16,.v (.int .i64 l.length)),(17,.v (.int .i64 ((0:Nat):Int)))]) ?_) ?_;((repeat (first|exact qg|refine qn ?_|refine qS ?_ ?_))))
 all_goals try (rw [List.length_map];done)
 refine qP (fun n σ => ∃ i:Nat,i ≤ l.length ∧ n = l.length - i ∧ (∀ g,g ∈ l.take i → xg g = 0) ∧ σ = ⟨[(0,qb l),(15,qb l),(16,.v (.int .i64 l.length)),(17,.v (.int .i64 (i:Int)))],[],C.nh⟩) l.length ⟨0,Nat.zero_le _,rfl,(by simp),rfl⟩ ?_
 rintro n σ ⟨i,hi,rfl,hsofar,rfl⟩
 by_cases hlt:i < l.length
 ·have hr:=js (f:=Ent.row) hlt
  have hsm:=hl.each l[i] (List.getElem_mem _)
  have hce:=Kq l[i] hsm
  repeat' (first|refine qm ?_|(first|refine jc Tryz.func98 (hce ..) ?_)|((first|refine xsC ?_ ?_);all_goals (intro hc;have hp:=hc;try simp at hp;try (exfalso;omega)))|refine qO ?_ ?_)
  all_goals try (exfalso;omega)
  ·apply jL
   rfl
   exact X1 h60 hlt hsofar (by assumption)
  ·refine ⟨l.length - (i + 1),_,by omega,qv (ts:=[(0,qb l),(15,qb l),(16,.v (.int .i64 l.length)),(17,.v (.int .i64 ((i + 1:Nat):Int)))]) ?_,i + 1,by omega,rfl,jU hlt hsofar (by assumption),rfl⟩;((repeat (first|exact qg|refine qn ?_|refine qS ?_ ?_)))
 obtain rfl:i = l.length:=by omega
 have hz:j3 xg l = 0:=vA.2 (fun s hs=>hsofar s (by rw [List.take_length];exact hs))
 clear hsofar
 repeat' (first|refine qm ?_|fail|((first|refine xsC ?_ ?_);all_goals (intro hc;have hp:=hc;try simp at hp;try (exfalso;omega)))|refine qO ?_ ?_)
 all_goals try (exfalso;omega)
 (refine Awp.red (qv (ts:=[(0,qb l),(6,.v (.int .i64 ((0 + 1:Nat):Int)))]) ?_) ?_;((repeat (first|exact qg|refine qn ?_|refine qS ?_ ?_))))
 refine qP (fun n σ => ∃ i:Nat,i ≤ (l.drop 1).length ∧ n = (l.drop 1).length - i ∧ (∀ (k:Nat) (h:k + 1 < l.length),k < i → jr (l[k]'(by omega)) l[k + 1] = true) ∧ σ = ⟨[(0,qb l),(6,.v (.int .i64 ((i + 1:Nat):Int)))],[],C.nh⟩) (l.drop 1).length ⟨0,Nat.zero_le _,rfl,(fun k h hk=>absurd hk (Nat.not_lt_zero _)),rfl⟩ ?_
 have hdl:(l.drop 1).length = l.length - 1:=by simp
 rintro n σ ⟨i,hi,rfl,hsofar,rfl⟩
 by_cases hlt:i + 1 < l.length
 ·have hr:=js (f:=Ent.row) hlt
  have hr':=js (f:=Ent.row) (l:=l) (i:=i) (by omega)
  have hle:=qbP l[i] l[i + 1]
  repeat' (first|refine qm ?_|fail|((first|refine xsC ?_ ?_);all_goals (intro hc;have hp:=hc;try simp at hp;try (exfalso;omega)))|refine qO ?_ ?_)
  all_goals try (exfalso;omega)
  ·have hrf:¬ q4 jr l = true:=fun h=>by
    have:=zO.1 h i hlt
    simp_all
   apply jL
   rfl
   simp [qD,h60,hz,hrf]
  ·have hok:jr l[i] l[i + 1] = true:=(by simp_all)
   refine ⟨(l.drop 1).length - (i + 1),_,by omega,qv (ts:=[(0,qb l),(6,.v (.int .i64 ((i + 1 + 1:Nat):Int)))]) ?_,i + 1,by omega,rfl,(fun k h hk=>by
    by_cases e:k = i
    ·subst e;exact hok
    ·exact hsofar k h (by omega)),rfl⟩;((repeat (first|exact qg|refine qn ?_|refine qS ?_ ?_)))
 have hrise:q4 jr l = true:=zO.2 fun k h=>hsofar k h (by simp at hi;omega)
 clear hsofar
 repeat' (first|refine qm ?_|fail|((first|refine xsC ?_ ?_);all_goals (intro hc;have hp:=hc;try simp at hp;try (exfalso;omega)))|refine qO ?_ ?_)
 all_goals try (exfalso;omega)
 (refine Awp.red (qv (ts:=[(0,qb l),(7,.v (.int .i64 (if (l.take 0).any (fun x=>decide (¬ yE l x = 0)) = true then 4 else 0))),(45,qb l),(46,.v (.int .i64 l.length)),(47,.v (.int .i64 ((0:Nat):Int)))]) ?_) ?_;((repeat (first|exact qg|refine qn ?_|refine qS ?_ ?_))))
 all_goals try (rw [List.length_map];done)
 refine qP (fun n σ => ∃ i:Nat,i ≤ l.length ∧ n = l.length - i ∧ (∀ g,g ∈ l.take i → ¬ yE l g = 5) ∧ σ = ⟨[(0,qb l),(7,.v (.int .i64 (if (l.take i).any (fun x=>decide (¬ yE l x = 0)) = true then 4 else 0))),(45,qb l),(46,.v (.int .i64 l.length)),(47,.v (.int .i64 (i:Int)))],[],C.nh⟩) l.length ⟨0,Nat.zero_le _,rfl,(by simp),rfl⟩ ?_
 rintro n σ ⟨i,hi,rfl,hsofar,rfl⟩
 by_cases hlt:i < l.length
 ·have hr:=js (f:=Ent.row) hlt
  have hsm:=hl.each l[i] (List.getElem_mem _)
  have hpa:=ZC l l[i].path hl.len hrise (by have:=hsm.1;omega)
  have hpe:yE l l[i] = _:=Za l l[i].path
  have htk:=List.take_succ_eq_append_getElem hlt
  generalize Ji l l[i].path = ok at hpa hpe
  generalize wD l l[i].path = pe at hpa hpe
  repeat' (first|refine qm ?_|(first|refine xsQ Tryz.func99 (hpa ..) ?_)|((first|refine xsC ?_ ?_);all_goals (intro hc;have hp:=hc;try simp at hp;try (exfalso;omega)))|refine qO ?_ ?_)
  all_goals try (exfalso;omega)
  ·have h5:yE l l[i] = 5:=(by rw [hpe];simp_all)
   have hany:l.any (fun x=>decide (yE l x = 5)) = true:=List.any_eq_true.2 ⟨l[i],List.getElem_mem _,by simp [h5]⟩
   apply jL
   rfl
   simp [qD,h60,hz,hrise,hany]
  ·have h4:yE l l[i] = 4:=(by rw [hpe];simp_all)
   refine ⟨l.length - (i + 1),_,by omega,qv (ts:=[(0,qb l),(7,.v (.int .i64 (if (l.take (i + 1)).any (fun x=>decide (¬ yE l x = 0)) = true then 4 else 0))),(45,qb l),(46,.v (.int .i64 l.length)),(47,.v (.int .i64 ((i + 1:Nat):Int)))]) ?_,i + 1,by omega,rfl,jU hlt hsofar (by rw [h4];decide),rfl⟩;((repeat (first|exact qg|refine qn ?_|refine qS ?_ ?_));all_goals (rw [htk,List.any_append];simp [h4]))
  ·have h4:yE l l[i] = 0:=(by rw [hpe];simp_all)
   refine ⟨l.length - (i + 1),_,by omega,qv (ts:=[(0,qb l),(7,.v (.int .i64 (if (l.take (i + 1)).any (fun x=>decide (¬ yE l x = 0)) = true then 4 else 0))),(45,qb l),(46,.v (.int .i64 l.length)),(47,.v (.int .i64 ((i + 1:Nat):Int)))]) ?_,i + 1,by omega,rfl,jU hlt hsofar (by rw [h4];decide),rfl⟩;((repeat (first|exact qg|refine qn ?_|refine qS ?_ ?_));all_goals (rw [htk,List.any_append];simp [h4]))
 obtain rfl:i = l.length:=by omega
 rw [List.take_length] at *
 have hno:¬ l.any (fun x=>decide (yE l x = 5)) = true:=fun h=>by
  obtain ⟨x,hx,hk⟩:=List.any_eq_true.1 h
  exact hsofar x hx (by simpa using hk)
 have hE:qD l = if l.any (fun x=>decide (¬ yE l x = 0)) = true then 4 else 0:=by
  unfold qD
  rw [if_neg h60,if_pos hz,if_pos hrise,if_neg hno]
 repeat' (first|refine qm ?_|fail|((first|refine xsC ?_ ?_);all_goals (intro hc;have hp:=hc;try simp at hp;try (exfalso;omega)))|refine qO ?_ ?_)
 all_goals try (exfalso;omega)
 apply jL
 rfl
 exact hE.symm
end Go.Proofs.YtnhpclmbhbblbaaGreatDoor
set_option linter.unusedSimpArgs false
set_option linter.unnecessarySimpa false
set_option maxHeartbeats 1000000
namespace Go.Proofs.YtnhpclmbhbblbaaGreatDoor
open Go.Ab Go.RowKit
set_option maxRecDepth 10000
attribute [local irreducible] Awp yl jE jl Red qX Go.Ab.Fin qW Rz vl jj ji ResOk jV jz yb jv
def wb (t:List Ent):List AV:=[qb t]
theorem qb3 (ts:List (List Ent)) (hn:ts.length ≤ 1000000) (hs : ∀ t,t ∈ ts → EBig t):yO C.P 42 [.sl false (ts.map wb)] (.v (.int .i64 (j3 qD ts))):=by
 refine qa Tryz.func42 rfl _ Tryz.ntmps42 (Nat.le_of_ble_eq_true rfl) _ Tryz.results42 0 rfl rfl ?_
 repeat' (first|refine qm ?_|fail|((first|refine xsC ?_ ?_);all_goals (intro hc;have hp:=hc;try simp at hp;try (exfalso;omega)))|refine qO ?_ ?_)
 (refine Awp.red (qv (ts:=[(6,.sl false (ts.map wb)),(7,.v (.int .i64 ts.length)),(8,.v (.int .i64 ((0:Nat):Int)))]) ?_) ?_;((repeat (first|exact qg|refine qn ?_|refine qS ?_ ?_))))
 all_goals try (rw [List.length_map];done)
 refine qP (fun n σ => ∃ i:Nat,i ≤ ts.length ∧ n = ts.length - i ∧ (∀ t,t ∈ ts.take i → qD t = 0) ∧ σ = ⟨[(6,.sl false (ts.map wb)),(7,.v (.int .i64 ts.length)),(8,.v (.int .i64 (i:Int)))],[],C.nh⟩) ts.length ⟨0,Nat.zero_le _,rfl,(by simp),rfl⟩ ?_
 rintro n σ ⟨i,hi,rfl,hsofar,rfl⟩
 by_cases hlt:i < ts.length
 ·have hr:=js (f:=wb) hlt
  have hct:=Wg ts[i] (hs _ (List.getElem_mem _))
  repeat' (first|refine qm ?_|(first|refine xsQ Tryz.func76 (hct ..) ?_)|((first|refine xsC ?_ ?_);all_goals (intro hc;have hp:=hc;try simp at hp;try (exfalso;omega)))|refine qO ?_ ?_)
  all_goals try (exfalso;omega)
  ·apply jL
   rfl
   exact (Jc hlt hsofar (by assumption)).symm
  ·refine ⟨ts.length - (i + 1),_,by omega,qv (ts:=[(6,.sl false (ts.map wb)),(7,.v (.int .i64 ts.length)),(8,.v (.int .i64 ((i + 1:Nat):Int)))]) ?_,i + 1,by omega,rfl,jU hlt hsofar (by assumption),rfl⟩;((repeat (first|exact qg|refine qn ?_|refine qS ?_ ?_)))
 obtain rfl:i = ts.length:=by omega
 have hz:j3 qD ts = 0:=vA.2 (fun s hs=>hsofar s (by rw [List.take_length];exact hs))
 clear hsofar
 repeat' (first|refine qm ?_|fail|((first|refine xsC ?_ ?_);all_goals (intro hc;have hp:=hc;try simp at hp;try (exfalso;omega)))|refine qO ?_ ?_)
 all_goals try (exfalso;omega)
 apply jL
 rfl
 exact hz.symm
theorem Vr (l:List Ent) (hl:EBig l):yO C.P 42 [.sl false [[qb l]]] (.v (.int .i64 (qD l))):=by
 have h:=qb3 [l] (by simp) (by simpa using hl)
 rw [show j3 qD [l] = qD l from by simp only [j3];split<;>simp_all] at h
 exact h
theorem wn (l:List Ent) (hl:EBig l):yO C.P 15 [qb l] (.v (.int .i64 (qD l))):=by
 have h:=Vr l hl
 refine qa Tryz.func15 rfl _ Tryz.ntmps15 (Nat.le_of_ble_eq_true rfl) _ Tryz.results15 0 rfl rfl ?_
 repeat' (first|refine qm ?_|(first|(refine jM ?_)|refine xsQ Tryz.func42 (h ..) ?_)|((first|refine xsC ?_ ?_);all_goals (intro hc;have hp:=hc;try simp at hp;try (exfalso;omega)))|refine qO ?_ ?_)
 all_goals (apply jL;rfl;rfl)
theorem j8 (l:List Ent) (p:qQ) (hl:l.length ≤ 1000000000):yO C.P 34 [qb l,.v (str p)] (.v (.int .i64 (xa (atP p) l))):=by
 refine qa Tryz.func34 rfl _ Tryz.ntmps34 (Nat.le_of_ble_eq_true rfl) _ Tryz.results34 0 rfl rfl ?_
 repeat' (first|refine qm ?_|fail|((first|refine xsC ?_ ?_);all_goals (intro hc;have hp:=hc;try simp at hp;try (exfalso;omega)))|refine qO ?_ ?_)
 (refine Awp.red (qv (ts:=[(0,qb l),(1,.v (str p)),(5,.v (.int .i64 ((0:Nat):Int)))]) ?_) ?_;((repeat (first|exact qg|refine qn ?_|refine qS ?_ ?_))))
 refine qP (fun n σ => ∃ i:Nat,i ≤ l.length ∧ n = l.length - i ∧ (∀ x,x ∈ l.take i → atP p x = false) ∧ σ = ⟨[(0,qb l),(1,.v (str p)),(5,.v (.int .i64 (i:Int)))],[],C.nh⟩) l.length ⟨0,Nat.zero_le _,rfl,(by simp),rfl⟩ ?_
 rintro n σ ⟨i,hi,rfl,hsofar,rfl⟩
 by_cases hlt:i < l.length
 ·have hr:=js (f:=Ent.row) hlt
  repeat' (first|refine qm ?_|fail|((first|refine xsC ?_ ?_);all_goals (intro hc;have hp:=hc;try simp at hp;try (exfalso;omega)))|refine qO ?_ ?_)
  all_goals try (exfalso;omega)
  ·apply jL
   rfl
   exact (Jd hlt hsofar (by simp_all [atP])).symm
  ·refine ⟨l.length - (i + 1),_,by omega,qv (ts:=[(0,qb l),(1,.v (str p)),(5,.v (.int .i64 ((i + 1:Nat):Int)))]) ?_,i + 1,by omega,rfl,jU hlt hsofar (by simp_all [atP]),rfl⟩;((repeat (first|exact qg|refine qn ?_|refine qS ?_ ?_)))
 obtain rfl:i = l.length:=by omega
 repeat' (first|refine qm ?_|fail|((first|refine xsC ?_ ?_);all_goals (intro hc;have hp:=hc;try simp at hp;try (exfalso;omega)))|refine qO ?_ ?_)
 all_goals try (exfalso;omega)
 apply jL
 rfl
 rw [wy fun x hx=>hsofar x (by rw [List.take_length];exact hx)]
theorem vR (l:List Ent) (p:qQ) (hl:l.length ≤ 1000000000):yO C.P 66 [qb l,.v (str p)] (.v (.int .i64 (yw l p))):=by
 have hea:=j8 l p hl
 have hE:yw l p = if p = [] then 0 else match l.find? (atP p) with|none=>5|some x=>if x.fold = true then 0 else 4:=rfl
 generalize yw l p = E at *
 rcases Yb (atP p) l with ⟨h1,h2⟩|⟨k,hk,h1,h2⟩
 ·rw [h1] at hea
  rw [h2] at hE
  refine qa Tryz.func66 rfl _ Tryz.ntmps66 (Nat.le_of_ble_eq_true rfl) _ Tryz.results66 0 rfl rfl ?_
  repeat' (first|refine qm ?_|(first|refine jc Tryz.func34 (hea ..) ?_)|((first|refine xsC ?_ ?_);all_goals (intro hc;have hp:=hc;try simp at hp;try (exfalso;omega)))|refine qO ?_ ?_)
  all_goals try (exfalso;omega)
  all_goals (apply jL;rfl;simp_all)
 ·rw [h1] at hea
  rw [h2] at hE
  have hr:=js (f:=Ent.row) hk
  refine qa Tryz.func66 rfl _ Tryz.ntmps66 (Nat.le_of_ble_eq_true rfl) _ Tryz.results66 0 rfl rfl ?_
  repeat' (first|refine qm ?_|(first|refine jc Tryz.func34 (hea ..) ?_)|((first|refine xsC ?_ ?_);all_goals (intro hc;have hp:=hc;try simp at hp;try (exfalso;omega)))|refine qO ?_ ?_)
  all_goals try (exfalso;omega)
  all_goals (apply jL;rfl;simp_all)
end Go.Proofs.YtnhpclmbhbblbaaGreatDoor
set_option linter.unusedSimpArgs false
set_option linter.unnecessarySimpa false
set_option maxHeartbeats 1000000
namespace Go.Proofs.YtnhpclmbhbblbaaGreatDoor
open Go.Ab Go.RowKit
set_option maxRecDepth 10000
attribute [local irreducible] Awp yl jE jl Red qX Go.Ab.Fin qW Rz vl jj ji ResOk jV jz yb jv
theorem Wy {e:Ent} (h:¬ qy e.path = 0):xg e = qy e.path:=by simp [xg,h]
theorem Wz {e:Ent} (h:qy e.path = 0):xg e = (if e.fold = true ∧ ¬ e.text = [] then 1 else if 300 < e.text.length then 2 else if vH e.ver = true then 0 else 3):=by simp [xg,h]
theorem zW (l:List Ent) (hl:EBig l):yO C.P 28 [qb l] (.v (.int .i64 (qD l))):=by
 have hll:=hl.len
 refine qa Tryz.func28 rfl _ Tryz.ntmps28 (Nat.le_of_ble_eq_true rfl) _ Tryz.results28 0 rfl rfl ?_
 repeat' (first|refine qm ?_|fail|((first|refine qd ?_ ?_|refine qc ?_ ?_|refine xsC ?_ ?_);all_goals (intro hc;have hp:=hc;try simp at hp;try (exfalso;omega)))|refine qO ?_ ?_)
 ·apply jL
  rfl
  have h60:60 < l.length:=by omega
  simp [qD,h60]
 have h60:¬ 60 < l.length:=by omega
 (refine Awp.red (qv (ts:=[(0,qb l),(3,.v (.int .i64 ((0:Nat):Int)))]) ?_) ?_;((repeat (first|exact qg|refine qn ?_|refine qS ?_ ?_))))
 refine qP (fun n σ => ∃ i:Nat,i ≤ l.length ∧ n = l.length - i ∧ (∀ g,g ∈ l.take i → xg g = 0) ∧ σ = ⟨[(0,qb l),(3,.v (.int .i64 (i:Int)))],[],C.nh⟩) l.length ⟨0,Nat.zero_le _,rfl,(by simp),rfl⟩ ?_
 rintro n σ ⟨i,hi,rfl,hsofar,rfl⟩
 by_cases hlt:i < l.length
 ·have hr:=js (f:=Ent.row) hlt
  have hsm:=hl.each l[i] (List.getElem_mem _)
  have hcp:=Q6 l[i].path (by have:=hsm.1;omega)
  have hvr:=Wo l[i].ver
  have hlen:=hsm.2
  have hfo := @Wy l[i]
  have hre := @Wz l[i]
  have hte:=fun h => @X1 l h60 i hlt hsofar h
  have hnx:=fun h=>jU (p:=fun g=>xg g = 0) hlt hsofar h
  generalize xg l[i] = E at *
  generalize qy l[i].path = F at *
  generalize vH l[i].ver = V at *
  repeat' (first|refine qm ?_|(first|refine jc Tryz.func64 (hcp ..) ?_|refine jc Tryz.func65 (hvr ..) ?_)|((first|refine qd ?_ ?_|refine qc ?_ ?_|refine xsC ?_ ?_);all_goals (intro hc;have hp:=hc;try simp at hp;try (exfalso;omega)))|refine qO ?_ ?_)
  all_goals try (exfalso;omega)
  all_goals first
   | (apply jL
      rfl
      refine Eq.trans ?_ (hte ?_)<;>(clear hte hnx;simp_all)<;>(try omega)
      done)
   | (refine ⟨l.length - (i + 1),_,by omega,qv (ts:=[(0,qb l),(3,.v (.int .i64 ((i + 1:Nat):Int)))]) ?_,i + 1,by omega,rfl,hnx (by clear hte;simp_all;try omega),rfl⟩;((repeat (first|exact qg|refine qn ?_|refine qS ?_ ?_))))
 obtain rfl:i = l.length:=by omega
 have hz:j3 xg l = 0:=vA.2 (fun s hs=>hsofar s (by rw [List.take_length];exact hs))
 clear hsofar
 repeat' (first|refine qm ?_|fail|((first|refine qd ?_ ?_|refine qc ?_ ?_|refine xsC ?_ ?_);all_goals (intro hc;have hp:=hc;try simp at hp;try (exfalso;omega)))|refine qO ?_ ?_)
 all_goals try (exfalso;omega)
 (refine Awp.red (qv (ts:=[(0,qb l),(5,.v (.int .i64 ((0 + 1:Nat):Int)))]) ?_) ?_;((repeat (first|exact qg|refine qn ?_|refine qS ?_ ?_))))
 refine qP (fun n σ => ∃ i:Nat,i ≤ (l.drop 1).length ∧ n = (l.drop 1).length - i ∧ (∀ (k:Nat) (h:k + 1 < l.length),k < i → jr (l[k]'(by omega)) l[k + 1] = true) ∧ σ = ⟨[(0,qb l),(5,.v (.int .i64 ((i + 1:Nat):Int)))],[],C.nh⟩) (l.drop 1).length ⟨0,Nat.zero_le _,rfl,(fun k h hk=>absurd hk (Nat.not_lt_zero _)),rfl⟩ ?_
 have hdl:(l.drop 1).length = l.length - 1:=by simp
 rintro n σ ⟨i,hi,rfl,hsofar,rfl⟩
 by_cases hlt:i + 1 < l.length
 ·have hr:=js (f:=Ent.row) hlt
  have hr':=js (f:=Ent.row) (l:=l) (i:=i) (by omega)
  have hle:=qbP l[i] l[i + 1]
  repeat' (first|refine qm ?_|fail|((first|refine qd ?_ ?_|refine qc ?_ ?_|refine xsC ?_ ?_);all_goals (intro hc;have hp:=hc;try simp at hp;try (exfalso;omega)))|refine qO ?_ ?_)
  all_goals try (exfalso;omega)
  ·have hrf:¬ q4 jr l = true:=fun h=>by
    have:=zO.1 h i hlt
    simp_all
   apply jL
   rfl
   simp [qD,h60,hz,hrf]
  ·have hok:jr l[i] l[i + 1] = true:=(by simp_all)
   refine ⟨(l.drop 1).length - (i + 1),_,by omega,qv (ts:=[(0,qb l),(5,.v (.int .i64 ((i + 1 + 1:Nat):Int)))]) ?_,i + 1,by omega,rfl,(fun k h hk=>by
    by_cases e:k = i
    ·subst e;exact hok
    ·exact hsofar k h (by omega)),rfl⟩;((repeat (first|exact qg|refine qn ?_|refine qS ?_ ?_)))
 have hrise:q4 jr l = true:=zO.2 fun k h=>hsofar k h (by simp at hi;omega)
 clear hsofar
 repeat' (first|refine qm ?_|fail|((first|refine qd ?_ ?_|refine qc ?_ ?_|refine xsC ?_ ?_);all_goals (intro hc;have hp:=hc;try simp at hp;try (exfalso;omega)))|refine qO ?_ ?_)
 all_goals try (exfalso;omega)
 (refine Awp.red (qv (ts:=[(0,qb l),(6,.v (.int .i64 ((0:Nat):Int)))]) ?_) ?_;((repeat (first|exact qg|refine qn ?_|refine qS ?_ ?_))))
 refine qP (fun n σ => ∃ i:Nat,i ≤ l.length ∧ n = l.length - i ∧ (∀ g,g ∈ l.take i → ¬ yE l g = 5) ∧ σ = ⟨[(0,qb l),(6,.v (.int .i64 (i:Int)))],[],C.nh⟩) l.length ⟨0,Nat.zero_le _,rfl,(by simp),rfl⟩ ?_
 rintro n σ ⟨i,hi,rfl,hsofar,rfl⟩
 by_cases hlt:i < l.length
 ·have hr:=js (f:=Ent.row) hlt
  have hsm:=hl.each l[i] (List.getElem_mem _)
  have hpo:=yC l[i].path (by have:=hsm.1;omega)
  have hif:yO C.P 66 [qb l,.v (str (qG l[i].path))] (.v (.int .i64 (yE l l[i]))):=vR l (qG l[i].path) hl.len
  have hnx:=fun h=>jU (p:=fun g => ¬ yE l g = 5) hlt hsofar h
  have hany:yE l l[i] = 5 → l.any (fun x=>decide (yE l x = 5)) = true:=fun h=>List.any_eq_true.2 ⟨l[i],List.getElem_mem _,by simp [h]⟩
  generalize yE l l[i] = E at hif hnx hany
  repeat' (first|refine qm ?_|(first|refine jc Tryz.func67 (hpo ..) ?_|refine jc Tryz.func66 (hif ..) ?_)|((first|refine qd ?_ ?_|refine qc ?_ ?_|refine xsC ?_ ?_);all_goals (intro hc;have hp:=hc;try simp at hp;try (exfalso;omega)))|refine qO ?_ ?_)
  all_goals try (exfalso;omega)
  ·have hany:=hany (by assumption)
   apply jL
   rfl
   simp [qD,h60,hz,hrise,hany]
  ·refine ⟨l.length - (i + 1),_,by omega,qv (ts:=[(0,qb l),(6,.v (.int .i64 ((i + 1:Nat):Int)))]) ?_,i + 1,by omega,rfl,hnx (by assumption),rfl⟩;((repeat (first|exact qg|refine qn ?_|refine qS ?_ ?_)))
 obtain rfl:i = l.length:=by omega
 rw [List.take_length] at *
 have hno:¬ l.any (fun x=>decide (yE l x = 5)) = true:=fun h=>by
  obtain ⟨x,hx,hk⟩:=List.any_eq_true.1 h
  exact hsofar x hx (by simpa using hk)
 have hE:qD l = if l.any (fun x=>decide (¬ yE l x = 0)) = true then 4 else 0:=by
  unfold qD
  rw [if_neg h60,if_pos hz,if_pos hrise,if_neg hno]
 clear hsofar
 repeat' (first|refine qm ?_|fail|((first|refine qd ?_ ?_|refine qc ?_ ?_|refine xsC ?_ ?_);all_goals (intro hc;have hp:=hc;try simp at hp;try (exfalso;omega)))|refine qO ?_ ?_)
 all_goals try (exfalso;omega)
 (refine Awp.red (qv (ts:=[(0,qb l),(7,.v (.int .i64 ((0:Nat):Int)))]) ?_) ?_;((repeat (first|exact qg|refine qn ?_|refine qS ?_ ?_))))
 refine qP (fun n σ => ∃ i:Nat,i ≤ l.length ∧ n = l.length - i ∧ (∀ g,g ∈ l.take i → yE l g = 0) ∧ σ = ⟨[(0,qb l),(7,.v (.int .i64 (i:Int)))],[],C.nh⟩) l.length ⟨0,Nat.zero_le _,rfl,(by simp),rfl⟩ ?_
 rintro n σ ⟨i,hi,rfl,hsofar,rfl⟩
 by_cases hlt:i < l.length
 ·have hr:=js (f:=Ent.row) hlt
  have hsm:=hl.each l[i] (List.getElem_mem _)
  have hpo:=yC l[i].path (by have:=hsm.1;omega)
  have hif:yO C.P 66 [qb l,.v (str (qG l[i].path))] (.v (.int .i64 (yE l l[i]))):=vR l (qG l[i].path) hl.len
  have hnx:=fun h=>jU (p:=fun g=>yE l g = 0) hlt hsofar h
  have hany:¬ yE l l[i] = 0 → l.any (fun x=>decide (¬ yE l x = 0)) = true:=fun h=>List.any_eq_true.2 ⟨l[i],List.getElem_mem _,by simp [h]⟩
  generalize yE l l[i] = E at hif hnx hany
  repeat' (first|refine qm ?_|(first|refine jc Tryz.func67 (hpo ..) ?_|refine jc Tryz.func66 (hif ..) ?_)|((first|refine qd ?_ ?_|refine qc ?_ ?_|refine xsC ?_ ?_);all_goals (intro hc;have hp:=hc;try simp at hp;try (exfalso;omega)))|refine qO ?_ ?_)
  all_goals try (exfalso;omega)
  ·have hany:=hany (by assumption)
   apply jL
   rfl
   rw [hE,if_pos hany]
  ·refine ⟨l.length - (i + 1),_,by omega,qv (ts:=[(0,qb l),(7,.v (.int .i64 ((i + 1:Nat):Int)))]) ?_,i + 1,by omega,rfl,hnx (by assumption),rfl⟩;((repeat (first|exact qg|refine qn ?_|refine qS ?_ ?_)))
 obtain rfl:i = l.length:=by omega
 rw [List.take_length] at *
 have hno:¬ l.any (fun x=>decide (¬ yE l x = 0)) = true:=fun h=>by
  obtain ⟨x,hx,hk⟩:=List.any_eq_true.1 h
  simp at hk
  exact hk (hsofar x hx)
 repeat' (first|refine qm ?_|fail|((first|refine qd ?_ ?_|refine qc ?_ ?_|refine xsC ?_ ?_);all_goals (intro hc;have hp:=hc;try simp at hp;try (exfalso;omega)))|refine qO ?_ ?_)
 all_goals try (exfalso;omega)
 apply jL
 rfl
 rw [hE,if_neg hno]
end Go.Proofs.YtnhpclmbhbblbaaGreatDoor
set_option linter.unusedSimpArgs false
set_option linter.unnecessarySimpa false
set_option linter.unusedVariables false
set_option maxHeartbeats 1000000
namespace Go.Proofs.YtnhpclmbhbblbaaGreatDoor
open Go.Ab Go.RowKit
set_option maxRecDepth 10000
attribute [local irreducible] Awp yl jE jl Red qX Go.Ab.Fin qW Rz vl jj ji ResOk jV jz yb jv
def kt (c:Chg):Int:=if (¬ c.kind = 3 ∧ ¬ c.to = []) ∨ (¬ c.kind = 2 ∧ ¬ c.text = []) then 1 else if 300 < c.text.length then 2 else if c.base < -1 ∨ 1000000 < c.base then 3 else 0
def yD (c:Chg):Int :=
 if c.kind < 1 ∨ 4 < c.kind then 7
 else if ¬ qy c.path = 0 then qy c.path
 else if c.kind = 3 ∧ ¬ qy c.to = 0 then qy c.to
 else kt c
theorem qgj (c:Chg) (hc:c.small):yO C.P 95 [.agg c.row] (.v (.int .i64 (yD c))):=by
 obtain ⟨h1,h2,h3⟩:=hc
 have hpp:=Vw c.path (by omega)
 have ht:=Vw c.to (by omega)
 have hR:kt c = if (¬ c.kind = 3 ∧ ¬ c.to = []) ∨ (¬ c.kind = 2 ∧ ¬ c.text = []) then 1 else if 300 < c.text.length then 2 else if c.base < -1 ∨ 1000000 < c.base then 3 else 0:=rfl
 have hE:yD c = if c.kind < 1 ∨ 4 < c.kind then 7 else if ¬ qy c.path = 0 then qy c.path else if c.kind = 3 ∧ ¬ qy c.to = 0 then qy c.to else kt c:=rfl
 generalize yD c = E at *
 generalize kt c = R at *
 generalize qy c.path = F at *
 generalize qy c.to = G at *
 refine qa Tryz.func95 rfl _ Tryz.ntmps95 (Nat.le_of_ble_eq_true rfl) _ Tryz.results95 0 rfl rfl ?_
 repeat' (first|refine qm ?_|(first|refine jc Tryz.func119 (hpp ..) ?_|refine jc Tryz.func119 (ht ..) ?_)|((first|refine qd ?_ ?_|refine qc ?_ ?_|refine xsC ?_ ?_);all_goals (intro hc;have hp:=hc;try simp at hp;try (exfalso;omega)))|refine qO ?_ ?_)
 all_goals try (exfalso;omega)
 all_goals (apply jL;rfl)
 all_goals (rw [hE])
 all_goals first
  | (rw [if_pos (by omega)];done)
  | (rw [if_neg (by omega)]
     first
     | (rw [if_pos (by assumption)];done)
     | (rw [if_neg (by omega)]
        first
        | (rw [if_pos ⟨by assumption,by assumption⟩];done)
        | (rw [if_neg (by rintro ⟨_,_⟩;simp_all),hR]
           first
           | (rw [if_pos (by simp_all)];done)
           | (rw [if_neg (by simp_all)]
              first
              | (rw [if_pos (by omega)];done)
              | (rw [if_neg (by omega)]
                 first
                 | (rw [if_pos (by omega)];done)
                 | (rw [if_neg (by omega)];done))))))
theorem vq (c:Chg) (hc:c.small):yO C.P 125 [.agg c.row] (.v (.int .i64 (yD c))):=by
 obtain ⟨h1,h2,h3⟩:=hc
 have hpp:=Q6 c.path (by omega)
 have ht:=Q6 c.to (by omega)
 have hR:kt c = if (¬ c.kind = 3 ∧ ¬ c.to = []) ∨ (¬ c.kind = 2 ∧ ¬ c.text = []) then 1 else if 300 < c.text.length then 2 else if c.base < -1 ∨ 1000000 < c.base then 3 else 0:=rfl
 have hE:yD c = if c.kind < 1 ∨ 4 < c.kind then 7 else if ¬ qy c.path = 0 then qy c.path else if c.kind = 3 ∧ ¬ qy c.to = 0 then qy c.to else kt c:=rfl
 generalize yD c = E at *
 generalize kt c = R at *
 generalize qy c.path = F at *
 generalize qy c.to = G at *
 refine qa Tryz.func125 rfl _ Tryz.ntmps125 (Nat.le_of_ble_eq_true rfl) _ Tryz.results125 0 rfl rfl ?_
 repeat' (first|refine qm ?_|(first|refine jc Tryz.func64 (hpp ..) ?_|refine jc Tryz.func64 (ht ..) ?_)|((first|refine qd ?_ ?_|refine qc ?_ ?_|refine xsC ?_ ?_);all_goals (intro hc;have hp:=hc;try simp at hp;try (exfalso;omega)))|refine qO ?_ ?_)
 all_goals try (exfalso;omega)
 all_goals (apply jL;rfl)
 all_goals (rw [hE])
 all_goals first
  | (rw [if_pos (by omega)];done)
  | (rw [if_neg (by omega)]
     first
     | (rw [if_pos (by assumption)];done)
     | (rw [if_neg (by omega)]
        first
        | (rw [if_pos ⟨by assumption,by assumption⟩];done)
        | (rw [if_neg (by rintro ⟨_,_⟩;simp_all),hR]
           first
           | (rw [if_pos (by simp_all)];done)
           | (rw [if_neg (by simp_all)]
              first
              | (rw [if_pos (by omega)];done)
              | (rw [if_neg (by omega)]
                 first
                 | (rw [if_pos (by omega)];done)
                 | (rw [if_neg (by omega)];done))))))
end Go.Proofs.YtnhpclmbhbblbaaGreatDoor
