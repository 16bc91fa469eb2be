import Derived.Test.YtnhpclmbhbblbaaGreatDoorMz10
import Derived.Test.YtnhpclmbhbblbaaGreatDoorMz2
set_option linter.unusedSimpArgs false
set_option linter.unnecessarySimpa false
set_option maxHeartbeats 1000000
namespace Go.Proofs.YtnhpclmbhbblbaaGreatDoor
open Go.Ab Go.RowKit
set_option maxRecDepth 10000
attribute [local irreducible] Awp jW jh jn Red qD Go.Ab.Fin qI Rz x4 ji jf ResOk jQ jq yl jg
theorem qaT (a b:Ent):(Op.bytesLess b.path a.path || decide (b.path = a.path)) = !jj a b:=by
 unfold jj
 rcases zw a.path b.path with ⟨h1,h2,h3⟩|⟨h1,h2,h3⟩|⟨h1,h2,h3⟩
 ·have h4:¬ b.path = a.path:=fun e=>h3 e.symm
  simp [h1,h2,h4]
 ·simp [h1,vV]
 ·simp [h1,h2]
theorem V3 {t:List Ent} (h60:¬ 60 < t.length) {k:Nat} (hk:k < t.length) (hs : ∀ g,g ∈ t.take k → yP g = 0) (h0:yP t[k] ≠ 0):yP t[k] = qA t:=by
 have h1:=Q0 hk hs h0
 have hz:¬ jB yP t = 0:=by rw [h1];exact h0
 simp only [qA,h60,hz,if_false]
 rw [h1]
theorem X5 (l:List Ent) (hl:EBig l):x6 C.P 76 [qo l] (.v (.int .i64 (qA l))):=by
 have hll:=hl.len
 refine qa Tryz.func76 rfl _ Tryz.ntmps76 (Nat.le_of_ble_eq_true rfl) _ Tryz.results76 0 rfl rfl ?_
 repeat' (first|refine qu ?_|fail|((first|refine xsC ?_ ?_);all_goals (intro hc;have hp:=hc;try simp at hp;try (exfalso;omega)))|refine jc ?_ ?_)
 ·apply jV
  rfl
  have h60:60 < l.length:=by omega
  simp [qA,h60]
 have h60:¬ 60 < l.length:=by omega
 (refine Awp.red (jt (ts:=[(0,qo l),(15,qo l),(16,.v (.int .i64 l.length)),(17,.v (.int .i64 ((0:Nat):Int)))]) ?_) ?_;((repeat (first|exact qp|refine qE ?_|refine ju ?_ ?_))))
 all_goals try (rw [List.length_map];done)
 refine jr (fun n σ => ∃ i:Nat,i ≤ l.length ∧ n = l.length - i ∧ (∀ g,g ∈ l.take i → yP g = 0) ∧ σ = ⟨[(0,qo l),(15,qo l),(16,.v (.int .i64 l.length)),(17,.v (.int .i64 (i:Int)))],[],C.nh⟩) l.length ⟨0,Nat.zero_le _,rfl,(by simp),rfl⟩ ?_
 rintro n σ ⟨i,hi,rfl,hsofar,rfl⟩
 by_cases hlt:i < l.length
 ·have hr:=yA (f:=Ent.row) hlt
  have hsm:=hl.each l[i] (List.getElem_mem _)
  have hce:=Xe l[i] hsm
  repeat' (first|refine qu ?_|(first|refine yY Tryz.func98 (hce ..) ?_)|((first|refine xsC ?_ ?_);all_goals (intro hc;have hp:=hc;try simp at hp;try (exfalso;omega)))|refine jc ?_ ?_)
  all_goals try (exfalso;omega)
  ·apply jV
   rfl
   exact V3 h60 hlt hsofar (by assumption)
  ·refine ⟨l.length - (i + 1),_,by omega,jt (ts:=[(0,qo l),(15,qo l),(16,.v (.int .i64 l.length)),(17,.v (.int .i64 ((i + 1:Nat):Int)))]) ?_,i + 1,by omega,rfl,xw hlt hsofar (by assumption),rfl⟩;((repeat (first|exact qp|refine qE ?_|refine ju ?_ ?_)))
 obtain rfl:i = l.length:=by omega
 have hz:jB yP l = 0:=xR.2 (fun s hs=>hsofar s (by rw [List.take_length];exact hs))
 clear hsofar
 repeat' (first|refine qu ?_|fail|((first|refine xsC ?_ ?_);all_goals (intro hc;have hp:=hc;try simp at hp;try (exfalso;omega)))|refine jc ?_ ?_)
 all_goals try (exfalso;omega)
 (refine Awp.red (jt (ts:=[(0,qo l),(6,.v (.int .i64 ((0 + 1:Nat):Int)))]) ?_) ?_;((repeat (first|exact qp|refine qE ?_|refine ju ?_ ?_))))
 refine jr (fun n σ => ∃ i:Nat,i ≤ (l.drop 1).length ∧ n = (l.drop 1).length - i ∧ (∀ (k:Nat) (h:k + 1 < l.length),k < i → jj (l[k]'(by omega)) l[k + 1] = true) ∧ σ = ⟨[(0,qo l),(6,.v (.int .i64 ((i + 1:Nat):Int)))],[],C.nh⟩) (l.drop 1).length ⟨0,Nat.zero_le _,rfl,(fun k h hk=>absurd hk (Nat.not_lt_zero _)),rfl⟩ ?_
 have hdl:(l.drop 1).length = l.length - 1:=by simp
 rintro n σ ⟨i,hi,rfl,hsofar,rfl⟩
 by_cases hlt:i + 1 < l.length
 ·have hr:=yA (f:=Ent.row) hlt
  have hr':=yA (f:=Ent.row) (l:=l) (i:=i) (by omega)
  have hle:=qaT l[i] l[i + 1]
  repeat' (first|refine qu ?_|fail|((first|refine xsC ?_ ?_);all_goals (intro hc;have hp:=hc;try simp at hp;try (exfalso;omega)))|refine jc ?_ ?_)
  all_goals try (exfalso;omega)
  ·have hrf:¬ qS jj l = true:=fun h=>by
    have:=zb.1 h i hlt
    simp_all
   apply jV
   rfl
   simp [qA,h60,hz,hrf]
  ·have hok:jj l[i] l[i + 1] = true:=(by simp_all)
   refine ⟨(l.drop 1).length - (i + 1),_,by omega,jt (ts:=[(0,qo l),(6,.v (.int .i64 ((i + 1 + 1:Nat):Int)))]) ?_,i + 1,by omega,rfl,(fun k h hk=>by
    by_cases e:k = i
    ·subst e;exact hok
    ·exact hsofar k h (by omega)),rfl⟩;((repeat (first|exact qp|refine qE ?_|refine ju ?_ ?_)))
 have hrise:qS jj l = true:=zb.2 fun k h=>hsofar k h (by simp at hi;omega)
 clear hsofar
 repeat' (first|refine qu ?_|fail|((first|refine xsC ?_ ?_);all_goals (intro hc;have hp:=hc;try simp at hp;try (exfalso;omega)))|refine jc ?_ ?_)
 all_goals try (exfalso;omega)
 (refine Awp.red (jt (ts:=[(0,qo l),(7,.v (.int .i64 (if (l.take 0).any (fun x=>decide (¬ y2 l x = 0)) = true then 4 else 0))),(45,qo l),(46,.v (.int .i64 l.length)),(47,.v (.int .i64 ((0:Nat):Int)))]) ?_) ?_;((repeat (first|exact qp|refine qE ?_|refine ju ?_ ?_))))
 all_goals try (rw [List.length_map];done)
 refine jr (fun n σ => ∃ i:Nat,i ≤ l.length ∧ n = l.length - i ∧ (∀ g,g ∈ l.take i → ¬ y2 l g = 5) ∧ σ = ⟨[(0,qo l),(7,.v (.int .i64 (if (l.take i).any (fun x=>decide (¬ y2 l x = 0)) = true then 4 else 0))),(45,qo l),(46,.v (.int .i64 l.length)),(47,.v (.int .i64 (i:Int)))],[],C.nh⟩) l.length ⟨0,Nat.zero_le _,rfl,(by simp),rfl⟩ ?_
 rintro n σ ⟨i,hi,rfl,hsofar,rfl⟩
 by_cases hlt:i < l.length
 ·have hr:=yA (f:=Ent.row) hlt
  have hsm:=hl.each l[i] (List.getElem_mem _)
  have hpa:=YI l l[i].path hl.len hrise (by have:=hsm.1;omega)
  have hpe:y2 l l[i] = _:=Yg l l[i].path
  have htk:=List.take_succ_eq_append_getElem hlt
  generalize kL l l[i].path = ok at hpa hpe
  generalize v7 l l[i].path = pe at hpa hpe
  repeat' (first|refine qu ?_|(first|refine xP Tryz.func99 (hpa ..) ?_)|((first|refine xsC ?_ ?_);all_goals (intro hc;have hp:=hc;try simp at hp;try (exfalso;omega)))|refine jc ?_ ?_)
  all_goals try (exfalso;omega)
  ·have h5:y2 l l[i] = 5:=(by rw [hpe];simp_all)
   have hany:l.any (fun x=>decide (y2 l x = 5)) = true:=List.any_eq_true.2 ⟨l[i],List.getElem_mem _,by simp [h5]⟩
   apply jV
   rfl
   simp [qA,h60,hz,hrise,hany]
  ·have h4:y2 l l[i] = 4:=(by rw [hpe];simp_all)
   refine ⟨l.length - (i + 1),_,by omega,jt (ts:=[(0,qo l),(7,.v (.int .i64 (if (l.take (i + 1)).any (fun x=>decide (¬ y2 l x = 0)) = true then 4 else 0))),(45,qo l),(46,.v (.int .i64 l.length)),(47,.v (.int .i64 ((i + 1:Nat):Int)))]) ?_,i + 1,by omega,rfl,xw hlt hsofar (by rw [h4];decide),rfl⟩;((repeat (first|exact qp|refine qE ?_|refine ju ?_ ?_));all_goals (rw [htk,List.any_append];simp [h4]))
  ·have h4:y2 l l[i] = 0:=(by rw [hpe];simp_all)
   refine ⟨l.length - (i + 1),_,by omega,jt (ts:=[(0,qo l),(7,.v (.int .i64 (if (l.take (i + 1)).any (fun x=>decide (¬ y2 l x = 0)) = true then 4 else 0))),(45,qo l),(46,.v (.int .i64 l.length)),(47,.v (.int .i64 ((i + 1:Nat):Int)))]) ?_,i + 1,by omega,rfl,xw hlt hsofar (by rw [h4];decide),rfl⟩;((repeat (first|exact qp|refine qE ?_|refine ju ?_ ?_));all_goals (rw [htk,List.any_append];simp [h4]))
 obtain rfl:i = l.length:=by omega
 rw [List.take_length] at *
 have hno:¬ l.any (fun x=>decide (y2 l x = 5)) = true:=fun h=>by
  obtain ⟨x,hx,hk⟩:=List.any_eq_true.1 h
  exact hsofar x hx (by simpa using hk)
 have hE:qA l = if l.any (fun x=>decide (¬ y2 l x = 0)) = true then 4 else 0:=by
  unfold qA
  rw [if_neg h60,if_pos hz,if_pos hrise,if_neg hno]
 repeat' (first|refine qu ?_|fail|((first|refine xsC ?_ ?_);all_goals (intro hc;have hp:=hc;try simp at hp;try (exfalso;omega)))|refine jc ?_ ?_)
 all_goals try (exfalso;omega)
 apply jV
 rfl
 exact hE.symm
end Go.Proofs.YtnhpclmbhbblbaaGreatDoor
set_option linter.unusedSimpArgs false
set_option linter.unnecessarySimpa false
set_option maxHeartbeats 1000000
namespace Go.Proofs.YtnhpclmbhbblbaaGreatDoor
open Go.Ab Go.RowKit
set_option maxRecDepth 10000
attribute [local irreducible] Awp jW jh jn Red qD Go.Ab.Fin qI Rz x4 ji jf ResOk jQ jq yl jg
def Qv (t:List Ent):List AV:=[qo t]
theorem Kb (ts:List (List Ent)) (hn:ts.length ≤ 1000000) (hs : ∀ t,t ∈ ts → EBig t):x6 C.P 42 [.sl false (ts.map Qv)] (.v (.int .i64 (jB qA ts))):=by
 refine qa Tryz.func42 rfl _ Tryz.ntmps42 (Nat.le_of_ble_eq_true rfl) _ Tryz.results42 0 rfl rfl ?_
 repeat' (first|refine qu ?_|fail|((first|refine xsC ?_ ?_);all_goals (intro hc;have hp:=hc;try simp at hp;try (exfalso;omega)))|refine jc ?_ ?_)
 (refine Awp.red (jt (ts:=[(6,.sl false (ts.map Qv)),(7,.v (.int .i64 ts.length)),(8,.v (.int .i64 ((0:Nat):Int)))]) ?_) ?_;((repeat (first|exact qp|refine qE ?_|refine ju ?_ ?_))))
 all_goals try (rw [List.length_map];done)
 refine jr (fun n σ => ∃ i:Nat,i ≤ ts.length ∧ n = ts.length - i ∧ (∀ t,t ∈ ts.take i → qA t = 0) ∧ σ = ⟨[(6,.sl false (ts.map Qv)),(7,.v (.int .i64 ts.length)),(8,.v (.int .i64 (i:Int)))],[],C.nh⟩) ts.length ⟨0,Nat.zero_le _,rfl,(by simp),rfl⟩ ?_
 rintro n σ ⟨i,hi,rfl,hsofar,rfl⟩
 by_cases hlt:i < ts.length
 ·have hr:=yA (f:=Qv) hlt
  have hct:=X5 ts[i] (hs _ (List.getElem_mem _))
  repeat' (first|refine qu ?_|(first|refine xP Tryz.func76 (hct ..) ?_)|((first|refine xsC ?_ ?_);all_goals (intro hc;have hp:=hc;try simp at hp;try (exfalso;omega)))|refine jc ?_ ?_)
  all_goals try (exfalso;omega)
  ·apply jV
   rfl
   exact (Q0 hlt hsofar (by assumption)).symm
  ·refine ⟨ts.length - (i + 1),_,by omega,jt (ts:=[(6,.sl false (ts.map Qv)),(7,.v (.int .i64 ts.length)),(8,.v (.int .i64 ((i + 1:Nat):Int)))]) ?_,i + 1,by omega,rfl,xw hlt hsofar (by assumption),rfl⟩;((repeat (first|exact qp|refine qE ?_|refine ju ?_ ?_)))
 obtain rfl:i = ts.length:=by omega
 have hz:jB qA ts = 0:=xR.2 (fun s hs=>hsofar s (by rw [List.take_length];exact hs))
 clear hsofar
 repeat' (first|refine qu ?_|fail|((first|refine xsC ?_ ?_);all_goals (intro hc;have hp:=hc;try simp at hp;try (exfalso;omega)))|refine jc ?_ ?_)
 all_goals try (exfalso;omega)
 apply jV
 rfl
 exact hz.symm
theorem JC (l:List Ent) (hl:EBig l):x6 C.P 42 [.sl false [[qo l]]] (.v (.int .i64 (qA l))):=by
 have h:=Kb [l] (by simp) (by simpa using hl)
 rw [show jB qA [l] = qA l from by simp only [jB];split<;>simp_all] at h
 exact h
theorem wN (l:List Ent) (hl:EBig l):x6 C.P 15 [qo l] (.v (.int .i64 (qA l))):=by
 have h:=JC l hl
 refine qa Tryz.func15 rfl _ Tryz.ntmps15 (Nat.le_of_ble_eq_true rfl) _ Tryz.results15 0 rfl rfl ?_
 repeat' (first|refine qu ?_|(first|(refine yu ?_)|refine xP Tryz.func42 (h ..) ?_)|((first|refine xsC ?_ ?_);all_goals (intro hc;have hp:=hc;try simp at hp;try (exfalso;omega)))|refine jc ?_ ?_)
 all_goals (apply jV;rfl;rfl)
theorem Qy (l:List Ent) (p:qx) (hl:l.length ≤ 140737488355328):x6 C.P 34 [qo l,.v (str p)] (.v (.int .i64 (xn (atP p) l))):=by
 refine qa Tryz.func34 rfl _ Tryz.ntmps34 (Nat.le_of_ble_eq_true rfl) _ Tryz.results34 0 rfl rfl ?_
 repeat' (first|refine qu ?_|fail|((first|refine xsC ?_ ?_);all_goals (intro hc;have hp:=hc;try simp at hp;try (exfalso;omega)))|refine jc ?_ ?_)
 (refine Awp.red (jt (ts:=[(0,qo l),(1,.v (str p)),(5,.v (.int .i64 ((0:Nat):Int)))]) ?_) ?_;((repeat (first|exact qp|refine qE ?_|refine ju ?_ ?_))))
 refine jr (fun n σ => ∃ i:Nat,i ≤ l.length ∧ n = l.length - i ∧ (∀ x,x ∈ l.take i → atP p x = false) ∧ σ = ⟨[(0,qo l),(1,.v (str p)),(5,.v (.int .i64 (i:Int)))],[],C.nh⟩) l.length ⟨0,Nat.zero_le _,rfl,(by simp),rfl⟩ ?_
 rintro n σ ⟨i,hi,rfl,hsofar,rfl⟩
 by_cases hlt:i < l.length
 ·have hr:=yA (f:=Ent.row) hlt
  repeat' (first|refine qu ?_|fail|((first|refine xsC ?_ ?_);all_goals (intro hc;have hp:=hc;try simp at hp;try (exfalso;omega)))|refine jc ?_ ?_)
  all_goals try (exfalso;omega)
  ·apply jV
   rfl
   exact (w9 hlt hsofar (by simp_all [atP])).symm
  ·refine ⟨l.length - (i + 1),_,by omega,jt (ts:=[(0,qo l),(1,.v (str p)),(5,.v (.int .i64 ((i + 1:Nat):Int)))]) ?_,i + 1,by omega,rfl,xw hlt hsofar (by simp_all [atP]),rfl⟩;((repeat (first|exact qp|refine qE ?_|refine ju ?_ ?_)))
 obtain rfl:i = l.length:=by omega
 repeat' (first|refine qu ?_|fail|((first|refine xsC ?_ ?_);all_goals (intro hc;have hp:=hc;try simp at hp;try (exfalso;omega)))|refine jc ?_ ?_)
 all_goals try (exfalso;omega)
 apply jV
 rfl
 rw [kb fun x hx=>hsofar x (by rw [List.take_length];exact hx)]
end Go.Proofs.YtnhpclmbhbblbaaGreatDoor
set_option linter.unusedSimpArgs false
set_option linter.unnecessarySimpa false
set_option maxHeartbeats 1000000
namespace Go.Proofs.YtnhpclmbhbblbaaGreatDoor
open Go.Ab Go.RowKit
set_option maxRecDepth 10000
attribute [local irreducible] Awp jW jh jn Red qD Go.Ab.Fin qI Rz x4 ji jf ResOk jQ jq yl jg
end Go.Proofs.YtnhpclmbhbblbaaGreatDoor
set_option linter.unusedSimpArgs false
set_option linter.unnecessarySimpa false
set_option linter.unusedVariables false
set_option maxHeartbeats 1000000
namespace Go.Proofs.YtnhpclmbhbblbaaGreatDoor
open Go.Ab Go.RowKit
set_option maxRecDepth 10000
attribute [local irreducible] Awp jW jh jn Red qD Go.Ab.Fin qI Rz x4 ji jf ResOk jQ jq yl jg
def wQ (c:Chg):Int:=if (¬ c.kind = 3 ∧ ¬ c.to = []) ∨ (¬ c.kind = 2 ∧ ¬ c.text = []) then 1 else if 300 < c.text.length then 2 else if c.base < -1 ∨ 1000000 < c.base then 3 else 0
def x8 (c:Chg):Int :=
 if c.kind < 1 ∨ 4 < c.kind then 7
 else if ¬ qn c.path = 0 then qn c.path
 else if c.kind = 3 ∧ ¬ qn c.to = 0 then qn c.to
 else wQ c
theorem qbi (c:Chg) (hc:c.small):x6 C.P 95 [.agg c.row] (.v (.int .i64 (x8 c))):=by
 obtain ⟨h1,h2,h3⟩:=hc
 have hpp:=JE c.path (by omega)
 have ht:=JE c.to (by omega)
 have hR:wQ c = if (¬ c.kind = 3 ∧ ¬ c.to = []) ∨ (¬ c.kind = 2 ∧ ¬ c.text = []) then 1 else if 300 < c.text.length then 2 else if c.base < -1 ∨ 1000000 < c.base then 3 else 0:=rfl
 have hE:x8 c = if c.kind < 1 ∨ 4 < c.kind then 7 else if ¬ qn c.path = 0 then qn c.path else if c.kind = 3 ∧ ¬ qn c.to = 0 then qn c.to else wQ c:=rfl
 generalize x8 c = E at *
 generalize wQ c = R at *
 generalize qn c.path = F at *
 generalize qn c.to = G at *
 refine qa Tryz.func95 rfl _ Tryz.ntmps95 (Nat.le_of_ble_eq_true rfl) _ Tryz.results95 0 rfl rfl ?_
 repeat' (first|refine qu ?_|(first|refine yY Tryz.func119 (hpp ..) ?_|refine yY Tryz.func119 (ht ..) ?_)|((first|refine qk ?_ ?_|refine qj ?_ ?_|refine xsC ?_ ?_);all_goals (intro hc;have hp:=hc;try simp at hp;try (exfalso;omega)))|refine jc ?_ ?_)
 all_goals try (exfalso;omega)
 all_goals (apply jV;rfl)
 all_goals (rw [hE])
 all_goals first
  | (rw [if_pos (by omega)];done)
  | (rw [if_neg (by omega)]
     first
     | (rw [if_pos (by assumption)];done)
     | (rw [if_neg (by omega)]
        first
        | (rw [if_pos ⟨by assumption,by assumption⟩];done)
        | (rw [if_neg (by rintro ⟨_,_⟩;simp_all),hR]
           first
           | (rw [if_pos (by simp_all)];done)
           | (rw [if_neg (by simp_all)]
              first
              | (rw [if_pos (by omega)];done)
              | (rw [if_neg (by omega)]
                 first
                 | (rw [if_pos (by omega)];done)
                 | (rw [if_neg (by omega)];done))))))
end Go.Proofs.YtnhpclmbhbblbaaGreatDoor
set_option linter.unusedSimpArgs false
set_option linter.unnecessarySimpa false
set_option linter.unusedVariables false
set_option maxHeartbeats 1000000
namespace Go.Proofs.YtnhpclmbhbblbaaGreatDoor
open Go.Ab Go.RowKit
set_option maxRecDepth 10000
attribute [local irreducible] Awp jW jh jn Red qD Go.Ab.Fin qI Rz x4 ji jf ResOk jQ jq yl jg
theorem X9 (p:Ent → Bool) (g:FuncId) (hg:IsFn C.P g) (cap:List AV) (hcap:AV.pure.pureL cap = true) (l:List (Ent)) (hl:l.length ≤ 1000000) (hc : ∀ s,s ∈ l → x6 C.P g ((AV.agg (Ent.row s)) :: cap) (.v (.bool (p s)))) :
  x6 C.P 149 [.sl false (l.map Ent.row),.clo (.func g) [] cap] (.v (.int .i64 (xn p l))):=by
 refine qa Tryz.func149 rfl _ Tryz.ntmps149 (Nat.le_of_ble_eq_true rfl) _ Tryz.results149 0 rfl rfl ?_
 repeat' (first|refine qu ?_|fail|((first|refine xsC ?_ ?_);all_goals (intro hc;have hp:=hc;try simp at hp;try (exfalso;omega)))|refine jc ?_ ?_)
 (refine Awp.red (jt (ts:=[(0,.sl false (l.map Ent.row)),(1,.clo (.func g) [] cap),(7,.v (.int .i64 l.length)),(8,.v (.int .i64 ((0:Nat):Int)))]) ?_) ?_;((repeat (first|exact qp|refine qE ?_|refine ju ?_ ?_))))
 all_goals try (rw [List.length_map];done)
 refine jr (fun n σ => ∃ i:Nat,i ≤ l.length ∧ n = l.length - i ∧ (∀ s,s ∈ l.take i → p s = false) ∧ σ = ⟨[(0,.sl false (l.map Ent.row)),(1,.clo (.func g) [] cap),(7,.v (.int .i64 l.length)),(8,.v (.int .i64 (i:Int)))],[],C.nh⟩) l.length ⟨0,Nat.zero_le _,rfl,(by simp),rfl⟩ ?_
 rintro n σ ⟨i,hi,rfl,hsofar,rfl⟩
 by_cases hlt:i < l.length
 ·have hr:=yA (f:=Ent.row) hlt
  have hci:=hc l[i] (List.getElem_mem _)
  repeat' (first|refine qu ?_|(first|(apply qb;apply wW [];rfl;exact hg;exact hci;(case hz=>exact qT (je rfl) (Yn hcap));(case hfl=>rfl);(case hN=>exact nle rfl)))|((first|refine xsC ?_ ?_);all_goals (intro hc;have hp:=hc;try simp at hp;try (exfalso;omega)))|refine jc ?_ ?_)
  all_goals try (exfalso;omega)
  ·apply jV
   rfl
   exact (w9 hlt hsofar hp).symm
  ·refine ⟨l.length - (i + 1),_,by omega,jt (ts:=[(0,.sl false (l.map Ent.row)),(1,.clo (.func g) [] cap),(7,.v (.int .i64 l.length)),(8,.v (.int .i64 ((i + 1:Nat):Int)))]) ?_,i + 1,by omega,rfl,xw hlt hsofar hp,rfl⟩;((repeat (first|exact qp|refine qE ?_|refine ju ?_ ?_)))
 obtain rfl:i = l.length:=by omega
 repeat' (first|refine qu ?_|fail|((first|refine xsC ?_ ?_);all_goals (intro hc;have hp:=hc;try simp at hp;try (exfalso;omega)))|refine jc ?_ ?_)
 all_goals try (exfalso;omega)
 apply jV
 rfl
 exact (kb fun s hs=>hsofar s (by rw [List.take_length];exact hs)).symm
theorem X7 (p:Ent → Bool) (g:FuncId) (hg:IsFn C.P g) (cap:List AV) (hcap:AV.pure.pureL cap = true) (l:List (Ent)) (hl:l.length ≤ 1000000) (hc : ∀ s,s ∈ l → x6 C.P g ((AV.agg (Ent.row s)) :: cap) (.v (.bool (p s)))) :
  x6 C.P 121 [.sl false (l.map Ent.row),.clo (.func g) [] cap] (.v (.bool (l.any p))):=by
 have hidx:=X9 p g hg cap hcap l hl hc
 refine qa Tryz.func121 rfl _ Tryz.ntmps121 (Nat.le_of_ble_eq_true rfl) _ Tryz.results121 0 rfl rfl ?_
 repeat' (first|refine qu ?_|(first|(apply qb;apply va [];exact xa Tryz.func149 rfl rfl;exact hidx;(case hz=>exact qT (je rfl) (qT (kW hcap) jl));(case hfl=>rfl);(case hN=>exact nle rfl)))|((first|refine xsC ?_ ?_);all_goals (intro hc;have hp:=hc;try simp at hp;try (exfalso;omega)))|refine jc ?_ ?_)
 apply yH
 rfl
 rw [← Ky]
def vh (c:Chg):qx:=if c.kind = 3 then c.to else c.path
def Ye (c:Chg) (x:Ent):Bool:=decide (c.base < x.ver) && inB x.path c.path
def QD (t:List Ent) (p:qx):Bool:=match t.find? (atP p) with|some x=>x.fold|none=>false
def J1 (t:List Ent) (c:Chg):Int:=if c.kind = 1 then (if j9 t c.path = true then 6 else 0) else if c.kind = 2 then (if QD t c.path = true then 4 else 0) else (if j9 t c.path = true then 0 else 5)
def Y2 (t:List Ent) (c:Chg):Int:=if c.kind = 3 then (if inB c.to c.path = true then 3 else if j9 t c.to = true then 6 else 0) else 0
def Qt (t:List Ent) (c:Chg):Int:=if ¬ c.base = -1 ∧ t.any (Ye c) = true then 8 else 0
def zz (t:List Ent) (c:Chg):Int :=
 if ¬ yZ t (qy (vh c)) = 0 then yZ t (qy (vh c))
 else if ¬ J1 t c = 0 then J1 t c
 else if ¬ Y2 t c = 0 then Y2 t c else Qt t c
theorem qbj (x:Ent) (c:Chg) (hc:c.path.length ≤ 140737488355328):x6 C.P 120 [.agg x.row,.fp [c.row] 0 0] (.v (.bool (Ye c x))):=by
 have hin:=Kd x.path c.path hc
 have hE:Ye c x = (decide (c.base < x.ver) && inB x.path c.path):=rfl
 generalize Ye c x = E at *
 generalize inB x.path c.path = I at *
 refine qa Tryz.func120 rfl _ Tryz.ntmps120 (Nat.le_of_ble_eq_true rfl) _ Tryz.results120 0 rfl rfl ?_
 repeat' (first|refine qu ?_|(first|refine yY Tryz.func104 (hin ..) ?_)|((first|refine qk ?_ ?_|refine qj ?_ ?_|refine xsC ?_ ?_);all_goals (intro hc;have hp:=hc;try simp at hp;try (exfalso;omega)))|refine jc ?_ ?_)
 all_goals (apply yH;rfl;rw [hE];simp_all;try (intro _;omega))
theorem qbL (t:List Ent) (c:Chg) (hl:t.length ≤ 1000000) (hs:qS jj t = true) (hcs:c.small):x6 C.P 96 [qo t,.agg c.row] (.v (.int .i64 (zz t c))):=by
 obtain ⟨l1,l2,l3⟩:=hcs
 have hpa:=YI t (vh c) (by omega) hs (by unfold vh;split<;>omega)
 have hfe:=Yg t (vh c)
 have hat:=Ka t c.path (by omega) hs
 have hat2:=Ka t c.to (by omega) hs
 have hin:=Kd c.to c.path (by omega)
 have hcon:=X7 (Ye c) 120 (xa Tryz.func120 rfl rfl) [.fp [c.row] 0 0] rfl t hl (fun x _=>qbj x c (by omega))
 have hE:zz t c = if ¬ yZ t (qy (vh c)) = 0 then yZ t (qy (vh c)) else if ¬ J1 t c = 0 then J1 t c else if ¬ Y2 t c = 0 then Y2 t c else Qt t c:=rfl
 have hI:J1 t c = if c.kind = 1 then (if j9 t c.path = true then 6 else 0) else if c.kind = 2 then (if QD t c.path = true then 4 else 0) else (if j9 t c.path = true then 0 else 5):=rfl
 have hM:Y2 t c = if c.kind = 3 then (if inB c.to c.path = true then 3 else if j9 t c.to = true then 6 else 0) else 0:=rfl
 have hS:Qt t c = if ¬ c.base = -1 ∧ t.any (Ye c) = true then 8 else 0:=rfl
 have hrow:j9 t c.path = true → ∃ hk:yx t c.path < t.length,QD t c.path = t[yx t c.path].fold:=fun h=>by
  obtain ⟨hk,_,hfi,_⟩:=Jn hs h
  exact ⟨hk,by unfold QD;rw [hfi]⟩
 have hnorow:j9 t c.path = false → QD t c.path = false:=fun h=>by
  unfold QD;rw [(QF h).1]
 have hg3:c.kind = 3 → vh c = c.to:=fun h=>by simp [vh,h]
 have hg0:¬ c.kind = 3 → vh c = c.path:=fun h=>by simp [vh,h]
 generalize zz t c = E at *
 generalize J1 t c = I at *
 generalize Y2 t c = Mv at *
 generalize Qt t c = S at *
 generalize t.any (Ye c) = NW at *
 generalize inB c.to c.path = IB at *
 generalize j9 t c.to = HT at *
 generalize yx t c.to = PT at *
 generalize yZ t (qy (vh c)) = FE at *
 generalize kL t (vh c) = OK at *
 generalize v7 t (vh c) = PE at *
 cases hh:j9 t c.path with
 | true =>
   obtain ⟨hk,hfo⟩:=hrow hh
   rw [hh] at hat hI
   rw [hfo] at hI
   have hr:=yA (f:=Ent.row) hk
   clear hrow hnorow
   generalize yx t c.path = k at *
   by_cases k3:c.kind = 3
   ·rw [hg3 k3] at hpa
    refine qa Tryz.func96 rfl _ Tryz.ntmps96 (Nat.le_of_ble_eq_true rfl) _ Tryz.results96 0 rfl rfl ?_
    repeat' (first|refine qu ?_|(first|refine xP Tryz.func99 (hpa ..) ?_|refine xP Tryz.func63 (hat ..) ?_|refine xP Tryz.func63 (hat2 ..) ?_|refine yY Tryz.func104 (hin ..) ?_|(apply qb;apply va ([0]);exact xa Tryz.func121 rfl rfl;exact hcon;(case hz=>(refine qT (je rfl) (qT (yi jl (qT (W6 rfl (by simp) (vB (fun row hrow=>by rw [List.mem_singleton.1 hrow];rfl))) jl)) jl)));(case hfl=>rfl);(case hN=>exact nle rfl)))|((first|refine qk ?_ ?_|refine qj ?_ ?_|refine xsC ?_ ?_);all_goals (intro hc;have hp:=hc;try simp at hp;try (exfalso;omega)))|refine jc ?_ ?_)
    all_goals try (exfalso;omega)
    all_goals (apply jV;rfl;clear hat hat2 hcon hpa hin;simp_all)
   ·rw [hg0 k3] at hpa
    refine qa Tryz.func96 rfl _ Tryz.ntmps96 (Nat.le_of_ble_eq_true rfl) _ Tryz.results96 0 rfl rfl ?_
    repeat' (first|refine qu ?_|(first|refine xP Tryz.func99 (hpa ..) ?_|refine xP Tryz.func63 (hat ..) ?_|refine xP Tryz.func63 (hat2 ..) ?_|refine yY Tryz.func104 (hin ..) ?_|(apply qb;apply va ([0]);exact xa Tryz.func121 rfl rfl;exact hcon;(case hz=>(refine qT (je rfl) (qT (yi jl (qT (W6 rfl (by simp) (vB (fun row hrow=>by rw [List.mem_singleton.1 hrow];rfl))) jl)) jl)));(case hfl=>rfl);(case hN=>exact nle rfl)))|((first|refine qk ?_ ?_|refine qj ?_ ?_|refine xsC ?_ ?_);all_goals (intro hc;have hp:=hc;try simp at hp;try (exfalso;omega)))|refine jc ?_ ?_)
    all_goals try (exfalso;omega)
    all_goals (apply jV;rfl;clear hat hat2 hcon hpa hin;simp_all)
 | false =>
   have hfo:=hnorow hh
   rw [hh] at hat hI
   rw [hfo] at hI
   clear hrow hnorow
   generalize yx t c.path = k at *
   by_cases k3:c.kind = 3
   ·rw [hg3 k3] at hpa
    refine qa Tryz.func96 rfl _ Tryz.ntmps96 (Nat.le_of_ble_eq_true rfl) _ Tryz.results96 0 rfl rfl ?_
    repeat' (first|refine qu ?_|(first|refine xP Tryz.func99 (hpa ..) ?_|refine xP Tryz.func63 (hat ..) ?_|refine xP Tryz.func63 (hat2 ..) ?_|refine yY Tryz.func104 (hin ..) ?_)|((first|refine qk ?_ ?_|refine qj ?_ ?_|refine xsC ?_ ?_);all_goals (intro hc;have hp:=hc;try simp at hp;try (exfalso;omega)))|refine jc ?_ ?_)
    all_goals try (exfalso;omega)
    all_goals (apply jV;rfl;clear hat hat2 hcon hpa hin;simp_all)
   ·rw [hg0 k3] at hpa
    refine qa Tryz.func96 rfl _ Tryz.ntmps96 (Nat.le_of_ble_eq_true rfl) _ Tryz.results96 0 rfl rfl ?_
    repeat' (first|refine qu ?_|(first|refine xP Tryz.func99 (hpa ..) ?_|refine xP Tryz.func63 (hat ..) ?_|refine xP Tryz.func63 (hat2 ..) ?_|refine yY Tryz.func104 (hin ..) ?_|(apply qb;apply va ([0]);exact xa Tryz.func121 rfl rfl;exact hcon;(case hz=>(refine qT (je rfl) (qT (yi jl (qT (W6 rfl (by simp) (vB (fun row hrow=>by rw [List.mem_singleton.1 hrow];rfl))) jl)) jl)));(case hfl=>rfl);(case hN=>exact nle rfl)))|((first|refine qk ?_ ?_|refine qj ?_ ?_|refine xsC ?_ ?_);all_goals (intro hc;have hp:=hc;try simp at hp;try (exfalso;omega)))|refine jc ?_ ?_)
    all_goals try (exfalso;omega)
    all_goals (apply jV;rfl;clear hat hat2 hcon hpa hin;simp_all)
end Go.Proofs.YtnhpclmbhbblbaaGreatDoor
set_option linter.unusedSimpArgs false
set_option linter.unnecessarySimpa false
set_option linter.unusedVariables false
set_option maxHeartbeats 1000000
namespace Go.Proofs.YtnhpclmbhbblbaaGreatDoor
open Go.Ab Go.RowKit
set_option maxRecDepth 10000
attribute [local irreducible] Awp jW jh jn Red qD Go.Ab.Fin qI Rz x4 ji jf ResOk jQ jq yl jg
theorem X6 (l:List Ent) (hl:l.length ≤ 1000000) :
  qI C.P 75 [qo l] [] (.os 0 0 l.length) [.own false 4 (l.map Ent.row)]:=by
 by_cases h0:l = []
 ·subst h0
  refine qa Tryz.func75 rfl _ Tryz.ntmps75 (Nat.le_of_ble_eq_true rfl) _ Tryz.results75 0 rfl rfl ?_
  repeat' (first|refine qu ?_|(first|(refine yu ?_)|(refine WI ?_)|(refine qaX ?_))|((first|refine xsC ?_ ?_);all_goals (intro hc;have hp:=hc;try simp at hp;try (exfalso;omega)))|refine jc ?_ ?_)
  · (refine Xs (C:=C) (Qo (C:=C) 2 4 rfl (Nat.zero_le _)) ?_)
    (refine Z8 (rs:=[.tmp 2]) [(0,0)] 1 ?_;(repeat (first|exact qh|refine xO ?_|refine q7 ?_ ?_));all_goals skip)
  · (refine Z8 (rs:=[.tmp 2]) [(0,0)] 1 ?_;(repeat (first|exact qh|refine xO ?_|refine q7 ?_ ?_));all_goals skip)
 ·refine qa Tryz.func75 rfl _ Tryz.ntmps75 (Nat.le_of_ble_eq_true rfl) _ Tryz.results75 0 rfl rfl ?_
  repeat' (first|refine qu ?_|(first|(refine yu ?_)|(refine WI ?_)|(apply qb;apply Kt;rfl;exact (fun h=>h0 (List.map_eq_nil_iff.1 h));rfl;rfl;(first|exact .inl rfl|exact .inr rfl);exact nle rfl))|((first|refine xsC ?_ ?_);all_goals (intro hc;have hp:=hc;try simp at hp;try (exfalso;omega)))|refine jc ?_ ?_)
  (refine Z8 (rs:=[.tmp 2]) [(0,0)] 1 ?_;(repeat (first|exact qh|refine xO ?_|refine q7 ?_ ?_));all_goals skip)
theorem Va (l:List Ent) (g:Ent) (hl:l.length ≤ 1000000) :
  qI C1.P 150 [.os 0 0 l.length,.v (.int .i64 l.length),.sl false [g.row]] [.own false 4 (l.map Ent.row)] (.os 1 0 (l.length + 1)) [.dead,.own false 4 ((l ++ [g]).map Ent.row)]:=by
 refine qa (C:=C1) Tryz.func150 rfl _ Tryz.ntmps150 (Nat.le_of_ble_eq_true rfl) _ Tryz.results150 1 rfl rfl ?_
 repeat' (first|refine qu ?_|(first|(refine WJ ?_)|(refine v2 ?_))|((first|refine qk ?_ ?_|refine qj ?_ ?_|refine xsC ?_ ?_);all_goals (intro hc;have hp:=hc;try simp at hp;try (exfalso;omega)))|refine jc ?_ ?_)
 (refine Z8 (rs:=[.tmp 6]) [(1,1)] 2 ?_;(apply ya 0;exact qq rfl;(repeat (first|exact qh|refine xO ?_|refine q7 ?_ ?_)));all_goals trace_state)
theorem qaM {α:Type} (R J Z:List α) (x:α) {i a b c d:Nat} (hi:i ≤ R.length) (hJ:J.length = 1 + Z.length) (ha:a = i) (hb:b = i + 1) (hc:c = i + 1) (hd:d = i + 1 + Z.length) :
  ((R.take i ++ J).take a ++ [x] ++ (R.take i ++ J).drop b).take c ++ Z ++ ((R.take i ++ J).take a ++ [x] ++ (R.take i ++ J).drop b).drop d = R.take i ++ ([x] ++ Z):=by
 subst ha;subst hb;subst hc;subst hd
 have h1:(R.take a ++ J).take a = R.take a:=by rw [List.take_append_of_le_length (by simp;omega),List.take_of_length_le (by simp;omega)]
 have h2:(R.take a ++ [x] ++ (R.take a ++ J).drop (a + 1)).take (a + 1) = R.take a ++ [x]:=by
  rw [List.take_append_of_le_length (by simp;omega),List.take_of_length_le (by simp;omega)]
 have h3:(R.take a ++ [x] ++ (R.take a ++ J).drop (a + 1)).drop (a + 1 + Z.length) = []:=List.drop_of_length_le (by simp;omega)
 rw [h1,h2,h3];simp
theorem qbx {α:Type} (R Z:List α) (x:α) {i a b c d m:Nat} (hi:i + 1 ≤ R.length) (ha:a = i + 1) (hc:c = i) (hd:d = i + 1) (hm:m = i + 1 + Z.length) :
  ((R.take a ++ Z ++ R.drop b).take c ++ [x] ++ (R.take a ++ Z ++ R.drop b).drop d).take m = R.take i ++ ([x] ++ Z):=by
 subst ha;subst hc;subst hd;subst hm
 have h1:(R.take (c + 1) ++ Z ++ R.drop b).take c = R.take c:=by
  rw [List.append_assoc,List.take_append_of_le_length (by simp;omega),List.take_take,Nat.min_eq_left (by omega)]
 have h2:(R.take (c + 1) ++ Z ++ R.drop b).drop (c + 1) = Z ++ R.drop b:=by
  rw [List.append_assoc,List.drop_append_of_le_length (by simp;omega),List.drop_of_length_le (by simp;omega),List.nil_append]
 rw [h1,h2, ← List.append_assoc,List.take_append_of_le_length (by simp;omega),List.take_of_length_le (by simp;omega),List.append_assoc]
theorem V8 (l:List Ent) (g:Ent) (i:Nat) (hi:i < l.length) (hl:l.length ≤ 1000000) :
  qI C1.P 150 [.os 0 0 l.length,.v (.int .i64 (i:Int)),.sl false [g.row]] [.own false 4 (l.map Ent.row)] (.os 1 0 (l.length + 1)) [.dead,.own false 4 ((l.take i ++ ([g] ++ l.drop i)).map Ent.row)]:=by
 refine qa (C:=C1) Tryz.func150 rfl _ Tryz.ntmps150 (Nat.le_of_ble_eq_true rfl) _ Tryz.results150 1 rfl rfl ?_
 refine qav 0 4 (l.map Ent.row) rfl fun cap hcap=>?_
 rw [List.length_map] at hcap
 have hRt:(l.map Ent.row ++ vi 4 (cap - (l.map Ent.row).length)).take l.length = l.map Ent.row:=by
  rw [List.take_append_of_le_length (by simp),List.take_of_length_le (by simp)]
 have hRl:l.length ≤ (l.map Ent.row ++ vi 4 (cap - (l.map Ent.row).length)).length:=by simp
 generalize l.map Ent.row ++ vi 4 (cap - (l.map Ent.row).length) = R at hRt hRl ⊢
 have hcut:(R.drop i).take (l.length - i) = (l.drop i).map Ent.row:=by rw [← List.drop_take,hRt,List.map_drop]
 have hti:R.take i = (l.take i).map Ent.row:=by rw [List.map_take, ← hRt,List.take_take,Nat.min_eq_left (by omega)]
 have hck : ∀ row,row ∈ (l.drop i).map Ent.row → row.length = 4:=fun row hr=>by obtain ⟨x,_,rfl⟩:=List.mem_map.1 hr;rfl
 have hcl : ∀ row,row ∈ (l.drop i).map Ent.row → row.all jw = true:=fun row hr=>by obtain ⟨x,_,rfl⟩:=List.mem_map.1 hr;rfl
 repeat' (first|refine qu ?_|(first|(refine WJ ?_)|(apply qb;apply Kp;(case hx=>rfl);(case hn=>rfl);(case hT=>rfl);(case he=>rfl);(case hN=>exact nle rfl))|(apply yJ;apply JQ;(case hx=>rfl);(case hT=>rfl);(case he=>rfl);(case hE=>rfl);(case hn=>rfl);(case hl=>(first|omega|(simp;done)|(simp only [List.length_cons,List.length_nil,List.length_map];omega)|(simp;omega)));(case hy=>exact congrArg (fun z=>AV.v (Value.int IntKind.i64 z)) (show ((l.length + 1:Nat):Int) - (i:Int) = ((l.length + 1 - i:Nat):Int) from by omega));(case hxT=>rfl);(case hxk=>rfl);(case hz=>rfl);(case hs0=>exact Nat.ne_of_beq_eq_false rfl);(case hg=>omega);(case hsz=>(first|omega|(simp;done)|(simp only [List.length_cons,List.length_nil,List.length_map];omega)|(simp;omega)));(case hlen=>(first|omega|(simp;done)|(simp only [List.length_cons,List.length_nil,List.length_map];omega)|(simp;omega)));(case hN=>exact nle rfl))|(apply qb;apply Vl;exact Tryz.func170;(case hname=>rfl);(case hb=>rfl);(case hnx=>rfl);(case hex=>rfl);(case hT=>rfl);(case he=>rfl);(case hE=>rfl);(case hx=>rfl);(case hy=>rfl);(case hm=>rfl);(case hk=>exact Nat.ne_of_beq_eq_false rfl);(case hrw=>intro row hrow;rw [List.mem_singleton.1 hrow];exact Nat.succ_ne_zero _);(case hN=>exact nle rfl))|(apply kK;apply JR;(case hx=>rfl);(case hT=>rfl);(case he=>rfl);(case hE=>rfl);(case hn=>rfl);(case hsrc=>exact qa3 (Jv rfl rfl));(case hmin=>exact Nat.min_eq_left (by (first|omega|(simp;done)|(simp only [List.length_cons,List.length_nil,List.length_map];omega)|(simp;omega))));(case hfit=>(first|omega|(simp;done)|(simp only [List.length_cons,List.length_nil,List.length_map];omega)|(simp;omega)));(case hN=>exact nle rfl))|(apply kK;apply JR;(case hx=>rfl);(case hT=>rfl);(case he=>rfl);(case hE=>rfl);(case hn=>rfl);(case hsrc=>exact W8 (cnt:=l.length - i) rfl (List.mem_singleton.2 rfl) rfl (by omega) (by omega) (by first|exact hcut|simpa using hcut) hck hcl);(case hmin=>(first|exact (Nat.min_eq_left (by (first|omega|(simp;done)|(simp only [List.length_cons,List.length_nil,List.length_map];omega)|(simp;omega)))).trans (by (first|omega|(simp;done)|(simp only [List.length_cons,List.length_nil,List.length_map];omega)|(simp;omega)))|exact (Nat.min_eq_right (by (first|omega|(simp;done)|(simp only [List.length_cons,List.length_nil,List.length_map];omega)|(simp;omega)))).trans (by (first|omega|(simp;done)|(simp only [List.length_cons,List.length_nil,List.length_map];omega)|(simp;omega)))));(case hfit=>(first|omega|(simp;done)|(simp only [List.length_cons,List.length_nil,List.length_map];omega)|(simp;omega)));(case hN=>exact nle rfl)))|((first|refine qk ?_ ?_|refine qj ?_ ?_|refine xsC ?_ ?_);all_goals (intro hc;have hp:=hc;try simp at hp;try (exfalso;omega)))|refine jc ?_ ?_)
 all_goals try (exfalso;omega)
 ·have hrow:=qaM R (vi 4 (l.length + 1 - i)) ((l.drop i).map Ent.row) g.row (i:=i) (a:=0 + i) (b:=0 + i + 1) (c:=0 + (i + 1)) (d:=0 + (i + 1) + ((l.drop i).map Ent.row).length) (by omega) (by simp;omega) (by omega) (by omega) (by omega) (by omega)
  (apply jb (rs:=[.tmp 6]) [(1,1)] 2;(case hr=>(repeat (first|exact qP|(apply qQ;rfl)|(apply qJ;rfl;rfl;rfl;rfl;rfl))));(case hL=>rfl);(case hh=>(apply ya 0;exact qq rfl;(repeat (first|exact qh|refine xO ?_|refine q7 ?_ ?_)));all_goals (refine hrow.trans ?_;rw [hti];simp));(case hi=>first|exact (rfl:_ = ([]:List (Nat × Nat)))|exact (rfl:_ = [((0:Nat),(0:Nat))])|exact (rfl:_ = [((0:Nat),(0:Nat)),(1,1)]));(case hz=>first|rfl|(simp [jx,AV.ren,AV.ren.renL,q4,qr,qZ];done)|(simp [jx,AV.ren,AV.ren.renL,q4,qr,qZ, *];done)|(simp [jx,AV.ren,AV.ren.renL,q4,qr,qZ];omega)))
 ·have hrow:=qbx R ((l.drop i).map Ent.row) g.row (i:=i) (a:=0 + 0 + (i + 1)) (b:=0 + 0 + (i + 1) + ((l.drop i).map Ent.row).length) (c:=0 + 0 + i) (d:=0 + 0 + i + 1) (m:=l.length + 1) (by omega) (by omega) (by omega) (by omega) (by simp;omega)
  have hrow:=hrow.trans (show _ = (l.take i ++ ([g] ++ l.drop i)).map Ent.row from by rw [hti];simp)
  apply w5 (C:=C1) 6 0 (l.length + 1)
  case hi=>rfl
  case hn=>rfl
  case hr=>exact hrow
  case hnn=>exact Nat.ne_of_beq_eq_false rfl
  case hnx=>exact Nat.le_of_ble_eq_true rfl
  (apply jb (rs:=[.tmp 6]) [(1,1)] 2;(case hr=>(repeat (first|exact qP|(apply qQ;rfl)|(apply qJ;rfl;rfl;rfl;rfl;rfl))));(case hL=>rfl);(case hh=>(apply ya 0;exact qq rfl;(repeat (first|exact qh|refine xO ?_|refine q7 ?_ ?_)));all_goals trace_state);(case hi=>first|exact (rfl:_ = ([]:List (Nat × Nat)))|exact (rfl:_ = [((0:Nat),(0:Nat))])|exact (rfl:_ = [((0:Nat),(0:Nat)),(1,1)]));(case hz=>first|rfl|(simp [jx,AV.ren,AV.ren.renL,q4,qr,qZ];done)|(simp [jx,AV.ren,AV.ren.renL,q4,qr,qZ, *];done)|(simp [jx,AV.ren,AV.ren.renL,q4,qr,qZ];omega)))
def js (t:List Ent) (x:Ent):List Ent:=if j9 t x.path = true then t.take (yx t x.path) ++ ([x] ++ t.drop (yx t x.path + 1)) else t.take (yx t x.path) ++ ([x] ++ t.drop (yx t x.path))
theorem Wa (t:List Ent) (x:Ent) (hl:t.length ≤ 1000000) (hs:qS jj t = true) :
  qI C1.P 122 [.os 0 0 t.length,.agg x.row] [.own false 4 (t.map Ent.row)] (.os 1 0 (js t x).length) [.dead,.own false 4 ((js t x).map Ent.row)]:=by
 have hat:=Ka t x.path (by omega) hs
 cases hh:j9 t x.path with
 | true =>
   obtain ⟨hp0, -, -, -⟩:=Jn hs hh
   have hL:js t x = t.take (yx t x.path) ++ ([x] ++ t.drop (yx t x.path + 1)):=by simp [js,hh]
   rw [hh] at hat
   generalize js t x = L at hL ⊢
   generalize yx t x.path = p at hL hp0 hat
   have hlen:L.length = t.length:=by rw [hL];simp;omega
   have hrow:=yA (f:=Ent.row) hp0
   refine qa (C:=C1) Tryz.func122 rfl _ Tryz.ntmps122 (Nat.le_of_ble_eq_true rfl) _ Tryz.results122 1 rfl rfl ?_
   repeat' (first|refine qu ?_|(first|(apply qb;apply va ([0]);exact xa Tryz.func63 rfl rfl;apply hat;(case hz=>(repeat' (first|exact jl|apply qT|exact je rfl|exact xq|(apply x1;(case hn=>rfl);(case hl=>first|with_reducible rfl|(simp;done)|(simp [*];done)|omega);(case hp=>(first|assumption|exact ye rfl|exact jY fun _=>rfl)))|apply yC|apply yi)));(case hfl=>rfl);(case hN=>exact nle rfl))|(refine xC ?_))|((first|refine qk ?_ ?_|refine qj ?_ ?_|refine xsC ?_ ?_);all_goals (intro hc;have hp:=hc;try simp at hp;try (exfalso;omega)))|refine jc ?_ ?_)
   all_goals try (exfalso;omega)
   apply w5 (C:=C1) 4 0 t.length
   case hi=>rfl
   case hn=>rfl
   case hr=>(show ((t.map Ent.row).set p x.row).take t.length = L.map Ent.row;rw [← List.map_set,hL,List.set_eq_take_append_cons_drop,if_pos hp0,List.take_of_length_le (by simp;omega)];rfl)
   case hnn=>exact Nat.ne_of_beq_eq_false rfl
   case hnx=>exact Nat.le_of_ble_eq_true rfl
   (apply jb (rs:=[.tmp 4]) [(2,1)] 2;(case hr=>(repeat (first|exact qP|(apply qQ;rfl)|(apply qJ;rfl;rfl;rfl;rfl;rfl))));(case hL=>rfl);(case hh=>(apply ya 0;exact qq rfl;(repeat (first|exact qh|refine xO ?_|refine q7 ?_ ?_)));all_goals trace_state);(case hi=>first|exact (rfl:_ = ([]:List (Nat × Nat)))|exact (rfl:_ = [((0:Nat),(0:Nat))])|exact (rfl:_ = [((0:Nat),(0:Nat)),(1,1)]));(case hz=>first|rfl|(simp [jx,AV.ren,AV.ren.renL,q4,qr,qZ];done)|(simp [jx,AV.ren,AV.ren.renL,q4,qr,qZ, *];done)|(simp [jx,AV.ren,AV.ren.renL,q4,qr,qZ];omega)))
 | false =>
   have hL:js t x = t.take (yx t x.path) ++ ([x] ++ t.drop (yx t x.path)):=by simp [js,hh]
   have hple:=qa1 t x.path
   rw [hh] at hat
   generalize js t x = L at hL ⊢
   generalize yx t x.path = p at hL hple hat
   have hlen:L.length = t.length + 1:=by rw [hL];simp;omega
   by_cases hp0:p = t.length
   ·have hin:=Va t x hl
    have hL2:L = t ++ [x]:=by rw [hL,hp0];simp
    rw [hp0] at hat
    refine qa (C:=C1) Tryz.func122 rfl _ Tryz.ntmps122 (Nat.le_of_ble_eq_true rfl) _ Tryz.results122 1 rfl rfl ?_
    repeat' (first|refine qu ?_|(first|(apply qb;apply va ([0]);exact xa Tryz.func63 rfl rfl;apply hat;(case hz=>(repeat' (first|exact jl|apply qT|exact je rfl|exact xq|(apply x1;(case hn=>rfl);(case hl=>first|with_reducible rfl|(simp;done)|(simp [*];done)|omega);(case hp=>(first|assumption|exact ye rfl|exact jY fun _=>rfl)))|apply yC|apply yi)));(case hfl=>rfl);(case hN=>exact nle rfl))|(refine xC ?_)|(refine yu ?_)|(apply jm Tryz.func150 rfl rfl;intro hIsFn;refine vJ ([0]) 0 hIsFn (hin ..) ?_))|((first|refine qk ?_ ?_|refine qj ?_ ?_|refine xsC ?_ ?_);all_goals (intro hc;have hp:=hc;try simp at hp;try (exfalso;omega)))|refine jc ?_ ?_)
    all_goals try (exfalso;omega)
    (apply jb (rs:=[.tmp 4]) [(2,1)] 2;(case hr=>(repeat (first|exact qP|(apply qQ;rfl)|(apply qJ;rfl;rfl;rfl;rfl;rfl))));(case hL=>rfl);(case hh=>(apply ya 0;exact qq rfl;(repeat (first|exact qh|refine xO ?_|refine q7 ?_ ?_)));all_goals (rw [hL2]));(case hi=>first|exact (rfl:_ = ([]:List (Nat × Nat)))|exact (rfl:_ = [((0:Nat),(0:Nat))])|exact (rfl:_ = [((0:Nat),(0:Nat)),(1,1)]));(case hz=>first|rfl|(simp [jx,AV.ren,AV.ren.renL,q4,qr,qZ];done)|(simp [jx,AV.ren,AV.ren.renL,q4,qr,qZ, *];done)|(simp [jx,AV.ren,AV.ren.renL,q4,qr,qZ];omega)))
   ·have hin:=V8 t x p (by omega) hl
    refine qa (C:=C1) Tryz.func122 rfl _ Tryz.ntmps122 (Nat.le_of_ble_eq_true rfl) _ Tryz.results122 1 rfl rfl ?_
    repeat' (first|refine qu ?_|(first|(apply qb;apply va ([0]);exact xa Tryz.func63 rfl rfl;apply hat;(case hz=>(repeat' (first|exact jl|apply qT|exact je rfl|exact xq|(apply x1;(case hn=>rfl);(case hl=>first|with_reducible rfl|(simp;done)|(simp [*];done)|omega);(case hp=>(first|assumption|exact ye rfl|exact jY fun _=>rfl)))|apply yC|apply yi)));(case hfl=>rfl);(case hN=>exact nle rfl))|(refine xC ?_)|(refine yu ?_)|(apply jm Tryz.func150 rfl rfl;intro hIsFn;refine vJ ([0]) 0 hIsFn (hin ..) ?_))|((first|refine qk ?_ ?_|refine qj ?_ ?_|refine xsC ?_ ?_);all_goals (intro hc;have hp:=hc;try simp at hp;try (exfalso;omega)))|refine jc ?_ ?_)
    all_goals try (exfalso;omega)
    (apply jb (rs:=[.tmp 4]) [(2,1)] 2;(case hr=>(repeat (first|exact qP|(apply qQ;rfl)|(apply qJ;rfl;rfl;rfl;rfl;rfl))));(case hL=>rfl);(case hh=>(apply ya 0;exact qq rfl;(repeat (first|exact qh|refine xO ?_|refine q7 ?_ ?_)));all_goals (rw [hL]));(case hi=>first|exact (rfl:_ = ([]:List (Nat × Nat)))|exact (rfl:_ = [((0:Nat),(0:Nat))])|exact (rfl:_ = [((0:Nat),(0:Nat)),(1,1)]));(case hz=>first|rfl|(simp [jx,AV.ren,AV.ren.renL,q4,qr,qZ];done)|(simp [jx,AV.ren,AV.ren.renL,q4,qr,qZ, *];done)|(simp [jx,AV.ren,AV.ren.renL,q4,qr,qZ];omega)))
end Go.Proofs.YtnhpclmbhbblbaaGreatDoor
set_option linter.unusedSimpArgs false
set_option linter.unnecessarySimpa false
set_option linter.unusedVariables false
set_option maxHeartbeats 1000000
namespace Go.Proofs.YtnhpclmbhbblbaaGreatDoor
open Go.Ab Go.RowKit
set_option maxRecDepth 10000
attribute [local irreducible] Awp jW jh jn Red qD Go.Ab.Fin qI Rz x4 ji jf ResOk jQ jq yl jg
def yD (p:Ent → Bool) (t:List Ent):List Ent:=t.filter fun x => !p x
theorem J4 {p:Ent → Bool} {t:List Ent} {j:Nat} (h:j < t.length):yD p (t.take (j + 1)) = if p t[j] = true then yD p (t.take j) else yD p (t.take j) ++ [t[j]]:=by
 unfold yD
 rw [List.take_succ_eq_append_getElem h,List.filter_append]
 cases hs:p t[j]<;>simp [hs]
theorem KA (p:Ent → Bool) (t:List Ent) (j:Nat) (hj:j ≤ t.length):(yD p (t.take j)).length ≤ j:=by
 have h1:(yD p (t.take j)).length ≤ (t.take j).length:=List.length_filter_le ..
 simp at h1;omega
theorem Xf (p:Ent → Bool) (g:FuncId) (hg:IsFn C1.P g) (cap:List AV) (hcap:AV.pure.pureL cap = true) (t:List Ent) (hl:t.length ≤ 1000000) (hcf : ∀ s,s ∈ t → x6 C1.P g (AV.agg s.row :: cap) (.v (.bool (p s)))) :
  qI C1.P 151 [.os 0 0 t.length,.clo (.func g) [] cap] [.own false 4 (t.map Ent.row)] (.os 0 0 (yD p t).length) [.own false 4 ((yD p t).map Ent.row)]:=by
 have hidx:=X9 p g hg cap hcap t hl hcf
 refine qa (C:=C1) Tryz.func151 rfl _ Tryz.ntmps151 (Nat.le_of_ble_eq_true rfl) _ Tryz.results151 1 rfl rfl ?_
 rcases vw p t with ⟨h1,h2⟩|⟨k,hk,h1,h2,h3⟩
 ·have hall:yD p t = t:=List.filter_eq_self.2 fun x hx=>by rw [h2 x hx];rfl
  rw [h1] at hidx
  rw [hall]
  repeat' (first|refine qu ?_|(first|(apply qb;apply va ([0]);exact xa Tryz.func149 rfl rfl;exact hidx;(case hz=>(exact qT (x1 rfl (by simp) (jY fun _=>rfl)) (qT (kW hcap) jl)));(case hfl=>rfl);(case hN=>exact nle rfl)))|((first|refine qk ?_ ?_|refine qj ?_ ?_|refine xsC ?_ ?_);all_goals (intro hc;have hp:=hc;try simp at hp;try (exfalso;omega)))|refine jc ?_ ?_)
  all_goals try (exfalso;omega)
  (refine Z8 (rs:=[.tmp 4]) [] 1 ?_;(repeat (first|exact qh|refine xO ?_|refine q7 ?_ ?_));all_goals trace_state)
 ·rw [h1] at hidx
  have hk1:yD p (t.take (k + 1)) = t.take k:=by
   rw [J4 hk,if_pos h3]
   exact List.filter_eq_self.2 fun x hx=>by rw [h2 x hx];rfl
  repeat' (first|refine qu ?_|(first|(apply qb;apply va ([0]);exact xa Tryz.func149 rfl rfl;exact hidx;(case hz=>(exact qT (x1 rfl (by simp) (jY fun _=>rfl)) (qT (kW hcap) jl)));(case hfl=>rfl);(case hN=>exact nle rfl)))|((first|refine qk ?_ ?_|refine qj ?_ ?_|refine xsC ?_ ?_);all_goals (intro hc;have hp:=hc;try simp at hp;try (exfalso;omega)))|refine jc ?_ ?_)
  all_goals try (exfalso;omega)
  (refine Awp.red (qN (τ:=⟨[(0,.os 0 0 t.length),(1,.clo (.func g) [] cap),(5,.v (.int .i64 (k:Int))),(6,.v (.int .i64 ((k:Int) + 1)))],[(0,.own false 4 (t.map Ent.row))],1⟩) [] rfl ?gts ?ghs) ?gmain;(case gts=>(repeat (first|exact qp|refine qE ?_|refine yq ?_|refine QI ?_|refine ju ?_ ?_)));(case ghs=>(repeat (first|exact qh|refine xO ?_|refine q7 ?_ ?_))))
  refine jr (C:=C1) (fun n σ => ∃ (j:Nat) (E:List Ent),k + 1 ≤ j ∧ j ≤ t.length ∧ n = t.length - j ∧ E.length = t.length ∧ E.take (yD p (t.take j)).length = yD p (t.take j) ∧ E.drop j = t.drop j ∧ σ = ⟨[(0,.os 0 0 t.length),(1,.clo (.func g) [] cap),(5,.v (.int .i64 ((yD p (t.take j)).length:Int))),(6,.v (.int .i64 (j:Int)))],[(0,.own false 4 (E.map Ent.row))],1⟩) (t.length - (k + 1)) ⟨k + 1,t,Nat.le_refl _,hk,rfl,rfl,(by rw [hk1];simp),rfl,?_⟩ ?_
  ·have htl:(t.take k).length = k:=by simp;omega
   rw [hk1,htl];rfl
  rintro n σ ⟨j,E,hkj,hj,rfl,hEl,hEt,hEd,rfl⟩
  have hil:=KA p t j hj
  by_cases hlt:j < t.length
  ·have hej:E[j]'(by omega) = t[j]:=by
    have h:=congrArg (fun l=>l[0]?) hEd
    simp only [List.getElem?_drop,Nat.add_zero] at h
    rw [List.getElem?_eq_getElem (by omega),List.getElem?_eq_getElem hlt] at h
    exact Option.some.inj h
   have hr:=yA (f:=Ent.row) (l:=E) (i:=j) (by omega)
   rw [hej] at hr
   have hci:=hcf t[j] (List.getElem_mem _)
   have hks := @J4 p t j hlt
   have hEd2:E.drop (j + 1) = t.drop (j + 1):=by rw [← List.drop_drop,hEd,List.drop_drop]
   have hml:(E.map Ent.row).length = E.length:=List.length_map ..
   have hrw : ∀ i:Nat,i < E.length → (E.map Ent.row)[i]? = some (E[i]?.getD t[j]).row:=fun i hi=>by
    rw [List.getElem?_map,List.getElem?_eq_getElem hi];rfl
   have hri:=hrw (yD p (t.take j)).length (by omega)
   generalize hI:(yD p (t.take j)).length = i at *
   generalize p t[j] = P at *
   cases P with
   | true =>
     rw [if_pos rfl] at hks
     repeat' (first|refine qu ?_|(first|(refine xC ?_)|(apply qb;apply wW [];rfl;exact hg;exact hci;(case hz=>exact qT (je rfl) (Yn hcap));(case hfl=>rfl);(case hN=>exact nle rfl)))|((first|refine qk ?_ ?_|refine qj ?_ ?_|refine xsC ?_ ?_);all_goals (intro hc;have hp:=hc;try simp at hp;try (exfalso;omega)))|refine jc ?_ ?_)
     all_goals try (exfalso;omega)
     refine ⟨t.length - (j + 1),_,by omega,qN (τ:=⟨[(0,.os 0 0 t.length),(1,.clo (.func g) [] cap),(5,.v (.int .i64 ((yD p (t.take (j + 1))).length:Int))),(6,.v (.int .i64 ((j + 1:Nat):Int)))],[(0,.own false 4 (List.map Ent.row E))],1⟩) [] rfl ?gts ?ghs,j + 1,E,by omega,by omega,rfl,hEl,(by rw [hks,hI];exact hEt),hEd2,rfl⟩;(case gts=>(repeat (first|exact qp|refine qE ?_|refine yq ?_|refine QI ?_|refine ju ?_ ?_));all_goals (rw [hks,hI]));(case ghs=>(repeat (first|exact qh|refine xO ?_|refine q7 ?_ ?_));all_goals skip)
   | false =>
     rw [if_neg (by decide)] at hks
     have hlen1:(yD p (t.take (j + 1))).length = i + 1:=by rw [hks,List.length_append,hI];rfl
     have hset:(E.set i t[j]).take (i + 1) = yD p (t.take (j + 1)):=by
      rw [hks,List.take_set, ← hEt,List.take_succ_eq_append_getElem (by omega)]
      rw [List.set_append_right _ _ (by simp;omega)]
      simp [show i - min i E.length = 0 from by omega]
     have hdr:(E.set i t[j]).drop (j + 1) = t.drop (j + 1):=by rw [List.drop_set_of_lt (by omega)];exact hEd2
     repeat' (first|refine qu ?_|(first|(refine xC ?_)|(apply qb;apply wW [];rfl;exact hg;exact hci;(case hz=>exact qT (je rfl) (Yn hcap));(case hfl=>rfl);(case hN=>exact nle rfl)))|((first|refine qk ?_ ?_|refine qj ?_ ?_|refine xsC ?_ ?_);all_goals (intro hc;have hp:=hc;try simp at hp;try (exfalso;omega)))|refine jc ?_ ?_)
     all_goals try (exfalso;omega)
     refine ⟨t.length - (j + 1),_,by omega,qN (τ:=⟨[(0,.os 0 0 t.length),(1,.clo (.func g) [] cap),(5,.v (.int .i64 ((yD p (t.take (j + 1))).length:Int))),(6,.v (.int .i64 ((j + 1:Nat):Int)))],[(0,.own false 4 (List.map Ent.row (E.set i t[j])))],1⟩) [] rfl ?gts ?ghs,j + 1,(E.set i t[j]),by omega,by omega,rfl,(by rw [List.length_set];exact hEl),(by rw [hlen1];exact hset),hdr,rfl⟩;(case gts=>(repeat (first|exact qp|refine qE ?_|refine yq ?_|refine QI ?_|refine ju ?_ ?_));all_goals (rw [hlen1]));(case ghs=>(repeat (first|exact qh|refine xO ?_|refine q7 ?_ ?_));all_goals (rw [List.map_set];rfl))
  obtain rfl:j = t.length:=by omega
  rw [List.take_length] at *
  repeat' (first|refine qu ?_|(first|(refine WJ ?_)|(refine qbV ?_))|((first|refine qk ?_ ?_|refine qj ?_ ?_|refine xsC ?_ ?_);all_goals (intro hc;have hp:=hc;try simp at hp;try (exfalso;omega)))|refine jc ?_ ?_)
  all_goals try (exfalso;omega)
  apply qaF (C:=C1) 0 (yD p t).length
  case hn=>rfl
  case hr =>
   refine Eq.trans (b:=(yD p t).map Ent.row) ?_ rfl
   rw [List.append_assoc,List.take_append_of_le_length (by simp;omega),Nat.zero_add,List.take_take,Nat.min_self, ← List.map_take,hEt]
  (apply jb (rs:=[.tmp 4]) [] 1;(case hr=>(repeat (first|exact qP|(apply qQ;rfl)|(apply qJ;rfl;rfl;rfl;rfl;rfl))));(case hL=>rfl);(case hh=>(repeat (first|exact qh|refine xO ?_|refine q7 ?_ ?_));all_goals trace_state);(case hi=>first|exact (rfl:_ = ([]:List (Nat × Nat)))|exact (rfl:_ = [((0:Nat),(0:Nat))])|exact (rfl:_ = [((0:Nat),(0:Nat)),(1,1)]));(case hz=>first|rfl|(simp [jx,AV.ren,AV.ren.renL,q4,qr,qZ];done)|(simp [jx,AV.ren,AV.ren.renL,q4,qr,qZ, *];done)|(simp [jx,AV.ren,AV.ren.renL,q4,qr,qZ];omega)))
def YW (p:qx) (x:Ent):Bool:=inB x.path p
theorem V9 (x:Ent) (p:qx) (hp:p.length ≤ 140737488355328):x6 C.P 152 [.agg x.row,.fp [[.v (str p)]] 0 0] (.v (.bool (YW p x))):=by
 have hin:=Kd x.path p hp
 refine qa Tryz.func152 rfl _ Tryz.ntmps152 (Nat.le_of_ble_eq_true rfl) _ Tryz.results152 0 rfl rfl ?_
 repeat' (first|refine qu ?_|(first|refine yY Tryz.func104 (hin ..) ?_)|((first|refine xsC ?_ ?_);all_goals (intro hc;have hp:=hc;try simp at hp;try (exfalso;omega)))|refine jc ?_ ?_)
 all_goals (apply yH;rfl;rfl)
theorem YJ (t:List Ent) (p:qx) (hl:t.length ≤ 1000000) (hpl:p.length ≤ 140737488355328) :
  qI C1.P 123 [.os 0 0 t.length,.v (str p)] [.own false 4 (t.map Ent.row)] (.os 0 0 (yD (YW p) t).length) [.own false 4 ((yD (YW p) t).map Ent.row)]:=by
 have hdel:=Xf (YW p) 152 (xa Tryz.func152 rfl rfl) [.fp [[.v (str p)]] 0 0] rfl t hl (fun x _=>V9 x p hpl)
 refine qa (C:=C1) Tryz.func123 rfl _ Tryz.ntmps123 (Nat.le_of_ble_eq_true rfl) _ Tryz.results123 1 rfl rfl ?_
 (repeat apply Jf);refine yW ?_;(repeat' (first|apply Qg|refine qcm ?_|refine qca ?_|refine qck ?_|refine qcf ?_|refine qcb ?_|refine qcp ?_|refine qcl ?_|refine qci ?_|refine qcj ?_|refine qco ?_|refine qce ?_|refine qcg ?_|refine qch ?_|refine qcn ?_|refine qcc ?_|refine qb9 ?_|refine qcd ?_|refine qbW ?_|(first|fail)|refine qb0 ?_|refine qbu ?_|refine qbt ?_|refine qaI ?_|refine qaH ?_|refine qbP ?_|refine qbQ ?_|refine qbs ?_|refine qbr ?_|((first|refine qk ?_ ?_|refine qj ?_ ?_);all_goals (intro hc;have hp:=hc;try simp at hp;try (exfalso;omega)))));show Awp _ _ _ _ _
 refine xsZ 3 1 ?_
 repeat' (first|refine qu ?_|(first|(apply jm Tryz.func151 rfl rfl;intro hIsFn;refine Qf ([0]) 0 hIsFn (hdel ..) ?_))|((first|refine qk ?_ ?_|refine qj ?_ ?_|refine xsC ?_ ?_);all_goals (intro hc;have hp:=hc;try simp at hp;try (exfalso;omega)))|refine jc ?_ ?_)
 all_goals try (exfalso;omega)
 (apply jb (rs:=[.tmp 4]) [] 1;(case hr=>(repeat (first|exact qP|(apply qQ;rfl)|(apply qJ;rfl;rfl;rfl;rfl;rfl))));(case hL=>rfl);(case hh=>(repeat (first|exact qh|refine xO ?_|refine q7 ?_ ?_));all_goals trace_state);(case hi=>first|exact (rfl:_ = ([]:List (Nat × Nat)))|exact (rfl:_ = [((0:Nat),(0:Nat))])|exact (rfl:_ = [((0:Nat),(0:Nat)),(1,1)]));(case hz=>first|rfl|(simp [jx,AV.ren,AV.ren.renL,q4,qr,qZ];done)|(simp [jx,AV.ren,AV.ren.renL,q4,qr,qZ, *];done)|(simp [jx,AV.ren,AV.ren.renL,q4,qr,qZ];omega)))
end Go.Proofs.YtnhpclmbhbblbaaGreatDoor
set_option linter.unusedSimpArgs false
set_option linter.unnecessarySimpa false
set_option linter.unusedVariables false
set_option maxHeartbeats 1000000
namespace Go.Proofs.YtnhpclmbhbblbaaGreatDoor
open Go.Ab Go.RowKit
set_option maxRecDepth 10000
attribute [local irreducible] Awp jW jh jn Red qD Go.Ab.Fin qI Rz x4 ji jf ResOk jQ jq yl jg
def xZ (c:Chg) (v:Int) (x:Ent):Ent:=⟨c.to ++ x.path.drop c.path.length,x.fold,x.text,if x.path = c.path then v else x.ver⟩
def jG (t:List Ent) (c:Chg) (v:Int):List Ent:=(t.filter (YW c.path)).map (xZ c v)
def jE (t:List Ent) (c:Chg) (v:Int):List Ent :=
 if c.kind = 1 then js t ⟨c.path,true,[],v⟩
 else if c.kind = 2 then js t ⟨c.path,false,c.text,v⟩
 else if c.kind = 4 then yD (YW c.path) t
 else (jG t c v).foldl js (yD (YW c.path) t)
def xB (t:List Ent) (c:Chg):Bool:=decide (c.kind = 3) && (t.filter (YW c.path)).any fun x=>jF (c.to ++ x.path.drop c.path.length)
def y5 (t:List Ent) (c:Chg) (v:Int):Int:=if xB t c = true then 2 else if 60 < (jE t c v).length then 2 else 0
def Y6 (e:Int) (n:Nat):AV:=if e = 0 then .tup [.os 1 0 n,.v (.int .i64 0)] else .tup [.sl true [],.v (.int .i64 e)]
theorem qaj (t:List Ent) (c:Chg) (v:Int) (hl:t.length ≤ 1000000) (hs:qS jj t = true) (hk:c.kind = 1) (hlen:(jE t c v).length ≤ 1000001) :
  qI C1.P 97 [.os 0 0 t.length,.agg c.row,.v (.int .i64 v)] [.own false 4 (t.map Ent.row)] (Y6 (y5 t c v) (jE t c v).length) [.dead,.own false 4 ((jE t c v).map Ent.row)]:=by
 have hput:qI C1.P 122 [.os 0 0 t.length,.agg [.v (str c.path),.v (.bool true),.v (str []),.v (.int .i64 v)]] [.own false 4 (t.map Ent.row)] _ _:=Wa t ⟨c.path,true,[],v⟩ hl hs
 have hD:jE t c v = js t ⟨c.path,true,[],v⟩:=by simp [jE,hk]
 have hE:y5 t c v = if 60 < (jE t c v).length then 2 else 0:=by simp [y5,xB,hk]
 rw [← hD] at hput
 generalize y5 t c v = E at *
 generalize jE t c v = L at *
 by_cases h60:60 < L.length
 ·rw [if_pos h60] at hE
  subst hE
  refine qa (C:=C1) Tryz.func97 rfl _ Tryz.ntmps97 (Nat.le_of_ble_eq_true rfl) _ Tryz.results97 1 rfl rfl ?_
  repeat' (first|refine qu ?_|(first|(apply jm Tryz.func122 rfl rfl;intro hIsFn;refine vJ ([0]) 0 hIsFn (hput ..) ?_))|((first|refine qk ?_ ?_|refine qj ?_ ?_|refine xsC ?_ ?_);all_goals (intro hc;have hp:=hc;try simp at hp;try (exfalso;omega)))|refine jc ?_ ?_)
  all_goals try (exfalso;omega)
  (refine Z8 (rs:=[.tmp 6,.tmp 7]) [(2,1)] 2 ?_;(apply ya 0;exact qq rfl;(repeat (first|exact qh|refine xO ?_|refine q7 ?_ ?_)));all_goals trace_state)
 ·rw [if_neg h60] at hE
  subst hE
  refine qa (C:=C1) Tryz.func97 rfl _ Tryz.ntmps97 (Nat.le_of_ble_eq_true rfl) _ Tryz.results97 1 rfl rfl ?_
  repeat' (first|refine qu ?_|(first|(apply jm Tryz.func122 rfl rfl;intro hIsFn;refine vJ ([0]) 0 hIsFn (hput ..) ?_))|((first|refine qk ?_ ?_|refine qj ?_ ?_|refine xsC ?_ ?_);all_goals (intro hc;have hp:=hc;try simp at hp;try (exfalso;omega)))|refine jc ?_ ?_)
  all_goals try (exfalso;omega)
  (refine Z8 (rs:=[.tmp 6,.tmp 7]) [(2,1)] 2 ?_;(apply ya 0;exact qq rfl;(repeat (first|exact qh|refine xO ?_|refine q7 ?_ ?_)));all_goals trace_state)
theorem qak (t:List Ent) (c:Chg) (v:Int) (hl:t.length ≤ 1000000) (hs:qS jj t = true) (hk:c.kind = 2) (hlen:(jE t c v).length ≤ 1000001) :
  qI C1.P 97 [.os 0 0 t.length,.agg c.row,.v (.int .i64 v)] [.own false 4 (t.map Ent.row)] (Y6 (y5 t c v) (jE t c v).length) [.dead,.own false 4 ((jE t c v).map Ent.row)]:=by
 have hput:qI C1.P 122 [.os 0 0 t.length,.agg [.v (str c.path),.v (.bool false),.v (str c.text),.v (.int .i64 v)]] [.own false 4 (t.map Ent.row)] _ _:=Wa t ⟨c.path,false,c.text,v⟩ hl hs
 have hD:jE t c v = js t ⟨c.path,false,c.text,v⟩:=by simp [jE,hk]
 have hE:y5 t c v = if 60 < (jE t c v).length then 2 else 0:=by simp [y5,xB,hk]
 rw [← hD] at hput
 generalize y5 t c v = E at *
 generalize jE t c v = L at *
 by_cases h60:60 < L.length
 ·rw [if_pos h60] at hE
  subst hE
  refine qa (C:=C1) Tryz.func97 rfl _ Tryz.ntmps97 (Nat.le_of_ble_eq_true rfl) _ Tryz.results97 1 rfl rfl ?_
  repeat' (first|refine qu ?_|(first|(apply jm Tryz.func122 rfl rfl;intro hIsFn;refine vJ ([0]) 0 hIsFn (hput ..) ?_))|((first|refine qk ?_ ?_|refine qj ?_ ?_|refine xsC ?_ ?_);all_goals (intro hc;have hp:=hc;try simp at hp;try (exfalso;omega)))|refine jc ?_ ?_)
  all_goals try (exfalso;omega)
  (refine Z8 (rs:=[.tmp 6,.tmp 7]) [(2,1)] 2 ?_;(apply ya 0;exact qq rfl;(repeat (first|exact qh|refine xO ?_|refine q7 ?_ ?_)));all_goals trace_state)
 ·rw [if_neg h60] at hE
  subst hE
  refine qa (C:=C1) Tryz.func97 rfl _ Tryz.ntmps97 (Nat.le_of_ble_eq_true rfl) _ Tryz.results97 1 rfl rfl ?_
  repeat' (first|refine qu ?_|(first|(apply jm Tryz.func122 rfl rfl;intro hIsFn;refine vJ ([0]) 0 hIsFn (hput ..) ?_))|((first|refine qk ?_ ?_|refine qj ?_ ?_|refine xsC ?_ ?_);all_goals (intro hc;have hp:=hc;try simp at hp;try (exfalso;omega)))|refine jc ?_ ?_)
  all_goals try (exfalso;omega)
  (refine Z8 (rs:=[.tmp 6,.tmp 7]) [(2,1)] 2 ?_;(apply ya 0;exact qq rfl;(repeat (first|exact qh|refine xO ?_|refine q7 ?_ ?_)));all_goals trace_state)
theorem qal (t:List Ent) (c:Chg) (v:Int) (hl:t.length ≤ 1000000) (hk:c.kind = 4) (hpl:c.path.length ≤ 140737488355328) :
  qI C1.P 97 [.os 0 0 t.length,.agg c.row,.v (.int .i64 v)] [.own false 4 (t.map Ent.row)] (Y6 (y5 t c v) (jE t c v).length) [.dead,.own false 4 ((jE t c v).map Ent.row)]:=by
 have hwo:=YJ t c.path hl hpl
 have hD:jE t c v = yD (YW c.path) t:=by simp [jE,hk]
 have hE:y5 t c v = if 60 < (jE t c v).length then 2 else 0:=by simp [y5,xB,hk]
 have hlen:(jE t c v).length ≤ t.length:=by rw [hD];exact List.length_filter_le ..
 rw [← hD] at hwo
 generalize y5 t c v = E at *
 generalize jE t c v = L at *
 by_cases h60:60 < L.length
 ·rw [if_pos h60] at hE
  subst hE
  refine qa (C:=C1) Tryz.func97 rfl _ Tryz.ntmps97 (Nat.le_of_ble_eq_true rfl) _ Tryz.results97 1 rfl rfl ?_
  repeat' (first|refine qu ?_|(first|(apply jm Tryz.func123 rfl rfl;intro hIsFn;refine Qf ([0]) 0 hIsFn (hwo ..) ?_))|((first|refine qk ?_ ?_|refine qj ?_ ?_|refine xsC ?_ ?_);all_goals (intro hc;have hp:=hc;try simp at hp;try (exfalso;omega)))|refine jc ?_ ?_)
  all_goals try (exfalso;omega)
  apply w5 (C:=C1) 0 0 L.length
  case hi=>rfl
  case hn=>rfl
  case hr=>exact (List.take_of_length_le (by simp))
  case hnn=>exact Nat.ne_of_beq_eq_false rfl
  case hnx=>exact Nat.le_of_ble_eq_true rfl
  (refine Z8 (rs:=[.tmp 6,.tmp 7]) [(2,1)] 2 ?_;(apply ya 0;exact qq rfl;(repeat (first|exact qh|refine xO ?_|refine q7 ?_ ?_)));all_goals trace_state)
 ·rw [if_neg h60] at hE
  subst hE
  refine qa (C:=C1) Tryz.func97 rfl _ Tryz.ntmps97 (Nat.le_of_ble_eq_true rfl) _ Tryz.results97 1 rfl rfl ?_
  repeat' (first|refine qu ?_|(first|(apply jm Tryz.func123 rfl rfl;intro hIsFn;refine Qf ([0]) 0 hIsFn (hwo ..) ?_))|((first|refine qk ?_ ?_|refine qj ?_ ?_|refine xsC ?_ ?_);all_goals (intro hc;have hp:=hc;try simp at hp;try (exfalso;omega)))|refine jc ?_ ?_)
  all_goals try (exfalso;omega)
  apply w5 (C:=C1) 6 0 L.length
  case hi=>rfl
  case hn=>rfl
  case hr=>exact (List.take_of_length_le (by simp))
  case hnn=>exact Nat.ne_of_beq_eq_false rfl
  case hnx=>exact Nat.le_of_ble_eq_true rfl
  (refine Z8 (rs:=[.tmp 6,.tmp 7]) [(2,1)] 2 ?_;(apply ya 0;exact qq rfl;(repeat (first|exact qh|refine xO ?_|refine q7 ?_ ?_)));all_goals trace_state)
end Go.Proofs.YtnhpclmbhbblbaaGreatDoor
set_option linter.unusedSimpArgs false
set_option linter.unnecessarySimpa false
set_option linter.unusedVariables false
namespace Go.Proofs.YtnhpclmbhbblbaaGreatDoor
open Go.Op
theorem qaw {a b:qx} (h:bytesLess a b = true):bytesLess b a = false:=by
 cases e:bytesLess b a
 ·rfl
 ·have:=vr h e
  rw [vV] at this;cases this
theorem YM {a b:qx} (h:bytesLess a b = true):¬ a = b:=fun e=>by rw [e,vV] at h;cases h
theorem qbm {a b:qx} (h1:bytesLess a b = false) (h2:¬ a = b):bytesLess b a = true:=by
 rcases zw a b with ⟨h,_,_⟩|⟨h,_,_⟩|⟨h,_,_⟩
 ·rw [h] at h1;cases h1
 ·exact absurd h h2
 ·exact h
theorem XR (p:qx) : ∀ {t:List Ent},t.Pairwise (fun a b=>bytesLess a.path b.path = true) → ∃ A M Z,t = A ++ (M ++ Z) ∧ yx t p = A.length ∧ (∀ a,a ∈ A → bytesLess a.path p = true) ∧ (∀ z,z ∈ Z → bytesLess p z.path = true) ∧
  ((j9 t p = true ∧ ∃ x,M = [x] ∧ x.path = p) ∨ (j9 t p = false ∧ M = []))
 | [],_=>⟨[],[],[],rfl,rfl,nofun,nofun,.inr ⟨rfl,rfl⟩⟩
 | x :: l,h=>by
   obtain ⟨h1,h2⟩:=List.pairwise_cons.1 h
   by_cases hx:bytesLess x.path p = true
   ·obtain ⟨A,M,Z,rfl,hp,hA,hZ,hM⟩:=XR p h2
    have hp' : yx (x :: (A ++ (M ++ Z))) p = A.length + 1:=by
     simp only [yx,List.takeWhile_cons,hx,if_true,List.length_cons] at hp ⊢;omega
    have hh:j9 (x :: (A ++ (M ++ Z))) p = j9 (A ++ (M ++ Z)) p:=by
     simp [j9,atP,YM hx]
    refine ⟨x :: A,M,Z,rfl,hp',fun a ha=>?_,hZ,by rw [hh];exact hM⟩
    rcases List.mem_cons.1 ha with rfl|ha
    ·exact hx
    ·exact hA a ha
   ·have hx:bytesLess x.path p = false:=by simpa using hx
    have hp:yx (x :: l) p = 0:=by simp [yx,List.takeWhile_cons,hx]
    by_cases e:x.path = p
    ·subst e
     exact ⟨[],[x],l,rfl,hp,nofun,fun z hz=>h1 z hz,.inl ⟨by simp [j9,atP],x,rfl,rfl⟩⟩
    ·have hg:=qbm hx e
     have hall : ∀ z,z ∈ x :: l → bytesLess p z.path = true:=fun z hz=>by
      rcases List.mem_cons.1 hz with rfl|hz
      ·exact hg
      ·exact vr hg (h1 z hz)
     refine ⟨[],[],x :: l,rfl,hp,nofun,hall,.inr ⟨List.any_eq_false.2 fun z hz=>?_,rfl⟩⟩
     have:=YM (hall z hz)
     simp only [atP,decide_eq_true_eq]
     exact fun e=>this e.symm
theorem wM {t A M Z:List Ent} {x:Ent} (h:t = A ++ (M ++ Z)) (hp:yx t x.path = A.length) (hM:(j9 t x.path = true ∧ ∃ y,M = [y] ∧ y.path = x.path) ∨ (j9 t x.path = false ∧ M = [])):js t x = A ++ ([x] ++ Z):=by
 unfold js
 rw [hp]
 have h1:t.take A.length = A:=by rw [h];simp
 rw [h1]
 rcases hM with ⟨hh,y,rfl,_⟩|⟨hh,rfl⟩
 ·simp only [hh,if_true];rw [h];simp
 ·simp only [hh,Bool.false_eq_true,if_false];rw [h];simp
theorem Qn (t:List Ent) (x:Ent):(js t x).length ≤ t.length + 1:=by
 unfold js;split<;>simp<;>omega
theorem yS {t:List Ent} {x:Ent} (hs:qS jj t = true):qS jj (js t x) = true:=by
 have hl:=yB.1 hs
 obtain ⟨A,M,Z,h,hp,hA,hZ,hM⟩:=XR x.path hl
 rw [wM h hp hM]
 refine yB.2 ?_
 have hsub:(A ++ Z).Sublist t:=by
  rw [h];exact List.Sublist.append_left (List.sublist_append_right _ _) _
 obtain ⟨pA,pZ,pAZ⟩:=List.pairwise_append.1 (hl.sublist hsub)
 refine List.pairwise_append.2 ⟨pA,List.pairwise_cons.2 ⟨fun z hz=>hZ z hz,pZ⟩,fun a ha b hb=>?_⟩
 rcases List.mem_cons.1 hb with rfl|hb
 ·exact hA a ha
 ·exact pAZ a ha b hb
theorem kf {p:Ent → Bool} {t:List Ent} (hs:qS jj t = true):qS jj (yD p t) = true:=yB.2 ((yB.1 hs).sublist List.filter_sublist)
theorem zA : ∀ {l t:List Ent},qS jj t = true → qS jj (l.foldl js t) = true
 | [],_,h=>h
 | x :: l,t,h=>zA (l:=l) (yS h)
theorem wJ : ∀ (l t:List Ent),(l.foldl js t).length ≤ t.length + l.length
 | [],_=>by simp
 | x :: l,t=>by
   have h1:=wJ l (js t x)
   have h2:=Qn t x
   simp only [List.foldl_cons,List.length_cons];omega
theorem VO {l t:List Ent} {i:Nat} (h:i < l.length):(l.take (i + 1)).foldl js t = js ((l.take i).foldl js t) l[i]:=by
 rw [List.take_succ_eq_append_getElem h,List.foldl_append];rfl
theorem q9 {p:qx} (h:qn p = 0):p.length ≤ 80:=by
 have:jF p = false:=by
  unfold qn at h
  split at h
  ·split at h
   ·exact absurd h (by decide)
   ·rename_i h2;simpa using h2
  ·exact absurd h (by decide)
 simp [jF] at this;omega
theorem kH {p f t:qx} (hp:qn p = 0) (hf:qn f = 0) (ht:qn t = 0) (hi:inB p f = true):xo p f t = if jF (t ++ p.drop f.length) = true then 2 else 0:=by
 unfold xo
 rw [if_pos (by simp [jX,hp,hf,ht]),if_pos hi]
theorem YU {t:List Ent} {c:Chg} {v:Int} {i:Nat} (h:i < t.length):jG (t.take (i + 1)) c v = if inB t[i].path c.path = true then jG (t.take i) c v ++ [xZ c v t[i]] else jG (t.take i) c v:=by
 unfold jG
 rw [List.take_succ_eq_append_getElem h,List.filter_append]
 cases hs:inB t[i].path c.path<;>simp [hs,YW]
end Go.Proofs.YtnhpclmbhbblbaaGreatDoor
set_option linter.unusedSimpArgs false
set_option linter.unnecessarySimpa false
set_option linter.unusedVariables false
namespace Go.Proofs.YtnhpclmbhbblbaaGreatDoor
open Go.Op
end Go.Proofs.YtnhpclmbhbblbaaGreatDoor
