import Derived.Test.YtnhpclmbhbblbaaDoorMz11
import Derived.Test.YtnhpclmbhbblbaaDoorMz10
import Derived.Test.YtnhpclmbhbblbaaDoorMz0
set_option linter.unusedSimpArgs false
set_option linter.unnecessarySimpa false
set_option linter.unusedVariables false
namespace Go.Proofs.YtnhpclmbhbblbaaDoor
open Go.Op
structure MInv (o:List Ent):Prop where
 rise:qV jm o = true
 ent : ∀ x,x ∈ o → ju x = 0
end Go.Proofs.YtnhpclmbhbblbaaDoor
set_option linter.unusedSimpArgs false
set_option linter.unnecessarySimpa false
set_option linter.unusedVariables false
set_option maxHeartbeats 1000000
namespace Go.Proofs.YtnhpclmbhbblbaaDoor
open Go.Ab Go.RowKit
set_option maxRecDepth 10000
attribute [local irreducible] Awp jk qG q9 Red qp Go.Ab.Fin qx Rz yS qX qT ResOk jp jd jG qR
end Go.Proofs.YtnhpclmbhbblbaaDoor
set_option linter.unusedSimpArgs false
set_option linter.unnecessarySimpa false
set_option linter.unusedVariables false
set_option maxHeartbeats 1000000
namespace Go.Proofs.YtnhpclmbhbblbaaDoor
open Go.Ab Go.RowKit
set_option maxRecDepth 10000
attribute [local irreducible] Awp jk qG q9 Red qp Go.Ab.Fin qx Rz yS qX qT ResOk jp jd jG qR
end Go.Proofs.YtnhpclmbhbblbaaDoor
set_option linter.unusedSimpArgs false
set_option linter.unnecessarySimpa false
set_option linter.unusedVariables false
set_option maxHeartbeats 1000000
namespace Go.Proofs.YtnhpclmbhbblbaaDoor
open Go.Ab Go.RowKit
set_option maxRecDepth 10000
attribute [local irreducible] Awp jk qG q9 Red qp Go.Ab.Fin qx Rz yS qX qT ResOk jp jd jG qR
end Go.Proofs.YtnhpclmbhbblbaaDoor
set_option linter.unusedSimpArgs false
set_option linter.unnecessarySimpa false
set_option linter.unusedVariables false
set_option maxHeartbeats 1000000
namespace Go.Proofs.YtnhpclmbhbblbaaDoor
open Go.Ab Go.RowKit
set_option maxRecDepth 10000
attribute [local irreducible] Awp jk qG q9 Red qp Go.Ab.Fin qx Rz yS qX qT ResOk jp jd jG qR
end Go.Proofs.YtnhpclmbhbblbaaDoor
set_option linter.unusedSimpArgs false
set_option linter.unnecessarySimpa false
set_option linter.unusedVariables false
set_option maxHeartbeats 1000000
namespace Go.Proofs.YtnhpclmbhbblbaaDoor
open Go.Ab Go.RowKit
set_option maxRecDepth 10000
attribute [local irreducible] Awp jk qG q9 Red qp Go.Ab.Fin qx Rz yS qX qT ResOk jp jd jG qR
end Go.Proofs.YtnhpclmbhbblbaaDoor
set_option linter.unusedSimpArgs false
set_option linter.unnecessarySimpa false
set_option linter.unusedVariables false
set_option maxHeartbeats 1000000
namespace Go.Proofs.YtnhpclmbhbblbaaDoor
open Go.Ab Go.RowKit
set_option maxRecDepth 10000
attribute [local irreducible] Awp jk qG q9 Red qp Go.Ab.Fin qx Rz yS qX qT ResOk jp jd jG qR
end Go.Proofs.YtnhpclmbhbblbaaDoor
set_option linter.unusedSimpArgs false
set_option linter.unnecessarySimpa false
set_option linter.unusedVariables false
set_option maxHeartbeats 1000000
namespace Go.Proofs.YtnhpclmbhbblbaaDoor
open Go.Ab Go.RowKit
set_option maxRecDepth 10000
attribute [local irreducible] Awp jk qG q9 Red qp Go.Ab.Fin qx Rz yS qX qT ResOk jp jd jG qR
def YQ (v:Int):List Ent → List Chg → Nat → List Ent × Nat × Int
 | t,[],n=>(t,n,0)
 | t,c :: l,n=>if xr t c v = 0 then YQ v (qO t c v) l (n + 1) else ([],n,xr t c v)
def X4 (v:Int) (t:List Ent) (l:List Chg):List Ent × Nat × Int :=
 if ¬ qu t = 0 then ([],0,qu t) else if 20 < l.length then ([],0,2) else if yD v = false ∧ 0 < l.length then ([],0,3) else YQ v t l 0
def VI (r:List Ent × Nat × Int):AV := .tup [qo r.1,.v (.int .i64 (r.2.1:Nat)),.v (.int .i64 r.2.2)]
theorem Yz {v:Int} {t:List Ent} {l:List Chg} {i:Nat} (h:i < l.length):YQ v t (l.drop i) i = if xr t l[i] v = 0 then YQ v (qO t l[i] v) (l.drop (i + 1)) (i + 1) else ([],i,xr t l[i] v):=by
 rw [List.drop_eq_getElem_cons h];rfl
theorem VZ (t:List Ent) (l:List Chg) (v:Int) (hb:EBig t) (hcb:CBig l):yc C.P 26 [qo t,kN l,.v (.int .i64 v)] (VI (X4 v t l)):=by
 have h1:=v6 t hb
 have h2:=kp v
 have hll:=hcb.len
 have hml:(l.map Chg.row).length = l.length:=List.length_map ..
 have hE:X4 v t l = if ¬ qu t = 0 then ([],0,qu t) else if 20 < l.length then ([],0,2) else if yD v = false ∧ 0 < l.length then ([],0,3) else YQ v t l 0:=rfl
 by_cases hte:qu t = 0
 ·rw [if_neg (by simp [hte])] at hE
  have hR:=RightE.of hte
  rw [hte] at h1
  have h60:=(x4 hte).1
  have h3:=QZ t (by omega)
  by_cases h20:20 < l.length
  ·rw [if_pos h20] at hE
   rw [hE]
   refine qa Tryd.func26 rfl _ Tryd.ntmps26 (Nat.le_of_ble_eq_true rfl) _ Tryd.results26 0 rfl rfl ?_
   repeat' (first|refine qj ?_|(first|(refine jr ?_)|refine jV Tryd.func12 (h1 ..) ?_)|((first|refine qe ?_ ?_|refine qf ?_ ?_|refine xsC ?_ ?_);all_goals (intro hc;have hp:=hc;try simp at hp;try (exfalso;omega)))|refine qD ?_ ?_)
   all_goals try (exfalso;omega)
   all_goals try (exfalso;first|omega|(simp_all;done)|(simp_all;omega))
   all_goals ((exact zh (rs:=[.tmp 6,.tmp 7,.tmp 8])))
  ·rw [if_neg h20] at hE
   by_cases hv:yD v = false ∧ 0 < l.length
   ·rw [if_pos hv] at hE
    rw [hE]
    rw [hv.1] at h2
    refine qa Tryd.func26 rfl _ Tryd.ntmps26 (Nat.le_of_ble_eq_true rfl) _ Tryd.results26 0 rfl rfl ?_
    repeat' (first|refine qj ?_|(first|(refine jr ?_)|refine jV Tryd.func12 (h1 ..) ?_|refine jH Tryd.func37 (h2 ..) ?_)|((first|refine qe ?_ ?_|refine qf ?_ ?_|refine xsC ?_ ?_);all_goals (intro hc;have hp:=hc;try simp at hp;try (exfalso;omega)))|refine qD ?_ ?_)
    all_goals try (exfalso;omega)
    all_goals try (exfalso;first|omega|(simp_all;done)|(simp_all;omega))
    all_goals ((exact zh (rs:=[.tmp 6,.tmp 7,.tmp 8])))
   ·rw [if_neg hv] at hE
    generalize hV:yD v = V at *
    have hv2:V = false → l.length = 0:=fun h=>by
     rcases Nat.eq_zero_or_pos l.length with h4|h4
     ·exact h4
     ·exact absurd ⟨h,h4⟩ hv
    clear hV
    generalize hA:X4 v t l = A at *
    clear hA
    refine qa Tryd.func26 rfl _ Tryd.ntmps26 (Nat.le_of_ble_eq_true rfl) _ Tryd.results26 0 rfl rfl ?_
    repeat' (first|refine qj ?_|(first|(refine jr ?_)|refine jV Tryd.func12 (h1 ..) ?_|refine jH Tryd.func37 (h2 ..) ?_|(apply jo Tryd.func39 rfl rfl;intro hIsFn;refine zY ([]) hIsFn (h3 ..) ?_))|((first|refine qe ?_ ?_|refine qf ?_ ?_|refine xsC ?_ ?_);all_goals (intro hc;have hp:=hc;try simp at hp;try (exfalso;omega)))|refine qD ?_ ?_)
    all_goals try (exfalso;omega)
    all_goals try (exfalso;first|omega|(simp_all;done)|(simp_all;omega))
    all_goals (
     refine Awp.red (kh 0 rfl (by intro row hrow;obtain ⟨x,_,rfl⟩:=List.mem_map.1 hrow;rfl)) ?_
     refine Awp.red (Vv 0 0 rfl rfl (by simp)) ?_
     (refine Awp.red (ql (ts:=[(0,qo t),(1,kN l),(2,.v (.int .i64 v)),(33,kN l),(34,.v (.int .i64 l.length)),(35,.v (.int .i64 ((0:Nat):Int)))]) ?_) ?_;((repeat (first|exact qd|refine qn ?_|refine qM ?_ ?_))))
     all_goals try (rw [List.length_map];done)
     all_goals try (rw [List.drop_zero,List.take_of_length_le (by simp)];rfl)
     refine qy (fun n σ => ∃ (i:Nat) (u:List Ent),i ≤ l.length ∧ n = l.length - i ∧ (A = YQ v u (l.drop i) i ∧ RightE u) ∧ σ = ⟨[(0,qo u),(1,kN l),(2,.v (.int .i64 v)),(33,kN l),(34,.v (.int .i64 l.length)),(35,.v (.int .i64 (i:Int)))],[],C.nh⟩) l.length ⟨0,t,Nat.zero_le _,rfl,⟨by rw [hE];rfl,hR⟩,rfl⟩ ?_
     rintro n σ ⟨i,u,hi,rfl,⟨hA,hRu⟩,rfl⟩
     by_cases hlt:i < l.length
     ·have hr:=qL (f:=Chg.row) hlt
      have hraw:=Y0 u l[i] v hRu (hcb.each _ (List.getElem_mem _))
      rw [Yz hlt] at hA
      have hL:JT u l[i] v = if xr u l[i] v = 0 then qO u l[i] v else []:=rfl
      by_cases hz:xr u l[i] v = 0
      ·have hRn:=hRu.done hz
       rw [if_pos hz] at hA hL
       rw [hL,hz] at hraw
       generalize qO u l[i] v = U at *
       clear hE hL hz
       repeat' (first|refine qj ?_|(first|refine jV Tryd.func38 (hraw ..) ?_)|((first|refine qe ?_ ?_|refine qf ?_ ?_|refine xsC ?_ ?_);all_goals (intro hc;have hp:=hc;try simp at hp;try (exfalso;omega)))|refine qD ?_ ?_)
       all_goals try (exfalso;omega)
       refine ⟨l.length - (i + 1),_,by omega,ql (ts:=[(0,qo U),(1,kN l),(2,.v (.int .i64 v)),(33,kN l),(34,.v (.int .i64 l.length)),(35,.v (.int .i64 ((i + 1:Nat):Int)))]) ?_,i + 1,U,by omega,rfl,⟨hA,hRn⟩,rfl⟩
       (repeat (first|exact qd|refine qn ?_|refine qM ?_ ?_))
      ·rw [if_neg hz] at hA hL
       rw [hL] at hraw
       rw [hA]
       generalize xr u l[i] v = E at *
       clear hE hL hA
       repeat' (first|refine qj ?_|(first|refine jV Tryd.func38 (hraw ..) ?_)|((first|refine qe ?_ ?_|refine qf ?_ ?_|refine xsC ?_ ?_);all_goals (intro hc;have hp:=hc;try simp at hp;try (exfalso;omega)))|refine qD ?_ ?_)
       all_goals try (exfalso;omega)
       (exact zh (rs:=[.tmp 6,.tmp 7,.tmp 8]))
     obtain rfl:i = l.length:=by omega
     rw [List.drop_length] at hA
     have hA:A = (u,l.length,0):=hA
     rw [hA]
     clear hE hA
     repeat' (first|refine qj ?_|fail|((first|refine qe ?_ ?_|refine qf ?_ ?_|refine xsC ?_ ?_);all_goals (intro hc;have hp:=hc;try simp at hp;try (exfalso;omega)))|refine qD ?_ ?_)
     all_goals try (exfalso;omega)
     (refine xV (rs:=[.tmp 6,.tmp 7,.tmp 8]) ?_;(repeat' (first|exact qS|apply qw|exact qK rfl|exact yH|exact k9|apply j4|apply xo|apply jN|apply xu|apply yy|apply xx|refine wj ?_|apply vM));all_goals (rw [List.length_map])))
 ·rw [if_pos hte] at hE
  rw [hE]
  generalize qu t = E at *
  refine qa Tryd.func26 rfl _ Tryd.ntmps26 (Nat.le_of_ble_eq_true rfl) _ Tryd.results26 0 rfl rfl ?_
  repeat' (first|refine qj ?_|(first|(refine jr ?_)|refine jV Tryd.func12 (h1 ..) ?_)|((first|refine qe ?_ ?_|refine qf ?_ ?_|refine xsC ?_ ?_);all_goals (intro hc;have hp:=hc;try simp at hp;try (exfalso;omega)))|refine qD ?_ ?_)
  all_goals try (exfalso;omega)
  all_goals ((exact zh (rs:=[.tmp 6,.tmp 7,.tmp 8])))
end Go.Proofs.YtnhpclmbhbblbaaDoor
set_option linter.unusedSimpArgs false
set_option linter.unnecessarySimpa false
set_option linter.unusedVariables false
set_option maxHeartbeats 1000000
namespace Go.Proofs.YtnhpclmbhbblbaaDoor
open Go.Ab Go.RowKit
set_option maxRecDepth 10000
attribute [local irreducible] Awp jk qG q9 Red qp Go.Ab.Fin qx Rz yS qX qT ResOk jp jd jG qR
theorem QS:yc C.P 10 [] (.v (.bool true)):=by
 have h1:yc C.P 25 [.sl false [],.agg [.v (.int .i64 1),.v (str [97]),.v (str []),.v (str []),.v (.int .i64 0)],.v (.int .i64 5)] (.tup [qo [⟨[97],true,[],5⟩],.v (.int .i64 0)]):=by
  have h:=XR [] ⟨1,[97],[],[],0⟩ 5 ⟨by simp,by simp⟩ ⟨by simp,by simp,by simp⟩
  rw [show k4 [] ⟨1,[97],[],[],0⟩ 5 = [⟨[97],true,[],5⟩] from by decide +kernel,show vQ [] ⟨1,[97],[],[],0⟩ 5 = 0 from by decide +kernel] at h
  exact h
 have h2:yc C.P 26 [qo [⟨[97],true,[],5⟩],.sl false [[.v (.int .i64 2),.v (str [97,47,98]),.v (str []),.v (str [120]),.v (.int .i64 (-1))]],.v (.int .i64 6)] (.tup [qo [⟨[97],true,[],5⟩,⟨[97,47,98],false,[120],6⟩],.v (.int .i64 1),.v (.int .i64 0)]):=by
  have h:=VZ [⟨[97],true,[],5⟩] [⟨2,[97,47,98],[],[120], -1⟩] 6 ⟨by simp [Ent.small],by simp⟩ ⟨by simp [Chg.small],by simp⟩
  rw [show X4 6 [⟨[97],true,[],5⟩] [⟨2,[97,47,98],[],[120], -1⟩] = ([⟨[97],true,[],5⟩,⟨[97,47,98],false,[120],6⟩],1,0) from by decide +kernel] at h
  exact h
 refine qa Tryd.func10 rfl _ Tryd.ntmps10 (Nat.le_of_ble_eq_true rfl) _ Tryd.results10 0 rfl rfl ?_
 repeat' (first|refine qj ?_|(first|(refine jr ?_)|refine jV Tryd.func25 (h1 ..) ?_|refine jV Tryd.func26 (h2 ..) ?_)|((first|refine qe ?_ ?_|refine qf ?_ ?_|refine xsC ?_ ?_);all_goals (intro hc;have hp:=hc;try simp at hp;try (exfalso;omega)))|refine qD ?_ ?_)
 all_goals try (exfalso;simp_all;done)
 all_goals (apply q8;rfl;simp;done)
end Go.Proofs.YtnhpclmbhbblbaaDoor
