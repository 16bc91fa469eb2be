import Derived.Test.YtnhpclmbhbblbaaGreatDoorMz20
import Derived.Test.YtnhpclmbhbblbaaGreatDoorMz21
import Derived.Test.YtnhpclmbhbblbaaGreatDoorMz13
import Derived.Test.YtnhpclmbhbblbaaGreatDoorMz19
set_option linter.unusedSimpArgs false
set_option linter.unnecessarySimpa false
set_option linter.unusedVariables false
set_option maxHeartbeats 1000000
namespace Go.Proofs.YtnhpclmbhbblbaaGreatDoor
open Go.Ab Go.RowKit
set_option maxRecDepth 10000
attribute [local irreducible] Awp jW jh jn Red qD Go.Ab.Fin qI Rz x4 ji jf ResOk jQ jq yl jg
def wu (l:List Cpy):AV := .sl false (l.map Cpy.row)
def YD (r:List Ent × List Cpy × Int):AV := .tup [qo r.1,wu r.2.1,.v (.int .i64 r.2.2)]
theorem YY {b m t:List Ent} (h:¬ qA b = 0):xd b m t = ([],[],qA b):=by
 unfold xd
 rw [show jB qA [b,m,t] = qA b from by simp [jB,h],if_neg h]
theorem YZ {b m t:List Ent} (hb:qA b = 0) (h:¬ qA m = 0):xd b m t = ([],[],qA m):=by
 unfold xd
 rw [show jB qA [b,m,t] = qA m from by simp [jB,h,hb],if_neg h]
theorem Y0 {b m t:List Ent} (hb:qA b = 0) (hm:qA m = 0) (h:¬ qA t = 0):xd b m t = ([],[],qA t):=by
 unfold xd
 rw [show jB qA [b,m,t] = qA t from by simp [jB,h,hb,hm],if_neg h]
theorem Y1 {b m t:List Ent} (hb:qA b = 0) (hm:qA m = 0) (ht:qA t = 0):xd b m t = xe b m t:=by
 unfold xd
 rw [show jB qA [b,m,t] = 0 from by simp [jB,ht,hb,hm],if_pos rfl]
theorem KR (t:List Ent):(qd t).length = t.length:=by
 have:=congrArg List.length (xK t)
 simpa using this
theorem qaB {m t o:List Ent} (ho:MInv o) {e:Ent} (he:e ∈ o):qaA m t o e.path = vD m t e:=by
 have hl:qG o e.path = some e:=vy ho.rise he
 have h1:stT o e.path = yw e:=by unfold stT;rw [hl]
 unfold qaA
 rw [h1,qab (ho.ent e he)]
 unfold vD zu zQ qb4
 rfl
theorem qbF {o:List Ent} (ho:MInv o) {e:Ent} (he:e ∈ o):¬ (stT o e.path).kind = 0:=by
 rw [Qs,vy ho.rise he];exact nofun
set_option maxHeartbeats 4000000 in
theorem ZQ (B M T:List Ent) (bB:EBig B) (bM:EBig M) (bT:EBig T):x6 C.P 7 [qo B,qo M,qo T] (YD (xd B M T)):=by
 have cB:=wN B bB
 have cM:=wN M bM
 have cT:=wN T bT
 refine qa Tryz.func7 rfl _ Tryz.ntmps7 (Nat.le_of_ble_eq_true rfl) _ Tryz.results7 0 rfl rfl ?_
 repeat' (first|refine qu ?_|(first|(refine yu ?_))|((first|refine qk ?_ ?_|refine qj ?_ ?_|refine xsC ?_ ?_);all_goals (intro hc;have hp:=hc;try simp at hp;try (exfalso;omega)))|refine jc ?_ ?_)
 all_goals try (exfalso;omega)
 (refine Awp.red (jt (ts:=[(0,qo B),(1,qo M),(2,qo T),(19,.sl true [[qo B],[qo M],[qo T]]),(20,.v (.int .i64 3)),(21,.v (.int .i64 ((0:Nat):Int)))]) ?_) ?_;((repeat (first|exact qp|refine qE ?_|refine ju ?_ ?_))))
 refine jr (fun n σ => ∃ i:Nat,i ≤ 3 ∧ n = 3 - i ∧ ((1 ≤ i → qA B = 0) ∧ (2 ≤ i → qA M = 0) ∧ (3 ≤ i → qA T = 0)) ∧ σ = ⟨[(0,qo B),(1,qo M),(2,qo T),(19,.sl true [[qo B],[qo M],[qo T]]),(20,.v (.int .i64 3)),(21,.v (.int .i64 (i:Int)))],[],C.nh⟩) 3 ⟨0,by omega,rfl,⟨by omega,by omega,by omega⟩,rfl⟩ ?_
 rintro n σ ⟨i,hi,rfl,⟨e1,e2,e3⟩,rfl⟩
 rcases show i = 0 ∨ i = 1 ∨ i = 2 ∨ i = 3 from by omega with rfl|rfl|rfl|rfl
 ·have hrow:([[qo B],[qo M],[qo T]]:List (List AV))[0]? = some [qo B]:=rfl
  by_cases h0:qA B = 0
  ·rw [h0] at cB
   repeat' (first|refine qu ?_|(first|refine yY Tryz.func15 (cB ..) ?_)|((first|refine qk ?_ ?_|refine qj ?_ ?_|refine xsC ?_ ?_);all_goals (intro hc;have hp:=hc;try simp at hp;try (exfalso;omega)))|refine jc ?_ ?_)
   all_goals try (exfalso;first|omega|contradiction)
   refine ⟨3 - 1,_,by omega,jt (ts:=[(0,qo B),(1,qo M),(2,qo T),(19,.sl true [[qo B],[qo M],[qo T]]),(20,.v (.int .i64 3)),(21,.v (.int .i64 ((1:Nat):Int)))]) ?_,1,by omega,rfl,⟨fun _=>h0,by omega,by omega⟩,rfl⟩;((repeat (first|exact qp|refine qE ?_|refine ju ?_ ?_)))
  ·rw [YY h0]
   generalize qA B = E at *
   repeat' (first|refine qu ?_|(first|refine yY Tryz.func15 (cB ..) ?_)|((first|refine qk ?_ ?_|refine qj ?_ ?_|refine xsC ?_ ?_);all_goals (intro hc;have hp:=hc;try simp at hp;try (exfalso;omega)))|refine jc ?_ ?_)
   all_goals try (exfalso;first|omega|contradiction)
   unfold YD wu
   (exact QP (rs:=[.tmp 6,.tmp 7,.tmp 8]))
 ·have hrow:([[qo B],[qo M],[qo T]]:List (List AV))[1]? = some [qo M]:=rfl
  by_cases h0:qA M = 0
  ·rw [h0] at cM
   repeat' (first|refine qu ?_|(first|refine yY Tryz.func15 (cM ..) ?_)|((first|refine qk ?_ ?_|refine qj ?_ ?_|refine xsC ?_ ?_);all_goals (intro hc;have hp:=hc;try simp at hp;try (exfalso;omega)))|refine jc ?_ ?_)
   all_goals try (exfalso;first|omega|contradiction)
   refine ⟨3 - 2,_,by omega,jt (ts:=[(0,qo B),(1,qo M),(2,qo T),(19,.sl true [[qo B],[qo M],[qo T]]),(20,.v (.int .i64 3)),(21,.v (.int .i64 ((2:Nat):Int)))]) ?_,2,by omega,rfl,⟨fun _=>e1 (by omega),fun _=>h0,by omega⟩,rfl⟩;((repeat (first|exact qp|refine qE ?_|refine ju ?_ ?_)))
  ·rw [YZ (e1 (by omega)) h0]
   generalize qA M = E at *
   repeat' (first|refine qu ?_|(first|refine yY Tryz.func15 (cM ..) ?_)|((first|refine qk ?_ ?_|refine qj ?_ ?_|refine xsC ?_ ?_);all_goals (intro hc;have hp:=hc;try simp at hp;try (exfalso;omega)))|refine jc ?_ ?_)
   all_goals try (exfalso;first|omega|contradiction)
   unfold YD wu
   (exact QP (rs:=[.tmp 6,.tmp 7,.tmp 8]))
 ·have hrow:([[qo B],[qo M],[qo T]]:List (List AV))[2]? = some [qo T]:=rfl
  by_cases h0:qA T = 0
  ·rw [h0] at cT
   repeat' (first|refine qu ?_|(first|refine yY Tryz.func15 (cT ..) ?_)|((first|refine qk ?_ ?_|refine qj ?_ ?_|refine xsC ?_ ?_);all_goals (intro hc;have hp:=hc;try simp at hp;try (exfalso;omega)))|refine jc ?_ ?_)
   all_goals try (exfalso;first|omega|contradiction)
   refine ⟨3 - 3,_,by omega,jt (ts:=[(0,qo B),(1,qo M),(2,qo T),(19,.sl true [[qo B],[qo M],[qo T]]),(20,.v (.int .i64 3)),(21,.v (.int .i64 ((3:Nat):Int)))]) ?_,3,by omega,rfl,⟨fun _=>e1 (by omega),fun _=>e2 (by omega),fun _=>h0⟩,rfl⟩;((repeat (first|exact qp|refine qE ?_|refine ju ?_ ?_)))
  ·rw [Y0 (e1 (by omega)) (e2 (by omega)) h0]
   generalize qA T = E at *
   repeat' (first|refine qu ?_|(first|refine yY Tryz.func15 (cT ..) ?_)|((first|refine qk ?_ ?_|refine qj ?_ ?_|refine xsC ?_ ?_);all_goals (intro hc;have hp:=hc;try simp at hp;try (exfalso;omega)))|refine jc ?_ ?_)
   all_goals try (exfalso;first|omega|contradiction)
   unfold YD wu
   (exact QP (rs:=[.tmp 6,.tmp 7,.tmp 8]))
 have h1:=e1 (by omega)
 have h2:=e2 (by omega)
 have h3:=e3 (by omega)
 rw [Y1 h1 h2 h3]
 clear e1 e2 e3 cB cM cT
 have rB:=vp.1 h1
 have rM:=vp.1 h2
 have rT:=vp.1 h3
 have lB:=rB.len
 have lM:=rM.len
 have lT:=rT.len
 have s1:=JF B rB.rise (by omega)
 have s2:=JF M rM.rise (by omega)
 have s3:=JF T rT.rise (by omega)
 have hm:=qaV B M T rB rM rT
 repeat' (first|refine qu ?_|(first|fail)|((first|refine qk ?_ ?_|refine qj ?_ ?_|refine xsC ?_ ?_);all_goals (intro hc;have hp:=hc;try simp at hp;try (exfalso;omega)))|refine jc ?_ ?_)
 all_goals try (exfalso;first|omega|contradiction)
 apply jm Tryz.func23 rfl rfl
 intro hIsFn
 refine yr [] [0] [(0,.mp (qd B))] 1 (.mp 0) hIsFn (s1) (by ((repeat' (first|exact jp|apply ja|exact jo rfl|exact jU|(apply qw;apply qU;exact .inr (of_decide_eq_true rfl))|(apply qw;apply qt;exact .inr (of_decide_eq_true rfl))|(apply qw;apply qO;exact .inr (of_decide_eq_true rfl))|apply jz|apply jA)))<;>fail) (by ((repeat' (first|exact qW|exact qV|refine qL _ ?_ ?_|refine qK ?_ ?_|exact qF|exact qe (qc _)|exact qe (qR _)|exact qe (qv _)|exact qH (fun _=>rfl)|refine qM ?_|exact qm|apply qf|exact ql rfl|(apply qt;exact .inr (of_decide_eq_true rfl))|(apply qO;exact .inr (of_decide_eq_true rfl))|(apply qU;exact .inr (of_decide_eq_true rfl))|fail)))<;>fail) (by ((repeat' (first|exact qW|exact qV|refine qL _ ?_ ?_|refine qK ?_ ?_|exact qF|exact qe (qc _)|exact qe (qR _)|exact qe (qv _)|exact qH (fun _=>rfl)|refine qM ?_|exact qm|apply qf|exact ql rfl|(apply qt;exact .inr (of_decide_eq_true rfl))|(apply qO;exact .inr (of_decide_eq_true rfl))|(apply qU;exact .inr (of_decide_eq_true rfl))|fail)))<;>fail) ?_
 repeat' (first|refine qu ?_|(first|fail)|((first|refine qk ?_ ?_|refine qj ?_ ?_|refine xsC ?_ ?_);all_goals (intro hc;have hp:=hc;try simp at hp;try (exfalso;omega)))|refine jc ?_ ?_)
 apply jm Tryz.func23 rfl rfl
 intro hIsFn
 refine yr [] [1] [(1,.mp (qd M))] 2 (.mp 1) hIsFn (s2) (by ((repeat' (first|exact jp|apply ja|exact jo rfl|exact jU|(apply qw;apply qU;exact .inr (of_decide_eq_true rfl))|(apply qw;apply qt;exact .inr (of_decide_eq_true rfl))|(apply qw;apply qO;exact .inr (of_decide_eq_true rfl))|apply jz|apply jA)))<;>fail) (by ((repeat' (first|exact qW|exact qV|refine qL _ ?_ ?_|refine qK ?_ ?_|exact qF|exact qe (qc _)|exact qe (qR _)|exact qe (qv _)|exact qH (fun _=>rfl)|refine qM ?_|exact qm|apply qf|exact ql rfl|(apply qt;exact .inr (of_decide_eq_true rfl))|(apply qO;exact .inr (of_decide_eq_true rfl))|(apply qU;exact .inr (of_decide_eq_true rfl))|fail)))<;>fail) (by ((repeat' (first|exact qW|exact qV|refine qL _ ?_ ?_|refine qK ?_ ?_|exact qF|exact qe (qc _)|exact qe (qR _)|exact qe (qv _)|exact qH (fun _=>rfl)|refine qM ?_|exact qm|apply qf|exact ql rfl|(apply qt;exact .inr (of_decide_eq_true rfl))|(apply qO;exact .inr (of_decide_eq_true rfl))|(apply qU;exact .inr (of_decide_eq_true rfl))|fail)))<;>fail) ?_
 repeat' (first|refine qu ?_|(first|fail)|((first|refine qk ?_ ?_|refine qj ?_ ?_|refine xsC ?_ ?_);all_goals (intro hc;have hp:=hc;try simp at hp;try (exfalso;omega)))|refine jc ?_ ?_)
 apply jm Tryz.func23 rfl rfl
 intro hIsFn
 refine yr [] [2] [(2,.mp (qd T))] 3 (.mp 2) hIsFn (s3) (by ((repeat' (first|exact jp|apply ja|exact jo rfl|exact jU|(apply qw;apply qU;exact .inr (of_decide_eq_true rfl))|(apply qw;apply qt;exact .inr (of_decide_eq_true rfl))|(apply qw;apply qO;exact .inr (of_decide_eq_true rfl))|apply jz|apply jA)))<;>fail) (by ((repeat' (first|exact qW|exact qV|refine qL _ ?_ ?_|refine qK ?_ ?_|exact qF|exact qe (qc _)|exact qe (qR _)|exact qe (qv _)|exact qH (fun _=>rfl)|refine qM ?_|exact qm|apply qf|exact ql rfl|(apply qt;exact .inr (of_decide_eq_true rfl))|(apply qO;exact .inr (of_decide_eq_true rfl))|(apply qU;exact .inr (of_decide_eq_true rfl))|fail)))<;>fail) (by ((repeat' (first|exact qW|exact qV|refine qL _ ?_ ?_|refine qK ?_ ?_|exact qF|exact qe (qc _)|exact qe (qR _)|exact qe (qv _)|exact qH (fun _=>rfl)|refine qM ?_|exact qm|apply qf|exact ql rfl|(apply qt;exact .inr (of_decide_eq_true rfl))|(apply qO;exact .inr (of_decide_eq_true rfl))|(apply qU;exact .inr (of_decide_eq_true rfl))|fail)))<;>fail) ?_
 repeat' (first|refine qu ?_|(first|(apply yJ;apply vY;exact nle rfl))|((first|refine qk ?_ ?_|refine qj ?_ ?_|refine xsC ?_ ?_);all_goals (intro hc;have hp:=hc;try simp at hp;try (exfalso;omega)))|refine jc ?_ ?_)
 apply jm Tryz.func24 rfl rfl
 intro hIsFn
 unfold xe
 cases hS:xx B M T with
 | none =>
   rw [hS] at hm
   refine yr [4,0,1,2,3] [] [(4,.dead),(0,.dead),(1,.dead),(2,.dead),(3,.dead)] 5 (.v (.bool false)) hIsFn (hm) (by ((repeat' (first|exact jp|apply ja|exact jo rfl|exact jU|(apply qw;apply qU;exact .inr (of_decide_eq_true rfl))|(apply qw;apply qt;exact .inr (of_decide_eq_true rfl))|(apply qw;apply qO;exact .inr (of_decide_eq_true rfl))|apply jz|apply jA)))<;>fail) (by ((repeat' (first|exact qW|exact qV|refine qL _ ?_ ?_|refine qK ?_ ?_|exact qF|exact qe (qc _)|exact qe (qR _)|exact qe (qv _)|exact qH (fun _=>rfl)|refine qM ?_|exact qm|apply qf|exact ql rfl|(apply qt;exact .inr (of_decide_eq_true rfl))|(apply qO;exact .inr (of_decide_eq_true rfl))|(apply qU;exact .inr (of_decide_eq_true rfl))|exact qe (qc []))))<;>fail) (by ((repeat' (first|exact qW|exact qV|refine qL _ ?_ ?_|refine qK ?_ ?_|exact qF|exact qe (qc _)|exact qe (qR _)|exact qe (qv _)|exact qH (fun _=>rfl)|refine qM ?_|exact qm|apply qf|exact ql rfl|(apply qt;exact .inr (of_decide_eq_true rfl))|(apply qO;exact .inr (of_decide_eq_true rfl))|(apply qU;exact .inr (of_decide_eq_true rfl))|fail)))<;>fail) ?_
   repeat' (first|refine qu ?_|(first|fail)|((first|refine qk ?_ ?_|refine qj ?_ ?_|refine xsC ?_ ?_);all_goals (intro hc;have hp:=hc;try simp at hp;try (exfalso;omega)))|refine jc ?_ ?_)
   all_goals try (exfalso;first|omega|contradiction)
   unfold YD wu
   (exact QP (rs:=[.tmp 6,.tmp 7,.tmp 8]))
 | some s =>
   rw [hS] at hm
   have iS:=(Qe rB rM rT hS).1
   refine yr [4,0,1,2,3] [5] [(4,.own false 5 [[.mp 0,.mp 1,.mp 2,.mp 3,.os 5 0 s.cps.length]]),(0,.mp (qd B)),(1,.mp (qd M)),(2,.mp (qd T)),(3,.mp (qd s.out)),(5,.own false 2 (s.cps.map Cpy.row))] 6 (.v (.bool true)) hIsFn (hm) (by ((repeat' (first|exact jp|apply ja|exact jo rfl|exact jU|(apply qw;apply qU;exact .inr (of_decide_eq_true rfl))|(apply qw;apply qt;exact .inr (of_decide_eq_true rfl))|(apply qw;apply qO;exact .inr (of_decide_eq_true rfl))|apply jz|apply jA)))<;>fail) (by ((repeat' (first|exact qW|exact qV|refine qL _ ?_ ?_|refine qK ?_ ?_|exact qF|exact qe (qc _)|exact qe (qR _)|exact qe (qv _)|exact qH (fun _=>rfl)|refine qM ?_|exact qm|apply qf|exact ql rfl|(apply qt;exact .inr (of_decide_eq_true rfl))|(apply qO;exact .inr (of_decide_eq_true rfl))|(apply qU;exact .inr (of_decide_eq_true rfl))|exact qe (qc []))))<;>fail) (by ((repeat' (first|exact qW|exact qV|refine qL _ ?_ ?_|refine qK ?_ ?_|exact qF|exact qe (qc _)|exact qe (qR _)|exact qe (qv _)|exact qH (fun _=>rfl)|refine qM ?_|exact qm|apply qf|exact ql rfl|(apply qt;exact .inr (of_decide_eq_true rfl))|(apply qO;exact .inr (of_decide_eq_true rfl))|(apply qU;exact .inr (of_decide_eq_true rfl))|fail)))<;>fail) ?_
   have lo:=KR s.out
   by_cases h60:60 < s.out.length
   ·dsimp only
    rw [if_pos h60]
    repeat' (first|refine qu ?_|(first|(apply qb;apply YP;rfl;rfl;rfl;rfl;exact nle rfl))|((first|refine qk ?_ ?_|refine qj ?_ ?_|refine xsC ?_ ?_);all_goals (intro hc;have hp:=hc;try simp at hp;try (exfalso;omega)))|refine jc ?_ ?_)
    all_goals try (exfalso;first|omega|contradiction)
    all_goals unfold YD wu
    all_goals ((exact QP (rs:=[.tmp 6,.tmp 7,.tmp 8])))
   dsimp only
   rw [if_neg h60]
   have lK:(s.out.map Ent.path).length = s.out.length:=List.length_map ..
   have ap:=Je (qd s.out) (s.out.map Ent.path) (Y7 iS.rise) (by rw [xK]) (by rw [lK];omega) (fun x hx=>by
    obtain ⟨e,he,rfl⟩:=List.mem_map.1 hx
    exact Nat.le_trans (q9 (jM (iS.ent e he)).1) (by decide))
   have hent : ∀ e,e ∈ s.out → qI C6.P 26 [.op 0 0 0,.v (str e.path),qo M,qo T] (H6 B M T s.out s.cps) (.agg (vD M T e).row) (H6 B M T s.out s.cps):=fun e he=>by
    have:=qaU B M T s.out s.cps e.path rM.rise rT.rise lM lT (qbF iS he)
    rwa [qaB iS he] at this
   generalize hO:s.out = O at *
   generalize s.cps = cs at *
   repeat' (first|refine qu ?_|(first|(apply qb;apply YP;rfl;rfl;rfl;rfl;exact nle rfl))|((first|refine qk ?_ ?_|refine qj ?_ ?_|refine xsC ?_ ?_);all_goals (intro hc;have hp:=hc;try simp at hp;try (exfalso;omega)))|refine jc ?_ ?_)
   all_goals try (exfalso;first|omega|contradiction)
   apply jm Tryz.func25 rfl rfl
   intro hIsFn2
   refine yr [3] [6] [(3,.mp (qd O)),(6,.own false 1 ((O.map Ent.path).map jy))] 7 (.os 6 0 (O.map Ent.path).length) hIsFn2 (ap) (by ((repeat' (first|exact jp|apply ja|exact jo rfl|exact jU|(apply qw;apply qU;exact .inr (of_decide_eq_true rfl))|(apply qw;apply qt;exact .inr (of_decide_eq_true rfl))|(apply qw;apply qO;exact .inr (of_decide_eq_true rfl))|apply jz|apply jA)))<;>fail) (by ((repeat' (first|exact qW|exact qV|refine qL _ ?_ ?_|refine qK ?_ ?_|exact qF|exact qe (qc _)|exact qe (qR _)|exact qe (qv _)|exact qH (fun _=>rfl)|refine qM ?_|exact qm|apply qf|exact ql rfl|(apply qt;exact .inr (of_decide_eq_true rfl))|(apply qO;exact .inr (of_decide_eq_true rfl))|(apply qU;exact .inr (of_decide_eq_true rfl))|fail)))<;>fail) (by ((repeat' (first|exact qW|exact qV|refine qL _ ?_ ?_|refine qK ?_ ?_|exact qF|exact qe (qc _)|exact qe (qR _)|exact qe (qv _)|exact qH (fun _=>rfl)|refine qM ?_|exact qm|apply qf|exact ql rfl|(apply qt;exact .inr (of_decide_eq_true rfl))|(apply qO;exact .inr (of_decide_eq_true rfl))|(apply qU;exact .inr (of_decide_eq_true rfl))|fail)))<;>fail) ?_
   repeat' (first|refine qu ?_|(first|fail)|((first|refine qk ?_ ?_|refine qj ?_ ?_|refine xsC ?_ ?_);all_goals (intro hc;have hp:=hc;try simp at hp;try (exfalso;omega)))|refine jc ?_ ?_)
   all_goals try (exfalso;first|omega|contradiction)
   clear ap
   refine Awp.red (Qo 13 4 rfl (Nat.zero_le _)) ?_
   (refine Awp.red (qN (τ:=⟨[(1,qo M),(2,qo T),(12,.op 4 0 0),(13,.os 7 0 ((O.take 0).map (vD M T)).length),(55,.os 6 0 (O.map Ent.path).length),(56,.v (.int .i64 O.length)),(57,.v (.int .i64 ((0:Nat):Int)))],[(0,.mp (qd B)),(1,.mp (qd M)),(2,.mp (qd T)),(3,.mp (qd O)),(4,.own false 5 [[.mp 0,.mp 1,.mp 2,.mp 3,.os 5 0 cs.length]]),(5,.own false 2 (cs.map Cpy.row)),(6,.own false 1 ((O.map Ent.path).map jy)),(7,.own false 4 (((O.take 0).map (vD M T)).map Ent.row))],8⟩) [(4,4),(7,7),(6,6),(5,5),(0,0),(1,1),(2,2),(3,3)] rfl ?_ ?_) ?_;rotate_left 2;rotate_left 1;(focus ((repeat (first|exact qp|refine qE ?_|refine qbe ?_|refine WO ?_|refine WP ?_ ?_|refine qbd ?_|refine ju ?_ ?_));all_goals (first|rfl|(rw [lK];done)|trace_state)));(focus ((repeat' (first|exact qh|refine qbf ?_ ?_ ?_|refine qbZ ?_|refine WY ?_ ?_|refine WX ?_ ?_|exact qm|apply qf|exact ql rfl|(apply qt;(refine .inr ?_;(repeat (first|exact List.mem_cons_self ..|apply List.mem_cons_of_mem))))|(apply qO;(refine .inr ?_;(repeat (first|exact List.mem_cons_self ..|apply List.mem_cons_of_mem))))));all_goals (first|with_reducible exact qc _|with_reducible exact List.Perm.refl _|rfl|trace_state))))
   refine jr (fun n σ => ∃ i:Nat,i ≤ O.length ∧ n = O.length - i ∧ True ∧ σ = ⟨[(1,qo M),(2,qo T),(12,.op 4 0 0),(13,.os 7 0 ((O.take i).map (vD M T)).length),(55,.os 6 0 (O.map Ent.path).length),(56,.v (.int .i64 O.length)),(57,.v (.int .i64 (i:Int)))],[(0,.mp (qd B)),(1,.mp (qd M)),(2,.mp (qd T)),(3,.mp (qd O)),(4,.own false 5 [[.mp 0,.mp 1,.mp 2,.mp 3,.os 5 0 cs.length]]),(5,.own false 2 (cs.map Cpy.row)),(6,.own false 1 ((O.map Ent.path).map jy)),(7,.own false 4 (((O.take i).map (vD M T)).map Ent.row))],8⟩) O.length ⟨0,by omega,rfl,trivial,rfl⟩ ?_
   rintro n σ ⟨i,hi,rfl, -,rfl⟩
   by_cases hlt:i < O.length
   ·have hrow:((O.map Ent.path).map jy)[i]? = some (jy O[i].path):=by rw [List.getElem?_map,List.getElem?_map,List.getElem?_eq_getElem hlt];rfl
    have hen:=hent O[i] (List.getElem_mem hlt)
    have hlt2:i < (O.map Ent.path).length:=by rw [lK];exact hlt
    have hlen:((O.take i).map (vD M T)).length = i:=by rw [List.length_map,List.length_take];omega
    have hlen2:((O.take (i + 1)).map (vD M T)).length = i + 1:=by rw [List.length_map,List.length_take];omega
    have hstep:(((O.take i).map (vD M T)).map Ent.row).take ((O.take i).map (vD M T)).length ++ [(vD M T O[i]).row] = ((O.take (i + 1)).map (vD M T)).map Ent.row:=by
     rw [List.take_of_length_le (by simp),List.take_succ_eq_append_getElem hlt,List.map_append,List.map_append];rfl
    clear hent
    repeat' (first|refine qu ?_|(first|(refine xC ?_))|((first|refine qk ?_ ?_|refine qj ?_ ?_|refine xsC ?_ ?_);all_goals (intro hc;have hp:=hc;try simp at hp;try (exfalso;omega)))|refine jc ?_ ?_)
    all_goals try (exfalso;first|omega|contradiction)
    apply jm Tryz.func26 rfl rfl
    intro hIsFn3
    refine yr [4,0,1,2,3,5] [] [(4,.own false 5 [[.mp 0,.mp 1,.mp 2,.mp 3,.os 5 0 cs.length]]),(0,.mp (qd B)),(1,.mp (qd M)),(2,.mp (qd T)),(3,.mp (qd O)),(5,.own false 2 (cs.map Cpy.row))] 8 (.agg (vD M T O[i]).row) hIsFn3 (hen) (by ((repeat' (first|exact jp|apply ja|exact jo rfl|exact jU|(apply qw;apply qU;exact .inr (of_decide_eq_true rfl))|(apply qw;apply qt;exact .inr (of_decide_eq_true rfl))|(apply qw;apply qO;exact .inr (of_decide_eq_true rfl))|apply jz|apply jA)))<;>fail) (by ((repeat' (first|exact qW|exact qV|refine qL _ ?_ ?_|refine qK ?_ ?_|exact qF|exact qe (qc _)|exact qe (qR _)|exact qe (qv _)|exact qH (fun _=>rfl)|refine qM ?_|exact qm|apply qf|exact ql rfl|(apply qt;exact .inr (of_decide_eq_true rfl))|(apply qO;exact .inr (of_decide_eq_true rfl))|(apply qU;exact .inr (of_decide_eq_true rfl))|fail)))<;>fail) (by ((repeat' (first|exact qW|exact qV|refine qL _ ?_ ?_|refine qK ?_ ?_|exact qF|exact qe (qc _)|exact qe (qR _)|exact qe (qv _)|exact qH (fun _=>rfl)|refine qM ?_|exact qm|apply qf|exact ql rfl|(apply qt;exact .inr (of_decide_eq_true rfl))|(apply qO;exact .inr (of_decide_eq_true rfl))|(apply qU;exact .inr (of_decide_eq_true rfl))|fail)))<;>fail) ?_
    generalize vD M T O[i] = e at *
    repeat' (first|refine qu ?_|(first|(refine yu ?_)|(refine v2 ?_))|((first|refine qk ?_ ?_|refine qj ?_ ?_|refine xsC ?_ ?_);all_goals (intro hc;have hp:=hc;try simp at hp;try (exfalso;omega)))|refine jc ?_ ?_)
    all_goals try (exfalso;first|omega|contradiction)
    refine ⟨O.length - (i + 1),⟨[(1,qo M),(2,qo T),(12,.op 4 0 0),(13,.os 7 0 ((O.take (i + 1)).map (vD M T)).length),(55,.os 6 0 (O.map Ent.path).length),(56,.v (.int .i64 O.length)),(57,.v (.int .i64 ((i + 1:Nat):Int)))],[(0,.mp (qd B)),(1,.mp (qd M)),(2,.mp (qd T)),(3,.mp (qd O)),(4,.own false 5 [[.mp 0,.mp 1,.mp 2,.mp 3,.os 5 0 cs.length]]),(5,.own false 2 (cs.map Cpy.row)),(6,.own false 1 ((O.map Ent.path).map jy)),(7,.own false 4 (((O.take (i + 1)).map (vD M T)).map Ent.row))],8⟩,by omega,?_,i + 1,by omega,rfl,trivial,rfl⟩;(skip);refine qN [(4,4),(8,7),(6,6),(5,5),(0,0),(1,1),(2,2),(3,3)] rfl ?_ ?_;(focus ((repeat (first|exact qp|refine qE ?_|refine qbe ?_|refine WO ?_|refine WP ?_ ?_|refine qbd ?_|refine ju ?_ ?_));all_goals (first|rfl|(rw [hlen,hlen2];rfl)|omega|trace_state)));(focus ((repeat' (first|exact qh|refine qbf ?_ ?_ ?_|refine qbZ ?_|refine WY ?_ ?_|refine WX ?_ ?_|exact qm|apply qf|exact ql rfl|(apply qt;(refine .inr ?_;(repeat (first|exact List.mem_cons_self ..|apply List.mem_cons_of_mem))))|(apply qO;(refine .inr ?_;(repeat (first|exact List.mem_cons_self ..|apply List.mem_cons_of_mem))))));all_goals (first|with_reducible exact qc _|with_reducible exact List.Perm.refl _|exact hstep|rfl|trace_state)))
   obtain rfl:i = O.length:=by omega
   rw [List.take_length]
   clear hent
   repeat' (first|refine qu ?_|(first|fail)|((first|refine qk ?_ ?_|refine qj ?_ ?_|refine xsC ?_ ?_);all_goals (intro hc;have hp:=hc;try simp at hp;try (exfalso;omega)))|refine jc ?_ ?_)
   all_goals try (exfalso;first|omega|contradiction)
   unfold YD wu
   (exact QP (rs:=[.tmp 6,.tmp 7,.tmp 8]))
end Go.Proofs.YtnhpclmbhbblbaaGreatDoor
set_option linter.unusedSimpArgs false
set_option linter.unnecessarySimpa false
set_option linter.unusedVariables false
set_option maxHeartbeats 1000000
namespace Go.Proofs.YtnhpclmbhbblbaaGreatDoor
open Go.Ab Go.RowKit
set_option maxRecDepth 10000
attribute [local irreducible] Awp jW jh jn Red qD Go.Ab.Fin qI Rz x4 ji jf ResOk jQ jq yl jg
theorem Xg:x6 C.P 11 [] (.v (.bool true)):=by
 have h1:x6 C.P 7 [.sl false [],.sl false [[.v (str [102]),.v (.bool false),.v (str [49]),.v (.int .i64 1)]],.sl false [[.v (str [102]),.v (.bool false),.v (str [50]),.v (.int .i64 3)]]] (YD ([⟨[102],false,[50],3⟩,⟨[102,32,40,49,41],false,[49],1⟩],[⟨[102],[102,32,40,49,41]⟩],0)):=by
  have h:=ZQ [] [⟨[102],false,[49],1⟩] [⟨[102],false,[50],3⟩] ⟨by simp,by simp⟩ ⟨by simp [Ent.small],by simp⟩ ⟨by simp [Ent.small],by simp⟩
  rw [show xd [] [⟨[102],false,[49],1⟩] [⟨[102],false,[50],3⟩] = ([⟨[102],false,[50],3⟩,⟨[102,32,40,49,41],false,[49],1⟩],[⟨[102],[102,32,40,49,41]⟩],0) from by decide +kernel] at h
  exact h
 refine qa Tryz.func11 rfl _ Tryz.ntmps11 (Nat.le_of_ble_eq_true rfl) _ Tryz.results11 0 rfl rfl ?_
 repeat' (first|refine qu ?_|(first|(refine yu ?_)|refine xP Tryz.func7 (h1 ..) ?_)|((first|refine qk ?_ ?_|refine qj ?_ ?_|refine xsC ?_ ?_);all_goals (intro hc;have hp:=hc;try simp at hp;try (exfalso;omega)))|refine jc ?_ ?_)
 all_goals try (exfalso;simp_all;done)
 all_goals (apply yH;rfl;simp;done)
end Go.Proofs.YtnhpclmbhbblbaaGreatDoor
set_option linter.unusedSimpArgs false
set_option linter.unnecessarySimpa false
set_option linter.unusedVariables false
set_option maxHeartbeats 1000000
namespace Go.Proofs.YtnhpclmbhbblbaaGreatDoor
open Go.Ab Go.RowKit
set_option maxRecDepth 10000
attribute [local irreducible] Awp jW jh jn Red qD Go.Ab.Fin qI Rz x4 ji jf ResOk jQ jq yl jg
theorem XA {b m t:List Ent} (h:(xd b m t).2.2 = 0):qA b = 0 ∧ qA m = 0 ∧ qA t = 0:=by
 by_cases hb:qA b = 0
 case neg=>rw [YY hb] at h;exact absurd h hb
 by_cases hm:qA m = 0
 case neg=>rw [YZ hb hm] at h;exact absurd h hm
 by_cases ht:qA t = 0
 case neg=>rw [Y0 hb hm ht] at h;exact absurd h ht
 exact ⟨hb,hm,ht⟩
end Go.Proofs.YtnhpclmbhbblbaaGreatDoor
set_option linter.unusedSimpArgs false
set_option linter.unnecessarySimpa false
set_option linter.unusedVariables false
namespace Go.Proofs.YtnhpclmbhbblbaaGreatDoor
open Go.Ab
theorem WW (L l:List qx):(L.foldl vL l).length ≤ l.length + L.length:=by
 have:=zG L l
 omega
theorem qat (b m t:List Ent):(y4 b m t).length ≤ b.length + (m.length + t.length):=by
 have h:=WW ((b ++ (m ++ t)).map Ent.path) []
 rw [List.length_map,List.length_append,List.length_append,List.length_nil,Nat.zero_add] at h
 exact h
theorem qaZ {m t:List Ent} {s s' : MS} {q:qx} (h:kN m t s q = some s'):s'.cps.length ≤ s.cps.length + 1:=by
 unfold kN at h
 split at h
 ·injection h with h;subst h;omega
 ·split at h
  ·have:=QU h;simp at this;omega
  ·injection h with h;subst h;simp
theorem VK {m t:List Ent} : ∀ {qs:List qx} {s s' : MS},v8 m t qs s = some s' → s'.cps.length ≤ s.cps.length + qs.length
 | [],s,s',h=>by injection h with h;subst h;simp
 | q :: qs,s,s',h=>by
   unfold v8 at h
   cases h1:kN m t s q with
   | none=>rw [h1] at h;cases h
   | some s1 =>
     rw [h1] at h
     have h2:=qaZ h1
     have h3:=VK (qs:=qs) h
     simp only [List.length_cons]
     omega
theorem ZW : ∀ {L:List qx},(∀ p,p ∈ L → qn p = 0) → (L.flatMap q0).length ≤ 80 * L.length
 | [],_=>by simp
 | p :: L,h=>by
   have h1:=VL (h p (List.mem_cons_self ..))
   have h2:=ZW (L:=L) fun q hq=>h q (List.mem_cons_of_mem _ hq)
   rw [List.flatMap_cons,List.length_append,List.length_cons]
   omega
theorem Zx {b m t:List Ent} {s:MS} (hb:Right b) (hm:Right m) (ht:Right t) (h:xx b m t = some s):s.cps.length ≤ 1000000:=by
 unfold xx at h
 have hP:=qat b m t
 have lb:=hb.len
 have lm:=hm.len
 have lt:=ht.len
 cases h1:Yw m t (yy b m t (y4 b m t)) ⟨yK b m t (y4 b m t),[]⟩ with
 | none=>rw [h1] at h;cases h
 | some s1 =>
   rw [h1] at h
   have g1:=Vr h1
   have g2:=Xu h1
   have g3:=Vt b m t (y4 b m t)
   have g4:=XI b m t (y4 b m t) []
   have g5:(yK b m t (y4 b m t)).length ≤ 180:=by
    rw [List.length_nil,Nat.zero_add] at g4
    exact Nat.le_trans g4 (by omega)
   simp only [List.length_nil] at g1
   have hi:=Jm (s:=⟨yK b m t (y4 b m t),[]⟩) (Ql hb hm ht) (z8 hb hm ht) h1
   have f1:=ZW (L:=s1.out.map Ent.path) fun p hp=>by
    obtain ⟨x,hx,rfl⟩:=List.mem_map.1 hp
    exact (jM (hi.ent x hx)).1
   have h2:=VK h
   rw [List.length_map] at f1
   simp only at g2
   omega
theorem Zw {b m t:List Ent} (hb:Right b) (hm:Right m) (ht:Right t) (h:(xe b m t).2.2 = 0):(xe b m t).2.1.length ≤ 1000000:=by
 unfold xe at *
 cases hs:xx b m t with
 | none=>simp
 | some s =>
   simp only
   split
   ·simp
   ·exact Zx hb hm ht hs
theorem Xz {b m t:List Ent} (h:¬ (xd b m t).2.2 = 0):(xd b m t).1 = [] ∧ (xd b m t).2.1 = []:=by
 unfold xd at *
 split at h
 ·rename_i h1
  rw [if_pos h1]
  unfold xe at *
  cases hs:xx b m t with
  | none=>exact ⟨rfl,rfl⟩
  | some s =>
    rw [hs] at h
    simp only at h ⊢
    split at h
    ·rename_i h60;rw [if_pos h60];exact ⟨rfl,rfl⟩
    ·exact absurd rfl h
 ·rename_i h1
  rw [if_neg h1]
  exact ⟨rfl,rfl⟩
end Go.Proofs.YtnhpclmbhbblbaaGreatDoor
set_option linter.unusedSimpArgs false
set_option linter.unnecessarySimpa false
set_option linter.unusedVariables false
namespace Go.Proofs.YtnhpclmbhbblbaaGreatDoor
open Go.Ab Go.RowKit
set_option maxRecDepth 10000
attribute [local irreducible] Awp jW jh jn Red qD Go.Ab.Fin qI Rz x4 ji jf ResOk jQ jq yl jg
def JB (o:List Ent) (l:List Cpy) (p x:qx):Prop:=stT o p = ⟨2,x⟩ ∨ ∃ c,c ∈ l ∧ c.path = p ∧ stT o c.at_ = ⟨2,x⟩
theorem qa4 {f:Ent → Ent} (hp : ∀ x,(f x).path = x.path) (ht : ∀ x,yw (f x) = yw x) (t:List Ent) (p:qx):stT (t.map f) p = stT t p:=by
 unfold stT
 rw [J9 hp]
 cases qG t p<;>simp [ht]
theorem Q8 {b m t:List Ent} (hb:Right b) (hm:Right m) (ht:Right t) (h:(xe b m t).2.2 = 0) {p x:qx} (hx:stT m p = ⟨2,x⟩ ∨ stT t p = ⟨2,x⟩) (hbx:¬ stT b p = ⟨2,x⟩):JB (xe b m t).1 (xe b m t).2.1 p x:=by
 unfold xe at *
 cases hs:xx b m t with
 | none=>rw [hs] at h;exact absurd (show (2:Int) = 0 from h) (by decide)
 | some s =>
   rw [hs] at h
   simp only at h ⊢
   split at h
   ·exact absurd (show (2:Int) = 0 from h) (by decide)
   ·rename_i h60
    rw [if_neg h60]
    have hst : ∀ q,stT (s.out.map (vD m t)) q = stT s.out q:=qa4 (f:=vD m t) (fun _=>rfl) (fun _=>rfl) _
    rcases VC hb hm ht hs hx hbx with h1|⟨c,c1,c2,c3⟩
    ·exact .inl ((hst p).trans h1)
    ·exact .inr ⟨c,c1,c2,(hst _).trans c3⟩
theorem qbG (t:List Ent) (p:qx):(xn (atP p) t = -1 ∧ stT t p = noT) ∨ ∃ (k:Nat) (h:k < t.length),xn (atP p) t = k ∧ stT t p = yw t[k]:=by
 rcases Zp (atP p) t with ⟨h1,h2⟩|⟨k,hk,h1,h2⟩
 ·exact .inl ⟨h1,by unfold stT qG;rw [h2]⟩
 ·exact .inr ⟨k,hk,h1,by unfold stT qG;rw [h2]⟩
def xH (o:List Ent) (l:List Cpy) (p x:qx) (j:Nat):Bool:=decide (stT o p = ⟨2,x⟩) || (l.take j).any (fun c=>decide (c.path = p) && decide (stT o c.at_ = ⟨2,x⟩))
theorem Vp {o:List Ent} {l:List Cpy} {p x:qx} {j:Nat} (h:j < l.length) (hf:xH o l p x j = false):xH o l p x (j + 1) = (decide (l[j].path = p) && decide (stT o l[j].at_ = ⟨2,x⟩)):=by
 unfold xH at *
 rw [List.take_succ_eq_append_getElem h,List.any_append]
 rw [Bool.or_eq_false_iff] at hf
 rw [hf.1,hf.2]
 simp
theorem Zn {o:List Ent} {l:List Cpy} {p x:qx} (h:JB o l p x):xH o l p x l.length = true:=by
 unfold xH
 rw [List.take_length]
 rcases h with h|⟨c,c1,c2,c3⟩
 ·simp [h]
 ·rw [Bool.or_eq_true]
  exact .inr (List.any_eq_true.2 ⟨c,c1,by simp [c2,c3]⟩)
theorem ZJ (e:Ent) (x:qx):decide (yw e = ⟨2,x⟩) = (!e.fold && decide (e.text = x)):=by
 unfold yw
 cases e.fold<;>simp
theorem XU (t:List Ent) (p:qx):(xn (atP p) t = -1 ∧ stT t p = noT) ∨ ∃ (k:Nat) (y:Ent),k < t.length ∧ xn (atP p) t = k ∧ (t.map Ent.row)[k]? = some y.row ∧ stT t p = yw y:=by
 rcases qbG t p with h|⟨k,hk,h1,h2⟩
 ·exact .inl h
 ·exact .inr ⟨k,t[k],hk,h1,yA (f:=Ent.row) hk,h2⟩
theorem kZ {y:Ent} {x:qx}:yw y = ⟨2,x⟩ ↔ y.fold = false ∧ y.text = x:=by
 have:=ZJ y x
 cases hf:y.fold<;>simp [hf,yw]
end Go.Proofs.YtnhpclmbhbblbaaGreatDoor
set_option linter.unusedSimpArgs false
set_option linter.unnecessarySimpa false
set_option linter.unusedVariables false
set_option maxHeartbeats 1000000
namespace Go.Proofs.YtnhpclmbhbblbaaGreatDoor
open Go.Ab Go.RowKit
set_option maxRecDepth 10000
attribute [local irreducible] Awp jW jh jn Red qD Go.Ab.Fin qI Rz x4 ji jf ResOk jQ jq yl jg
theorem qby {L:List (Nat × Nat)} {nh:Nat} {σ:St} {n n' k:Nat} {ex:Bool} {rows rows' : List (List AV)} (hn:qB σ.hs n = .own ex k rows) (h2:Maps L nh n n') (hr:rows = rows') (hp : ∀ row,row ∈ rows' → AV.pure.pureL row = true):yO L nh σ [(n',.own false k rows')]:=by
 subst hr
 exact ⟨⟨n,h2,by rw [hn];exact ⟨(fun h=>by cases h),rfl,vM hp⟩⟩,trivial⟩
theorem WH (x:qx):¬ noT = ⟨2,x⟩:=fun h=>by cases h
noncomputable def dig:List Nat → Code → Code
 | [],c=>c
 | 0 :: p,.seq a _=>dig p a
 | 1 :: p,.seq _ b=>dig p b
 | 2 :: p,.block _ c=>dig p c
 | 3 :: p,.loop c=>dig p c
 | _,c=>c
noncomputable def puc:List Nat → Code → Code → Code
 | [],T,_=>T
 | 0 :: p,T,.seq a b => .seq (puc p T a) b
 | 1 :: p,T,.seq a b => .seq a (puc p T b)
 | 2 :: p,T,.block n c => .block n (puc p T c)
 | 3 :: p,T,.loop c => .loop (puc p T c)
 | _,_,c=>c
noncomputable def zK:Code:=match Tryz.f16.body with|some c=>c|none => .skip
theorem qaO:zK = puc [1,0,1,2,3,1,0,2,1,1,1,1,1] (dig [1,0,1,2,3,1,0,2,1,1,1,1,1] zK) zK:=by kernel_rfl
set_option maxHeartbeats 8000000 in
theorem qaP (B U O:List Ent) (l:List Cpy) (i:Nat) (xp xt:qx) (xv:Int) (ll:l.length ≤ 1000000) (hK:xH O l xp xt l.length = true)
  (hin : ∀ j (hj:j < l.length), ∃ kA:Int,x6 C.P 34 [qo O,.v (str l[j].at_)] (.v (.int .i64 kA)) ∧ (kA = -1 ∧ stT O l[j].at_ = noT ∨ ∃ (k:Nat) (y:Ent),k < O.length ∧ kA = k ∧ (O.map Ent.row)[k]? = some y.row ∧ stT O l[j].at_ = yw y))
  {Q:Exit → St → Prop} (hQp : ∀ ch ts hs nx,C.die ch ts hs → Q (.panic ch) ⟨ts,hs,nx⟩) (hQ : ∀ σ',Red C σ' ⟨[(0,qo B),(1,qo U),(2,qo O),(3,.sl false (l.map Cpy.row)),(9,.v (.int .i64 (i:Int)))],[],0⟩ → Q .normal σ') :
  Awp C 121 (dig [1,0,1,2,3,1,0,2,1,1,1,1,1] zK) Q ⟨[(0,qo B),(1,qo U),(2,qo O),(3,.sl false (l.map Cpy.row)),(9,.v (.int .i64 (i:Int))),(10,.op 0 0 0),(12,.v (.bool (xH O l xp xt 0)))],[(0,.own false 4 [Ent.row ⟨xp,false,xt,xv⟩])],1⟩:=by
 conv=>arg 3;whnf
 have hml:(l.map Cpy.row).length = l.length:=List.length_map ..
 have hmO:(O.map Ent.row).length = O.length:=List.length_map ..
 repeat' (first|(refine yW ?_ ?_;rotate_left;exact hQp)|(first|refine qu ?_|fail|((first|refine qk ?_ ?_|refine qj ?_ ?_|refine xsC ?_ ?_);all_goals (intro hc;have hp:=hc;try simp at hp;try (exfalso;omega)))|refine jc ?_ ?_))
 (refine Awp.red (qN (τ:=⟨[(0,qo B),(1,qo U),(2,qo O),(3,.sl false (l.map Cpy.row)),(9,.v (.int .i64 (i:Int))),(10,.op 0 0 0),(12,.v (.bool (xH O l xp xt 0))),(14,.v (.int .i64 ((0:Nat):Int)))],[(0,.own false 4 [Ent.row ⟨xp,false,xt,xv⟩])],1⟩) [(0,0)] rfl ?gts2 ?ghs2) ?_;(case gts2=>(repeat (first|exact qp|refine qE ?_|refine yq ?_|refine j1 ?_|refine xg ?_|refine j3 ?_ ?_|refine ju ?_ ?_));all_goals trace_state);(case ghs2=>(repeat' (first|exact qh|refine jv ?_|refine jZ ?_ ?_|refine x5 ?_|refine q7 ?_ ?_|exact qm|apply qf|exact ql rfl|exact qX rfl|refine qX ?_|(apply ren_clo1;(first|exact qq rfl|exact .inr (List.mem_cons_self ..)|exact .inr (List.mem_cons_of_mem _ (List.mem_cons_self ..))|exact .inr (List.mem_cons_of_mem _ (List.mem_cons_of_mem _ (List.mem_cons_self ..)))|exact .inr (List.mem_cons_of_mem _ (List.mem_cons_of_mem _ (List.mem_cons_of_mem _ (List.mem_cons_self ..))))))));all_goals trace_state))
 refine jr (fun n σ => ∃ j:Nat,j ≤ l.length ∧ n = l.length - j ∧ True ∧ σ = ⟨[(0,qo B),(1,qo U),(2,qo O),(3,.sl false (l.map Cpy.row)),(9,.v (.int .i64 (i:Int))),(10,.op 0 0 0),(12,.v (.bool (xH O l xp xt j))),(14,.v (.int .i64 (j:Int)))],[(0,.own false 4 [Ent.row ⟨xp,false,xt,xv⟩])],1⟩) l.length ⟨0,by omega,rfl,trivial,rfl⟩ ?_
 rintro n σ ⟨j,hj,rfl, -,rfl⟩
 by_cases hjl:j < l.length
 ·cases hf:xH O l xp xt j with
  | true =>
    clear hin hK
    have hf' : (!true) = false:=rfl
    repeat' (first|(refine yW ?_ ?_;rotate_left;exact hQp)|(first|refine qu ?_|fail|((first|refine qk ?_ ?_|refine qj ?_ ?_|refine xsC ?_ ?_);all_goals (intro hc;have hp:=hc;try simp at hp;try (exfalso;omega)))|refine jc ?_ ?_))
    all_goals try (exfalso;first|omega|contradiction)
    all_goals (refine hQ _ (qN [] rfl ?gts ?ghs);(case gts=>(repeat (first|exact qp|refine qE ?_|refine yq ?_|refine j1 ?_|refine xg ?_|refine j3 ?_ ?_|refine ju ?_ ?_)));(case ghs=>exact qh))
  | false =>
    have hr2:=yA (f:=Cpy.row) hjl
    have hs:=Vp hjl hf
    obtain ⟨kA,h3,cA⟩:=hin j hjl
    clear hin hK hQ
    generalize l[j] = c at *
    obtain ⟨cp,ca⟩:=c
    dsimp only at *
    have hs2:xH O l xp xt (j + 1) = (decide (cp = xp) && decide (stT O ca = ⟨2,xt⟩)):=hs
    clear hs hf
    generalize hF2:xH O l xp xt (j + 1) = F2 at *
    by_cases hcp:cp = xp
    ·have d1:decide (cp = xp) = true:=decide_eq_true hcp
     rw [d1,Bool.true_and] at hs2
     rcases cA with ⟨rfl,e⟩|⟨k3,⟨wp,wf,wt,wv⟩,hk3,rfl,hr3,e⟩
     ·rw [e,decide_eq_false (WH _)] at hs2
      subst hs2
      repeat' (first|(refine yW ?_ ?_;rotate_left;exact hQp)|(first|refine qu ?_|refine yY Tryz.func34 (h3 ..) ?_|((first|refine qk ?_ ?_|refine qj ?_ ?_|refine xsC ?_ ?_);all_goals (intro hc;have hp:=hc;try simp at hp;try (exfalso;omega)))|refine jc ?_ ?_))
      all_goals try (exfalso;first|omega|contradiction)
      all_goals (refine ⟨l.length - (j + 1),⟨[(0,qo B),(1,qo U),(2,qo O),(3,.sl false (l.map Cpy.row)),(9,.v (.int .i64 (i:Int))),(10,.op 0 0 0),(12,.v (.bool false)),(14,.v (.int .i64 ((j + 1:Nat):Int)))],[(0,.own false 4 [Ent.row ⟨xp,false,xt,xv⟩])],1⟩,by omega,?_,j + 1,by omega,rfl,trivial,(by rw [hF2])⟩;refine qN [(0,0)] rfl ?gts ?ghs;(case gts=>(repeat (first|exact qp|refine qE ?_|refine yq ?_|refine j1 ?_|refine xg ?_|refine j3 ?_ ?_|refine ju ?_ ?_));all_goals trace_state);(case ghs=>(repeat' (first|exact qh|refine jv ?_|refine jZ ?_ ?_|refine x5 ?_|refine q7 ?_ ?_|exact qm|apply qf|exact ql rfl|exact qX rfl|refine qX ?_|(apply ren_clo1;(first|exact qq rfl|exact .inr (List.mem_cons_self ..)|exact .inr (List.mem_cons_of_mem _ (List.mem_cons_self ..))|exact .inr (List.mem_cons_of_mem _ (List.mem_cons_of_mem _ (List.mem_cons_self ..)))|exact .inr (List.mem_cons_of_mem _ (List.mem_cons_of_mem _ (List.mem_cons_of_mem _ (List.mem_cons_self ..))))))));all_goals trace_state))
     ·have hr3' : (O.map Ent.row)[((k3:Nat):Int).toNat]? = some (Ent.row ⟨wp,wf,wt,wv⟩):=hr3
      rw [e,ZJ] at hs2
      dsimp only at hs2
      cases wf
      all_goals simp only [Bool.not_true,Bool.not_false,Bool.true_and,Bool.false_and] at hs2
      all_goals subst hs2
      all_goals (repeat' (first|(refine yW ?_ ?_;rotate_left;exact hQp)|(first|refine qu ?_|refine yY Tryz.func34 (h3 ..) ?_|((first|refine qk ?_ ?_|refine qj ?_ ?_|refine xsC ?_ ?_);all_goals (intro hc;have hp:=hc;try simp at hp;try (exfalso;omega)))|refine jc ?_ ?_)))
      all_goals try (exfalso;first|omega|contradiction)
      ·all_goals (refine ⟨l.length - (j + 1),⟨[(0,qo B),(1,qo U),(2,qo O),(3,.sl false (l.map Cpy.row)),(9,.v (.int .i64 (i:Int))),(10,.op 0 0 0),(12,.v (.bool (decide (wt = xt)))),(14,.v (.int .i64 ((j + 1:Nat):Int)))],[(0,.own false 4 [Ent.row ⟨xp,false,xt,xv⟩])],1⟩,by omega,?_,j + 1,by omega,rfl,trivial,(by rw [hF2])⟩;refine qN [(0,0)] rfl ?gts ?ghs;(case gts=>(repeat (first|exact qp|refine qE ?_|refine yq ?_|refine j1 ?_|refine xg ?_|refine j3 ?_ ?_|refine ju ?_ ?_));all_goals trace_state);(case ghs=>(repeat' (first|exact qh|refine jv ?_|refine jZ ?_ ?_|refine x5 ?_|refine q7 ?_ ?_|exact qm|apply qf|exact ql rfl|exact qX rfl|refine qX ?_|(apply ren_clo1;(first|exact qq rfl|exact .inr (List.mem_cons_self ..)|exact .inr (List.mem_cons_of_mem _ (List.mem_cons_self ..))|exact .inr (List.mem_cons_of_mem _ (List.mem_cons_of_mem _ (List.mem_cons_self ..)))|exact .inr (List.mem_cons_of_mem _ (List.mem_cons_of_mem _ (List.mem_cons_of_mem _ (List.mem_cons_self ..))))))));all_goals trace_state))
      ·all_goals (refine ⟨l.length - (j + 1),⟨[(0,qo B),(1,qo U),(2,qo O),(3,.sl false (l.map Cpy.row)),(9,.v (.int .i64 (i:Int))),(10,.op 0 0 0),(12,.v (.bool false)),(14,.v (.int .i64 ((j + 1:Nat):Int)))],[(0,.own false 4 [Ent.row ⟨xp,false,xt,xv⟩])],1⟩,by omega,?_,j + 1,by omega,rfl,trivial,(by rw [hF2])⟩;refine qN [(0,0)] rfl ?gts ?ghs;(case gts=>(repeat (first|exact qp|refine qE ?_|refine yq ?_|refine j1 ?_|refine xg ?_|refine j3 ?_ ?_|refine ju ?_ ?_));all_goals trace_state);(case ghs=>(repeat' (first|exact qh|refine jv ?_|refine jZ ?_ ?_|refine x5 ?_|refine q7 ?_ ?_|exact qm|apply qf|exact ql rfl|exact qX rfl|refine qX ?_|(apply ren_clo1;(first|exact qq rfl|exact .inr (List.mem_cons_self ..)|exact .inr (List.mem_cons_of_mem _ (List.mem_cons_self ..))|exact .inr (List.mem_cons_of_mem _ (List.mem_cons_of_mem _ (List.mem_cons_self ..)))|exact .inr (List.mem_cons_of_mem _ (List.mem_cons_of_mem _ (List.mem_cons_of_mem _ (List.mem_cons_self ..))))))));all_goals trace_state))
    ·have d1:decide (cp = xp) = false:=decide_eq_false hcp
     rw [d1,Bool.false_and] at hs2
     subst hs2
     clear cA
     repeat' (first|(refine yW ?_ ?_;rotate_left;exact hQp)|(first|refine qu ?_|refine yY Tryz.func34 (h3 ..) ?_|((first|refine qk ?_ ?_|refine qj ?_ ?_|refine xsC ?_ ?_);all_goals (intro hc;have hp:=hc;try simp at hp;try (exfalso;omega)))|refine jc ?_ ?_))
     all_goals try (exfalso;first|omega|contradiction)
     all_goals (refine ⟨l.length - (j + 1),⟨[(0,qo B),(1,qo U),(2,qo O),(3,.sl false (l.map Cpy.row)),(9,.v (.int .i64 (i:Int))),(10,.op 0 0 0),(12,.v (.bool false)),(14,.v (.int .i64 ((j + 1:Nat):Int)))],[(0,.own false 4 [Ent.row ⟨xp,false,xt,xv⟩])],1⟩,by omega,?_,j + 1,by omega,rfl,trivial,(by rw [hF2])⟩;refine qN [(0,0)] rfl ?gts ?ghs;(case gts=>(repeat (first|exact qp|refine qE ?_|refine yq ?_|refine j1 ?_|refine xg ?_|refine j3 ?_ ?_|refine ju ?_ ?_));all_goals trace_state);(case ghs=>(repeat' (first|exact qh|refine jv ?_|refine jZ ?_ ?_|refine x5 ?_|refine q7 ?_ ?_|exact qm|apply qf|exact ql rfl|exact qX rfl|refine qX ?_|(apply ren_clo1;(first|exact qq rfl|exact .inr (List.mem_cons_self ..)|exact .inr (List.mem_cons_of_mem _ (List.mem_cons_self ..))|exact .inr (List.mem_cons_of_mem _ (List.mem_cons_of_mem _ (List.mem_cons_self ..)))|exact .inr (List.mem_cons_of_mem _ (List.mem_cons_of_mem _ (List.mem_cons_of_mem _ (List.mem_cons_self ..))))))));all_goals trace_state))
 ·obtain rfl:j = l.length:=by omega
  rw [hK]
  clear hin hK
  repeat' (first|(refine yW ?_ ?_;rotate_left;exact hQp)|(first|refine qu ?_|fail|((first|refine qk ?_ ?_|refine qj ?_ ?_|refine xsC ?_ ?_);all_goals (intro hc;have hp:=hc;try simp at hp;try (exfalso;omega)))|refine jc ?_ ?_))
  all_goals try (exfalso;first|omega|contradiction)
  all_goals (refine hQ _ (qN [] rfl ?gts ?ghs);(case gts=>(repeat (first|exact qp|refine qE ?_|refine yq ?_|refine j1 ?_|refine xg ?_|refine j3 ?_ ?_|refine ju ?_ ?_)));(case ghs=>exact qh))
set_option maxHeartbeats 8000000 in
theorem K7 (B U O:List Ent) (l:List Cpy) (lB:B.length ≤ 1000000) (lU:U.length ≤ 1000000) (lO:O.length ≤ 1000000) (ll:l.length ≤ 1000000)
  (h : ∀ x,x ∈ U → x.fold = false → ¬ stT B x.path = ⟨2,x.text⟩ → JB O l x.path x.text):x6 C.P 16 [qo B,qo U,qo O,wu l] (.v (.bool true)):=by
 have hml:(l.map Cpy.row).length = l.length:=List.length_map ..
 have hmB:(B.map Ent.row).length = B.length:=List.length_map ..
 have hmO:(O.map Ent.row).length = O.length:=List.length_map ..
 unfold wu
 refine qa Tryz.func16 rfl _ Tryz.ntmps16 (Nat.le_of_ble_eq_true rfl) _ Tryz.results16 0 rfl rfl ?_
 change Awp C 121 zK _ _
 rw [qaO]
 generalize hTT:dig [1,0,1,2,3,1,0,2,1,1,1,1,1] zK = TT
 conv =>
  arg 3;whnf
  arg 2;whnf
  arg 1;whnf
  arg 2;whnf
  arg 2;whnf
  arg 1;whnf
  arg 2;whnf
  arg 1;whnf
  arg 2;whnf
  arg 2;whnf
  arg 2;whnf
  arg 2;whnf
  arg 2;whnf
  arg 2;whnf
 repeat' (first|refine qu ?_|fail|((first|refine qk ?_ ?_|refine qj ?_ ?_|refine xsC ?_ ?_);all_goals (intro hc;have hp:=hc;try simp at hp;try (exfalso;omega)))|refine jc ?_ ?_)
 (refine Awp.red (jt (ts:=[(0,qo B),(1,qo U),(2,qo O),(3,.sl false (l.map Cpy.row)),(9,.v (.int .i64 ((0:Nat):Int)))]) ?_) ?_;((repeat (first|exact qp|refine qE ?_|refine ju ?_ ?_))))
 refine jr (fun n σ => ∃ i:Nat,i ≤ U.length ∧ n = U.length - i ∧ (True) ∧ σ = ⟨[(0,qo B),(1,qo U),(2,qo O),(3,.sl false (l.map Cpy.row)),(9,.v (.int .i64 (i:Int)))],[],C.nh⟩) U.length ⟨0,Nat.zero_le _,rfl,trivial,rfl⟩ ?_
 rintro n σ ⟨i,hi,rfl, -,rfl⟩
 by_cases hlt:i < U.length
 ·have hr:=yA (f:=Ent.row) hlt
  have hx:=h U[i] (List.getElem_mem hlt)
  clear h
  generalize U[i] = x at *
  obtain ⟨xp,xf,xt,xv⟩:=x
  dsimp only at hx
  cases xf with
  | true =>
    repeat' (first|refine qu ?_|fail|((first|refine qk ?_ ?_|refine qj ?_ ?_|refine xsC ?_ ?_);all_goals (intro hc;have hp:=hc;try simp at hp;try (exfalso;omega)))|refine jc ?_ ?_)
    all_goals try (exfalso;first|omega|contradiction)
    all_goals (refine ⟨U.length - (i + 1),⟨[(0,qo B),(1,qo U),(2,qo O),(3,.sl false (l.map Cpy.row)),(9,.v (.int .i64 ((i + 1:Nat):Int)))],[],0⟩,by omega,?_,i + 1,by omega,rfl,trivial,rfl⟩;refine qN [] rfl ?gts ?ghs;(case gts=>(repeat (first|exact qp|refine qE ?_|refine yq ?_|refine j1 ?_|refine xg ?_|refine j3 ?_ ?_|refine ju ?_ ?_));all_goals trace_state);(case ghs=>(repeat' (first|exact qh|refine jv ?_|refine jZ ?_ ?_|refine x5 ?_|refine q7 ?_ ?_|exact qm|apply qf|exact ql rfl|exact qX rfl|refine qX ?_|(apply ren_clo1;(first|exact qq rfl|exact .inr (List.mem_cons_self ..)|exact .inr (List.mem_cons_of_mem _ (List.mem_cons_self ..))|exact .inr (List.mem_cons_of_mem _ (List.mem_cons_of_mem _ (List.mem_cons_self ..)))|exact .inr (List.mem_cons_of_mem _ (List.mem_cons_of_mem _ (List.mem_cons_of_mem _ (List.mem_cons_self ..))))))));all_goals trace_state))
  | false =>
    have h1:=Qy B xp (by omega)
    have h2:=Qy O xp (by omega)
    by_cases hb:stT B xp = ⟨2,xt⟩
    ·rcases XU B xp with ⟨e1,e2⟩|⟨k,y,hk,e1,e2,e3⟩
     ·exact absurd (e2.symm.trans hb) (WH _)
     ·rw [e1] at h1
      rw [e3,kZ] at hb
      obtain ⟨yp,yf,yt,yv⟩:=y
      dsimp only at hb
      obtain ⟨rfl,rfl⟩:=hb
      clear hx h2
      have e2' : (B.map Ent.row)[((k:Nat):Int).toNat]? = some (Ent.row ⟨yp,false,yt,yv⟩):=e2
      repeat' (first|refine qu ?_|(first|refine yY Tryz.func34 (h1 ..) ?_)|((first|refine qk ?_ ?_|refine qj ?_ ?_|refine xsC ?_ ?_);all_goals (intro hc;have hp:=hc;try simp at hp;try (exfalso;omega)))|refine jc ?_ ?_)
      all_goals try (exfalso;first|omega|contradiction|simp_all;done)
      all_goals (refine ⟨U.length - (i + 1),⟨[(0,qo B),(1,qo U),(2,qo O),(3,.sl false (l.map Cpy.row)),(9,.v (.int .i64 ((i + 1:Nat):Int)))],[],0⟩,by omega,?_,i + 1,by omega,rfl,trivial,rfl⟩;refine qN [] rfl ?gts ?ghs;(case gts=>(repeat (first|exact qp|refine qE ?_|refine yq ?_|refine j1 ?_|refine xg ?_|refine j3 ?_ ?_|refine ju ?_ ?_));all_goals trace_state);(case ghs=>(repeat' (first|exact qh|refine jv ?_|refine jZ ?_ ?_|refine x5 ?_|refine q7 ?_ ?_|exact qm|apply qf|exact ql rfl|exact qX rfl|refine qX ?_|(apply ren_clo1;(first|exact qq rfl|exact .inr (List.mem_cons_self ..)|exact .inr (List.mem_cons_of_mem _ (List.mem_cons_self ..))|exact .inr (List.mem_cons_of_mem _ (List.mem_cons_of_mem _ (List.mem_cons_self ..)))|exact .inr (List.mem_cons_of_mem _ (List.mem_cons_of_mem _ (List.mem_cons_of_mem _ (List.mem_cons_self ..))))))));all_goals trace_state))
    ·have hK:=Zn (hx rfl hb)
     clear hx
     have hB : ∃ kB:Int,xn (atP xp) B = kB ∧ (kB = -1 ∨ ∃ (k:Nat) (y:Ent),k < B.length ∧ kB = k ∧ (B.map Ent.row)[k]? = some y.row ∧ (y.fold = true ∨ y.fold = false ∧ ¬ y.text = xt)):=by
      rcases XU B xp with ⟨e1,e2⟩|⟨k,y,hk,e1,e2,e3⟩
      ·exact ⟨_,e1,.inl rfl⟩
      ·refine ⟨_,e1,.inr ⟨k,y,hk,rfl,e2,?_⟩⟩
       rw [e3,kZ] at hb
       cases hf:y.fold
       ·exact .inr ⟨rfl,fun e=>hb ⟨hf,e⟩⟩
       ·exact .inl rfl
     obtain ⟨kB,e1,cB⟩:=hB
     rw [e1] at h1
     have hO : ∃ kO:Int,xn (atP xp) O = kO ∧ (kO = -1 ∧ xH O l xp xt 0 = false ∨ ∃ (k:Nat) (y:Ent),k < O.length ∧ kO = k ∧ (O.map Ent.row)[k]? = some y.row ∧ xH O l xp xt 0 = (!y.fold && decide (y.text = xt))):=by
      rcases XU O xp with ⟨e1,e2⟩|⟨k,y,hk,e1,e2,e3⟩
      ·exact ⟨_,e1,.inl ⟨rfl,by unfold xH;rw [e2];simp [noT]⟩⟩
      ·exact ⟨_,e1,.inr ⟨k,y,hk,rfl,e2,by unfold xH;rw [e3,ZJ];simp⟩⟩
     obtain ⟨kO,e2,cO⟩:=hO
     rw [e2] at h2
     clear e1 e2 hb
     have hin : ∀ j (hj:j < l.length), ∃ kA:Int,x6 C.P 34 [qo O,.v (str l[j].at_)] (.v (.int .i64 kA)) ∧ (kA = -1 ∧ stT O l[j].at_ = noT ∨ ∃ (k:Nat) (y:Ent),k < O.length ∧ kA = k ∧ (O.map Ent.row)[k]? = some y.row ∧ stT O l[j].at_ = yw y):=fun j hj=>by
      have h3:=Qy O l[j].at_ (by omega)
      rcases XU O l[j].at_ with ⟨e1,e2⟩|⟨k,y,hk,e1,e2,e3⟩
      ·exact ⟨_,e1 ▸ h3,.inl ⟨rfl,e2⟩⟩
      ·exact ⟨_,e1 ▸ h3,.inr ⟨k,y,hk,rfl,e2,e3⟩⟩
     rcases cB with rfl|⟨k,⟨yp,yf,yt,yv⟩,hk,rfl,hrB,cB⟩
     case' inr =>
      have hrB' : (B.map Ent.row)[((k:Nat):Int).toNat]? = some (Ent.row ⟨yp,yf,yt,yv⟩):=hrB
      dsimp only at cB
      rcases cB with rfl|⟨rfl,cB⟩
     all_goals (rcases cO with ⟨rfl,hF⟩|⟨kk,⟨zp,zf,zt,zv⟩,hkk,rfl,hrO,hF⟩)
     all_goals (try (have hrO' : (O.map Ent.row)[((kk:Nat):Int).toNat]? = some (Ent.row ⟨zp,zf,zt,zv⟩):=hrO))
     all_goals (try dsimp only at hF)
     all_goals (try (cases zf))
     all_goals (try simp only [Bool.not_true,Bool.not_false,Bool.true_and,Bool.false_and] at hF)
     all_goals (have hk:=fun (Q:Exit → St → Prop) => @qaP B U O l i xp xt xv ll hK hin Q)
     all_goals (rw [hTT] at hk)
     all_goals (clear hK hin)
     all_goals (repeat' (first|refine qu ?_|(first|refine yY Tryz.func34 (h1 ..) ?_|refine yY Tryz.func34 (h2 ..) ?_)|((first|refine qk ?_ ?_|refine qj ?_ ?_|refine xsC ?_ ?_);all_goals (intro hc;have hp:=hc;try simp at hp;try (exfalso;omega)))|refine jc ?_ ?_))
     all_goals try (exfalso;first|omega|contradiction|simp_all;done)
     all_goals (refine Awp.red (qN (τ:=⟨[(0,qo B),(1,qo U),(2,qo O),(3,.sl false (l.map Cpy.row)),(9,.v (.int .i64 (i:Int))),(10,.op 0 0 0),(12,.v (.bool (xH O l xp xt 0)))],[(0,.own false 4 [Ent.row ⟨xp,false,xt,xv⟩])],1⟩) [(0,0)] rfl ?_ ?_) ?_;rotate_left 2;(apply hk;(exact fun _ _ _ _ h=>h));intro σ' h;refine Awp.red h ?_;rotate_left 1;(focus ((repeat (first|exact qp|refine qE ?_|refine yq ?_|refine j1 ?_|refine xg ?_|refine j3 ?_ ?_|refine ju ?_ ?_));all_goals (first|(rw [hF];done)|exact congrArg (fun b=>AV.v (.bool b)) hF.symm)));(focus (exact qby (n:=0) rfl (.inr (List.mem_cons_self ..)) rfl (fun row h=>by rw [List.mem_singleton.1 h];rfl))))
     all_goals (repeat' (first|refine qu ?_|fail|((first|refine qk ?_ ?_|refine qj ?_ ?_|refine xsC ?_ ?_);all_goals (intro hc;have hp:=hc;try simp at hp;try (exfalso;omega)))|refine jc ?_ ?_))
     all_goals try (exfalso;first|omega|contradiction|simp_all;done)
     all_goals (refine ⟨U.length - (i + 1),⟨[(0,qo B),(1,qo U),(2,qo O),(3,.sl false (l.map Cpy.row)),(9,.v (.int .i64 ((i + 1:Nat):Int)))],[],0⟩,by omega,?_,i + 1,by omega,rfl,trivial,rfl⟩;refine qN [] rfl ?gts ?ghs;(case gts=>(repeat (first|exact qp|refine qE ?_|refine yq ?_|refine j1 ?_|refine xg ?_|refine j3 ?_ ?_|refine ju ?_ ?_));all_goals trace_state);(case ghs=>(repeat' (first|exact qh|refine jv ?_|refine jZ ?_ ?_|refine x5 ?_|refine q7 ?_ ?_|exact qm|apply qf|exact ql rfl|exact qX rfl|refine qX ?_|(apply ren_clo1;(first|exact qq rfl|exact .inr (List.mem_cons_self ..)|exact .inr (List.mem_cons_of_mem _ (List.mem_cons_self ..))|exact .inr (List.mem_cons_of_mem _ (List.mem_cons_of_mem _ (List.mem_cons_self ..)))|exact .inr (List.mem_cons_of_mem _ (List.mem_cons_of_mem _ (List.mem_cons_of_mem _ (List.mem_cons_self ..))))))));all_goals trace_state))
 obtain rfl:i = U.length:=by omega
 repeat' (first|refine qu ?_|fail|((first|refine qk ?_ ?_|refine qj ?_ ?_|refine xsC ?_ ?_);all_goals (intro hc;have hp:=hc;try simp at hp;try (exfalso;omega)))|refine jc ?_ ?_)
 all_goals try (exfalso;omega)
 apply yH
 rfl
 rfl
theorem ZZ {b m t X:List Ent} {L:List Cpy} (hm:Right m) (hk : ∀ p x,stT m p = ⟨2,x⟩ → ¬ stT b p = ⟨2,x⟩ → JB X L p x) : ∀ e,e ∈ m → e.fold = false → ¬ stT b e.path = ⟨2,e.text⟩ → JB X L e.path e.text:=fun e he hf hb=>by
 refine hk e.path e.text ?_ hb
 unfold stT
 rw [vy hm.rise he]
 exact kZ.2 ⟨hf,rfl⟩
theorem Zt (b m t:List Ent) (hb:EBig b) (hm:EBig m) (ht:EBig t):x6 C.P 4 [qo b,qo m,qo t] (.v (.bool true)):=by
 have h1:=ZQ b m t hb hm ht
 have hg:=Xg
 have hg2:=Vb
 by_cases h0:(xd b m t).2.2 = 0
 case neg =>
  have he:(xd b m t).1 = [] ∧ (xd b m t).2.1 = []:=Xz h0
  generalize xd b m t = r at *
  obtain ⟨r1,r2,E⟩:=r
  unfold YD wu at h1
  dsimp only at *
  obtain ⟨rfl,rfl⟩:=he
  have z1:(List.map Ent.row ([]:List Ent)).length = 0:=rfl
  have z2:(List.map Cpy.row ([]:List Cpy)).length = 0:=rfl
  refine qa Tryz.func4 rfl _ Tryz.ntmps4 (Nat.le_of_ble_eq_true rfl) _ Tryz.results4 0 rfl rfl ?_
  repeat' (first|refine qu ?_|(first|refine yY Tryz.func11 (hg ..) ?_|refine yY Tryz.func14 (hg2 ..) ?_|refine xP Tryz.func7 (h1 ..) ?_)|((first|refine qk ?_ ?_|refine qj ?_ ?_|refine xsC ?_ ?_);all_goals (intro hc;have hp:=hc;try simp at hp;try (exfalso;omega)))|refine jc ?_ ?_)
  all_goals try (exfalso;first|omega|contradiction|simp_all;done)
  all_goals (apply yH;rfl;first|rfl|simp;done|simp_all;done)
 obtain ⟨e1,e2,e3⟩:=XA h0
 have rb:=vp.1 e1
 have rm:=vp.1 e2
 have rt:=vp.1 e3
 rw [Y1 e1 e2 e3] at h1 h0
 have hX:=XB rb rm rt h0
 have hl:=Zw rb rm rt h0
 have k1 : ∀ p x,stT m p = ⟨2,x⟩ → ¬ stT b p = ⟨2,x⟩ → JB (xe b m t).1 (xe b m t).2.1 p x:=fun p x h=>Q8 rb rm rt h0 (.inl h)
 have k2 : ∀ p x,stT t p = ⟨2,x⟩ → ¬ stT b p = ⟨2,x⟩ → JB (xe b m t).1 (xe b m t).2.1 p x:=fun p x h=>Q8 rb rm rt h0 (.inr h)
 generalize xe b m t = r at *
 obtain ⟨X,L,E⟩:=r
 dsimp only at *
 subst h0
 have lb:=rb.len
 have lm:=rm.len
 have lt:=rt.len
 have lX:=hX.len
 have h2:=wN X hX.big
 rw [vp.2 hX] at h2
 have h3:=K7 b m X L (by omega) (by omega) (by omega) hl (ZZ (t:=t) rm k1)
 have h4:=K7 b t X L (by omega) (by omega) (by omega) hl (ZZ (t:=t) rt k2)
 unfold YD at h1
 clear k1 k2 hX rb rm rt
 refine qa Tryz.func4 rfl _ Tryz.ntmps4 (Nat.le_of_ble_eq_true rfl) _ Tryz.results4 0 rfl rfl ?_
 repeat' (first|refine qu ?_|(first|refine yY Tryz.func11 (hg ..) ?_|refine yY Tryz.func14 (hg2 ..) ?_|refine xP Tryz.func7 (h1 ..) ?_|refine yY Tryz.func15 (h2 ..) ?_|refine yY Tryz.func16 (h3 ..) ?_|refine yY Tryz.func16 (h4 ..) ?_)|((first|refine qk ?_ ?_|refine qj ?_ ?_|refine xsC ?_ ?_);all_goals (intro hc;have hp:=hc;try simp at hp;try (exfalso;omega)))|refine jc ?_ ?_)
 all_goals try (exfalso;first|omega|contradiction|simp_all;done)
 all_goals (apply yH;rfl;first|rfl|simp;done|simp_all;done)
theorem J6 (ys:List AV) (h:Xd C.tab 140737488355328 [22,22,22] ys):x6 C.P 4 ys (.v (.bool true)):=by
 obtain ⟨_,_,rfl,h0,_,_,rfl,h1,_,_,rfl,h2,rfl⟩:=h
 obtain ⟨a,rfl,ha⟩:=Yu h0
 obtain ⟨b,rfl,hb⟩:=Yu h1
 obtain ⟨c,rfl,hc⟩:=Yu h2
 exact Zt a b c ha hb hc
end Go.Proofs.YtnhpclmbhbblbaaGreatDoor
