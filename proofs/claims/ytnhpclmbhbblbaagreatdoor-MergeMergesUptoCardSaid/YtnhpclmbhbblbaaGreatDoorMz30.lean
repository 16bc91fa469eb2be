import Derived.Test.YtnhpclmbhbblbaaGreatDoorMz29
set_option linter.unusedSimpArgs false
set_option linter.unnecessarySimpa false
set_option linter.unusedVariables false
set_option maxHeartbeats 1000000
namespace Go.Proofs.YtnhpclmbhbblbaaGreatDoor
open Go.Ab Go.RowKit
set_option maxRecDepth 10000
attribute [local irreducible] Awp j4 jw js Red qU Go.Ab.Fin q6 Rz x6 jp jo ResOk jJ ju yb jx
def vP (B M T:List Ent):Nat → List Ent
 | 0=>B
 | 1=>M
 | 2=>T
 | _ => []
def kK (B M T:List Ent):Nat → List Ent
 | 0 => []
 | 1=>B
 | 2=>B ++ M
 | _=>B ++ (M ++ T)
theorem Zt (B M T:List Ent) {k:Nat} (h:k < 3):kK B M T k ++ vP B M T k = kK B M T (k + 1):=by
 match k,h with
 | 0,_=>rfl
 | 1,_=>rfl
 | 2,_=>simp [kK,vP]
def vq (B M T:List Ent) (k i:Nat):List qJ:=((kK B M T k ++ (vP B M T k).take i).map Ent.path).foldl vf []
theorem K4 (B M T:List Ent):vq B M T 3 0 = xX B M T:=by
 unfold vq xX;simp [kK]
theorem ZO (B M T:List Ent) {k:Nat} (h:k < 3):vq B M T k (vP B M T k).length = vq B M T (k + 1) 0:=by
 unfold vq
 rw [List.take_length,Zt B M T h,List.take_zero,List.append_nil]
theorem Zk {B M T:List Ent} {k i:Nat} (h:i < (vP B M T k).length):vq B M T k (i + 1) = vf (vq B M T k i) (vP B M T k)[i].path:=by
 unfold vq
 rw [List.take_succ_eq_append_getElem h, ← List.append_assoc,List.map_append,List.foldl_append]
 rfl
theorem KU {B M T:List Ent} (hB:B.length ≤ 60) (hM:M.length ≤ 60) (hT:T.length ≤ 60) (k i:Nat):(vq B M T k i).length ≤ 240:=by
 unfold vq
 have h:=VR ((kK B M T k ++ (vP B M T k).take i).map Ent.path) []
 have h1:(kK B M T k).length ≤ 180:=by
  match k with
  | 0=>simp [kK]
  | 1=>simp [kK];omega
  | 2=>simp [kK];omega
  | k + 3=>simp [kK];omega
 have h2:((vP B M T k).take i).length ≤ 60:=by
  rw [List.length_take]
  match k with
  | 0=>simp [vP];omega
  | 1=>simp [vP];omega
  | 2=>simp [vP];omega
  | k + 3=>simp [vP]
 simp at h h1 h2 ⊢
 omega
theorem Kq (B M T:List Ent) {k:Nat} (h:k < 3):([[qe B],[qe M],[qe T]]:List (List AV))[k]? = some [qe (vP B M T k)]:=by
 match k,h with
 | 0,_=>rfl
 | 1,_=>rfl
 | 2,_=>rfl
theorem KV {B M T:List Ent} (hB:B.length ≤ 60) (hM:M.length ≤ 60) (hT:T.length ≤ 60) (k:Nat):(vP B M T k).length ≤ 60:=by
 match k with
 | 0=>exact hB
 | 1=>exact hM
 | 2=>exact hT
 | k + 3=>exact Nat.zero_le _
set_option maxHeartbeats 32000000 in
theorem KJ (B M T:List Ent) (hB:Right B) (hM:Right M) (hT:Right T):vg C.P 10 [qe B,qe M,qe T] (zT (x0 B M T)):=by
 rw [Zu]
 have lB:=hB.len
 have lM:=hM.len
 have lT:=hT.len
 have lP:=KU lB lM lT
 have l3:=KV lB lM lT
 have lA:(xX B M T).length ≤ 180:=by have:=Z5 B M T;omega
 refine qh (C:=CF) Tryz.func10 rfl _ Tryz.ntmps10 (Nat.le_of_ble_eq_true rfl) _ Tryz.results10 0 rfl rfl ?_
 (repeat apply JI);apply kc;(repeat' (first|apply Qr|refine qcy ?_|refine qcp ?_|refine qcB ?_|refine qco ?_|refine qcu ?_|refine qcr ?_|refine qcq ?_|refine qcC ?_|refine qcn ?_|refine qcE ?_|refine qcz ?_|refine qcG ?_|refine qcv ?_|refine qcx ?_|refine qct ?_|refine qcA ?_|refine qcs ?_|refine qb5 ?_|(first|fail)|refine qb2 ?_|refine qbL ?_|refine qbX ?_|refine qa5 ?_|refine qa9 ?_|refine qcf ?_|refine qci ?_|refine qbR ?_|refine qbF ?_|((first|refine qk ?_ ?_|refine ql ?_ ?_);all_goals (intro hc;have hp:=hc;try simp at hp;try (exfalso;omega)))));show Awp _ _ _ _ _
 refine xsZ 4 0 ?_
 refine xsZ 5 1 ?_
 repeat' (first|refine qA ?_|(first|(refine yh ?_))|((first|refine qk ?_ ?_|refine ql ?_ ?_|refine jg ?_ ?_);all_goals (intro hc;have hp:=hc;try simp at hp;try (exfalso;omega)))|refine jh ?_ ?_)
 all_goals try (exfalso;omega)
 refine Awp.red (qL (τ:=⟨[(0,qe B),(4,.fp [[qe M]] 0 0),(5,.fp [[qe T]] 0 0),(9,.sl false ((vq B M T 0 0).map qV)),(10,.sl true [[qe B],[qe M],[qe T]]),(11,.v (.int .i64 ((0:Nat):Int)))],[],0⟩) [] rfl ?gts2 ?ghs2) ?_
 case ghs2=>exact qq
 case gts2=>(repeat (first|exact qi|refine qz ?_|exact qca (by assumption)|refine qca ?_))
 refine jf (fun n σ => ∃ k:Nat,k ≤ 3 ∧ n = 3 - k ∧ True ∧ σ = ⟨[(0,qe B),(4,.fp [[qe M]] 0 0),(5,.fp [[qe T]] 0 0),(9,.sl false ((vq B M T k 0).map qV)),(10,.sl true [[qe B],[qe M],[qe T]]),(11,.v (.int .i64 (k:Int)))],[],0⟩) 3 ⟨0,by omega,rfl,trivial,rfl⟩ ?_
 rintro n σ ⟨k,hk,rfl, -,rfl⟩
 by_cases hk3:k < 3
 ·have hrow:=Kq B M T hk3
  have hl3:=l3 k
  have hnx:=ZO B M T hk3
  have hss : ∀ i (h:i < (vP B M T k).length),vq B M T k (i + 1) = vf (vq B M T k i) (vP B M T k)[i].path:=fun i h=>Zk h
  have hll:=lP k
  generalize vP B M T k = L at *
  repeat' (first|refine qA ?_|fail|((first|refine qk ?_ ?_|refine ql ?_ ?_|refine jg ?_ ?_);all_goals (intro hc;have hp:=hc;try simp at hp;try (exfalso;omega)))|refine jh ?_ ?_)
  all_goals try (exfalso;omega)
  (refine Awp.red (qX (ts:=[(0,qe B),(4,.fp [[qe M]] 0 0),(5,.fp [[qe T]] 0 0),(9,.sl false ((vq B M T k 0).map qV)),(10,.sl true [[qe B],[qe M],[qe T]]),(11,.v (.int .i64 (k:Int))),(12,.v (.int .i64 ((0:Nat):Int)))]) ?_) ?_;((repeat (first|exact qi|refine qz ?_|refine ji ?_ ?_))))
  refine jf (fun n σ => ∃ i:Nat,i ≤ L.length ∧ n = L.length - i ∧ (True) ∧ σ = ⟨[(0,qe B),(4,.fp [[qe M]] 0 0),(5,.fp [[qe T]] 0 0),(9,.sl false ((vq B M T k i).map qV)),(10,.sl true [[qe B],[qe M],[qe T]]),(11,.v (.int .i64 (k:Int))),(12,.v (.int .i64 (i:Int)))],[],C.nh⟩) L.length ⟨0,Nat.zero_le _,rfl,trivial,rfl⟩ ?_
  rintro n σ ⟨i,hi,rfl, -,rfl⟩
  by_cases hlt:i < L.length
  ·have hr:=j3 (f:=Ent.row) hlt
   have hput:=Wl (vq B M T k i) L[i].path (by have:=hll i;omega)
   rw [← hss i hlt] at hput
   unfold wV at hput
   generalize L[i] = e at *
   obtain ⟨ep,ef,et,ev⟩:=e
   dsimp only at hput
   generalize vq B M T k i = Q1 at *
   generalize hQ2:vq B M T k (i + 1) = Q2 at *
   repeat' (first|refine qA ?_|(first|refine xB Tryz.func29 (hput ..) ?_)|((first|refine qk ?_ ?_|refine ql ?_ ?_|refine jg ?_ ?_);all_goals (intro hc;have hp:=hc;try simp at hp;try (exfalso;omega)))|refine jh ?_ ?_)
   all_goals try (exfalso;first|omega|contradiction)
   refine ⟨L.length - (i + 1),⟨[(0,qe B),(4,.fp [[qe M]] 0 0),(5,.fp [[qe T]] 0 0),(9,.sl false (Q2.map qV)),(10,.sl true [[qe B],[qe M],[qe T]]),(11,.v (.int .i64 (k:Int))),(12,.v (.int .i64 ((i + 1:Nat):Int)))],[],0⟩,by omega,qX ?_,i + 1,by omega,rfl,trivial,(by subst hQ2;rfl)⟩
   (repeat (first|exact qi|refine qz ?_|refine ji ?_ ?_))
  obtain rfl:i = L.length:=by omega
  rw [hnx]
  repeat' (first|refine qA ?_|fail|((first|refine qk ?_ ?_|refine ql ?_ ?_|refine jg ?_ ?_);all_goals (intro hc;have hp:=hc;try simp at hp;try (exfalso;omega)))|refine jh ?_ ?_)
  all_goals try (exfalso;first|omega|contradiction)
  refine ⟨3 - (k + 1),⟨[(0,qe B),(4,.fp [[qe M]] 0 0),(5,.fp [[qe T]] 0 0),(9,.sl false ((vq B M T (k + 1) 0).map qV)),(10,.sl true [[qe B],[qe M],[qe T]]),(11,.v (.int .i64 ((k + 1:Nat):Int)))],[],0⟩,by omega,qX ?_,k + 1,by omega,rfl,trivial,rfl⟩
  (repeat (first|exact qi|refine qz ?_|refine ji ?_ ?_))
 ·obtain rfl:k = 3:=by omega
  rw [K4]
  repeat' (first|(refine Awp.red (Yd 0 0 4 rfl rfl (Nat.zero_le _) (Nat.le_of_ble_eq_true rfl)) ?_;refine Awp.red (Yd 1 0 2 rfl rfl (Nat.zero_le _) (Nat.le_of_ble_eq_true rfl)) ?_;(refine Awp.red (qL (τ:=⟨[(0,qe B),(4,.fp [[qe M]] 0 0),(5,.fp [[qe T]] 0 0),(13,.op 0 0 0),(14,.op 3 0 0),(15,.op 2 0 0),(16,.clo (.func 32) [] [.fp [[qe M]] 0 0,.fp [[qe T]] 0 0,.op 0 0 0,.op 2 0 0,.op 3 0 0]),(9,.sl false ((xX B M T).map qV))],[(0,.own false 1 [[.os 1 0 ([]:List Ent).length]]),(1,.own false 4 (([]:List Ent).map Ent.row)),(2,.own false 1 [[.clo (.func 30) [] [.op 0 0 0]]]),(3,.own false 1 [[.os 4 0 ([]:List Cpy).length]]),(4,.own false 2 (([]:List Cpy).map Cpy.row))],5⟩) [(0,0),(3,1),(2,2),(1,3),(4,4)] rfl ?_ ?_) ?_;rotate_left 2;exact qaN B M T hB hM hT (xX B M T) rfl lA;(focus ((repeat (first|exact qi|refine qz ?_|refine yH ?_|refine xo ?_|refine yy ?_|refine yu ?_ ?_|refine ji ?_ ?_));all_goals (first|rfl|trace_state)));(focus ((repeat' (first|exact qq|refine q4 ?_|refine yq ?_ ?_|refine vH ?_|refine ym ?_ ?_|exact qg|apply qb|exact qf rfl|exact qW rfl|refine qW ?_|exact jG trivial));all_goals (first|rfl|trace_state)))))|refine Yk ?_|((first|refine qk ?_ ?_|refine ql ?_ ?_|refine jg ?_ ?_);all_goals (intro hc;have hp:=hc;try simp at hp;try (exfalso;omega)))|refine jh ?_ ?_)
end Go.Proofs.YtnhpclmbhbblbaaGreatDoor
