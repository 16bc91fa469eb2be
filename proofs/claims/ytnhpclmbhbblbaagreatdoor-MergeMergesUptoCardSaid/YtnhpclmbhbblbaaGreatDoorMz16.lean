import Derived.Test.YtnhpclmbhbblbaaGreatDoorMz15
import Derived.Test.YtnhpclmbhbblbaaGreatDoorMz13
import Derived.Test.YtnhpclmbhbblbaaGreatDoorMz0
import Derived.Test.YtnhpclmbhbblbaaGreatDoorMz11
set_option linter.unusedSimpArgs false
set_option linter.unnecessarySimpa false
set_option linter.unusedVariables false
set_option maxHeartbeats 1000000
namespace Go.Proofs.YtnhpclmbhbblbaaGreatDoor
open Go.Ab Go.RowKit
set_option maxRecDepth 10000
attribute [local irreducible] Awp j4 jw js Red qU Go.Ab.Fin q6 Rz x6 jp jo ResOk jJ ju yb jx
end Go.Proofs.YtnhpclmbhbblbaaGreatDoor
set_option linter.unusedSimpArgs false
set_option linter.unnecessarySimpa false
set_option linter.unusedVariables false
set_option maxHeartbeats 1000000
namespace Go.Proofs.YtnhpclmbhbblbaaGreatDoor
open Go.Ab Go.RowKit
set_option maxRecDepth 10000
attribute [local irreducible] Awp j4 jw js Red qU Go.Ab.Fin q6 Rz x6 jp jo ResOk jJ ju yb jx
end Go.Proofs.YtnhpclmbhbblbaaGreatDoor
set_option linter.unusedSimpArgs false
set_option linter.unnecessarySimpa false
set_option linter.unusedVariables false
set_option maxHeartbeats 1000000
namespace Go.Proofs.YtnhpclmbhbblbaaGreatDoor
open Go.Ab Go.RowKit
set_option maxRecDepth 10000
attribute [local irreducible] Awp j4 jw js Red qU Go.Ab.Fin q6 Rz x6 jp jo ResOk jJ ju yb jx
end Go.Proofs.YtnhpclmbhbblbaaGreatDoor
set_option linter.unusedSimpArgs false
set_option linter.unnecessarySimpa false
set_option linter.unusedVariables false
set_option maxHeartbeats 1000000
namespace Go.Proofs.YtnhpclmbhbblbaaGreatDoor
open Go.Ab Go.RowKit
set_option maxRecDepth 10000
attribute [local irreducible] Awp j4 jw js Red qU Go.Ab.Fin q6 Rz x6 jp jo ResOk jJ ju yb jx
end Go.Proofs.YtnhpclmbhbblbaaGreatDoor
set_option linter.unusedSimpArgs false
set_option linter.unnecessarySimpa false
set_option linter.unusedVariables false
set_option maxHeartbeats 1000000
namespace Go.Proofs.YtnhpclmbhbblbaaGreatDoor
open Go.Ab Go.RowKit
set_option maxRecDepth 10000
attribute [local irreducible] Awp j4 jw js Red qU Go.Ab.Fin q6 Rz x6 jp jo ResOk jJ ju yb jx
theorem Zw (a b:List Ent) (ha:EBig a) (hb:EBig b):vg C.P 27 [qe a,qe b] (.v (.int .i64 (jd qI [a,b]))):=by
 have h1:=ko a ha
 have h2:=ko b hb
 have hE:jd qI [a,b] = if qI a = 0 then qI b else qI a:=by simp only [jd];split<;>(try split)<;>simp_all
 rw [hE]
 generalize qI a = A at *
 generalize qI b = B at *
 refine qh Tryz.func27 rfl _ Tryz.ntmps27 (Nat.le_of_ble_eq_true rfl) _ Tryz.results27 0 rfl rfl ?_
 repeat' (first|refine qA ?_|(first|refine jM Tryz.func28 (h1 ..) ?_|refine jM Tryz.func28 (h2 ..) ?_)|((first|refine jg ?_ ?_);all_goals (intro hc;have hp:=hc;try simp at hp;try (exfalso;omega)))|refine jh ?_ ?_)
 all_goals try (exfalso;omega)
 all_goals (apply jL;rfl;simp_all)
end Go.Proofs.YtnhpclmbhbblbaaGreatDoor
set_option linter.unusedSimpArgs false
set_option linter.unnecessarySimpa false
set_option maxHeartbeats 1000000
namespace Go.Proofs.YtnhpclmbhbblbaaGreatDoor
open Go.Ab Go.RowKit
set_option maxRecDepth 10000
attribute [local irreducible] Awp j4 jw js Red qU Go.Ab.Fin q6 Rz x6 jp jo ResOk jJ ju yb jx
def decX (k i:Nat):Nat:=if i = 0 then k else k / 10
def qae (k i:Nat):qJ:=if i = 0 then [] else [UInt8.ofNat (48 + ((k % 10:Nat):Int)).toNat]
theorem XV (k:Nat):(48 + (k:Int)).toNat = 48 + k:=by omega
theorem Kn (k:Nat) (hk:k < 100):vg C.P 70 [.v (.int .i64 (k:Int))] (.v (str (vJ (k:Int)))):=by
 refine qh Tryz.func70 rfl _ Tryz.ntmps70 (Nat.le_of_ble_eq_true rfl) _ Tryz.results70 0 rfl rfl ?_
 repeat' (first|refine qA ?_|fail|((first|refine jg ?_ ?_);all_goals (intro hc;have hp:=hc;try simp at hp;try (exfalso;omega)))|refine jh ?_ ?_)
 all_goals try (exfalso;omega)
 (refine Awp.red (qX (ts:=[(0,.v (.int .i64 ((decX k 0:Nat):Int))),(3,.v (str (qae k 0)))]) ?_) ?_;((repeat (first|exact qi|refine qz ?_|refine ji ?_ ?_))))
 refine jf (fun n σ => ∃ i:Nat,i ≤ [(),()].length ∧ n = [(),()].length - i ∧ (i = 0 ∨ (i = 1 ∧ 10 ≤ k)) ∧ σ = ⟨[(0,.v (.int .i64 ((decX k i:Nat):Int))),(3,.v (str (qae k i)))],[],C.nh⟩) [(),()].length ⟨0,Nat.zero_le _,rfl,(.inl rfl),rfl⟩ ?_
 rintro n σ ⟨i,hi,rfl,hsofar,rfl⟩
 rcases hsofar with rfl|⟨rfl,hk10⟩
 ·rw [show decX k 0 = k from rfl,show qae k 0 = [] from rfl]
  repeat' (first|refine qA ?_|(first|(apply qd;apply qah (b:=10);rfl;rfl;decide;exact nle rfl)|(apply qd;apply Ws (b:=10);rfl;rfl;decide;omega;exact nle rfl)|(apply qd;apply Jw;rfl;rfl;rfl;rfl;rfl;exact IntWalk.u8_in _ (by omega);exact nle rfl)|(refine yh ?_)|(apply qd;apply Vj;rfl;rfl;rfl;rfl;rfl;rfl;rfl;exact nle rfl))|((first|refine jg ?_ ?_);all_goals (intro hc;have hp:=hc;try simp at hp;try (exfalso;omega)))|refine jh ?_ ?_)
  all_goals try (exfalso;omega)
  ·have h10:k % 10 = k:=Nat.mod_eq_of_lt (by omega)
   have hd:vJ (k:Int) = [UInt8.ofNat (48 + k)]:=by unfold vJ;rw [if_pos (by omega)];simp
   (refine y7 (rs:=[.tmp 2]) ?_;(repeat' (first|exact jv|apply q8|exact jj rfl|exact yg|exact vZ|apply jI|apply y1|apply jH|apply y0|apply ye|apply yY|refine vM ?_|apply xS));all_goals (rw [hd,h10,XV];rfl))
  ·have hkk:10 ≤ k:=by omega
   refine ⟨1,_,by decide,qX (ts:=[(0,.v (.int .i64 ((decX k 1:Nat):Int))),(3,.v (str (qae k 1)))]) ?_,1,by decide,rfl,.inr ⟨rfl,hkk⟩,rfl⟩
   ((repeat (first|exact qi|refine qz ?_|refine ji ?_ ?_));all_goals (first|rfl|(rw [List.append_nil];rfl)))
 ·rw [show decX k 1 = k / 10 from rfl,show qae k 1 = [UInt8.ofNat (48 + ((k % 10:Nat):Int)).toNat] from rfl]
  repeat' (first|refine qA ?_|(first|(apply qd;apply qah (b:=10);rfl;rfl;decide;exact nle rfl)|(apply qd;apply Ws (b:=10);rfl;rfl;decide;omega;exact nle rfl)|(apply qd;apply Jw;rfl;rfl;rfl;rfl;rfl;exact IntWalk.u8_in _ (by omega);exact nle rfl)|(refine yh ?_)|(apply qd;apply Vj;rfl;rfl;rfl;rfl;rfl;rfl;rfl;exact nle rfl))|((first|refine jg ?_ ?_);all_goals (intro hc;have hp:=hc;try simp at hp;try (exfalso;omega)))|refine jh ?_ ?_)
  all_goals try (exfalso;omega)
  have h10:k / 10 % 10 = k / 10:=Nat.mod_eq_of_lt (by omega)
  have hd:vJ (k:Int) = [UInt8.ofNat (48 + k / 10),UInt8.ofNat (48 + k % 10)]:=by unfold vJ;rw [if_neg (by omega)];simp
  (refine y7 (rs:=[.tmp 2]) ?_;(repeat' (first|exact jv|apply q8|exact jj rfl|exact yg|exact vZ|apply jI|apply y1|apply jH|apply y0|apply ye|apply yY|refine vM ?_|apply xS));all_goals (rw [hd,h10,XV,XV];rfl))
theorem zZ (c x:UInt8) : ∀ (s:qJ),jE c (s ++ [x]) = if x = c then (s.length:Int) else jE c s
 | []=>by
   by_cases h:x = c<;>simp [jE,h]
 | y :: s=>by
   have ih:=zZ c x s
   simp only [List.cons_append,jE,ih]
   by_cases h:x = c
   ·simp only [h,if_true]
    rw [if_pos (by omega)];simp
   ·simp only [h,if_false]
def atN (s:qJ) (i:Nat):Nat:=if 0 < jE 46 (s.take i) then (jE 46 (s.take i)).toNat else s.length
theorem qba (s:qJ):atN s 1 = s.length:=by
 unfold atN
 have:(s.take 1).length ≤ 1:=by rw [List.length_take];omega
 have:=zh 46 (s.take 1)
 rw [if_neg (by omega)]
theorem qbk {s:qJ} {i:Nat} (h:i < s.length) (h0:0 < i) (hc:s[i] = 46):atN s (i + 1) = i:=by
 unfold atN
 rw [List.take_succ_eq_append_getElem h,zZ,if_pos hc,List.length_take,Nat.min_eq_left (by omega)]
 rw [if_pos (by omega)];omega
theorem Kp {s:qJ} {i:Nat} (h:i < s.length) (hc:¬ s[i] = 46):atN s (i + 1) = atN s i:=by
 unfold atN
 rw [List.take_succ_eq_append_getElem h,zZ,if_neg hc]
theorem qbE (s:qJ) (i:Nat):atN s i ≤ s.length:=by
 unfold atN
 split
 ·have h1:=zh 46 (s.take i)
  have h2:(s.take i).length ≤ s.length:=by rw [List.length_take];omega
  omega
 ·exact Nat.le_refl _
theorem qbj {s:qJ} {i:Nat} (h:s.length ≤ i):s.take (atN s i) = y3 s ∧ (s.take s.length).drop (atN s i) = x2 s:=by
 unfold atN y3 x2
 rw [List.take_of_length_le h,List.take_length]
 by_cases h0:0 < jE 46 s
 ·simp [h0]
 ·simp [h0]
end Go.Proofs.YtnhpclmbhbblbaaGreatDoor
