import Derived.Test.YtnhpclmbhbblbaaGreatDoorMz10
import Derived.Test.YtnhpclmbhbblbaaGreatDoorMz1
import Derived.Test.YtnhpclmbhbblbaaGreatDoorMz9
set_option linter.unusedSimpArgs false
set_option linter.unnecessarySimpa false
set_option maxHeartbeats 1000000
namespace Go.Proofs.YtnhpclmbhbblbaaGreatDoor
open Go.Ab Go.RowKit
set_option maxRecDepth 10000
attribute [local irreducible] Awp j4 jw js Red qU Go.Ab.Fin q6 Rz x6 jp jo ResOk jJ ju yb jx
def fromN (p:qJ) (i:Nat):Nat:=i - (qK (p.take i)).length
def Vc (p:qJ) (i:Nat):List qJ:=(qn (p.take i)).dropLast
@[simp] theorem qcg (p:qJ):Vc p 0 = []:=rfl
@[simp] theorem qbx (p:qJ):fromN p 0 = 0:=rfl
@[simp] theorem qbu (s:qJ):cellsOf (AV.v (str s)) = [AV.v (str s)]:=rfl
theorem ZS {s:qJ} {X:List qJ} {y:qJ} (h:qn s = X ++ [y]):(qn s).dropLast = X ∧ qK s = y:=by
 have h1:=(xH s).1
 rw [h,List.dropLast_concat] at h1
 refine ⟨by rw [h,List.dropLast_concat],?_⟩
 have:=List.append_cancel_left h1
 simpa using this.symm
theorem ZC {p:qJ} {i:Nat} (h:i < p.length) (hc:p[i] = 47):Vc p (i + 1) = Vc p i ++ [qK (p.take i)] ∧ fromN p (i + 1) = i + 1:=by
 have e:p.take (i + 1) = p.take i ++ [47]:=by rw [List.take_succ_eq_append_getElem h,hc]
 obtain ⟨h1,h2⟩:=ZS (wu (p.take i))
 refine ⟨?_,?_⟩
 ·show (qn (p.take (i + 1))).dropLast = _
  rw [e,h1];exact (xH (p.take i)).1
 ·show i + 1 - (qK (p.take (i + 1))).length = _
  rw [e,h2];rfl
theorem ZG {p:qJ} {i:Nat} (h:i < p.length) (hc:¬ p[i] = 47):Vc p (i + 1) = Vc p i ∧ fromN p (i + 1) = fromN p i:=by
 have e:p.take (i + 1) = p.take i ++ [p[i]]:=List.take_succ_eq_append_getElem h
 obtain ⟨h1,h2⟩:=ZS (Qd hc (p.take i))
 refine ⟨?_,?_⟩
 ·show (qn (p.take (i + 1))).dropLast = _
  rw [e,h1];rfl
 ·show i + 1 - (qK (p.take (i + 1))).length = _
  rw [e,h2];unfold fromN;simp
theorem ZQ {p:qJ} {i:Nat} (h:i ≤ p.length):fromN p i ≤ i ∧ (p.take i).drop (fromN p i) = qK (p.take i):=by
 have:=(YD (p.take i)).2
 rw [List.length_take,Nat.min_eq_left h] at this
 exact ⟨Nat.sub_le _ _,this⟩
theorem qbm (p:qJ) (i:Nat):(Vc p i).length ≤ p.length:=by
 unfold Vc
 rw [List.length_dropLast,zx]
 have h1:(p.take i).count 47 ≤ (p.take i).length:=List.count_le_length
 have h2:(p.take i).length ≤ p.length:=by rw [List.length_take];omega
 omega
theorem zO (p:qJ) (hp:p.length ≤ 4000000000):vg C.P 37 [.v (str p)] (.sl false ((qn p).map qV)):=by
 refine qh Tryz.func37 rfl _ Tryz.ntmps37 (Nat.le_of_ble_eq_true rfl) _ Tryz.results37 0 rfl rfl ?_
 repeat' (first|refine qA ?_|fail|((first|refine jg ?_ ?_);all_goals (intro hc;have hp:=hc;try simp at hp;try (exfalso;omega)))|refine jh ?_ ?_)
 refine Awp.red (we 3 1 rfl (Nat.zero_le _)) ?_
 (refine Awp.red (qL (τ:=⟨[(0,.v (str p)),(3,.os 0 0 (Vc p 0).length),(4,.v (.int .i64 ((fromN p 0:Nat):Int))),(5,.v (.int .i64 ((0:Nat):Int)))],[(0,.own false 1 ((Vc p 0).map qV))],1⟩) [(0,0)] rfl ?gts ?ghs) ?gmain;(case gts=>(repeat (first|exact qi|refine qz ?_|refine xb ?_|refine YJ ?_|refine ji ?_ ?_)));(case ghs=>(repeat (first|exact qq|refine Jo ?_|refine jC ?_ ?_))))
 refine jf (fun n σ => ∃ i:Nat,i ≤ p.length ∧ n = p.length - i ∧ (True) ∧ σ = ⟨[(0,.v (str p)),(3,.os 0 0 (Vc p i).length),(4,.v (.int .i64 ((fromN p i:Nat):Int))),(5,.v (.int .i64 (i:Int)))],[(0,.own false 1 ((Vc p i).map qV))],1⟩) p.length ⟨0,Nat.zero_le _,rfl,trivial,rfl⟩ ?_
 rintro n σ ⟨i,hi,rfl, -,rfl⟩
 have hnl:=qbm p i
 by_cases hlt:i < p.length
 ·have hr:p[i]? = some p[i]:=List.getElem?_eq_getElem hlt
  obtain ⟨hfl,hfd⟩:=ZQ hi
  have hs1 := @ZC p i hlt
  have hs2 := @ZG p i hlt
  generalize hF:fromN p i = fr at hfl hfd hs1 hs2 ⊢
  repeat' (first|refine qA ?_|(first|(apply qd;apply q7 (a:=fr) (b:=i);(case hx=>rfl);(case hT=>rfl);(case he=>rfl);(case ha=>exact ⟨_,rfl⟩);(case hb=>exact ⟨_,rfl⟩);(case hab=>(first|omega|(simp;done)|(simp only [List.length_cons,List.length_nil,List.length_map];omega)|(simp;omega)));(case hbl=>(first|omega|(simp;done)|(simp only [List.length_cons,List.length_nil,List.length_map];omega)|(simp;omega)));(case hN=>exact nle rfl))|(refine yh ?_)|(refine yX ?_))|((first|refine jg ?_ ?_);all_goals (intro hc;have hp:=hc;try simp at hp;try (exfalso;omega)))|refine jh ?_ ?_)
  all_goals try (exfalso;omega)
  ·have hc:p[i] = 47:=UInt8.toNat.inj (by show p[i].toNat = 47;omega)
   obtain ⟨hk,hk2⟩:=hs1 hc
   refine ⟨p.length - (i + 1),_,by omega,qL (τ:=⟨[(0,.v (str p)),(3,.os 0 0 (Vc p (i + 1)).length),(4,.v (.int .i64 ((fromN p (i + 1):Nat):Int))),(5,.v (.int .i64 ((i + 1:Nat):Int)))],[(0,.own false 1 ((Vc p (i + 1)).map qV))],1⟩) [(1,0)] rfl ?gts ?ghs,i + 1,by omega,rfl,trivial,rfl⟩;(case gts=>(repeat (first|exact qi|refine qz ?_|refine xb ?_|refine YJ ?_|refine ji ?_ ?_));all_goals (first|(rw [hk2];rfl)|(rw [hk2])|(rw [hk,hfd,List.take_of_length_le (by simp)];simp [qV])));(case ghs=>(repeat (first|exact qq|refine Jo ?_|refine jC ?_ ?_));all_goals (first|(rw [hk2];rfl)|(rw [hk2])|(rw [hk,hfd,List.take_of_length_le (by simp)];simp [qV])))
  ·have hc:¬ p[i] = 47:=fun e=>by rw [e] at hp;simp at hp
   obtain ⟨hk,hk2⟩:=hs2 hc
   refine ⟨p.length - (i + 1),_,by omega,qL (τ:=⟨[(0,.v (str p)),(3,.os 0 0 (Vc p (i + 1)).length),(4,.v (.int .i64 ((fromN p (i + 1):Nat):Int))),(5,.v (.int .i64 ((i + 1:Nat):Int)))],[(0,.own false 1 ((Vc p (i + 1)).map qV))],1⟩) [(0,0)] rfl ?gts ?ghs,i + 1,by omega,rfl,trivial,rfl⟩;(case gts=>(repeat (first|exact qi|refine qz ?_|refine xb ?_|refine YJ ?_|refine ji ?_ ?_));all_goals (first|(rw [hk2];rfl)|(rw [hk2])|(rw [hk])));(case ghs=>(repeat (first|exact qq|refine Jo ?_|refine jC ?_ ?_));all_goals (first|(rw [hk2];rfl)|(rw [hk2])|(rw [hk])))
 obtain rfl:i = p.length:=by omega
 obtain ⟨hfl,hfd⟩:=ZQ hi
 generalize hF:fromN p p.length = fr at hfl hfd ⊢
 repeat' (first|refine qA ?_|(first|(apply qd;apply q7 (a:=fr) (b:=p.length);(case hx=>rfl);(case hT=>rfl);(case he=>rfl);(case ha=>exact ⟨_,rfl⟩);(case hb=>rfl);(case hab=>(first|omega|(simp;done)|(simp only [List.length_cons,List.length_nil,List.length_map];omega)|(simp;omega)));(case hbl=>(first|omega|(simp;done)|(simp only [List.length_cons,List.length_nil,List.length_map];omega)|(simp;omega)));(case hN=>exact nle rfl))|(refine yh ?_)|(refine yX ?_))|((first|refine jg ?_ ?_);all_goals (intro hc;have hp:=hc;try simp at hp;try (exfalso;omega)))|refine jh ?_ ?_)
 all_goals try (exfalso;omega)
 have hall:Vc p p.length ++ [qK p] = qn p:=by unfold Vc;rw [List.take_length];exact (xH p).1.symm
 rw [List.take_length] at hfd
 (refine y7 (rs:=[.tmp 2]) ?_;(repeat' (first|exact jv|apply q8|exact jj rfl|exact yg|exact vZ|apply jI|apply y1|apply jH|apply y0|apply ye|apply yY|refine vM ?_|apply xS));all_goals (rw [← hall,List.take_of_length_le (by simp),List.take_length,hfd];simp [qV]))
theorem x9 (p:qJ):(qn p).length ≤ p.length + 1:=by
 rw [zx]
 have:p.count 47 ≤ p.length:=List.count_le_length
 omega
theorem JP (p:qJ) (hp:p.length ≤ 4000000000):vg C.P 72 [.v (str p)] (.v (.bool (jT p))):=by
 have hn:=zO p hp
 have htg:jT p = (decide (6 < (qn p).length) || decide (80 < p.length)):=rfl
 refine qh Tryz.func72 rfl _ Tryz.ntmps72 (Nat.le_of_ble_eq_true rfl) _ Tryz.results72 0 rfl rfl ?_
 repeat' (first|refine qA ?_|(first|refine xB Tryz.func37 (hn ..) ?_)|((first|refine qk ?_ ?_|refine ql ?_ ?_|refine jg ?_ ?_);all_goals (intro hc;have hp:=hc;try simp at hp;try (exfalso;omega)))|refine jh ?_ ?_)
 all_goals (apply yE;rfl;rw [htg])
 all_goals first
  | (have h6:¬ 6 < (qn p).length:=(by omega)
     simp [h6];done)
  | (have h6:6 < (qn p).length:=(by omega)
     simp [h6];done)
  | (have h6:¬ 6 < (qn p).length:=(by omega)
     simp [h6];omega)
theorem VG (p:qJ) (hp:p.length ≤ 4000000000):vg C.P 64 [.v (str p)] (.v (.int .i64 (qE p))):=by
 have hn:=zO p hp
 have hg:=JP p hp
 have hpe:qE p = if (qn p).all jF = true then (if jT p = true then 2 else 0) else 1:=rfl
 have hsh : ∀ n,n ∈ qn p → n.length ≤ p.length:=fun n h=>ws h
 have hmn:=x9 p
 generalize qE p = E at hpe ⊢
 generalize qn p = L at hn hpe hsh hmn
 refine qh Tryz.func64 rfl _ Tryz.ntmps64 (Nat.le_of_ble_eq_true rfl) _ Tryz.results64 0 rfl rfl ?_
 repeat' (first|refine qA ?_|(first|refine xB Tryz.func37 (hn ..) ?_)|((first|refine jg ?_ ?_);all_goals (intro hc;have hp:=hc;try simp at hp;try (exfalso;omega)))|refine jh ?_ ?_)
 (refine Awp.red (qX (ts:=[(0,.v (str p)),(3,.sl false (L.map qV)),(4,.v (.int .i64 ((0:Nat):Int)))]) ?_) ?_;((repeat (first|exact qi|refine qz ?_|refine ji ?_ ?_))))
 refine jf (fun n σ => ∃ i:Nat,i ≤ L.length ∧ n = L.length - i ∧ (∀ x,x ∈ L.take i → jF x = true) ∧ σ = ⟨[(0,.v (str p)),(3,.sl false (L.map qV)),(4,.v (.int .i64 (i:Int)))],[],C.nh⟩) L.length ⟨0,Nat.zero_le _,rfl,(by simp),rfl⟩ ?_
 rintro n σ ⟨i,hi,rfl,hsofar,rfl⟩
 by_cases hlt:i < L.length
 ·have hr:=j3 (f:=qV) hlt
  have hnm:=KB L[i] (by have:=hsh L[i] (List.getElem_mem hlt);omega)
  repeat' (first|refine qA ?_|(first|refine jM Tryz.func45 (hnm ..) ?_)|((first|refine jg ?_ ?_);all_goals (intro hc;have hp:=hc;try simp at hp;try (exfalso;omega)))|refine jh ?_ ?_)
  all_goals try (exfalso;omega)
  ·apply jL
   rfl
   have hall:¬ L.all jF = true:=fun h=>by
    have:=List.all_eq_true.1 h L[i] (List.getElem_mem hlt)
    simp_all
   rw [hpe,if_neg hall]
  ·refine ⟨L.length - (i + 1),_,by omega,qX (ts:=[(0,.v (str p)),(3,.sl false (L.map qV)),(4,.v (.int .i64 ((i + 1:Nat):Int)))]) ?_,i + 1,by omega,rfl,ya hlt hsofar (by assumption),rfl⟩;((repeat (first|exact qi|refine qz ?_|refine ji ?_ ?_)))
 obtain rfl:i = L.length:=by omega
 rw [List.take_length] at hsofar
 have hall:L.all jF = true:=List.all_eq_true.2 hsofar
 rw [if_pos hall] at hpe
 repeat' (first|refine qA ?_|(first|refine jM Tryz.func72 (hg ..) ?_)|((first|refine jg ?_ ?_);all_goals (intro hc;have hp:=hc;try simp at hp;try (exfalso;omega)))|refine jh ?_ ?_)
 all_goals try (exfalso;omega)
 all_goals (apply jL;rfl;simp_all)
end Go.Proofs.YtnhpclmbhbblbaaGreatDoor
set_option linter.unusedSimpArgs false
set_option linter.unnecessarySimpa false
set_option maxHeartbeats 1000000
namespace Go.Proofs.YtnhpclmbhbblbaaGreatDoor
open Go.Ab Go.RowKit
set_option maxRecDepth 10000
attribute [local irreducible] Awp j4 jw js Red qU Go.Ab.Fin q6 Rz x6 jp jo ResOk jJ ju yb jx
theorem Q8 (l:List qJ) (i:Nat):(jQ (l.take i)).length ≤ (jQ l).length:=by
 by_cases h1:l.take i = []
 ·rw [h1];simp [jQ]
 ·by_cases h2:l.drop i = []
  ·have:=List.take_append_drop i l
   rw [h2,List.append_nil] at this
   rw [this];exact Nat.le_refl _
  ·have h3:=kx h1 h2
   rw [List.take_append_drop] at h3
   rw [h3];simp
theorem Zs {l:List qJ} {i:Nat} (h:i < l.length):l[i].length ≤ (jQ l).length:=by
 have h1:=Q8 l (i + 1)
 by_cases h0:i = 0
 ·subst h0
  rw [Qt h] at h1;exact h1
 ·rw [Jb h (by omega)] at h1
  simp at h1;omega
theorem Vq (l:List qJ) (hl:l.length ≤ 8000000000) (hp:(jQ l).length ≤ 8000000000):vg C.P 38 [.sl false (l.map qV)] (.v (str (jQ l))):=by
 refine qh Tryz.func38 rfl _ Tryz.ntmps38 (Nat.le_of_ble_eq_true rfl) _ Tryz.results38 0 rfl rfl ?_
 repeat' (first|refine qA ?_|fail|((first|refine jg ?_ ?_);all_goals (intro hc;have hp:=hc;try simp at hp;try (exfalso;omega)))|refine jh ?_ ?_)
 (refine Awp.red (qX (ts:=[(0,.sl false (l.map qV)),(3,.v (str (jQ (l.take 0)))),(4,.v (.int .i64 ((0:Nat):Int)))]) ?_) ?_;((repeat (first|exact qi|refine qz ?_|refine ji ?_ ?_))))
 refine jf (fun n σ => ∃ i:Nat,i ≤ l.length ∧ n = l.length - i ∧ (True) ∧ σ = ⟨[(0,.sl false (l.map qV)),(3,.v (str (jQ (l.take i)))),(4,.v (.int .i64 (i:Int)))],[],C.nh⟩) l.length ⟨0,Nat.zero_le _,rfl,trivial,rfl⟩ ?_
 rintro n σ ⟨i,hi,rfl, -,rfl⟩
 by_cases hlt:i < l.length
 ·have hr:=j3 (f:=qV) hlt
  have hb1:=Q8 l i
  have hb2:=Zs hlt
  have hs0 := @Jb l i hlt
  have hf0 := @Qt l (by omega)
  repeat' (first|refine qA ?_|(first|(apply qd;apply xQ;rfl;rfl;(simp only [List.length_append,List.length_cons,List.length_nil];omega);exact nle rfl))|((first|refine jg ?_ ?_);all_goals (intro hc;have hp:=hc;try simp at hp;try (exfalso;omega)))|refine jh ?_ ?_)
  all_goals try (exfalso;omega)
  ·refine ⟨l.length - (i + 1),_,by omega,qX (ts:=[(0,.sl false (l.map qV)),(3,.v (str (jQ (l.take (i + 1))))),(4,.v (.int .i64 ((i + 1:Nat):Int)))]) ?_,i + 1,by omega,rfl,trivial,rfl⟩;((repeat (first|exact qi|refine qz ?_|refine ji ?_ ?_));all_goals (rw [hs0 (by omega)]))
  ·have h0:i = 0:=by omega
   have hf1:jQ (l.take (i + 1)) = l[i]:=by subst h0;exact hf0
   refine ⟨l.length - (i + 1),_,by omega,qX (ts:=[(0,.sl false (l.map qV)),(3,.v (str (jQ (l.take (i + 1))))),(4,.v (.int .i64 ((i + 1:Nat):Int)))]) ?_,i + 1,by omega,rfl,trivial,rfl⟩;((repeat (first|exact qi|refine qz ?_|refine ji ?_ ?_));all_goals (rw [hf1];subst h0;rfl))
 obtain rfl:i = l.length:=by omega
 rw [List.take_length]
 repeat' (first|refine qA ?_|fail|((first|refine jg ?_ ?_);all_goals (intro hc;have hp:=hc;try simp at hp;try (exfalso;omega)))|refine jh ?_ ?_)
 all_goals try (exfalso;omega)
 (exact QE (rs:=[.tmp 2]))
theorem QW (p:qJ):0 < (qn p).length:=List.length_pos_iff.2 (yI p)
theorem wO (p:qJ) (hp:p.length ≤ 4000000000):vg C.P 67 [.v (str p)] (.v (str (qO p))):=by
 have hn:=zO p hp
 have hm:=x9 p
 have hpos:=QW p
 obtain ⟨h1,h2⟩:=xH p
 have hpl:(qO p).length ≤ p.length:=by simp [qO];omega
 have hpo:=Vq (qn p).dropLast (by rw [List.length_dropLast];omega) (by rw [h2];omega)
 rw [h2,List.dropLast_eq_take,List.map_take] at hpo
 have hrk : ∀ row,row ∈ (qn p).map qV → row.length = 1:=fun row hr=>by obtain ⟨x,_,rfl⟩:=List.mem_map.1 hr;rfl
 generalize qn p = L at hn hm hpos hpo hrk
 have hml:(L.map qV).length = L.length:=List.length_map ..
 refine qh Tryz.func67 rfl _ Tryz.ntmps67 (Nat.le_of_ble_eq_true rfl) _ Tryz.results67 0 rfl rfl ?_
 repeat' (first|refine qA ?_|(first|refine xB Tryz.func37 (hn ..) ?_|(apply qd;apply xM (ex':=false) (a:=0) (b:=L.length - 1) (m:=0);(case hx=>rfl);(case hT=>rfl);(case he=>rfl);(case hE=>rfl);(case ha=>rfl);(case hb=>exact ⟨_,yZ (by omega)⟩);(case hm=>trivial);(case hab=>(first|omega|(simp;done)|(simp only [List.length_cons,List.length_nil,List.length_map];omega)|(simp;omega)));(case hbl=>(first|omega|(simp;done)|(simp only [List.length_cons,List.length_nil,List.length_map];omega)|(simp;omega)));(case hrk=>exact hrk);(case hex=>exact nofun);(case hN=>exact nle rfl))|refine xB Tryz.func38 (hpo ..) ?_)|((first|refine jg ?_ ?_);all_goals (intro hc;have hp:=hc;try simp at hp;try (exfalso;omega)))|refine jh ?_ ?_)
 (exact QE (rs:=[.tmp 2]))
theorem WF (p:qJ) (hp:p.length ≤ 4000000000):vg C.P 69 [.v (str p)] (.v (str (qK p))):=by
 have hn:=zO p hp
 have hm:=x9 p
 have hpos:=QW p
 obtain ⟨h1,h2⟩:=xH p
 have hlast : ∀ h:(qn p).length - 1 < (qn p).length,(qn p)[(qn p).length - 1] = qK p:=fun h=>by
  have h3:(qn p)[(qn p).length - 1]? = some (qK p):=by
   generalize (qn p).dropLast = X at h1
   rw [h1];simp
  rw [List.getElem?_eq_getElem h] at h3
  exact Option.some.inj h3
 generalize qn p = L at hn hm hpos hlast
 have hlt:L.length - 1 < L.length:=by omega
 have hr:=j3 (f:=qV) hlt
 rw [hlast hlt] at hr
 have hml:(L.map qV).length = L.length:=List.length_map ..
 refine qh Tryz.func69 rfl _ Tryz.ntmps69 (Nat.le_of_ble_eq_true rfl) _ Tryz.results69 0 rfl rfl ?_
 repeat' (first|refine qA ?_|(first|refine xB Tryz.func37 (hn ..) ?_|(apply qd;apply xR (i:=L.length - 1);(case hx=>rfl);(case hy=>exact yZ (by omega));(case hT=>rfl);(case he=>rfl);(case hE=>rfl);(case hr=>exact hr);(case hk=>rfl);(case hN=>exact nle rfl)))|((first|refine jg ?_ ?_);all_goals (intro hc;have hp:=hc;try simp at hp;try (exfalso;omega)))|refine jh ?_ ?_)
 (exact QE (rs:=[.tmp 2]))
theorem KW (p n:qJ) (hp:p.length ≤ 140737488355328) (hn:n.length ≤ 1407374883553280):vg C.P 71 [.v (str p),.v (str n)] (.v (str (vn p n))):=by
 refine qh Tryz.func71 rfl _ Tryz.ntmps71 (Nat.le_of_ble_eq_true rfl) _ Tryz.results71 0 rfl rfl ?_
 repeat' (first|refine qA ?_|fail|((first|refine jg ?_ ?_);all_goals (intro hc;have hp:=hc;try simp at hp;try (exfalso;omega)))|refine jh ?_ ?_)
 · (refine y7 (rs:=[.tmp 4]) ?_;(repeat' (first|exact jv|apply q8|exact jj rfl|exact yg|exact vZ|apply jI|apply y1|apply jH|apply y0|apply ye|apply yY|refine vM ?_|apply xS));all_goals (simp_all [vn]))
 · (refine y7 (rs:=[.tmp 4]) ?_;(repeat' (first|exact jv|apply q8|exact jj rfl|exact yg|exact vZ|apply jI|apply y1|apply jH|apply y0|apply ye|apply yY|refine vM ?_|apply xS));all_goals (simp_all [vn]))
end Go.Proofs.YtnhpclmbhbblbaaGreatDoor
set_option linter.unusedSimpArgs false
set_option linter.unnecessarySimpa false
set_option maxHeartbeats 1000000
namespace Go.Proofs.YtnhpclmbhbblbaaGreatDoor
open Go.Ab Go.RowKit
set_option maxRecDepth 10000
attribute [local irreducible] Awp j4 jw js Red qU Go.Ab.Fin q6 Rz x6 jp jo ResOk jJ ju yb jx
theorem qaR (s:qJ):vg C.P 118 [.v (str s)] (.v (.bool false)):=by
 refine qh Tryz.func118 rfl _ Tryz.ntmps118 (Nat.le_of_ble_eq_true rfl) _ Tryz.results118 0 rfl rfl ?_
 repeat' (first|refine qA ?_|fail|((first|refine jg ?_ ?_);all_goals (intro hc;have hp:=hc;try simp at hp;try (exfalso;omega)))|refine jh ?_ ?_)
 all_goals (apply yE;rfl;simp)
theorem Wf (a b:qJ):vg C.P 94 [.v (str a),.v (str b)] (.v (.int .i64 (zH a b))):=by
 refine qh Tryz.func94 rfl _ Tryz.ntmps94 (Nat.le_of_ble_eq_true rfl) _ Tryz.results94 0 rfl rfl ?_
 repeat' (first|refine qA ?_|(first|refine jM Tryz.func118 (qaR ..) ?_)|((first|refine jg ?_ ?_);all_goals (intro hc;have hp:=hc;try simp at hp;try (exfalso;omega)))|refine jh ?_ ?_)
 all_goals (apply jL;rfl;simp_all [zH])
theorem qau (n:Int):vg C.P 73 [.v (.int .i64 n)] (.v (.bool (zW n))):=by
 refine qh Tryz.func73 rfl _ Tryz.ntmps73 (Nat.le_of_ble_eq_true rfl) _ Tryz.results73 0 rfl rfl ?_
 repeat' (first|refine qA ?_|fail|((first|refine qk ?_ ?_|refine ql ?_ ?_|refine jg ?_ ?_);all_goals (intro hc;have hp:=hc;try simp at hp;try (exfalso;omega)))|refine jh ?_ ?_)
 all_goals (apply yE;rfl;simp_all [zW];try (intro _;omega))
theorem qan (n:Int):vg C.P 65 [.v (.int .i64 n)] (.v (.bool (zW n))):=by
 refine qh Tryz.func65 rfl _ Tryz.ntmps65 (Nat.le_of_ble_eq_true rfl) _ Tryz.results65 0 rfl rfl ?_
 repeat' (first|refine qA ?_|fail|((first|refine qk ?_ ?_|refine ql ?_ ?_|refine jg ?_ ?_);all_goals (intro hc;have hp:=hc;try simp at hp;try (exfalso;omega)))|refine jh ?_ ?_)
 all_goals (apply yE;rfl;simp_all [zW];try (intro _;omega))
theorem XF (e:Ent) (he:e.small):vg C.P 98 [.agg e.row] (.v (.int .i64 (yi e))):=by
 have h1:=he.1
 have h2:=he.2
 have hp:=WW e.path (by omega)
 have hv:=qau e.ver
 have hE:yi e = if qE e.path = 0 then (if e.fold = true ∧ ¬ e.text = [] then 1 else if 300 < e.text.length then 2 else if zW e.ver = true then 0 else 3) else qE e.path:=rfl
 generalize yi e = E at *
 generalize zW e.ver = V at *
 generalize qE e.path = F at *
 refine qh Tryz.func98 rfl _ Tryz.ntmps98 (Nat.le_of_ble_eq_true rfl) _ Tryz.results98 0 rfl rfl ?_
 repeat' (first|refine qA ?_|(first|refine jM Tryz.func119 (hp ..) ?_|refine jM Tryz.func73 (hv ..) ?_)|((first|refine qk ?_ ?_|refine ql ?_ ?_|refine jg ?_ ?_);all_goals (intro hc;have hp:=hc;try simp at hp;try (exfalso;omega)))|refine jh ?_ ?_)
 all_goals try (exfalso;omega)
 all_goals (apply jL;rfl;rw [hE];simp_all;try omega)
theorem qai (e:Ent) (p:qJ):vg C.P 93 [.agg e.row,.v (str p)] (.v (.int .i64 (zH e.path p))):=by
 refine qh Tryz.func93 rfl _ Tryz.ntmps93 (Nat.le_of_ble_eq_true rfl) _ Tryz.results93 0 rfl rfl ?_
 repeat' (first|refine qA ?_|(first|refine jM Tryz.func94 (Wf ..) ?_)|((first|refine jg ?_ ?_);all_goals (intro hc;have hp:=hc;try simp at hp;try (exfalso;omega)))|refine jh ?_ ?_)
 all_goals (apply jL;rfl;rfl)
theorem K7 (l:List Ent) (p:qJ) (hl:l.length ≤ 1000000000) (hs:qY jn l = true) :
  vg C.P 92 [qe l,.v (str p),.clo (.func 93) [] []] (.tup [.v (.int .i64 (x1 l p)),.v (.bool (yJ l p))]):=by
 refine qh Tryz.func92 rfl _ Tryz.ntmps92 (Nat.le_of_ble_eq_true rfl) _ Tryz.results92 0 rfl rfl ?_
 repeat' (first|refine qA ?_|fail|((first|refine qk ?_ ?_|refine ql ?_ ?_|refine jg ?_ ?_);all_goals (intro hc;have hp:=hc;try simp at hp;try (exfalso;omega)))|refine jh ?_ ?_)
 (refine Awp.red (qX (ts:=[(0,qe l),(1,.v (str p)),(2,.clo (.func 93) [] []),(8,.v (.int .i64 l.length)),(9,.v (.int .i64 ((0:Nat):Int))),(10,.v (.int .i64 l.length))]) ?_) ?_;((repeat (first|exact qi|refine qz ?_|refine ji ?_ ?_))))
 all_goals try (rw [List.length_map];done)
 refine jf (fun n σ => ∃ lo hi:Nat,lo ≤ hi ∧ hi ≤ l.length ∧ n = hi - lo ∧ (∀ (k:Nat) (h:k < l.length),k < lo → Op.bytesLess l[k].path p = true) ∧ (∀ (k:Nat) (h:k < l.length),hi ≤ k → Op.bytesLess l[k].path p = false) ∧ σ = ⟨[(0,qe l),(1,.v (str p)),(2,.clo (.func 93) [] []),(8,.v (.int .i64 l.length)),(9,.v (.int .i64 ((lo:Nat):Int))),(10,.v (.int .i64 ((hi:Nat):Int)))],[],C.nh⟩) l.length ⟨0,l.length,by omega,Nat.le_refl _,rfl,fun _ _ h=>absurd h (by omega),fun _ _ h=>absurd h (by omega),rfl⟩ ?_
 rintro n σ ⟨lo,hi,hle,hhi,rfl,h1,h2,rfl⟩
 by_cases hlt:lo < hi
 ·obtain ⟨m,hm⟩ : ∃ m:Nat,m = (lo + hi) / 2:=⟨_,rfl⟩
  have hmi:((lo:Int) + (hi:Int)) / 2 = (m:Int):=by omega
  have hml:m < l.length:=by omega
  have hr:=j3 (f:=Ent.row) hml
  have hr2:(l.map Ent.row)[(((lo:Int) + (hi:Int)) / 2).toNat]? = some l[m].row:=by rw [hmi];exact hr
  repeat' (first|refine qA ?_|(first|(apply qd;first|(apply KN;rfl;rfl;rfl;rfl;rfl;omega;omega;exact nle rfl)|(apply K6;rfl;rfl;rfl;rfl;rfl;omega;omega;exact nle rfl))|(apply qd;apply qaX;(case hx=>rfl);(case hy=>rfl);(case hk=>decide);(case hN=>exact nle rfl))|(refine Xk Tryz.func93 (qai ..) ?_))|((first|refine qk ?_ ?_|refine ql ?_ ?_|refine jg ?_ ?_);all_goals (intro hc;have hp:=hc;try simp at hp;try (exfalso;omega)))|refine jh ?_ ?_)
  all_goals try (exfalso;omega)
  ·have hmg:Op.bytesLess l[m].path p = true:=(Yn _ _).1 hp
   refine ⟨hi - (m + 1),_,by omega,qX (ts:=[(0,qe l),(1,.v (str p)),(2,.clo (.func 93) [] []),(8,.v (.int .i64 l.length)),(9,.v (.int .i64 ((m + 1:Nat):Int))),(10,.v (.int .i64 ((hi:Nat):Int)))]) ?_,m + 1,hi,by omega,hhi,rfl,fun k h hk=>?_,h2,rfl⟩
   · (repeat (first|exact qi|refine qz ?_|refine ji ?_ ?_))
     all_goals (rw [hmi];rfl)
   ·by_cases e:k = m
    ·subst e;exact hmg
    ·exact vX (vp hs k m h hml (by omega)) hmg
  ·have hmg:Op.bytesLess l[m].path p = false:=(by
    cases h:Op.bytesLess l[m].path p
    ·rfl
    ·have:=(Yn _ _).2 h;omega)
   refine ⟨m - lo,_,by omega,qX (ts:=[(0,qe l),(1,.v (str p)),(2,.clo (.func 93) [] []),(8,.v (.int .i64 l.length)),(9,.v (.int .i64 ((lo:Nat):Int))),(10,.v (.int .i64 ((m:Nat):Int)))]) ?_,lo,m,by omega,by omega,rfl,h1,fun k h hk=>?_,rfl⟩
   · (repeat (first|exact qi|refine qz ?_|refine ji ?_ ?_))
     all_goals (rw [hmi])
   ·by_cases e:k = m
    ·subst e;exact hmg
    ·cases hkg:Op.bytesLess l[k].path p
     ·rfl
     ·rw [vX (vp hs m k hml h (by omega)) hkg] at hmg;cases hmg
 obtain rfl:lo = hi:=by omega
 have hpos:x1 l p = lo:=Xt hhi h1 (fun h=>h2 lo h (by omega))
 by_cases hin:lo < l.length
 ·have hr:=j3 (f:=Ent.row) hin
  have hhit:yJ l p = decide (zH l[lo].path p = 0):=by
   rw [Vo hs,hpos,List.getElem?_eq_getElem hin]
  repeat' (first|refine qA ?_|(first|(refine Xk Tryz.func93 (qai ..) ?_))|((first|refine qk ?_ ?_|refine ql ?_ ?_|refine jg ?_ ?_);all_goals (intro hc;have hp:=hc;try simp at hp;try (exfalso;omega)))|refine jh ?_ ?_)
  all_goals try (exfalso;omega)
  rw [hpos,hhit]
  (exact QE (rs:=[.tmp 6,.tmp 7]))
 ·have hhit:yJ l p = false:=by
   rw [Vo hs,hpos,List.getElem?_eq_none (by omega)]
  repeat' (first|refine qA ?_|(first|(refine Xk Tryz.func93 (qai ..) ?_))|((first|refine qk ?_ ?_|refine ql ?_ ?_|refine jg ?_ ?_);all_goals (intro hc;have hp:=hc;try simp at hp;try (exfalso;omega)))|refine jh ?_ ?_)
  all_goals try (exfalso;omega)
  rw [hpos,hhit]
  (exact QE (rs:=[.tmp 6,.tmp 7]))
theorem qbC (l:List Ent) (p:qJ) (hl:l.length ≤ 1000000000) (hs:qY jn l = true) :
  vg C.P 63 [qe l,.v (str p)] (.tup [.v (.int .i64 (x1 l p)),.v (.bool (yJ l p))]):=by
 have hse:=K7 l p hl hs
 refine qh Tryz.func63 rfl _ Tryz.ntmps63 (Nat.le_of_ble_eq_true rfl) _ Tryz.results63 0 rfl rfl ?_
 repeat' (first|refine qA ?_|(first|refine xB Tryz.func92 (hse ..) ?_)|((first|refine jg ?_ ?_);all_goals (intro hc;have hp:=hc;try simp at hp;try (exfalso;omega)))|refine jh ?_ ?_)
 (exact QE (rs:=[.tmp 4,.tmp 5]))
end Go.Proofs.YtnhpclmbhbblbaaGreatDoor
set_option linter.unusedSimpArgs false
set_option linter.unnecessarySimpa false
set_option maxHeartbeats 1000000
namespace Go.Proofs.YtnhpclmbhbblbaaGreatDoor
open Go.Ab Go.RowKit
set_option maxRecDepth 10000
attribute [local irreducible] Awp j4 jw js Red qU Go.Ab.Fin q6 Rz x6 jp jo ResOk jJ ju yb jx
def zJ (l:List Ent) (p:qJ):Ent:=if qO p = [] then ⟨[],true,[],0⟩ else match l.find? (atP (qO p)) with|some x=>x|none=>⟨[],false,[],0⟩
def wz (l:List Ent) (p:qJ):Bool:=decide (qO p = []) || yJ l (qO p)
theorem Zn (l:List Ent) (p:qJ):xI l (qO p) = if wz l p = true then (if (zJ l p).fold = true then 0 else 4) else 5:=by
 unfold xI wz zJ
 by_cases h:qO p = []
 ·simp [h]
 ·cases hh:yJ l (qO p) with
  | true =>
    obtain ⟨x,hx,hk⟩:=List.any_eq_true.1 hh
    cases hf:l.find? (atP (qO p)) with
    | none=>rw [List.find?_eq_none] at hf;exact absurd hk (hf x hx)
    | some y=>simp [h]
  | false=>simp [h,(Y6 hh).1]
theorem KO (l:List Ent) (p:qJ) (hl:l.length ≤ 1000000000) (hs:qY jn l = true) (hp:p.length ≤ 140737488355328) :
  vg C.P 99 [qe l,.v (str p)] (.tup [.agg (zJ l p).row,.v (.bool (wz l p))]):=by
 have hsp:=Kf p (by omega)
 have hat:=qbC l (qO p) hl hs
 by_cases h:qO p = []
 ·have e1:zJ l p = ⟨[],true,[],0⟩:=by simp [zJ,h]
  have e2:wz l p = true:=by simp [wz,h]
  rw [h] at hsp hat
  rw [e1,e2]
  refine qh Tryz.func99 rfl _ Tryz.ntmps99 (Nat.le_of_ble_eq_true rfl) _ Tryz.results99 0 rfl rfl ?_
  repeat' (first|refine qA ?_|(first|refine xB Tryz.func110 (hsp ..) ?_|refine xB Tryz.func63 (hat ..) ?_)|((first|refine jg ?_ ?_);all_goals (intro hc;have hp:=hc;try simp at hp;try (exfalso;omega)))|refine jh ?_ ?_)
  all_goals try (exfalso;simp_all;done)
  (exact QE (rs:=[.cell 4 59,.tmp 5]))
 ·cases hh:yJ l (qO p) with
  | true =>
    obtain ⟨hk,hpe,hfi, -⟩:=Z4 hs hh
    have e1:zJ l p = l[x1 l (qO p)]:=by simp [zJ,h,hfi]
    have e2:wz l p = true:=by simp [wz,hh]
    rw [hh] at hat
    rw [e1,e2]
    generalize x1 l (qO p) = k at *
    have hr:=j3 (f:=Ent.row) hk
    refine qh Tryz.func99 rfl _ Tryz.ntmps99 (Nat.le_of_ble_eq_true rfl) _ Tryz.results99 0 rfl rfl ?_
    repeat' (first|refine qA ?_|(first|refine xB Tryz.func110 (hsp ..) ?_|refine xB Tryz.func63 (hat ..) ?_)|((first|refine jg ?_ ?_);all_goals (intro hc;have hp:=hc;try simp at hp;try (exfalso;omega)))|refine jh ?_ ?_)
    all_goals try (exfalso;first|exact h (by assumption)|(simp_all;done))
    (exact QE (rs:=[.cell 4 59,.tmp 5]))
  | false =>
    have e1:zJ l p = ⟨[],false,[],0⟩:=by simp [zJ,h,(Y6 hh).1]
    have e2:wz l p = false:=by simp [wz,hh,h]
    rw [hh] at hat
    rw [e1,e2]
    refine qh Tryz.func99 rfl _ Tryz.ntmps99 (Nat.le_of_ble_eq_true rfl) _ Tryz.results99 0 rfl rfl ?_
    repeat' (first|refine qA ?_|(first|refine xB Tryz.func110 (hsp ..) ?_|refine xB Tryz.func63 (hat ..) ?_)|((first|refine jg ?_ ?_);all_goals (intro hc;have hp:=hc;try simp at hp;try (exfalso;omega)))|refine jh ?_ ?_)
    all_goals try (exfalso;first|exact h (by assumption)|(simp_all;done))
    (exact QE (rs:=[.cell 4 59,.tmp 5]))
end Go.Proofs.YtnhpclmbhbblbaaGreatDoor
set_option linter.unusedSimpArgs false
set_option linter.unnecessarySimpa false
set_option maxHeartbeats 1000000
namespace Go.Proofs.YtnhpclmbhbblbaaGreatDoor
open Go.Ab Go.RowKit
set_option maxRecDepth 10000
attribute [local irreducible] Awp j4 jw js Red qU Go.Ab.Fin q6 Rz x6 jp jo ResOk jJ ju yb jx
theorem Z7 (a b:Ent):(Op.bytesLess b.path a.path || decide (b.path = a.path)) = !jn a b:=by
 unfold jn
 rcases zG a.path b.path with ⟨h1,h2,h3⟩|⟨h1,h2,h3⟩|⟨h1,h2,h3⟩
 ·have h4:¬ b.path = a.path:=fun e=>h3 e.symm
  simp [h1,h2,h4]
 ·simp [h1,vG]
 ·simp [h1,h2]
theorem Q7 {t:List Ent} (h60:¬ 60 < t.length) {k:Nat} (hk:k < t.length) (hs : ∀ g,g ∈ t.take k → yi g = 0) (h0:yi t[k] ≠ 0):yi t[k] = qI t:=by
 have h1:=Je hk hs h0
 have hz:¬ jd yi t = 0:=by rw [h1];exact h0
 simp only [qI,h60,hz,if_false]
 rw [h1]
theorem Vw (l:List Ent) (hl:EBig l):vg C.P 76 [qe l] (.v (.int .i64 (qI l))):=by
 have hll:=hl.len
 refine qh Tryz.func76 rfl _ Tryz.ntmps76 (Nat.le_of_ble_eq_true rfl) _ Tryz.results76 0 rfl rfl ?_
 repeat' (first|refine qA ?_|fail|((first|refine jg ?_ ?_);all_goals (intro hc;have hp:=hc;try simp at hp;try (exfalso;omega)))|refine jh ?_ ?_)
 ·apply jL
  rfl
  have h60:60 < l.length:=by omega
  simp [qI,h60]
 have h60:¬ 60 < l.length:=by omega
 (refine Awp.red (qX (ts:=[(0,qe l),(15,qe l),(16,.v (.int .i64 l.length)),(17,.v (.int .i64 ((0:Nat):Int)))]) ?_) ?_;((repeat (first|exact qi|refine qz ?_|refine ji ?_ ?_))))
 all_goals try (rw [List.length_map];done)
 refine jf (fun n σ => ∃ i:Nat,i ≤ l.length ∧ n = l.length - i ∧ (∀ g,g ∈ l.take i → yi g = 0) ∧ σ = ⟨[(0,qe l),(15,qe l),(16,.v (.int .i64 l.length)),(17,.v (.int .i64 (i:Int)))],[],C.nh⟩) l.length ⟨0,Nat.zero_le _,rfl,(by simp),rfl⟩ ?_
 rintro n σ ⟨i,hi,rfl,hsofar,rfl⟩
 by_cases hlt:i < l.length
 ·have hr:=j3 (f:=Ent.row) hlt
  have hsm:=hl.each l[i] (List.getElem_mem _)
  have hce:=XF l[i] hsm
  repeat' (first|refine qA ?_|(first|refine jM Tryz.func98 (hce ..) ?_)|((first|refine jg ?_ ?_);all_goals (intro hc;have hp:=hc;try simp at hp;try (exfalso;omega)))|refine jh ?_ ?_)
  all_goals try (exfalso;omega)
  ·apply jL
   rfl
   exact Q7 h60 hlt hsofar (by assumption)
  ·refine ⟨l.length - (i + 1),_,by omega,qX (ts:=[(0,qe l),(15,qe l),(16,.v (.int .i64 l.length)),(17,.v (.int .i64 ((i + 1:Nat):Int)))]) ?_,i + 1,by omega,rfl,ya hlt hsofar (by assumption),rfl⟩;((repeat (first|exact qi|refine qz ?_|refine ji ?_ ?_)))
 obtain rfl:i = l.length:=by omega
 have hz:jd yi l = 0:=xA.2 (fun s hs=>hsofar s (by rw [List.take_length];exact hs))
 clear hsofar
 repeat' (first|refine qA ?_|fail|((first|refine jg ?_ ?_);all_goals (intro hc;have hp:=hc;try simp at hp;try (exfalso;omega)))|refine jh ?_ ?_)
 all_goals try (exfalso;omega)
 (refine Awp.red (qX (ts:=[(0,qe l),(6,.v (.int .i64 ((0 + 1:Nat):Int)))]) ?_) ?_;((repeat (first|exact qi|refine qz ?_|refine ji ?_ ?_))))
 refine jf (fun n σ => ∃ i:Nat,i ≤ (l.drop 1).length ∧ n = (l.drop 1).length - i ∧ (∀ (k:Nat) (h:k + 1 < l.length),k < i → jn (l[k]'(by omega)) l[k + 1] = true) ∧ σ = ⟨[(0,qe l),(6,.v (.int .i64 ((i + 1:Nat):Int)))],[],C.nh⟩) (l.drop 1).length ⟨0,Nat.zero_le _,rfl,(fun k h hk=>absurd hk (Nat.not_lt_zero _)),rfl⟩ ?_
 have hdl:(l.drop 1).length = l.length - 1:=by simp
 rintro n σ ⟨i,hi,rfl,hsofar,rfl⟩
 by_cases hlt:i + 1 < l.length
 ·have hr:=j3 (f:=Ent.row) hlt
  have hr':=j3 (f:=Ent.row) (l:=l) (i:=i) (by omega)
  have hle:=Z7 l[i] l[i + 1]
  repeat' (first|refine qA ?_|fail|((first|refine jg ?_ ?_);all_goals (intro hc;have hp:=hc;try simp at hp;try (exfalso;omega)))|refine jh ?_ ?_)
  all_goals try (exfalso;omega)
  ·have hrf:¬ qY jn l = true:=fun h=>by
    have:=vo.1 h i hlt
    simp_all
   apply jL
   rfl
   simp [qI,h60,hz,hrf]
  ·have hok:jn l[i] l[i + 1] = true:=(by simp_all)
   refine ⟨(l.drop 1).length - (i + 1),_,by omega,qX (ts:=[(0,qe l),(6,.v (.int .i64 ((i + 1 + 1:Nat):Int)))]) ?_,i + 1,by omega,rfl,(fun k h hk=>by
    by_cases e:k = i
    ·subst e;exact hok
    ·exact hsofar k h (by omega)),rfl⟩;((repeat (first|exact qi|refine qz ?_|refine ji ?_ ?_)))
 have hrise:qY jn l = true:=vo.2 fun k h=>hsofar k h (by simp at hi;omega)
 clear hsofar
 repeat' (first|refine qA ?_|fail|((first|refine jg ?_ ?_);all_goals (intro hc;have hp:=hc;try simp at hp;try (exfalso;omega)))|refine jh ?_ ?_)
 all_goals try (exfalso;omega)
 (refine Awp.red (qX (ts:=[(0,qe l),(7,.v (.int .i64 (if (l.take 0).any (fun x=>decide (¬ jU l x = 0)) = true then 4 else 0))),(45,qe l),(46,.v (.int .i64 l.length)),(47,.v (.int .i64 ((0:Nat):Int)))]) ?_) ?_;((repeat (first|exact qi|refine qz ?_|refine ji ?_ ?_))))
 all_goals try (rw [List.length_map];done)
 refine jf (fun n σ => ∃ i:Nat,i ≤ l.length ∧ n = l.length - i ∧ (∀ g,g ∈ l.take i → ¬ jU l g = 5) ∧ σ = ⟨[(0,qe l),(7,.v (.int .i64 (if (l.take i).any (fun x=>decide (¬ jU l x = 0)) = true then 4 else 0))),(45,qe l),(46,.v (.int .i64 l.length)),(47,.v (.int .i64 (i:Int)))],[],C.nh⟩) l.length ⟨0,Nat.zero_le _,rfl,(by simp),rfl⟩ ?_
 rintro n σ ⟨i,hi,rfl,hsofar,rfl⟩
 by_cases hlt:i < l.length
 ·have hr:=j3 (f:=Ent.row) hlt
  have hsm:=hl.each l[i] (List.getElem_mem _)
  have hpa:=KO l l[i].path hl.len hrise (by have:=hsm.1;omega)
  have hpe:jU l l[i] = _:=Zn l l[i].path
  have htk:=List.take_succ_eq_append_getElem hlt
  generalize wz l l[i].path = ok at hpa hpe
  generalize zJ l l[i].path = pe at hpa hpe
  repeat' (first|refine qA ?_|(first|refine xB Tryz.func99 (hpa ..) ?_)|((first|refine jg ?_ ?_);all_goals (intro hc;have hp:=hc;try simp at hp;try (exfalso;omega)))|refine jh ?_ ?_)
  all_goals try (exfalso;omega)
  ·have h5:jU l l[i] = 5:=(by rw [hpe];simp_all)
   have hany:l.any (fun x=>decide (jU l x = 5)) = true:=List.any_eq_true.2 ⟨l[i],List.getElem_mem _,by simp [h5]⟩
   apply jL
   rfl
   simp [qI,h60,hz,hrise,hany]
  ·have h4:jU l l[i] = 4:=(by rw [hpe];simp_all)
   refine ⟨l.length - (i + 1),_,by omega,qX (ts:=[(0,qe l),(7,.v (.int .i64 (if (l.take (i + 1)).any (fun x=>decide (¬ jU l x = 0)) = true then 4 else 0))),(45,qe l),(46,.v (.int .i64 l.length)),(47,.v (.int .i64 ((i + 1:Nat):Int)))]) ?_,i + 1,by omega,rfl,ya hlt hsofar (by rw [h4];decide),rfl⟩;((repeat (first|exact qi|refine qz ?_|refine ji ?_ ?_));all_goals (rw [htk,List.any_append];simp [h4]))
  ·have h4:jU l l[i] = 0:=(by rw [hpe];simp_all)
   refine ⟨l.length - (i + 1),_,by omega,qX (ts:=[(0,qe l),(7,.v (.int .i64 (if (l.take (i + 1)).any (fun x=>decide (¬ jU l x = 0)) = true then 4 else 0))),(45,qe l),(46,.v (.int .i64 l.length)),(47,.v (.int .i64 ((i + 1:Nat):Int)))]) ?_,i + 1,by omega,rfl,ya hlt hsofar (by rw [h4];decide),rfl⟩;((repeat (first|exact qi|refine qz ?_|refine ji ?_ ?_));all_goals (rw [htk,List.any_append];simp [h4]))
 obtain rfl:i = l.length:=by omega
 rw [List.take_length] at *
 have hno:¬ l.any (fun x=>decide (jU l x = 5)) = true:=fun h=>by
  obtain ⟨x,hx,hk⟩:=List.any_eq_true.1 h
  exact hsofar x hx (by simpa using hk)
 have hE:qI l = if l.any (fun x=>decide (¬ jU l x = 0)) = true then 4 else 0:=by
  unfold qI
  rw [if_neg h60,if_pos hz,if_pos hrise,if_neg hno]
 repeat' (first|refine qA ?_|fail|((first|refine jg ?_ ?_);all_goals (intro hc;have hp:=hc;try simp at hp;try (exfalso;omega)))|refine jh ?_ ?_)
 all_goals try (exfalso;omega)
 apply jL
 rfl
 exact hE.symm
end Go.Proofs.YtnhpclmbhbblbaaGreatDoor
set_option linter.unusedSimpArgs false
set_option linter.unnecessarySimpa false
set_option maxHeartbeats 1000000
namespace Go.Proofs.YtnhpclmbhbblbaaGreatDoor
open Go.Ab Go.RowKit
set_option maxRecDepth 10000
attribute [local irreducible] Awp j4 jw js Red qU Go.Ab.Fin q6 Rz x6 jp jo ResOk jJ ju yb jx
def Qx (t:List Ent):List AV:=[qe t]
theorem Kt (ts:List (List Ent)) (hn:ts.length ≤ 1000000) (hs : ∀ t,t ∈ ts → EBig t):vg C.P 42 [.sl false (ts.map Qx)] (.v (.int .i64 (jd qI ts))):=by
 refine qh Tryz.func42 rfl _ Tryz.ntmps42 (Nat.le_of_ble_eq_true rfl) _ Tryz.results42 0 rfl rfl ?_
 repeat' (first|refine qA ?_|fail|((first|refine jg ?_ ?_);all_goals (intro hc;have hp:=hc;try simp at hp;try (exfalso;omega)))|refine jh ?_ ?_)
 (refine Awp.red (qX (ts:=[(6,.sl false (ts.map Qx)),(7,.v (.int .i64 ts.length)),(8,.v (.int .i64 ((0:Nat):Int)))]) ?_) ?_;((repeat (first|exact qi|refine qz ?_|refine ji ?_ ?_))))
 all_goals try (rw [List.length_map];done)
 refine jf (fun n σ => ∃ i:Nat,i ≤ ts.length ∧ n = ts.length - i ∧ (∀ t,t ∈ ts.take i → qI t = 0) ∧ σ = ⟨[(6,.sl false (ts.map Qx)),(7,.v (.int .i64 ts.length)),(8,.v (.int .i64 (i:Int)))],[],C.nh⟩) ts.length ⟨0,Nat.zero_le _,rfl,(by simp),rfl⟩ ?_
 rintro n σ ⟨i,hi,rfl,hsofar,rfl⟩
 by_cases hlt:i < ts.length
 ·have hr:=j3 (f:=Qx) hlt
  have hct:=Vw ts[i] (hs _ (List.getElem_mem _))
  repeat' (first|refine qA ?_|(first|refine xB Tryz.func76 (hct ..) ?_)|((first|refine jg ?_ ?_);all_goals (intro hc;have hp:=hc;try simp at hp;try (exfalso;omega)))|refine jh ?_ ?_)
  all_goals try (exfalso;omega)
  ·apply jL
   rfl
   exact (Je hlt hsofar (by assumption)).symm
  ·refine ⟨ts.length - (i + 1),_,by omega,qX (ts:=[(6,.sl false (ts.map Qx)),(7,.v (.int .i64 ts.length)),(8,.v (.int .i64 ((i + 1:Nat):Int)))]) ?_,i + 1,by omega,rfl,ya hlt hsofar (by assumption),rfl⟩;((repeat (first|exact qi|refine qz ?_|refine ji ?_ ?_)))
 obtain rfl:i = ts.length:=by omega
 have hz:jd qI ts = 0:=xA.2 (fun s hs=>hsofar s (by rw [List.take_length];exact hs))
 clear hsofar
 repeat' (first|refine qA ?_|fail|((first|refine jg ?_ ?_);all_goals (intro hc;have hp:=hc;try simp at hp;try (exfalso;omega)))|refine jh ?_ ?_)
 all_goals try (exfalso;omega)
 apply jL
 rfl
 exact hz.symm
theorem WE (l:List Ent) (hl:EBig l):vg C.P 42 [.sl false [[qe l]]] (.v (.int .i64 (qI l))):=by
 have h:=Kt [l] (by simp) (by simpa using hl)
 rw [show jd qI [l] = qI l from by simp only [jd];split<;>simp_all] at h
 exact h
theorem JX (l:List Ent) (hl:EBig l):vg C.P 15 [qe l] (.v (.int .i64 (qI l))):=by
 have h:=WE l hl
 refine qh Tryz.func15 rfl _ Tryz.ntmps15 (Nat.le_of_ble_eq_true rfl) _ Tryz.results15 0 rfl rfl ?_
 repeat' (first|refine qA ?_|(first|(refine yh ?_)|refine xB Tryz.func42 (h ..) ?_)|((first|refine jg ?_ ?_);all_goals (intro hc;have hp:=hc;try simp at hp;try (exfalso;omega)))|refine jh ?_ ?_)
 all_goals (apply jL;rfl;rfl)
theorem xV (l:List Ent) (p:qJ) (hl:l.length ≤ 1000000000):vg C.P 34 [qe l,.v (str p)] (.v (.int .i64 (xh (atP p) l))):=by
 refine qh Tryz.func34 rfl _ Tryz.ntmps34 (Nat.le_of_ble_eq_true rfl) _ Tryz.results34 0 rfl rfl ?_
 repeat' (first|refine qA ?_|fail|((first|refine jg ?_ ?_);all_goals (intro hc;have hp:=hc;try simp at hp;try (exfalso;omega)))|refine jh ?_ ?_)
 (refine Awp.red (qX (ts:=[(0,qe l),(1,.v (str p)),(5,.v (.int .i64 ((0:Nat):Int)))]) ?_) ?_;((repeat (first|exact qi|refine qz ?_|refine ji ?_ ?_))))
 refine jf (fun n σ => ∃ i:Nat,i ≤ l.length ∧ n = l.length - i ∧ (∀ x,x ∈ l.take i → atP p x = false) ∧ σ = ⟨[(0,qe l),(1,.v (str p)),(5,.v (.int .i64 (i:Int)))],[],C.nh⟩) l.length ⟨0,Nat.zero_le _,rfl,(by simp),rfl⟩ ?_
 rintro n σ ⟨i,hi,rfl,hsofar,rfl⟩
 by_cases hlt:i < l.length
 ·have hr:=j3 (f:=Ent.row) hlt
  repeat' (first|refine qA ?_|fail|((first|refine jg ?_ ?_);all_goals (intro hc;have hp:=hc;try simp at hp;try (exfalso;omega)))|refine jh ?_ ?_)
  all_goals try (exfalso;omega)
  ·apply jL
   rfl
   exact (Yt hlt hsofar (by simp_all [atP])).symm
  ·refine ⟨l.length - (i + 1),_,by omega,qX (ts:=[(0,qe l),(1,.v (str p)),(5,.v (.int .i64 ((i + 1:Nat):Int)))]) ?_,i + 1,by omega,rfl,ya hlt hsofar (by simp_all [atP]),rfl⟩;((repeat (first|exact qi|refine qz ?_|refine ji ?_ ?_)))
 obtain rfl:i = l.length:=by omega
 repeat' (first|refine qA ?_|fail|((first|refine jg ?_ ?_);all_goals (intro hc;have hp:=hc;try simp at hp;try (exfalso;omega)))|refine jh ?_ ?_)
 all_goals try (exfalso;omega)
 apply jL
 rfl
 rw [wU fun x hx=>hsofar x (by rw [List.take_length];exact hx)]
theorem Yc (l:List Ent) (p:qJ) (hl:l.length ≤ 1000000000):vg C.P 66 [qe l,.v (str p)] (.v (.int .i64 (xI l p))):=by
 have hea:=xV l p hl
 have hE:xI l p = if p = [] then 0 else match l.find? (atP p) with|none=>5|some x=>if x.fold = true then 0 else 4:=rfl
 generalize xI l p = E at *
 rcases wP (atP p) l with ⟨h1,h2⟩|⟨k,hk,h1,h2⟩
 ·rw [h1] at hea
  rw [h2] at hE
  refine qh Tryz.func66 rfl _ Tryz.ntmps66 (Nat.le_of_ble_eq_true rfl) _ Tryz.results66 0 rfl rfl ?_
  repeat' (first|refine qA ?_|(first|refine jM Tryz.func34 (hea ..) ?_)|((first|refine jg ?_ ?_);all_goals (intro hc;have hp:=hc;try simp at hp;try (exfalso;omega)))|refine jh ?_ ?_)
  all_goals try (exfalso;omega)
  all_goals (apply jL;rfl;simp_all)
 ·rw [h1] at hea
  rw [h2] at hE
  have hr:=j3 (f:=Ent.row) hk
  refine qh Tryz.func66 rfl _ Tryz.ntmps66 (Nat.le_of_ble_eq_true rfl) _ Tryz.results66 0 rfl rfl ?_
  repeat' (first|refine qA ?_|(first|refine jM Tryz.func34 (hea ..) ?_)|((first|refine jg ?_ ?_);all_goals (intro hc;have hp:=hc;try simp at hp;try (exfalso;omega)))|refine jh ?_ ?_)
  all_goals try (exfalso;omega)
  all_goals (apply jL;rfl;simp_all)
end Go.Proofs.YtnhpclmbhbblbaaGreatDoor
set_option linter.unusedSimpArgs false
set_option linter.unnecessarySimpa false
set_option maxHeartbeats 1000000
namespace Go.Proofs.YtnhpclmbhbblbaaGreatDoor
open Go.Ab Go.RowKit
set_option maxRecDepth 10000
attribute [local irreducible] Awp j4 jw js Red qU Go.Ab.Fin q6 Rz x6 jp jo ResOk jJ ju yb jx
theorem V4 {e:Ent} (h:¬ qE e.path = 0):yi e = qE e.path:=by simp [yi,h]
theorem VZ {e:Ent} (h:qE e.path = 0):yi e = (if e.fold = true ∧ ¬ e.text = [] then 1 else if 300 < e.text.length then 2 else if zW e.ver = true then 0 else 3):=by simp [yi,h]
theorem ko (l:List Ent) (hl:EBig l):vg C.P 28 [qe l] (.v (.int .i64 (qI l))):=by
 have hll:=hl.len
 refine qh Tryz.func28 rfl _ Tryz.ntmps28 (Nat.le_of_ble_eq_true rfl) _ Tryz.results28 0 rfl rfl ?_
 repeat' (first|refine qA ?_|fail|((first|refine qk ?_ ?_|refine ql ?_ ?_|refine jg ?_ ?_);all_goals (intro hc;have hp:=hc;try simp at hp;try (exfalso;omega)))|refine jh ?_ ?_)
 ·apply jL
  rfl
  have h60:60 < l.length:=by omega
  simp [qI,h60]
 have h60:¬ 60 < l.length:=by omega
 (refine Awp.red (qX (ts:=[(0,qe l),(3,.v (.int .i64 ((0:Nat):Int)))]) ?_) ?_;((repeat (first|exact qi|refine qz ?_|refine ji ?_ ?_))))
 refine jf (fun n σ => ∃ i:Nat,i ≤ l.length ∧ n = l.length - i ∧ (∀ g,g ∈ l.take i → yi g = 0) ∧ σ = ⟨[(0,qe l),(3,.v (.int .i64 (i:Int)))],[],C.nh⟩) l.length ⟨0,Nat.zero_le _,rfl,(by simp),rfl⟩ ?_
 rintro n σ ⟨i,hi,rfl,hsofar,rfl⟩
 by_cases hlt:i < l.length
 ·have hr:=j3 (f:=Ent.row) hlt
  have hsm:=hl.each l[i] (List.getElem_mem _)
  have hcp:=VG l[i].path (by have:=hsm.1;omega)
  have hvr:=qan l[i].ver
  have hlen:=hsm.2
  have hfo := @V4 l[i]
  have hre := @VZ l[i]
  have hte:=fun h => @Q7 l h60 i hlt hsofar h
  have hnx:=fun h=>ya (p:=fun g=>yi g = 0) hlt hsofar h
  generalize yi l[i] = E at *
  generalize qE l[i].path = F at *
  generalize zW l[i].ver = V at *
  repeat' (first|refine qA ?_|(first|refine jM Tryz.func64 (hcp ..) ?_|refine jM Tryz.func65 (hvr ..) ?_)|((first|refine qk ?_ ?_|refine ql ?_ ?_|refine jg ?_ ?_);all_goals (intro hc;have hp:=hc;try simp at hp;try (exfalso;omega)))|refine jh ?_ ?_)
  all_goals try (exfalso;omega)
  all_goals first
   | (apply jL
      rfl
      refine Eq.trans ?_ (hte ?_)<;>(clear hte hnx;simp_all)<;>(try omega)
      done)
   | (refine ⟨l.length - (i + 1),_,by omega,qX (ts:=[(0,qe l),(3,.v (.int .i64 ((i + 1:Nat):Int)))]) ?_,i + 1,by omega,rfl,hnx (by clear hte;simp_all;try omega),rfl⟩;((repeat (first|exact qi|refine qz ?_|refine ji ?_ ?_))))
 obtain rfl:i = l.length:=by omega
 have hz:jd yi l = 0:=xA.2 (fun s hs=>hsofar s (by rw [List.take_length];exact hs))
 clear hsofar
 repeat' (first|refine qA ?_|fail|((first|refine qk ?_ ?_|refine ql ?_ ?_|refine jg ?_ ?_);all_goals (intro hc;have hp:=hc;try simp at hp;try (exfalso;omega)))|refine jh ?_ ?_)
 all_goals try (exfalso;omega)
 (refine Awp.red (qX (ts:=[(0,qe l),(5,.v (.int .i64 ((0 + 1:Nat):Int)))]) ?_) ?_;((repeat (first|exact qi|refine qz ?_|refine ji ?_ ?_))))
 refine jf (fun n σ => ∃ i:Nat,i ≤ (l.drop 1).length ∧ n = (l.drop 1).length - i ∧ (∀ (k:Nat) (h:k + 1 < l.length),k < i → jn (l[k]'(by omega)) l[k + 1] = true) ∧ σ = ⟨[(0,qe l),(5,.v (.int .i64 ((i + 1:Nat):Int)))],[],C.nh⟩) (l.drop 1).length ⟨0,Nat.zero_le _,rfl,(fun k h hk=>absurd hk (Nat.not_lt_zero _)),rfl⟩ ?_
 have hdl:(l.drop 1).length = l.length - 1:=by simp
 rintro n σ ⟨i,hi,rfl,hsofar,rfl⟩
 by_cases hlt:i + 1 < l.length
 ·have hr:=j3 (f:=Ent.row) hlt
  have hr':=j3 (f:=Ent.row) (l:=l) (i:=i) (by omega)
  have hle:=Z7 l[i] l[i + 1]
  repeat' (first|refine qA ?_|fail|((first|refine qk ?_ ?_|refine ql ?_ ?_|refine jg ?_ ?_);all_goals (intro hc;have hp:=hc;try simp at hp;try (exfalso;omega)))|refine jh ?_ ?_)
  all_goals try (exfalso;omega)
  ·have hrf:¬ qY jn l = true:=fun h=>by
    have:=vo.1 h i hlt
    simp_all
   apply jL
   rfl
   simp [qI,h60,hz,hrf]
  ·have hok:jn l[i] l[i + 1] = true:=(by simp_all)
   refine ⟨(l.drop 1).length - (i + 1),_,by omega,qX (ts:=[(0,qe l),(5,.v (.int .i64 ((i + 1 + 1:Nat):Int)))]) ?_,i + 1,by omega,rfl,(fun k h hk=>by
    by_cases e:k = i
    ·subst e;exact hok
    ·exact hsofar k h (by omega)),rfl⟩;((repeat (first|exact qi|refine qz ?_|refine ji ?_ ?_)))
 have hrise:qY jn l = true:=vo.2 fun k h=>hsofar k h (by simp at hi;omega)
 clear hsofar
 repeat' (first|refine qA ?_|fail|((first|refine qk ?_ ?_|refine ql ?_ ?_|refine jg ?_ ?_);all_goals (intro hc;have hp:=hc;try simp at hp;try (exfalso;omega)))|refine jh ?_ ?_)
 all_goals try (exfalso;omega)
 (refine Awp.red (qX (ts:=[(0,qe l),(6,.v (.int .i64 ((0:Nat):Int)))]) ?_) ?_;((repeat (first|exact qi|refine qz ?_|refine ji ?_ ?_))))
 refine jf (fun n σ => ∃ i:Nat,i ≤ l.length ∧ n = l.length - i ∧ (∀ g,g ∈ l.take i → ¬ jU l g = 5) ∧ σ = ⟨[(0,qe l),(6,.v (.int .i64 (i:Int)))],[],C.nh⟩) l.length ⟨0,Nat.zero_le _,rfl,(by simp),rfl⟩ ?_
 rintro n σ ⟨i,hi,rfl,hsofar,rfl⟩
 by_cases hlt:i < l.length
 ·have hr:=j3 (f:=Ent.row) hlt
  have hsm:=hl.each l[i] (List.getElem_mem _)
  have hpo:=wO l[i].path (by have:=hsm.1;omega)
  have hif:vg C.P 66 [qe l,.v (str (qO l[i].path))] (.v (.int .i64 (jU l l[i]))):=Yc l (qO l[i].path) hl.len
  have hnx:=fun h=>ya (p:=fun g => ¬ jU l g = 5) hlt hsofar h
  have hany:jU l l[i] = 5 → l.any (fun x=>decide (jU l x = 5)) = true:=fun h=>List.any_eq_true.2 ⟨l[i],List.getElem_mem _,by simp [h]⟩
  generalize jU l l[i] = E at hif hnx hany
  repeat' (first|refine qA ?_|(first|refine jM Tryz.func67 (hpo ..) ?_|refine jM Tryz.func66 (hif ..) ?_)|((first|refine qk ?_ ?_|refine ql ?_ ?_|refine jg ?_ ?_);all_goals (intro hc;have hp:=hc;try simp at hp;try (exfalso;omega)))|refine jh ?_ ?_)
  all_goals try (exfalso;omega)
  ·have hany:=hany (by assumption)
   apply jL
   rfl
   simp [qI,h60,hz,hrise,hany]
  ·refine ⟨l.length - (i + 1),_,by omega,qX (ts:=[(0,qe l),(6,.v (.int .i64 ((i + 1:Nat):Int)))]) ?_,i + 1,by omega,rfl,hnx (by assumption),rfl⟩;((repeat (first|exact qi|refine qz ?_|refine ji ?_ ?_)))
 obtain rfl:i = l.length:=by omega
 rw [List.take_length] at *
 have hno:¬ l.any (fun x=>decide (jU l x = 5)) = true:=fun h=>by
  obtain ⟨x,hx,hk⟩:=List.any_eq_true.1 h
  exact hsofar x hx (by simpa using hk)
 have hE:qI l = if l.any (fun x=>decide (¬ jU l x = 0)) = true then 4 else 0:=by
  unfold qI
  rw [if_neg h60,if_pos hz,if_pos hrise,if_neg hno]
 clear hsofar
 repeat' (first|refine qA ?_|fail|((first|refine qk ?_ ?_|refine ql ?_ ?_|refine jg ?_ ?_);all_goals (intro hc;have hp:=hc;try simp at hp;try (exfalso;omega)))|refine jh ?_ ?_)
 all_goals try (exfalso;omega)
 (refine Awp.red (qX (ts:=[(0,qe l),(7,.v (.int .i64 ((0:Nat):Int)))]) ?_) ?_;((repeat (first|exact qi|refine qz ?_|refine ji ?_ ?_))))
 refine jf (fun n σ => ∃ i:Nat,i ≤ l.length ∧ n = l.length - i ∧ (∀ g,g ∈ l.take i → jU l g = 0) ∧ σ = ⟨[(0,qe l),(7,.v (.int .i64 (i:Int)))],[],C.nh⟩) l.length ⟨0,Nat.zero_le _,rfl,(by simp),rfl⟩ ?_
 rintro n σ ⟨i,hi,rfl,hsofar,rfl⟩
 by_cases hlt:i < l.length
 ·have hr:=j3 (f:=Ent.row) hlt
  have hsm:=hl.each l[i] (List.getElem_mem _)
  have hpo:=wO l[i].path (by have:=hsm.1;omega)
  have hif:vg C.P 66 [qe l,.v (str (qO l[i].path))] (.v (.int .i64 (jU l l[i]))):=Yc l (qO l[i].path) hl.len
  have hnx:=fun h=>ya (p:=fun g=>jU l g = 0) hlt hsofar h
  have hany:¬ jU l l[i] = 0 → l.any (fun x=>decide (¬ jU l x = 0)) = true:=fun h=>List.any_eq_true.2 ⟨l[i],List.getElem_mem _,by simp [h]⟩
  generalize jU l l[i] = E at hif hnx hany
  repeat' (first|refine qA ?_|(first|refine jM Tryz.func67 (hpo ..) ?_|refine jM Tryz.func66 (hif ..) ?_)|((first|refine qk ?_ ?_|refine ql ?_ ?_|refine jg ?_ ?_);all_goals (intro hc;have hp:=hc;try simp at hp;try (exfalso;omega)))|refine jh ?_ ?_)
  all_goals try (exfalso;omega)
  ·have hany:=hany (by assumption)
   apply jL
   rfl
   rw [hE,if_pos hany]
  ·refine ⟨l.length - (i + 1),_,by omega,qX (ts:=[(0,qe l),(7,.v (.int .i64 ((i + 1:Nat):Int)))]) ?_,i + 1,by omega,rfl,hnx (by assumption),rfl⟩;((repeat (first|exact qi|refine qz ?_|refine ji ?_ ?_)))
 obtain rfl:i = l.length:=by omega
 rw [List.take_length] at *
 have hno:¬ l.any (fun x=>decide (¬ jU l x = 0)) = true:=fun h=>by
  obtain ⟨x,hx,hk⟩:=List.any_eq_true.1 h
  simp at hk
  exact hk (hsofar x hx)
 repeat' (first|refine qA ?_|fail|((first|refine qk ?_ ?_|refine ql ?_ ?_|refine jg ?_ ?_);all_goals (intro hc;have hp:=hc;try simp at hp;try (exfalso;omega)))|refine jh ?_ ?_)
 all_goals try (exfalso;omega)
 apply jL
 rfl
 rw [hE,if_neg hno]
end Go.Proofs.YtnhpclmbhbblbaaGreatDoor
set_option linter.unusedSimpArgs false
set_option linter.unnecessarySimpa false
set_option linter.unusedVariables false
set_option maxHeartbeats 1000000
namespace Go.Proofs.YtnhpclmbhbblbaaGreatDoor
open Go.Ab Go.RowKit
set_option maxRecDepth 10000
attribute [local irreducible] Awp j4 jw js Red qU Go.Ab.Fin q6 Rz x6 jp jo ResOk jJ ju yb jx
def ZT (c:Chg):Int:=if (¬ c.kind = 3 ∧ ¬ c.to = []) ∨ (¬ c.kind = 2 ∧ ¬ c.text = []) then 1 else if 300 < c.text.length then 2 else if c.base < -1 ∨ 1000000 < c.base then 3 else 0
def Yx (c:Chg):Int :=
 if c.kind < 1 ∨ 4 < c.kind then 7
 else if ¬ qE c.path = 0 then qE c.path
 else if c.kind = 3 ∧ ¬ qE c.to = 0 then qE c.to
 else ZT c
end Go.Proofs.YtnhpclmbhbblbaaGreatDoor
