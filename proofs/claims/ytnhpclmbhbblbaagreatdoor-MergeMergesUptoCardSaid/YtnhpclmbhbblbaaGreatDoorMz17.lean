import Derived.Test.YtnhpclmbhbblbaaGreatDoorMz16
set_option linter.unusedSimpArgs false
set_option linter.unnecessarySimpa false
set_option maxHeartbeats 1000000
namespace Go.Proofs.YtnhpclmbhbblbaaGreatDoor
open Go.Ab Go.RowKit
set_option maxRecDepth 10000
attribute [local irreducible] Awp j4 jw js Red qU Go.Ab.Fin q6 Rz x6 jp jo ResOk jJ ju yb jx
theorem Wi:x3 [] = []:=rfl
theorem Wr {u v:qJ} {c:UInt8} {r:Int} (hu:u = v ++ [c]) (h:r < (u.length:Int) ∨ c = 32):x3 (v.take r.toNat) = x3 (u.take r.toNat):=by
 subst hu
 by_cases h1:r.toNat ≤ v.length
 ·rw [List.take_append_of_le_length h1]
 ·have h2:c = 32:=by
   rcases h with h|h
   ·simp at h;omega
   ·exact h
  rw [List.take_of_length_le (by omega),List.take_of_length_le (by simp;omega),wN,if_pos h2]
theorem Kd {u:qJ} {r:Int} (h:u = [] ∨ ∃ v c,u = v ++ [c] ∧ (u.length:Int) ≤ r ∧ ¬ c = 32):x3 (u.take r.toNat) = u:=by
 rcases h with rfl|⟨v,c,rfl,h1,h2⟩
 ·simp [Wi]
 ·rw [List.take_of_length_le (by omega),wN,if_neg h2]
theorem Y0 (p:qJ) (k:Nat) (hk:k < 100) (hp:p.length ≤ 1000000000):vg C.P 33 [.v (str p),.v (.int .i64 (k:Int))] (.tup [.v (str (QF (xw p (k:Int)) (jK p (k:Int)))),.v (.int .i64 (xw p (k:Int)))]):=by
 have hla:=WF p (by omega)
 have hpa:=wO p (by omega)
 have hde:=Kn k hk
 have hnl:(qK p).length ≤ p.length:=by simp [qK]
 have hpl:(qO p).length ≤ p.length:=by simp [qO];omega
 have hd2:=JM (k:Int)
 have hml:=Yl (k:Int)
 have hmk : [32,40] ++ vJ (k:Int) ++ [41] = xj (k:Int):=rfl
 have hel:=YV (qK p)
 have hsl:=wM (qK p)
 have hcl:=YP (qK p) (k:Int)
 have hrm:vm (qK p) (k:Int) = 20 - ((xj (k:Int)).length:Int) - ((x2 (qK p)).length:Int):=rfl
 have hjo:=KW (qO p) (xD (qK p) (k:Int) ++ xj (k:Int) ++ x2 (qK p)) (by omega) (by rw [List.length_append,List.length_append];omega)
 have hj2:vn (qO p) (xD (qK p) (k:Int) ++ xj (k:Int) ++ x2 (qK p)) = jK p (k:Int):=rfl
 have hql:(jK p (k:Int)).length ≤ 4000000000:=by
  rw [← hj2]
  unfold vn
  split
  ·rw [List.length_append,List.length_append];omega
  ·rw [List.length_append,List.length_cons,List.length_append,List.length_append];omega
 have hgr:=JP (jK p (k:Int)) hql
 rw [hj2] at hjo
 have hae:xw p (k:Int) = if xD (qK p) (k:Int) = [] then 2 else if jT (jK p (k:Int)) then 2 else 0:=rfl
 have hcut:xD (qK p) (k:Int) = if vm (qK p) (k:Int) < ((y3 (qK p)).length:Int) then x3 ((y3 (qK p)).take (vm (qK p) (k:Int)).toNat) else y3 (qK p):=rfl
 generalize jK p (k:Int) = Q at hjo hgr hae hj2 hql ⊢
 generalize xw p (k:Int) = E at hae ⊢
 generalize xD (qK p) (k:Int) = Cut at hcut hae hjo hcl hj2
 generalize vm (qK p) (k:Int) = Rm at hcut hrm
 generalize xj (k:Int) = Mk at hmk hjo hml hj2 hrm
 have hone:=qba (qK p)
 have hat0:=fun i (h:i < (qK p).length) (h0:0 < i) => @qbk (qK p) i h h0
 have hat1:=fun i (h:i < (qK p).length) => @Kp (qK p) i h
 have hatl:=qbE (qK p)
 have hata:=fun i h => @qbj (qK p) i h
 generalize hnm:qK p = nm at *
 generalize qO p = pa at *
 subst hmk
 refine qh Tryz.func33 rfl _ Tryz.ntmps33 (Nat.le_of_ble_eq_true rfl) _ Tryz.results33 0 rfl rfl ?_
 repeat' (first|refine qA ?_|(first|refine jM Tryz.func69 (hla ..) ?_)|((first|refine qk ?_ ?_|refine ql ?_ ?_|refine jg ?_ ?_);all_goals (intro hc;have hp:=hc;try simp at hp;try (exfalso;omega)))|refine jh ?_ ?_)
 (refine Awp.red (qX (ts:=[(0,.v (str p)),(1,.v (.int .i64 (k:Int))),(6,.v (str nm)),(7,.v (.int .i64 ((atN nm (0 + 1):Nat):Int))),(8,.v (.int .i64 ((0 + 1:Nat):Int)))]) ?_) ?_;((repeat (first|exact qi|refine qz ?_|refine ji ?_ ?_))))
 all_goals try (rw [hone];done)
 refine jf (fun n σ => ∃ i:Nat,i ≤ (nm.drop 1).length ∧ n = (nm.drop 1).length - i ∧ (True) ∧ σ = ⟨[(0,.v (str p)),(1,.v (.int .i64 (k:Int))),(6,.v (str nm)),(7,.v (.int .i64 ((atN nm (i + 1):Nat):Int))),(8,.v (.int .i64 ((i + 1:Nat):Int)))],[],C.nh⟩) (nm.drop 1).length ⟨0,Nat.zero_le _,rfl,trivial,rfl⟩ ?_
 have hdl:(nm.drop 1).length = nm.length - 1:=by simp
 rintro n σ ⟨i,hi,rfl, -,rfl⟩
 by_cases hlt:i + 1 < nm.length
 ·have hr:nm[i + 1]? = some nm[i + 1]:=List.getElem?_eq_getElem hlt
  have h0:=hat0 (i + 1) hlt (by omega)
  have h1:=hat1 (i + 1) hlt
  repeat' (first|refine qA ?_|fail|((first|refine qk ?_ ?_|refine ql ?_ ?_|refine jg ?_ ?_);all_goals (intro hc;have hp:=hc;try simp at hp;try (exfalso;omega)))|refine jh ?_ ?_)
  all_goals try (exfalso;omega)
  ·have hc:nm[i + 1] = 46:=UInt8.toNat.inj (by show nm[i + 1].toNat = 46;omega)
   have h2:=h0 hc
   refine ⟨(nm.drop 1).length - (i + 1),_,by omega,qX (ts:=[(0,.v (str p)),(1,.v (.int .i64 (k:Int))),(6,.v (str nm)),(7,.v (.int .i64 ((atN nm (i + 1 + 1):Nat):Int))),(8,.v (.int .i64 ((i + 1 + 1:Nat):Int)))]) ?_,i + 1,by omega,rfl,trivial,rfl⟩;((repeat (first|exact qi|refine qz ?_|refine ji ?_ ?_));all_goals (rw [h2]))
  ·have hc:¬ nm[i + 1] = 46:=fun e=>by rw [e] at hp;simp at hp
   have h2:=h1 hc
   refine ⟨(nm.drop 1).length - (i + 1),_,by omega,qX (ts:=[(0,.v (str p)),(1,.v (.int .i64 (k:Int))),(6,.v (str nm)),(7,.v (.int .i64 ((atN nm (i + 1 + 1):Nat):Int))),(8,.v (.int .i64 ((i + 1 + 1:Nat):Int)))]) ?_,i + 1,by omega,rfl,trivial,rfl⟩;((repeat (first|exact qi|refine qz ?_|refine ji ?_ ?_));all_goals (rw [h2]))
 obtain ⟨hS,hE⟩:=hata (i + 1) (by omega)
 have hatl:=hatl (i + 1)
 generalize atN nm (i + 1) = kat at hS hE hatl ⊢
 clear hata hat0 hat1 hone hdl
 rw [← hS] at hcut hsl
 rw [← hE] at hrm hel hjo hj2
 have hd0:(List.drop 0 (nm.take kat)).length ≤ nm.length:=hsl
 subst hrm
 cases hrr:decide (20 < (((nm.take kat).length:Int) + (([32,40] ++ vJ (k:Int) ++ [41]:qJ).length:Int) + (((nm.take nm.length).drop kat).length:Int)))
 ·have hr2:=of_decide_eq_false hrr
  rw [if_neg (by omega)] at hcut
  subst hcut
  repeat' (first|refine qA ?_|(first|refine jM Tryz.func69 (hla ..) ?_|refine jM Tryz.func70 (hde ..) ?_|refine jM Tryz.func67 (hpa ..) ?_|refine jM Tryz.func71 (hjo ..) ?_|refine jM Tryz.func72 (hgr ..) ?_|(apply qd;apply q7 (a:=0) (b:=kat);(case hx=>rfl);(case hT=>rfl);(case he=>rfl);(case ha=>rfl);(case hb=>exact ⟨_,rfl⟩);(case hab=>(first|omega|(simp;done)|(simp only [List.length_cons,List.length_nil,List.length_map];omega)|(simp;omega)));(case hbl=>(first|omega|(simp;done)|(simp only [List.length_cons,List.length_nil,List.length_map];omega)|(simp;omega)));(case hN=>exact nle rfl))|(apply qd;apply q7 (a:=kat) (b:=nm.length);(case hx=>rfl);(case hT=>rfl);(case he=>rfl);(case ha=>exact ⟨_,rfl⟩);(case hb=>rfl);(case hab=>(first|omega|(simp;done)|(simp only [List.length_cons,List.length_nil,List.length_map];omega)|(simp;omega)));(case hbl=>(first|omega|(simp;done)|(simp only [List.length_cons,List.length_nil,List.length_map];omega)|(simp;omega)));(case hN=>exact nle rfl))|(apply qd;apply xQ;rfl;rfl;(simp only [List.length_append,List.length_cons,List.length_nil];omega);exact nle rfl))|((first|refine qk ?_ ?_|refine ql ?_ ?_|refine jg ?_ ?_);all_goals (intro hc;have hp:=hc;try simp at hp;try (exfalso;omega)))|refine jh ?_ ?_)
  all_goals try (exfalso;omega)
  all_goals ((refine y7 (rs:=[.tmp 4,.tmp 5]) ?_;(repeat' (first|exact jv|apply q8|exact jj rfl|exact yg|exact vZ|apply jI|apply y1|apply jH|apply y0|apply ye|apply yY|refine vM ?_|apply xS));all_goals (simp_all [QF])))
 ·have hr2:=of_decide_eq_true hrr
  rw [if_pos (by omega)] at hcut
  have hst0:List.drop 0 (nm.take kat) = (nm.take kat).take ((nm.take kat).length - 0):=by rw [Nat.sub_zero,List.take_length];rfl
  repeat' (first|refine qA ?_|(first|refine jM Tryz.func69 (hla ..) ?_|refine jM Tryz.func70 (hde ..) ?_|refine jM Tryz.func67 (hpa ..) ?_|refine jM Tryz.func71 (hjo ..) ?_|refine jM Tryz.func72 (hgr ..) ?_|(apply qd;apply q7 (a:=0) (b:=kat);(case hx=>rfl);(case hT=>rfl);(case he=>rfl);(case ha=>rfl);(case hb=>exact ⟨_,rfl⟩);(case hab=>(first|omega|(simp;done)|(simp only [List.length_cons,List.length_nil,List.length_map];omega)|(simp;omega)));(case hbl=>(first|omega|(simp;done)|(simp only [List.length_cons,List.length_nil,List.length_map];omega)|(simp;omega)));(case hN=>exact nle rfl))|(apply qd;apply q7 (a:=kat) (b:=nm.length);(case hx=>rfl);(case hT=>rfl);(case he=>rfl);(case ha=>exact ⟨_,rfl⟩);(case hb=>rfl);(case hab=>(first|omega|(simp;done)|(simp only [List.length_cons,List.length_nil,List.length_map];omega)|(simp;omega)));(case hbl=>(first|omega|(simp;done)|(simp only [List.length_cons,List.length_nil,List.length_map];omega)|(simp;omega)));(case hN=>exact nle rfl))|(apply qd;apply xQ;rfl;rfl;(simp only [List.length_append,List.length_cons,List.length_nil];omega);exact nle rfl))|((first|refine qk ?_ ?_|refine ql ?_ ?_|refine jg ?_ ?_);all_goals (intro hc;have hp:=hc;try simp at hp;try (exfalso;omega)))|refine jh ?_ ?_)
  all_goals try (exfalso;omega)
  (refine Awp.red (qX (ts:=[(0,.v (str p)),(9,.v (str ((nm.take kat).take ((nm.take kat).length - 0)))),(10,.v (str ((nm.take nm.length).drop kat))),(11,.v (str ([32,40] ++ vJ (k:Int) ++ [41])))]) ?_) ?_;((repeat (first|exact qi|refine qz ?_|refine ji ?_ ?_))))
  all_goals try (rw [← hst0];done)
  clear hst0 hd0 hE hS hrr
  generalize ([32,40] ++ vJ (k:Int) ++ [41]:qJ) = Mk at *
  generalize (nm.take nm.length).drop kat = En at *
  generalize nm.take kat = St at *
  obtain ⟨Rm,hRm⟩ : ∃ Rm:Int,Rm = 20 - (Mk.length:Int) - (En.length:Int):=⟨_,rfl⟩
  rw [← hRm] at hcut
  refine jf (fun n σ => ∃ i:Nat,i ≤ St.length ∧ n = St.length - i ∧ (x3 ((St.take (St.length - i)).take Rm.toNat) = Cut) ∧ σ = ⟨[(0,.v (str p)),(9,.v (str (St.take (St.length - i)))),(10,.v (str En)),(11,.v (str Mk))],[],C.nh⟩) St.length ⟨0,Nat.zero_le _,rfl,(by rw [Nat.sub_zero,List.take_length];exact hcut.symm),rfl⟩ ?_
  rintro n σ ⟨i,hi,rfl,hsofar,rfl⟩
  have hul:(St.take (St.length - i)).length = St.length - i:=by simp
  have hnx:(St.take (St.length - i)).take ((St.take (St.length - i)).length - 1) = St.take (St.length - (i + 1)):=by rw [hul,List.take_take];congr 1;omega
  generalize St.take (St.length - i) = u at hul hsofar hnx ⊢
  by_cases hu0:u = []
  ·have hCu:u = Cut:=(Kd (.inl hu0)).symm.trans hsofar
   subst hCu
   repeat' (first|refine qA ?_|(first|refine jM Tryz.func67 (hpa ..) ?_|refine jM Tryz.func71 (hjo ..) ?_|refine jM Tryz.func72 (hgr ..) ?_|(apply qd;apply y6 (i:=u.length - 1);(case hx=>rfl);(case hy=>exact yZ (by omega));(case hT=>rfl);(case he=>rfl);(case hc=>exact hch);(case hN=>exact nle rfl))|(apply qd;apply q7 (a:=0) (b:=u.length - 1);(case hx=>rfl);(case hT=>rfl);(case he=>rfl);(case ha=>rfl);(case hb=>exact ⟨_,yZ (by omega)⟩);(case hab=>(first|omega|(simp;done)|(simp only [List.length_cons,List.length_nil,List.length_map];omega)|(simp;omega)));(case hbl=>(first|omega|(simp;done)|(simp only [List.length_cons,List.length_nil,List.length_map];omega)|(simp;omega)));(case hN=>exact nle rfl))|(apply qd;apply xQ;rfl;rfl;(simp only [List.length_append];omega);exact nle rfl))|((first|refine qk ?_ ?_|refine ql ?_ ?_|refine jg ?_ ?_);all_goals (intro hc;have hp:=hc;try simp at hp;try (exfalso;omega)))|refine jh ?_ ?_)
   all_goals try (exfalso;first|exact absurd hu0 (by assumption)|exact hu0 (by assumption))
   all_goals try (exfalso;omega)
   all_goals ((refine y7 (rs:=[.tmp 4,.tmp 5]) ?_;(repeat' (first|exact jv|apply q8|exact jj rfl|exact yg|exact vZ|apply jI|apply y1|apply jH|apply y0|apply ye|apply yY|refine vM ?_|apply xS));all_goals (simp_all [QF])))
  ·obtain ⟨v,c,huv,hch,hv⟩:=Y8 hu0
   have hpos:0 < u.length:=List.length_pos_iff.2 hu0
   have hilt:i < St.length:=by omega
   by_cases hlong:Rm < (u.length:Int) ∨ c = 32
   ·have hcond:x3 ((St.take (St.length - (i + 1))).take Rm.toNat) = Cut:=by rw [← hnx,hv,Wr huv hlong];exact hsofar
    rcases hlong with hl1|rfl
    ·repeat' (first|refine qA ?_|(first|refine jM Tryz.func67 (hpa ..) ?_|refine jM Tryz.func71 (hjo ..) ?_|refine jM Tryz.func72 (hgr ..) ?_|(apply qd;apply y6 (i:=u.length - 1);(case hx=>rfl);(case hy=>exact yZ (by omega));(case hT=>rfl);(case he=>rfl);(case hc=>exact hch);(case hN=>exact nle rfl))|(apply qd;apply q7 (a:=0) (b:=u.length - 1);(case hx=>rfl);(case hT=>rfl);(case he=>rfl);(case ha=>rfl);(case hb=>exact ⟨_,yZ (by omega)⟩);(case hab=>(first|omega|(simp;done)|(simp only [List.length_cons,List.length_nil,List.length_map];omega)|(simp;omega)));(case hbl=>(first|omega|(simp;done)|(simp only [List.length_cons,List.length_nil,List.length_map];omega)|(simp;omega)));(case hN=>exact nle rfl))|(apply qd;apply xQ;rfl;rfl;(simp only [List.length_append];omega);exact nle rfl))|((first|refine qk ?_ ?_|refine ql ?_ ?_|refine jg ?_ ?_);all_goals (intro hc;have hp:=hc;try simp at hp;try (exfalso;omega)))|refine jh ?_ ?_)
     all_goals try (exfalso;exact hu0 (by assumption))
     all_goals try (exfalso;omega)
     all_goals (refine ⟨St.length - (i + 1),_,by omega,qX (ts:=[(0,.v (str p)),(9,.v (str (St.take (St.length - (i + 1))))),(10,.v (str En)),(11,.v (str Mk))]) ?_,i + 1,by omega,rfl,hcond,rfl⟩;((repeat (first|exact qi|refine qz ?_|refine ji ?_ ?_));all_goals (rw [← hnx];rfl)))
    ·repeat' (first|refine qA ?_|(first|refine jM Tryz.func67 (hpa ..) ?_|refine jM Tryz.func71 (hjo ..) ?_|refine jM Tryz.func72 (hgr ..) ?_|(apply qd;apply y6 (i:=u.length - 1);(case hx=>rfl);(case hy=>exact yZ (by omega));(case hT=>rfl);(case he=>rfl);(case hc=>exact hch);(case hN=>exact nle rfl))|(apply qd;apply q7 (a:=0) (b:=u.length - 1);(case hx=>rfl);(case hT=>rfl);(case he=>rfl);(case ha=>rfl);(case hb=>exact ⟨_,yZ (by omega)⟩);(case hab=>(first|omega|(simp;done)|(simp only [List.length_cons,List.length_nil,List.length_map];omega)|(simp;omega)));(case hbl=>(first|omega|(simp;done)|(simp only [List.length_cons,List.length_nil,List.length_map];omega)|(simp;omega)));(case hN=>exact nle rfl))|(apply qd;apply xQ;rfl;rfl;(simp only [List.length_append];omega);exact nle rfl))|((first|refine qk ?_ ?_|refine ql ?_ ?_|refine jg ?_ ?_);all_goals (intro hc;have hp:=hc;try simp at hp;try (exfalso;omega)))|refine jh ?_ ?_)
     all_goals try (exfalso;exact hu0 (by assumption))
     all_goals try (exfalso;omega)
     all_goals (refine ⟨St.length - (i + 1),_,by omega,qX (ts:=[(0,.v (str p)),(9,.v (str (St.take (St.length - (i + 1))))),(10,.v (str En)),(11,.v (str Mk))]) ?_,i + 1,by omega,rfl,hcond,rfl⟩;((repeat (first|exact qi|refine qz ?_|refine ji ?_ ?_));all_goals (rw [← hnx];rfl)))
   ·have hl1:(u.length:Int) ≤ Rm:=by
     by_cases h:Rm < (u.length:Int)
     ·exact absurd (.inl h) hlong
     ·omega
    have hl2:¬ c = 32:=fun h=>hlong (.inr h)
    have hl3:¬ (c.toNat:Int) = 32:=fun h=>hl2 (UInt8.toNat.inj (by show c.toNat = 32;omega))
    have hCu:u = Cut:=(Kd (.inr ⟨v,c,huv,hl1,hl2⟩)).symm.trans hsofar
    subst hCu
    repeat' (first|refine qA ?_|(first|refine jM Tryz.func67 (hpa ..) ?_|refine jM Tryz.func71 (hjo ..) ?_|refine jM Tryz.func72 (hgr ..) ?_|(apply qd;apply y6 (i:=u.length - 1);(case hx=>rfl);(case hy=>exact yZ (by omega));(case hT=>rfl);(case he=>rfl);(case hc=>exact hch);(case hN=>exact nle rfl))|(apply qd;apply q7 (a:=0) (b:=u.length - 1);(case hx=>rfl);(case hT=>rfl);(case he=>rfl);(case ha=>rfl);(case hb=>exact ⟨_,yZ (by omega)⟩);(case hab=>(first|omega|(simp;done)|(simp only [List.length_cons,List.length_nil,List.length_map];omega)|(simp;omega)));(case hbl=>(first|omega|(simp;done)|(simp only [List.length_cons,List.length_nil,List.length_map];omega)|(simp;omega)));(case hN=>exact nle rfl))|(apply qd;apply xQ;rfl;rfl;(simp only [List.length_append];omega);exact nle rfl))|((first|refine qk ?_ ?_|refine ql ?_ ?_|refine jg ?_ ?_);all_goals (intro hc;have hp:=hc;try simp at hp;try (exfalso;omega)))|refine jh ?_ ?_)
    all_goals try (exfalso;first|exact absurd hu0 (by assumption)|exact hu0 (by assumption))
    all_goals try (exfalso;omega)
    all_goals ((refine y7 (rs:=[.tmp 4,.tmp 5]) ?_;(repeat' (first|exact jv|apply q8|exact jj rfl|exact yg|exact vZ|apply jI|apply y1|apply jH|apply y0|apply ye|apply yY|refine vM ?_|apply xS));all_goals (simp_all [QF])))
end Go.Proofs.YtnhpclmbhbblbaaGreatDoor
