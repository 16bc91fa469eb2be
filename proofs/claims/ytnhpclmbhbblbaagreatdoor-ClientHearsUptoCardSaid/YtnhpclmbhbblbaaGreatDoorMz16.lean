import Derived.Test.YtnhpclmbhbblbaaGreatDoorMz15
set_option linter.unusedSimpArgs false
set_option linter.unnecessarySimpa false
set_option maxHeartbeats 1000000
namespace Go.Proofs.YtnhpclmbhbblbaaGreatDoor
open Go.Ab Go.RowKit
set_option maxRecDepth 10000
attribute [local irreducible] Awp yl jE jl Red qX Go.Ab.Fin qW Rz vl jj ji ResOk jV jz yb jv
theorem qc9:zh [] = []:=rfl
theorem qdN {u v:qQ} {c:UInt8} {r:Int} (hu:u = v ++ [c]) (h:r < (u.length:Int) ∨ c = 32):zh (v.take r.toNat) = zh (u.take r.toNat):=by
 subst hu
 by_cases h1:r.toNat ≤ v.length
 ·rw [List.take_append_of_le_length h1]
 ·have h2:c = 32:=by
   rcases h with h|h
   ·simp at h;omega
   ·exact h
  rw [List.take_of_length_le (by omega),List.take_of_length_le (by simp;omega),Yk,if_pos h2]
theorem qbI {u:qQ} {r:Int} (h:u = [] ∨ ∃ v c,u = v ++ [c] ∧ (u.length:Int) ≤ r ∧ ¬ c = 32):zh (u.take r.toNat) = u:=by
 rcases h with rfl|⟨v,c,rfl,h1,h2⟩
 ·simp [qc9]
 ·rw [List.take_of_length_le (by omega),Yk,if_neg h2]
theorem ZA (p:qQ) (k:Nat) (hk:k < 100) (hp:p.length ≤ 1000000000):yO C.P 33 [.v (str p),.v (.int .i64 (k:Int))] (.tup [.v (str (JP (vz p (k:Int)) (yr p (k:Int)))),.v (.int .i64 (vz p (k:Int)))]):=by
 have hla:=qdq p (by omega)
 have hpa:=yC p (by omega)
 have hde:=qb5 k hk
 have hnl:(qY p).length ≤ p.length:=by simp [qY]
 have hpl:(qG p).length ≤ p.length:=by simp [qG];omega
 have hd2:=VH (k:Int)
 have hml:=V4 (k:Int)
 have hmk : [32,40] ++ ko (k:Int) ++ [41] = vo (k:Int):=rfl
 have hel:=ZO (qY p)
 have hsl:=Yh (qY p)
 have hcl:=ZM (qY p) (k:Int)
 have hrm:zQ (qY p) (k:Int) = 20 - ((vo (k:Int)).length:Int) - ((zg (qY p)).length:Int):=rfl
 have hjo:=qb8 (qG p) (vE (qY p) (k:Int) ++ vo (k:Int) ++ zg (qY p)) (by omega) (by rw [List.length_append,List.length_append];omega)
 have hj2:zM (qG p) (vE (qY p) (k:Int) ++ vo (k:Int) ++ zg (qY p)) = yr p (k:Int):=rfl
 have hql:(yr p (k:Int)).length ≤ 4000000000:=by
  rw [← hj2]
  unfold zM
  split
  ·rw [List.length_append,List.length_append];omega
  ·rw [List.length_append,List.length_cons,List.length_append,List.length_append];omega
 have hgr:=J3 (yr p (k:Int)) hql
 rw [hj2] at hjo
 have hae:vz p (k:Int) = if vE (qY p) (k:Int) = [] then 2 else if jZ (yr p (k:Int)) then 2 else 0:=rfl
 have hcut:vE (qY p) (k:Int) = if zQ (qY p) (k:Int) < ((vd (qY p)).length:Int) then zh ((vd (qY p)).take (zQ (qY p) (k:Int)).toNat) else vd (qY p):=rfl
 generalize yr p (k:Int) = Q at hjo hgr hae hj2 hql ⊢
 generalize vz p (k:Int) = E at hae ⊢
 generalize vE (qY p) (k:Int) = Cut at hcut hae hjo hcl hj2
 generalize zQ (qY p) (k:Int) = Rm at hcut hrm
 generalize vo (k:Int) = Mk at hmk hjo hml hj2 hrm
 have hone:=qeZ (qY p)
 have hat0:=fun i (h:i < (qY p).length) (h0:0 < i) => @qeY (qY p) i h h0
 have hat1:=fun i (h:i < (qY p).length) => @qcg (qY p) i h
 have hatl:=qgw (qY p)
 have hata:=fun i h => @qeX (qY p) i h
 generalize hnm:qY p = nm at *
 generalize qG p = pa at *
 subst hmk
 refine qa Tryz.func33 rfl _ Tryz.ntmps33 (Nat.le_of_ble_eq_true rfl) _ Tryz.results33 0 rfl rfl ?_
 repeat' (first|refine qm ?_|(first|refine jc Tryz.func69 (hla ..) ?_)|((first|refine qd ?_ ?_|refine qc ?_ ?_|refine xsC ?_ ?_);all_goals (intro hc;have hp:=hc;try simp at hp;try (exfalso;omega)))|refine qO ?_ ?_)
 (refine Awp.red (qv (ts:=[(0,.v (str p)),(1,.v (.int .i64 (k:Int))),(6,.v (str nm)),(7,.v (.int .i64 ((atN nm (0 + 1):Nat):Int))),(8,.v (.int .i64 ((0 + 1:Nat):Int)))]) ?_) ?_;((repeat (first|exact qg|refine qn ?_|refine qS ?_ ?_))))
 all_goals try (rw [hone];done)
 refine qP (fun n σ => ∃ i:Nat,i ≤ (nm.drop 1).length ∧ n = (nm.drop 1).length - i ∧ (True) ∧ σ = ⟨[(0,.v (str p)),(1,.v (.int .i64 (k:Int))),(6,.v (str nm)),(7,.v (.int .i64 ((atN nm (i + 1):Nat):Int))),(8,.v (.int .i64 ((i + 1:Nat):Int)))],[],C.nh⟩) (nm.drop 1).length ⟨0,Nat.zero_le _,rfl,trivial,rfl⟩ ?_
 have hdl:(nm.drop 1).length = nm.length - 1:=by simp
 rintro n σ ⟨i,hi,rfl, -,rfl⟩
 by_cases hlt:i + 1 < nm.length
 ·have hr:nm[i + 1]? = some nm[i + 1]:=List.getElem?_eq_getElem hlt
  have h0:=hat0 (i + 1) hlt (by omega)
  have h1:=hat1 (i + 1) hlt
  repeat' (first|refine qm ?_|fail|((first|refine qd ?_ ?_|refine qc ?_ ?_|refine xsC ?_ ?_);all_goals (intro hc;have hp:=hc;try simp at hp;try (exfalso;omega)))|refine qO ?_ ?_)
  all_goals try (exfalso;omega)
  ·have hc:nm[i + 1] = 46:=UInt8.toNat.inj (by show nm[i + 1].toNat = 46;omega)
   have h2:=h0 hc
   refine ⟨(nm.drop 1).length - (i + 1),_,by omega,qv (ts:=[(0,.v (str p)),(1,.v (.int .i64 (k:Int))),(6,.v (str nm)),(7,.v (.int .i64 ((atN nm (i + 1 + 1):Nat):Int))),(8,.v (.int .i64 ((i + 1 + 1:Nat):Int)))]) ?_,i + 1,by omega,rfl,trivial,rfl⟩;((repeat (first|exact qg|refine qn ?_|refine qS ?_ ?_));all_goals (rw [h2]))
  ·have hc:¬ nm[i + 1] = 46:=fun e=>by rw [e] at hp;simp at hp
   have h2:=h1 hc
   refine ⟨(nm.drop 1).length - (i + 1),_,by omega,qv (ts:=[(0,.v (str p)),(1,.v (.int .i64 (k:Int))),(6,.v (str nm)),(7,.v (.int .i64 ((atN nm (i + 1 + 1):Nat):Int))),(8,.v (.int .i64 ((i + 1 + 1:Nat):Int)))]) ?_,i + 1,by omega,rfl,trivial,rfl⟩;((repeat (first|exact qg|refine qn ?_|refine qS ?_ ?_));all_goals (rw [h2]))
 obtain ⟨hS,hE⟩:=hata (i + 1) (by omega)
 have hatl:=hatl (i + 1)
 generalize atN nm (i + 1) = kat at hS hE hatl ⊢
 clear hata hat0 hat1 hone hdl
 rw [← hS] at hcut hsl
 rw [← hE] at hrm hel hjo hj2
 have hd0:(List.drop 0 (nm.take kat)).length ≤ nm.length:=hsl
 subst hrm
 cases hrr:decide (20 < (((nm.take kat).length:Int) + (([32,40] ++ ko (k:Int) ++ [41]:qQ).length:Int) + (((nm.take nm.length).drop kat).length:Int)))
 ·have hr2:=of_decide_eq_false hrr
  rw [if_neg (by omega)] at hcut
  subst hcut
  repeat' (first|refine qm ?_|(first|refine jc Tryz.func69 (hla ..) ?_|refine jc Tryz.func70 (hde ..) ?_|refine jc Tryz.func67 (hpa ..) ?_|refine jc Tryz.func71 (hjo ..) ?_|refine jc Tryz.func72 (hgr ..) ?_|(apply qf;apply jm (a:=0) (b:=kat);(case hx=>rfl);(case hT=>rfl);(case he=>rfl);(case ha=>rfl);(case hb=>exact ⟨_,rfl⟩);(case hab=>(first|omega|(simp;done)|(simp only [List.length_cons,List.length_nil,List.length_map];omega)|(simp;omega)));(case hbl=>(first|omega|(simp;done)|(simp only [List.length_cons,List.length_nil,List.length_map];omega)|(simp;omega)));(case hN=>exact nle rfl))|(apply qf;apply jm (a:=kat) (b:=nm.length);(case hx=>rfl);(case hT=>rfl);(case he=>rfl);(case ha=>exact ⟨_,rfl⟩);(case hb=>rfl);(case hab=>(first|omega|(simp;done)|(simp only [List.length_cons,List.length_nil,List.length_map];omega)|(simp;omega)));(case hbl=>(first|omega|(simp;done)|(simp only [List.length_cons,List.length_nil,List.length_map];omega)|(simp;omega)));(case hN=>exact nle rfl))|(apply qf;apply vU;rfl;rfl;(simp only [List.length_append,List.length_cons,List.length_nil];omega);exact nle rfl))|((first|refine qd ?_ ?_|refine qc ?_ ?_|refine xsC ?_ ?_);all_goals (intro hc;have hp:=hc;try simp at hp;try (exfalso;omega)))|refine qO ?_ ?_)
  all_goals try (exfalso;omega)
  all_goals ((refine yP (rs:=[.tmp 4,.tmp 5]) ?_;(repeat' (first|exact q5|apply qH|exact q8 rfl|exact yn|exact zA|apply jR|apply yL|apply jJ|apply yJ|apply ya|apply yK|refine zi ?_|apply va));all_goals (simp_all [JP])))
 ·have hr2:=of_decide_eq_true hrr
  rw [if_pos (by omega)] at hcut
  have hst0:List.drop 0 (nm.take kat) = (nm.take kat).take ((nm.take kat).length - 0):=by rw [Nat.sub_zero,List.take_length];rfl
  repeat' (first|refine qm ?_|(first|refine jc Tryz.func69 (hla ..) ?_|refine jc Tryz.func70 (hde ..) ?_|refine jc Tryz.func67 (hpa ..) ?_|refine jc Tryz.func71 (hjo ..) ?_|refine jc Tryz.func72 (hgr ..) ?_|(apply qf;apply jm (a:=0) (b:=kat);(case hx=>rfl);(case hT=>rfl);(case he=>rfl);(case ha=>rfl);(case hb=>exact ⟨_,rfl⟩);(case hab=>(first|omega|(simp;done)|(simp only [List.length_cons,List.length_nil,List.length_map];omega)|(simp;omega)));(case hbl=>(first|omega|(simp;done)|(simp only [List.length_cons,List.length_nil,List.length_map];omega)|(simp;omega)));(case hN=>exact nle rfl))|(apply qf;apply jm (a:=kat) (b:=nm.length);(case hx=>rfl);(case hT=>rfl);(case he=>rfl);(case ha=>exact ⟨_,rfl⟩);(case hb=>rfl);(case hab=>(first|omega|(simp;done)|(simp only [List.length_cons,List.length_nil,List.length_map];omega)|(simp;omega)));(case hbl=>(first|omega|(simp;done)|(simp only [List.length_cons,List.length_nil,List.length_map];omega)|(simp;omega)));(case hN=>exact nle rfl))|(apply qf;apply vU;rfl;rfl;(simp only [List.length_append,List.length_cons,List.length_nil];omega);exact nle rfl))|((first|refine qd ?_ ?_|refine qc ?_ ?_|refine xsC ?_ ?_);all_goals (intro hc;have hp:=hc;try simp at hp;try (exfalso;omega)))|refine qO ?_ ?_)
  all_goals try (exfalso;omega)
  (refine Awp.red (qv (ts:=[(0,.v (str p)),(9,.v (str ((nm.take kat).take ((nm.take kat).length - 0)))),(10,.v (str ((nm.take nm.length).drop kat))),(11,.v (str ([32,40] ++ ko (k:Int) ++ [41])))]) ?_) ?_;((repeat (first|exact qg|refine qn ?_|refine qS ?_ ?_))))
  all_goals try (rw [← hst0];done)
  clear hst0 hd0 hE hS hrr
  generalize ([32,40] ++ ko (k:Int) ++ [41]:qQ) = Mk at *
  generalize (nm.take nm.length).drop kat = En at *
  generalize nm.take kat = St at *
  obtain ⟨Rm,hRm⟩ : ∃ Rm:Int,Rm = 20 - (Mk.length:Int) - (En.length:Int):=⟨_,rfl⟩
  rw [← hRm] at hcut
  refine qP (fun n σ => ∃ i:Nat,i ≤ St.length ∧ n = St.length - i ∧ (zh ((St.take (St.length - i)).take Rm.toNat) = Cut) ∧ σ = ⟨[(0,.v (str p)),(9,.v (str (St.take (St.length - i)))),(10,.v (str En)),(11,.v (str Mk))],[],C.nh⟩) St.length ⟨0,Nat.zero_le _,rfl,(by rw [Nat.sub_zero,List.take_length];exact hcut.symm),rfl⟩ ?_
  rintro n σ ⟨i,hi,rfl,hsofar,rfl⟩
  have hul:(St.take (St.length - i)).length = St.length - i:=by simp
  have hnx:(St.take (St.length - i)).take ((St.take (St.length - i)).length - 1) = St.take (St.length - (i + 1)):=by rw [hul,List.take_take];congr 1;omega
  generalize St.take (St.length - i) = u at hul hsofar hnx ⊢
  by_cases hu0:u = []
  ·have hCu:u = Cut:=(qbI (.inl hu0)).symm.trans hsofar
   subst hCu
   repeat' (first|refine qm ?_|(first|refine jc Tryz.func67 (hpa ..) ?_|refine jc Tryz.func71 (hjo ..) ?_|refine jc Tryz.func72 (hgr ..) ?_|(apply qf;apply vc (i:=u.length - 1);(case hx=>rfl);(case hy=>exact xi (by omega));(case hT=>rfl);(case he=>rfl);(case hc=>exact hch);(case hN=>exact nle rfl))|(apply qf;apply jm (a:=0) (b:=u.length - 1);(case hx=>rfl);(case hT=>rfl);(case he=>rfl);(case ha=>rfl);(case hb=>exact ⟨_,xi (by omega)⟩);(case hab=>(first|omega|(simp;done)|(simp only [List.length_cons,List.length_nil,List.length_map];omega)|(simp;omega)));(case hbl=>(first|omega|(simp;done)|(simp only [List.length_cons,List.length_nil,List.length_map];omega)|(simp;omega)));(case hN=>exact nle rfl))|(apply qf;apply vU;rfl;rfl;(simp only [List.length_append];omega);exact nle rfl))|((first|refine qd ?_ ?_|refine qc ?_ ?_|refine xsC ?_ ?_);all_goals (intro hc;have hp:=hc;try simp at hp;try (exfalso;omega)))|refine qO ?_ ?_)
   all_goals try (exfalso;first|exact absurd hu0 (by assumption)|exact hu0 (by assumption))
   all_goals try (exfalso;omega)
   all_goals ((refine yP (rs:=[.tmp 4,.tmp 5]) ?_;(repeat' (first|exact q5|apply qH|exact q8 rfl|exact yn|exact zA|apply jR|apply yL|apply jJ|apply yJ|apply ya|apply yK|refine zi ?_|apply va));all_goals (simp_all [JP])))
  ·obtain ⟨v,c,huv,hch,hv⟩:=Z4 hu0
   have hpos:0 < u.length:=List.length_pos_iff.2 hu0
   have hilt:i < St.length:=by omega
   by_cases hlong:Rm < (u.length:Int) ∨ c = 32
   ·have hcond:zh ((St.take (St.length - (i + 1))).take Rm.toNat) = Cut:=by rw [← hnx,hv,qdN huv hlong];exact hsofar
    rcases hlong with hl1|rfl
    ·repeat' (first|refine qm ?_|(first|refine jc Tryz.func67 (hpa ..) ?_|refine jc Tryz.func71 (hjo ..) ?_|refine jc Tryz.func72 (hgr ..) ?_|(apply qf;apply vc (i:=u.length - 1);(case hx=>rfl);(case hy=>exact xi (by omega));(case hT=>rfl);(case he=>rfl);(case hc=>exact hch);(case hN=>exact nle rfl))|(apply qf;apply jm (a:=0) (b:=u.length - 1);(case hx=>rfl);(case hT=>rfl);(case he=>rfl);(case ha=>rfl);(case hb=>exact ⟨_,xi (by omega)⟩);(case hab=>(first|omega|(simp;done)|(simp only [List.length_cons,List.length_nil,List.length_map];omega)|(simp;omega)));(case hbl=>(first|omega|(simp;done)|(simp only [List.length_cons,List.length_nil,List.length_map];omega)|(simp;omega)));(case hN=>exact nle rfl))|(apply qf;apply vU;rfl;rfl;(simp only [List.length_append];omega);exact nle rfl))|((first|refine qd ?_ ?_|refine qc ?_ ?_|refine xsC ?_ ?_);all_goals (intro hc;have hp:=hc;try simp at hp;try (exfalso;omega)))|refine qO ?_ ?_)
     all_goals try (exfalso;exact hu0 (by assumption))
     all_goals try (exfalso;omega)
     all_goals (refine ⟨St.length - (i + 1),_,by omega,qv (ts:=[(0,.v (str p)),(9,.v (str (St.take (St.length - (i + 1))))),(10,.v (str En)),(11,.v (str Mk))]) ?_,i + 1,by omega,rfl,hcond,rfl⟩;((repeat (first|exact qg|refine qn ?_|refine qS ?_ ?_));all_goals (rw [← hnx];rfl)))
    ·repeat' (first|refine qm ?_|(first|refine jc Tryz.func67 (hpa ..) ?_|refine jc Tryz.func71 (hjo ..) ?_|refine jc Tryz.func72 (hgr ..) ?_|(apply qf;apply vc (i:=u.length - 1);(case hx=>rfl);(case hy=>exact xi (by omega));(case hT=>rfl);(case he=>rfl);(case hc=>exact hch);(case hN=>exact nle rfl))|(apply qf;apply jm (a:=0) (b:=u.length - 1);(case hx=>rfl);(case hT=>rfl);(case he=>rfl);(case ha=>rfl);(case hb=>exact ⟨_,xi (by omega)⟩);(case hab=>(first|omega|(simp;done)|(simp only [List.length_cons,List.length_nil,List.length_map];omega)|(simp;omega)));(case hbl=>(first|omega|(simp;done)|(simp only [List.length_cons,List.length_nil,List.length_map];omega)|(simp;omega)));(case hN=>exact nle rfl))|(apply qf;apply vU;rfl;rfl;(simp only [List.length_append];omega);exact nle rfl))|((first|refine qd ?_ ?_|refine qc ?_ ?_|refine xsC ?_ ?_);all_goals (intro hc;have hp:=hc;try simp at hp;try (exfalso;omega)))|refine qO ?_ ?_)
     all_goals try (exfalso;exact hu0 (by assumption))
     all_goals try (exfalso;omega)
     all_goals (refine ⟨St.length - (i + 1),_,by omega,qv (ts:=[(0,.v (str p)),(9,.v (str (St.take (St.length - (i + 1))))),(10,.v (str En)),(11,.v (str Mk))]) ?_,i + 1,by omega,rfl,hcond,rfl⟩;((repeat (first|exact qg|refine qn ?_|refine qS ?_ ?_));all_goals (rw [← hnx];rfl)))
   ·have hl1:(u.length:Int) ≤ Rm:=by
     by_cases h:Rm < (u.length:Int)
     ·exact absurd (.inl h) hlong
     ·omega
    have hl2:¬ c = 32:=fun h=>hlong (.inr h)
    have hl3:¬ (c.toNat:Int) = 32:=fun h=>hl2 (UInt8.toNat.inj (by show c.toNat = 32;omega))
    have hCu:u = Cut:=(qbI (.inr ⟨v,c,huv,hl1,hl2⟩)).symm.trans hsofar
    subst hCu
    repeat' (first|refine qm ?_|(first|refine jc Tryz.func67 (hpa ..) ?_|refine jc Tryz.func71 (hjo ..) ?_|refine jc Tryz.func72 (hgr ..) ?_|(apply qf;apply vc (i:=u.length - 1);(case hx=>rfl);(case hy=>exact xi (by omega));(case hT=>rfl);(case he=>rfl);(case hc=>exact hch);(case hN=>exact nle rfl))|(apply qf;apply jm (a:=0) (b:=u.length - 1);(case hx=>rfl);(case hT=>rfl);(case he=>rfl);(case ha=>rfl);(case hb=>exact ⟨_,xi (by omega)⟩);(case hab=>(first|omega|(simp;done)|(simp only [List.length_cons,List.length_nil,List.length_map];omega)|(simp;omega)));(case hbl=>(first|omega|(simp;done)|(simp only [List.length_cons,List.length_nil,List.length_map];omega)|(simp;omega)));(case hN=>exact nle rfl))|(apply qf;apply vU;rfl;rfl;(simp only [List.length_append];omega);exact nle rfl))|((first|refine qd ?_ ?_|refine qc ?_ ?_|refine xsC ?_ ?_);all_goals (intro hc;have hp:=hc;try simp at hp;try (exfalso;omega)))|refine qO ?_ ?_)
    all_goals try (exfalso;first|exact absurd hu0 (by assumption)|exact hu0 (by assumption))
    all_goals try (exfalso;omega)
    all_goals ((refine yP (rs:=[.tmp 4,.tmp 5]) ?_;(repeat' (first|exact q5|apply qH|exact q8 rfl|exact yn|exact zA|apply jR|apply yL|apply jJ|apply yJ|apply ya|apply yK|refine zi ?_|apply va));all_goals (simp_all [JP])))
end Go.Proofs.YtnhpclmbhbblbaaGreatDoor
