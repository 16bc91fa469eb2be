import Derived.Test.YtamejbkifpjhiaaGreatDoorMz14
import Derived.Test.YtamejbkifpjhiaaGreatDoorMz11
import Derived.Test.YtamejbkifpjhiaaGreatDoorMz7
set_option linter.unusedSimpArgs false
set_option linter.unnecessarySimpa false
set_option maxHeartbeats 1000000
namespace Go.Proofs.YtamejbkifpjhiaaGreatDoor
open Go.Ab Go.RowKit
set_option maxRecDepth 10000
attribute [local irreducible] Awp yH jH jw Red ja Go.Ab.Fin qZ Rz vn jr jp ResOk j3 jC yC jA
theorem qdb:zm [] = []:=rfl
theorem qdM {u v:qP} {c:UInt8} {r:Int} (hu:u = v ++ [c]) (h:r < (u.length:Int) ∨ c = 32):zm (v.take r.toNat) = zm (u.take r.toNat):=by
 subst hu
 by_cases h1:r.toNat ≤ v.length
 ·rw [List.take_append_of_le_length h1]
 ·have h2:c = 32:=by
   rcases h with h|h
   ·simp at h;omega
   ·exact h
  rw [List.take_of_length_le (by omega),List.take_of_length_le (by simp;omega),Yc,if_pos h2]
theorem qbH {u:qP} {r:Int} (h:u = [] ∨ ∃ v c,u = v ++ [c] ∧ (u.length:Int) ≤ r ∧ ¬ c = 32):zm (u.take r.toNat) = u:=by
 rcases h with rfl|⟨v,c,rfl,h1,h2⟩
 ·simp [qdb]
 ·rw [List.take_of_length_le (by omega),Yc,if_neg h2]
theorem Zu (p:qP) (k:Nat) (hk:k < 100) (hp:p.length ≤ 1000000000):xH C.P 85 [.v (str p),.v (.int .i64 (k:Int))] (.tup [.v (str (JK (vC p (k:Int)) (yI p (k:Int)))),.v (.int .i64 (vC p (k:Int)))]):=by
 have hla:=qdo p (by omega)
 have hpa:=yS p (by omega)
 have hde:=qb8 k hk
 have hnl:(jb p).length ≤ p.length:=by simp [jb]
 have hpl:(qJ p).length ≤ p.length:=by simp [qJ];omega
 have hd2:=Vx (k:Int)
 have hml:=VU (k:Int)
 have hmk : [32,40] ++ ko (k:Int) ++ [41] = vo (k:Int):=rfl
 have hel:=ZD (jb p)
 have hsl:=J9 (jb p)
 have hcl:=ZC (jb p) (k:Int)
 have hrm:zM (jb p) (k:Int) = 20 - ((vo (k:Int)).length:Int) - ((zk (jb p)).length:Int):=rfl
 have hjo:=qca (qJ p) (vI (jb p) (k:Int) ++ vo (k:Int) ++ zk (jb p)) (by omega) (by rw [List.length_append,List.length_append];omega)
 have hj2:zK (qJ p) (vI (jb p) (k:Int) ++ vo (k:Int) ++ zk (jb p)) = yI p (k:Int):=rfl
 have hql:(yI p (k:Int)).length ≤ 4000000000:=by
  rw [← hj2]
  unfold zK
  split
  ·rw [List.length_append,List.length_append];omega
  ·rw [List.length_append,List.length_cons,List.length_append,List.length_append];omega
 have hgr:=JV (yI p (k:Int)) hql
 rw [hj2] at hjo
 have hae:vC p (k:Int) = if vI (jb p) (k:Int) = [] then 2 else if j8 (yI p (k:Int)) then 2 else 0:=rfl
 have hcut:vI (jb p) (k:Int) = if zM (jb p) (k:Int) < ((vc (jb p)).length:Int) then zm ((vc (jb p)).take (zM (jb p) (k:Int)).toNat) else vc (jb p):=rfl
 generalize yI p (k:Int) = Q at hjo hgr hae hj2 hql ⊢
 generalize vC p (k:Int) = E at hae ⊢
 generalize vI (jb p) (k:Int) = Cut at hcut hae hjo hcl hj2
 generalize zM (jb p) (k:Int) = Rm at hcut hrm
 generalize vo (k:Int) = Mk at hmk hjo hml hj2 hrm
 have hone:=qe0 (jb p)
 have hat0:=fun i (h:i < (jb p).length) (h0:0 < i) => @qeZ (jb p) i h h0
 have hat1:=fun i (h:i < (jb p).length) => @qck (jb p) i h
 have hatl:=qge (jb p)
 have hata:=fun i h => @qeY (jb p) i h
 generalize hnm:jb p = nm at *
 generalize qJ p = pa at *
 subst hmk
 refine qc Tryz.func85 rfl _ Tryz.ntmps85 (Nat.le_of_ble_eq_true rfl) _ Tryz.results85 0 rfl rfl ?_
 repeat' (first|refine qn ?_|(first|refine jv Tryz.func127 (hla ..) ?_)|((first|refine qf ?_ ?_|refine qe ?_ ?_|refine xsC ?_ ?_);all_goals (intro hc;have hp:=hc;try simp at hp;try (exfalso;omega)))|refine qX ?_ ?_)
 (refine Awp.red (qI (ts:=[(0,.v (str p)),(1,.v (.int .i64 (k:Int))),(6,.v (str nm)),(7,.v (.int .i64 ((atN nm (0 + 1):Nat):Int))),(8,.v (.int .i64 ((0 + 1:Nat):Int)))]) ?_) ?_;((repeat (first|exact qg|refine qo ?_|refine qY ?_ ?_))))
 all_goals try (rw [hone];done)
 refine qV (fun n σ => ∃ i:Nat,i ≤ (nm.drop 1).length ∧ n = (nm.drop 1).length - i ∧ (True) ∧ σ = ⟨[(0,.v (str p)),(1,.v (.int .i64 (k:Int))),(6,.v (str nm)),(7,.v (.int .i64 ((atN nm (i + 1):Nat):Int))),(8,.v (.int .i64 ((i + 1:Nat):Int)))],[],C.nh⟩) (nm.drop 1).length ⟨0,Nat.zero_le _,rfl,trivial,rfl⟩ ?_
 have hdl:(nm.drop 1).length = nm.length - 1:=by simp
 rintro n σ ⟨i,hi,rfl, -,rfl⟩
 by_cases hlt:i + 1 < nm.length
 ·have hr:nm[i + 1]? = some nm[i + 1]:=List.getElem?_eq_getElem hlt
  have h0:=hat0 (i + 1) hlt (by omega)
  have h1:=hat1 (i + 1) hlt
  repeat' (first|refine qn ?_|fail|((first|refine qf ?_ ?_|refine qe ?_ ?_|refine xsC ?_ ?_);all_goals (intro hc;have hp:=hc;try simp at hp;try (exfalso;omega)))|refine qX ?_ ?_)
  all_goals try (exfalso;omega)
  ·have hc:nm[i + 1] = 46:=UInt8.toNat.inj (by show nm[i + 1].toNat = 46;omega)
   have h2:=h0 hc
   refine ⟨(nm.drop 1).length - (i + 1),_,by omega,qI (ts:=[(0,.v (str p)),(1,.v (.int .i64 (k:Int))),(6,.v (str nm)),(7,.v (.int .i64 ((atN nm (i + 1 + 1):Nat):Int))),(8,.v (.int .i64 ((i + 1 + 1:Nat):Int)))]) ?_,i + 1,by omega,rfl,trivial,rfl⟩;((repeat (first|exact qg|refine qo ?_|refine qY ?_ ?_));all_goals (rw [h2]))
  ·have hc:¬ nm[i + 1] = 46:=fun e=>by rw [e] at hp;simp at hp
   have h2:=h1 hc
   refine ⟨(nm.drop 1).length - (i + 1),_,by omega,qI (ts:=[(0,.v (str p)),(1,.v (.int .i64 (k:Int))),(6,.v (str nm)),(7,.v (.int .i64 ((atN nm (i + 1 + 1):Nat):Int))),(8,.v (.int .i64 ((i + 1 + 1:Nat):Int)))]) ?_,i + 1,by omega,rfl,trivial,rfl⟩;((repeat (first|exact qg|refine qo ?_|refine qY ?_ ?_));all_goals (rw [h2]))
 obtain ⟨hS,hE⟩:=hata (i + 1) (by omega)
 have hatl:=hatl (i + 1)
 generalize atN nm (i + 1) = kat at hS hE hatl ⊢
 clear hata hat0 hat1 hone hdl
 rw [← hS] at hcut hsl
 rw [← hE] at hrm hel hjo hj2
 have hd0:(List.drop 0 (nm.take kat)).length ≤ nm.length:=hsl
 subst hrm
 cases hrr:decide (20 < (((nm.take kat).length:Int) + (([32,40] ++ ko (k:Int) ++ [41]:qP).length:Int) + (((nm.take nm.length).drop kat).length:Int)))
 ·have hr2:=of_decide_eq_false hrr
  rw [if_neg (by omega)] at hcut
  subst hcut
  repeat' (first|refine qn ?_|(first|refine jv Tryz.func127 (hla ..) ?_|refine jv Tryz.func103 (hde ..) ?_|refine jv Tryz.func73 (hpa ..) ?_|refine jv Tryz.func128 (hjo ..) ?_|refine jv Tryz.func80 (hgr ..) ?_|(apply qi;apply jq (a:=0) (b:=kat);(case hx=>rfl);(case hT=>rfl);(case he=>rfl);(case ha=>rfl);(case hb=>exact ⟨_,rfl⟩);(case hab=>(first|omega|(simp;done)|(simp only [List.length_cons,List.length_nil,List.length_map];omega)|(simp;omega)));(case hbl=>(first|omega|(simp;done)|(simp only [List.length_cons,List.length_nil,List.length_map];omega)|(simp;omega)));(case hN=>exact nle rfl))|(apply qi;apply jq (a:=kat) (b:=nm.length);(case hx=>rfl);(case hT=>rfl);(case he=>rfl);(case ha=>exact ⟨_,rfl⟩);(case hb=>rfl);(case hab=>(first|omega|(simp;done)|(simp only [List.length_cons,List.length_nil,List.length_map];omega)|(simp;omega)));(case hbl=>(first|omega|(simp;done)|(simp only [List.length_cons,List.length_nil,List.length_map];omega)|(simp;omega)));(case hN=>exact nle rfl))|(apply qi;apply vV;rfl;rfl;(simp only [List.length_append,List.length_cons,List.length_nil];omega);exact nle rfl))|((first|refine qf ?_ ?_|refine qe ?_ ?_|refine xsC ?_ ?_);all_goals (intro hc;have hp:=hc;try simp at hp;try (exfalso;omega)))|refine qX ?_ ?_)
  all_goals try (exfalso;omega)
  all_goals ((refine xa (rs:=[.tmp 4,.tmp 5]) ?_;(repeat' (first|exact q5|apply qA|exact q4 rfl|exact yE|exact zz|apply jX|apply y5|apply jO|apply y3|apply yz|apply y4|refine zr ?_|apply x8));all_goals (simp_all [JK])))
 ·have hr2:=of_decide_eq_true hrr
  rw [if_pos (by omega)] at hcut
  have hst0:List.drop 0 (nm.take kat) = (nm.take kat).take ((nm.take kat).length - 0):=by rw [Nat.sub_zero,List.take_length];rfl
  repeat' (first|refine qn ?_|(first|refine jv Tryz.func127 (hla ..) ?_|refine jv Tryz.func103 (hde ..) ?_|refine jv Tryz.func73 (hpa ..) ?_|refine jv Tryz.func128 (hjo ..) ?_|refine jv Tryz.func80 (hgr ..) ?_|(apply qi;apply jq (a:=0) (b:=kat);(case hx=>rfl);(case hT=>rfl);(case he=>rfl);(case ha=>rfl);(case hb=>exact ⟨_,rfl⟩);(case hab=>(first|omega|(simp;done)|(simp only [List.length_cons,List.length_nil,List.length_map];omega)|(simp;omega)));(case hbl=>(first|omega|(simp;done)|(simp only [List.length_cons,List.length_nil,List.length_map];omega)|(simp;omega)));(case hN=>exact nle rfl))|(apply qi;apply jq (a:=kat) (b:=nm.length);(case hx=>rfl);(case hT=>rfl);(case he=>rfl);(case ha=>exact ⟨_,rfl⟩);(case hb=>rfl);(case hab=>(first|omega|(simp;done)|(simp only [List.length_cons,List.length_nil,List.length_map];omega)|(simp;omega)));(case hbl=>(first|omega|(simp;done)|(simp only [List.length_cons,List.length_nil,List.length_map];omega)|(simp;omega)));(case hN=>exact nle rfl))|(apply qi;apply vV;rfl;rfl;(simp only [List.length_append,List.length_cons,List.length_nil];omega);exact nle rfl))|((first|refine qf ?_ ?_|refine qe ?_ ?_|refine xsC ?_ ?_);all_goals (intro hc;have hp:=hc;try simp at hp;try (exfalso;omega)))|refine qX ?_ ?_)
  all_goals try (exfalso;omega)
  (refine Awp.red (qI (ts:=[(0,.v (str p)),(9,.v (str ((nm.take kat).take ((nm.take kat).length - 0)))),(10,.v (str ((nm.take nm.length).drop kat))),(11,.v (str ([32,40] ++ ko (k:Int) ++ [41])))]) ?_) ?_;((repeat (first|exact qg|refine qo ?_|refine qY ?_ ?_))))
  all_goals try (rw [← hst0];done)
  clear hst0 hd0 hE hS hrr
  generalize ([32,40] ++ ko (k:Int) ++ [41]:qP) = Mk at *
  generalize (nm.take nm.length).drop kat = En at *
  generalize nm.take kat = St at *
  obtain ⟨Rm,hRm⟩ : ∃ Rm:Int,Rm = 20 - (Mk.length:Int) - (En.length:Int):=⟨_,rfl⟩
  rw [← hRm] at hcut
  refine qV (fun n σ => ∃ i:Nat,i ≤ St.length ∧ n = St.length - i ∧ (zm ((St.take (St.length - i)).take Rm.toNat) = Cut) ∧ σ = ⟨[(0,.v (str p)),(9,.v (str (St.take (St.length - i)))),(10,.v (str En)),(11,.v (str Mk))],[],C.nh⟩) St.length ⟨0,Nat.zero_le _,rfl,(by rw [Nat.sub_zero,List.take_length];exact hcut.symm),rfl⟩ ?_
  rintro n σ ⟨i,hi,rfl,hsofar,rfl⟩
  have hul:(St.take (St.length - i)).length = St.length - i:=by simp
  have hnx:(St.take (St.length - i)).take ((St.take (St.length - i)).length - 1) = St.take (St.length - (i + 1)):=by rw [hul,List.take_take];congr 1;omega
  generalize St.take (St.length - i) = u at hul hsofar hnx ⊢
  by_cases hu0:u = []
  ·have hCu:u = Cut:=(qbH (.inl hu0)).symm.trans hsofar
   subst hCu
   repeat' (first|refine qn ?_|(first|refine jv Tryz.func73 (hpa ..) ?_|refine jv Tryz.func128 (hjo ..) ?_|refine jv Tryz.func80 (hgr ..) ?_|(apply qi;apply x9 (i:=u.length - 1);(case hx=>rfl);(case hy=>exact x5 (by omega));(case hT=>rfl);(case he=>rfl);(case hc=>exact hch);(case hN=>exact nle rfl))|(apply qi;apply jq (a:=0) (b:=u.length - 1);(case hx=>rfl);(case hT=>rfl);(case he=>rfl);(case ha=>rfl);(case hb=>exact ⟨_,x5 (by omega)⟩);(case hab=>(first|omega|(simp;done)|(simp only [List.length_cons,List.length_nil,List.length_map];omega)|(simp;omega)));(case hbl=>(first|omega|(simp;done)|(simp only [List.length_cons,List.length_nil,List.length_map];omega)|(simp;omega)));(case hN=>exact nle rfl))|(apply qi;apply vV;rfl;rfl;(simp only [List.length_append];omega);exact nle rfl))|((first|refine qf ?_ ?_|refine qe ?_ ?_|refine xsC ?_ ?_);all_goals (intro hc;have hp:=hc;try simp at hp;try (exfalso;omega)))|refine qX ?_ ?_)
   all_goals try (exfalso;first|exact absurd hu0 (by assumption)|exact hu0 (by assumption))
   all_goals try (exfalso;omega)
   all_goals ((refine xa (rs:=[.tmp 4,.tmp 5]) ?_;(repeat' (first|exact q5|apply qA|exact q4 rfl|exact yE|exact zz|apply jX|apply y5|apply jO|apply y3|apply yz|apply y4|refine zr ?_|apply x8));all_goals (simp_all [JK])))
  ·obtain ⟨v,c,huv,hch,hv⟩:=ZN hu0
   have hpos:0 < u.length:=List.length_pos_iff.2 hu0
   have hilt:i < St.length:=by omega
   by_cases hlong:Rm < (u.length:Int) ∨ c = 32
   ·have hcond:zm ((St.take (St.length - (i + 1))).take Rm.toNat) = Cut:=by rw [← hnx,hv,qdM huv hlong];exact hsofar
    rcases hlong with hl1|rfl
    ·repeat' (first|refine qn ?_|(first|refine jv Tryz.func73 (hpa ..) ?_|refine jv Tryz.func128 (hjo ..) ?_|refine jv Tryz.func80 (hgr ..) ?_|(apply qi;apply x9 (i:=u.length - 1);(case hx=>rfl);(case hy=>exact x5 (by omega));(case hT=>rfl);(case he=>rfl);(case hc=>exact hch);(case hN=>exact nle rfl))|(apply qi;apply jq (a:=0) (b:=u.length - 1);(case hx=>rfl);(case hT=>rfl);(case he=>rfl);(case ha=>rfl);(case hb=>exact ⟨_,x5 (by omega)⟩);(case hab=>(first|omega|(simp;done)|(simp only [List.length_cons,List.length_nil,List.length_map];omega)|(simp;omega)));(case hbl=>(first|omega|(simp;done)|(simp only [List.length_cons,List.length_nil,List.length_map];omega)|(simp;omega)));(case hN=>exact nle rfl))|(apply qi;apply vV;rfl;rfl;(simp only [List.length_append];omega);exact nle rfl))|((first|refine qf ?_ ?_|refine qe ?_ ?_|refine xsC ?_ ?_);all_goals (intro hc;have hp:=hc;try simp at hp;try (exfalso;omega)))|refine qX ?_ ?_)
     all_goals try (exfalso;exact hu0 (by assumption))
     all_goals try (exfalso;omega)
     all_goals (refine ⟨St.length - (i + 1),_,by omega,qI (ts:=[(0,.v (str p)),(9,.v (str (St.take (St.length - (i + 1))))),(10,.v (str En)),(11,.v (str Mk))]) ?_,i + 1,by omega,rfl,hcond,rfl⟩;((repeat (first|exact qg|refine qo ?_|refine qY ?_ ?_));all_goals (rw [← hnx];rfl)))
    ·repeat' (first|refine qn ?_|(first|refine jv Tryz.func73 (hpa ..) ?_|refine jv Tryz.func128 (hjo ..) ?_|refine jv Tryz.func80 (hgr ..) ?_|(apply qi;apply x9 (i:=u.length - 1);(case hx=>rfl);(case hy=>exact x5 (by omega));(case hT=>rfl);(case he=>rfl);(case hc=>exact hch);(case hN=>exact nle rfl))|(apply qi;apply jq (a:=0) (b:=u.length - 1);(case hx=>rfl);(case hT=>rfl);(case he=>rfl);(case ha=>rfl);(case hb=>exact ⟨_,x5 (by omega)⟩);(case hab=>(first|omega|(simp;done)|(simp only [List.length_cons,List.length_nil,List.length_map];omega)|(simp;omega)));(case hbl=>(first|omega|(simp;done)|(simp only [List.length_cons,List.length_nil,List.length_map];omega)|(simp;omega)));(case hN=>exact nle rfl))|(apply qi;apply vV;rfl;rfl;(simp only [List.length_append];omega);exact nle rfl))|((first|refine qf ?_ ?_|refine qe ?_ ?_|refine xsC ?_ ?_);all_goals (intro hc;have hp:=hc;try simp at hp;try (exfalso;omega)))|refine qX ?_ ?_)
     all_goals try (exfalso;exact hu0 (by assumption))
     all_goals try (exfalso;omega)
     all_goals (refine ⟨St.length - (i + 1),_,by omega,qI (ts:=[(0,.v (str p)),(9,.v (str (St.take (St.length - (i + 1))))),(10,.v (str En)),(11,.v (str Mk))]) ?_,i + 1,by omega,rfl,hcond,rfl⟩;((repeat (first|exact qg|refine qo ?_|refine qY ?_ ?_));all_goals (rw [← hnx];rfl)))
   ·have hl1:(u.length:Int) ≤ Rm:=by
     by_cases h:Rm < (u.length:Int)
     ·exact absurd (.inl h) hlong
     ·omega
    have hl2:¬ c = 32:=fun h=>hlong (.inr h)
    have hl3:¬ (c.toNat:Int) = 32:=fun h=>hl2 (UInt8.toNat.inj (by show c.toNat = 32;omega))
    have hCu:u = Cut:=(qbH (.inr ⟨v,c,huv,hl1,hl2⟩)).symm.trans hsofar
    subst hCu
    repeat' (first|refine qn ?_|(first|refine jv Tryz.func73 (hpa ..) ?_|refine jv Tryz.func128 (hjo ..) ?_|refine jv Tryz.func80 (hgr ..) ?_|(apply qi;apply x9 (i:=u.length - 1);(case hx=>rfl);(case hy=>exact x5 (by omega));(case hT=>rfl);(case he=>rfl);(case hc=>exact hch);(case hN=>exact nle rfl))|(apply qi;apply jq (a:=0) (b:=u.length - 1);(case hx=>rfl);(case hT=>rfl);(case he=>rfl);(case ha=>rfl);(case hb=>exact ⟨_,x5 (by omega)⟩);(case hab=>(first|omega|(simp;done)|(simp only [List.length_cons,List.length_nil,List.length_map];omega)|(simp;omega)));(case hbl=>(first|omega|(simp;done)|(simp only [List.length_cons,List.length_nil,List.length_map];omega)|(simp;omega)));(case hN=>exact nle rfl))|(apply qi;apply vV;rfl;rfl;(simp only [List.length_append];omega);exact nle rfl))|((first|refine qf ?_ ?_|refine qe ?_ ?_|refine xsC ?_ ?_);all_goals (intro hc;have hp:=hc;try simp at hp;try (exfalso;omega)))|refine qX ?_ ?_)
    all_goals try (exfalso;first|exact absurd hu0 (by assumption)|exact hu0 (by assumption))
    all_goals try (exfalso;omega)
    all_goals ((refine xa (rs:=[.tmp 4,.tmp 5]) ?_;(repeat' (first|exact q5|apply qA|exact q4 rfl|exact yE|exact zz|apply jX|apply y5|apply jO|apply y3|apply yz|apply y4|refine zr ?_|apply x8));all_goals (simp_all [JK])))
end Go.Proofs.YtamejbkifpjhiaaGreatDoor
set_option linter.unusedSimpArgs false
set_option linter.unnecessarySimpa false
set_option linter.unusedVariables false
set_option maxHeartbeats 1000000
namespace Go.Proofs.YtamejbkifpjhiaaGreatDoor
open Go.Ab Go.RowKit
set_option maxRecDepth 10000
def nrm (x:Ent):Ent:=⟨x.path,x.fold,x.text,0⟩
theorem WG : ∀ {a b:List Ent},a.map nrm = b.map nrm → WF a b = true
 | [],[],_=>rfl
 | [],_ :: _,h=>by simp at h
 | _ :: _,[],h=>by simp at h
 | a :: s,b :: t,h=>by
   simp only [List.map_cons,List.cons.injEq] at h
   obtain ⟨h1,h2⟩:=h
   simp only [nrm,Ent.mk.injEq] at h1
   simp only [WF,wo,Bool.and_eq_true,decide_eq_true_eq]
   exact ⟨⟨⟨h1.1,h1.2.1⟩,h1.2.2.1⟩,WG h2⟩
theorem WJ (t:List Ent) (p:qP):qW (t.map nrm) p = (qW t p).map nrm:=by
 unfold qW
 rw [List.find?_map]
 rfl
theorem V9 {t:List Ent} (h:qU jf t = true):qU jf (t.map nrm) = true:=by
 rw [jJ,List.pairwise_map]
 exact jJ.1 h
theorem Kr {a b:List Ent} (ha:qU jf a = true) (hb:qU jf b = true) (h : ∀ p,(qW a p).map nrm = (qW b p).map nrm):WF a b = true ∧ a.length = b.length:=by
 have he:a.map nrm = b.map nrm:=qee (V9 ha) (V9 hb) fun p=>by rw [WJ,WJ];exact h p
 exact ⟨WG he,by have:=congrArg List.length he;simpa using this⟩
theorem qgg {k:Int} {p g x:qP} {b:Int} (h1:1 ≤ k ∧ k ≤ 4) (hp:qH p = 0) (ht:k = 3 → qH g = 0) (ht2:¬ k = 3 → g = []) (hx:¬ k = 2 → x = []) (hx2:x.length ≤ 300) (hb : -1 ≤ b ∧ b ≤ 1000000):yc ⟨k,p,g,x,b⟩ = 0:=by
 unfold yc zG
 simp only
 rw [if_neg (by omega),if_neg (by simp [hp]),if_neg (fun e=>e.2 (ht e.1)),if_neg (fun e=>by
  rcases e with e|e
  ·exact e.2 (ht2 e.1)
  ·exact e.2 (hx e.1)),if_neg (by omega),if_neg (by omega)]
theorem qbV {t:List Ent} (h:Right t) {q:qP} {y:Ent} (hy:qW t q = some y):¬ q = []:=fun e=>by
 obtain ⟨h6,h7⟩:=jN hy
 have:=(jz (h.ent y h6)).1
 rw [h7,e] at this
 exact vy this [] (by simp [qu]) rfl
attribute [local irreducible] Awp yH jH jw Red ja Go.Ab.Fin qZ Rz vn jr jp ResOk j3 jC yC jA
theorem qdy {t:List Ent} {c:Chg} {v:Int} (h:Right t) (hv:vj v = true) (hr:vb t c v = 0):yJ t c v = 0 ∧ vf t c v = jh t c v:=by
 have h1:yJ t c v = 0:=by
  unfold yJ
  rw [if_neg (by rw [jT.2 h];simp),hv,if_neg (by decide)];exact hr
 exact ⟨h1,by unfold vf;rw [if_pos h1]⟩
end Go.Proofs.YtamejbkifpjhiaaGreatDoor
set_option linter.unusedSimpArgs false
set_option linter.unnecessarySimpa false
set_option linter.unusedVariables false
namespace Go.Proofs.YtamejbkifpjhiaaGreatDoor
open Go.Op
theorem JH (v:Int) : ∀ (l m:List Chg) (t u:List Ent),x7 v t l = (u,0) → x7 v t (l ++ m) = x7 v u m
 | [],m,t,u,h=>by
   obtain ⟨rfl,_⟩:=Prod.mk.inj (show (t,(0:Int)) = (u,0) from h)
   rfl
 | c :: l,m,t,u,h=>by
   have h:(if yJ t c v = 0 then x7 v (jh t c v) l else ([],yJ t c v)) = (u,0):=h
   show (if yJ t c v = 0 then x7 v (jh t c v) (l ++ m) else ([],yJ t c v)) = x7 v u m
   by_cases h1:yJ t c v = 0
   ·rw [if_pos h1] at h ⊢
    exact JH v l m _ u h
   ·rw [if_neg h1] at h
    exact absurd (Prod.mk.inj h).2 h1
theorem ZT {v:Int} {t:List Ent} {c:Chg} (h:Right t) (hv:vj v = true) (hr:vb t c v = 0):x7 v t [c] = (jh t c v,0):=by
 obtain ⟨h1,_⟩:=qdy h hv hr
 show (if yJ t c v = 0 then x7 v (jh t c v) [] else ([],yJ t c v)) = _
 rw [if_pos h1];rfl
theorem XW (v:Int) : ∀ (l:List Chg) (t:List Ent),Right t → (x7 v t l).2 = 0 → Right (x7 v t l).1
 | [],t,h,_=>h
 | c :: l,t,h,h0=>by
   have hE:x7 v t (c :: l) = if yJ t c v = 0 then x7 v (jh t c v) l else ([],yJ t c v):=rfl
   rw [hE] at h0 ⊢
   by_cases h1:yJ t c v = 0
   ·rw [if_pos h1] at h0 ⊢
    exact XW v l _ (JW h1).2.2.2.2 h0
   ·rw [if_neg h1] at h0
    exact absurd h0 h1
theorem qe4 {a:List Ent} (h:Right a) {g:List qP} {x:Ent} (v:Int) (hx:x ∈ a) (hg:(g.any fun q=>inB x.path q) = false):vb (jG a g) (xr x.path) v = 0 ∧ jh (jG a g) (xr x.path) v = jG a (g ++ [x.path]):=by
 have h1:=(qgh h hx hg).1
 have h2 : ∀ w,jh (jG a g) (xr x.path) w = jG a (g ++ [x.path]):=fun w=>by
  rw [ZO]
  simp [jh,xr]
 have h3:vb (jG a g) (xr x.path) v = vb (jG a g) (xr x.path) 1:=by
  unfold vb j5
  rw [h2,h2]
 exact ⟨by rw [h3];exact h1,h2 v⟩
theorem VR {a:List Ent} (h:Right a) (g:List qP):Right (jG a g):=by
 refine wR (kD h.rise) (Nat.le_trans (WE a g) h.len) fun p x hx=>?_
 rw [k9] at hx
 split at hx
 ·cases hx
 ·rename_i hno
  obtain ⟨h1,h2⟩:=jN hx
  refine ⟨h.ent x h1,?_⟩
  have hxe:=(jz (h.ent x h1)).1
  have:=yF.1 (h.par x h1)
  rw [h2] at this hxe
  rcases this with h3|⟨y,h3,h4⟩
  ·exact .inl h3
  ·refine .inr ⟨y,?_,h4⟩
   have hpi:=J5 hxe (qbV h h3)
   rw [k9,if_neg]
   ·exact h3
   ·intro h5
    obtain ⟨q,hq,hq2⟩:=List.any_eq_true.1 h5
    exact hno (List.any_eq_true.2 ⟨q,hq,kZ hpi hq2⟩)
theorem qa1 {a b:List Ent} (h:Right a) {v:Int} (hv:vj v = true) : ∀ i,i ≤ a.length → x7 v a ((q7 (a.take i) b).map xr) = (jG a (q7 (a.take i) b),0):=by
 intro i
 induction i with
 | zero=>intro _;rw [show q7 (a.take 0) b = [] from rfl,qed];rfl
 | succ i ih =>
   intro hi
   have hp:=ih (by omega)
   have hlt:i < a.length:=by omega
   have hgs:q7 (a.take (i + 1)) b = if ((q7 (a.take i) b).any fun p=>inB a[i].path p) = true then q7 (a.take i) b else if zj b a[i] = true then q7 (a.take i) b ++ [a[i].path] else q7 (a.take i) b:=VJ hlt
   rw [hgs]
   split
   ·exact hp
   ·split
    ·rename_i h1 h2
     have h1:((q7 (a.take i) b).any fun p=>inB a[i].path p) = false:=by simpa using h1
     obtain ⟨h3,h4⟩:=qe4 h v (List.getElem_mem hlt) h1
     rw [List.map_append,JH v _ _ _ _ hp,List.map_cons,List.map_nil,ZT (VR h _) hv h3,h4]
    ·exact hp
def qbi (v:Int) (x:Ent):Ent:=⟨x.path,x.fold,x.text,v⟩
def y0 (v:Int) (T:List Ent) (l:List Ent):List Ent:=(l.map (qbi v)).foldl jR T
theorem qaY {b:List Ent} (h:qU jf b = true) {l:List Ent} (hl:l.Sublist b) (v:Int):(l.map (qbi v)).Pairwise fun a b => ¬ a.path = b.path:=by
 rw [List.pairwise_map]
 exact ((jJ.1 h).sublist hl).imp fun hlt=>JP hlt
theorem qcE (v:Int) (l:List Ent) (p:qP):qW (l.map (qbi v)) p = (qW l p).map (qbi v):=by
 unfold qW
 rw [List.find?_map]
 rfl
theorem Xn {b T:List Ent} (hb:qU jf b = true) (hT:qU jf T = true) {l:List Ent} (hl:l.Sublist b) (v:Int) (p:qP):qW (y0 v T l) p = match qW l p with|some x=>some (qbi v x)|none=>qW T p:=by
 unfold y0
 rw [Q8 hT (qaY hb hl v),qcE]
 cases qW l p<;>rfl
theorem qaj : ∀ {t u:List Ent},t.Pairwise (fun a b=>bytesLess a.path b.path = true) → u.Pairwise (fun a b=>bytesLess a.path b.path = true) → (∀ x,x ∈ t → ∃ y,y ∈ u ∧ y.path = x.path) → t.length ≤ u.length
 | [],u,_,_,_=>Nat.zero_le _
 | x :: t,u,ht,hu,h=>by
   obtain ⟨y,hy,hyp⟩:=h x (by simp)
   obtain ⟨A,B,rfl⟩:=List.append_of_mem hy
   have ht1:=List.pairwise_cons.1 ht
   have hu1:=List.pairwise_append.1 hu
   have hu2:=List.pairwise_cons.1 hu1.2.1
   have:=qaj (t:=t) (u:=B) ht1.2 hu2.2 fun z hz=>by
    obtain ⟨w,hw,hwp⟩:=h z (by simp [hz])
    have hlt:=ht1.1 z hz
    rcases List.mem_append.1 hw with h1|h1
    ·have h2:=hu1.2.2 w h1 y (by simp)
     rw [hwp,hyp] at h2
     rw [Ym hlt] at h2;cases h2
    ·rcases List.mem_cons.1 h1 with rfl|h1
     ·rw [← hwp,hyp,vD] at hlt;cases hlt
     ·exact ⟨w,h1,hwp⟩
   simp only [List.length_append,List.length_cons];omega
theorem ZA : ∀ (p:qP) (c:UInt8) (r:qP),bytesLess p (p ++ c :: r) = true
 | [],c,r=>rfl
 | x :: p,c,r=>by
   have ih:=ZA p c r
   simp only [List.cons_append,bytesLess,ih]
   simp
theorem qep {p:qP} (hp:qH p = 0) (hne:¬ qJ p = []):bytesLess (qJ p) p = true:=by
 obtain ⟨r,h1,h2⟩:=vW.1 (J5 hp hne)
 rcases h2 with rfl|h2
 ·rw [List.append_nil] at h1
  exact absurd h1.symm (Kz hp)
 ·cases r with
  | nil=>cases h2
  | cons c r =>
    have:=ZA (qJ p) c r
    rw [← h1] at this
    exact this
section news
variable {a b:List Ent} {v:Int}
theorem Vg (ha:Right a) (hb:Right b) {y:Ent} (hy:y ∈ jG a (q7 a b)) : ∃ x,x ∈ b ∧ x.path = y.path ∧ x.fold = y.fold:=by
 obtain ⟨h1,h2⟩:=List.mem_filter.1 hy
 have h2:((q7 a b).any fun p=>inB y.path p) = false:=by simpa using h2
 have hd:zj b y = false:=by
  cases hd:zj b y with
  | false=>rfl
  | true =>
    obtain ⟨p,hp,hp2⟩:=Xe b a [] y h1 hd
    rw [List.any_eq_false] at h2
    exact absurd hp2 (h2 p hp)
 unfold zj at hd
 cases hl:b.find? (atP y.path) with
 | none=>rw [hl] at hd;cases hd
 | some x =>
   rw [hl] at hd
   obtain ⟨h3,h4⟩:=jN (t:=b) (p:=y.path) hl
   exact ⟨x,h3,h4,by simpa using hd⟩
theorem qcK (ha:Right a) (hb:Right b) {x:Ent} (hx:x ∈ b) (hs:yQ a x = false):qW (jG a (q7 a b)) x.path = none ∨ (x.fold = false ∧ ∃ y,qW (jG a (q7 a b)) x.path = some y ∧ y.fold = false):=by
 have h1:=J8 ha hb hx
 cases hl:qW (jG a (q7 a b)) x.path with
 | none=>exact .inl rfl
 | some y =>
   right
   rw [hl,hs] at h1
   have h1:(x.fold || decide (y.text = x.text)) = false:=h1
   rw [Bool.or_eq_false_iff] at h1
   refine ⟨h1.1,y,rfl,?_⟩
   obtain ⟨h2,h3⟩:=jN hl
   obtain ⟨z,hz,hzp,hzf⟩:=Vg ha hb h2
   have:z = x:=kH hb.rise hz hx (by rw [hzp,h3])
   rw [← hzf,this,h1.1]
theorem qeI (ha:Right a) (hb:Right b) {l:List Ent} (hl:l.Sublist b):(y0 v (jG a (q7 a b)) l).length ≤ 60:=by
 have hr:qU jf (y0 v (jG a (q7 a b)) l) = true:=zD (kD ha.rise)
 refine Nat.le_trans (qaj (jJ.1 hr) (jJ.1 hb.rise) fun z hz=>?_) hb.len
 have h1:=vw hr hz
 rw [Xn hb.rise (kD ha.rise) hl] at h1
 cases h2:qW l z.path with
 | some x =>
   obtain ⟨h3,h4⟩:=jN h2
   exact ⟨x,hl.subset h3,h4⟩
 | none =>
   rw [h2] at h1
   obtain ⟨x,h3,h4,_⟩:=Vg ha hb (jN h1).1
   exact ⟨x,h3,h4⟩
theorem qfq {x:Ent} {T:List Ent} (hx:y9 x = 0):jh T (vd x) v = jR T (qbi v x):=by
 have hxe:=jz hx
 unfold jh vd qbi
 cases hf:x.fold with
 | true =>
   have ht:x.text = []:=by
    cases h:x.text with
    | nil=>rfl
    | cons c s=>exact absurd ⟨hf,by simp [h]⟩ hxe.2.1
   simp [ht]
 | false=>simp
theorem qcL (ha:Right a) (hb:Right b) (hv:vj v = true) {i:Nat} (hi:i < b.length) (hs:yQ a b[i] = false)
  (hR:Right (y0 v (jG a (q7 a b)) ((b.take i).filter fun x => !yQ a x))) :
  vb (y0 v (jG a (q7 a b)) ((b.take i).filter fun x => !yQ a x)) (vd b[i]) v = 0 ∧
  jh (y0 v (jG a (q7 a b)) ((b.take i).filter fun x => !yQ a x)) (vd b[i]) v = y0 v (jG a (q7 a b)) ((b.take (i + 1)).filter fun x => !yQ a x):=by
 have hx:b[i] ∈ b:=List.getElem_mem hi
 have hxe:=jz (hb.ent _ hx)
 have hsub : ∀ j,((b.take j).filter fun x => !yQ a x).Sublist b:=fun j=>List.filter_sublist.trans (List.take_sublist _ _)
 have hT:=kD (g:=q7 a b) ha.rise
 have hlw:=fun p=>Xn (v:=v) hb.rise hT (hsub i) p
 have hD:jh (y0 v (jG a (q7 a b)) ((b.take i).filter fun x => !yQ a x)) (vd b[i]) v = y0 v (jG a (q7 a b)) ((b.take (i + 1)).filter fun x => !yQ a x):=by
  rw [qfq (hb.ent _ hx)]
  unfold y0
  rw [List.take_succ_eq_append_getElem hi,List.filter_append]
  simp [hs]
 refine ⟨?_,hD⟩
 have hno:qW ((b.take i).filter fun x => !yQ a x) b[i].path = none:=by
  rw [xG]
  intro z hz e
  obtain ⟨j,hj,rfl⟩:=List.getElem_of_mem (List.mem_filter.1 hz).1
  rw [List.getElem_take] at e
  have hj2:j < i:=by simp at hj;omega
  have:=vZ hb.rise j i (by omega) hi hj2
  rw [e,vD] at this;cases this
 have hlk:qW (y0 v (jG a (q7 a b)) ((b.take i).filter fun x => !yQ a x)) b[i].path = qW (jG a (q7 a b)) b[i].path:=by rw [hlw,hno]
 have hnl:=qcK ha hb hx hs
 have htx:b[i].fold = true → b[i].text = []:=fun hf=>by
  cases h:b[i].text with
  | nil=>rfl
  | cons c s=>exact absurd ⟨hf,by simp [h]⟩ hxe.2.1
 have hk:(vd b[i]).kind = if b[i].fold = true then 1 else 2:=rfl
 have hce:yc (vd b[i]) = 0:=by
  unfold vd
  refine qgg ?_ hxe.1 (fun e=>?_) (fun _=>rfl) (fun e=>?_) hxe.2.2.1 (by omega)
  ·split<;>omega
  ·split at e<;>exact absurd e (by decide)
  ·cases hf:b[i].fold with
   | true=>exact htx hf
   | false=>rw [hf] at e;exact absurd rfl e
 have hg:jS (vd b[i]) = b[i].path:=by
  unfold jS
  rw [if_neg]
  ·rfl
  ·rw [hk];split<;>decide
 have hpf:ym (y0 v (jG a (q7 a b)) ((b.take i).filter fun x => !yQ a x)) (qJ b[i].path) = 0:=by
  rcases yF.1 (hb.par _ hx) with h1|⟨w,h1,h2⟩
  ·exact yF.2 (.inl h1)
  ·have hne:=qbV hb h1
   obtain ⟨h3,h4⟩:=jN h1
   have hlt:=qep hxe.1 hne
   obtain ⟨j,hj,rfl⟩:=List.getElem_of_mem h3
   have hji:j < i:=by
    rcases Nat.lt_trichotomy j i with h5|h5|h5
    ·exact h5
    ·subst h5
     exact absurd h4.symm (Kz hxe.1)
    ·have:=vZ hb.rise i j hi hj h5
     rw [h4,Ym hlt] at this;cases this
   refine yF.2 (.inr ?_)
   rw [hlw]
   cases hst:yQ a b[j] with
   | true =>
     have hnone:qW ((b.take i).filter fun x => !yQ a x) (qJ b[i].path) = none:=by
      rw [xG]
      intro z hz e
      obtain ⟨hz1,hz2⟩:=List.mem_filter.1 hz
      have:z = b[j]:=kH hb.rise (List.mem_of_mem_take hz1) h3 (by rw [e,h4])
      rw [this,hst] at hz2;cases hz2
     rw [hnone]
     have h5:=J8 ha hb h3
     rw [hst,h4] at h5
     cases hl:qW (jG a (q7 a b)) (qJ b[i].path) with
     | none=>rw [hl] at h5;cases h5
     | some y =>
       obtain ⟨h6,h7⟩:=jN hl
       obtain ⟨z,hz,hzp,hzf⟩:=Vg ha hb h6
       have:z = b[j]:=kH hb.rise hz h3 (by rw [hzp,h7,h4])
       exact ⟨y,rfl,by rw [← hzf,this,h2]⟩
   | false =>
     have hm:b[j] ∈ (b.take i).filter fun x => !yQ a x:=List.mem_filter.2 ⟨by
      rw [List.mem_take_iff_getElem]
      exact ⟨j,by omega,rfl⟩,by simp [hst]⟩
     have hrl:qU jf ((b.take i).filter fun x => !yQ a x) = true:=jJ.2 ((jJ.1 hb.rise).sublist (hsub i))
     have:=vw hrl hm
     rw [h4] at this
     rw [this]
     exact ⟨_,rfl,h2⟩
 have hmay:va (y0 v (jG a (q7 a b)) ((b.take i).filter fun x => !yQ a x)) (vd b[i]) = 0:=by
  unfold va
  rw [if_neg (by rw [hg];simp [hpf])]
  have h1:v8 (y0 v (jG a (q7 a b)) ((b.take i).filter fun x => !yQ a x)) (vd b[i]) = 0:=by
   unfold v8
   rw [hk]
   have hpp:(vd b[i]).path = b[i].path:=rfl
   rw [hpp]
   cases hf:b[i].fold with
   | true =>
     rw [if_pos rfl,if_pos rfl,Q7,hlk]
     rcases hnl with h2|⟨h2,_⟩
     ·rw [h2];rfl
     ·rw [hf] at h2;cases h2
   | false =>
     rw [show (if (false = true) then (1:Int) else 2) = 2 from rfl,if_neg (by decide),if_pos rfl]
     unfold vh
     rw [show (y0 v (jG a (q7 a b)) ((b.take i).filter fun x => !yQ a x)).find? (atP b[i].path) = qW (jG a (q7 a b)) b[i].path from hlk]
     rcases hnl with h2|⟨_,y,h2,h3⟩
     ·rw [h2];rfl
     ·rw [h2];simp [h3]
  have h2:zR (y0 v (jG a (q7 a b)) ((b.take i).filter fun x => !yQ a x)) (vd b[i]) = 0:=by
   unfold zR
   rw [if_neg];rw [hk];split<;>decide
  have h3:yb (y0 v (jG a (q7 a b)) ((b.take i).filter fun x => !yQ a x)) (vd b[i]) = 0:=by
   unfold yb
   rw [if_neg];simp [vd]
  rw [if_neg (by simp [h1]),if_neg (by simp [h2]),h3]
 have hdn:j5 (y0 v (jG a (q7 a b)) ((b.take i).filter fun x => !yQ a x)) (vd b[i]) v = 0:=by
  unfold j5
  have hbad:yP (y0 v (jG a (q7 a b)) ((b.take i).filter fun x => !yQ a x)) (vd b[i]) = false:=by
   unfold yP
   have:¬ (vd b[i]).kind = 3:=by rw [hk];split<;>decide
   simp [this]
  rw [hbad,if_neg (by decide),hD,if_neg]
  have:=qeI (v:=v) ha hb (hsub (i + 1))
  omega
 unfold vb
 rw [if_neg (by simp [hce]),if_neg (by simp [hmay]),hdn]
theorem qa3 (ha:Right a) (hb:Right b) (hv:vj v = true) : ∀ i,i ≤ b.length → x7 v (jG a (q7 a b)) (((b.take i).filter fun x => !yQ a x).map vd) = (y0 v (jG a (q7 a b)) ((b.take i).filter fun x => !yQ a x),0) ∧ Right (y0 v (jG a (q7 a b)) ((b.take i).filter fun x => !yQ a x)):=by
 intro i
 induction i with
 | zero=>intro _;exact ⟨rfl,VR ha _⟩
 | succ i ih =>
   intro hi
   obtain ⟨hp,hR⟩:=ih (by omega)
   have hlt:i < b.length:=by omega
   cases hs:yQ a b[i] with
   | true =>
     have:(b.take (i + 1)).filter (fun x => !yQ a x) = (b.take i).filter (fun x => !yQ a x):=by
      rw [List.take_succ_eq_append_getElem hlt,List.filter_append];simp [hs]
     rw [this];exact ⟨hp,hR⟩
   | false =>
     obtain ⟨h3,h4⟩:=qcL ha hb hv hlt hs hR
     have:(b.take (i + 1)).filter (fun x => !yQ a x) = (b.take i).filter (fun x => !yQ a x) ++ [b[i]]:=by
      rw [List.take_succ_eq_append_getElem hlt,List.filter_append];simp [hs]
     refine ⟨?_,?_⟩
     ·rw [← h4,this,List.map_append,JH v _ _ _ _ hp,List.map_cons,List.map_nil,ZT hR hv h3]
     ·rw [← h4];exact Vz hR hv h3
theorem qa0 (ha:Right a) (hb:Right b) (hv:vj v = true) : ∃ t,x7 v a (YT a b) = (t,0) ∧ Right t ∧ WF t b = true:=by
 have h1:=qa1 (b:=b) ha hv a.length (Nat.le_refl _)
 rw [List.take_length] at h1
 obtain ⟨h2,h3⟩:=qa3 ha hb hv b.length (Nat.le_refl _)
 rw [List.take_length] at h2 h3
 refine ⟨_,?_,h3,?_⟩
 ·unfold YT
  rw [JH v _ _ _ _ h1,h2]
 ·refine (Kr h3.rise hb.rise fun p=>?_).1
  have hsub:(b.filter fun x => !yQ a x).Sublist b:=List.filter_sublist
  have hrl:qU jf (b.filter fun x => !yQ a x) = true:=jJ.2 ((jJ.1 hb.rise).sublist hsub)
  rw [Xn hb.rise (kD ha.rise) hsub]
  cases hl:qW b p with
  | none =>
    have hno:qW (b.filter fun x => !yQ a x) p = none:=by
     rw [xG] at hl ⊢
     exact fun x hx=>hl x (List.mem_filter.1 hx).1
    rw [hno]
    cases hq:qW (jG a (q7 a b)) p with
    | none=>rfl
    | some y =>
      obtain ⟨h6,h7⟩:=jN hq
      obtain ⟨z,hz,hzp,_⟩:=Vg ha hb h6
      exact absurd (by rw [hzp,h7]) (xG.1 hl z hz)
  | some x =>
    obtain ⟨hx,hxp⟩:=jN hl
    subst hxp
    cases hs:yQ a x with
    | true =>
      have hno:qW (b.filter fun x => !yQ a x) x.path = none:=by
       rw [xG]
       intro z hz e
       obtain ⟨hz1,hz2⟩:=List.mem_filter.1 hz
       have:z = x:=kH hb.rise hz1 hx e
       rw [this,hs] at hz2;cases hz2
      rw [hno]
      have h5:=J8 ha hb hx
      rw [hs] at h5
      have hst:yQ a x = match qW a x.path with|some y=>wo y x|none=>false:=rfl
      rw [hs] at hst
      cases hq:qW (jG a (q7 a b)) x.path with
      | none=>rw [hq] at h5;cases h5
      | some y =>
        rw [k9] at hq
        split at hq
        ·cases hq
        ·rw [hq] at hst
         have hst:true = wo y x:=hst
         have hst:=hst.symm
         simp only [wo,Bool.and_eq_true,decide_eq_true_eq] at hst
         simp [nrm,hst.1.1,hst.1.2,hst.2]
    | false =>
      have hm:x ∈ b.filter fun x => !yQ a x:=List.mem_filter.2 ⟨hx,by simp [hs]⟩
      rw [vw hrl hm]
      rfl
end news
end Go.Proofs.YtamejbkifpjhiaaGreatDoor
set_option linter.unusedSimpArgs false
set_option linter.unnecessarySimpa false
set_option linter.unusedVariables false
set_option maxHeartbeats 1000000
namespace Go.Proofs.YtamejbkifpjhiaaGreatDoor
open Go.Ab Go.RowKit
set_option maxRecDepth 10000
attribute [local irreducible] Awp yH jH jw Red ja Go.Ab.Fin qZ Rz vn jr jp ResOk j3 jC yC jA
end Go.Proofs.YtamejbkifpjhiaaGreatDoor
set_option linter.unusedSimpArgs false
set_option linter.unnecessarySimpa false
set_option linter.unusedVariables false
set_option maxHeartbeats 1000000
namespace Go.Proofs.YtamejbkifpjhiaaGreatDoor
open Go.Ab Go.RowKit
set_option maxRecDepth 10000
attribute [local irreducible] Awp yH jH jw Red ja Go.Ab.Fin qZ Rz vn jr jp ResOk j3 jC yC jA
theorem qcW {a b:List Ent} (ha:Right a) (hb:Right b):CBig (YT a b):=by
 have hl:=KE ha hb
 refine ⟨fun c hc=>?_,by omega⟩
 unfold YT at hc
 rcases List.mem_append.1 hc with h|h
 ·obtain ⟨p,hp,rfl⟩:=List.mem_map.1 h
  rcases Xg b a [] p hp with h0|⟨z,hz,hzp,_⟩
  ·cases h0
  ·have:=qQ (jz (ha.ent z hz)).1
   rw [hzp] at this
   exact ⟨by show p.length ≤ _;omega,by show ([]:qP).length ≤ _;simp,by show ([]:qP).length ≤ _;simp⟩
 ·obtain ⟨x,hx,rfl⟩:=List.mem_map.1 h
  have h1:=jz (hb.ent x (List.mem_filter.1 hx).1)
  have:=qQ h1.1
  have:=h1.2.2.1
  exact ⟨by show x.path.length ≤ _;omega,by show ([]:qP).length ≤ _;simp,by show x.text.length ≤ _;omega⟩
end Go.Proofs.YtamejbkifpjhiaaGreatDoor
