import Derived.Test.YtgcncinnlmjgdaaGreatDoorMz12
import Derived.Test.YtgcncinnlmjgdaaGreatDoorMz1
import Derived.Test.YtgcncinnlmjgdaaGreatDoorMz10
import Derived.Test.YtgcncinnlmjgdaaGreatDoorMz9
import Derived.Test.YtgcncinnlmjgdaaGreatDoorMz11
set_option linter.unusedSimpArgs false
set_option linter.unnecessarySimpa false
set_option linter.unusedVariables false
set_option maxHeartbeats 1000000
set_option maxRecDepth 10000
namespace Go.Proofs.YtgcncinnlmjgdaaGreatDoor
open Go.Ab Go.RowKit
attribute [local irreducible] Awp j9 jr ye Red qz Go.Ab.Fin qf Rz wz jF jU ResOk yA j1 xR qX
def Vl (v:Int):List Ent → List Chg → Nat → List Ent × Nat × Int
 | t,[],n=>(t,n,0)
 | t,c :: l,n=>if Qb t c v = 0 then Vl v (jI t c v) l (n + 1) else ([],n,Qb t c v)
def ve (v:Int) (t:List Ent) (l:List Chg):List Ent × Nat × Int :=
 if ¬ jv t = 0 then ([],0,jv t) else if 20 < l.length then ([],0,2) else if wN v = false ∧ 0 < l.length then ([],0,3) else Vl v t l 0
def qoE (r:List Ent × Nat × Int):AV := .tup [qU r.1,.v (.int .i64 (r.2.1:Nat)),.v (.int .i64 r.2.2)]
theorem qil {v:Int} {t:List Ent} {l:List Chg} {i:Nat} (h:i < l.length):Vl v t (l.drop i) i = if Qb t l[i] v = 0 then Vl v (jI t l[i] v) (l.drop (i + 1)) (i + 1) else ([],i,Qb t l[i] v):=by
 rw [List.drop_eq_getElem_cons h];rfl
theorem qc7 (t:List Ent) (l:List Chg) (v:Int) (hb:EBig t) (hcb:CBig l):jN C.P 157 [qU t,ya l,.v (.int .i64 v)] (qoE (ve v t l)):=by
 have h1:=qc9 t hb;have h2:=qdl v;have hll:=hcb.len;have hml:(l.map Chg.row).length = l.length:=List.length_map ..
 have hE:ve v t l = if ¬ jv t = 0 then ([],0,jv t) else if 20 < l.length then ([],0,2) else if wN v = false ∧ 0 < l.length then ([],0,3) else Vl v t l 0:=rfl
 by_cases hte:jv t = 0
 ·rw [if_neg (by simp [hte])] at hE;have hR:=RightE.of hte;rw [hte] at h1;have h60:=(Yg hte).1;have h3:=Wb t (by omega);by_cases h20:20 < l.length
  ·rw [if_pos h20] at hE;rw [hE];refine qJ 0 ?_
   repeat' (first|refine qg ?_|(first|(refine jd ?_)|refine yS (h1 ..) ?_)|(refine xsS ?_ ?_;all_goals first|exact False.elim|intro hp hc)|refine xsA ?_ ?_)
   all_goals try (exfalso;omega)
   all_goals try (exfalso;first|omega|(simp_all;done)|(simp_all;omega))
   all_goals ((exact kw (rs:=[.tmp 6,.tmp 7,.tmp 8])))
  ·rw [if_neg h20] at hE;by_cases hv:wN v = false ∧ 0 < l.length
   ·rw [if_pos hv] at hE;rw [hE];rw [hv.1] at h2;refine qJ 0 ?_
    repeat' (first|refine qg ?_|(first|(refine jd ?_)|refine yS (h1 ..) ?_|refine jT (h2 ..) ?_)|(refine xsS ?_ ?_;all_goals first|exact False.elim|intro hp hc)|refine xsA ?_ ?_)
    all_goals try (exfalso;omega)
    all_goals try (exfalso;first|omega|(simp_all;done)|(simp_all;omega))
    all_goals ((exact kw (rs:=[.tmp 6,.tmp 7,.tmp 8])))
   ·rw [if_neg hv] at hE;generalize hV:wN v = V at *
    have hv2:V = false → l.length = 0:=fun h=>by
     rcases Nat.eq_zero_or_pos l.length with h4|h4
     ·exact h4
     ·exact absurd ⟨h,h4⟩ hv
    clear hV;generalize hA:ve v t l = A at *;clear hA;refine qJ 0 ?_
    repeat' (first|refine qg ?_|(first|(refine jd ?_)|refine yS (h1 ..) ?_|refine jT (h2 ..) ?_|(refine jP ([]) qi (h3 ..) ?_))|(refine xsS ?_ ?_;all_goals first|exact False.elim|intro hp hc)|refine xsA ?_ ?_)
    all_goals try (exfalso;omega)
    all_goals try (exfalso;first|omega|(simp_all;done)|(simp_all;omega))
    all_goals (
     refine Awp.red (QO 0 rfl qqD) ?_;refine Awp.red (qoC 0 0 rfl rfl (by simp)) ?_
     (refine Awp.red (yC (ts:=[(0,qU t),(1,ya l),(2,.v (.int .i64 v)),(33,ya l),(34,.v (.int .i64 l.length)),(35,.v (.int .i64 ((0:Nat):Int)))]) ?_) ?_;((repeat (first|exact qx|refine jz ?_|refine xy ?_ ?_))))
     all_goals try (rw [List.length_map];done)
     all_goals try (rw [List.drop_zero,List.take_of_length_le (by simp)];rfl)
     refine qB (fun n σ => ∃ (i:Nat) (u:List Ent),i ≤ l.length ∧ n = l.length - i ∧ (A = Vl v u (l.drop i) i ∧ RightE u) ∧ σ = ⟨[(0,qU u),(1,ya l),(2,.v (.int .i64 v)),(33,ya l),(34,.v (.int .i64 l.length)),(35,.v (.int .i64 (i:Int)))],[],C.nh⟩) l.length ⟨0,t,Nat.zero_le _,rfl,⟨by rw [hE];rfl,hR⟩,rfl⟩ ?_;rintro n σ ⟨i,u,hi,rfl,⟨hA,hRu⟩,rfl⟩;by_cases hlt:i < l.length
     ·have hr:=qK (f:=Chg.row) hlt;have hraw:=qn5 u l[i] v hRu (hcb.each _ (List.getElem_mem _));rw [qil hlt] at hA
      have hL:qjd u l[i] v = if Qb u l[i] v = 0 then jI u l[i] v else []:=rfl
      by_cases hz:Qb u l[i] v = 0
      ·have hRn:=hRu.done hz;rw [if_pos hz] at hA hL;rw [hL,hz] at hraw;generalize jI u l[i] v = U at *;clear hE hL hz
       repeat' (first|refine qg ?_|(first|refine yS (hraw ..) ?_)|(refine xsS ?_ ?_;all_goals first|exact False.elim|intro hp hc)|refine xsA ?_ ?_)
       all_goals try (exfalso;omega)
       refine ⟨l.length - (i + 1),_,by omega,yC (ts:=[(0,qU U),(1,ya l),(2,.v (.int .i64 v)),(33,ya l),(34,.v (.int .i64 l.length)),(35,.v (.int .i64 ((i + 1:Nat):Int)))]) ?_,i + 1,U,by omega,rfl,⟨hA,hRn⟩,rfl⟩
       (repeat (first|exact qx|refine jz ?_|refine xy ?_ ?_))
      ·rw [if_neg hz] at hA hL;rw [hL] at hraw;rw [hA];generalize Qb u l[i] v = E at *;clear hE hL hA;exact Yp
     obtain rfl:i = l.length:=by omega
     rw [List.drop_length] at hA;have hA:A = (u,l.length,0):=hA;rw [hA];clear hE hA
     repeat' (first|refine qg ?_|fail|(refine xsS ?_ ?_;all_goals first|exact False.elim|intro hp hc)|refine xsA ?_ ?_)
     all_goals try (exfalso;omega)
     (exact Jd (rs:=[.tmp 6,.tmp 7,.tmp 8]) (hz:=qqC)))
 ·rw [if_pos hte] at hE;rw [hE];generalize jv t = E at *;refine qJ 0 ?_
  repeat' (first|refine qg ?_|(first|(refine jd ?_)|refine yS (h1 ..) ?_)|(refine xsS ?_ ?_;all_goals first|exact False.elim|intro hp hc)|refine xsA ?_ ?_)
  all_goals try (exfalso;omega)
  all_goals ((exact kw (rs:=[.tmp 6,.tmp 7,.tmp 8])))
def qmw (t:List Ent) (l:List Chg) (v:Int):List Ent × Nat × Int:=if 20 < l.length then ([],0,2) else if wN v = false ∧ 0 < l.length then ([],0,3) else Vl v t l 0
theorem qmv (t:List Ent) (l:List Chg) (v:Int):ve v t l = if ¬ jv t = 0 then ([],0,jv t) else qmw t l v:=rfl
theorem qpe (a b:Int):jN C.P 160 [.sl false [[.v (.int .i64 a)],[.v (.int .i64 b)]]] (.v (.int .i64 (if a = 0 then b else a))):=by
 have hc:([a,b].map fun x => [AV.v (.int .i64 x)]) = [[.v (.int .i64 a)],[.v (.int .i64 b)]]:=rfl;rw [← hc];refine qJ 0 ?_
 repeat' (first|refine qg ?_|fail|(refine xsS ?_ ?_;all_goals first|exact False.elim|intro hp hc)|refine xsA ?_ ?_)
 refine Zq (ts:=[(3,.v (.int .i64 0)),(6,.sl false ([a,b].map fun x => [AV.v (.int .i64 x)])),(7,.v (.int .i64 (2:Int))),(8,.v (.int .i64 ((0:Nat):Int)))]) ?_;refine qB (fun n σ => ∃ i:Nat,i ≤ [a,b].length ∧ n = [a,b].length - i ∧ (∀ x,x ∈ [a,b].take i → x = 0) ∧ σ = ⟨[(3,.v (.int .i64 0)),(6,.sl false ([a,b].map fun x => [AV.v (.int .i64 x)])),(7,.v (.int .i64 (2:Int))),(8,.v (.int .i64 (i:Int)))],[],C.nh⟩) [a,b].length ⟨0,Nat.zero_le _,rfl,(by simp),rfl⟩ ?_;rintro n σ ⟨i,hi,rfl,hsofar,rfl⟩;have hi2:i ≤ 2:=hi;by_cases hlt:i < [a,b].length
 ·have hlt2:i < 2:=hlt;have hr:=qK (f:=fun x:Int => [AV.v (.int .i64 x)]) hlt
  repeat' (first|refine qg ?_|fail|(refine xsS ?_ ?_;all_goals first|exact False.elim|intro hp hc)|refine xsA ?_ ?_)
  all_goals try (exfalso;omega)
  ·apply qI;rfl
   match i,hlt,hp,hsofar with
   | 0,_,hp,_=>simp at hp ⊢;simp [hp]
   | 1,_,hp,hsofar=>simp at hsofar;simp [hsofar]
  ·refine ⟨[a,b].length - (i + 1),_,by omega,xsM (ts:=[(3,.v (.int .i64 0)),(6,.sl false ([a,b].map fun x => [AV.v (.int .i64 x)])),(7,.v (.int .i64 (2:Int))),(8,.v (.int .i64 ((i + 1:Nat):Int)))]),i + 1,by omega,rfl,jJ hlt hsofar hp,rfl⟩
 have hi3:¬ i < 2:=hlt
 repeat' (first|refine qg ?_|fail|(refine xsS ?_ ?_;all_goals first|exact False.elim|intro hp hc)|refine xsA ?_ ?_)
 all_goals try (exfalso;omega)
 obtain rfl:i = 2:=by omega
 apply qI;rfl;simp at hsofar;simp [hsofar]
theorem KM (a b:Gra):jN C.P 117 [.agg a.row,.agg b.row] (.v (.int .i64 (kG a b))):=by
 refine qJ 0 ?_
 repeat' (first|refine qg ?_|(first|refine jT (Zr ..) ?_|refine yS (qpe ..) ?_|(refine jd ?_))|(refine xsS ?_ ?_;all_goals first|exact False.elim|intro hp hc)|refine xsA ?_ ?_)
 all_goals (apply qI;rfl;simp [kG])
theorem qfb (p:qb → Bool) (g:FuncId) (hg:IsFn C.P g) (cap:List AV) (hcap:AV.pure.pureL cap = true) (l:List (qb)) (hl:l.length ≤ 1000000) (hc : ∀ s,s ∈ l → jN C.P g ((AV.v (str s)) :: cap) (.v (.bool (p s)))) :
  jN C.P 196 [.sl false (l.map kR),.clo (.func g) [] cap] (.v (.int .i64 (yN p l))):=by
 refine qJ 0 ?_
 repeat' (first|refine qg ?_|fail|(refine xsS ?_ ?_;all_goals first|exact False.elim|intro hp hc)|refine xsA ?_ ?_)
 refine Zq (ts:=[(0,.sl false (l.map kR)),(1,.clo (.func g) [] cap),(7,.v (.int .i64 l.length)),(8,.v (.int .i64 ((0:Nat):Int)))]) ?_
 all_goals try (rw [List.length_map];done)
 refine qB (fun n σ => ∃ i:Nat,i ≤ l.length ∧ n = l.length - i ∧ (∀ s,s ∈ l.take i → p s = false) ∧ σ = ⟨[(0,.sl false (l.map kR)),(1,.clo (.func g) [] cap),(7,.v (.int .i64 l.length)),(8,.v (.int .i64 (i:Int)))],[],C.nh⟩) l.length ⟨0,Nat.zero_le _,rfl,(by simp),rfl⟩ ?_;rintro n σ ⟨i,hi,rfl,hsofar,rfl⟩;by_cases hlt:i < l.length
 ·have hr:=qK (f:=kR) hlt;have hci:=hc l[i] (List.getElem_mem _)
  repeat' (first|refine qg ?_|(first|(apply qa;apply zZ [];rfl;exact hg;exact hci;(case hz=>exact qeZ);(case hfl=>rfl);(case hN=>exact nle rfl)))|(refine xsS ?_ ?_;all_goals first|exact False.elim|intro hp hc)|refine xsA ?_ ?_)
  all_goals try (exfalso;omega)
  ·apply qI;rfl;exact (wb hlt hsofar hp).symm
  ·refine ⟨l.length - (i + 1),_,by omega,xsM (ts:=[(0,.sl false (l.map kR)),(1,.clo (.func g) [] cap),(7,.v (.int .i64 l.length)),(8,.v (.int .i64 ((i + 1:Nat):Int)))]),i + 1,by omega,rfl,jJ hlt hsofar hp,rfl⟩
 obtain rfl:i = l.length:=by omega
 repeat' (first|refine qg ?_|fail|(refine xsS ?_ ?_;all_goals first|exact False.elim|intro hp hc)|refine xsA ?_ ?_)
 all_goals try (exfalso;omega)
 apply qI;rfl;exact (zt fun s hs=>hsofar s qaw).symm
theorem qaF (p:qb → Bool) (g:FuncId) (hg:IsFn C.P g) (cap:List AV) (hcap:AV.pure.pureL cap = true) (l:List (qb)) (hl:l.length ≤ 1000000) (hc : ∀ s,s ∈ l → jN C.P g ((AV.v (str s)) :: cap) (.v (.bool (p s)))) :
  jN C.P 158 [.sl false (l.map kR),.clo (.func g) [] cap] (.v (.bool (l.any p))):=by
 have hidx:=qfb p g hg cap hcap l hl hc;refine qJ 0 ?_
 repeat' (first|refine qg ?_|(first|(apply qa;apply yJ [];exact qr Tryz.func196 rfl rfl;exact hidx;(case hz=>exact qoT);(case hfl=>rfl);(case hN=>exact nle rfl)))|(refine xsS ?_ ?_;all_goals first|exact False.elim|intro hp hc)|refine xsA ?_ ?_)
 apply qR;rfl;rw [← ZK]
theorem qjQ (s:qb) (hs:s.length ≤ 140737488355328):jN C.P 159 [.v (str s)] (.v (.bool (!qj s))):=by
 refine qJ 0 ?_
 repeat' (first|refine qg ?_|(first|refine jT (xJ _ hs ..) ?_)|(refine xsS ?_ ?_;all_goals first|exact False.elim|intro hp hc)|refine xsA ?_ ?_)
 all_goals (apply qR;rfl;simp_all)
theorem Vh (l:List qb) (hl:l.length ≤ 1000000) (hs : ∀ s,s ∈ l → s.length ≤ 140737488355328):jN C.P 116 [.sl false (l.map kR)] (.v (.bool (l.all qj))):=by
 have hcon:=qaF (fun s => !qj s) 159 (qr Tryz.func159 rfl rfl) [] rfl l hl (fun s h=>qjQ s (hs s h));refine qJ 0 ?_
 repeat' (first|refine qg ?_|(first|refine jT (hcon ..) ?_)|(refine xsS ?_ ?_;all_goals first|exact False.elim|intro hp hc)|refine xsA ?_ ?_)
 all_goals (apply qR;rfl;simp_all [List.all_eq_not_any_not])
theorem qmD:qiG C.P 77 = some [0,1,1,1,0]:=by kernel_rfl
theorem qje (a b:Chg):JB [0,1,1,1,0] a.row b.row = some (decide (a = b)):=by
 obtain ⟨a1,a2,a3,a4,a5⟩:=a;obtain ⟨b1,b2,b3,b4,b5⟩:=b;simp only [Chg.row,JB,JR,str,Chg.mk.injEq,if_true,Option.some.injEq];by_cases h1:a1 = b1<;>by_cases h2:a2 = b2<;>by_cases h3:a3 = b3<;>by_cases h4:a4 = b4<;>by_cases h5:a5 = b5<;>simp [h1,h2,h3,h4,h5]
theorem qaG (a b:List Chg) (ha:a.length ≤ 1000000000) (hb:b.length ≤ 1000000000):jN C.P 139 [ya a,ya b] (.v (.bool (decide (a = b)))):=by
 have hma:(a.map Chg.row).length = a.length:=List.length_map ..;have hmb:(b.map Chg.row).length = b.length:=List.length_map ..;refine qJ 0 ?_
 repeat' (first|refine qg ?_|fail|(refine xsS ?_ ?_;all_goals first|exact False.elim|intro hp hc)|refine xsA ?_ ?_)
 ·apply qR;rfl;have hne:¬ a = b:=fun e=>by subst e;simp at *
  simp [hne]
 have hab:a.length = b.length:=by simp at *;omega
 refine Zq (ts:=[(0,ya a),(1,ya b),(5,.v (.int .i64 ((0:Nat):Int)))]) ?_;refine qB (fun n σ => ∃ i:Nat,i ≤ a.length ∧ n = a.length - i ∧ (a.take i = b.take i) ∧ σ = ⟨[(0,ya a),(1,ya b),(5,.v (.int .i64 (i:Int)))],[],C.nh⟩) a.length ⟨0,Nat.zero_le _,rfl,rfl,rfl⟩ ?_;rintro n σ ⟨i,hi,rfl,hsofar,rfl⟩;by_cases hlt:i < a.length
 ·have hlt2:i < b.length:=by omega
  have hr:=qK (f:=Chg.row) hlt;have hr':=qK (f:=Chg.row) hlt2;have hnx:=Z8 hlt hlt2 hsofar
  repeat' (first|refine qg ?_|(first|(apply qa;apply VC;rfl;rfl;exact qmD;exact qje _ _;(first|exact .inl ⟨rfl,rfl⟩|exact .inr ⟨rfl,rfl⟩);exact nle rfl))|(refine xsS ?_ ?_;all_goals first|exact False.elim|intro hp hc)|refine xsA ?_ ?_)
  all_goals try (exfalso;omega)
  ·apply qR;rfl;have hne:¬ a = b:=fun e=>by subst e;simp at *
   simp [hne]
  ·refine ⟨a.length - (i + 1),_,by omega,xsM (ts:=[(0,ya a),(1,ya b),(5,.v (.int .i64 ((i + 1:Nat):Int)))]),i + 1,by omega,rfl,(hnx (by simp_all)),rfl⟩
 obtain rfl:i = a.length:=by omega
 have he:a = b:=by rw [List.take_length] at hsofar;rw [hsofar,hab,List.take_length]
 repeat' (first|refine qg ?_|fail|(refine xsS ?_ ?_;all_goals first|exact False.elim|intro hp hc)|refine xsA ?_ ?_)
 all_goals try (exfalso;omega)
 apply qR;rfl;simp [he]
theorem Qd (l:List Ent) (hl:l.length ≤ 1000000):jN C.P 122 [qU l] (qU l) :=
 Qr (Wb l hl) (xu rfl (by simp) (js fun _=>rfl))
theorem qjJ (l:List Chg) (hl:l.length ≤ 1000000) :
  qf C.P 124 [ya l] [] (.os 0 0 l.length) [.own false 5 (l.map Chg.row)]:=by
 by_cases h0:l = []
 ·subst h0;refine qJ 0 ?_
  repeat' (first|refine qg ?_|(first|(refine jd ?_)|(refine vm ?_)|(refine Xj ?_))|(refine xsS ?_ ?_;all_goals first|exact False.elim|intro hp hc)|refine xsA ?_ ?_)
  · (refine Q4 (C:=C) (Q9 (C:=C) 2 5 rfl (Nat.zero_le _)) ?_)
    (exact yp (rs:=[.tmp 2]) [(0,0)] 1 Yh)
  · (exact yp (rs:=[.tmp 2]) [(0,0)] 1 Yh)
 ·refine qJ 0 ?_
  repeat' (first|refine qg ?_|(first|(refine jd ?_)|(refine vm ?_)|(apply qa;apply Qh;rfl;exact (fun h=>h0 (List.map_eq_nil_iff.1 h));rfl;rfl;(first|exact .inl rfl|exact .inr rfl);exact nle rfl))|(refine xsS ?_ ?_;all_goals first|exact False.elim|intro hp hc)|refine xsA ?_ ?_)
  (exact yp (rs:=[.tmp 2]) [(0,0)] 1 Yh)
theorem Y5 (l:List Chg) (hl:l.length ≤ 1000000):jN C.P 124 [ya l] (ya l) :=
 Qr (qjJ l hl) (xu rfl (by simp) (js fun _=>rfl))
end Go.Proofs.YtgcncinnlmjgdaaGreatDoor
