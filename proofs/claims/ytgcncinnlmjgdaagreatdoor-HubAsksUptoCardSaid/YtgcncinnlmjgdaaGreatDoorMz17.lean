import Derived.Test.YtgcncinnlmjgdaaGreatDoorMz13
import Derived.Test.YtgcncinnlmjgdaaGreatDoorMz16
import Derived.Test.YtgcncinnlmjgdaaGreatDoorMz1
import Derived.Test.YtgcncinnlmjgdaaGreatDoorMz2
set_option linter.unusedSimpArgs false
set_option maxHeartbeats 1000000
set_option maxRecDepth 10000
namespace Go.Proofs.YtgcncinnlmjgdaaGreatDoor
open Go.Ab Go.RowKit
attribute [local irreducible] Awp j9 jr ye Red qz Go.Ab.Fin qf Rz wz jF jU ResOk yA j1 xR qX
theorem qmp (l:List Gra) (hl:l.length ≤ 1000000):jN C.P 118 [jw l] (.v (.bool (YR l))):=by
 refine qJ 0 ?_
 repeat' (first|refine qg ?_|(first|(apply j5;apply vu;exact nle rfl)|(apply qa;apply vM;rfl;rfl;rfl;rfl;exact nle rfl)|(apply qP;apply xI;rfl;rfl;rfl;rfl;rfl;rfl;rfl;rfl))|(refine xsS ?_ ?_;all_goals first|exact False.elim|intro hp hc)|refine xsA ?_ ?_)
 (refine xsK (τ:=⟨[(3,.mp 0),(4,.mp 1),(9,jw l),(10,.v (.int .i64 l.length)),(11,.v (.int .i64 ((0:Nat):Int)))],[(0,.mp (KF (l.take 0))),(1,.mp (Vk (l.take 0)))],2⟩) [(0,0),(1,1)] qpN qpP ?_)
 refine qB (fun n σ => ∃ i:Nat,i ≤ l.length ∧ n = l.length - i ∧ (True) ∧ σ = ⟨[(3,.mp 0),(4,.mp 1),(9,jw l),(10,.v (.int .i64 l.length)),(11,.v (.int .i64 (i:Int)))],[(0,.mp (KF (l.take i))),(1,.mp (Vk (l.take i)))],2⟩) l.length ⟨0,Nat.zero_le _,rfl,trivial,rfl⟩ ?_;rintro n σ ⟨i,hi,rfl, -,rfl⟩;by_cases hlt:i < l.length
 ·have hr:=qK (f:=Gra.row) hlt;have hp1:=Xg ((l.take (i + 1)).map (·.folder));have hp2:=Xg (((l.take (i + 1)).filter (fun g=>decide (g.right = 3))).map (·.folder))
  repeat' (first|refine qg ?_|(first|(apply j5;apply vu;exact nle rfl)|(apply qa;apply vM;rfl;rfl;rfl;rfl;exact nle rfl)|(apply qP;apply xI;rfl;rfl;rfl;rfl;rfl;rfl;rfl;rfl))|(refine xsS ?_ ?_;all_goals first|exact False.elim|intro hp hc)|refine xsA ?_ ?_)
  all_goals try (exfalso;omega)
  all_goals try (have h3:=qlm hlt hp)
  all_goals try (have h3:=qm7 hlt hp)
  all_goals (have h4:=qa7 hlt)
  all_goals (refine ⟨l.length - (i + 1),_,by omega,xsL (τ:=⟨[(3,.mp 0),(4,.mp 1),(9,jw l),(10,.v (.int .i64 l.length)),(11,.v (.int .i64 ((i + 1:Nat):Int)))],[(0,.mp (KF (l.take (i + 1)))),(1,.mp (Vk (l.take (i + 1))))],2⟩) [(0,0),(1,1)] qpO (by (repeat (first|exact qn|(apply KW;(case hm=>exact tz6);(case hx=>rfl);(case hp=>exact qqc);(first|(case hr=>rfl)|(case hr=>assumption)|rotate_left))));all_goals (first|exact h3.symm|exact h4.symm)),i + 1,by omega,rfl,trivial,rfl⟩)
 obtain rfl:i = l.length:=by omega
 repeat' (first|refine qg ?_|(first|(apply j5;apply vu;exact nle rfl)|(apply qa;apply vM;rfl;rfl;rfl;rfl;exact nle rfl)|(apply qP;apply xI;rfl;rfl;rfl;rfl;rfl;rfl;rfl;rfl))|(refine xsS ?_ ?_;all_goals first|exact False.elim|intro hp hc)|refine xsA ?_ ?_)
 all_goals try (exfalso;omega)
 apply qR;rfl;rw [← qf7,List.take_length];simp [Int.ofNat_inj]
theorem Yt (l:List Gra) (hl:GBig l):jN C.P 51 [jw l] (.v (.int .i64 (jx l))):=by
 have hll:=hl.len;refine qJ 0 ?_
 repeat' (first|refine qg ?_|fail|(refine xsS ?_ ?_;all_goals first|exact False.elim|intro hp hc)|refine xsA ?_ ?_)
 ·apply qI;rfl;have h60:60 < l.length:=by omega
  simp [jx,h60]
 have h60:¬ 60 < l.length:=by omega
 refine Zq (ts:=[(0,jw l),(9,jw l),(10,.v (.int .i64 l.length)),(11,.v (.int .i64 ((0:Nat):Int)))]) ?_
 all_goals try (rw [List.length_map];done)
 refine qB (fun n σ => ∃ i:Nat,i ≤ l.length ∧ n = l.length - i ∧ (∀ g,g ∈ l.take i → vX g = 0) ∧ σ = ⟨[(0,jw l),(9,jw l),(10,.v (.int .i64 l.length)),(11,.v (.int .i64 (i:Int)))],[],C.nh⟩) l.length ⟨0,Nat.zero_le _,rfl,(by simp),rfl⟩ ?_;rintro n σ ⟨i,hi,rfl,hsofar,rfl⟩;by_cases hlt:i < l.length
 ·have hr:=qK (f:=Gra.row) hlt;have hsm:=hl.each l[i] (List.getElem_mem _);have hnm:=Vh [l[i].folder,l[i].who] (by simp) (by simp;exact hsm);simp only [List.map,List.all_cons,List.all_nil,Bool.and_true] at hnm
  repeat' (first|refine qg ?_|(first|refine yS (hnm ..) ?_|(refine jd ?_))|(refine xsS ?_ ?_;all_goals first|exact False.elim|intro hp hc)|refine xsA ?_ ?_)
  all_goals try (exfalso;omega)
  all_goals first
   | (apply qI;rfl;exact VF h60 hlt hsofar (qeg (by assumption)) (by omega))
   | (apply qI;rfl;exact VF h60 hlt hsofar (qcy (by assumption) (by omega)) (by omega))
   | (have he:vX l[i] = 0:=qbw (by assumption) (by omega)
      refine ⟨l.length - (i + 1),_,by omega,xsM (ts:=[(0,jw l),(9,jw l),(10,.v (.int .i64 l.length)),(11,.v (.int .i64 ((i + 1:Nat):Int)))]),i + 1,by omega,rfl,jJ hlt hsofar he,rfl⟩)
 obtain rfl:i = l.length:=by omega
 have hz:jp vX l = 0:=jA.2 (fun s hs=>hsofar s qaw);clear hsofar
 repeat' (first|refine qg ?_|fail|(refine xsS ?_ ?_;all_goals first|exact False.elim|intro hp hc)|refine xsA ?_ ?_)
 all_goals try (exfalso;omega)
 refine Zq (ts:=[(0,jw l),(5,.v (.int .i64 ((0 + 1:Nat):Int)))]) ?_;refine qB (fun n σ => ∃ i:Nat,i ≤ (l.drop 1).length ∧ n = (l.drop 1).length - i ∧ (∀ (k:Nat) (h:k + 1 < l.length),k < i → ja (l[k]'(by omega)) l[k + 1] = true) ∧ σ = ⟨[(0,jw l),(5,.v (.int .i64 ((i + 1:Nat):Int)))],[],C.nh⟩) (l.drop 1).length ⟨0,Nat.zero_le _,rfl,(fun k h hk=>absurd hk (Nat.not_lt_zero _)),rfl⟩ ?_;have hdl:(l.drop 1).length = l.length - 1:=by simp
 rintro n σ ⟨i,hi,rfl,hsofar,rfl⟩;by_cases hlt:i + 1 < l.length
 ·have hr:=qK (f:=Gra.row) hlt;have hr':=qK (f:=Gra.row) (l:=l) (i:=i) (by omega)
  repeat' (first|refine qg ?_|(first|refine jT (KM ..) ?_)|(refine xsS ?_ ?_;all_goals first|exact False.elim|intro hp hc)|refine xsA ?_ ?_)
  all_goals try (exfalso;simp_all;done)
  ·have hrf:¬ ql ja l = true:=fun h=>by
    have:=(QC _ _).2 (yt.1 h i hlt);omega
   apply qI;rfl;simp [jx,h60,hz,hrf]
  ·refine ⟨(l.drop 1).length - (i + 1),_,by omega,yC (ts:=[(0,jw l),(5,.v (.int .i64 ((i + 1 + 1:Nat):Int)))]) ?_,i + 1,by omega,rfl,(fun k h hk=>by
    by_cases e:k = i
    ·subst e;exact (QC _ _).1 (by omega)
    ·exact hsofar k h (by omega)),rfl⟩;((repeat (first|exact qx|refine jz ?_|refine xy ?_ ?_)))
 have hrise:ql ja l = true:=yt.2 fun k h=>hsofar k h (by simp at hi;omega)
 clear hsofar;have hown:=qmp l (by omega)
 repeat' (first|refine qg ?_|(first|refine jT (hown ..) ?_)|(refine xsS ?_ ?_;all_goals first|exact False.elim|intro hp hc)|refine xsA ?_ ?_)
 all_goals try (exfalso;omega)
 all_goals (apply qI;rfl;simp_all [jx])
theorem qjV (l:List Gra) (g:Gra) (hl:l.length ≤ 1000000) (hs:ql ja l = true) :
  jN C.P 231 [jw l,.agg g.row,.clo (.func 117) [] []] (.tup [.v (.int .i64 (x8 l g)),.v (.bool (zT l g))]):=by
 refine qJ 0 ?_
 (repeat apply jW);refine qO ?_;(repeat' (first|apply qF|refine wk ?_|refine we ?_|refine wJ ?_|refine wi ?_|refine YO ?_|refine wj ?_|refine X1 ?_|refine wI ?_|(first|fail)|refine xY ?_|refine vA ?_|refine vz ?_|refine xL ?_|refine xK ?_|refine kZ ?_|refine k9 ?_|refine vy ?_|refine vx ?_|((first|refine vl ?_ ?_|refine vk ?_ ?_);all_goals (intro hc;have hp:=hc;first|(simp at hp;done)|((try simp at hp);first|(exfalso;omega)|skip)))));show Awp _ _ _ _ _
 refine Ym 4 0 ?_
 repeat' (first|refine qg ?_|fail|(refine xsS ?_ ?_;all_goals first|exact False.elim|intro hp hc)|refine xsA ?_ ?_)
 refine Zq (ts:=[(0,jw l),(2,.clo (.func 117) [] []),(4,.fp [g.row] 0 0),(8,.v (.int .i64 l.length)),(9,.v (.int .i64 ((0:Nat):Int))),(10,.v (.int .i64 l.length))]) ?_
 all_goals try (rw [List.length_map];done)
 refine qB (fun n σ => ∃ lo hi:Nat,lo ≤ hi ∧ hi ≤ l.length ∧ n = hi - lo ∧ (∀ (k:Nat) (h:k < l.length),k < lo → ja l[k] g = true) ∧ (∀ (k:Nat) (h:k < l.length),hi ≤ k → ja l[k] g = false) ∧ σ = ⟨[(0,jw l),(2,.clo (.func 117) [] []),(4,.fp [g.row] 0 0),(8,.v (.int .i64 l.length)),(9,.v (.int .i64 ((lo:Nat):Int))),(10,.v (.int .i64 ((hi:Nat):Int)))],[],C.nh⟩) l.length ⟨0,l.length,by omega,Nat.le_refl _,rfl,fun _ _ h=>absurd h (by omega),fun _ _ h=>absurd h (by omega),rfl⟩ ?_;rintro n σ ⟨lo,hi,hle,hhi,rfl,h1,h2,rfl⟩;by_cases hlt:lo < hi
 ·obtain ⟨m,hm⟩ : ∃ m:Nat,m = (lo + hi) / 2:=⟨_,rfl⟩
  have hmi:((lo:Int) + (hi:Int)) / 2 = (m:Int):=by omega
  have hml:m < l.length:=by omega
  have hr:=qK (f:=Gra.row) hml;have hr2:(l.map Gra.row)[(((lo:Int) + (hi:Int)) / 2).toNat]? = some l[m].row:=by rw [hmi];exact hr
  repeat' (first|refine qg ?_|(first|(apply qa;first|(apply ZC;rfl;rfl;rfl;rfl;rfl;omega;omega;exact nle rfl)|(apply ZB;rfl;rfl;rfl;rfl;rfl;omega;omega;exact nle rfl))|(apply qa;apply qch;(case hx=>rfl);(case hy=>rfl);(case hk=>decide);(case hN=>exact nle rfl))|(refine kV Tryz.func117 (KM ..) ?_))|(refine xsS ?_ ?_;all_goals first|exact False.elim|intro hp hc)|refine xsA ?_ ?_)
  all_goals try (exfalso;omega)
  ·have hmg:ja l[m] g = true:=(QC _ _).1 hp;refine ⟨hi - (m + 1),_,by omega,yC (ts:=[(0,jw l),(2,.clo (.func 117) [] []),(4,.fp [g.row] 0 0),(8,.v (.int .i64 l.length)),(9,.v (.int .i64 ((m + 1:Nat):Int))),(10,.v (.int .i64 ((hi:Nat):Int)))]) ?_,m + 1,hi,by omega,hhi,rfl,fun k h hk=>?_,h2,rfl⟩
   · (repeat (first|exact qx|refine jz ?_|refine xy ?_ ?_))
     all_goals (rw [hmi];rfl)
   ·by_cases e:k = m
    ·subst e;exact hmg
    ·exact Q5 (Xo hs k m h hml (by omega)) hmg
  ·have hmg:ja l[m] g = false:=(by
    cases h:ja l[m] g
    ·rfl
    ·have:=(QC _ _).2 h;omega)
   refine ⟨m - lo,_,by omega,yC (ts:=[(0,jw l),(2,.clo (.func 117) [] []),(4,.fp [g.row] 0 0),(8,.v (.int .i64 l.length)),(9,.v (.int .i64 ((lo:Nat):Int))),(10,.v (.int .i64 ((m:Nat):Int)))]) ?_,lo,m,by omega,by omega,rfl,h1,fun k h hk=>?_,rfl⟩
   · (repeat (first|exact qx|refine jz ?_|refine xy ?_ ?_))
     all_goals (rw [hmi])
   ·by_cases e:k = m
    ·subst e;exact hmg
    ·cases hkg:ja l[k] g
     ·rfl
     ·rw [Q5 (Xo hs m k hml h (by omega)) hkg] at hmg;cases hmg
 obtain rfl:lo = hi:=by omega
 have hpos:x8 l g = lo:=qcI hhi h1 (fun h=>h2 lo h (by omega));by_cases hin:lo < l.length
 ·have hr:=qK (f:=Gra.row) hin
  have hhit:zT l g = decide (kG l[lo] g = 0):=by
   unfold zT;rw [hpos,List.getElem?_eq_getElem hin]
  repeat' (first|refine qg ?_|(first|(refine kV Tryz.func117 (KM ..) ?_))|(refine xsS ?_ ?_;all_goals first|exact False.elim|intro hp hc)|refine xsA ?_ ?_)
  all_goals try (exfalso;omega)
  rw [hpos,hhit]
  (exact kw (rs:=[.tmp 6,.tmp 7]))
 ·have hhit:zT l g = false:=by
   unfold zT;rw [hpos,List.getElem?_eq_none (by omega)]
  repeat' (first|refine qg ?_|(first|(refine kV Tryz.func117 (KM ..) ?_))|(refine xsS ?_ ?_;all_goals first|exact False.elim|intro hp hc)|refine xsA ?_ ?_)
  all_goals try (exfalso;omega)
  rw [hpos,hhit]
  (exact kw (rs:=[.tmp 6,.tmp 7]))
theorem qfE (l:List Gra) (f w:qb) (hl:l.length ≤ 1000000) (hs:ql ja l = true) :
  jN C.P 209 [jw l,.v (str f),.v (str w)] (.tup [.v (.int .i64 (x8 l ⟨f,w,0⟩)),.v (.bool (zT l ⟨f,w,0⟩))]):=by
 have hse:=qjV l ⟨f,w,0⟩ hl hs;refine qJ 0 ?_;exact Yp
def jD (l:List Gra) (f w:qb):Int:=match l.find? (sameKey ⟨f,w,0⟩) with|some g=>g.right|none=>0
theorem qgy {l:List Gra} (hs:ql ja l = true) {f w:qb} (h:zT l ⟨f,w,0⟩ = true) : ∃ hk:x8 l ⟨f,w,0⟩ < l.length,l[x8 l ⟨f,w,0⟩].right = jD l f w:=by
 rw [qdW hs] at h;obtain ⟨x,hx,hk⟩:=List.any_eq_true.1 h;obtain ⟨k,hkl,rfl⟩:=List.getElem_of_mem hx;have hp:=qcH hs hkl hk;refine ⟨by omega,?_⟩
 have hfind:l.find? (sameKey ⟨f,w,0⟩) = some l[k]:=by
  rw [List.find?_eq_some_iff_getElem];refine ⟨hk,k,hkl,rfl,fun j hj=>?_⟩;cases hjk:sameKey ⟨f,w,0⟩ l[j]
  ·rfl
  ·have:=qcH hs (by omega) hjk;omega
 unfold jD;rw [hfind];simp only [hp]
theorem Kw {l:List Gra} (hs:ql ja l = true) {f w:qb} (h:zT l ⟨f,w,0⟩ = false):jD l f w = 0:=by
 rw [qdW hs] at h
 have:l.find? (sameKey ⟨f,w,0⟩) = none:=by
  rw [List.find?_eq_none];exact List.any_eq_false.1 h
 unfold jD;rw [this]
theorem qjR (l:List Gra) (f w:qb) (hl:l.length ≤ 1000000) (hs:ql ja l = true) :
  jN C.P 173 [jw l,.v (str f),.v (str w)] (.v (.int .i64 (jD l f w))):=by
 have hfi:=qfE l f w hl hs
 cases hh:zT l ⟨f,w,0⟩ with
 | true =>
   rw [hh] at hfi;obtain ⟨hk,he⟩:=qgy hs hh;have hr:=qK (f:=Gra.row) hk;rw [← he];refine qJ 0 ?_
   repeat' (first|refine qg ?_|(first|refine yS (hfi ..) ?_)|(refine xsS ?_ ?_;all_goals first|exact False.elim|intro hp hc)|refine xsA ?_ ?_)
   all_goals (apply qI;rfl;rfl)
 | false =>
   rw [hh] at hfi;rw [Kw hs hh];refine qJ 0 ?_
   repeat' (first|refine qg ?_|(first|refine yS (hfi ..) ?_)|(refine xsS ?_ ?_;all_goals first|exact False.elim|intro hp hc)|refine xsA ?_ ?_)
   all_goals (apply qI;rfl;rfl)
theorem Yr (l:List Gra) (hl:l.length ≤ 1000000) :
  qf C.P 56 [jw l] [] (.os 0 0 l.length) [.own false 3 (l.map Gra.row)]:=by
 by_cases h0:l = []
 ·subst h0;refine qJ 0 ?_
  repeat' (first|refine qg ?_|(first|(refine jd ?_)|(refine vm ?_)|(refine Xj ?_))|(refine xsS ?_ ?_;all_goals first|exact False.elim|intro hp hc)|refine xsA ?_ ?_)
  · (refine Q4 (C:=C) (Q9 (C:=C) 2 3 rfl (Nat.zero_le _)) ?_)
    (exact yp (rs:=[.tmp 2]) [(0,0)] 1 Yh)
  · (exact yp (rs:=[.tmp 2]) [(0,0)] 1 Yh)
 ·refine qJ 0 ?_
  repeat' (first|refine qg ?_|(first|(refine jd ?_)|(refine vm ?_)|(apply qa;apply Qh;rfl;exact (fun h=>h0 (List.map_eq_nil_iff.1 h));rfl;rfl;(first|exact .inl rfl|exact .inr rfl);exact nle rfl))|(refine xsS ?_ ?_;all_goals first|exact False.elim|intro hp hc)|refine xsA ?_ ?_)
  (exact yp (rs:=[.tmp 2]) [(0,0)] 1 Yh)
theorem qdP (l:List Gra) (g:Gra) (hl:l.length ≤ 1000000) :
  qf C1.P 211 [.os 0 0 l.length,.v (.int .i64 l.length),.sl false [g.row]] [.own false 3 (l.map Gra.row)] (.os 1 0 (l.length + 1)) [.dead,.own false 3 ((l ++ [g]).map Gra.row)]:=by
 refine qJ (C:=C1) 1 ?_
 repeat' (first|refine qg ?_|(first|(refine YQ ?_)|(refine vF ?_))|(refine xsS ?_ ?_;all_goals first|exact False.elim|intro hp hc)|refine xsA ?_ ?_)
 (exact yp (rs:=[.tmp 6]) [(1,1)] 2 Va)
theorem qjW (l:List Gra) (f w:qb) (r:Int) (hl:l.length ≤ 1000000) (hs:ql ja l = true) (hr:r ≠ 0) (hh:zT l ⟨f,w,0⟩ = false) (hp:x8 l ⟨f,w,0⟩ = l.length) :
  qf C.P 170 [jw l,.v (str f),.v (str w),.v (.int .i64 r)] [] (.os 0 0 (l.length + 1)) [.own false 3 ((l ++ [(⟨f,w,r⟩ : Gra)]).map Gra.row)]:=by
 have hfi:=qfE l f w hl hs;rw [hh,hp] at hfi;have hin:=qdP l ⟨f,w,r⟩ hl;refine qJ 0 ?_
 repeat' (first|refine qg ?_|(first|(refine jP ([]) qi (Yr l hl ..) ?_)|refine xsE [0] (hfi ..) ?_|(refine jd ?_)|(refine zn ([0]) 0 qi (hin ..) ?_))|(refine xsS ?_ ?_;all_goals first|exact False.elim|intro hp hc)|refine xsA ?_ ?_)
 all_goals try (exfalso;omega)
 (exact yp (rs:=[.tmp 8]) [(1,0)] 1 qav)
theorem qjL (p:Gra → Bool) (g:FuncId) (hg:IsFn C.P g) (cap:List AV) (hcap:AV.pure.pureL cap = true) (l:List (Gra)) (hl:l.length ≤ 1000000) (hc : ∀ s,s ∈ l → jN C.P g ((AV.agg (Gra.row s)) :: cap) (.v (.bool (p s)))) :
  jN C.P 208 [.sl false (l.map Gra.row),.clo (.func g) [] cap] (.v (.int .i64 (yN p l))):=by
 refine qJ 0 ?_
 repeat' (first|refine qg ?_|fail|(refine xsS ?_ ?_;all_goals first|exact False.elim|intro hp hc)|refine xsA ?_ ?_)
 refine Zq (ts:=[(0,.sl false (l.map Gra.row)),(1,.clo (.func g) [] cap),(7,.v (.int .i64 l.length)),(8,.v (.int .i64 ((0:Nat):Int)))]) ?_
 all_goals try (rw [List.length_map];done)
 refine qB (fun n σ => ∃ i:Nat,i ≤ l.length ∧ n = l.length - i ∧ (∀ s,s ∈ l.take i → p s = false) ∧ σ = ⟨[(0,.sl false (l.map Gra.row)),(1,.clo (.func g) [] cap),(7,.v (.int .i64 l.length)),(8,.v (.int .i64 (i:Int)))],[],C.nh⟩) l.length ⟨0,Nat.zero_le _,rfl,(by simp),rfl⟩ ?_;rintro n σ ⟨i,hi,rfl,hsofar,rfl⟩;by_cases hlt:i < l.length
 ·have hr:=qK (f:=Gra.row) hlt;have hci:=hc l[i] (List.getElem_mem _)
  repeat' (first|refine qg ?_|(first|(apply qa;apply zZ [];rfl;exact hg;exact hci;(case hz=>exact qeZ);(case hfl=>rfl);(case hN=>exact nle rfl)))|(refine xsS ?_ ?_;all_goals first|exact False.elim|intro hp hc)|refine xsA ?_ ?_)
  all_goals try (exfalso;omega)
  ·apply qI;rfl;exact (wb hlt hsofar hp).symm
  ·refine ⟨l.length - (i + 1),_,by omega,xsM (ts:=[(0,.sl false (l.map Gra.row)),(1,.clo (.func g) [] cap),(7,.v (.int .i64 l.length)),(8,.v (.int .i64 ((i + 1:Nat):Int)))]),i + 1,by omega,rfl,jJ hlt hsofar hp,rfl⟩
 obtain rfl:i = l.length:=by omega
 repeat' (first|refine qg ?_|fail|(refine xsS ?_ ?_;all_goals first|exact False.elim|intro hp hc)|refine xsA ?_ ?_)
 all_goals try (exfalso;omega)
 apply qI;rfl;exact (zt fun s hs=>hsofar s qaw).symm
theorem Ys (p:Gra → Bool) (g:FuncId) (hg:IsFn C.P g) (cap:List AV) (hcap:AV.pure.pureL cap = true) (l:List (Gra)) (hl:l.length ≤ 1000000) (hc : ∀ s,s ∈ l → jN C.P g ((AV.agg (Gra.row s)) :: cap) (.v (.bool (p s)))) :
  jN C.P 168 [.sl false (l.map Gra.row),.clo (.func g) [] cap] (.v (.bool (l.any p))):=by
 have hidx:=qjL p g hg cap hcap l hl hc;refine qJ 0 ?_
 repeat' (first|refine qg ?_|(first|(apply qa;apply yJ [];exact qr Tryz.func208 rfl rfl;exact hidx;(case hz=>exact qoT);(case hfl=>rfl);(case hN=>exact nle rfl)))|(refine xsS ?_ ?_;all_goals first|exact False.elim|intro hp hc)|refine xsA ?_ ?_)
 apply qR;rfl;rw [← ZK]
def zb (f:qb) (g:Gra):Bool:=decide (g.folder = f)
theorem qg0 (g:Gra) (f:qb):jN C.P 169 [.agg g.row,.fp [[.v (str f)]] 0 0] (.v (.bool (zb f g))):=by
 refine qJ 0 ?_
 repeat' (first|refine qg ?_|fail|(refine xsS ?_ ?_;all_goals first|exact False.elim|intro hp hc)|refine xsA ?_ ?_)
 all_goals (apply qR;rfl;simp_all [zb])
def wP (f:qb) (g:Gra):Bool:=decide (g.folder = f) && decide (g.right = 3)
theorem qmj (g:Gra) (f:qb):jN C.P 174 [.agg g.row,.fp [[.v (str f)]] 0 0] (.v (.bool (wP f g))):=by
 refine qJ 0 ?_
 repeat' (first|refine qg ?_|fail|(refine xsS ?_ ?_;all_goals first|exact False.elim|intro hp hc)|refine xsA ?_ ?_)
 all_goals (apply qR;rfl;simp_all [wP])
def jG (l:List Gra) (f w:qb):Int :=
 if jx l = 0 then
  if qj f && qj w then
   if l.any (zb f) then 6 else if l.length = 60 then 2 else 0
  else 1
 else jx l
theorem zr {l:List Gra} (h:jx l = 0):l.length ≤ 60:=by
 unfold jx at h;split at h
 ·omega
 ·omega
theorem qfe (l:List Gra) (hl:GBig l) (f w:qb) (hf:f.length ≤ 140737488355328) (hw:w.length ≤ 140737488355328) (he:jG l f w ≠ 0) :
  jN C.P 142 [jw l,.v (str f),.v (str w)] (.tup [jw [],.v (.int .i64 (jG l f w))]):=by
 have hch:=Yt l hl;by_cases h0:jx l = 0
 ·rw [h0] at hch;have hlen:=zr h0;have hnm:=Vh [f,w] (by simp) (by simp;exact ⟨hf,hw⟩);simp only [List.map,List.all_cons,List.all_nil,Bool.and_true] at hnm;have hcon:=Ys (zb f) 169 (qr Tryz.func169 rfl rfl) [.fp [[.v (str f)]] 0 0] rfl l (by omega) (fun g _=>qg0 g f);refine qJ 0 ?_
  (repeat apply jW);refine qO ?_;(repeat' (first|apply qF|refine wk ?_|refine we ?_|refine wJ ?_|refine wi ?_|refine wj ?_|refine J6 ?_|refine YN ?_|refine wI ?_|(first|fail)|refine xY ?_));show Awp _ _ _ _ _
  refine Ym 4 0 ?_
  repeat' (first|refine qg ?_|(first|refine jT (hch ..) ?_|refine yS (hnm ..) ?_|(refine jd ?_)|refine yS (hcon ..) ?_)|(refine xsS ?_ ?_;all_goals first|exact False.elim|intro hp hc)|refine xsA ?_ ?_)
  all_goals try (exfalso;simp_all [jG];done)
  ·have h1:jG l f w = 1:=by
    rcases hp with hp|hp<;>simp [jG,h0,hp]
   rw [h1]
   (exact kw (rs:=[.tmp 6,.tmp 7]))
  ·have h1:jG l f w = 6:=by simp_all [jG]
   rw [h1]
   (exact kw (rs:=[.tmp 6,.tmp 7]))
  ·have h1:jG l f w = 2:=by
    have h60:l.length = 60:=by omega
    simp_all [jG]
   rw [h1]
   (exact kw (rs:=[.tmp 6,.tmp 7]))
 ·refine qJ 0 ?_
  repeat' (first|refine qg ?_|(first|refine jT (hch ..) ?_)|(refine xsS ?_ ?_;all_goals first|exact False.elim|intro hp hc)|refine xsA ?_ ?_)
  all_goals try (exfalso;simp_all;done)
  rw [show jG l f w = jx l from by simp [jG,h0]]
  (exact kw (rs:=[.tmp 6,.tmp 7]))
theorem qia (l:List Gra) (hl:GBig l) (f w:qb) (hf:f.length ≤ 140737488355328) (hw:w.length ≤ 140737488355328) (he:jG l f w = 0) (L:List Gra)
  (hset:qf C.P 170 [jw l,.v (str f),.v (str w),.v (.int .i64 3)] [] (.os 0 0 L.length) [.own false 3 (L.map Gra.row)]) :
  jN C.P 142 [jw l,.v (str f),.v (str w)] (.tup [jw L,.v (.int .i64 0)]):=by
 have hch:=Yt l hl
 have h0:jx l = 0:=by
  cases Classical.em (jx l = 0) with
  | inl h=>exact h
  | inr h=>simp [jG,h] at he
 rw [h0] at hch;have hlen:=zr h0;have hnm:=Vh [f,w] (by simp) (by simp;exact ⟨hf,hw⟩);simp only [List.map,List.all_cons,List.all_nil,Bool.and_true] at hnm;have hcon:=Ys (zb f) 169 (qr Tryz.func169 rfl rfl) [.fp [[.v (str f)]] 0 0] rfl l (by omega) (fun g _=>qg0 g f)
 have hb1:(qj f && qj w) = true:=by
  cases h:qj f && qj w
  ·simp [jG,h0,h] at he
  ·rfl
 have hb2:l.any (zb f) = false:=by
  cases h:l.any (zb f)
  ·rfl
  ·simp only [jG,h0,hb1,h,if_true] at he;omega
 have hb3:l.length ≠ 60:=by
  intro h;simp [jG,h0,hb1,hb2,h] at he
 rw [hb1] at hnm;rw [hb2] at hcon;refine qJ 0 ?_
 (repeat apply jW);refine qO ?_;(repeat' (first|apply qF|refine wk ?_|refine we ?_|refine wJ ?_|refine wi ?_|refine wj ?_|refine J6 ?_|refine YN ?_|refine wI ?_|(first|fail)|refine xY ?_));show Awp _ _ _ _ _
 refine Ym 4 0 ?_
 repeat' (first|refine qg ?_|(first|refine jT (hch ..) ?_|refine yS (hnm ..) ?_|(refine jd ?_)|refine yS (hcon ..) ?_|(refine jP ([]) qi (hset ..) ?_))|(refine xsS ?_ ?_;all_goals first|exact False.elim|intro hp hc)|refine xsA ?_ ?_)
 all_goals try (exfalso;omega)
 (exact kw (rs:=[.tmp 6,.tmp 7]))
theorem qkY {α:Type} (R J Z:List α) (x:α) {i a b c d:Nat} (hi:i ≤ R.length) (hJ:J.length = 1 + Z.length) (ha:a = i) (hb:b = i + 1) (hc:c = i + 1) (hd:d = i + 1 + Z.length) :
  ((R.take i ++ J).take a ++ [x] ++ (R.take i ++ J).drop b).take c ++ Z ++ ((R.take i ++ J).take a ++ [x] ++ (R.take i ++ J).drop b).drop d = R.take i ++ ([x] ++ Z):=by
 subst ha;subst hb;subst hc;subst hd;have h1:(R.take a ++ J).take a = R.take a:=by rw [List.take_append_of_le_length (by simp;omega),List.take_of_length_le (by simp;omega)]
 have h2:(R.take a ++ [x] ++ (R.take a ++ J).drop (a + 1)).take (a + 1) = R.take a ++ [x]:=by
  rw [List.take_append_of_le_length (by simp;omega),List.take_of_length_le (by simp;omega)]
 have h3:(R.take a ++ [x] ++ (R.take a ++ J).drop (a + 1)).drop (a + 1 + Z.length) = []:=List.drop_of_length_le (by simp;omega);rw [h1,h2,h3];simp
theorem qmO {α:Type} (R Z:List α) (x:α) {i a b c d m:Nat} (hi:i + 1 ≤ R.length) (ha:a = i + 1) (hc:c = i) (hd:d = i + 1) (hm:m = i + 1 + Z.length) :
  ((R.take a ++ Z ++ R.drop b).take c ++ [x] ++ (R.take a ++ Z ++ R.drop b).drop d).take m = R.take i ++ ([x] ++ Z):=by
 subst ha;subst hc;subst hd;subst hm
 have h1:(R.take (c + 1) ++ Z ++ R.drop b).take c = R.take c:=by
  rw [List.append_assoc,List.take_append_of_le_length (by simp;omega),List.take_take,Nat.min_eq_left (by omega)]
 have h2:(R.take (c + 1) ++ Z ++ R.drop b).drop (c + 1) = Z ++ R.drop b:=by
  rw [List.append_assoc,List.drop_append_of_le_length (by simp;omega),List.drop_of_length_le (by simp;omega),List.nil_append]
 rw [h1,h2, ← List.append_assoc,List.take_append_of_le_length (by simp;omega),List.take_of_length_le (by simp;omega),List.append_assoc]
theorem qfF (l:List Gra) (g:Gra) (i:Nat) (hi:i < l.length) (hl:l.length ≤ 1000000) :
  qf C1.P 211 [.os 0 0 l.length,.v (.int .i64 (i:Int)),.sl false [g.row]] [.own false 3 (l.map Gra.row)] (.os 1 0 (l.length + 1)) [.dead,.own false 3 ((l.take i ++ ([g] ++ l.drop i)).map Gra.row)]:=by
 refine qJ (C:=C1) 1 ?_;refine qb3 0 3 (l.map Gra.row) rfl fun cap hcap=>?_
 rw [List.length_map] at hcap
 have hRt:(l.map Gra.row ++ xV 3 (cap - (l.map Gra.row).length)).take l.length = l.map Gra.row:=by
  rw [List.take_append_of_le_length (by simp),List.take_of_length_le (by simp)]
 have hRl:l.length ≤ (l.map Gra.row ++ xV 3 (cap - (l.map Gra.row).length)).length:=by simp
 generalize l.map Gra.row ++ xV 3 (cap - (l.map Gra.row).length) = R at hRt hRl ⊢;have hcut:(R.drop i).take (l.length - i) = (l.drop i).map Gra.row:=by rw [← List.drop_take,hRt,List.map_drop]
 have hti:R.take i = (l.take i).map Gra.row:=by rw [List.map_take, ← hRt,List.take_take,Nat.min_eq_left (by omega)]
 have hck : ∀ row,row ∈ (l.drop i).map Gra.row → row.length = 3:=fun row hr=>by obtain ⟨x,_,rfl⟩:=List.mem_map.1 hr;rfl
 have hcl : ∀ row,row ∈ (l.drop i).map Gra.row → row.all jj = true:=fun row hr=>by obtain ⟨x,_,rfl⟩:=List.mem_map.1 hr;rfl
 repeat' (first|refine qg ?_|(first|(refine YQ ?_)|(apply qa;apply ZA;(case hx=>rfl);(case hn=>rfl);(case hT=>rfl);(case he=>rfl);(case hN=>exact nle rfl))|(apply j5;apply Qx;(case hx=>rfl);(case hT=>rfl);(case he=>rfl);(case hE=>rfl);(case hn=>rfl);(case hl=>exact K6);(case hy=>exact qoO);(case hxT=>rfl);(case hxk=>rfl);(case hz=>rfl);(case hs0=>exact qjA);(case hg=>omega);(case hsz=>exact K6);(case hlen=>exact K6);(case hN=>exact nle rfl))|(apply qa;apply YA;exact Tryz.func232;(case hname=>rfl);(case hb=>rfl);(case hnx=>rfl);(case hex=>rfl);(case hT=>rfl);(case he=>rfl);(case hE=>rfl);(case hx=>rfl);(case hy=>rfl);(case hm=>rfl);(case hk=>exact qjA);(case hrw=>exact qoS);(case hN=>exact nle rfl))|(apply zf;apply kF;(case hx=>rfl);(case hT=>rfl);(case he=>rfl);(case hE=>rfl);(case hn=>rfl);(case hsrc=>exact qcU (Xq rfl rfl));(case hmin=>exact qoP);(case hfit=>exact K6);(case hN=>exact nle rfl))|(apply zf;apply kF;(case hx=>rfl);(case hT=>rfl);(case he=>rfl);(case hE=>rfl);(case hn=>rfl);(case hsrc=>exact qoQ);(case hmin=>exact qoL);(case hfit=>exact K6);(case hN=>exact nle rfl)))|(refine xsS ?_ ?_;all_goals first|exact False.elim|intro hp hc)|refine xsA ?_ ?_)
 all_goals try (exfalso;omega)
 ·have hrow:=qkY R (xV 3 (l.length + 1 - i)) ((l.drop i).map Gra.row) g.row (i:=i) (a:=0 + i) (b:=0 + i + 1) (c:=0 + (i + 1)) (d:=0 + (i + 1) + ((l.drop i).map Gra.row).length) (by omega) (by simp;omega) (by omega) (by omega) (by omega) (by omega)
  (exact yp (rs:=[.tmp 6]) [(1,1)] 2 qp9)
 ·have hrow:=qmO R ((l.drop i).map Gra.row) g.row (i:=i) (a:=0 + 0 + (i + 1)) (b:=0 + 0 + (i + 1) + ((l.drop i).map Gra.row).length) (c:=0 + 0 + i) (d:=0 + 0 + i + 1) (m:=l.length + 1) (by omega) (by omega) (by omega) (by omega) (by simp;omega);have hrow:=hrow.trans (show _ = (l.take i ++ ([g] ++ l.drop i)).map Gra.row from by rw [hti];simp);apply Jn (C:=C1) 6 0 (l.length + 1)
  case hi=>rfl
  case hn=>rfl
  case hr=>exact hrow
  case hnn=>exact Nat.ne_of_beq_eq_false rfl
  case hnx=>exact Nat.le_of_ble_eq_true rfl
  (exact yp (rs:=[.tmp 6]) [(1,1)] 2 Va)
def jl (l:List Gra) (f b w:qb) (r:Int):Int :=
 if jx l = 0 then
  if qj f && (qj b && qj w) then
   if qq r 0 3 then
    if decide (jD l f b ≠ 3) && !(decide (b = w) && decide (r = 0)) then 9
    else if decide (r = 0) && decide (jD l f w = 0) then 5 else 0
   else 3
  else 1
 else jx l
theorem wa {l:List Gra} (h:jx l = 0):ql ja l = true:=by
 unfold jx at h;split at h
 ·omega
 ·split at h
  ·split at h
   ·assumption
   ·omega
  ·exact absurd h (by assumption)
section
variable {l:List Gra} {f b w:qb} {r:Int}
theorem qho (h0:jx l = 0) (h:qj f = false ∨ qj b = false ∨ qj w = false):jl l f b w r = 1:=by
 unfold jl;rcases h with h|h|h<;>simp [h0,h]
theorem qdQ (h0:jx l = 0) (h:qj f = true ∧ qj b = true ∧ qj w = true) (hr:¬ (0 ≤ r ∧ r ≤ 3)):jl l f b w r = 3:=by
 have:qq r 0 3 = false:=by simp [qq];omega
 unfold jl;simp [h0,h.1,h.2.1,h.2.2,this]
theorem qk0 (h0:jx l = 0) (h:qj f = true ∧ qj b = true ∧ qj w = true) (hr:0 ≤ r ∧ r ≤ 3) (ho:¬ jD l f b = 3) (hd:¬ b = w ∨ ¬ r = 0):jl l f b w r = 9:=by
 have:qq r 0 3 = true:=by simp [qq];omega
 unfold jl;rcases hd with hd|hd<;>simp [h0,h.1,h.2.1,h.2.2,this,ho,hd]
theorem qhp (h0:jx l = 0) (h:qj f = true ∧ qj b = true ∧ qj w = true) (ho:jD l f b = 3 ∨ (b = w ∧ r = 0)) (hr:r = 0) (hw:jD l f w = 0):jl l f b w r = 5:=by
 subst hr;have:qq 0 0 3 = true:=rfl;unfold jl;rcases ho with ho|ho
 ·simp [h0,h.1,h.2.1,h.2.2,this,ho,hw]
 ·simp [h0,h.2.1,h.2.2,h.1,this,ho.1,hw]
theorem qpo (h0:jx l = 0) (h:qj f = true ∧ qj b = true ∧ qj w = true) (hr:0 ≤ r ∧ r ≤ 3) (ho:jD l f b = 3 ∨ (b = w ∧ r = 0)) (hw:¬ r = 0 ∨ ¬ jD l f w = 0):jl l f b w r = 0:=by
 have hb:qq r 0 3 = true:=by simp [qq];omega
 unfold jl;rcases ho with ho|ho
 ·rcases hw with hw|hw<;>simp [h0,h.1,h.2.1,h.2.2,hb,ho,hw]
 ·obtain ⟨rfl,rfl⟩:=ho;have hw:¬ jD l f b = 0:=hw.elim (fun h=>absurd rfl h) id;simp [h0,h.1,h.2.1,hb,hw]
theorem qfG (h:jl l f b w r = 0):jx l = 0 ∧ (qj f = true ∧ qj b = true ∧ qj w = true) ∧ (0 ≤ r ∧ r ≤ 3) ∧ (jD l f b = 3 ∨ (b = w ∧ r = 0)) ∧ (¬ r = 0 ∨ ¬ jD l f w = 0):=by
 by_cases h0:jx l = 0
 ·by_cases hn:qj f = true ∧ qj b = true ∧ qj w = true
  ·by_cases hr:0 ≤ r ∧ r ≤ 3
   ·by_cases ho:jD l f b = 3 ∨ (b = w ∧ r = 0)
    ·by_cases hw:¬ r = 0 ∨ ¬ jD l f w = 0
     ·exact ⟨h0,hn,hr,ho,hw⟩
     ·have:=qhp h0 hn ho (by omega) (by omega);omega
    ·have:=qk0 (w:=w) h0 hn hr (fun e=>ho (.inl e)) (by
      by_cases e:b = w
      ·exact .inr fun e'=>ho (.inr ⟨e,e'⟩)
      ·exact .inl e)
     omega
   ·have:=qdQ h0 hn hr;omega
  ·have:=qho (r:=r) h0 (f:=f) (b:=b) (w:=w) (by
    cases h1:qj f<;>cases h2:qj b<;>cases h3:qj w<;>simp_all)
   omega
 ·unfold jl at h;rw [if_neg h0] at h;exact absurd h h0
end
theorem qe9 (l:List Gra) (hl:GBig l) (f b w:qb) (r:Int) (hf:f.length ≤ 140737488355328) (hb:b.length ≤ 140737488355328) (hw:w.length ≤ 140737488355328) (he:jl l f b w r ≠ 0) :
  jN C.P 144 [jw l,.v (str f),.v (str b),.v (str w),.v (.int .i64 r)] (.tup [jw [],.v (.int .i64 (jl l f b w r))]):=by
 have hch:=Yt l hl;by_cases h0:jx l = 0
 ·rw [h0] at hch;have hlen:=zr h0;have hri:=wa h0;have hnm:=Vh [f,b,w] (by simp) (by simp;exact ⟨hf,hb,hw⟩);simp only [List.map,List.all_cons,List.all_nil,Bool.and_true] at hnm;have ho1:=qjR l f b (by omega) hri;have ho2:=qjR l f w (by omega) hri;have hof := @qho l f b w r h0;have hor := @qdQ l f b w r h0;have hod := @qk0 l f b w r h0;have hon := @qhp l f b w r h0;have hok := @qpo l f b w r h0;refine qJ 0 ?_
  (repeat apply jW);refine qO ?_;(repeat' (first|apply qF|refine wk ?_|refine we ?_|refine wJ ?_|refine wi ?_|refine YO ?_|refine wj ?_|refine J6 ?_|refine YN ?_|refine wI ?_|(first|fail)|refine xY ?_|refine vA ?_|refine vz ?_|refine xL ?_|refine xK ?_|refine kZ ?_|refine k9 ?_|refine vy ?_|refine vx ?_|((first|refine vl ?_ ?_|refine vk ?_ ?_);all_goals (intro hc;have hp:=hc;first|(simp at hp;done)|((try simp at hp);first|(exfalso;omega)|skip)))));show Awp _ _ _ _ _
  refine Ym 6 0 ?_
  repeat' (first|refine qg ?_|(first|refine jT (hch ..) ?_|refine yS (hnm ..) ?_|(refine jd ?_)|refine jT (ho1 ..) ?_|refine jT (ho2 ..) ?_)|(refine xsS ?_ ?_;all_goals first|exact False.elim|intro hp hc)|refine xsA ?_ ?_)
  all_goals try (exfalso;simp_all;done)
  all_goals first
   | (have h1:jl l f b w r = 1:=hof (by assumption)
      rw [h1]
      (exact kw (rs:=[.tmp 10,.tmp 11])))
   | (have h1:jl l f b w r = 3:=hor (by assumption) (by omega)
      rw [h1]
      (exact kw (rs:=[.tmp 10,.tmp 11])))
   | (have h1:jl l f b w r = 9:=hod (by assumption) (by omega) (by assumption) qp4
      rw [h1]
      (exact kw (rs:=[.tmp 10,.tmp 11])))
   | (have h1:jl l f b w r = 5:=hon (by assumption) qpU (by assumption) (by assumption)
      rw [h1]
      (exact kw (rs:=[.tmp 10,.tmp 11])))
   | (have h1:jl l f b w r = 0:=hok (by assumption) (by omega) qpU qp4
      exact absurd h1 he)
 ·refine qJ 0 ?_
  (repeat apply jW);refine qO ?_;(repeat' (first|apply qF|refine wk ?_|refine we ?_|refine wJ ?_|refine wi ?_|refine YO ?_|refine wj ?_|refine J6 ?_|refine YN ?_|refine wI ?_|(first|fail)|refine xY ?_|refine vA ?_|refine vz ?_|refine xL ?_|refine xK ?_|refine kZ ?_|refine k9 ?_|refine vy ?_|refine vx ?_|((first|refine vl ?_ ?_|refine vk ?_ ?_);all_goals (intro hc;have hp:=hc;first|(simp at hp;done)|((try simp at hp);first|(exfalso;omega)|skip)))));show Awp _ _ _ _ _
  repeat' (first|refine qg ?_|(first|refine jT (hch ..) ?_)|(refine xsS ?_ ?_;all_goals first|exact False.elim|intro hp hc)|refine xsA ?_ ?_)
  all_goals try (exfalso;simp_all;done)
  rw [show jl l f b w r = jx l from by simp [jl,h0]]
  (exact kw (rs:=[.tmp 10,.tmp 11]))
def yh (L:List Gra) (f:qb):Int:=if L.any (wP f) then (if 60 < L.length then 2 else 0) else 4
def QB (L:List Gra) (f:qb):List Gra:=if yh L f = 0 then L else []
theorem qmM {L:List Gra} {f:qb} (h : ∀ x,x ∈ L → wP f x = false):yh L f = 4 ∧ QB L f = []:=by
 have h1:L.any (wP f) = false:=List.any_eq_false.2 fun x hx=>by rw [h x hx];simp
 have h2:yh L f = 4:=by simp [yh,h1]
 exact ⟨h2,by simp [QB,h2]⟩
theorem qoi {L:List Gra} {f:qb} (h : ∃ x,x ∈ L ∧ wP f x = true) (hl:(60:Int) < (L.length:Int)):yh L f = 2 ∧ QB L f = []:=by
 have h1:L.any (wP f) = true:=List.any_eq_true.2 h;have h3:60 < L.length:=by omega
 have h2:yh L f = 2:=by simp [yh,h1,h3]
 exact ⟨h2,by simp [QB,h2]⟩
theorem qmN {L:List Gra} {f:qb} (h : ∃ x,x ∈ L ∧ wP f x = true) (hl:(L.length:Int) ≤ 60):yh L f = 0 ∧ QB L f = L:=by
 have h1:L.any (wP f) = true:=List.any_eq_true.2 h;have h3:¬ 60 < L.length:=by omega
 have h2:yh L f = 0:=by simp [yh,h1,h3]
 exact ⟨h2,by simp [QB,h2]⟩
theorem qh8 (l:List Gra) (hl:GBig l) (f b w:qb) (r:Int) (hf:f.length ≤ 140737488355328) (hb:b.length ≤ 140737488355328) (hw:w.length ≤ 140737488355328) (he:jl l f b w r = 0) (L:List Gra) (hL:L.length ≤ 1000000)
  (hset:qf C.P 170 [jw l,.v (str f),.v (str w),.v (.int .i64 r)] [] (.os 0 0 L.length) [.own false 3 (L.map Gra.row)]) :
  jN C.P 144 [jw l,.v (str f),.v (str b),.v (str w),.v (.int .i64 r)] (.tup [jw (QB L f),.v (.int .i64 (yh L f))]):=by
 have hch:=Yt l hl;obtain ⟨h0,hn,hr,ho,hw0⟩:=qfG he;rw [h0] at hch;have hlen:=zr h0;have hri:=wa h0;have hnm:=Vh [f,b,w] (by simp) (by simp;exact ⟨hf,hb,hw⟩);simp only [List.map,List.all_cons,List.all_nil,Bool.and_true,hn.1,hn.2.1,hn.2.2,Bool.and_self] at hnm;have ho1:=qjR l f b (by omega) hri;have ho2:=qjR l f w (by omega) hri;have hcon:=Ys (wP f) 174 (qr Tryz.func174 rfl rfl) [.fp [[.v (str f)]] 0 0] rfl L hL (fun g _=>qmj g f);refine qJ 0 ?_
 (repeat apply jW);refine qO ?_;(repeat' (first|apply qF|refine wk ?_|refine we ?_|refine wJ ?_|refine wi ?_|refine YO ?_|refine wj ?_|refine J6 ?_|refine YN ?_|refine wI ?_|(first|fail)|refine xY ?_|refine vA ?_|refine vz ?_|refine xL ?_|refine xK ?_|refine kZ ?_|refine k9 ?_|refine vy ?_|refine vx ?_|((first|refine vl ?_ ?_|refine vk ?_ ?_);all_goals (intro hc;have hp:=hc;first|(simp at hp;done)|((try simp at hp);first|(exfalso;omega)|skip)))));show Awp _ _ _ _ _
 refine Ym 6 0 ?_
 repeat' (first|refine qg ?_|(first|refine jT (hch ..) ?_|refine yS (hnm ..) ?_|(refine jd ?_)|refine jT (ho1 ..) ?_|refine jT (ho2 ..) ?_|(refine jP ([]) qi (hset ..) ?_)|(apply qa;apply yJ ([1]);exact qr Tryz.func168 rfl rfl;exact hcon;(case hz=>exact qH (xu rfl (by simp) (js fun _=>rfl)) (qH (zO rfl) jX));(case hfl=>rfl);(case hN=>exact nle rfl)))|(refine xsS ?_ ?_;all_goals first|exact False.elim|intro hp hc)|refine xsA ?_ ?_)
 all_goals try (exfalso;omega)
 all_goals try (exfalso;rcases ho with h|⟨h,_⟩<;>contradiction)
 all_goals first
  | (refine (fun (h:yh L f = 4 ∧ QB L f = [])=>?_) (qmM (L:=L) (f:=f) ?_);rotate_left;assumption
     rw [h.1,h.2]
     (exact kw (rs:=[.tmp 10,.tmp 11])))
  | (refine (fun (h:yh L f = 2 ∧ QB L f = [])=>?_) (qoi (L:=L) (f:=f) ?_ ?_);rotate_left;assumption;assumption
     rw [h.1,h.2]
     (exact kw (rs:=[.tmp 10,.tmp 11])))
  | (refine (fun (h:yh L f = 0 ∧ QB L f = L)=>?_) (qmN (L:=L) (f:=f) ?_ ?_);rotate_left;assumption;assumption
     rw [h.1,h.2]
     (exact kw (rs:=[.tmp 10,.tmp 11])))
def qqG (l:List Gra) (f:qb):List qb:=(l.filter (zb f)).map (·.who)
@[simp] theorem qql (f:qb):qqG [] f = []:=rfl
def xP (l:List Gra) (f w:qb) (r:Int):List Gra :=
 l.take (x8 l ⟨f,w,0⟩) ++ ((if r = 0 then [] else [⟨f,w,r⟩]) ++ l.drop (x8 l ⟨f,w,0⟩ + if zT l ⟨f,w,0⟩ = true then 1 else 0))
theorem xh {k x:Gra}:sameKey k x = true ↔ x.folder = k.folder ∧ x.who = k.who:=by simp [sameKey]
theorem qgE {k x:Gra} (h:ja x k = true):sameKey k x = false:=by
 cases e:sameKey k x
 ·rfl
 ·have:=(Qj (c:=x) (xh.1 e)).1;rw [← this,ZI] at h;cases h
theorem qgD {k x:Gra} (h:ja k x = true):sameKey k x = false:=by
 cases e:sameKey k x
 ·rfl
 ·have:=(Qj (c:=x) (xh.1 e)).2;rw [← this,ZI] at h;cases h
theorem qiL {a b:Gra} (h1:ja a b = false) (h2:sameKey b a = false):ja b a = true:=by
 by_cases h:kG a b = 0
 ·have:=(zF a b).1 h;rw [xh.2 ⟨this.1,this.2⟩] at h2;cases h2
 ·by_cases h' : kG a b < 0
  ·rw [(QC a b).1 h'] at h1;cases h1
  ·exact (qfJ a b).1 (by omega)
theorem kq : ∀ {l:List Gra},ql ja l = true ↔ l.Pairwise (fun a b=>ja a b = true):=by
 intro l;rw [List.pairwise_iff_getElem];constructor
 ·intro h i j hi hj hij;exact Xo h i j hi hj hij
 ·intro h;exact yt.2 fun k hk=>h k (k + 1) (by omega) hk (by omega)
theorem qar (k:Gra) : ∀ {l:List Gra},l.Pairwise (fun a b=>ja a b = true) → ∃ A M Z,l = A ++ (M ++ Z) ∧ x8 l k = A.length ∧ (∀ a,a ∈ A → ja a k = true) ∧ (∀ z,z ∈ Z → ja k z = true) ∧
  ((zT l k = true ∧ ∃ x,M = [x] ∧ sameKey k x = true) ∨ (zT l k = false ∧ M = []))
 | [],_=>⟨[],[],[],rfl,rfl,nofun,nofun,.inr ⟨rfl,rfl⟩⟩
 | x :: l,h=>by
   obtain ⟨h1,h2⟩:=List.pairwise_cons.1 h;by_cases hx:ja x k = true
   ·obtain ⟨A,M,Z,rfl,hp,hA,hZ,hM⟩:=qar k h2
    have hp' : x8 (x :: (A ++ (M ++ Z))) k = A.length + 1:=by
     simp only [x8,List.takeWhile_cons,hx,if_true,List.length_cons] at hp ⊢;omega
    refine ⟨x :: A,M,Z,rfl,hp',fun a ha=>?_,hZ,?_⟩
    ·rcases List.mem_cons.1 ha with rfl|ha
     ·exact hx
     ·exact hA a ha
    ·have:zT (x :: (A ++ (M ++ Z))) k = zT (A ++ (M ++ Z)) k:=by
      unfold zT;rw [hp',hp,List.getElem?_cons_succ]
     rw [this];exact hM
   ·have hx:ja x k = false:=by simpa using hx
    have hp:x8 (x :: l) k = 0:=by simp [x8,List.takeWhile_cons,hx]
    have hh:zT (x :: l) k = decide (kG x k = 0):=by
     unfold zT;rw [hp];rfl
    cases hk:sameKey k x with
    | true =>
      refine ⟨[],[x],l,rfl,hp,nofun,fun z hz=>?_,.inl ⟨?_,x,rfl,hk⟩⟩
      ·rw [← (Qj (c:=z) (xh.1 hk)).2];exact h1 z hz
      ·rw [hh,decide_eq_true_iff,zF];exact xh.1 hk
    | false =>
      have hg:=qiL hx hk;refine ⟨[],[],x :: l,rfl,hp,nofun,fun z hz=>?_,.inr ⟨?_,rfl⟩⟩
      ·rcases List.mem_cons.1 hz with rfl|hz
       ·exact hg
       ·exact Q5 hg (h1 z hz)
      ·rw [hh,decide_eq_false_iff_not,zF];intro e;rw [xh.2 e] at hk;cases hk
theorem Yc {l A M Z:List Gra} {f w:qb} {r:Int} (h:l = A ++ (M ++ Z)) (hp:x8 l ⟨f,w,0⟩ = A.length) (hM:(zT l ⟨f,w,0⟩ = true ∧ ∃ x,M = [x] ∧ sameKey ⟨f,w,0⟩ x = true) ∨ (zT l ⟨f,w,0⟩ = false ∧ M = [])) :
  xP l f w r = A ++ ((if r = 0 then [] else [⟨f,w,r⟩]) ++ Z):=by
 unfold xP;rw [hp];have h1:l.take A.length = A:=by rw [h];simp
 rw [h1]
 rcases hM with ⟨hh,x,rfl,_⟩|⟨hh,rfl⟩
 ·simp only [hh,if_true];rw [h];simp
 ·simp only [hh,Bool.false_eq_true,if_false];rw [h];simp
theorem qeQ {l:List Gra} {f w:qb} {r:Int} (hs:ql ja l = true):ql ja (xP l f w r) = true:=by
 have hl:=kq.1 hs;obtain ⟨A,M,Z,h,hp,hA,hZ,hM⟩:=qar ⟨f,w,0⟩ hl;rw [Yc h hp hM];refine kq.2 ?_
 have hsub:(A ++ Z).Sublist l:=by
  rw [h];exact List.Sublist.append_left (List.sublist_append_right _ _) _
 have hAZ:=List.Pairwise.sublist hsub hl;rw [List.pairwise_append] at hAZ;have hkey : ∀ c,ja c ⟨f,w,r⟩ = ja c ⟨f,w,0⟩ ∧ ja ⟨f,w,r⟩ c = ja ⟨f,w,0⟩ c:=fun c=>Qj ⟨rfl,rfl⟩
 by_cases h0:r = 0
 ·simp only [h0,if_true,List.nil_append];rw [List.pairwise_append];exact hAZ
 ·simp only [h0,if_false];rw [List.pairwise_append];refine ⟨hAZ.1,?_,fun a ha b hb=>?_⟩
  ·rw [List.cons_append,List.nil_append,List.pairwise_cons];exact ⟨fun z hz=>by rw [(hkey z).2];exact hZ z hz,hAZ.2.1⟩
  ·rw [List.cons_append,List.nil_append,List.mem_cons] at hb;rcases hb with rfl|hb
   ·rw [(hkey a).1];exact hA a ha
   ·exact hAZ.2.2 a ha b hb
theorem qgx (A B:List Gra) (f w:qb) (hA : ∀ a,a ∈ A → sameKey ⟨f,w,0⟩ a = false):jD (A ++ B) f w = jD B f w:=by
 have:A.find? (sameKey ⟨f,w,0⟩) = none:=List.find?_eq_none.2 fun a ha=>by rw [hA a ha];simp
 unfold jD;rw [List.find?_append,this,Option.none_or]
theorem qeE {A:List Gra} {f w:qb} (hA : ∀ a,a ∈ A → sameKey ⟨f,w,0⟩ a = false):jD A f w = 0:=by
 have:A.find? (sameKey ⟨f,w,0⟩) = none:=List.find?_eq_none.2 fun a ha=>by rw [hA a ha];simp
 unfold jD;rw [this]
theorem qgz {l:List Gra} {f w:qb} {r:Int} (hs:ql ja l = true):jD (xP l f w r) f w = r:=by
 obtain ⟨A,M,Z,h,hp,hA,hZ,hM⟩:=qar ⟨f,w,0⟩ (kq.1 hs);rw [Yc h hp hM,qgx _ _ _ _ fun a ha=>qgE (hA a ha)];by_cases h0:r = 0
 ·simp only [h0,if_true,List.nil_append];exact qeE fun z hz=>qgD (hZ z hz)
 ·simp [h0,jD,sameKey]
theorem Y0 {l:List Gra} {f w:qb} {r:Int} (hs:ql ja l = true) {x:Gra} (hx:x ∈ xP l f w r):x ∈ l ∨ (r ≠ 0 ∧ x = ⟨f,w,r⟩):=by
 obtain ⟨A,M,Z,h,hp,hA,hZ,hM⟩:=qar ⟨f,w,0⟩ (kq.1 hs);rw [Yc h hp hM] at hx;rw [h];by_cases h0:r = 0
 ·simp only [h0,if_true,List.nil_append,List.mem_append] at hx ⊢;rcases hx with hx|hx
  ·exact .inl (.inl hx)
  ·exact .inl (.inr (.inr hx))
 ·simp only [h0,if_false,List.mem_append,List.mem_singleton,List.mem_cons,List.not_mem_nil,or_false] at hx ⊢;rcases hx with hx|hx|hx
  ·exact .inl (.inl hx)
  ·exact .inr ⟨h0,hx⟩
  ·exact .inl (.inr (.inr hx))
theorem qea {l:List Gra} {f w:qb} {r:Int} (hs:ql ja l = true) {x:Gra} (hx:x ∈ l) (hk:sameKey ⟨f,w,0⟩ x = false):x ∈ xP l f w r:=by
 obtain ⟨A,M,Z,h,hp,hA,hZ,hM⟩:=qar ⟨f,w,0⟩ (kq.1 hs);rw [Yc h hp hM];rw [h] at hx;simp only [List.mem_append] at hx ⊢;rcases hx with hx|hx|hx
 ·exact .inl hx
 ·rcases hM with ⟨_,y,rfl,hy⟩|⟨_,rfl⟩
  ·rw [List.mem_singleton.1 hx,hy] at hk;cases hk
  ·cases hx
 ·exact .inr (.inr hx)
theorem ZY {f:qb} {x:Gra}:wP f x = true ↔ x.folder = f ∧ x.right = 3:=by simp [wP]
theorem qgH {l:List Gra} {f w:qb} {r:Int} (hs:ql ja l = true) (ho:YR l = true) (hf:(xP l f w r).any (wP f) = true):YR (xP l f w r) = true:=by
 refine List.all_eq_true.2 fun x hx=>?_
 by_cases e:x.folder = f
 ·obtain ⟨y,hy,h1⟩:=List.any_eq_true.1 hf;have h1:=ZY.1 h1;exact List.any_eq_true.2 ⟨y,hy,by simp [h1.1,h1.2,e]⟩
 ·rcases Y0 hs hx with h|⟨_,rfl⟩
  ·obtain ⟨y,hy,h1⟩:=List.any_eq_true.1 (List.all_eq_true.1 ho x h);simp only [Bool.and_eq_true,decide_eq_true_eq] at h1
   have hk:sameKey ⟨f,w,0⟩ y = false:=by
    cases e' : sameKey ⟨f,w,0⟩ y
    ·rfl
    ·exact absurd (h1.1.symm.trans (xh.1 e').1) e
   exact List.any_eq_true.2 ⟨y,qea hs hy hk,by simp [h1.1,h1.2]⟩
  ·exact absurd rfl e
theorem qan {l:List Gra} {f w:qb} {r:Int}:(xP l f w r).length ≤ l.length + 1:=by
 unfold xP;have:=qhJ l ⟨f,w,0⟩;by_cases h0:r = 0
 ·simp [h0];omega
 ·simp [h0];omega
theorem xo {l:List Gra} (h:jx l = 0):l.length ≤ 60 ∧ (∀ x,x ∈ l → vX x = 0) ∧ ql ja l = true ∧ YR l = true:=by
 unfold jx at h;split at h
 ·omega
 ·rename_i h60;split at h
  ·rename_i h1;split at h
   ·split at h
    ·exact ⟨by omega,jA.1 h1,by assumption,by assumption⟩
    ·omega
   ·omega
  ·exact absurd h (by assumption)
theorem qiK {l:List Gra} (h1:l.length ≤ 60) (h2 : ∀ x,x ∈ l → vX x = 0) (h3:ql ja l = true) (h4:YR l = true):jx l = 0:=by
 unfold jx;rw [if_neg (by omega),if_pos (jA.2 h2),if_pos h3,if_pos h4]
theorem WM {l:List Gra} {f w:qb} {r:Int} (h:jx l = 0) (hf:qj f = true) (hw:qj w = true) (hr:0 ≤ r ∧ r ≤ 3) (ho:(xP l f w r).any (wP f) = true) (hlen:(xP l f w r).length ≤ 60):jx (xP l f w r) = 0:=by
 obtain ⟨h1,h2,h3,h4⟩:=xo h;refine qiK hlen (fun x hx=>?_) (qeQ h3) (qgH h3 h4 ho)
 rcases Y0 h3 hx with h|⟨h0,rfl⟩
 ·exact h2 x h
 ·exact qbw ⟨hf,hw⟩ ⟨by show 1 ≤ r;omega,hr.2⟩
theorem qeP {l:List Gra} {f w:qb} {r:Int} (hl:GBig l) (hs:ql ja l = true) (hlen:l.length ≤ 1000000) (hf:f.length ≤ 140737488355328) (hw:w.length ≤ 140737488355328):GBig (xP l f w r):=by
 refine ⟨fun x hx=>?_,by have:=qan (l:=l) (f:=f) (w:=w) (r:=r);omega⟩
 rcases Y0 hs hx with h|⟨_,rfl⟩
 ·exact hl.each x h
 ·exact ⟨hf,hw⟩
theorem qiD {α:Type} (rs:List α) (i n:Nat) (hi:i < n) (hn:n ≤ rs.length) (z:α) :
  ((rs.take i ++ (rs.drop (i + 1)).take (n - (i + 1)) ++ rs.drop (i + (n - (i + 1)))).take (i + (n - (i + 1))) ++ List.replicate (n - (i + (n - (i + 1)))) z ++ (rs.take i ++ (rs.drop (i + 1)).take (n - (i + 1)) ++ rs.drop (i + (n - (i + 1)))).drop (i + (n - (i + 1)) + (n - (i + (n - (i + 1)))))).take (n - 1) =
    rs.take i ++ (rs.drop (i + 1)).take (n - (i + 1)):=by
 rw [List.append_assoc,List.take_append_of_le_length (by simp;omega),List.take_take,show min (n - 1) (i + (n - (i + 1))) = n - 1 from by omega,List.take_append_of_le_length (by simp;omega),List.take_of_length_le (by simp;omega)]
theorem qh6 (l:List Gra) (i:Nat) (hi:i < l.length) (hl:l.length ≤ 1000000) :
  qf C1.P 210 [.os 0 0 l.length,.v (.int .i64 (i:Int)),.v (.int .i64 ((i + 1:Nat):Int))] [.own false 3 (l.map Gra.row)] (.os 0 0 (l.length - 1)) [.own false 3 ((l.take i ++ l.drop (i + 1)).map Gra.row)]:=by
 have hrc:(l.map Gra.row).all (fun row=>row.length == 3 && row.all jj) = true:=kU fun _=>rfl
 have hml:(l.map Gra.row).length = l.length:=List.length_map ..;refine qJ (C:=C1) 1 ?_
 repeat' (first|refine qg ?_|(first|(refine qlh ?_)|(refine YQ ?_)|(refine qhB ?_)|(apply zf;apply Vx;(case hx=>rfl);(case hT=>rfl);(case he=>rfl);(case hE=>rfl);(case hn=>rfl);(case hsrc=>apply K3;rfl;rfl;(show 0 + (i + 1) + (l.length - (i + 1)) ≤ (l.map Gra.row).length;omega);rfl;exact hrc);(case hfit=>exact K6);(case hN=>exact nle rfl)))|(refine xsS ?_ ?_;all_goals first|exact False.elim|intro hp hc)|refine xsA ?_ ?_)
 all_goals try (exfalso;omega)
 have hL:(List.take (l.length - (i + 1)) (List.drop (i + 1) (l.map Gra.row))).length = l.length - (i + 1):=by simp
 apply qhn (C:=C1) 0 (l.length - 1)
 case hn=>rfl
 case hr =>
  simp only [Nat.zero_add,Nat.sub_zero,hL];refine (qiD (l.map Gra.row) i l.length hi (by omega) _).trans (?_:_ = (l.take i ++ l.drop (i + 1)).map Gra.row);rw [List.map_append,List.map_take,List.map_drop,List.take_of_length_le (l:=List.drop (i + 1) (l.map Gra.row)) (by simp)]
 (exact yp (rs:=[.tmp 6]) [] 1 qav)
theorem qhs {l:List Gra} {k:Gra} (h:zT l k = true):x8 l k < l.length:=by
 unfold zT at h;split at h
 ·rename_i x hx;exact (List.getElem?_eq_some_iff.1 hx).1
 ·cases h
theorem qnK (l:List Gra) (f w:qb) (r:Int) (hl:l.length ≤ 1000000) (hs:ql ja l = true) (hr:r = 0 → zT l ⟨f,w,0⟩ = true) :
  qf C.P 170 [jw l,.v (str f),.v (str w),.v (.int .i64 r)] [] (.os 0 0 (xP l f w r).length) [.own false 3 ((xP l f w r).map Gra.row)]:=by
 have hfi:=qfE l f w hl hs;by_cases h0:r = 0
 ·have hh:=hr h0;have hp:=qhs hh;have hL:xP l f w r = l.take (x8 l ⟨f,w,0⟩) ++ l.drop (x8 l ⟨f,w,0⟩ + 1):=by simp [xP,h0,hh]
  rw [hh] at hfi;have hdel:=qh6 l (x8 l ⟨f,w,0⟩) hp hl;generalize xP l f w r = L at hL ⊢;generalize x8 l ⟨f,w,0⟩ = p at hL hp hfi hdel;have hlen:L.length = l.length - 1:=by rw [hL];simp;omega
  subst h0;refine qJ 0 ?_
  repeat' (first|refine qg ?_|(first|(refine jP ([]) qi (Yr l hl ..) ?_)|refine xsE [0] (hfi ..) ?_|(refine Q8 ([0]) 0 qi (hdel ..) ?_))|(refine xsS ?_ ?_;all_goals first|exact False.elim|intro hp hc)|refine xsA ?_ ?_)
  all_goals try (exfalso;omega)
  (exact yp (rs:=[.tmp 8]) [(0,0)] 1 qqj)
 ·cases hh:zT l ⟨f,w,0⟩ with
  | true =>
    have hp:=qhs hh;have hL:xP l f w r = l.take (x8 l ⟨f,w,0⟩) ++ ([⟨f,w,r⟩] ++ l.drop (x8 l ⟨f,w,0⟩ + 1)):=by simp [xP,h0,hh]
    have hx:l[x8 l ⟨f,w,0⟩].folder = f ∧ l[x8 l ⟨f,w,0⟩].who = w:=by
     unfold zT at hh;rw [List.getElem?_eq_getElem hp] at hh;simpa [zF] using hh
    rw [hh] at hfi;generalize xP l f w r = L at hL ⊢;generalize x8 l ⟨f,w,0⟩ = p at hL hp hfi hx;have hlen:L.length = l.length:=by rw [hL];simp;omega
    have hrow:=qK (f:=Gra.row) hp;refine qJ 0 ?_
    repeat' (first|refine qg ?_|(first|(refine jP ([]) qi (Yr l hl ..) ?_)|refine xsE [0] (hfi ..) ?_|(refine vq ?_))|(refine xsS ?_ ?_;all_goals first|exact False.elim|intro hp hc)|refine xsA ?_ ?_)
    all_goals try (exfalso;omega)
    (exact yp (rs:=[.tmp 8]) [(0,0)] 1 (by (repeat (first|exact qn|refine J8 ?_|refine vH ?_ ?_));all_goals (show (l.map Gra.row).set p (Gra.row ⟨l[p].folder,l[p].who,r⟩) = L.map Gra.row;rw [hx.1,hx.2, ← List.map_set,hL,List.set_eq_take_append_cons_drop,if_pos (by assumption)];rfl)))
  | false =>
    by_cases hp:x8 l ⟨f,w,0⟩ = l.length
    ·have hL:xP l f w r = l ++ [⟨f,w,r⟩]:=by simp [xP,h0,hh,hp]
     rw [hL,List.length_append];exact qjW l f w r hl hs h0 hh hp
    ·have hpl:x8 l ⟨f,w,0⟩ < l.length:=by have:=qhJ l ⟨f,w,0⟩;omega
     have hL:xP l f w r = l.take (x8 l ⟨f,w,0⟩) ++ ([⟨f,w,r⟩] ++ l.drop (x8 l ⟨f,w,0⟩)):=by simp [xP,h0,hh]
     rw [hh] at hfi;have hin:=qfF l ⟨f,w,r⟩ (x8 l ⟨f,w,0⟩) hpl hl;generalize xP l f w r = L at hL ⊢;generalize x8 l ⟨f,w,0⟩ = p at hL hpl hfi hin;have hlen:L.length = l.length + 1:=by rw [hL];simp;omega
     refine qJ 0 ?_
     repeat' (first|refine qg ?_|(first|(refine jP ([]) qi (Yr l hl ..) ?_)|refine xsE [0] (hfi ..) ?_|(refine jd ?_)|(refine zn ([0]) 0 qi (hin ..) ?_))|(refine xsS ?_ ?_;all_goals first|exact False.elim|intro hp hc)|refine xsA ?_ ?_)
     all_goals try (exfalso;omega)
     (exact yp (rs:=[.tmp 8]) [(1,0)] 1 qqj)
end Go.Proofs.YtgcncinnlmjgdaaGreatDoor
