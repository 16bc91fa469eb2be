import Derived.Test.YtamejbkifpjhiaaGreatDoorMz8
import Derived.Test.YtamejbkifpjhiaaGreatDoorMz7
set_option linter.unusedSimpArgs false
set_option linter.unnecessarySimpa false
set_option maxHeartbeats 1000000
namespace Go.Proofs.YtamejbkifpjhiaaGreatDoor
open Go.Ab Go.RowKit
set_option maxRecDepth 10000
attribute [local irreducible] Awp yH jH jw Red ja Go.Ab.Fin qZ Rz vn jr jp ResOk j3 jC yC jA
theorem XY (l:List qP) (i:Nat):(yV (l.take i)).length ≤ (yV l).length:=by
 by_cases h1:l.take i = []
 ·rw [h1];simp [yV]
 ·by_cases h2:l.drop i = []
  ·have:=List.take_append_drop i l
   rw [h2,List.append_nil] at this
   rw [this];exact Nat.le_refl _
  ·have h3:=QE h1 h2
   rw [List.take_append_drop] at h3
   rw [h3];simp
theorem qa4 {l:List qP} {i:Nat} (h:i < l.length):l[i].length ≤ (yV l).length:=by
 have h1:=XY l (i + 1)
 by_cases h0:i = 0
 ·subst h0
  rw [YS h] at h1;exact h1
 ·rw [XX h (by omega)] at h1
  simp at h1;omega
theorem Vm (l:List qP) (hl:l.length ≤ 8000000000) (hp:(yV l).length ≤ 8000000000):xH C.P 78 [.sl false (l.map qO)] (.v (str (yV l))):=by
 refine qc Tryz.func78 rfl _ Tryz.ntmps78 (Nat.le_of_ble_eq_true rfl) _ Tryz.results78 0 rfl rfl ?_
 repeat' (first|refine qn ?_|fail|((first|refine xsC ?_ ?_);all_goals (intro hc;have hp:=hc;try simp at hp;try (exfalso;omega)))|refine qX ?_ ?_)
 (refine Awp.red (qI (ts:=[(0,.sl false (l.map qO)),(3,.v (str (yV (l.take 0)))),(4,.v (.int .i64 ((0:Nat):Int)))]) ?_) ?_;((repeat (first|exact qg|refine qo ?_|refine qY ?_ ?_))))
 refine qV (fun n σ => ∃ i:Nat,i ≤ l.length ∧ n = l.length - i ∧ (True) ∧ σ = ⟨[(0,.sl false (l.map qO)),(3,.v (str (yV (l.take i)))),(4,.v (.int .i64 (i:Int)))],[],C.nh⟩) l.length ⟨0,Nat.zero_le _,rfl,trivial,rfl⟩ ?_
 rintro n σ ⟨i,hi,rfl, -,rfl⟩
 by_cases hlt:i < l.length
 ·have hr:=jB (f:=qO) hlt
  have hb1:=XY l i
  have hb2:=qa4 hlt
  have hs0 := @XX l i hlt
  have hf0 := @YS l (by omega)
  repeat' (first|refine qn ?_|(first|(apply qi;apply vV;rfl;rfl;(simp only [List.length_append,List.length_cons,List.length_nil];omega);exact nle rfl))|((first|refine xsC ?_ ?_);all_goals (intro hc;have hp:=hc;try simp at hp;try (exfalso;omega)))|refine qX ?_ ?_)
  all_goals try (exfalso;omega)
  ·refine ⟨l.length - (i + 1),_,by omega,qI (ts:=[(0,.sl false (l.map qO)),(3,.v (str (yV (l.take (i + 1))))),(4,.v (.int .i64 ((i + 1:Nat):Int)))]) ?_,i + 1,by omega,rfl,trivial,rfl⟩;((repeat (first|exact qg|refine qo ?_|refine qY ?_ ?_));all_goals (rw [hs0 (by omega)]))
  ·have h0:i = 0:=by omega
   have hf1:yV (l.take (i + 1)) = l[i]:=by subst h0;exact hf0
   refine ⟨l.length - (i + 1),_,by omega,qI (ts:=[(0,.sl false (l.map qO)),(3,.v (str (yV (l.take (i + 1))))),(4,.v (.int .i64 ((i + 1:Nat):Int)))]) ?_,i + 1,by omega,rfl,trivial,rfl⟩;((repeat (first|exact qg|refine qo ?_|refine qY ?_ ?_));all_goals (rw [hf1];subst h0;rfl))
 obtain rfl:i = l.length:=by omega
 rw [List.take_length]
 repeat' (first|refine qn ?_|fail|((first|refine xsC ?_ ?_);all_goals (intro hc;have hp:=hc;try simp at hp;try (exfalso;omega)))|refine qX ?_ ?_)
 all_goals try (exfalso;omega)
 (exact zO (rs:=[.tmp 2]))
theorem Xs (p:qP):0 < (qu p).length:=List.length_pos_iff.2 (xB p)
theorem yS (p:qP) (hp:p.length ≤ 4000000000):xH C.P 73 [.v (str p)] (.v (str (qJ p))):=by
 have hn:=zd p hp
 have hm:=xV p
 have hpos:=Xs p
 obtain ⟨h1,h2⟩:=vN p
 have hpl:(qJ p).length ≤ p.length:=by simp [qJ];omega
 have hpo:=Vm (qu p).dropLast (by rw [List.length_dropLast];omega) (by rw [h2];omega)
 rw [h2,List.dropLast_eq_take,List.map_take] at hpo
 have hrk : ∀ row,row ∈ (qu p).map qO → row.length = 1:=fun row hr=>by obtain ⟨x,_,rfl⟩:=List.mem_map.1 hr;rfl
 generalize qu p = L at hn hm hpos hpo hrk
 have hml:(L.map qO).length = L.length:=List.length_map ..
 refine qc Tryz.func73 rfl _ Tryz.ntmps73 (Nat.le_of_ble_eq_true rfl) _ Tryz.results73 0 rfl rfl ?_
 repeat' (first|refine qn ?_|(first|refine j1 Tryz.func79 (hn ..) ?_|(apply qi;apply xZ (ex':=false) (a:=0) (b:=L.length - 1) (m:=0);(case hx=>rfl);(case hT=>rfl);(case he=>rfl);(case hE=>rfl);(case ha=>rfl);(case hb=>exact ⟨_,x5 (by omega)⟩);(case hm=>trivial);(case hab=>(first|omega|(simp;done)|(simp only [List.length_cons,List.length_nil,List.length_map];omega)|(simp;omega)));(case hbl=>(first|omega|(simp;done)|(simp only [List.length_cons,List.length_nil,List.length_map];omega)|(simp;omega)));(case hrk=>exact hrk);(case hex=>exact nofun);(case hN=>exact nle rfl))|refine j1 Tryz.func78 (hpo ..) ?_)|((first|refine xsC ?_ ?_);all_goals (intro hc;have hp:=hc;try simp at hp;try (exfalso;omega)))|refine qX ?_ ?_)
 (exact zO (rs:=[.tmp 2]))
theorem qdo (p:qP) (hp:p.length ≤ 4000000000):xH C.P 127 [.v (str p)] (.v (str (jb p))):=by
 have hn:=zd p hp
 have hm:=xV p
 have hpos:=Xs p
 obtain ⟨h1,h2⟩:=vN p
 have hlast : ∀ h:(qu p).length - 1 < (qu p).length,(qu p)[(qu p).length - 1] = jb p:=fun h=>by
  have h3:(qu p)[(qu p).length - 1]? = some (jb p):=by
   generalize (qu p).dropLast = X at h1
   rw [h1];simp
  rw [List.getElem?_eq_getElem h] at h3
  exact Option.some.inj h3
 generalize qu p = L at hn hm hpos hlast
 have hlt:L.length - 1 < L.length:=by omega
 have hr:=jB (f:=qO) hlt
 rw [hlast hlt] at hr
 have hml:(L.map qO).length = L.length:=List.length_map ..
 refine qc Tryz.func127 rfl _ Tryz.ntmps127 (Nat.le_of_ble_eq_true rfl) _ Tryz.results127 0 rfl rfl ?_
 repeat' (first|refine qn ?_|(first|refine j1 Tryz.func79 (hn ..) ?_|(apply qi;apply v7 (i:=L.length - 1);(case hx=>rfl);(case hy=>exact x5 (by omega));(case hT=>rfl);(case he=>rfl);(case hE=>rfl);(case hr=>exact hr);(case hk=>rfl);(case hN=>exact nle rfl)))|((first|refine xsC ?_ ?_);all_goals (intro hc;have hp:=hc;try simp at hp;try (exfalso;omega)))|refine qX ?_ ?_)
 (exact zO (rs:=[.tmp 2]))
theorem qca (p n:qP) (hp:p.length ≤ 140737488355328) (hn:n.length ≤ 1407374883553280):xH C.P 128 [.v (str p),.v (str n)] (.v (str (zK p n))):=by
 refine qc Tryz.func128 rfl _ Tryz.ntmps128 (Nat.le_of_ble_eq_true rfl) _ Tryz.results128 0 rfl rfl ?_
 repeat' (first|refine qn ?_|fail|((first|refine xsC ?_ ?_);all_goals (intro hc;have hp:=hc;try simp at hp;try (exfalso;omega)))|refine qX ?_ ?_)
 · (refine xa (rs:=[.tmp 4]) ?_;(repeat' (first|exact q5|apply qA|exact q4 rfl|exact yE|exact zz|apply jX|apply y5|apply jO|apply y3|apply yz|apply y4|refine zr ?_|apply x8));all_goals (simp_all [zK]))
 · (refine xa (rs:=[.tmp 4]) ?_;(repeat' (first|exact q5|apply qA|exact q4 rfl|exact yE|exact zz|apply jX|apply y5|apply jO|apply y3|apply yz|apply y4|refine zr ?_|apply x8));all_goals (simp_all [zK]))
theorem vB (p q:qP) (hp:p.length ≤ 4000000000) (hq:q.length ≤ 4000000000):xH C.P 76 [.v (str p),.v (str q)] (.v (.bool (inB p q))):=by
 have h1:=zd p hp
 have h2:=zd q hq
 have m1:=xV p
 have m2:=xV q
 rw [Ve]
 generalize qu p = A at h1 m1 ⊢
 generalize qu q = B at h2 m2 ⊢
 refine qc Tryz.func76 rfl _ Tryz.ntmps76 (Nat.le_of_ble_eq_true rfl) _ Tryz.results76 0 rfl rfl ?_
 repeat' (first|refine qn ?_|(first|refine j1 Tryz.func79 (h1 ..) ?_|refine j1 Tryz.func79 (h2 ..) ?_)|((first|refine xsC ?_ ?_);all_goals (intro hc;have hp:=hc;try simp at hp;try (exfalso;omega)))|refine qX ?_ ?_)
 ·apply j6
  rfl
  rw [qa8 (by simp at *;omega)]
 have hle:B.length ≤ A.length:=by simp at *;omega
 (refine Awp.red (qI (ts:=[(5,.sl false (A.map qO)),(6,.sl false (B.map qO)),(7,.v (.int .i64 ((0:Nat):Int)))]) ?_) ?_;((repeat (first|exact qg|refine qo ?_|refine qY ?_ ?_))))
 refine qV (fun n σ => ∃ i:Nat,i ≤ B.length ∧ n = B.length - i ∧ (∀ k (h1:k < B.length) (h2:k < A.length),k < i → A[k] = B[k]) ∧ σ = ⟨[(5,.sl false (A.map qO)),(6,.sl false (B.map qO)),(7,.v (.int .i64 (i:Int)))],[],C.nh⟩) B.length ⟨0,Nat.zero_le _,rfl,(fun k _ _ h=>absurd h (Nat.not_lt_zero _)),rfl⟩ ?_
 rintro n σ ⟨i,hi,rfl,hsofar,rfl⟩
 by_cases hlt:i < B.length
 ·have hr:=jB (f:=qO) hlt
  have hr':=jB (f:=qO) (l:=A) (i:=i) (by omega)
  repeat' (first|refine qn ?_|fail|((first|refine xsC ?_ ?_);all_goals (intro hc;have hp:=hc;try simp at hp;try (exfalso;omega)))|refine qX ?_ ?_)
  all_goals try (exfalso;omega)
  ·apply j6
   rfl
   rw [qa7 hle hlt (by assumption)]
  ·refine ⟨B.length - (i + 1),_,by omega,qI (ts:=[(5,.sl false (A.map qO)),(6,.sl false (B.map qO)),(7,.v (.int .i64 ((i + 1:Nat):Int)))]) ?_,i + 1,by omega,rfl,(fun k h1 h2 hk=>by
    by_cases e:k = i
    ·subst e;assumption
    ·exact hsofar k h1 h2 (by omega)),rfl⟩;((repeat (first|exact qg|refine qo ?_|refine qY ?_ ?_)))
 obtain rfl:i = B.length:=by omega
 repeat' (first|refine qn ?_|fail|((first|refine xsC ?_ ?_);all_goals (intro hc;have hp:=hc;try simp at hp;try (exfalso;omega)))|refine qX ?_ ?_)
 all_goals try (exfalso;omega)
 apply j6
 rfl
 rw [qa6 hle fun k hk=>hsofar k hk (by omega) hk]
end Go.Proofs.YtamejbkifpjhiaaGreatDoor
set_option linter.unusedSimpArgs false
set_option linter.unnecessarySimpa false
set_option maxHeartbeats 1000000
namespace Go.Proofs.YtamejbkifpjhiaaGreatDoor
open Go.Ab Go.RowKit
set_option maxRecDepth 10000
attribute [local irreducible] Awp yH jH jw Red ja Go.Ab.Fin qZ Rz vn jr jp ResOk j3 jC yC jA
theorem qeP (s:qP):xH C.P 176 [.v (str s)] (.v (.bool false)):=by
 refine qc Tryz.func176 rfl _ Tryz.ntmps176 (Nat.le_of_ble_eq_true rfl) _ Tryz.results176 0 rfl rfl ?_
 repeat' (first|refine qn ?_|fail|((first|refine xsC ?_ ?_);all_goals (intro hc;have hp:=hc;try simp at hp;try (exfalso;omega)))|refine qX ?_ ?_)
 all_goals (apply j6;rfl;simp)
theorem qb7 (a b:qP):xH C.P 152 [.v (str a),.v (str b)] (.v (.int .i64 (wS a b))):=by
 refine qc Tryz.func152 rfl _ Tryz.ntmps152 (Nat.le_of_ble_eq_true rfl) _ Tryz.results152 0 rfl rfl ?_
 repeat' (first|refine qn ?_|(first|refine jv Tryz.func176 (qeP ..) ?_)|((first|refine xsC ?_ ?_);all_goals (intro hc;have hp:=hc;try simp at hp;try (exfalso;omega)))|refine qX ?_ ?_)
 all_goals (apply jY;rfl;simp_all [wS])
theorem Yh (n:Int):xH C.P 61 [.v (.int .i64 n)] (.v (.bool (vj n))):=by
 refine qc Tryz.func61 rfl _ Tryz.ntmps61 (Nat.le_of_ble_eq_true rfl) _ Tryz.results61 0 rfl rfl ?_
 repeat' (first|refine qn ?_|fail|((first|refine qf ?_ ?_|refine qe ?_ ?_|refine xsC ?_ ?_);all_goals (intro hc;have hp:=hc;try simp at hp;try (exfalso;omega)))|refine qX ?_ ?_)
 all_goals (apply j6;rfl;simp_all [vj];try (intro _;omega))
theorem qdl (n:Int):xH C.P 71 [.v (.int .i64 n)] (.v (.bool (vj n))):=by
 refine qc Tryz.func71 rfl _ Tryz.ntmps71 (Nat.le_of_ble_eq_true rfl) _ Tryz.results71 0 rfl rfl ?_
 repeat' (first|refine qn ?_|fail|((first|refine qf ?_ ?_|refine qe ?_ ?_|refine xsC ?_ ?_);all_goals (intro hc;have hp:=hc;try simp at hp;try (exfalso;omega)))|refine qX ?_ ?_)
 all_goals (apply j6;rfl;simp_all [vj];try (intro _;omega))
theorem Z6 (e:Ent) (he:e.small):xH C.P 138 [.agg e.row] (.v (.int .i64 (y9 e))):=by
 have h1:=he.1
 have h2:=he.2
 have hp:=Vn e.path (by omega)
 have hv:=Yh e.ver
 have hE:y9 e = if qH e.path = 0 then (if e.fold = true ∧ ¬ e.text = [] then 1 else if 300 < e.text.length then 2 else if vj e.ver = true then 0 else 3) else qH e.path:=rfl
 generalize y9 e = E at *
 generalize vj e.ver = V at *
 generalize qH e.path = F at *
 refine qc Tryz.func138 rfl _ Tryz.ntmps138 (Nat.le_of_ble_eq_true rfl) _ Tryz.results138 0 rfl rfl ?_
 repeat' (first|refine qn ?_|(first|refine jv Tryz.func140 (hp ..) ?_|refine jv Tryz.func61 (hv ..) ?_)|((first|refine qf ?_ ?_|refine qe ?_ ?_|refine xsC ?_ ?_);all_goals (intro hc;have hp:=hc;try simp at hp;try (exfalso;omega)))|refine qX ?_ ?_)
 all_goals try (exfalso;omega)
 all_goals (apply jY;rfl;rw [hE];simp_all;try omega)
theorem qdf (e:Ent) (p:qP):xH C.P 151 [.agg e.row,.v (str p)] (.v (.int .i64 (wS e.path p))):=by
 refine qc Tryz.func151 rfl _ Tryz.ntmps151 (Nat.le_of_ble_eq_true rfl) _ Tryz.results151 0 rfl rfl ?_
 repeat' (first|refine qn ?_|(first|refine jv Tryz.func152 (qb7 ..) ?_)|((first|refine xsC ?_ ?_);all_goals (intro hc;have hp:=hc;try simp at hp;try (exfalso;omega)))|refine qX ?_ ?_)
 all_goals (apply jY;rfl;rfl)
theorem qcg (l:List Ent) (p:qP) (hl:l.length ≤ 1000000000) (hs:qU jf l = true) :
  xH C.P 150 [qa l,.v (str p),.clo (.func 151) [] []] (.tup [.v (.int .i64 (xg l p)),.v (.bool (j0 l p))]):=by
 refine qc Tryz.func150 rfl _ Tryz.ntmps150 (Nat.le_of_ble_eq_true rfl) _ Tryz.results150 0 rfl rfl ?_
 repeat' (first|refine qn ?_|fail|((first|refine qf ?_ ?_|refine qe ?_ ?_|refine xsC ?_ ?_);all_goals (intro hc;have hp:=hc;try simp at hp;try (exfalso;omega)))|refine qX ?_ ?_)
 (refine Awp.red (qI (ts:=[(0,qa l),(1,.v (str p)),(2,.clo (.func 151) [] []),(8,.v (.int .i64 l.length)),(9,.v (.int .i64 ((0:Nat):Int))),(10,.v (.int .i64 l.length))]) ?_) ?_;((repeat (first|exact qg|refine qo ?_|refine qY ?_ ?_))))
 all_goals try (rw [List.length_map];done)
 refine qV (fun n σ => ∃ lo hi:Nat,lo ≤ hi ∧ hi ≤ l.length ∧ n = hi - lo ∧ (∀ (k:Nat) (h:k < l.length),k < lo → Op.bytesLess l[k].path p = true) ∧ (∀ (k:Nat) (h:k < l.length),hi ≤ k → Op.bytesLess l[k].path p = false) ∧ σ = ⟨[(0,qa l),(1,.v (str p)),(2,.clo (.func 151) [] []),(8,.v (.int .i64 l.length)),(9,.v (.int .i64 ((lo:Nat):Int))),(10,.v (.int .i64 ((hi:Nat):Int)))],[],C.nh⟩) l.length ⟨0,l.length,by omega,Nat.le_refl _,rfl,fun _ _ h=>absurd h (by omega),fun _ _ h=>absurd h (by omega),rfl⟩ ?_
 rintro n σ ⟨lo,hi,hle,hhi,rfl,h1,h2,rfl⟩
 by_cases hlt:lo < hi
 ·obtain ⟨m,hm⟩ : ∃ m:Nat,m = (lo + hi) / 2:=⟨_,rfl⟩
  have hmi:((lo:Int) + (hi:Int)) / 2 = (m:Int):=by omega
  have hml:m < l.length:=by omega
  have hr:=jB (f:=Ent.row) hml
  have hr2:(l.map Ent.row)[(((lo:Int) + (hi:Int)) / 2).toNat]? = some l[m].row:=by rw [hmi];exact hr
  repeat' (first|refine qn ?_|(first|(apply qi;first|(apply qcr;rfl;rfl;rfl;rfl;rfl;omega;omega;exact nle rfl)|(apply qcq;rfl;rfl;rfl;rfl;rfl;omega;omega;exact nle rfl))|(apply qi;apply qfa;(case hx=>rfl);(case hy=>rfl);(case hk=>decide);(case hN=>exact nle rfl))|(refine Kv Tryz.func151 (qdf ..) ?_))|((first|refine qf ?_ ?_|refine qe ?_ ?_|refine xsC ?_ ?_);all_goals (intro hc;have hp:=hc;try simp at hp;try (exfalso;omega)))|refine qX ?_ ?_)
  all_goals try (exfalso;omega)
  ·have hmg:Op.bytesLess l[m].path p = true:=(Zg _ _).1 hp
   refine ⟨hi - (m + 1),_,by omega,qI (ts:=[(0,qa l),(1,.v (str p)),(2,.clo (.func 151) [] []),(8,.v (.int .i64 l.length)),(9,.v (.int .i64 ((m + 1:Nat):Int))),(10,.v (.int .i64 ((hi:Nat):Int)))]) ?_,m + 1,hi,by omega,hhi,rfl,fun k h hk=>?_,h2,rfl⟩
   · (repeat (first|exact qg|refine qo ?_|refine qY ?_ ?_))
     all_goals (rw [hmi];rfl)
   ·by_cases e:k = m
    ·subst e;exact hmg
    ·exact kw (vZ hs k m h hml (by omega)) hmg
  ·have hmg:Op.bytesLess l[m].path p = false:=(by
    cases h:Op.bytesLess l[m].path p
    ·rfl
    ·have:=(Zg _ _).2 h;omega)
   refine ⟨m - lo,_,by omega,qI (ts:=[(0,qa l),(1,.v (str p)),(2,.clo (.func 151) [] []),(8,.v (.int .i64 l.length)),(9,.v (.int .i64 ((lo:Nat):Int))),(10,.v (.int .i64 ((m:Nat):Int)))]) ?_,lo,m,by omega,by omega,rfl,h1,fun k h hk=>?_,rfl⟩
   · (repeat (first|exact qg|refine qo ?_|refine qY ?_ ?_))
     all_goals (rw [hmi])
   ·by_cases e:k = m
    ·subst e;exact hmg
    ·cases hkg:Op.bytesLess l[k].path p
     ·rfl
     ·rw [kw (vZ hs m k hml h (by omega)) hkg] at hmg;cases hmg
 obtain rfl:lo = hi:=by omega
 have hpos:xg l p = lo:=KD hhi h1 (fun h=>h2 lo h (by omega))
 by_cases hin:lo < l.length
 ·have hr:=jB (f:=Ent.row) hin
  have hhit:j0 l p = decide (wS l[lo].path p = 0):=by
   rw [WA hs,hpos,List.getElem?_eq_getElem hin]
  repeat' (first|refine qn ?_|(first|(refine Kv Tryz.func151 (qdf ..) ?_))|((first|refine qf ?_ ?_|refine qe ?_ ?_|refine xsC ?_ ?_);all_goals (intro hc;have hp:=hc;try simp at hp;try (exfalso;omega)))|refine qX ?_ ?_)
  all_goals try (exfalso;omega)
  rw [hpos,hhit]
  (exact zO (rs:=[.tmp 6,.tmp 7]))
 ·have hhit:j0 l p = false:=by
   rw [WA hs,hpos,List.getElem?_eq_none (by omega)]
  repeat' (first|refine qn ?_|(first|(refine Kv Tryz.func151 (qdf ..) ?_))|((first|refine qf ?_ ?_|refine qe ?_ ?_|refine xsC ?_ ?_);all_goals (intro hc;have hp:=hc;try simp at hp;try (exfalso;omega)))|refine qX ?_ ?_)
  all_goals try (exfalso;omega)
  rw [hpos,hhit]
  (exact zO (rs:=[.tmp 6,.tmp 7]))
theorem KZ (l:List Ent) (p:qP) (hl:l.length ≤ 1000000000) (hs:qU jf l = true) :
  xH C.P 120 [qa l,.v (str p)] (.tup [.v (.int .i64 (xg l p)),.v (.bool (j0 l p))]):=by
 have hse:=qcg l p hl hs
 refine qc Tryz.func120 rfl _ Tryz.ntmps120 (Nat.le_of_ble_eq_true rfl) _ Tryz.results120 0 rfl rfl ?_
 repeat' (first|refine qn ?_|(first|refine j1 Tryz.func150 (hse ..) ?_)|((first|refine xsC ?_ ?_);all_goals (intro hc;have hp:=hc;try simp at hp;try (exfalso;omega)))|refine qX ?_ ?_)
 (exact zO (rs:=[.tmp 4,.tmp 5]))
end Go.Proofs.YtamejbkifpjhiaaGreatDoor
set_option linter.unusedSimpArgs false
set_option linter.unnecessarySimpa false
set_option maxHeartbeats 1000000
namespace Go.Proofs.YtamejbkifpjhiaaGreatDoor
open Go.Ab Go.RowKit
set_option maxRecDepth 10000
attribute [local irreducible] Awp yH jH jw Red ja Go.Ab.Fin qZ Rz vn jr jp ResOk j3 jC yC jA
def wu (l:List Ent) (p:qP):Ent:=if qJ p = [] then ⟨[],true,[],0⟩ else match l.find? (atP (qJ p)) with|some x=>x|none=>⟨[],false,[],0⟩
def Je (l:List Ent) (p:qP):Bool:=decide (qJ p = []) || j0 l (qJ p)
theorem V0 (l:List Ent) (p:qP):ym l (qJ p) = if Je l p = true then (if (wu l p).fold = true then 0 else 4) else 5:=by
 unfold ym Je wu
 by_cases h:qJ p = []
 ·simp [h]
 ·cases hh:j0 l (qJ p) with
  | true =>
    obtain ⟨x,hx,hk⟩:=List.any_eq_true.1 hh
    cases hf:l.find? (atP (qJ p)) with
    | none=>rw [List.find?_eq_none] at hf;exact absurd hk (hf x hx)
    | some y=>simp [h]
  | false=>simp [h,(xO hh).1]
theorem Zv (l:List Ent) (p:qP) (hl:l.length ≤ 1000000000) (hs:qU jf l = true) (hp:p.length ≤ 140737488355328) :
  xH C.P 139 [qa l,.v (str p)] (.tup [.agg (wu l p).row,.v (.bool (Je l p))]):=by
 have hsp:=qbC p (by omega)
 have hat:=KZ l (qJ p) hl hs
 by_cases h:qJ p = []
 ·have e1:wu l p = ⟨[],true,[],0⟩:=by simp [wu,h]
  have e2:Je l p = true:=by simp [Je,h]
  rw [h] at hsp hat
  rw [e1,e2]
  refine qc Tryz.func139 rfl _ Tryz.ntmps139 (Nat.le_of_ble_eq_true rfl) _ Tryz.results139 0 rfl rfl ?_
  repeat' (first|refine qn ?_|(first|refine j1 Tryz.func163 (hsp ..) ?_|refine j1 Tryz.func120 (hat ..) ?_)|((first|refine xsC ?_ ?_);all_goals (intro hc;have hp:=hc;try simp at hp;try (exfalso;omega)))|refine qX ?_ ?_)
  all_goals try (exfalso;simp_all;done)
  (exact zO (rs:=[.cell 4 55,.tmp 5]))
 ·cases hh:j0 l (qJ p) with
  | true =>
    obtain ⟨hk,hpe,hfi, -⟩:=zw hs hh
    have e1:wu l p = l[xg l (qJ p)]:=by simp [wu,h,hfi]
    have e2:Je l p = true:=by simp [Je,hh]
    rw [hh] at hat
    rw [e1,e2]
    generalize xg l (qJ p) = k at *
    have hr:=jB (f:=Ent.row) hk
    refine qc Tryz.func139 rfl _ Tryz.ntmps139 (Nat.le_of_ble_eq_true rfl) _ Tryz.results139 0 rfl rfl ?_
    repeat' (first|refine qn ?_|(first|refine j1 Tryz.func163 (hsp ..) ?_|refine j1 Tryz.func120 (hat ..) ?_)|((first|refine xsC ?_ ?_);all_goals (intro hc;have hp:=hc;try simp at hp;try (exfalso;omega)))|refine qX ?_ ?_)
    all_goals try (exfalso;first|exact h (by assumption)|(simp_all;done))
    (exact zO (rs:=[.cell 4 55,.tmp 5]))
  | false =>
    have e1:wu l p = ⟨[],false,[],0⟩:=by simp [wu,h,(xO hh).1]
    have e2:Je l p = false:=by simp [Je,hh,h]
    rw [hh] at hat
    rw [e1,e2]
    refine qc Tryz.func139 rfl _ Tryz.ntmps139 (Nat.le_of_ble_eq_true rfl) _ Tryz.results139 0 rfl rfl ?_
    repeat' (first|refine qn ?_|(first|refine j1 Tryz.func163 (hsp ..) ?_|refine j1 Tryz.func120 (hat ..) ?_)|((first|refine xsC ?_ ?_);all_goals (intro hc;have hp:=hc;try simp at hp;try (exfalso;omega)))|refine qX ?_ ?_)
    all_goals try (exfalso;first|exact h (by assumption)|(simp_all;done))
    (exact zO (rs:=[.cell 4 55,.tmp 5]))
end Go.Proofs.YtamejbkifpjhiaaGreatDoor
set_option linter.unusedSimpArgs false
set_option linter.unnecessarySimpa false
set_option maxHeartbeats 1000000
namespace Go.Proofs.YtamejbkifpjhiaaGreatDoor
open Go.Ab Go.RowKit
set_option maxRecDepth 10000
attribute [local irreducible] Awp yH jH jw Red ja Go.Ab.Fin qZ Rz vn jr jp ResOk j3 jC yC jA
theorem qbS (a b:Ent):(Op.bytesLess b.path a.path || decide (b.path = a.path)) = !jf a b:=by
 unfold jf
 rcases wN a.path b.path with ⟨h1,h2,h3⟩|⟨h1,h2,h3⟩|⟨h1,h2,h3⟩
 ·have h4:¬ b.path = a.path:=fun e=>h3 e.symm
  simp [h1,h2,h4]
 ·simp [h1,vD]
 ·simp [h1,h2]
theorem X2 {t:List Ent} (h60:¬ 60 < t.length) {k:Nat} (hk:k < t.length) (hs : ∀ g,g ∈ t.take k → y9 g = 0) (h0:y9 t[k] ≠ 0):y9 t[k] = qC t:=by
 have h1:=XN hk hs h0
 have hz:¬ jK y9 t = 0:=by rw [h1];exact h0
 simp only [qC,h60,hz,if_false]
 rw [h1]
theorem K4 (l:List Ent) (hl:EBig l):xH C.P 109 [qa l] (.v (.int .i64 (qC l))):=by
 have hll:=hl.len
 refine qc Tryz.func109 rfl _ Tryz.ntmps109 (Nat.le_of_ble_eq_true rfl) _ Tryz.results109 0 rfl rfl ?_
 repeat' (first|refine qn ?_|fail|((first|refine xsC ?_ ?_);all_goals (intro hc;have hp:=hc;try simp at hp;try (exfalso;omega)))|refine qX ?_ ?_)
 ·apply jY
  rfl
  have h60:60 < l.length:=by omega
  simp [qC,h60]
 have h60:¬ 60 < l.length:=by omega
 (refine Awp.red (qI (ts:=[(0,qa l),(15,qa l),(16,.v (.int .i64 l.length)),(17,.v (.int .i64 ((0:Nat):Int)))]) ?_) ?_;((repeat (first|exact qg|refine qo ?_|refine qY ?_ ?_))))
 all_goals try (rw [List.length_map];done)
 refine qV (fun n σ => ∃ i:Nat,i ≤ l.length ∧ n = l.length - i ∧ (∀ g,g ∈ l.take i → y9 g = 0) ∧ σ = ⟨[(0,qa l),(15,qa l),(16,.v (.int .i64 l.length)),(17,.v (.int .i64 (i:Int)))],[],C.nh⟩) l.length ⟨0,Nat.zero_le _,rfl,(by simp),rfl⟩ ?_
 rintro n σ ⟨i,hi,rfl,hsofar,rfl⟩
 by_cases hlt:i < l.length
 ·have hr:=jB (f:=Ent.row) hlt
  have hsm:=hl.each l[i] (List.getElem_mem _)
  have hce:=Z6 l[i] hsm
  repeat' (first|refine qn ?_|(first|refine jv Tryz.func138 (hce ..) ?_)|((first|refine xsC ?_ ?_);all_goals (intro hc;have hp:=hc;try simp at hp;try (exfalso;omega)))|refine qX ?_ ?_)
  all_goals try (exfalso;omega)
  ·apply jY
   rfl
   exact X2 h60 hlt hsofar (by assumption)
  ·refine ⟨l.length - (i + 1),_,by omega,qI (ts:=[(0,qa l),(15,qa l),(16,.v (.int .i64 l.length)),(17,.v (.int .i64 ((i + 1:Nat):Int)))]) ?_,i + 1,by omega,rfl,ya hlt hsofar (by assumption),rfl⟩;((repeat (first|exact qg|refine qo ?_|refine qY ?_ ?_)))
 obtain rfl:i = l.length:=by omega
 have hz:jK y9 l = 0:=xU.2 (fun s hs=>hsofar s (by rw [List.take_length];exact hs))
 clear hsofar
 repeat' (first|refine qn ?_|fail|((first|refine xsC ?_ ?_);all_goals (intro hc;have hp:=hc;try simp at hp;try (exfalso;omega)))|refine qX ?_ ?_)
 all_goals try (exfalso;omega)
 (refine Awp.red (qI (ts:=[(0,qa l),(6,.v (.int .i64 ((0 + 1:Nat):Int)))]) ?_) ?_;((repeat (first|exact qg|refine qo ?_|refine qY ?_ ?_))))
 refine qV (fun n σ => ∃ i:Nat,i ≤ (l.drop 1).length ∧ n = (l.drop 1).length - i ∧ (∀ (k:Nat) (h:k + 1 < l.length),k < i → jf (l[k]'(by omega)) l[k + 1] = true) ∧ σ = ⟨[(0,qa l),(6,.v (.int .i64 ((i + 1:Nat):Int)))],[],C.nh⟩) (l.drop 1).length ⟨0,Nat.zero_le _,rfl,(fun k h hk=>absurd hk (Nat.not_lt_zero _)),rfl⟩ ?_
 have hdl:(l.drop 1).length = l.length - 1:=by simp
 rintro n σ ⟨i,hi,rfl,hsofar,rfl⟩
 by_cases hlt:i + 1 < l.length
 ·have hr:=jB (f:=Ent.row) hlt
  have hr':=jB (f:=Ent.row) (l:=l) (i:=i) (by omega)
  have hle:=qbS l[i] l[i + 1]
  repeat' (first|refine qn ?_|fail|((first|refine xsC ?_ ?_);all_goals (intro hc;have hp:=hc;try simp at hp;try (exfalso;omega)))|refine qX ?_ ?_)
  all_goals try (exfalso;omega)
  ·have hrf:¬ qU jf l = true:=fun h=>by
    have:=zL.1 h i hlt
    simp_all
   apply jY
   rfl
   simp [qC,h60,hz,hrf]
  ·have hok:jf l[i] l[i + 1] = true:=(by simp_all)
   refine ⟨(l.drop 1).length - (i + 1),_,by omega,qI (ts:=[(0,qa l),(6,.v (.int .i64 ((i + 1 + 1:Nat):Int)))]) ?_,i + 1,by omega,rfl,(fun k h hk=>by
    by_cases e:k = i
    ·subst e;exact hok
    ·exact hsofar k h (by omega)),rfl⟩;((repeat (first|exact qg|refine qo ?_|refine qY ?_ ?_)))
 have hrise:qU jf l = true:=zL.2 fun k h=>hsofar k h (by simp at hi;omega)
 clear hsofar
 repeat' (first|refine qn ?_|fail|((first|refine xsC ?_ ?_);all_goals (intro hc;have hp:=hc;try simp at hp;try (exfalso;omega)))|refine qX ?_ ?_)
 all_goals try (exfalso;omega)
 (refine Awp.red (qI (ts:=[(0,qa l),(7,.v (.int .i64 (if (l.take 0).any (fun x=>decide (¬ yN l x = 0)) = true then 4 else 0))),(45,qa l),(46,.v (.int .i64 l.length)),(47,.v (.int .i64 ((0:Nat):Int)))]) ?_) ?_;((repeat (first|exact qg|refine qo ?_|refine qY ?_ ?_))))
 all_goals try (rw [List.length_map];done)
 refine qV (fun n σ => ∃ i:Nat,i ≤ l.length ∧ n = l.length - i ∧ (∀ g,g ∈ l.take i → ¬ yN l g = 5) ∧ σ = ⟨[(0,qa l),(7,.v (.int .i64 (if (l.take i).any (fun x=>decide (¬ yN l x = 0)) = true then 4 else 0))),(45,qa l),(46,.v (.int .i64 l.length)),(47,.v (.int .i64 (i:Int)))],[],C.nh⟩) l.length ⟨0,Nat.zero_le _,rfl,(by simp),rfl⟩ ?_
 rintro n σ ⟨i,hi,rfl,hsofar,rfl⟩
 by_cases hlt:i < l.length
 ·have hr:=jB (f:=Ent.row) hlt
  have hsm:=hl.each l[i] (List.getElem_mem _)
  have hpa:=Zv l l[i].path hl.len hrise (by have:=hsm.1;omega)
  have hpe:yN l l[i] = _:=V0 l l[i].path
  have htk:=List.take_succ_eq_append_getElem hlt
  generalize Je l l[i].path = ok at hpa hpe
  generalize wu l l[i].path = pe at hpa hpe
  repeat' (first|refine qn ?_|(first|refine j1 Tryz.func139 (hpa ..) ?_)|((first|refine xsC ?_ ?_);all_goals (intro hc;have hp:=hc;try simp at hp;try (exfalso;omega)))|refine qX ?_ ?_)
  all_goals try (exfalso;omega)
  ·have h5:yN l l[i] = 5:=(by rw [hpe];simp_all)
   have hany:l.any (fun x=>decide (yN l x = 5)) = true:=List.any_eq_true.2 ⟨l[i],List.getElem_mem _,by simp [h5]⟩
   apply jY
   rfl
   simp [qC,h60,hz,hrise,hany]
  ·have h4:yN l l[i] = 4:=(by rw [hpe];simp_all)
   refine ⟨l.length - (i + 1),_,by omega,qI (ts:=[(0,qa l),(7,.v (.int .i64 (if (l.take (i + 1)).any (fun x=>decide (¬ yN l x = 0)) = true then 4 else 0))),(45,qa l),(46,.v (.int .i64 l.length)),(47,.v (.int .i64 ((i + 1:Nat):Int)))]) ?_,i + 1,by omega,rfl,ya hlt hsofar (by rw [h4];decide),rfl⟩;((repeat (first|exact qg|refine qo ?_|refine qY ?_ ?_));all_goals (rw [htk,List.any_append];simp [h4]))
  ·have h4:yN l l[i] = 0:=(by rw [hpe];simp_all)
   refine ⟨l.length - (i + 1),_,by omega,qI (ts:=[(0,qa l),(7,.v (.int .i64 (if (l.take (i + 1)).any (fun x=>decide (¬ yN l x = 0)) = true then 4 else 0))),(45,qa l),(46,.v (.int .i64 l.length)),(47,.v (.int .i64 ((i + 1:Nat):Int)))]) ?_,i + 1,by omega,rfl,ya hlt hsofar (by rw [h4];decide),rfl⟩;((repeat (first|exact qg|refine qo ?_|refine qY ?_ ?_));all_goals (rw [htk,List.any_append];simp [h4]))
 obtain rfl:i = l.length:=by omega
 rw [List.take_length] at *
 have hno:¬ l.any (fun x=>decide (yN l x = 5)) = true:=fun h=>by
  obtain ⟨x,hx,hk⟩:=List.any_eq_true.1 h
  exact hsofar x hx (by simpa using hk)
 have hE:qC l = if l.any (fun x=>decide (¬ yN l x = 0)) = true then 4 else 0:=by
  unfold qC
  rw [if_neg h60,if_pos hz,if_pos hrise,if_neg hno]
 repeat' (first|refine qn ?_|fail|((first|refine xsC ?_ ?_);all_goals (intro hc;have hp:=hc;try simp at hp;try (exfalso;omega)))|refine qX ?_ ?_)
 all_goals try (exfalso;omega)
 apply jY
 rfl
 exact hE.symm
end Go.Proofs.YtamejbkifpjhiaaGreatDoor
set_option linter.unusedSimpArgs false
set_option linter.unnecessarySimpa false
set_option maxHeartbeats 1000000
namespace Go.Proofs.YtamejbkifpjhiaaGreatDoor
open Go.Ab Go.RowKit
set_option maxRecDepth 10000
attribute [local irreducible] Awp yH jH jw Red ja Go.Ab.Fin qZ Rz vn jr jp ResOk j3 jC yC jA
def Y2 (t:List Ent):List AV:=[qa t]
theorem qb6 (ts:List (List Ent)) (hn:ts.length ≤ 1000000) (hs : ∀ t,t ∈ ts → EBig t):xH C.P 60 [.sl false (ts.map Y2)] (.v (.int .i64 (jK qC ts))):=by
 refine qc Tryz.func60 rfl _ Tryz.ntmps60 (Nat.le_of_ble_eq_true rfl) _ Tryz.results60 0 rfl rfl ?_
 repeat' (first|refine qn ?_|fail|((first|refine xsC ?_ ?_);all_goals (intro hc;have hp:=hc;try simp at hp;try (exfalso;omega)))|refine qX ?_ ?_)
 (refine Awp.red (qI (ts:=[(6,.sl false (ts.map Y2)),(7,.v (.int .i64 ts.length)),(8,.v (.int .i64 ((0:Nat):Int)))]) ?_) ?_;((repeat (first|exact qg|refine qo ?_|refine qY ?_ ?_))))
 all_goals try (rw [List.length_map];done)
 refine qV (fun n σ => ∃ i:Nat,i ≤ ts.length ∧ n = ts.length - i ∧ (∀ t,t ∈ ts.take i → qC t = 0) ∧ σ = ⟨[(6,.sl false (ts.map Y2)),(7,.v (.int .i64 ts.length)),(8,.v (.int .i64 (i:Int)))],[],C.nh⟩) ts.length ⟨0,Nat.zero_le _,rfl,(by simp),rfl⟩ ?_
 rintro n σ ⟨i,hi,rfl,hsofar,rfl⟩
 by_cases hlt:i < ts.length
 ·have hr:=jB (f:=Y2) hlt
  have hct:=K4 ts[i] (hs _ (List.getElem_mem _))
  repeat' (first|refine qn ?_|(first|refine j1 Tryz.func109 (hct ..) ?_)|((first|refine xsC ?_ ?_);all_goals (intro hc;have hp:=hc;try simp at hp;try (exfalso;omega)))|refine qX ?_ ?_)
  all_goals try (exfalso;omega)
  ·apply jY
   rfl
   exact (XN hlt hsofar (by assumption)).symm
  ·refine ⟨ts.length - (i + 1),_,by omega,qI (ts:=[(6,.sl false (ts.map Y2)),(7,.v (.int .i64 ts.length)),(8,.v (.int .i64 ((i + 1:Nat):Int)))]) ?_,i + 1,by omega,rfl,ya hlt hsofar (by assumption),rfl⟩;((repeat (first|exact qg|refine qo ?_|refine qY ?_ ?_)))
 obtain rfl:i = ts.length:=by omega
 have hz:jK qC ts = 0:=xU.2 (fun s hs=>hsofar s (by rw [List.take_length];exact hs))
 clear hsofar
 repeat' (first|refine qn ?_|fail|((first|refine xsC ?_ ?_);all_goals (intro hc;have hp:=hc;try simp at hp;try (exfalso;omega)))|refine qX ?_ ?_)
 all_goals try (exfalso;omega)
 apply jY
 rfl
 exact hz.symm
theorem Yf (l:List Ent) (hl:EBig l):xH C.P 60 [.sl false [[qa l]]] (.v (.int .i64 (qC l))):=by
 have h:=qb6 [l] (by simp) (by simpa using hl)
 rw [show jK qC [l] = qC l from by simp only [jK];split<;>simp_all] at h
 exact h
theorem zW (l:List Ent) (hl:EBig l):xH C.P 63 [qa l] (.v (.int .i64 (qC l))):=by
 have h:=Yf l hl
 refine qc Tryz.func63 rfl _ Tryz.ntmps63 (Nat.le_of_ble_eq_true rfl) _ Tryz.results63 0 rfl rfl ?_
 repeat' (first|refine qn ?_|(first|(refine jL ?_)|refine j1 Tryz.func60 (h ..) ?_)|((first|refine xsC ?_ ?_);all_goals (intro hc;have hp:=hc;try simp at hp;try (exfalso;omega)))|refine qX ?_ ?_)
 all_goals (apply jY;rfl;rfl)
theorem yl (l:List Ent) (p:qP) (hl:l.length ≤ 1000000000):xH C.P 75 [qa l,.v (str p)] (.v (.int .i64 (xj (atP p) l))):=by
 refine qc Tryz.func75 rfl _ Tryz.ntmps75 (Nat.le_of_ble_eq_true rfl) _ Tryz.results75 0 rfl rfl ?_
 repeat' (first|refine qn ?_|fail|((first|refine xsC ?_ ?_);all_goals (intro hc;have hp:=hc;try simp at hp;try (exfalso;omega)))|refine qX ?_ ?_)
 (refine Awp.red (qI (ts:=[(0,qa l),(1,.v (str p)),(5,.v (.int .i64 ((0:Nat):Int)))]) ?_) ?_;((repeat (first|exact qg|refine qo ?_|refine qY ?_ ?_))))
 refine qV (fun n σ => ∃ i:Nat,i ≤ l.length ∧ n = l.length - i ∧ (∀ x,x ∈ l.take i → atP p x = false) ∧ σ = ⟨[(0,qa l),(1,.v (str p)),(5,.v (.int .i64 (i:Int)))],[],C.nh⟩) l.length ⟨0,Nat.zero_le _,rfl,(by simp),rfl⟩ ?_
 rintro n σ ⟨i,hi,rfl,hsofar,rfl⟩
 by_cases hlt:i < l.length
 ·have hr:=jB (f:=Ent.row) hlt
  repeat' (first|refine qn ?_|fail|((first|refine xsC ?_ ?_);all_goals (intro hc;have hp:=hc;try simp at hp;try (exfalso;omega)))|refine qX ?_ ?_)
  all_goals try (exfalso;omega)
  ·apply jY
   rfl
   exact (Q6 hlt hsofar (by simp_all [atP])).symm
  ·refine ⟨l.length - (i + 1),_,by omega,qI (ts:=[(0,qa l),(1,.v (str p)),(5,.v (.int .i64 ((i + 1:Nat):Int)))]) ?_,i + 1,by omega,rfl,ya hlt hsofar (by simp_all [atP]),rfl⟩;((repeat (first|exact qg|refine qo ?_|refine qY ?_ ?_)))
 obtain rfl:i = l.length:=by omega
 repeat' (first|refine qn ?_|fail|((first|refine xsC ?_ ?_);all_goals (intro hc;have hp:=hc;try simp at hp;try (exfalso;omega)))|refine qX ?_ ?_)
 all_goals try (exfalso;omega)
 apply jY
 rfl
 rw [wk fun x hx=>hsofar x (by rw [List.take_length];exact hx)]
theorem vT (l:List Ent) (p:qP) (hl:l.length ≤ 1000000000):xH C.P 72 [qa l,.v (str p)] (.v (.int .i64 (ym l p))):=by
 have hea:=yl l p hl
 have hE:ym l p = if p = [] then 0 else match l.find? (atP p) with|none=>5|some x=>if x.fold = true then 0 else 4:=rfl
 generalize ym l p = E at *
 rcases J4 (atP p) l with ⟨h1,h2⟩|⟨k,hk,h1,h2⟩
 ·rw [h1] at hea
  rw [h2] at hE
  refine qc Tryz.func72 rfl _ Tryz.ntmps72 (Nat.le_of_ble_eq_true rfl) _ Tryz.results72 0 rfl rfl ?_
  repeat' (first|refine qn ?_|(first|refine jv Tryz.func75 (hea ..) ?_)|((first|refine xsC ?_ ?_);all_goals (intro hc;have hp:=hc;try simp at hp;try (exfalso;omega)))|refine qX ?_ ?_)
  all_goals try (exfalso;omega)
  all_goals (apply jY;rfl;simp_all)
 ·rw [h1] at hea
  rw [h2] at hE
  have hr:=jB (f:=Ent.row) hk
  refine qc Tryz.func72 rfl _ Tryz.ntmps72 (Nat.le_of_ble_eq_true rfl) _ Tryz.results72 0 rfl rfl ?_
  repeat' (first|refine qn ?_|(first|refine jv Tryz.func75 (hea ..) ?_)|((first|refine xsC ?_ ?_);all_goals (intro hc;have hp:=hc;try simp at hp;try (exfalso;omega)))|refine qX ?_ ?_)
  all_goals try (exfalso;omega)
  all_goals (apply jY;rfl;simp_all)
end Go.Proofs.YtamejbkifpjhiaaGreatDoor
set_option linter.unusedSimpArgs false
set_option linter.unnecessarySimpa false
set_option maxHeartbeats 1000000
namespace Go.Proofs.YtamejbkifpjhiaaGreatDoor
open Go.Ab Go.RowKit
set_option maxRecDepth 10000
attribute [local irreducible] Awp yH jH jw Red ja Go.Ab.Fin qZ Rz vn jr jp ResOk j3 jC yC jA
theorem Wk {e:Ent} (h:¬ qH e.path = 0):y9 e = qH e.path:=by simp [y9,h]
theorem Wl {e:Ent} (h:qH e.path = 0):y9 e = (if e.fold = true ∧ ¬ e.text = [] then 1 else if 300 < e.text.length then 2 else if vj e.ver = true then 0 else 3):=by simp [y9,h]
theorem kS (l:List Ent) (hl:EBig l):xH C.P 31 [qa l] (.v (.int .i64 (qC l))):=by
 have hll:=hl.len
 refine qc Tryz.func31 rfl _ Tryz.ntmps31 (Nat.le_of_ble_eq_true rfl) _ Tryz.results31 0 rfl rfl ?_
 repeat' (first|refine qn ?_|fail|((first|refine qf ?_ ?_|refine qe ?_ ?_|refine xsC ?_ ?_);all_goals (intro hc;have hp:=hc;try simp at hp;try (exfalso;omega)))|refine qX ?_ ?_)
 ·apply jY
  rfl
  have h60:60 < l.length:=by omega
  simp [qC,h60]
 have h60:¬ 60 < l.length:=by omega
 (refine Awp.red (qI (ts:=[(0,qa l),(3,.v (.int .i64 ((0:Nat):Int)))]) ?_) ?_;((repeat (first|exact qg|refine qo ?_|refine qY ?_ ?_))))
 refine qV (fun n σ => ∃ i:Nat,i ≤ l.length ∧ n = l.length - i ∧ (∀ g,g ∈ l.take i → y9 g = 0) ∧ σ = ⟨[(0,qa l),(3,.v (.int .i64 (i:Int)))],[],C.nh⟩) l.length ⟨0,Nat.zero_le _,rfl,(by simp),rfl⟩ ?_
 rintro n σ ⟨i,hi,rfl,hsofar,rfl⟩
 by_cases hlt:i < l.length
 ·have hr:=jB (f:=Ent.row) hlt
  have hsm:=hl.each l[i] (List.getElem_mem _)
  have hcp:=QX l[i].path (by have:=hsm.1;omega)
  have hvr:=qdl l[i].ver
  have hlen:=hsm.2
  have hfo := @Wk l[i]
  have hre := @Wl l[i]
  have hte:=fun h => @X2 l h60 i hlt hsofar h
  have hnx:=fun h=>ya (p:=fun g=>y9 g = 0) hlt hsofar h
  generalize y9 l[i] = E at *
  generalize qH l[i].path = F at *
  generalize vj l[i].ver = V at *
  repeat' (first|refine qn ?_|(first|refine jv Tryz.func70 (hcp ..) ?_|refine jv Tryz.func71 (hvr ..) ?_)|((first|refine qf ?_ ?_|refine qe ?_ ?_|refine xsC ?_ ?_);all_goals (intro hc;have hp:=hc;try simp at hp;try (exfalso;omega)))|refine qX ?_ ?_)
  all_goals try (exfalso;omega)
  all_goals first
   | (apply jY
      rfl
      refine Eq.trans ?_ (hte ?_)<;>(clear hte hnx;simp_all)<;>(try omega)
      done)
   | (refine ⟨l.length - (i + 1),_,by omega,qI (ts:=[(0,qa l),(3,.v (.int .i64 ((i + 1:Nat):Int)))]) ?_,i + 1,by omega,rfl,hnx (by clear hte;simp_all;try omega),rfl⟩;((repeat (first|exact qg|refine qo ?_|refine qY ?_ ?_))))
 obtain rfl:i = l.length:=by omega
 have hz:jK y9 l = 0:=xU.2 (fun s hs=>hsofar s (by rw [List.take_length];exact hs))
 clear hsofar
 repeat' (first|refine qn ?_|fail|((first|refine qf ?_ ?_|refine qe ?_ ?_|refine xsC ?_ ?_);all_goals (intro hc;have hp:=hc;try simp at hp;try (exfalso;omega)))|refine qX ?_ ?_)
 all_goals try (exfalso;omega)
 (refine Awp.red (qI (ts:=[(0,qa l),(5,.v (.int .i64 ((0 + 1:Nat):Int)))]) ?_) ?_;((repeat (first|exact qg|refine qo ?_|refine qY ?_ ?_))))
 refine qV (fun n σ => ∃ i:Nat,i ≤ (l.drop 1).length ∧ n = (l.drop 1).length - i ∧ (∀ (k:Nat) (h:k + 1 < l.length),k < i → jf (l[k]'(by omega)) l[k + 1] = true) ∧ σ = ⟨[(0,qa l),(5,.v (.int .i64 ((i + 1:Nat):Int)))],[],C.nh⟩) (l.drop 1).length ⟨0,Nat.zero_le _,rfl,(fun k h hk=>absurd hk (Nat.not_lt_zero _)),rfl⟩ ?_
 have hdl:(l.drop 1).length = l.length - 1:=by simp
 rintro n σ ⟨i,hi,rfl,hsofar,rfl⟩
 by_cases hlt:i + 1 < l.length
 ·have hr:=jB (f:=Ent.row) hlt
  have hr':=jB (f:=Ent.row) (l:=l) (i:=i) (by omega)
  have hle:=qbS l[i] l[i + 1]
  repeat' (first|refine qn ?_|fail|((first|refine qf ?_ ?_|refine qe ?_ ?_|refine xsC ?_ ?_);all_goals (intro hc;have hp:=hc;try simp at hp;try (exfalso;omega)))|refine qX ?_ ?_)
  all_goals try (exfalso;omega)
  ·have hrf:¬ qU jf l = true:=fun h=>by
    have:=zL.1 h i hlt
    simp_all
   apply jY
   rfl
   simp [qC,h60,hz,hrf]
  ·have hok:jf l[i] l[i + 1] = true:=(by simp_all)
   refine ⟨(l.drop 1).length - (i + 1),_,by omega,qI (ts:=[(0,qa l),(5,.v (.int .i64 ((i + 1 + 1:Nat):Int)))]) ?_,i + 1,by omega,rfl,(fun k h hk=>by
    by_cases e:k = i
    ·subst e;exact hok
    ·exact hsofar k h (by omega)),rfl⟩;((repeat (first|exact qg|refine qo ?_|refine qY ?_ ?_)))
 have hrise:qU jf l = true:=zL.2 fun k h=>hsofar k h (by simp at hi;omega)
 clear hsofar
 repeat' (first|refine qn ?_|fail|((first|refine qf ?_ ?_|refine qe ?_ ?_|refine xsC ?_ ?_);all_goals (intro hc;have hp:=hc;try simp at hp;try (exfalso;omega)))|refine qX ?_ ?_)
 all_goals try (exfalso;omega)
 (refine Awp.red (qI (ts:=[(0,qa l),(6,.v (.int .i64 ((0:Nat):Int)))]) ?_) ?_;((repeat (first|exact qg|refine qo ?_|refine qY ?_ ?_))))
 refine qV (fun n σ => ∃ i:Nat,i ≤ l.length ∧ n = l.length - i ∧ (∀ g,g ∈ l.take i → ¬ yN l g = 5) ∧ σ = ⟨[(0,qa l),(6,.v (.int .i64 (i:Int)))],[],C.nh⟩) l.length ⟨0,Nat.zero_le _,rfl,(by simp),rfl⟩ ?_
 rintro n σ ⟨i,hi,rfl,hsofar,rfl⟩
 by_cases hlt:i < l.length
 ·have hr:=jB (f:=Ent.row) hlt
  have hsm:=hl.each l[i] (List.getElem_mem _)
  have hpo:=yS l[i].path (by have:=hsm.1;omega)
  have hif:xH C.P 72 [qa l,.v (str (qJ l[i].path))] (.v (.int .i64 (yN l l[i]))):=vT l (qJ l[i].path) hl.len
  have hnx:=fun h=>ya (p:=fun g => ¬ yN l g = 5) hlt hsofar h
  have hany:yN l l[i] = 5 → l.any (fun x=>decide (yN l x = 5)) = true:=fun h=>List.any_eq_true.2 ⟨l[i],List.getElem_mem _,by simp [h]⟩
  generalize yN l l[i] = E at hif hnx hany
  repeat' (first|refine qn ?_|(first|refine jv Tryz.func73 (hpo ..) ?_|refine jv Tryz.func72 (hif ..) ?_)|((first|refine qf ?_ ?_|refine qe ?_ ?_|refine xsC ?_ ?_);all_goals (intro hc;have hp:=hc;try simp at hp;try (exfalso;omega)))|refine qX ?_ ?_)
  all_goals try (exfalso;omega)
  ·have hany:=hany (by assumption)
   apply jY
   rfl
   simp [qC,h60,hz,hrise,hany]
  ·refine ⟨l.length - (i + 1),_,by omega,qI (ts:=[(0,qa l),(6,.v (.int .i64 ((i + 1:Nat):Int)))]) ?_,i + 1,by omega,rfl,hnx (by assumption),rfl⟩;((repeat (first|exact qg|refine qo ?_|refine qY ?_ ?_)))
 obtain rfl:i = l.length:=by omega
 rw [List.take_length] at *
 have hno:¬ l.any (fun x=>decide (yN l x = 5)) = true:=fun h=>by
  obtain ⟨x,hx,hk⟩:=List.any_eq_true.1 h
  exact hsofar x hx (by simpa using hk)
 have hE:qC l = if l.any (fun x=>decide (¬ yN l x = 0)) = true then 4 else 0:=by
  unfold qC
  rw [if_neg h60,if_pos hz,if_pos hrise,if_neg hno]
 clear hsofar
 repeat' (first|refine qn ?_|fail|((first|refine qf ?_ ?_|refine qe ?_ ?_|refine xsC ?_ ?_);all_goals (intro hc;have hp:=hc;try simp at hp;try (exfalso;omega)))|refine qX ?_ ?_)
 all_goals try (exfalso;omega)
 (refine Awp.red (qI (ts:=[(0,qa l),(7,.v (.int .i64 ((0:Nat):Int)))]) ?_) ?_;((repeat (first|exact qg|refine qo ?_|refine qY ?_ ?_))))
 refine qV (fun n σ => ∃ i:Nat,i ≤ l.length ∧ n = l.length - i ∧ (∀ g,g ∈ l.take i → yN l g = 0) ∧ σ = ⟨[(0,qa l),(7,.v (.int .i64 (i:Int)))],[],C.nh⟩) l.length ⟨0,Nat.zero_le _,rfl,(by simp),rfl⟩ ?_
 rintro n σ ⟨i,hi,rfl,hsofar,rfl⟩
 by_cases hlt:i < l.length
 ·have hr:=jB (f:=Ent.row) hlt
  have hsm:=hl.each l[i] (List.getElem_mem _)
  have hpo:=yS l[i].path (by have:=hsm.1;omega)
  have hif:xH C.P 72 [qa l,.v (str (qJ l[i].path))] (.v (.int .i64 (yN l l[i]))):=vT l (qJ l[i].path) hl.len
  have hnx:=fun h=>ya (p:=fun g=>yN l g = 0) hlt hsofar h
  have hany:¬ yN l l[i] = 0 → l.any (fun x=>decide (¬ yN l x = 0)) = true:=fun h=>List.any_eq_true.2 ⟨l[i],List.getElem_mem _,by simp [h]⟩
  generalize yN l l[i] = E at hif hnx hany
  repeat' (first|refine qn ?_|(first|refine jv Tryz.func73 (hpo ..) ?_|refine jv Tryz.func72 (hif ..) ?_)|((first|refine qf ?_ ?_|refine qe ?_ ?_|refine xsC ?_ ?_);all_goals (intro hc;have hp:=hc;try simp at hp;try (exfalso;omega)))|refine qX ?_ ?_)
  all_goals try (exfalso;omega)
  ·have hany:=hany (by assumption)
   apply jY
   rfl
   rw [hE,if_pos hany]
  ·refine ⟨l.length - (i + 1),_,by omega,qI (ts:=[(0,qa l),(7,.v (.int .i64 ((i + 1:Nat):Int)))]) ?_,i + 1,by omega,rfl,hnx (by assumption),rfl⟩;((repeat (first|exact qg|refine qo ?_|refine qY ?_ ?_)))
 obtain rfl:i = l.length:=by omega
 rw [List.take_length] at *
 have hno:¬ l.any (fun x=>decide (¬ yN l x = 0)) = true:=fun h=>by
  obtain ⟨x,hx,hk⟩:=List.any_eq_true.1 h
  simp at hk
  exact hk (hsofar x hx)
 repeat' (first|refine qn ?_|fail|((first|refine qf ?_ ?_|refine qe ?_ ?_|refine xsC ?_ ?_);all_goals (intro hc;have hp:=hc;try simp at hp;try (exfalso;omega)))|refine qX ?_ ?_)
 all_goals try (exfalso;omega)
 apply jY
 rfl
 rw [hE,if_neg hno]
end Go.Proofs.YtamejbkifpjhiaaGreatDoor
set_option linter.unusedSimpArgs false
set_option linter.unnecessarySimpa false
set_option linter.unusedVariables false
set_option maxHeartbeats 1000000
namespace Go.Proofs.YtamejbkifpjhiaaGreatDoor
open Go.Ab Go.RowKit
set_option maxRecDepth 10000
attribute [local irreducible] Awp yH jH jw Red ja Go.Ab.Fin qZ Rz vn jr jp ResOk j3 jC yC jA
def zG (c:Chg):Int:=if (¬ c.kind = 3 ∧ ¬ c.to = []) ∨ (¬ c.kind = 2 ∧ ¬ c.text = []) then 1 else if 300 < c.text.length then 2 else if c.base < -1 ∨ 1000000 < c.base then 3 else 0
def yc (c:Chg):Int :=
 if c.kind < 1 ∨ 4 < c.kind then 7
 else if ¬ qH c.path = 0 then qH c.path
 else if c.kind = 3 ∧ ¬ qH c.to = 0 then qH c.to
 else zG c
theorem qdi (c:Chg) (hc:c.small):xH C.P 110 [.agg c.row] (.v (.int .i64 (yc c))):=by
 obtain ⟨h1,h2,h3⟩:=hc
 have hpp:=Vn c.path (by omega)
 have ht:=Vn c.to (by omega)
 have hR:zG c = if (¬ c.kind = 3 ∧ ¬ c.to = []) ∨ (¬ c.kind = 2 ∧ ¬ c.text = []) then 1 else if 300 < c.text.length then 2 else if c.base < -1 ∨ 1000000 < c.base then 3 else 0:=rfl
 have hE:yc c = if c.kind < 1 ∨ 4 < c.kind then 7 else if ¬ qH c.path = 0 then qH c.path else if c.kind = 3 ∧ ¬ qH c.to = 0 then qH c.to else zG c:=rfl
 generalize yc c = E at *
 generalize zG c = R at *
 generalize qH c.path = F at *
 generalize qH c.to = G at *
 refine qc Tryz.func110 rfl _ Tryz.ntmps110 (Nat.le_of_ble_eq_true rfl) _ Tryz.results110 0 rfl rfl ?_
 repeat' (first|refine qn ?_|(first|refine jv Tryz.func140 (hpp ..) ?_|refine jv Tryz.func140 (ht ..) ?_)|((first|refine qf ?_ ?_|refine qe ?_ ?_|refine xsC ?_ ?_);all_goals (intro hc;have hp:=hc;try simp at hp;try (exfalso;omega)))|refine qX ?_ ?_)
 all_goals try (exfalso;omega)
 all_goals (apply jY;rfl)
 all_goals (rw [hE])
 all_goals first
  | (rw [if_pos (by omega)];done)
  | (rw [if_neg (by omega)]
     first
     | (rw [if_pos (by assumption)];done)
     | (rw [if_neg (by omega)]
        first
        | (rw [if_pos ⟨by assumption,by assumption⟩];done)
        | (rw [if_neg (by rintro ⟨_,_⟩;simp_all),hR]
           first
           | (rw [if_pos (by simp_all)];done)
           | (rw [if_neg (by simp_all)]
              first
              | (rw [if_pos (by omega)];done)
              | (rw [if_neg (by omega)]
                 first
                 | (rw [if_pos (by omega)];done)
                 | (rw [if_neg (by omega)];done))))))
theorem vr (c:Chg) (hc:c.small):xH C.P 74 [.agg c.row] (.v (.int .i64 (yc c))):=by
 obtain ⟨h1,h2,h3⟩:=hc
 have hpp:=QX c.path (by omega)
 have ht:=QX c.to (by omega)
 have hR:zG c = if (¬ c.kind = 3 ∧ ¬ c.to = []) ∨ (¬ c.kind = 2 ∧ ¬ c.text = []) then 1 else if 300 < c.text.length then 2 else if c.base < -1 ∨ 1000000 < c.base then 3 else 0:=rfl
 have hE:yc c = if c.kind < 1 ∨ 4 < c.kind then 7 else if ¬ qH c.path = 0 then qH c.path else if c.kind = 3 ∧ ¬ qH c.to = 0 then qH c.to else zG c:=rfl
 generalize yc c = E at *
 generalize zG c = R at *
 generalize qH c.path = F at *
 generalize qH c.to = G at *
 refine qc Tryz.func74 rfl _ Tryz.ntmps74 (Nat.le_of_ble_eq_true rfl) _ Tryz.results74 0 rfl rfl ?_
 repeat' (first|refine qn ?_|(first|refine jv Tryz.func70 (hpp ..) ?_|refine jv Tryz.func70 (ht ..) ?_)|((first|refine qf ?_ ?_|refine qe ?_ ?_|refine xsC ?_ ?_);all_goals (intro hc;have hp:=hc;try simp at hp;try (exfalso;omega)))|refine qX ?_ ?_)
 all_goals try (exfalso;omega)
 all_goals (apply jY;rfl)
 all_goals (rw [hE])
 all_goals first
  | (rw [if_pos (by omega)];done)
  | (rw [if_neg (by omega)]
     first
     | (rw [if_pos (by assumption)];done)
     | (rw [if_neg (by omega)]
        first
        | (rw [if_pos ⟨by assumption,by assumption⟩];done)
        | (rw [if_neg (by rintro ⟨_,_⟩;simp_all),hR]
           first
           | (rw [if_pos (by simp_all)];done)
           | (rw [if_neg (by simp_all)]
              first
              | (rw [if_pos (by omega)];done)
              | (rw [if_neg (by omega)]
                 first
                 | (rw [if_pos (by omega)];done)
                 | (rw [if_neg (by omega)];done))))))
end Go.Proofs.YtamejbkifpjhiaaGreatDoor
set_option linter.unusedSimpArgs false
set_option linter.unnecessarySimpa false
set_option linter.unusedVariables false
set_option maxHeartbeats 1000000
namespace Go.Proofs.YtamejbkifpjhiaaGreatDoor
open Go.Ab Go.RowKit
set_option maxRecDepth 10000
attribute [local irreducible] Awp yH jH jw Red ja Go.Ab.Fin qZ Rz vn jr jp ResOk j3 jC yC jA
theorem K8 (p:Ent → Bool) (g:FuncId) (hg:IsFn C.P g) (cap:List AV) (hcap:AV.pure.pureL cap = true) (l:List (Ent)) (hl:l.length ≤ 1000000) (hc : ∀ s,s ∈ l → xH C.P g ((AV.agg (Ent.row s)) :: cap) (.v (.bool (p s)))) :
  xH C.P 165 [.sl false (l.map Ent.row),.clo (.func g) [] cap] (.v (.int .i64 (xj p l))):=by
 refine qc Tryz.func165 rfl _ Tryz.ntmps165 (Nat.le_of_ble_eq_true rfl) _ Tryz.results165 0 rfl rfl ?_
 repeat' (first|refine qn ?_|fail|((first|refine xsC ?_ ?_);all_goals (intro hc;have hp:=hc;try simp at hp;try (exfalso;omega)))|refine qX ?_ ?_)
 (refine Awp.red (qI (ts:=[(0,.sl false (l.map Ent.row)),(1,.clo (.func g) [] cap),(7,.v (.int .i64 l.length)),(8,.v (.int .i64 ((0:Nat):Int)))]) ?_) ?_;((repeat (first|exact qg|refine qo ?_|refine qY ?_ ?_))))
 all_goals try (rw [List.length_map];done)
 refine qV (fun n σ => ∃ i:Nat,i ≤ l.length ∧ n = l.length - i ∧ (∀ s,s ∈ l.take i → p s = false) ∧ σ = ⟨[(0,.sl false (l.map Ent.row)),(1,.clo (.func g) [] cap),(7,.v (.int .i64 l.length)),(8,.v (.int .i64 (i:Int)))],[],C.nh⟩) l.length ⟨0,Nat.zero_le _,rfl,(by simp),rfl⟩ ?_
 rintro n σ ⟨i,hi,rfl,hsofar,rfl⟩
 by_cases hlt:i < l.length
 ·have hr:=jB (f:=Ent.row) hlt
  have hci:=hc l[i] (List.getElem_mem _)
  repeat' (first|refine qn ?_|(first|(apply qi;apply Q0 [];rfl;exact hg;exact hci;(case hz=>exact qA (q4 rfl) (YZ hcap));(case hfl=>rfl);(case hN=>exact nle rfl)))|((first|refine xsC ?_ ?_);all_goals (intro hc;have hp:=hc;try simp at hp;try (exfalso;omega)))|refine qX ?_ ?_)
  all_goals try (exfalso;omega)
  ·apply jY
   rfl
   exact (Q6 hlt hsofar hp).symm
  ·refine ⟨l.length - (i + 1),_,by omega,qI (ts:=[(0,.sl false (l.map Ent.row)),(1,.clo (.func g) [] cap),(7,.v (.int .i64 l.length)),(8,.v (.int .i64 ((i + 1:Nat):Int)))]) ?_,i + 1,by omega,rfl,ya hlt hsofar hp,rfl⟩;((repeat (first|exact qg|refine qo ?_|refine qY ?_ ?_)))
 obtain rfl:i = l.length:=by omega
 repeat' (first|refine qn ?_|fail|((first|refine xsC ?_ ?_);all_goals (intro hc;have hp:=hc;try simp at hp;try (exfalso;omega)))|refine qX ?_ ?_)
 all_goals try (exfalso;omega)
 apply jY
 rfl
 exact (wk fun s hs=>hsofar s (by rw [List.take_length];exact hs)).symm
theorem K5 (p:Ent → Bool) (g:FuncId) (hg:IsFn C.P g) (cap:List AV) (hcap:AV.pure.pureL cap = true) (l:List (Ent)) (hl:l.length ≤ 1000000) (hc : ∀ s,s ∈ l → xH C.P g ((AV.agg (Ent.row s)) :: cap) (.v (.bool (p s)))) :
  xH C.P 142 [.sl false (l.map Ent.row),.clo (.func g) [] cap] (.v (.bool (l.any p))):=by
 have hidx:=K8 p g hg cap hcap l hl hc
 refine qc Tryz.func142 rfl _ Tryz.ntmps142 (Nat.le_of_ble_eq_true rfl) _ Tryz.results142 0 rfl rfl ?_
 repeat' (first|refine qn ?_|(first|(apply qi;apply j9 [];exact jW Tryz.func165 rfl rfl;exact hidx;(case hz=>exact qA (q4 rfl) (qA (wM hcap) q5));(case hfl=>rfl);(case hN=>exact nle rfl)))|((first|refine xsC ?_ ?_);all_goals (intro hc;have hp:=hc;try simp at hp;try (exfalso;omega)))|refine qX ?_ ?_)
 apply j6
 rfl
 rw [← Xh]
def jS (c:Chg):qP:=if c.kind = 3 then c.to else c.path
def x1 (c:Chg) (x:Ent):Bool:=decide (c.base < x.ver) && inB x.path c.path
def vh (t:List Ent) (p:qP):Bool:=match t.find? (atP p) with|some x=>x.fold|none=>false
def v8 (t:List Ent) (c:Chg):Int:=if c.kind = 1 then (if j0 t c.path = true then 6 else 0) else if c.kind = 2 then (if vh t c.path = true then 4 else 0) else (if j0 t c.path = true then 0 else 5)
def zR (t:List Ent) (c:Chg):Int:=if c.kind = 3 then (if inB c.to c.path = true then 3 else if j0 t c.to = true then 6 else 0) else 0
def yb (t:List Ent) (c:Chg):Int:=if ¬ c.base = -1 ∧ t.any (x1 c) = true then 8 else 0
def va (t:List Ent) (c:Chg):Int :=
 if ¬ ym t (qJ (jS c)) = 0 then ym t (qJ (jS c))
 else if ¬ v8 t c = 0 then v8 t c
 else if ¬ zR t c = 0 then zR t c else yb t c
theorem qf8 (x:Ent) (c:Chg) (hc:c.path.length ≤ 140737488355328):xH C.P 141 [.agg x.row,.fp [c.row] 0 0] (.v (.bool (x1 c x))):=by
 have hin:=qau x.path c.path hc
 have hE:x1 c x = (decide (c.base < x.ver) && inB x.path c.path):=rfl
 generalize x1 c x = E at *
 generalize inB x.path c.path = I at *
 refine qc Tryz.func141 rfl _ Tryz.ntmps141 (Nat.le_of_ble_eq_true rfl) _ Tryz.results141 0 rfl rfl ?_
 repeat' (first|refine qn ?_|(first|refine jv Tryz.func123 (hin ..) ?_)|((first|refine qf ?_ ?_|refine qe ?_ ?_|refine xsC ?_ ?_);all_goals (intro hc;have hp:=hc;try simp at hp;try (exfalso;omega)))|refine qX ?_ ?_)
 all_goals (apply j6;rfl;rw [hE];simp_all;try (intro _;omega))
theorem qfT (t:List Ent) (c:Chg) (hl:t.length ≤ 1000000) (hs:qU jf t = true) (hcs:c.small):xH C.P 111 [qa t,.agg c.row] (.v (.int .i64 (va t c))):=by
 obtain ⟨l1,l2,l3⟩:=hcs
 have hpa:=Zv t (jS c) (by omega) hs (by unfold jS;split<;>omega)
 have hfe:=V0 t (jS c)
 have hat:=KZ t c.path (by omega) hs
 have hat2:=KZ t c.to (by omega) hs
 have hin:=qau c.to c.path (by omega)
 have hcon:=K5 (x1 c) 141 (jW Tryz.func141 rfl rfl) [.fp [c.row] 0 0] rfl t hl (fun x _=>qf8 x c (by omega))
 have hE:va t c = if ¬ ym t (qJ (jS c)) = 0 then ym t (qJ (jS c)) else if ¬ v8 t c = 0 then v8 t c else if ¬ zR t c = 0 then zR t c else yb t c:=rfl
 have hI:v8 t c = if c.kind = 1 then (if j0 t c.path = true then 6 else 0) else if c.kind = 2 then (if vh t c.path = true then 4 else 0) else (if j0 t c.path = true then 0 else 5):=rfl
 have hM:zR t c = if c.kind = 3 then (if inB c.to c.path = true then 3 else if j0 t c.to = true then 6 else 0) else 0:=rfl
 have hS:yb t c = if ¬ c.base = -1 ∧ t.any (x1 c) = true then 8 else 0:=rfl
 have hrow:j0 t c.path = true → ∃ hk:xg t c.path < t.length,vh t c.path = t[xg t c.path].fold:=fun h=>by
  obtain ⟨hk,_,hfi,_⟩:=zw hs h
  exact ⟨hk,by unfold vh;rw [hfi]⟩
 have hnorow:j0 t c.path = false → vh t c.path = false:=fun h=>by
  unfold vh;rw [(xO h).1]
 have hg3:c.kind = 3 → jS c = c.to:=fun h=>by simp [jS,h]
 have hg0:¬ c.kind = 3 → jS c = c.path:=fun h=>by simp [jS,h]
 generalize va t c = E at *
 generalize v8 t c = I at *
 generalize zR t c = Mv at *
 generalize yb t c = S at *
 generalize t.any (x1 c) = NW at *
 generalize inB c.to c.path = IB at *
 generalize j0 t c.to = HT at *
 generalize xg t c.to = PT at *
 generalize ym t (qJ (jS c)) = FE at *
 generalize Je t (jS c) = OK at *
 generalize wu t (jS c) = PE at *
 cases hh:j0 t c.path with
 | true =>
   obtain ⟨hk,hfo⟩:=hrow hh
   rw [hh] at hat hI
   rw [hfo] at hI
   have hr:=jB (f:=Ent.row) hk
   clear hrow hnorow
   generalize xg t c.path = k at *
   by_cases k3:c.kind = 3
   ·rw [hg3 k3] at hpa
    refine qc Tryz.func111 rfl _ Tryz.ntmps111 (Nat.le_of_ble_eq_true rfl) _ Tryz.results111 0 rfl rfl ?_
    repeat' (first|refine qn ?_|(first|refine j1 Tryz.func139 (hpa ..) ?_|refine j1 Tryz.func120 (hat ..) ?_|refine j1 Tryz.func120 (hat2 ..) ?_|refine jv Tryz.func123 (hin ..) ?_|(apply qi;apply j9 ([0]);exact jW Tryz.func142 rfl rfl;exact hcon;(case hz=>(refine qA (q4 rfl) (qA (jO q5 (qA (qah rfl (by simp) (vR (fun row hrow=>by rw [List.mem_singleton.1 hrow];rfl))) q5)) q5)));(case hfl=>rfl);(case hN=>exact nle rfl)))|((first|refine qf ?_ ?_|refine qe ?_ ?_|refine xsC ?_ ?_);all_goals (intro hc;have hp:=hc;try simp at hp;try (exfalso;omega)))|refine qX ?_ ?_)
    all_goals try (exfalso;omega)
    all_goals (apply jY;rfl;clear hat hat2 hcon hpa hin;simp_all)
   ·rw [hg0 k3] at hpa
    refine qc Tryz.func111 rfl _ Tryz.ntmps111 (Nat.le_of_ble_eq_true rfl) _ Tryz.results111 0 rfl rfl ?_
    repeat' (first|refine qn ?_|(first|refine j1 Tryz.func139 (hpa ..) ?_|refine j1 Tryz.func120 (hat ..) ?_|refine j1 Tryz.func120 (hat2 ..) ?_|refine jv Tryz.func123 (hin ..) ?_|(apply qi;apply j9 ([0]);exact jW Tryz.func142 rfl rfl;exact hcon;(case hz=>(refine qA (q4 rfl) (qA (jO q5 (qA (qah rfl (by simp) (vR (fun row hrow=>by rw [List.mem_singleton.1 hrow];rfl))) q5)) q5)));(case hfl=>rfl);(case hN=>exact nle rfl)))|((first|refine qf ?_ ?_|refine qe ?_ ?_|refine xsC ?_ ?_);all_goals (intro hc;have hp:=hc;try simp at hp;try (exfalso;omega)))|refine qX ?_ ?_)
    all_goals try (exfalso;omega)
    all_goals (apply jY;rfl;clear hat hat2 hcon hpa hin;simp_all)
 | false =>
   have hfo:=hnorow hh
   rw [hh] at hat hI
   rw [hfo] at hI
   clear hrow hnorow
   generalize xg t c.path = k at *
   by_cases k3:c.kind = 3
   ·rw [hg3 k3] at hpa
    refine qc Tryz.func111 rfl _ Tryz.ntmps111 (Nat.le_of_ble_eq_true rfl) _ Tryz.results111 0 rfl rfl ?_
    repeat' (first|refine qn ?_|(first|refine j1 Tryz.func139 (hpa ..) ?_|refine j1 Tryz.func120 (hat ..) ?_|refine j1 Tryz.func120 (hat2 ..) ?_|refine jv Tryz.func123 (hin ..) ?_)|((first|refine qf ?_ ?_|refine qe ?_ ?_|refine xsC ?_ ?_);all_goals (intro hc;have hp:=hc;try simp at hp;try (exfalso;omega)))|refine qX ?_ ?_)
    all_goals try (exfalso;omega)
    all_goals (apply jY;rfl;clear hat hat2 hcon hpa hin;simp_all)
   ·rw [hg0 k3] at hpa
    refine qc Tryz.func111 rfl _ Tryz.ntmps111 (Nat.le_of_ble_eq_true rfl) _ Tryz.results111 0 rfl rfl ?_
    repeat' (first|refine qn ?_|(first|refine j1 Tryz.func139 (hpa ..) ?_|refine j1 Tryz.func120 (hat ..) ?_|refine j1 Tryz.func120 (hat2 ..) ?_|refine jv Tryz.func123 (hin ..) ?_|(apply qi;apply j9 ([0]);exact jW Tryz.func142 rfl rfl;exact hcon;(case hz=>(refine qA (q4 rfl) (qA (jO q5 (qA (qah rfl (by simp) (vR (fun row hrow=>by rw [List.mem_singleton.1 hrow];rfl))) q5)) q5)));(case hfl=>rfl);(case hN=>exact nle rfl)))|((first|refine qf ?_ ?_|refine qe ?_ ?_|refine xsC ?_ ?_);all_goals (intro hc;have hp:=hc;try simp at hp;try (exfalso;omega)))|refine qX ?_ ?_)
    all_goals try (exfalso;omega)
    all_goals (apply jY;rfl;clear hat hat2 hcon hpa hin;simp_all)
end Go.Proofs.YtamejbkifpjhiaaGreatDoor
