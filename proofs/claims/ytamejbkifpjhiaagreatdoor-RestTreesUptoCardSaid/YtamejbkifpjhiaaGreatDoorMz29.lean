import Derived.Test.YtamejbkifpjhiaaGreatDoorMz28
set_option linter.unusedSimpArgs false
set_option linter.unnecessarySimpa false
set_option linter.unusedVariables false
set_option maxHeartbeats 1000000
namespace Go.Proofs.YtamejbkifpjhiaaGreatDoor
open Go.Ab Go.RowKit
set_option maxRecDepth 10000
attribute [local irreducible] Awp yH jH jw Red ja Go.Ab.Fin qZ Rz vn jr jp ResOk j3 jC yC jA
noncomputable def Vi:Code:=match Tryz.f35.body with|some c=>c|none => .skip
def W9 (M T:List Ent):Option MS → List Ent × List Cpy × Int
 | none=>([],[],2)
 | some s=>if 60 < s.out.length then ([],[],2) else (s.out.map (vl M T),s.cps,0)
theorem qaW (b m t:List Ent):zh b m t = W9 m t (vG b m t):=by
 unfold zh W9
 cases vG b m t<;>rfl
def V1 (o:List Ent):Prop := ∀ e,e ∈ o → e.ver = 1
theorem KU {o:List Ent} {x:Ent} (hs:qU jf o = true) (h:V1 o) (hx:x.ver = 1):V1 (jR o x):=fun e he=>by
 rcases kF hs he with rfl|h1
 ·exact hx
 ·exact h e h1
theorem qfO {o:List Ent} {p:qP} {x:Thg} (hs:qU jf o = true) (h:V1 o):V1 (wy o p x):=by
 unfold wy
 split
 ·exact h
 ·exact KU hs h rfl
theorem qcY {o:List Ent} {p:qP} {x:Thg} (hs:qU jf o = true):qU jf (wy o p x) = true:=by
 unfold wy
 split
 ·exact hs
 ·exact yW hs
theorem qbZ (b m t:List Ent) : ∀ (P:List qP) (o:List Ent),qU jf o = true → V1 o → V1 (P.foldl (fun o p=>wy o p (x3 b m t p).1) o)
 | [],o,_,h=>h
 | p :: P,o,hs,h=>qbZ b m t P _ (qcY hs) (qfO hs h)
theorem qbp {p:qP} : ∀ {a b:List Ent},a.map Xk = b.map Xk → stT a p = stT b p
 | [],[],_=>rfl
 | [],y :: b,h=>by cases h
 | x :: a,[],h=>by cases h
 | x :: a,y :: b,h=>by
   rw [List.map_cons,List.map_cons] at h
   injection h with h1 h2
   have ih:=qbp (p:=p) h2
   have k1:x.path = y.path:=congrArg (·.1) h1
   have k2:x.fold = y.fold:=congrArg (·.2.1) h1
   have k3:x.text = y.text:=congrArg (·.2.2) h1
   have hg:xS x = xS y:=by unfold xS;rw [k2,k3]
   unfold stT qW at *
   rw [List.find?_cons,List.find?_cons,show atP p x = atP p y from by unfold atP;rw [k1]]
   cases atP p y
   ·exact ih
   ·exact hg
def wAt (M T o:List Ent) (i:Nat):List Ent:=(o.take i).map (vl M T) ++ o.drop i
theorem qfQ (M T o:List Ent) (i:Nat):(wAt M T o i).length = o.length:=by
 unfold wAt;simp;omega
theorem qb5 (M T o:List Ent) (i:Nat):(wAt M T o i).map Xk = o.map Xk:=by
 unfold wAt
 rw [List.map_append,List.map_map]
 have:(Xk ∘ vl M T) = Xk:=by funext e;rfl
 rw [this, ← List.map_append,List.take_append_drop]
theorem qb4 {M T o:List Ent} {i:Nat} (h:i < o.length):(wAt M T o i)[i]? = some o[i]:=by
 unfold wAt
 rw [List.getElem?_append_right (by simp;omega)]
 simp
 rw [show i - min i o.length = 0 from by omega]
 simp [h]
theorem qfR {M T o:List Ent} {i:Nat} (h:i < o.length):(wAt M T o i).set i (vl M T o[i]) = wAt M T o (i + 1):=by
 unfold wAt
 have hl:((o.take i).map (vl M T)).length = i:=by simp;omega
 rw [List.set_append_right _ _ (by omega),hl,Nat.sub_self,List.take_succ_eq_append_getElem h,List.map_append,List.append_assoc]
 congr 1
 conv=>lhs;rw [List.drop_eq_getElem_cons h]
 rfl
theorem qfP (M T o:List Ent):wAt M T o o.length = o.map (vl M T):=by
 unfold wAt;simp
theorem X4 {t o:List Ent} (ho:qU jf o = true) {e:Ent} (he:e ∈ o):(stT o e.path = stT t e.path ∧ ∃ (k:Nat) (y:Ent),k < t.length ∧ xj (atP e.path) t = k ∧ (t.map Ent.row)[k]? = some y.row ∧ zV t e = some y.ver) ∨ (¬ stT o e.path = stT t e.path ∧ zV t e = none):=by
 have hl:=vw ho he
 have h1:stT o e.path = xS e:=by unfold stT;rw [hl]
 rw [h1]
 have hne:¬ xS e = noT:=by
  unfold xS noT
  split<;>intro h<;>injection h with h2<;>exact absurd h2 (by decide)
 unfold zV
 rcases J4 (atP e.path) t with ⟨h2,h3⟩|⟨k,hk,h2,h3⟩
 ·refine .inr ⟨?_,by unfold qW;rw [h3]⟩
  unfold stT qW;rw [h3];exact hne
 ·have h4:stT t e.path = xS t[k]:=by unfold stT qW;rw [h3]
  rw [h4]
  by_cases h5:xS e = xS t[k]
  ·exact .inl ⟨h5,k,t[k],hk,h2,jB (f:=Ent.row) hk,by unfold qW;rw [h3];simp [h5]⟩
  ·exact .inr ⟨h5,by unfold qW;rw [h3];simp;exact fun h=>h5 h.symm⟩
set_option maxHeartbeats 16000000 in
theorem qfo (M T:List Ent) (s:MS) (iS:qU jf s.out = true) (v1:V1 s.out) (lS:s.out.length ≤ 60) (lM:M.length ≤ 60) (lT:T.length ≤ 60) :
  Awp CF 281 (tl 14 Vi) (Kl CF #[ResultVar.tmp 6,ResultVar.tmp 7,ResultVar.tmp 8] 0 (Qz (s.out.map (vl M T),s.cps,0)) []) ⟨[(4,.fp [[qa M]] 0 0),(5,.fp [[qa T]] 0 0),(13,.op 0 0 0),(14,.op 2 0 0)],[(0,.own false 1 [[.os 1 0 s.out.length]]),(1,.own false 4 (s.out.map Ent.row)),(2,.own false 1 [[.os 3 0 s.cps.length]]),(3,.own false 2 (s.cps.map Cpy.row))],4⟩:=by
 conv=>arg 3;whnf
 unfold Qz we
 have w0:wAt M T s.out 0 = s.out:=by unfold wAt;simp
 have wl:=qfQ M T s.out
 have hwn:=qfP M T s.out
 repeat' (first|refine qn ?_|fail|((first|refine qf ?_ ?_|refine qe ?_ ?_|refine xsC ?_ ?_);all_goals (intro hc;have hp:=hc;try simp at hp;try (exfalso;omega)))|refine qX ?_ ?_)
 (refine Awp.red (qB (τ:=⟨[(4,.fp [[qa M]] 0 0),(5,.fp [[qa T]] 0 0),(13,.op 0 0 0),(14,.op 2 0 0),(33,.v (.int .i64 ((0:Nat):Int)))],[(0,.own false 1 [[.os 1 0 s.out.length]]),(1,.own false 4 ((wAt M T s.out 0).map Ent.row)),(2,.own false 1 [[.os 3 0 s.cps.length]]),(3,.own false 2 (s.cps.map Cpy.row))],4⟩) [(0,0),(1,1),(2,2),(3,3)] rfl ?gts2 ?ghs2) ?_;(case gts2=>(repeat (first|exact qg|refine qo ?_|refine yg ?_|refine xM ?_|refine zi ?_|refine xN ?_ ?_|refine qY ?_ ?_));all_goals trace_state);(case ghs2=>(repeat' (first|exact qj|refine jx ?_|refine yY ?_ ?_|refine zy ?_|refine q6 ?_ ?_|exact ql|apply qd|exact qk rfl|exact ju rfl|refine ju ?_|(apply yX;(first|exact qN rfl|exact .inr (List.mem_cons_self ..)|exact .inr (List.mem_cons_of_mem _ (List.mem_cons_self ..))|exact .inr (List.mem_cons_of_mem _ (List.mem_cons_of_mem _ (List.mem_cons_self ..)))|exact .inr (List.mem_cons_of_mem _ (List.mem_cons_of_mem _ (List.mem_cons_of_mem _ (List.mem_cons_self ..))))))));all_goals (first|(rw [w0];done)|trace_state)))
 refine qV (fun n σ => ∃ i:Nat,i ≤ s.out.length ∧ n = s.out.length - i ∧ True ∧ σ = ⟨[(4,.fp [[qa M]] 0 0),(5,.fp [[qa T]] 0 0),(13,.op 0 0 0),(14,.op 2 0 0),(33,.v (.int .i64 (i:Int)))],[(0,.own false 1 [[.os 1 0 s.out.length]]),(1,.own false 4 ((wAt M T s.out i).map Ent.row)),(2,.own false 1 [[.os 3 0 s.cps.length]]),(3,.own false 2 (s.cps.map Cpy.row))],4⟩) s.out.length ⟨0,by omega,rfl,trivial,rfl⟩ ?_
 rintro n σ ⟨i,hi,rfl, -,rfl⟩
 by_cases hlt:i < s.out.length
 ·have hrow:((wAt M T s.out i).map Ent.row)[i]? = some s.out[i].row:=by rw [List.getElem?_map,qb4 hlt];rfl
  have hst : ∀ p,stT (wAt M T s.out i) p = stT s.out p:=fun p=>qbp (qb5 M T s.out i)
  have hwl:=wl i
  have hwg:=qb4 (M:=M) (T:=T) hlt
  have hws:=qfR (M:=M) (T:=T) hlt
  have hwk:=qb5 M T s.out i
  have he:=List.getElem_mem hlt
  have hv:=v1 _ he
  have hA1:=Ye (wAt M T s.out i) M s.out[i].path (by omega) (by omega)
  rw [hst] at hA1
  have cM:=X4 (t:=M) iS he
  have cT:=X4 (t:=T) iS he
  have hE1:=yl M s.out[i].path (by omega)
  have hE2:=yl T s.out[i].path (by omega)
  have hkey : ∀ v:Int,((wAt M T s.out i).set i { s.out[i] with ver:=v }).map Xk = s.out.map Xk:=fun v=>by
   rw [List.map_set,hwk,show Xk { s.out[i] with ver:=v } = Xk s.out[i] from rfl]
   rw [← List.getElem_map (l:=s.out) Xk (h:=by simpa using hlt)]
   exact List.set_getElem_self _
  have hA2 : ∀ w:List Ent,w.map Xk = s.out.map Xk → w.length ≤ 1000000000 → xH C.P 87 [qa w,qa T,.v (str s.out[i].path)] (.v (.bool (decide (stT s.out s.out[i].path = stT T s.out[i].path)))):=fun w hw hl=>by
   have:=Ye w T s.out[i].path hl (by omega)
   rw [qbp hw] at this
   exact this
  have hvE:vl M T s.out[i] = { s.out[i] with ver:=kK M T s.out[i] }:=rfl
  rw [hvE] at hws
  have hvo:kK M T s.out[i] = (match zV T s.out[i] with|some v=>v|none=>match zV M s.out[i] with|some v=>v|none=>1):=rfl
  generalize kK M T s.out[i] = V at *
  generalize wAt M T s.out i = w at *
  generalize hw' : wAt M T s.out (i + 1) = w' at *
  generalize zV M s.out[i] = aM at *
  generalize zV T s.out[i] = aT at *
  generalize hst0:stT s.out s.out[i].path = q0 at *
  generalize stT M s.out[i].path = qM at *
  generalize stT T s.out[i].path = qT at *
  generalize xj (atP s.out[i].path) M = kM at *
  generalize xj (atP s.out[i].path) T = kT at *
  generalize hee:s.out[i] = e at *
  obtain ⟨ep,ef,et,ev⟩:=e
  dsimp only at *
  subst hv
  rcases cM with ⟨cM,k1,⟨yp,yf,yt,yv⟩,hk1,rfl,rowM,rfl⟩|⟨cM,rfl⟩
  ·rw [decide_eq_true cM] at hA1
   have rowM' : (M.map Ent.row)[((k1:Nat):Int).toNat]? = some (Ent.row ⟨yp,yf,yt,yv⟩):=rowM
   have hA3:=hA2 (w.set i ⟨ep,ef,et,yv⟩) (hkey yv) (by rw [List.length_set];omega)
   rcases cT with ⟨cT,k2,⟨zp,zf,zt,zv⟩,hk2,rfl,rowT,rfl⟩|⟨cT,rfl⟩
   ·rw [decide_eq_true cT] at hA3
    have rowT' : (T.map Ent.row)[((k2:Nat):Int).toNat]? = some (Ent.row ⟨zp,zf,zt,zv⟩):=rowT
    obtain rfl:V = zv:=hvo
    repeat' (first|refine qn ?_|(first|(refine xC ?_)|(apply qi;apply j9 ([1]);exact jW Tryz.func87 rfl rfl;apply hA1;(case hz=>(repeat' (first|exact q5|apply qA|exact q4 rfl|exact yE|(apply jU;(case hn=>rfl);(case hl=>first|with_reducible rfl|(simp;done)|(simp [*];done)|omega);(case hp=>(first|assumption|exact jZ rfl|exact qK fun _=>rfl)))|apply jX|apply jO)));(case hfl=>rfl);(case hN=>exact nle rfl))|refine jv Tryz.func75 (hE1 ..) ?_|refine jv Tryz.func75 (hE2 ..) ?_|(apply qi;apply j9 ([1]);exact jW Tryz.func87 rfl rfl;apply hA3;(case hz=>first|exact qA (zr (by rw [List.map_set]) (hl:=by rw [List.length_set,List.length_map,hwl])) (qA (q4 rfl) (qA (q4 rfl) q5))|fail);(case hfl=>rfl);(case hN=>exact nle rfl)))|((first|refine qf ?_ ?_|refine qe ?_ ?_|refine xsC ?_ ?_);all_goals (intro hc;have hp:=hc;try simp at hp;try (exfalso;omega)))|refine qX ?_ ?_)
    all_goals try (exfalso;first|omega|contradiction|simp_all;done)
    all_goals (refine ⟨s.out.length - (i + 1),⟨[(4,.fp [[qa M]] 0 0),(5,.fp [[qa T]] 0 0),(13,.op 0 0 0),(14,.op 2 0 0),(33,.v (.int .i64 ((i + 1:Nat):Int)))],[(0,.own false 1 [[.os 1 0 s.out.length]]),(1,.own false 4 (w'.map Ent.row)),(2,.own false 1 [[.os 3 0 s.cps.length]]),(3,.own false 2 (s.cps.map Cpy.row))],4⟩,by omega,?_,i + 1,by omega,rfl,trivial,(by rw [hw'])⟩;refine qB [(0,0),(1,1),(2,2),(3,3)] rfl ?gts ?ghs;(case gts=>(repeat (first|exact qg|refine qo ?_|refine yg ?_|refine xM ?_|refine zi ?_|refine xN ?_ ?_|refine qY ?_ ?_));all_goals trace_state);(case ghs=>(repeat' (first|exact qj|refine jx ?_|refine yY ?_ ?_|refine zy ?_|refine q6 ?_ ?_|exact ql|apply qd|exact qk rfl|exact ju rfl|refine ju ?_|(apply yX;(first|exact qN rfl|exact .inr (List.mem_cons_self ..)|exact .inr (List.mem_cons_of_mem _ (List.mem_cons_self ..))|exact .inr (List.mem_cons_of_mem _ (List.mem_cons_of_mem _ (List.mem_cons_self ..)))|exact .inr (List.mem_cons_of_mem _ (List.mem_cons_of_mem _ (List.mem_cons_of_mem _ (List.mem_cons_self ..))))))));all_goals (first|(rw [← hws,List.map_set];done)|(rw [← hws,List.map_set];rfl)|(rw [← hws,List.map_set,List.set_set];done)|(rw [← hws,List.map_set,List.set_set];rfl)|trace_state)))
   ·rw [decide_eq_false cT] at hA3
    obtain rfl:V = yv:=hvo
    repeat' (first|refine qn ?_|(first|(refine xC ?_)|(apply qi;apply j9 ([1]);exact jW Tryz.func87 rfl rfl;apply hA1;(case hz=>(repeat' (first|exact q5|apply qA|exact q4 rfl|exact yE|(apply jU;(case hn=>rfl);(case hl=>first|with_reducible rfl|(simp;done)|(simp [*];done)|omega);(case hp=>(first|assumption|exact jZ rfl|exact qK fun _=>rfl)))|apply jX|apply jO)));(case hfl=>rfl);(case hN=>exact nle rfl))|refine jv Tryz.func75 (hE1 ..) ?_|refine jv Tryz.func75 (hE2 ..) ?_|(apply qi;apply j9 ([1]);exact jW Tryz.func87 rfl rfl;apply hA3;(case hz=>first|exact qA (zr (by rw [List.map_set]) (hl:=by rw [List.length_set,List.length_map,hwl])) (qA (q4 rfl) (qA (q4 rfl) q5))|fail);(case hfl=>rfl);(case hN=>exact nle rfl)))|((first|refine qf ?_ ?_|refine qe ?_ ?_|refine xsC ?_ ?_);all_goals (intro hc;have hp:=hc;try simp at hp;try (exfalso;omega)))|refine qX ?_ ?_)
    all_goals try (exfalso;first|omega|contradiction|simp_all;done)
    all_goals (refine ⟨s.out.length - (i + 1),⟨[(4,.fp [[qa M]] 0 0),(5,.fp [[qa T]] 0 0),(13,.op 0 0 0),(14,.op 2 0 0),(33,.v (.int .i64 ((i + 1:Nat):Int)))],[(0,.own false 1 [[.os 1 0 s.out.length]]),(1,.own false 4 (w'.map Ent.row)),(2,.own false 1 [[.os 3 0 s.cps.length]]),(3,.own false 2 (s.cps.map Cpy.row))],4⟩,by omega,?_,i + 1,by omega,rfl,trivial,(by rw [hw'])⟩;refine qB [(0,0),(1,1),(2,2),(3,3)] rfl ?gts ?ghs;(case gts=>(repeat (first|exact qg|refine qo ?_|refine yg ?_|refine xM ?_|refine zi ?_|refine xN ?_ ?_|refine qY ?_ ?_));all_goals trace_state);(case ghs=>(repeat' (first|exact qj|refine jx ?_|refine yY ?_ ?_|refine zy ?_|refine q6 ?_ ?_|exact ql|apply qd|exact qk rfl|exact ju rfl|refine ju ?_|(apply yX;(first|exact qN rfl|exact .inr (List.mem_cons_self ..)|exact .inr (List.mem_cons_of_mem _ (List.mem_cons_self ..))|exact .inr (List.mem_cons_of_mem _ (List.mem_cons_of_mem _ (List.mem_cons_self ..)))|exact .inr (List.mem_cons_of_mem _ (List.mem_cons_of_mem _ (List.mem_cons_of_mem _ (List.mem_cons_self ..))))))));all_goals (first|(rw [← hws,List.map_set];done)|(rw [← hws,List.map_set];rfl)|(rw [← hws,List.map_set,List.set_set];done)|(rw [← hws,List.map_set,List.set_set];rfl)|trace_state)))
  ·rw [decide_eq_false cM] at hA1
   have hA3:=hA2 w hwk (by omega)
   rcases cT with ⟨cT,k2,⟨zp,zf,zt,zv⟩,hk2,rfl,rowT,rfl⟩|⟨cT,rfl⟩
   ·rw [decide_eq_true cT] at hA3
    have rowT' : (T.map Ent.row)[((k2:Nat):Int).toNat]? = some (Ent.row ⟨zp,zf,zt,zv⟩):=rowT
    obtain rfl:V = zv:=hvo
    repeat' (first|refine qn ?_|(first|(refine xC ?_)|(apply qi;apply j9 ([1]);exact jW Tryz.func87 rfl rfl;apply hA1;(case hz=>(repeat' (first|exact q5|apply qA|exact q4 rfl|exact yE|(apply jU;(case hn=>rfl);(case hl=>first|with_reducible rfl|(simp;done)|(simp [*];done)|omega);(case hp=>(first|assumption|exact jZ rfl|exact qK fun _=>rfl)))|apply jX|apply jO)));(case hfl=>rfl);(case hN=>exact nle rfl))|(apply qi;apply j9 ([1]);exact jW Tryz.func87 rfl rfl;apply hA3;(case hz=>(repeat' (first|exact q5|apply qA|exact q4 rfl|exact yE|(apply jU;(case hn=>rfl);(case hl=>first|with_reducible rfl|(simp;done)|(simp [*];done)|omega);(case hp=>(first|assumption|exact jZ rfl|exact qK fun _=>rfl)))|apply jX|apply jO)));(case hfl=>rfl);(case hN=>exact nle rfl))|refine jv Tryz.func75 (hE1 ..) ?_|refine jv Tryz.func75 (hE2 ..) ?_)|((first|refine qf ?_ ?_|refine qe ?_ ?_|refine xsC ?_ ?_);all_goals (intro hc;have hp:=hc;try simp at hp;try (exfalso;omega)))|refine qX ?_ ?_)
    all_goals try (exfalso;first|omega|contradiction|simp_all;done)
    all_goals (refine ⟨s.out.length - (i + 1),⟨[(4,.fp [[qa M]] 0 0),(5,.fp [[qa T]] 0 0),(13,.op 0 0 0),(14,.op 2 0 0),(33,.v (.int .i64 ((i + 1:Nat):Int)))],[(0,.own false 1 [[.os 1 0 s.out.length]]),(1,.own false 4 (w'.map Ent.row)),(2,.own false 1 [[.os 3 0 s.cps.length]]),(3,.own false 2 (s.cps.map Cpy.row))],4⟩,by omega,?_,i + 1,by omega,rfl,trivial,(by rw [hw'])⟩;refine qB [(0,0),(1,1),(2,2),(3,3)] rfl ?gts ?ghs;(case gts=>(repeat (first|exact qg|refine qo ?_|refine yg ?_|refine xM ?_|refine zi ?_|refine xN ?_ ?_|refine qY ?_ ?_));all_goals trace_state);(case ghs=>(repeat' (first|exact qj|refine jx ?_|refine yY ?_ ?_|refine zy ?_|refine q6 ?_ ?_|exact ql|apply qd|exact qk rfl|exact ju rfl|refine ju ?_|(apply yX;(first|exact qN rfl|exact .inr (List.mem_cons_self ..)|exact .inr (List.mem_cons_of_mem _ (List.mem_cons_self ..))|exact .inr (List.mem_cons_of_mem _ (List.mem_cons_of_mem _ (List.mem_cons_self ..)))|exact .inr (List.mem_cons_of_mem _ (List.mem_cons_of_mem _ (List.mem_cons_of_mem _ (List.mem_cons_self ..))))))));all_goals (first|(rw [← hws,List.map_set];done)|(rw [← hws,List.map_set];rfl)|(rw [← hws,List.map_set,List.set_set];done)|(rw [← hws,List.map_set,List.set_set];rfl)|trace_state)))
   ·rw [decide_eq_false cT] at hA3
    obtain rfl:V = 1:=hvo
    have hsame:w = w':=by
     rw [← hws]
     have hg:w[i]? = some ⟨ep,ef,et,1⟩:=by
      have:=hwg
      exact this
     obtain ⟨hiw,hg⟩:=List.getElem?_eq_some_iff.1 hg
     rw [← hg]
     exact (List.set_getElem_self _).symm
    subst hsame
    repeat' (first|refine qn ?_|(first|(refine xC ?_)|(apply qi;apply j9 ([1]);exact jW Tryz.func87 rfl rfl;apply hA1;(case hz=>(repeat' (first|exact q5|apply qA|exact q4 rfl|exact yE|(apply jU;(case hn=>rfl);(case hl=>first|with_reducible rfl|(simp;done)|(simp [*];done)|omega);(case hp=>(first|assumption|exact jZ rfl|exact qK fun _=>rfl)))|apply jX|apply jO)));(case hfl=>rfl);(case hN=>exact nle rfl))|(apply qi;apply j9 ([1]);exact jW Tryz.func87 rfl rfl;apply hA3;(case hz=>(repeat' (first|exact q5|apply qA|exact q4 rfl|exact yE|(apply jU;(case hn=>rfl);(case hl=>first|with_reducible rfl|(simp;done)|(simp [*];done)|omega);(case hp=>(first|assumption|exact jZ rfl|exact qK fun _=>rfl)))|apply jX|apply jO)));(case hfl=>rfl);(case hN=>exact nle rfl)))|((first|refine qf ?_ ?_|refine qe ?_ ?_|refine xsC ?_ ?_);all_goals (intro hc;have hp:=hc;try simp at hp;try (exfalso;omega)))|refine qX ?_ ?_)
    all_goals try (exfalso;first|omega|contradiction|simp_all;done)
    all_goals (refine ⟨s.out.length - (i + 1),⟨[(4,.fp [[qa M]] 0 0),(5,.fp [[qa T]] 0 0),(13,.op 0 0 0),(14,.op 2 0 0),(33,.v (.int .i64 ((i + 1:Nat):Int)))],[(0,.own false 1 [[.os 1 0 s.out.length]]),(1,.own false 4 (w.map Ent.row)),(2,.own false 1 [[.os 3 0 s.cps.length]]),(3,.own false 2 (s.cps.map Cpy.row))],4⟩,by omega,?_,i + 1,by omega,rfl,trivial,(by rw [hw'])⟩;refine qB [(0,0),(1,1),(2,2),(3,3)] rfl ?gts ?ghs;(case gts=>(repeat (first|exact qg|refine qo ?_|refine yg ?_|refine xM ?_|refine zi ?_|refine xN ?_ ?_|refine qY ?_ ?_));all_goals trace_state);(case ghs=>(repeat' (first|exact qj|refine jx ?_|refine yY ?_ ?_|refine zy ?_|refine q6 ?_ ?_|exact ql|apply qd|exact qk rfl|exact ju rfl|refine ju ?_|(apply yX;(first|exact qN rfl|exact .inr (List.mem_cons_self ..)|exact .inr (List.mem_cons_of_mem _ (List.mem_cons_self ..))|exact .inr (List.mem_cons_of_mem _ (List.mem_cons_of_mem _ (List.mem_cons_self ..)))|exact .inr (List.mem_cons_of_mem _ (List.mem_cons_of_mem _ (List.mem_cons_of_mem _ (List.mem_cons_self ..))))))));all_goals trace_state))
 obtain rfl:i = s.out.length:=by omega
 rw [hwn]
 repeat' (first|refine qn ?_|(first|(refine xC ?_))|((first|refine qf ?_ ?_|refine qe ?_ ?_|refine xsC ?_ ?_);all_goals (intro hc;have hp:=hc;try simp at hp;try (exfalso;omega)))|refine qX ?_ ?_)
 all_goals try (exfalso;omega)
 all_goals ((exact zO (rs:=[.tmp 6,.tmp 7,.tmp 8])))
end Go.Proofs.YtamejbkifpjhiaaGreatDoor
set_option linter.unusedSimpArgs false
set_option linter.unnecessarySimpa false
set_option linter.unusedVariables false
set_option maxHeartbeats 1000000
namespace Go.Proofs.YtamejbkifpjhiaaGreatDoor
open Go.Ab Go.RowKit
set_option maxRecDepth 10000
attribute [local irreducible] Awp yH jH jw Red ja Go.Ab.Fin qZ Rz vn jr jp ResOk j3 jC yC jA
theorem qcQ (p:qP) {j:Nat} (h:j < (jE p).length) (hp:qH p = 0):xH C.P 78 [.sl false ((((qu p).map qO).take (j + 1)).drop 0)] (.v (str (jE p)[j])):=by
 have hq:=QD hp (List.getElem_mem h)
 have hl:=qQ hq
 rw [vH h] at *
 have hn:=xV p
 have hs:=qQ hp
 have h1:=Vm ((qu p).take (j + 1)) (by rw [List.length_take];omega) (by omega)
 rw [List.drop_zero, ← List.map_take]
 exact h1
set_option maxHeartbeats 32000000 in
theorem qfn (M T:List Ent) (s:MS) (iS:MInv s.out) (hv1:V1 s.out) (lS:s.out.length ≤ 360) (hcl0:s.cps.length ≤ 180) (lM:M.length ≤ 60) (lT:T.length ≤ 60) (R:Option MS) (hms2:kn M T ((s.out.map Ent.path).flatMap jE) s = R) :
  Awp CF 281 (tl 11 Vi) (Kl CF #[ResultVar.tmp 6,ResultVar.tmp 7,ResultVar.tmp 8] 0 (Qz (W9 M T R)) []) ⟨[(4,.fp [[qa M]] 0 0),(5,.fp [[qa T]] 0 0),(13,.op 0 0 0),(14,.op 3 0 0),(15,.op 2 0 0),(16,.clo (.func 84) [] [.fp [[qa M]] 0 0,.fp [[qa T]] 0 0,.op 0 0 0,.op 2 0 0,.op 3 0 0])],[(0,.own false 1 [[.os 1 0 s.out.length]]),(1,.own false 4 (s.out.map Ent.row)),(2,.own false 1 [[.clo (.func 83) [] [.op 0 0 0]]]),(3,.own false 1 [[.os 4 0 s.cps.length]]),(4,.own false 2 (s.cps.map Cpy.row))],5⟩:=by
 conv=>arg 3;whnf
 have pS : ∀ x,x ∈ s.out → qH x.path = 0:=fun x hx=>(jz (iS.ent x hx)).1
 have hri0:=iS.rise
 generalize hK:s.out = K at *
 have hK3 : ∀ i,(K.map Ent.path).drop i = (K.drop i).map Ent.path:=fun i=>by rw [List.map_drop]
 repeat' (first|refine qn ?_|(first|(refine jL ?_)|(apply xe;apply wO;(case hx=>rfl);(case hT=>rfl);(case he=>rfl);(case hE=>rfl);(case hz=>rfl);(case hsrc=>(apply QP;rfl;rfl;exact Nat.le_of_eq (by simp);rfl;exact xw fun _=>rfl));(case hsz=>(first|omega|(simp only [List.length_append,List.length_drop,List.length_take,List.length_map,List.length_cons,List.length_nil];omega)|(simp;omega)));(case hlen=>(first|omega|(simp only [List.length_append,List.length_drop,List.length_take,List.length_map,List.length_cons,List.length_nil];omega)|(simp;omega)));(case hN=>exact nle rfl)))|((first|refine qf ?_ ?_|refine qe ?_ ?_|refine xsC ?_ ?_);all_goals (intro hc;have hp:=hc;try simp at hp;try (exfalso;omega)))|refine qX ?_ ?_)
 all_goals try (exfalso;omega)
 (refine Awp.red (qB (τ:=⟨[(4,.fp [[qa M]] 0 0),(5,.fp [[qa T]] 0 0),(13,.op 0 0 0),(14,.op 3 0 0),(15,.op 2 0 0),(16,.clo (.func 84) [] [.fp [[qa M]] 0 0,.fp [[qa T]] 0 0,.op 0 0 0,.op 2 0 0,.op 3 0 0]),(26,.os 5 0 K.length),(27,.v (.int .i64 ((0:Nat):Int)))],[(0,.own false 1 [[.os 1 0 K.length]]),(1,.own false 4 (K.map Ent.row)),(2,.own false 1 [[.clo (.func 83) [] [.op 0 0 0]]]),(3,.own false 1 [[.os 4 0 s.cps.length]]),(4,.own false 2 (s.cps.map Cpy.row)),(5,.own false 4 (K.map Ent.row))],6⟩) [(0,0),(1,1),(2,2),(3,3),(4,4),(5,5)] rfl ?_ ?_) ?_;rotate_left 2;rotate_left 1;(focus ((repeat (first|exact qg|refine qo ?_|refine xQ ?_|refine xl ?_|refine yu ?_|refine yw ?_ ?_|refine qY ?_ ?_));all_goals (first|(simp;done)|trace_state)));(focus ((repeat' (first|exact qj|refine jx ?_|refine yy ?_ ?_|refine vJ ?_|refine yx ?_ ?_|exact ql|apply qd|exact qk rfl|exact jm rfl|refine jm ?_|exact yA trivial));all_goals (first|(simp;done)|(exact (by rw [List.drop_zero,List.take_of_length_le (by simp)]))|trace_state))))
 refine qV (fun n σ => ∃ (i:Nat) (s:MS),i ≤ K.length ∧ n = K.length - i ∧ (kn M T (((K.map Ent.path).drop i).flatMap jE) s = R ∧ qU jf s.out = true ∧ V1 s.out ∧ s.cps.length ≤ 180 + 80 * i ∧ s.out.length ≤ 360 + 160 * i) ∧ σ = ⟨[(4,.fp [[qa M]] 0 0),(5,.fp [[qa T]] 0 0),(13,.op 0 0 0),(14,.op 3 0 0),(15,.op 2 0 0),(16,.clo (.func 84) [] [.fp [[qa M]] 0 0,.fp [[qa T]] 0 0,.op 0 0 0,.op 2 0 0,.op 3 0 0]),(26,.os 5 0 K.length),(27,.v (.int .i64 (i:Int)))],[(0,.own false 1 [[.os 1 0 s.out.length]]),(1,.own false 4 (s.out.map Ent.row)),(2,.own false 1 [[.clo (.func 83) [] [.op 0 0 0]]]),(3,.own false 1 [[.os 4 0 s.cps.length]]),(4,.own false 2 (s.cps.map Cpy.row)),(5,.own false 4 (K.map Ent.row))],6⟩) K.length ⟨0,s,by omega,rfl,⟨by rw [← hms2];rfl,by rw [hK];exact hri0,by rw [hK];exact hv1,by omega,by rw [hK];omega⟩,by rw [hK]⟩ ?_
 clear hri0 hcl0 hms2 iS hv1 hK s
 rintro n σ ⟨i,s,hi,rfl,⟨hpa,hri,hv1,hcl,hol⟩,rfl⟩
 by_cases hlt:i < K.length
 ·have hrow:(K.map Ent.row)[i]? = some K[i].row:=jB (f:=Ent.row) hlt
  have hpe:=pS K[i] (List.getElem_mem hlt)
  have lQ:=V3 hpe
  have lN:=yO K[i].path
  have lN0:=xV K[i].path
  have lP:=qQ hpe
  have rQ : ∀ a,a ∈ jE K[i].path → qH a = 0:=fun a ha=>QD hpe ha
  have hnames:=zd K[i].path (by omega)
  have hpar:=fun j (h:j < (jE K[i].path).length)=>qcQ K[i].path h hpe
  have hNpos:=Xs K[i].path
  rw [List.drop_eq_getElem_cons (by rw [List.length_map];exact hlt),List.flatMap_cons,List.getElem_map] at hpa
  generalize hRest:((K.map Ent.path).drop (i + 1)).flatMap jE = rest at *
  generalize K[i] = e at *
  obtain ⟨p,ef,et,ev⟩:=e
  dsimp only at *
  generalize jE p = Q at *
  generalize qu p = NN at *
  have hmn:(NN.map qO).length = NN.length:=List.length_map ..
  have hrk : ∀ row,row ∈ NN.map qO → row.length = 1:=by
   intro row h
   obtain ⟨s,_,rfl⟩:=List.mem_map.1 h
   rfl
  repeat' (first|refine qn ?_|(first|(refine xC ?_)|refine j1 Tryz.func79 (hnames ..) ?_)|((first|refine qf ?_ ?_|refine qe ?_ ?_|refine xsC ?_ ?_);all_goals (intro hc;have hp:=hc;try simp at hp;try (exfalso;omega)))|refine qX ?_ ?_)
  all_goals try (exfalso;first|omega|contradiction)
  clear hnames hpe
  (refine Awp.red (qB (τ:=⟨[(4,.fp [[qa M]] 0 0),(5,.fp [[qa T]] 0 0),(13,.op 0 0 0),(14,.op 3 0 0),(15,.op 2 0 0),(16,.clo (.func 84) [] [.fp [[qa M]] 0 0,.fp [[qa T]] 0 0,.op 0 0 0,.op 2 0 0,.op 3 0 0]),(26,.os 5 0 K.length),(27,.v (.int .i64 (i:Int))),(28,.sl false (NN.map qO)),(29,.v (.int .i64 ((0 + 1:Nat):Int)))],[(0,.own false 1 [[.os 1 0 s.out.length]]),(1,.own false 4 (s.out.map Ent.row)),(2,.own false 1 [[.clo (.func 83) [] [.op 0 0 0]]]),(3,.own false 1 [[.os 4 0 s.cps.length]]),(4,.own false 2 (s.cps.map Cpy.row)),(5,.own false 4 (K.map Ent.row))],6⟩) [(0,0),(1,1),(2,2),(3,3),(4,4),(5,5)] rfl ?_ ?_) ?_;rotate_left 2;rotate_left 1;(focus ((repeat (first|exact qg|refine qo ?_|refine xQ ?_|refine xl ?_|refine yu ?_|refine yw ?_ ?_|refine qY ?_ ?_));all_goals trace_state));(focus ((repeat' (first|exact qj|refine jx ?_|refine yy ?_ ?_|refine vJ ?_|refine yx ?_ ?_|exact ql|apply qd|exact qk rfl|exact jm rfl|refine jm ?_|exact yA trivial));all_goals trace_state)))
  refine qV (fun n σ => ∃ (j:Nat) (s:MS),j ≤ Q.length ∧ n = Q.length - j ∧ (kn M T (Q.drop j ++ rest) s = R ∧ qU jf s.out = true ∧ V1 s.out ∧ s.cps.length ≤ 180 + 80 * i + j ∧ s.out.length ≤ 360 + 160 * i + 2 * j) ∧ σ = ⟨[(4,.fp [[qa M]] 0 0),(5,.fp [[qa T]] 0 0),(13,.op 0 0 0),(14,.op 3 0 0),(15,.op 2 0 0),(16,.clo (.func 84) [] [.fp [[qa M]] 0 0,.fp [[qa T]] 0 0,.op 0 0 0,.op 2 0 0,.op 3 0 0]),(26,.os 5 0 K.length),(27,.v (.int .i64 (i:Int))),(28,.sl false (NN.map qO)),(29,.v (.int .i64 ((j + 1:Nat):Int)))],[(0,.own false 1 [[.os 1 0 s.out.length]]),(1,.own false 4 (s.out.map Ent.row)),(2,.own false 1 [[.clo (.func 83) [] [.op 0 0 0]]]),(3,.own false 1 [[.os 4 0 s.cps.length]]),(4,.own false 2 (s.cps.map Cpy.row)),(5,.own false 4 (K.map Ent.row))],6⟩) Q.length ⟨0,s,by omega,rfl,⟨hpa,hri,hv1,by omega,by omega⟩,rfl⟩ ?_
  clear hpa hri hv1 hcl hol s
  rintro n σ ⟨j,s,hj,rfl,⟨hpa,hri,hv1,hcl,hol⟩,rfl⟩
  by_cases hjl:j < Q.length
  ·have hqe:=rQ Q[j] (List.getElem_mem hjl)
   have hqs:=qQ hqe
   have hpo:=hpar j hjl
   have hst:=wV s.out Q[j] (by omega)
   rw [List.drop_eq_getElem_cons hjl,List.cons_append,V2] at hpa
   generalize Q[j] = q at *
   have hjn:j + 1 ≤ (NN.map qO).length:=by omega
   have hro2:qU jf (jR s.out (⟨q,true,[],1⟩ : Ent)) = true:=yW hri
   have hv2:V1 (jR s.out (⟨q,true,[],1⟩ : Ent)):=KU hri hv1 rfl
   have hl2:=wv s.out ⟨q,true,[],1⟩
   have hgood:=ku s.out q
   have p1 := @WS M T s q
   have p0 := @ZR M T s q
   have p2 := @WT M T s q
   have hput:=Vo s.out _ q 1 [] (by decide) hri (by omega) rfl
   generalize hv:stT s.out q = v at *
   obtain ⟨vk,vt⟩:=v
   dsimp only at p1 p0 p2 hst
   generalize hN:jR s.out (⟨q,true,[],1⟩ : Ent) = N at *
   have hN' : jR s.out ⟨q,decide ((1:Int) = 1),[],1⟩ = N:=hN
   rw [hN'] at hput
   by_cases hk1:vk = 1
   ·subst hk1
    rw [p1 rfl] at hpa
    clear p1 p0 p2 hput
    repeat' (first|refine qn ?_|(first|(apply qi;apply xZ (ex':=false) (a:=0) (b:=j + 1) (m:=0);(case hx=>rfl);(case hT=>rfl);(case he=>rfl);(case hE=>rfl);(case ha=>rfl);(case hb=>exact ⟨_,rfl⟩);(case hm=>trivial);(case hab=>(first|omega|(simp;done)|(simp only [List.length_cons,List.length_nil,List.length_map];omega)|(simp;omega)));(case hbl=>(first|omega|(simp;done)|(simp only [List.length_cons,List.length_nil,List.length_map];omega)|(simp;omega)));(case hrk=>exact hrk);(case hex=>exact nofun);(case hN=>exact nle rfl))|refine jv Tryz.func78 (hpo ..) ?_|(apply qi;apply j9 ([1]);exact jW Tryz.func86 rfl rfl;apply hst;(case hz=>(repeat' (first|exact q5|apply qA|exact q4 rfl|exact yE|(apply jU;(case hn=>rfl);(case hl=>first|with_reducible rfl|(simp;done)|(simp [*];done)|omega);(case hp=>(first|assumption|exact jZ rfl|exact qK fun _=>rfl)))|apply jX|apply jO)));(case hfl=>rfl);(case hN=>exact nle rfl)))|((first|refine qf ?_ ?_|refine qe ?_ ?_|refine xsC ?_ ?_);all_goals (intro hc;have hp:=hc;try simp at hp;try (exfalso;omega)))|refine qX ?_ ?_)
    all_goals try (exfalso;first|omega|contradiction|simp_all;done)
    all_goals (refine ⟨Q.length - (j + 1),⟨[(4,.fp [[qa M]] 0 0),(5,.fp [[qa T]] 0 0),(13,.op 0 0 0),(14,.op 3 0 0),(15,.op 2 0 0),(16,.clo (.func 84) [] [.fp [[qa M]] 0 0,.fp [[qa T]] 0 0,.op 0 0 0,.op 2 0 0,.op 3 0 0]),(26,.os 5 0 K.length),(27,.v (.int .i64 (i:Int))),(28,.sl false (NN.map qO)),(29,.v (.int .i64 ((j + 1 + 1:Nat):Int)))],[(0,.own false 1 [[.os 1 0 s.out.length]]),(1,.own false 4 (s.out.map Ent.row)),(2,.own false 1 [[.clo (.func 83) [] [.op 0 0 0]]]),(3,.own false 1 [[.os 4 0 s.cps.length]]),(4,.own false 2 (s.cps.map Cpy.row)),(5,.own false 4 (K.map Ent.row))],6⟩,by omega,?_,j + 1,s,by omega,rfl,⟨hpa,hri,hv1,by omega,by omega⟩,rfl⟩;refine qB [(0,0),(1,1),(2,2),(3,3),(4,4),(5,5)] rfl ?_ ?_;(focus ((repeat (first|exact qg|refine qo ?_|refine xQ ?_|refine xl ?_|refine yu ?_|refine yw ?_ ?_|refine qY ?_ ?_));all_goals trace_state));(focus ((repeat' (first|exact qj|refine jx ?_|refine yy ?_ ?_|refine vJ ?_|refine yx ?_ ?_|exact ql|apply qd|exact qk rfl|exact jm rfl|refine jm ?_|exact yA trivial));all_goals trace_state)))
   ·by_cases hk2:vk = 2
    ·subst hk2
     have ano:=JO M T N s.cps q vt (by omega) lM lT (by omega)
     have ayes:=fun q'=>QY M T N s.cps q vt q' (by omega) lM lT (by omega) hro2 (by omega)
     rw [p2 rfl] at hpa
     clear p1 p0 p2
     repeat' (first|refine qn ?_|(first|(apply qi;apply xZ (ex':=false) (a:=0) (b:=j + 1) (m:=0);(case hx=>rfl);(case hT=>rfl);(case he=>rfl);(case hE=>rfl);(case ha=>rfl);(case hb=>exact ⟨_,rfl⟩);(case hm=>trivial);(case hab=>(first|omega|(simp;done)|(simp only [List.length_cons,List.length_nil,List.length_map];omega)|(simp;omega)));(case hbl=>(first|omega|(simp;done)|(simp only [List.length_cons,List.length_nil,List.length_map];omega)|(simp;omega)));(case hrk=>exact hrk);(case hex=>exact nofun);(case hN=>exact nle rfl))|refine jv Tryz.func78 (hpo ..) ?_|(apply qi;apply j9 ([1]);exact jW Tryz.func86 rfl rfl;apply hst;(case hz=>(repeat' (first|exact q5|apply qA|exact q4 rfl|exact yE|(apply jU;(case hn=>rfl);(case hl=>first|with_reducible rfl|(simp;done)|(simp [*];done)|omega);(case hp=>(first|assumption|exact jZ rfl|exact qK fun _=>rfl)))|apply jX|apply jO)));(case hfl=>rfl);(case hN=>exact nle rfl)))|((first|refine qf ?_ ?_|refine qe ?_ ?_|refine xsC ?_ ?_);all_goals (intro hc;have hp:=hc;try simp at hp;try (exfalso;omega)))|refine qX ?_ ?_)
     all_goals try (exfalso;first|omega|contradiction|simp_all;done)
     refine xd (C:=CF) (first:=[]) (cap:=[.op 0 0 0]) [0,1] [6] [(0,.own false 1 [[.os 6 0 N.length]]),(1,.dead),(6,.own false 4 (N.map Ent.row))] 7 (.tup []) Tryz.func83 (hput) (by ((repeat' (first|exact q9|apply qR|exact q8 rfl|exact jy|(apply qm;apply qD;exact .inr (of_decide_eq_true rfl))|(apply qm;apply qt;exact .inr (of_decide_eq_true rfl))|(apply qm;apply qz;exact .inr (of_decide_eq_true rfl))|apply jd|apply je)))<;>fail) (by ((repeat' (first|exact qG|exact qF|refine qx _ ?_ ?_|refine qw ?_ ?_|exact qq|exact qb (qh _)|exact qb (qL _)|exact qb (qp _)|exact qv (fun _=>rfl)|refine qy ?_|exact ql|apply qd|exact qk rfl|(apply qt;exact .inr (of_decide_eq_true rfl))|(apply qz;exact .inr (of_decide_eq_true rfl))|(apply qD;exact .inr (of_decide_eq_true rfl))|exact jc (qK fun _=>rfl))))<;>fail) (by ((repeat' (first|exact qG|exact qF|refine qx _ ?_ ?_|refine qw ?_ ?_|exact qq|exact qb (qh _)|exact qb (qL _)|exact qb (qp _)|exact qv (fun _=>rfl)|refine qy ?_|exact ql|apply qd|exact qk rfl|(apply qt;exact .inr (of_decide_eq_true rfl))|(apply qz;exact .inr (of_decide_eq_true rfl))|(apply qD;exact .inr (of_decide_eq_true rfl))|exact jc (qK fun _=>rfl))))<;>fail) ?_
     repeat' (first|refine qn ?_|(first|fail)|((first|refine qf ?_ ?_|refine qe ?_ ?_|refine xsC ?_ ?_);all_goals (intro hc;have hp:=hc;try simp at hp;try (exfalso;omega)))|refine qX ?_ ?_)
     all_goals try (exfalso;first|omega|contradiction|simp_all;done)
     cases hasd:xX M T N q 99 1 with
     | none =>
       rw [wC hasd] at hpa
       have hR:R = none:=hpa.symm
       rw [hR]
       refine xd (C:=CF) (first:=[]) (cap:=[.fp [[qa M]] 0 0,.fp [[qa T]] 0 0,.op 0 0 0,.op 2 0 0,.op 3 0 0]) [0,6,2,3,4] [] [(0,.own false 1 [[.os 6 0 N.length]]),(6,.own false 4 (N.map Ent.row)),(2,.own false 1 [[.clo (.func 83) [] [.op 0 0 0]]]),(3,.own false 1 [[.os 4 0 s.cps.length]]),(4,.own false 2 (s.cps.map Cpy.row))] 7 (.v (.bool false)) Tryz.func84 (ano hasd) (by ((repeat' (first|exact q9|apply qR|exact q8 rfl|exact jy|(apply qm;apply qD;exact .inr (of_decide_eq_true rfl))|(apply qm;apply qt;exact .inr (of_decide_eq_true rfl))|(apply qm;apply qz;exact .inr (of_decide_eq_true rfl))|apply jd|apply je)))<;>fail) (by ((repeat' (first|exact qG|exact qF|refine qx _ ?_ ?_|refine qw ?_ ?_|exact qq|exact qv (fun _=>rfl)|exact jc (qK fun _=>rfl)|refine qy ?_|exact ql|apply qd|exact qk rfl|(apply qz;exact .inr (of_decide_eq_true rfl))|(apply qD;exact .inr (of_decide_eq_true rfl))|(apply yX;exact .inr (of_decide_eq_true rfl)))))<;>fail) (by ((repeat' (first|exact qG|exact qF|refine qx _ ?_ ?_|refine qw ?_ ?_|exact qq|exact qv (fun _=>rfl)|exact jc (qK fun _=>rfl)|refine qy ?_|exact ql|apply qd|exact qk rfl|(apply qz;exact .inr (of_decide_eq_true rfl))|(apply qD;exact .inr (of_decide_eq_true rfl))|(apply yX;exact .inr (of_decide_eq_true rfl)))))<;>fail) ?_
       repeat' (first|refine qn ?_|(first|fail)|((first|refine qf ?_ ?_|refine qe ?_ ?_|refine xsC ?_ ?_);all_goals (intro hc;have hp:=hc;try simp at hp;try (exfalso;omega)))|refine qX ?_ ?_)
       all_goals try (exfalso;first|omega|contradiction|simp_all;done)
       all_goals unfold W9 Qz we
       all_goals ((exact zO (rs:=[.tmp 6,.tmp 7,.tmp 8])))
     | some q' =>
       rw [wD hasd] at hpa
       have hro3:qU jf (jR N (⟨q',false,vt,1⟩ : Ent)) = true:=yW hro2
       have hv3:V1 (jR N (⟨q',false,vt,1⟩ : Ent)):=KU hro2 hv2 rfl
       have hl3:=wv N ⟨q',false,vt,1⟩
       generalize hN2:jR N (⟨q',false,vt,1⟩ : Ent) = N2 at *
       have hay:=ayes q' hasd N2 hN2
       refine xd (C:=CF) (first:=[]) (cap:=[.fp [[qa M]] 0 0,.fp [[qa T]] 0 0,.op 0 0 0,.op 2 0 0,.op 3 0 0]) [0,6,2,3,4] [7,8] [(0,.own false 1 [[.os 7 0 N2.length]]),(6,.dead),(2,.own false 1 [[.clo (.func 83) [] [.op 0 0 0]]]),(3,.own false 1 [[.os 8 0 (s.cps ++ [(⟨q,q'⟩ : Cpy)]).length]]),(4,.dead),(7,.own false 4 (N2.map Ent.row)),(8,.own false 2 ((s.cps ++ [(⟨q,q'⟩ : Cpy)]).map Cpy.row))] 9 (.v (.bool true)) Tryz.func84 (hay) (by ((repeat' (first|exact q9|apply qR|exact q8 rfl|exact jy|(apply qm;apply qD;exact .inr (of_decide_eq_true rfl))|(apply qm;apply qt;exact .inr (of_decide_eq_true rfl))|(apply qm;apply qz;exact .inr (of_decide_eq_true rfl))|apply jd|apply je)))<;>fail) (by ((repeat' (first|exact qG|exact qF|refine qx _ ?_ ?_|refine qw ?_ ?_|exact qq|exact qv (fun _=>rfl)|exact jc (qK fun _=>rfl)|refine qy ?_|exact ql|apply qd|exact qk rfl|(apply qz;exact .inr (of_decide_eq_true rfl))|(apply qD;exact .inr (of_decide_eq_true rfl))|(apply yX;exact .inr (of_decide_eq_true rfl)))))<;>fail) (by ((repeat' (first|exact qG|exact qF|refine qx _ ?_ ?_|refine qw ?_ ?_|exact qq|exact qv (fun _=>rfl)|exact jc (qK fun _=>rfl)|refine qy ?_|exact ql|apply qd|exact qk rfl|(apply qz;exact .inr (of_decide_eq_true rfl))|(apply qD;exact .inr (of_decide_eq_true rfl))|(apply yX;exact .inr (of_decide_eq_true rfl)))))<;>fail) ?_
       repeat' (first|refine qn ?_|(first|fail)|((first|refine qf ?_ ?_|refine qe ?_ ?_|refine xsC ?_ ?_);all_goals (intro hc;have hp:=hc;try simp at hp;try (exfalso;omega)))|refine qX ?_ ?_)
       all_goals try (exfalso;first|omega|contradiction|simp_all;done)
       all_goals (refine ⟨Q.length - (j + 1),⟨[(4,.fp [[qa M]] 0 0),(5,.fp [[qa T]] 0 0),(13,.op 0 0 0),(14,.op 3 0 0),(15,.op 2 0 0),(16,.clo (.func 84) [] [.fp [[qa M]] 0 0,.fp [[qa T]] 0 0,.op 0 0 0,.op 2 0 0,.op 3 0 0]),(26,.os 5 0 K.length),(27,.v (.int .i64 (i:Int))),(28,.sl false (NN.map qO)),(29,.v (.int .i64 ((j + 1 + 1:Nat):Int)))],[(0,.own false 1 [[.os 1 0 N2.length]]),(1,.own false 4 (N2.map Ent.row)),(2,.own false 1 [[.clo (.func 83) [] [.op 0 0 0]]]),(3,.own false 1 [[.os 4 0 (s.cps ++ [(⟨q,q'⟩ : Cpy)]).length]]),(4,.own false 2 ((s.cps ++ [(⟨q,q'⟩ : Cpy)]).map Cpy.row)),(5,.own false 4 (K.map Ent.row))],6⟩,by omega,?_,j + 1,⟨N2,s.cps ++ [(⟨q,q'⟩ : Cpy)]⟩,by omega,rfl,⟨hpa,hro3,hv3,by simp;omega,by simp only;omega⟩,rfl⟩;refine qB [(0,0),(7,1),(2,2),(3,3),(8,4),(5,5)] rfl ?_ ?_;(focus ((repeat (first|exact qg|refine qo ?_|refine xQ ?_|refine xl ?_|refine yu ?_|refine yw ?_ ?_|refine qY ?_ ?_));all_goals trace_state));(focus ((repeat' (first|exact qj|refine jx ?_|refine yy ?_ ?_|refine vJ ?_|refine yx ?_ ?_|exact ql|apply qd|exact qk rfl|exact jm rfl|refine jm ?_|exact yA trivial));all_goals trace_state)))
    ·rw [p0 hk1 hk2] at hpa
     clear p1 p0 p2
     repeat' (first|refine qn ?_|(first|(apply qi;apply xZ (ex':=false) (a:=0) (b:=j + 1) (m:=0);(case hx=>rfl);(case hT=>rfl);(case he=>rfl);(case hE=>rfl);(case ha=>rfl);(case hb=>exact ⟨_,rfl⟩);(case hm=>trivial);(case hab=>(first|omega|(simp;done)|(simp only [List.length_cons,List.length_nil,List.length_map];omega)|(simp;omega)));(case hbl=>(first|omega|(simp;done)|(simp only [List.length_cons,List.length_nil,List.length_map];omega)|(simp;omega)));(case hrk=>exact hrk);(case hex=>exact nofun);(case hN=>exact nle rfl))|refine jv Tryz.func78 (hpo ..) ?_|(apply qi;apply j9 ([1]);exact jW Tryz.func86 rfl rfl;apply hst;(case hz=>(repeat' (first|exact q5|apply qA|exact q4 rfl|exact yE|(apply jU;(case hn=>rfl);(case hl=>first|with_reducible rfl|(simp;done)|(simp [*];done)|omega);(case hp=>(first|assumption|exact jZ rfl|exact qK fun _=>rfl)))|apply jX|apply jO)));(case hfl=>rfl);(case hN=>exact nle rfl)))|((first|refine qf ?_ ?_|refine qe ?_ ?_|refine xsC ?_ ?_);all_goals (intro hc;have hp:=hc;try simp at hp;try (exfalso;omega)))|refine qX ?_ ?_)
     all_goals try (exfalso;first|omega|contradiction|simp_all;done)
     refine xd (C:=CF) (first:=[]) (cap:=[.op 0 0 0]) [0,1] [6] [(0,.own false 1 [[.os 6 0 N.length]]),(1,.dead),(6,.own false 4 (N.map Ent.row))] 7 (.tup []) Tryz.func83 (hput) (by ((repeat' (first|exact q9|apply qR|exact q8 rfl|exact jy|(apply qm;apply qD;exact .inr (of_decide_eq_true rfl))|(apply qm;apply qt;exact .inr (of_decide_eq_true rfl))|(apply qm;apply qz;exact .inr (of_decide_eq_true rfl))|apply jd|apply je)))<;>fail) (by ((repeat' (first|exact qG|exact qF|refine qx _ ?_ ?_|refine qw ?_ ?_|exact qq|exact qb (qh _)|exact qb (qL _)|exact qb (qp _)|exact qv (fun _=>rfl)|refine qy ?_|exact ql|apply qd|exact qk rfl|(apply qt;exact .inr (of_decide_eq_true rfl))|(apply qz;exact .inr (of_decide_eq_true rfl))|(apply qD;exact .inr (of_decide_eq_true rfl))|exact jc (qK fun _=>rfl))))<;>fail) (by ((repeat' (first|exact qG|exact qF|refine qx _ ?_ ?_|refine qw ?_ ?_|exact qq|exact qb (qh _)|exact qb (qL _)|exact qb (qp _)|exact qv (fun _=>rfl)|refine qy ?_|exact ql|apply qd|exact qk rfl|(apply qt;exact .inr (of_decide_eq_true rfl))|(apply qz;exact .inr (of_decide_eq_true rfl))|(apply qD;exact .inr (of_decide_eq_true rfl))|exact jc (qK fun _=>rfl))))<;>fail) ?_
     repeat' (first|refine qn ?_|(first|fail)|((first|refine qf ?_ ?_|refine qe ?_ ?_|refine xsC ?_ ?_);all_goals (intro hc;have hp:=hc;try simp at hp;try (exfalso;omega)))|refine qX ?_ ?_)
     all_goals try (exfalso;first|omega|contradiction|simp_all;done)
     all_goals (refine ⟨Q.length - (j + 1),⟨[(4,.fp [[qa M]] 0 0),(5,.fp [[qa T]] 0 0),(13,.op 0 0 0),(14,.op 3 0 0),(15,.op 2 0 0),(16,.clo (.func 84) [] [.fp [[qa M]] 0 0,.fp [[qa T]] 0 0,.op 0 0 0,.op 2 0 0,.op 3 0 0]),(26,.os 5 0 K.length),(27,.v (.int .i64 (i:Int))),(28,.sl false (NN.map qO)),(29,.v (.int .i64 ((j + 1 + 1:Nat):Int)))],[(0,.own false 1 [[.os 1 0 N.length]]),(1,.own false 4 (N.map Ent.row)),(2,.own false 1 [[.clo (.func 83) [] [.op 0 0 0]]]),(3,.own false 1 [[.os 4 0 s.cps.length]]),(4,.own false 2 (s.cps.map Cpy.row)),(5,.own false 4 (K.map Ent.row))],6⟩,by omega,?_,j + 1,⟨N,s.cps⟩,by omega,rfl,⟨hpa,hro2,hv2,by simp only;omega,by simp only;omega⟩,rfl⟩;refine qB [(0,0),(6,1),(2,2),(3,3),(4,4),(5,5)] rfl ?_ ?_;(focus ((repeat (first|exact qg|refine qo ?_|refine xQ ?_|refine xl ?_|refine yu ?_|refine yw ?_ ?_|refine qY ?_ ?_));all_goals trace_state));(focus ((repeat' (first|exact qj|refine jx ?_|refine yy ?_ ?_|refine vJ ?_|refine yx ?_ ?_|exact ql|apply qd|exact qk rfl|exact jm rfl|refine jm ?_|exact yA trivial));all_goals trace_state)))
  ·obtain rfl:j = Q.length:=by omega
   rw [List.drop_length,List.nil_append, ← hRest] at hpa
   repeat' (first|refine qn ?_|(first|fail)|((first|refine qf ?_ ?_|refine qe ?_ ?_|refine xsC ?_ ?_);all_goals (intro hc;have hp:=hc;try simp at hp;try (exfalso;omega)))|refine qX ?_ ?_)
   all_goals try (exfalso;first|omega|contradiction)
   all_goals (refine ⟨K.length - (i + 1),⟨[(4,.fp [[qa M]] 0 0),(5,.fp [[qa T]] 0 0),(13,.op 0 0 0),(14,.op 3 0 0),(15,.op 2 0 0),(16,.clo (.func 84) [] [.fp [[qa M]] 0 0,.fp [[qa T]] 0 0,.op 0 0 0,.op 2 0 0,.op 3 0 0]),(26,.os 5 0 K.length),(27,.v (.int .i64 ((i + 1:Nat):Int)))],[(0,.own false 1 [[.os 1 0 s.out.length]]),(1,.own false 4 (s.out.map Ent.row)),(2,.own false 1 [[.clo (.func 83) [] [.op 0 0 0]]]),(3,.own false 1 [[.os 4 0 s.cps.length]]),(4,.own false 2 (s.cps.map Cpy.row)),(5,.own false 4 (K.map Ent.row))],6⟩,by omega,?_,i + 1,s,by omega,rfl,⟨hpa,hri,hv1,by omega,by omega⟩,rfl⟩;refine qB [(0,0),(1,1),(2,2),(3,3),(4,4),(5,5)] rfl ?_ ?_;(focus ((repeat (first|exact qg|refine qo ?_|refine xQ ?_|refine xl ?_|refine yu ?_|refine yw ?_ ?_|refine qY ?_ ?_));all_goals trace_state));(focus ((repeat' (first|exact qj|refine jx ?_|refine yy ?_ ?_|refine vJ ?_|refine yx ?_ ?_|exact ql|apply qd|exact qk rfl|exact jm rfl|refine jm ?_|exact yA trivial));all_goals trace_state)))
 ·obtain rfl:i = K.length:=by omega
  rw [List.drop_eq_nil_of_le (by simp)] at hpa
  have hR2:R = some s:=hpa.symm
  rw [hR2]
  unfold W9
  by_cases h60:60 < s.out.length
  ·dsimp only
   rw [if_pos h60]
   unfold Qz we
   repeat' (first|refine qn ?_|(first|fail)|((first|refine qf ?_ ?_|refine qe ?_ ?_|refine xsC ?_ ?_);all_goals (intro hc;have hp:=hc;try simp at hp;try (exfalso;omega)))|refine qX ?_ ?_)
   all_goals try (exfalso;first|omega|contradiction)
   all_goals ((exact zO (rs:=[.tmp 6,.tmp 7,.tmp 8])))
  ·dsimp only
   rw [if_neg h60]
   repeat' (first|(refine Awp.red (qB (τ:=⟨[(4,.fp [[qa M]] 0 0),(5,.fp [[qa T]] 0 0),(13,.op 0 0 0),(14,.op 2 0 0)],[(0,.own false 1 [[.os 1 0 s.out.length]]),(1,.own false 4 (s.out.map Ent.row)),(2,.own false 1 [[.os 3 0 s.cps.length]]),(3,.own false 2 (s.cps.map Cpy.row))],4⟩) [(0,0),(1,1),(3,2),(4,3)] rfl ?_ ?_) ?_;rotate_left 2;exact qfo M T s hri hv1 (by omega) lM lT;(focus ((repeat (first|exact qg|refine qo ?_|refine xQ ?_|refine xl ?_|refine yu ?_|refine yw ?_ ?_|refine qY ?_ ?_));all_goals trace_state));(focus ((repeat' (first|exact qj|refine jx ?_|refine yy ?_ ?_|refine vJ ?_|refine yx ?_ ?_|exact ql|apply qd|exact qk rfl|exact jm rfl|refine jm ?_|exact yA trivial));all_goals trace_state)))|refine Zk ?_|((first|refine qf ?_ ?_|refine qe ?_ ?_|refine xsC ?_ ?_);all_goals (intro hc;have hp:=hc;try simp at hp;try (exfalso;omega)))|refine qX ?_ ?_)
end Go.Proofs.YtamejbkifpjhiaaGreatDoor
set_option linter.unusedSimpArgs false
set_option linter.unnecessarySimpa false
set_option linter.unusedVariables false
set_option maxHeartbeats 1000000
namespace Go.Proofs.YtamejbkifpjhiaaGreatDoor
open Go.Ab Go.RowKit
set_option maxRecDepth 10000
attribute [local irreducible] Awp yH jH jw Red ja Go.Ab.Fin qZ Rz vn jr jp ResOk j3 jC yC jA
theorem qd5 {m t:List Ent} : ∀ {l:List (qP × qP)} {s s' : MS},qU jf s.out = true → V1 s.out → Vd m t l s = some s' → V1 s'.out
 | [],s,s',_,h,e=>by injection e with e;subst e;exact h
 | g :: l,s,s',hr,h,e=>by
   unfold Vd at e
   cases h1:zg m t s g.1 g.2 with
   | none=>rw [h1] at e;cases e
   | some s1 =>
     rw [h1] at e
     unfold zg at h1
     split at h1
     ·cases h1
     ·injection h1 with h1
      subst h1
      exact qd5 (yW hr) (KU hr h rfl) e
set_option maxHeartbeats 32000000 in
theorem qfm (M T:List Ent) (G:List (qP × qP)) (O0:List Ent) (R:Option MS) (iO:MInv O0) (v0:V1 O0) (lO:O0.length ≤ 180) (lG:G.length ≤ 180) (lM:M.length ≤ 60) (lT:T.length ≤ 60) (gG : ∀ g,g ∈ G → qH g.1 = 0 ∧ g.2.length ≤ 300) (hms:(match Vd M T G ⟨O0,[]⟩ with|none=>none|some s=>kn M T ((s.out.map Ent.path).flatMap jE) s) = R) :
  Awp CF 281 (tl 10 Vi) (Kl CF #[ResultVar.tmp 6,ResultVar.tmp 7,ResultVar.tmp 8] 0 (Qz (W9 M T R)) []) ⟨[(4,.fp [[qa M]] 0 0),(5,.fp [[qa T]] 0 0),(13,.op 0 0 0),(14,.op 3 0 0),(15,.op 2 0 0),(16,.clo (.func 84) [] [.fp [[qa M]] 0 0,.fp [[qa T]] 0 0,.op 0 0 0,.op 2 0 0,.op 3 0 0]),(17,.os 5 0 G.length),(18,.os 6 0 G.length)],[(0,.own false 1 [[.os 1 0 O0.length]]),(1,.own false 4 (O0.map Ent.row)),(2,.own false 1 [[.clo (.func 83) [] [.op 0 0 0]]]),(3,.own false 1 [[.os 4 0 ([]:List Cpy).length]]),(4,.own false 2 (([]:List Cpy).map Cpy.row)),(5,.own false 1 (G.map fun g=>jn g.1)),(6,.own false 1 (G.map fun g=>jn g.2))],7⟩:=by
 conv=>arg 3;whnf
 repeat' (first|refine qn ?_|(first|fail)|((first|refine qf ?_ ?_|refine qe ?_ ?_|refine xsC ?_ ?_);all_goals (intro hc;have hp:=hc;try simp at hp;try (exfalso;omega)))|refine qX ?_ ?_)
 all_goals try (exfalso;omega)
 (refine Awp.red (qB (τ:=⟨[(4,.fp [[qa M]] 0 0),(5,.fp [[qa T]] 0 0),(13,.op 0 0 0),(14,.op 3 0 0),(15,.op 2 0 0),(16,.clo (.func 84) [] [.fp [[qa M]] 0 0,.fp [[qa T]] 0 0,.op 0 0 0,.op 2 0 0,.op 3 0 0]),(17,.os 5 0 G.length),(18,.os 6 0 G.length),(25,.v (.int .i64 ((0:Nat):Int)))],[(0,.own false 1 [[.os 1 0 O0.length]]),(1,.own false 4 (O0.map Ent.row)),(2,.own false 1 [[.clo (.func 83) [] [.op 0 0 0]]]),(3,.own false 1 [[.os 4 0 ([]:List Cpy).length]]),(4,.own false 2 (([]:List Cpy).map Cpy.row)),(5,.own false 1 (G.map fun g=>jn g.1)),(6,.own false 1 (G.map fun g=>jn g.2))],7⟩) [(0,0),(1,1),(2,2),(3,3),(4,4),(5,5),(6,6)] rfl ?_ ?_) ?_;rotate_left 2;rotate_left 1;(focus ((repeat (first|exact qg|refine qo ?_|refine xQ ?_|refine xl ?_|refine yu ?_|refine yw ?_ ?_|refine qY ?_ ?_));all_goals trace_state));(focus ((repeat' (first|exact qj|refine jx ?_|refine yy ?_ ?_|refine vJ ?_|refine yx ?_ ?_|exact ql|apply qd|exact qk rfl|exact jm rfl|refine jm ?_|exact yA trivial));all_goals trace_state)))
 refine qV (fun n σ => ∃ (i:Nat) (s:MS),i ≤ G.length ∧ n = G.length - i ∧ (Vd M T (G.drop i) s = Vd M T G ⟨O0,[]⟩ ∧ qU jf s.out = true ∧ s.cps.length ≤ i ∧ s.out.length ≤ 180 + i) ∧ σ = ⟨[(4,.fp [[qa M]] 0 0),(5,.fp [[qa T]] 0 0),(13,.op 0 0 0),(14,.op 3 0 0),(15,.op 2 0 0),(16,.clo (.func 84) [] [.fp [[qa M]] 0 0,.fp [[qa T]] 0 0,.op 0 0 0,.op 2 0 0,.op 3 0 0]),(17,.os 5 0 G.length),(18,.os 6 0 G.length),(25,.v (.int .i64 (i:Int)))],[(0,.own false 1 [[.os 1 0 s.out.length]]),(1,.own false 4 (s.out.map Ent.row)),(2,.own false 1 [[.clo (.func 83) [] [.op 0 0 0]]]),(3,.own false 1 [[.os 4 0 s.cps.length]]),(4,.own false 2 (s.cps.map Cpy.row)),(5,.own false 1 (G.map fun g=>jn g.1)),(6,.own false 1 (G.map fun g=>jn g.2))],7⟩) G.length ⟨0,⟨O0,[]⟩,by omega,rfl,⟨rfl,iO.rise,Nat.le_refl _,by simp only;omega⟩,rfl⟩ ?_
 rintro n σ ⟨i,s,hi,rfl,⟨hgo,hri,hcl,hol⟩,rfl⟩
 by_cases hlt:i < G.length
 ·have hrow1:(G.map fun g=>jn g.1)[i]? = some (jn G[i].1):=by rw [List.getElem?_map,List.getElem?_eq_getElem hlt];rfl
  have hrow2:(G.map fun g=>jn g.2)[i]? = some (jn G[i].2):=by rw [List.getElem?_map,List.getElem?_eq_getElem hlt];rfl
  have hdr:=Wy (m:=M) (t:=T) hlt s
  have hpe:=(gG G[i] (List.getElem_mem hlt)).1
  have hps:=qQ hpe
  generalize G[i].1 = p at *
  generalize G[i].2 = x at *
  have ano:=JO M T s.out s.cps p x (by omega) lM lT (by omega)
  have ayes:=fun q'=>QY M T s.out s.cps p x q' (by omega) lM lT (by omega) hri (by omega)
  repeat' (first|refine qn ?_|(first|(refine xC ?_))|((first|refine qf ?_ ?_|refine qe ?_ ?_|refine xsC ?_ ?_);all_goals (intro hc;have hp:=hc;try simp at hp;try (exfalso;omega)))|refine qX ?_ ?_)
  all_goals try (exfalso;first|omega|contradiction)
  cases hasd:xX M T s.out p 99 1 with
  | none =>
    refine xd (C:=CF) (first:=[]) (cap:=[.fp [[qa M]] 0 0,.fp [[qa T]] 0 0,.op 0 0 0,.op 2 0 0,.op 3 0 0]) [0,1,2,3,4] [] [(0,.own false 1 [[.os 1 0 s.out.length]]),(1,.own false 4 (s.out.map Ent.row)),(2,.own false 1 [[.clo (.func 83) [] [.op 0 0 0]]]),(3,.own false 1 [[.os 4 0 s.cps.length]]),(4,.own false 2 (s.cps.map Cpy.row))] 7 (.v (.bool false)) Tryz.func84 (ano hasd) (by ((repeat' (first|exact q9|apply qR|exact q8 rfl|exact jy|(apply qm;apply qD;exact .inr (of_decide_eq_true rfl))|(apply qm;apply qt;exact .inr (of_decide_eq_true rfl))|(apply qm;apply qz;exact .inr (of_decide_eq_true rfl))|apply jd|apply je)))<;>fail) (by ((repeat' (first|exact qG|exact qF|refine qx _ ?_ ?_|refine qw ?_ ?_|exact qq|exact qv (fun _=>rfl)|exact jc (qK fun _=>rfl)|refine qy ?_|exact ql|apply qd|exact qk rfl|(apply qz;exact .inr (of_decide_eq_true rfl))|(apply qD;exact .inr (of_decide_eq_true rfl))|(apply yX;exact .inr (of_decide_eq_true rfl)))))<;>fail) (by ((repeat' (first|exact qG|exact qF|refine qx _ ?_ ?_|refine qw ?_ ?_|exact qq|exact qv (fun _=>rfl)|exact jc (qK fun _=>rfl)|refine qy ?_|exact ql|apply qd|exact qk rfl|(apply qz;exact .inr (of_decide_eq_true rfl))|(apply qD;exact .inr (of_decide_eq_true rfl))|(apply yX;exact .inr (of_decide_eq_true rfl)))))<;>fail) ?_
    have hno:R = none:=by
     rw [← hms, ← hgo,hdr,wC hasd]
    rw [hno]
    unfold W9 Qz we
    repeat' (first|refine qn ?_|(first|fail)|((first|refine qf ?_ ?_|refine qe ?_ ?_|refine xsC ?_ ?_);all_goals (intro hc;have hp:=hc;try simp at hp;try (exfalso;omega)))|refine qX ?_ ?_)
    all_goals try (exfalso;first|omega|contradiction)
    all_goals ((exact zO (rs:=[.tmp 6,.tmp 7,.tmp 8])))
  | some q' =>
    rw [wD hasd] at hdr
    have hro3:qU jf (jR s.out (⟨q',false,x,1⟩ : Ent)) = true:=yW hri
    have hl3:=wv s.out ⟨q',false,x,1⟩
    generalize hN2:jR s.out (⟨q',false,x,1⟩ : Ent) = N2 at *
    have hay:=ayes q' hasd N2 hN2
    refine xd (C:=CF) (first:=[]) (cap:=[.fp [[qa M]] 0 0,.fp [[qa T]] 0 0,.op 0 0 0,.op 2 0 0,.op 3 0 0]) [0,1,2,3,4] [7,8] [(0,.own false 1 [[.os 7 0 N2.length]]),(1,.dead),(2,.own false 1 [[.clo (.func 83) [] [.op 0 0 0]]]),(3,.own false 1 [[.os 8 0 (s.cps ++ [(⟨p,q'⟩ : Cpy)]).length]]),(4,.dead),(7,.own false 4 (N2.map Ent.row)),(8,.own false 2 ((s.cps ++ [(⟨p,q'⟩ : Cpy)]).map Cpy.row))] 9 (.v (.bool true)) Tryz.func84 (hay) (by ((repeat' (first|exact q9|apply qR|exact q8 rfl|exact jy|(apply qm;apply qD;exact .inr (of_decide_eq_true rfl))|(apply qm;apply qt;exact .inr (of_decide_eq_true rfl))|(apply qm;apply qz;exact .inr (of_decide_eq_true rfl))|apply jd|apply je)))<;>fail) (by ((repeat' (first|exact qG|exact qF|refine qx _ ?_ ?_|refine qw ?_ ?_|exact qq|exact qv (fun _=>rfl)|exact jc (qK fun _=>rfl)|refine qy ?_|exact ql|apply qd|exact qk rfl|(apply qz;exact .inr (of_decide_eq_true rfl))|(apply qD;exact .inr (of_decide_eq_true rfl))|(apply yX;exact .inr (of_decide_eq_true rfl)))))<;>fail) (by ((repeat' (first|exact qG|exact qF|refine qx _ ?_ ?_|refine qw ?_ ?_|exact qq|exact qv (fun _=>rfl)|exact jc (qK fun _=>rfl)|refine qy ?_|exact ql|apply qd|exact qk rfl|(apply qz;exact .inr (of_decide_eq_true rfl))|(apply qD;exact .inr (of_decide_eq_true rfl))|(apply yX;exact .inr (of_decide_eq_true rfl)))))<;>fail) ?_
    repeat' (first|refine qn ?_|(first|fail)|((first|refine qf ?_ ?_|refine qe ?_ ?_|refine xsC ?_ ?_);all_goals (intro hc;have hp:=hc;try simp at hp;try (exfalso;omega)))|refine qX ?_ ?_)
    all_goals try (exfalso;first|omega|contradiction)
    all_goals (refine ⟨G.length - (i + 1),⟨[(4,.fp [[qa M]] 0 0),(5,.fp [[qa T]] 0 0),(13,.op 0 0 0),(14,.op 3 0 0),(15,.op 2 0 0),(16,.clo (.func 84) [] [.fp [[qa M]] 0 0,.fp [[qa T]] 0 0,.op 0 0 0,.op 2 0 0,.op 3 0 0]),(17,.os 5 0 G.length),(18,.os 6 0 G.length),(25,.v (.int .i64 ((i + 1:Nat):Int)))],[(0,.own false 1 [[.os 1 0 N2.length]]),(1,.own false 4 (N2.map Ent.row)),(2,.own false 1 [[.clo (.func 83) [] [.op 0 0 0]]]),(3,.own false 1 [[.os 4 0 (s.cps ++ [(⟨p,q'⟩ : Cpy)]).length]]),(4,.own false 2 ((s.cps ++ [(⟨p,q'⟩ : Cpy)]).map Cpy.row)),(5,.own false 1 (G.map fun g=>jn g.1)),(6,.own false 1 (G.map fun g=>jn g.2))],7⟩,by omega,?_,i + 1,⟨N2,s.cps ++ [(⟨p,q'⟩ : Cpy)]⟩,by omega,rfl,⟨hdr.symm.trans hgo,hro3,by simp;omega,by simp only;omega⟩,rfl⟩;refine qB [(0,0),(7,1),(2,2),(3,3),(8,4),(5,5),(6,6)] rfl ?_ ?_;(focus ((repeat (first|exact qg|refine qo ?_|refine xQ ?_|refine xl ?_|refine yu ?_|refine yw ?_ ?_|refine qY ?_ ?_));all_goals trace_state));(focus ((repeat' (first|exact qj|refine jx ?_|refine yy ?_ ?_|refine vJ ?_|refine yx ?_ ?_|exact ql|apply qd|exact qk rfl|exact jm rfl|refine jm ?_|exact yA trivial));all_goals trace_state)))
 ·obtain rfl:i = G.length:=by omega
  rw [List.drop_eq_nil_of_le (by omega)] at hgo
  have hgo2:Vd M T G ⟨O0,[]⟩ = some s:=hgo.symm
  have iS:MInv s.out:=YB (s:=⟨O0,[]⟩) iO gG hgo2
  have hv1:V1 s.out:=qd5 (s:=⟨O0,[]⟩) iO.rise v0 hgo2
  rw [hgo2] at hms
  repeat' (first|(refine Awp.red (qB (τ:=⟨[(4,.fp [[qa M]] 0 0),(5,.fp [[qa T]] 0 0),(13,.op 0 0 0),(14,.op 3 0 0),(15,.op 2 0 0),(16,.clo (.func 84) [] [.fp [[qa M]] 0 0,.fp [[qa T]] 0 0,.op 0 0 0,.op 2 0 0,.op 3 0 0])],[(0,.own false 1 [[.os 1 0 s.out.length]]),(1,.own false 4 (s.out.map Ent.row)),(2,.own false 1 [[.clo (.func 83) [] [.op 0 0 0]]]),(3,.own false 1 [[.os 4 0 s.cps.length]]),(4,.own false 2 (s.cps.map Cpy.row))],5⟩) [(0,0),(1,1),(2,2),(3,3),(4,4)] rfl ?_ ?_) ?_;rotate_left 2;exact qfn M T s iS hv1 (by omega) (by omega) lM lT R hms;(focus ((repeat (first|exact qg|refine qo ?_|refine xQ ?_|refine xl ?_|refine yu ?_|refine yw ?_ ?_|refine qY ?_ ?_));all_goals trace_state));(focus ((repeat' (first|exact qj|refine jx ?_|refine yy ?_ ?_|refine vJ ?_|refine yx ?_ ?_|exact ql|apply qd|exact qk rfl|exact jm rfl|refine jm ?_|exact yA trivial));all_goals trace_state)))|refine Zk ?_|((first|refine qf ?_ ?_|refine qe ?_ ?_|refine xsC ?_ ?_);all_goals (intro hc;have hp:=hc;try simp at hp;try (exfalso;omega)))|refine qX ?_ ?_)
end Go.Proofs.YtamejbkifpjhiaaGreatDoor
