import Derived.Test.YtnhpclmbhbblbaaGreatDoorMz34
set_option linter.unusedSimpArgs false
set_option linter.unnecessarySimpa false
set_option linter.unusedVariables false
set_option maxHeartbeats 1000000
namespace Go.Proofs.YtnhpclmbhbblbaaGreatDoor
open Go.Ab Go.RowKit
set_option maxRecDepth 10000
attribute [local irreducible] Awp yl jE jl Red qX Go.Ab.Fin qW Rz vl jj ji ResOk jV jz yb jv
noncomputable def Vk:Code:=match Tryz.f10.body with|some c=>c|none => .skip
def qao (M T:List Ent):Option MS → List Ent × List Cpy × Int
 | none=>([],[],2)
 | some s=>if 60 < s.out.length then ([],[],2) else (s.out.map (zH M T),s.cps,0)
theorem qa8 (b m t:List Ent):vW b m t = qao m t (vI b m t):=by
 unfold vW qao
 cases vI b m t<;>rfl
def V1 (o:List Ent):Prop := ∀ e,e ∈ o → e.ver = 1
theorem K8 {o:List Ent} {x:Ent} (hs:q4 jr o = true) (h:V1 o) (hx:x.ver = 1):V1 (jN o x):=fun e he=>by
 rcases kF hs he with rfl|h1
 ·exact hx
 ·exact h e h1
theorem qf3 {o:List Ent} {p:qQ} {x:Thg} (hs:q4 jr o = true) (h:V1 o):V1 (wJ o p x):=by
 unfold wJ
 split
 ·exact h
 ·exact K8 hs h rfl
theorem qcW {o:List Ent} {p:qQ} {x:Thg} (hs:q4 jr o = true):q4 jr (wJ o p x) = true:=by
 unfold wJ
 split
 ·exact hs
 ·exact yG hs
theorem qbT (b m t:List Ent) : ∀ (P:List qQ) (o:List Ent),q4 jr o = true → V1 o → V1 (P.foldl (fun o p=>wJ o p (xZ b m t p).1) o)
 | [],o,_,h=>h
 | p :: P,o,hs,h=>qbT b m t P _ (qcW hs) (qf3 hs h)
theorem qbo {p:qQ} : ∀ {a b:List Ent},a.map Xu = b.map Xu → stT a p = stT b p
 | [],[],_=>rfl
 | [],y :: b,h=>by cases h
 | x :: a,[],h=>by cases h
 | x :: a,y :: b,h=>by
   rw [List.map_cons,List.map_cons] at h
   injection h with h1 h2
   have ih:=qbo (p:=p) h2
   have k1:x.path = y.path:=congrArg (·.1) h1
   have k2:x.fold = y.fold:=congrArg (·.2.1) h1
   have k3:x.text = y.text:=congrArg (·.2.2) h1
   have hg:xO x = xO y:=by unfold xO;rw [k2,k3]
   unfold stT q7 at *
   rw [List.find?_cons,List.find?_cons,show atP p x = atP p y from by unfold atP;rw [k1]]
   cases atP p y
   ·exact ih
   ·exact hg
def wAt (M T o:List Ent) (i:Nat):List Ent:=(o.take i).map (zH M T) ++ o.drop i
theorem qf5 (M T o:List Ent) (i:Nat):(wAt M T o i).length = o.length:=by
 unfold wAt;simp;omega
theorem qb1 (M T o:List Ent) (i:Nat):(wAt M T o i).map Xu = o.map Xu:=by
 unfold wAt
 rw [List.map_append,List.map_map]
 have:(Xu ∘ zH M T) = Xu:=by funext e;rfl
 rw [this, ← List.map_append,List.take_append_drop]
theorem qb0 {M T o:List Ent} {i:Nat} (h:i < o.length):(wAt M T o i)[i]? = some o[i]:=by
 unfold wAt
 rw [List.getElem?_append_right (by simp;omega)]
 simp
 rw [show i - min i o.length = 0 from by omega]
 simp [h]
theorem qf6 {M T o:List Ent} {i:Nat} (h:i < o.length):(wAt M T o i).set i (zH M T o[i]) = wAt M T o (i + 1):=by
 unfold wAt
 have hl:((o.take i).map (zH M T)).length = i:=by simp;omega
 rw [List.set_append_right _ _ (by omega),hl,Nat.sub_self,List.take_succ_eq_append_getElem h,List.map_append,List.append_assoc]
 congr 1
 conv=>lhs;rw [List.drop_eq_getElem_cons h]
 rfl
theorem qf4 (M T o:List Ent):wAt M T o o.length = o.map (zH M T):=by
 unfold wAt;simp
theorem X2 {t o:List Ent} (ho:q4 jr o = true) {e:Ent} (he:e ∈ o):(stT o e.path = stT t e.path ∧ ∃ (k:Nat) (y:Ent),k < t.length ∧ xa (atP e.path) t = k ∧ (t.map Ent.row)[k]? = some y.row ∧ zU t e = some y.ver) ∨ (¬ stT o e.path = stT t e.path ∧ zU t e = none):=by
 have hl:=wB ho he
 have h1:stT o e.path = xO e:=by unfold stT;rw [hl]
 rw [h1]
 have hne:¬ xO e = noT:=by
  unfold xO noT
  split<;>intro h<;>injection h with h2<;>exact absurd h2 (by decide)
 unfold zU
 rcases Yb (atP e.path) t with ⟨h2,h3⟩|⟨k,hk,h2,h3⟩
 ·refine .inr ⟨?_,by unfold q7;rw [h3]⟩
  unfold stT q7;rw [h3];exact hne
 ·have h4:stT t e.path = xO t[k]:=by unfold stT q7;rw [h3]
  rw [h4]
  by_cases h5:xO e = xO t[k]
  ·exact .inl ⟨h5,k,t[k],hk,h2,js (f:=Ent.row) hk,by unfold q7;rw [h3];simp [h5]⟩
  ·exact .inr ⟨h5,by unfold q7;rw [h3];simp;exact fun h=>h5 h.symm⟩
set_option maxHeartbeats 16000000 in
theorem qfv (M T:List Ent) (s:MS) (iS:q4 jr s.out = true) (v1:V1 s.out) (lS:s.out.length ≤ 60) (lM:M.length ≤ 60) (lT:T.length ≤ 60) :
  Awp CF 281 (tl 14 Vk) (WI CF #[ResultVar.tmp 6,ResultVar.tmp 7,ResultVar.tmp 8] 0 (Q5 (s.out.map (zH M T),s.cps,0)) []) ⟨[(4,.fp [[qb M]] 0 0),(5,.fp [[qb T]] 0 0),(13,.op 0 0 0),(14,.op 2 0 0)],[(0,.own false 1 [[.os 1 0 s.out.length]]),(1,.own false 4 (s.out.map Ent.row)),(2,.own false 1 [[.os 3 0 s.cps.length]]),(3,.own false 2 (s.cps.map Cpy.row))],4⟩:=by
 conv=>arg 3;whnf
 unfold Q5 vf
 have w0:wAt M T s.out 0 = s.out:=by unfold wAt;simp
 have wl:=qf5 M T s.out
 have hwn:=qf4 M T s.out
 repeat' (first|refine qm ?_|fail|((first|refine qd ?_ ?_|refine qc ?_ ?_|refine xsC ?_ ?_);all_goals (intro hc;have hp:=hc;try simp at hp;try (exfalso;omega)))|refine qO ?_ ?_)
 (refine Awp.red (qC (τ:=⟨[(4,.fp [[qb M]] 0 0),(5,.fp [[qb T]] 0 0),(13,.op 0 0 0),(14,.op 2 0 0),(33,.v (.int .i64 ((0:Nat):Int)))],[(0,.own false 1 [[.os 1 0 s.out.length]]),(1,.own false 4 ((wAt M T s.out 0).map Ent.row)),(2,.own false 1 [[.os 3 0 s.cps.length]]),(3,.own false 2 (s.cps.map Cpy.row))],4⟩) [(0,0),(1,1),(2,2),(3,3)] rfl ?gts2 ?ghs2) ?_;(case gts2=>(repeat (first|exact qg|refine qn ?_|refine ye ?_|refine xr ?_|refine ze ?_|refine xw ?_ ?_|refine qS ?_ ?_));all_goals trace_state);(case ghs2=>(repeat' (first|exact qj|refine jt ?_|refine yH ?_ ?_|refine zz ?_|refine q9 ?_ ?_|exact ql|apply qh|exact qk rfl|exact jn rfl|refine jn ?_|(apply yI;(first|exact qJ rfl|exact .inr (List.mem_cons_self ..)|exact .inr (List.mem_cons_of_mem _ (List.mem_cons_self ..))|exact .inr (List.mem_cons_of_mem _ (List.mem_cons_of_mem _ (List.mem_cons_self ..)))|exact .inr (List.mem_cons_of_mem _ (List.mem_cons_of_mem _ (List.mem_cons_of_mem _ (List.mem_cons_self ..))))))));all_goals (first|(rw [w0];done)|trace_state)))
 refine qP (fun n σ => ∃ i:Nat,i ≤ s.out.length ∧ n = s.out.length - i ∧ True ∧ σ = ⟨[(4,.fp [[qb M]] 0 0),(5,.fp [[qb T]] 0 0),(13,.op 0 0 0),(14,.op 2 0 0),(33,.v (.int .i64 (i:Int)))],[(0,.own false 1 [[.os 1 0 s.out.length]]),(1,.own false 4 ((wAt M T s.out i).map Ent.row)),(2,.own false 1 [[.os 3 0 s.cps.length]]),(3,.own false 2 (s.cps.map Cpy.row))],4⟩) s.out.length ⟨0,by omega,rfl,trivial,rfl⟩ ?_
 rintro n σ ⟨i,hi,rfl, -,rfl⟩
 by_cases hlt:i < s.out.length
 ·have hrow:((wAt M T s.out i).map Ent.row)[i]? = some s.out[i].row:=by rw [List.getElem?_map,qb0 hlt];rfl
  have hst : ∀ p,stT (wAt M T s.out i) p = stT s.out p:=fun p=>qbo (qb1 M T s.out i)
  have hwl:=wl i
  have hwg:=qb0 (M:=M) (T:=T) hlt
  have hws:=qf6 (M:=M) (T:=T) hlt
  have hwk:=qb1 M T s.out i
  have he:=List.getElem_mem hlt
  have hv:=v1 _ he
  have hA1:=Yl (wAt M T s.out i) M s.out[i].path (by omega) (by omega)
  rw [hst] at hA1
  have cM:=X2 (t:=M) iS he
  have cT:=X2 (t:=T) iS he
  have hE1:=j8 M s.out[i].path (by omega)
  have hE2:=j8 T s.out[i].path (by omega)
  have hkey : ∀ v:Int,((wAt M T s.out i).set i { s.out[i] with ver:=v }).map Xu = s.out.map Xu:=fun v=>by
   rw [List.map_set,hwk,show Xu { s.out[i] with ver:=v } = Xu s.out[i] from rfl]
   rw [← List.getElem_map (l:=s.out) Xu (h:=by simpa using hlt)]
   exact List.set_getElem_self _
  have hA2 : ∀ w:List Ent,w.map Xu = s.out.map Xu → w.length ≤ 1000000000 → yO C.P 36 [qb w,qb T,.v (str s.out[i].path)] (.v (.bool (decide (stT s.out s.out[i].path = stT T s.out[i].path)))):=fun w hw hl=>by
   have:=Yl w T s.out[i].path hl (by omega)
   rw [qbo hw] at this
   exact this
  have hvE:zH M T s.out[i] = { s.out[i] with ver:=kK M T s.out[i] }:=rfl
  rw [hvE] at hws
  have hvo:kK M T s.out[i] = (match zU T s.out[i] with|some v=>v|none=>match zU M s.out[i] with|some v=>v|none=>1):=rfl
  generalize kK M T s.out[i] = V at *
  generalize wAt M T s.out i = w at *
  generalize hw' : wAt M T s.out (i + 1) = w' at *
  generalize zU M s.out[i] = aM at *
  generalize zU T s.out[i] = aT at *
  generalize hst0:stT s.out s.out[i].path = q0 at *
  generalize stT M s.out[i].path = qM at *
  generalize stT T s.out[i].path = qT at *
  generalize xa (atP s.out[i].path) M = kM at *
  generalize xa (atP s.out[i].path) T = kT at *
  generalize hee:s.out[i] = e at *
  obtain ⟨ep,ef,et,ev⟩:=e
  dsimp only at *
  subst hv
  rcases cM with ⟨cM,k1,⟨yp,yf,yt,yv⟩,hk1,rfl,rowM,rfl⟩|⟨cM,rfl⟩
  ·rw [decide_eq_true cM] at hA1
   have rowM' : (M.map Ent.row)[((k1:Nat):Int).toNat]? = some (Ent.row ⟨yp,yf,yt,yv⟩):=rowM
   have hA3:=hA2 (w.set i ⟨ep,ef,et,yv⟩) (hkey yv) (by rw [List.length_set];omega)
   rcases cT with ⟨cT,k2,⟨zp,zf,zt,zv⟩,hk2,rfl,rowT,rfl⟩|⟨cT,rfl⟩
   ·rw [decide_eq_true cT] at hA3
    have rowT' : (T.map Ent.row)[((k2:Nat):Int).toNat]? = some (Ent.row ⟨zp,zf,zt,zv⟩):=rowT
    obtain rfl:V = zv:=hvo
    repeat' (first|refine qm ?_|(first|(refine xX ?_)|(apply qf;apply yu ([1]);exact j1 Tryz.func36 rfl rfl;apply hA1;(case hz=>(repeat' (first|exact q5|apply qH|exact q8 rfl|exact yn|(apply jY;(case hn=>rfl);(case hl=>first|with_reducible rfl|(simp;done)|(simp [*];done)|omega);(case hp=>(first|assumption|exact jX rfl|exact qE fun _=>rfl)))|apply jR|apply jJ)));(case hfl=>rfl);(case hN=>exact nle rfl))|refine jc Tryz.func34 (hE1 ..) ?_|refine jc Tryz.func34 (hE2 ..) ?_|(apply qf;apply yu ([1]);exact j1 Tryz.func36 rfl rfl;apply hA3;(case hz=>first|exact qH (zi (by rw [List.map_set]) (hl:=by rw [List.length_set,List.length_map,hwl])) (qH (q8 rfl) (qH (q8 rfl) q5))|fail);(case hfl=>rfl);(case hN=>exact nle rfl)))|((first|refine qd ?_ ?_|refine qc ?_ ?_|refine xsC ?_ ?_);all_goals (intro hc;have hp:=hc;try simp at hp;try (exfalso;omega)))|refine qO ?_ ?_)
    all_goals try (exfalso;first|omega|contradiction|simp_all;done)
    all_goals (refine ⟨s.out.length - (i + 1),⟨[(4,.fp [[qb M]] 0 0),(5,.fp [[qb T]] 0 0),(13,.op 0 0 0),(14,.op 2 0 0),(33,.v (.int .i64 ((i + 1:Nat):Int)))],[(0,.own false 1 [[.os 1 0 s.out.length]]),(1,.own false 4 (w'.map Ent.row)),(2,.own false 1 [[.os 3 0 s.cps.length]]),(3,.own false 2 (s.cps.map Cpy.row))],4⟩,by omega,?_,i + 1,by omega,rfl,trivial,(by rw [hw'])⟩;refine qC [(0,0),(1,1),(2,2),(3,3)] rfl ?gts ?ghs;(case gts=>(repeat (first|exact qg|refine qn ?_|refine ye ?_|refine xr ?_|refine ze ?_|refine xw ?_ ?_|refine qS ?_ ?_));all_goals trace_state);(case ghs=>(repeat' (first|exact qj|refine jt ?_|refine yH ?_ ?_|refine zz ?_|refine q9 ?_ ?_|exact ql|apply qh|exact qk rfl|exact jn rfl|refine jn ?_|(apply yI;(first|exact qJ rfl|exact .inr (List.mem_cons_self ..)|exact .inr (List.mem_cons_of_mem _ (List.mem_cons_self ..))|exact .inr (List.mem_cons_of_mem _ (List.mem_cons_of_mem _ (List.mem_cons_self ..)))|exact .inr (List.mem_cons_of_mem _ (List.mem_cons_of_mem _ (List.mem_cons_of_mem _ (List.mem_cons_self ..))))))));all_goals (first|(rw [← hws,List.map_set];done)|(rw [← hws,List.map_set];rfl)|(rw [← hws,List.map_set,List.set_set];done)|(rw [← hws,List.map_set,List.set_set];rfl)|trace_state)))
   ·rw [decide_eq_false cT] at hA3
    obtain rfl:V = yv:=hvo
    repeat' (first|refine qm ?_|(first|(refine xX ?_)|(apply qf;apply yu ([1]);exact j1 Tryz.func36 rfl rfl;apply hA1;(case hz=>(repeat' (first|exact q5|apply qH|exact q8 rfl|exact yn|(apply jY;(case hn=>rfl);(case hl=>first|with_reducible rfl|(simp;done)|(simp [*];done)|omega);(case hp=>(first|assumption|exact jX rfl|exact qE fun _=>rfl)))|apply jR|apply jJ)));(case hfl=>rfl);(case hN=>exact nle rfl))|refine jc Tryz.func34 (hE1 ..) ?_|refine jc Tryz.func34 (hE2 ..) ?_|(apply qf;apply yu ([1]);exact j1 Tryz.func36 rfl rfl;apply hA3;(case hz=>first|exact qH (zi (by rw [List.map_set]) (hl:=by rw [List.length_set,List.length_map,hwl])) (qH (q8 rfl) (qH (q8 rfl) q5))|fail);(case hfl=>rfl);(case hN=>exact nle rfl)))|((first|refine qd ?_ ?_|refine qc ?_ ?_|refine xsC ?_ ?_);all_goals (intro hc;have hp:=hc;try simp at hp;try (exfalso;omega)))|refine qO ?_ ?_)
    all_goals try (exfalso;first|omega|contradiction|simp_all;done)
    all_goals (refine ⟨s.out.length - (i + 1),⟨[(4,.fp [[qb M]] 0 0),(5,.fp [[qb T]] 0 0),(13,.op 0 0 0),(14,.op 2 0 0),(33,.v (.int .i64 ((i + 1:Nat):Int)))],[(0,.own false 1 [[.os 1 0 s.out.length]]),(1,.own false 4 (w'.map Ent.row)),(2,.own false 1 [[.os 3 0 s.cps.length]]),(3,.own false 2 (s.cps.map Cpy.row))],4⟩,by omega,?_,i + 1,by omega,rfl,trivial,(by rw [hw'])⟩;refine qC [(0,0),(1,1),(2,2),(3,3)] rfl ?gts ?ghs;(case gts=>(repeat (first|exact qg|refine qn ?_|refine ye ?_|refine xr ?_|refine ze ?_|refine xw ?_ ?_|refine qS ?_ ?_));all_goals trace_state);(case ghs=>(repeat' (first|exact qj|refine jt ?_|refine yH ?_ ?_|refine zz ?_|refine q9 ?_ ?_|exact ql|apply qh|exact qk rfl|exact jn rfl|refine jn ?_|(apply yI;(first|exact qJ rfl|exact .inr (List.mem_cons_self ..)|exact .inr (List.mem_cons_of_mem _ (List.mem_cons_self ..))|exact .inr (List.mem_cons_of_mem _ (List.mem_cons_of_mem _ (List.mem_cons_self ..)))|exact .inr (List.mem_cons_of_mem _ (List.mem_cons_of_mem _ (List.mem_cons_of_mem _ (List.mem_cons_self ..))))))));all_goals (first|(rw [← hws,List.map_set];done)|(rw [← hws,List.map_set];rfl)|(rw [← hws,List.map_set,List.set_set];done)|(rw [← hws,List.map_set,List.set_set];rfl)|trace_state)))
  ·rw [decide_eq_false cM] at hA1
   have hA3:=hA2 w hwk (by omega)
   rcases cT with ⟨cT,k2,⟨zp,zf,zt,zv⟩,hk2,rfl,rowT,rfl⟩|⟨cT,rfl⟩
   ·rw [decide_eq_true cT] at hA3
    have rowT' : (T.map Ent.row)[((k2:Nat):Int).toNat]? = some (Ent.row ⟨zp,zf,zt,zv⟩):=rowT
    obtain rfl:V = zv:=hvo
    repeat' (first|refine qm ?_|(first|(refine xX ?_)|(apply qf;apply yu ([1]);exact j1 Tryz.func36 rfl rfl;apply hA1;(case hz=>(repeat' (first|exact q5|apply qH|exact q8 rfl|exact yn|(apply jY;(case hn=>rfl);(case hl=>first|with_reducible rfl|(simp;done)|(simp [*];done)|omega);(case hp=>(first|assumption|exact jX rfl|exact qE fun _=>rfl)))|apply jR|apply jJ)));(case hfl=>rfl);(case hN=>exact nle rfl))|(apply qf;apply yu ([1]);exact j1 Tryz.func36 rfl rfl;apply hA3;(case hz=>(repeat' (first|exact q5|apply qH|exact q8 rfl|exact yn|(apply jY;(case hn=>rfl);(case hl=>first|with_reducible rfl|(simp;done)|(simp [*];done)|omega);(case hp=>(first|assumption|exact jX rfl|exact qE fun _=>rfl)))|apply jR|apply jJ)));(case hfl=>rfl);(case hN=>exact nle rfl))|refine jc Tryz.func34 (hE1 ..) ?_|refine jc Tryz.func34 (hE2 ..) ?_)|((first|refine qd ?_ ?_|refine qc ?_ ?_|refine xsC ?_ ?_);all_goals (intro hc;have hp:=hc;try simp at hp;try (exfalso;omega)))|refine qO ?_ ?_)
    all_goals try (exfalso;first|omega|contradiction|simp_all;done)
    all_goals (refine ⟨s.out.length - (i + 1),⟨[(4,.fp [[qb M]] 0 0),(5,.fp [[qb T]] 0 0),(13,.op 0 0 0),(14,.op 2 0 0),(33,.v (.int .i64 ((i + 1:Nat):Int)))],[(0,.own false 1 [[.os 1 0 s.out.length]]),(1,.own false 4 (w'.map Ent.row)),(2,.own false 1 [[.os 3 0 s.cps.length]]),(3,.own false 2 (s.cps.map Cpy.row))],4⟩,by omega,?_,i + 1,by omega,rfl,trivial,(by rw [hw'])⟩;refine qC [(0,0),(1,1),(2,2),(3,3)] rfl ?gts ?ghs;(case gts=>(repeat (first|exact qg|refine qn ?_|refine ye ?_|refine xr ?_|refine ze ?_|refine xw ?_ ?_|refine qS ?_ ?_));all_goals trace_state);(case ghs=>(repeat' (first|exact qj|refine jt ?_|refine yH ?_ ?_|refine zz ?_|refine q9 ?_ ?_|exact ql|apply qh|exact qk rfl|exact jn rfl|refine jn ?_|(apply yI;(first|exact qJ rfl|exact .inr (List.mem_cons_self ..)|exact .inr (List.mem_cons_of_mem _ (List.mem_cons_self ..))|exact .inr (List.mem_cons_of_mem _ (List.mem_cons_of_mem _ (List.mem_cons_self ..)))|exact .inr (List.mem_cons_of_mem _ (List.mem_cons_of_mem _ (List.mem_cons_of_mem _ (List.mem_cons_self ..))))))));all_goals (first|(rw [← hws,List.map_set];done)|(rw [← hws,List.map_set];rfl)|(rw [← hws,List.map_set,List.set_set];done)|(rw [← hws,List.map_set,List.set_set];rfl)|trace_state)))
   ·rw [decide_eq_false cT] at hA3
    obtain rfl:V = 1:=hvo
    have hsame:w = w':=by
     rw [← hws]
     have hg:w[i]? = some ⟨ep,ef,et,1⟩:=by
      have:=hwg
      exact this
     obtain ⟨hiw,hg⟩:=List.getElem?_eq_some_iff.1 hg
     rw [← hg]
     exact (List.set_getElem_self _).symm
    subst hsame
    repeat' (first|refine qm ?_|(first|(refine xX ?_)|(apply qf;apply yu ([1]);exact j1 Tryz.func36 rfl rfl;apply hA1;(case hz=>(repeat' (first|exact q5|apply qH|exact q8 rfl|exact yn|(apply jY;(case hn=>rfl);(case hl=>first|with_reducible rfl|(simp;done)|(simp [*];done)|omega);(case hp=>(first|assumption|exact jX rfl|exact qE fun _=>rfl)))|apply jR|apply jJ)));(case hfl=>rfl);(case hN=>exact nle rfl))|(apply qf;apply yu ([1]);exact j1 Tryz.func36 rfl rfl;apply hA3;(case hz=>(repeat' (first|exact q5|apply qH|exact q8 rfl|exact yn|(apply jY;(case hn=>rfl);(case hl=>first|with_reducible rfl|(simp;done)|(simp [*];done)|omega);(case hp=>(first|assumption|exact jX rfl|exact qE fun _=>rfl)))|apply jR|apply jJ)));(case hfl=>rfl);(case hN=>exact nle rfl)))|((first|refine qd ?_ ?_|refine qc ?_ ?_|refine xsC ?_ ?_);all_goals (intro hc;have hp:=hc;try simp at hp;try (exfalso;omega)))|refine qO ?_ ?_)
    all_goals try (exfalso;first|omega|contradiction|simp_all;done)
    all_goals (refine ⟨s.out.length - (i + 1),⟨[(4,.fp [[qb M]] 0 0),(5,.fp [[qb T]] 0 0),(13,.op 0 0 0),(14,.op 2 0 0),(33,.v (.int .i64 ((i + 1:Nat):Int)))],[(0,.own false 1 [[.os 1 0 s.out.length]]),(1,.own false 4 (w.map Ent.row)),(2,.own false 1 [[.os 3 0 s.cps.length]]),(3,.own false 2 (s.cps.map Cpy.row))],4⟩,by omega,?_,i + 1,by omega,rfl,trivial,(by rw [hw'])⟩;refine qC [(0,0),(1,1),(2,2),(3,3)] rfl ?gts ?ghs;(case gts=>(repeat (first|exact qg|refine qn ?_|refine ye ?_|refine xr ?_|refine ze ?_|refine xw ?_ ?_|refine qS ?_ ?_));all_goals trace_state);(case ghs=>(repeat' (first|exact qj|refine jt ?_|refine yH ?_ ?_|refine zz ?_|refine q9 ?_ ?_|exact ql|apply qh|exact qk rfl|exact jn rfl|refine jn ?_|(apply yI;(first|exact qJ rfl|exact .inr (List.mem_cons_self ..)|exact .inr (List.mem_cons_of_mem _ (List.mem_cons_self ..))|exact .inr (List.mem_cons_of_mem _ (List.mem_cons_of_mem _ (List.mem_cons_self ..)))|exact .inr (List.mem_cons_of_mem _ (List.mem_cons_of_mem _ (List.mem_cons_of_mem _ (List.mem_cons_self ..))))))));all_goals trace_state))
 obtain rfl:i = s.out.length:=by omega
 rw [hwn]
 repeat' (first|refine qm ?_|(first|(refine xX ?_))|((first|refine qd ?_ ?_|refine qc ?_ ?_|refine xsC ?_ ?_);all_goals (intro hc;have hp:=hc;try simp at hp;try (exfalso;omega)))|refine qO ?_ ?_)
 all_goals try (exfalso;omega)
 all_goals ((exact xE (rs:=[.tmp 6,.tmp 7,.tmp 8])))
end Go.Proofs.YtnhpclmbhbblbaaGreatDoor
set_option linter.unusedSimpArgs false
set_option linter.unnecessarySimpa false
set_option linter.unusedVariables false
set_option maxHeartbeats 1000000
namespace Go.Proofs.YtnhpclmbhbblbaaGreatDoor
open Go.Ab Go.RowKit
set_option maxRecDepth 10000
attribute [local irreducible] Awp yl jE jl Red qX Go.Ab.Fin qW Rz vl jj ji ResOk jV jz yb jv
theorem qcQ (p:qQ) {j:Nat} (h:j < (jC p).length) (hp:qy p = 0):yO C.P 38 [.sl false ((((qo p).map qN).take (j + 1)).drop 0)] (.v (str (jC p)[j])):=by
 have hq:=QO hp (List.getElem_mem h)
 have hl:=qV hq
 rw [vD h] at *
 have hn:=xP p
 have hs:=qV hp
 have h1:=Vv ((qo p).take (j + 1)) (by rw [List.length_take];omega) (by omega)
 rw [List.drop_zero, ← List.map_take]
 exact h1
set_option maxHeartbeats 32000000 in
theorem qfu (M T:List Ent) (s:MS) (iS:MInv s.out) (hv1:V1 s.out) (lS:s.out.length ≤ 360) (hcl0:s.cps.length ≤ 180) (lM:M.length ≤ 60) (lT:T.length ≤ 60) (R:Option MS) (hms2:kn M T ((s.out.map Ent.path).flatMap jC) s = R) :
  Awp CF 281 (tl 11 Vk) (WI CF #[ResultVar.tmp 6,ResultVar.tmp 7,ResultVar.tmp 8] 0 (Q5 (qao M T R)) []) ⟨[(4,.fp [[qb M]] 0 0),(5,.fp [[qb T]] 0 0),(13,.op 0 0 0),(14,.op 3 0 0),(15,.op 2 0 0),(16,.clo (.func 32) [] [.fp [[qb M]] 0 0,.fp [[qb T]] 0 0,.op 0 0 0,.op 2 0 0,.op 3 0 0])],[(0,.own false 1 [[.os 1 0 s.out.length]]),(1,.own false 4 (s.out.map Ent.row)),(2,.own false 1 [[.clo (.func 30) [] [.op 0 0 0]]]),(3,.own false 1 [[.os 4 0 s.cps.length]]),(4,.own false 2 (s.cps.map Cpy.row))],5⟩:=by
 conv=>arg 3;whnf
 have pS : ∀ x,x ∈ s.out → qy x.path = 0:=fun x hx=>(j5 (iS.ent x hx)).1
 have hri0:=iS.rise
 generalize hK:s.out = K at *
 have hK3 : ∀ i,(K.map Ent.path).drop i = (K.drop i).map Ent.path:=fun i=>by rw [List.map_drop]
 repeat' (first|refine qm ?_|(first|(refine jM ?_)|(apply xq;apply JV;(case hx=>rfl);(case hT=>rfl);(case he=>rfl);(case hE=>rfl);(case hz=>rfl);(case hsrc=>(apply QV;rfl;rfl;exact Nat.le_of_eq (by simp);rfl;exact ve fun _=>rfl));(case hsz=>(first|omega|(simp only [List.length_append,List.length_drop,List.length_take,List.length_map,List.length_cons,List.length_nil];omega)|(simp;omega)));(case hlen=>(first|omega|(simp only [List.length_append,List.length_drop,List.length_take,List.length_map,List.length_cons,List.length_nil];omega)|(simp;omega)));(case hN=>exact nle rfl)))|((first|refine qd ?_ ?_|refine qc ?_ ?_|refine xsC ?_ ?_);all_goals (intro hc;have hp:=hc;try simp at hp;try (exfalso;omega)))|refine qO ?_ ?_)
 all_goals try (exfalso;omega)
 (refine Awp.red (qC (τ:=⟨[(4,.fp [[qb M]] 0 0),(5,.fp [[qb T]] 0 0),(13,.op 0 0 0),(14,.op 3 0 0),(15,.op 2 0 0),(16,.clo (.func 32) [] [.fp [[qb M]] 0 0,.fp [[qb T]] 0 0,.op 0 0 0,.op 2 0 0,.op 3 0 0]),(26,.os 5 0 K.length),(27,.v (.int .i64 ((0:Nat):Int)))],[(0,.own false 1 [[.os 1 0 K.length]]),(1,.own false 4 (K.map Ent.row)),(2,.own false 1 [[.clo (.func 30) [] [.op 0 0 0]]]),(3,.own false 1 [[.os 4 0 s.cps.length]]),(4,.own false 2 (s.cps.map Cpy.row)),(5,.own false 4 (K.map Ent.row))],6⟩) [(0,0),(1,1),(2,2),(3,3),(4,4),(5,5)] rfl ?_ ?_) ?_;rotate_left 2;rotate_left 1;(focus ((repeat (first|exact qg|refine qn ?_|refine xM ?_|refine vu ?_|refine xu ?_|refine xx ?_ ?_|refine qS ?_ ?_));all_goals (first|(simp;done)|trace_state)));(focus ((repeat' (first|exact qj|refine jt ?_|refine xA ?_ ?_|refine kj ?_|refine xz ?_ ?_|exact ql|apply qh|exact qk rfl|exact jh rfl|refine jh ?_|exact yi trivial));all_goals (first|(simp;done)|(exact (by rw [List.drop_zero,List.take_of_length_le (by simp)]))|trace_state))))
 refine qP (fun n σ => ∃ (i:Nat) (s:MS),i ≤ K.length ∧ n = K.length - i ∧ (kn M T (((K.map Ent.path).drop i).flatMap jC) s = R ∧ q4 jr s.out = true ∧ V1 s.out ∧ s.cps.length ≤ 180 + 80 * i ∧ s.out.length ≤ 360 + 160 * i) ∧ σ = ⟨[(4,.fp [[qb M]] 0 0),(5,.fp [[qb T]] 0 0),(13,.op 0 0 0),(14,.op 3 0 0),(15,.op 2 0 0),(16,.clo (.func 32) [] [.fp [[qb M]] 0 0,.fp [[qb T]] 0 0,.op 0 0 0,.op 2 0 0,.op 3 0 0]),(26,.os 5 0 K.length),(27,.v (.int .i64 (i:Int)))],[(0,.own false 1 [[.os 1 0 s.out.length]]),(1,.own false 4 (s.out.map Ent.row)),(2,.own false 1 [[.clo (.func 30) [] [.op 0 0 0]]]),(3,.own false 1 [[.os 4 0 s.cps.length]]),(4,.own false 2 (s.cps.map Cpy.row)),(5,.own false 4 (K.map Ent.row))],6⟩) K.length ⟨0,s,by omega,rfl,⟨by rw [← hms2];rfl,by rw [hK];exact hri0,by rw [hK];exact hv1,by omega,by rw [hK];omega⟩,by rw [hK]⟩ ?_
 clear hri0 hcl0 hms2 iS hv1 hK s
 rintro n σ ⟨i,s,hi,rfl,⟨hpa,hri,hv1,hcl,hol⟩,rfl⟩
 by_cases hlt:i < K.length
 ·have hrow:(K.map Ent.row)[i]? = some K[i].row:=js (f:=Ent.row) hlt
  have hpe:=pS K[i] (List.getElem_mem hlt)
  have lQ:=Zc hpe
  have lN:=yz K[i].path
  have lN0:=xP K[i].path
  have lP:=qV hpe
  have rQ : ∀ a,a ∈ jC K[i].path → qy a = 0:=fun a ha=>QO hpe ha
  have hnames:=v8 K[i].path (by omega)
  have hpar:=fun j (h:j < (jC K[i].path).length)=>qcQ K[i].path h hpe
  have hNpos:=Xy K[i].path
  rw [List.drop_eq_getElem_cons (by rw [List.length_map];exact hlt),List.flatMap_cons,List.getElem_map] at hpa
  generalize hRest:((K.map Ent.path).drop (i + 1)).flatMap jC = rest at *
  generalize K[i] = e at *
  obtain ⟨p,ef,et,ev⟩:=e
  dsimp only at *
  generalize jC p = Q at *
  generalize qo p = NN at *
  have hmn:(NN.map qN).length = NN.length:=List.length_map ..
  have hrk : ∀ row,row ∈ NN.map qN → row.length = 1:=by
   intro row h
   obtain ⟨s,_,rfl⟩:=List.mem_map.1 h
   rfl
  repeat' (first|refine qm ?_|(first|(refine xX ?_)|refine xsQ Tryz.func37 (hnames ..) ?_)|((first|refine qd ?_ ?_|refine qc ?_ ?_|refine xsC ?_ ?_);all_goals (intro hc;have hp:=hc;try simp at hp;try (exfalso;omega)))|refine qO ?_ ?_)
  all_goals try (exfalso;first|omega|contradiction)
  clear hnames hpe
  (refine Awp.red (qC (τ:=⟨[(4,.fp [[qb M]] 0 0),(5,.fp [[qb T]] 0 0),(13,.op 0 0 0),(14,.op 3 0 0),(15,.op 2 0 0),(16,.clo (.func 32) [] [.fp [[qb M]] 0 0,.fp [[qb T]] 0 0,.op 0 0 0,.op 2 0 0,.op 3 0 0]),(26,.os 5 0 K.length),(27,.v (.int .i64 (i:Int))),(28,.sl false (NN.map qN)),(29,.v (.int .i64 ((0 + 1:Nat):Int)))],[(0,.own false 1 [[.os 1 0 s.out.length]]),(1,.own false 4 (s.out.map Ent.row)),(2,.own false 1 [[.clo (.func 30) [] [.op 0 0 0]]]),(3,.own false 1 [[.os 4 0 s.cps.length]]),(4,.own false 2 (s.cps.map Cpy.row)),(5,.own false 4 (K.map Ent.row))],6⟩) [(0,0),(1,1),(2,2),(3,3),(4,4),(5,5)] rfl ?_ ?_) ?_;rotate_left 2;rotate_left 1;(focus ((repeat (first|exact qg|refine qn ?_|refine xM ?_|refine vu ?_|refine xu ?_|refine xx ?_ ?_|refine qS ?_ ?_));all_goals trace_state));(focus ((repeat' (first|exact qj|refine jt ?_|refine xA ?_ ?_|refine kj ?_|refine xz ?_ ?_|exact ql|apply qh|exact qk rfl|exact jh rfl|refine jh ?_|exact yi trivial));all_goals trace_state)))
  refine qP (fun n σ => ∃ (j:Nat) (s:MS),j ≤ Q.length ∧ n = Q.length - j ∧ (kn M T (Q.drop j ++ rest) s = R ∧ q4 jr s.out = true ∧ V1 s.out ∧ s.cps.length ≤ 180 + 80 * i + j ∧ s.out.length ≤ 360 + 160 * i + 2 * j) ∧ σ = ⟨[(4,.fp [[qb M]] 0 0),(5,.fp [[qb T]] 0 0),(13,.op 0 0 0),(14,.op 3 0 0),(15,.op 2 0 0),(16,.clo (.func 32) [] [.fp [[qb M]] 0 0,.fp [[qb T]] 0 0,.op 0 0 0,.op 2 0 0,.op 3 0 0]),(26,.os 5 0 K.length),(27,.v (.int .i64 (i:Int))),(28,.sl false (NN.map qN)),(29,.v (.int .i64 ((j + 1:Nat):Int)))],[(0,.own false 1 [[.os 1 0 s.out.length]]),(1,.own false 4 (s.out.map Ent.row)),(2,.own false 1 [[.clo (.func 30) [] [.op 0 0 0]]]),(3,.own false 1 [[.os 4 0 s.cps.length]]),(4,.own false 2 (s.cps.map Cpy.row)),(5,.own false 4 (K.map Ent.row))],6⟩) Q.length ⟨0,s,by omega,rfl,⟨hpa,hri,hv1,by omega,by omega⟩,rfl⟩ ?_
  clear hpa hri hv1 hcl hol s
  rintro n σ ⟨j,s,hj,rfl,⟨hpa,hri,hv1,hcl,hol⟩,rfl⟩
  by_cases hjl:j < Q.length
  ·have hqe:=rQ Q[j] (List.getElem_mem hjl)
   have hqs:=qV hqe
   have hpo:=hpar j hjl
   have hst:=Qa s.out Q[j] (by omega)
   rw [List.drop_eq_getElem_cons hjl,List.cons_append,Zb] at hpa
   generalize Q[j] = q at *
   have hjn:j + 1 ≤ (NN.map qN).length:=by omega
   have hro2:q4 jr (jN s.out (⟨q,true,[],1⟩ : Ent)) = true:=yG hri
   have hv2:V1 (jN s.out (⟨q,true,[],1⟩ : Ent)):=K8 hri hv1 rfl
   have hl2:=wE s.out ⟨q,true,[],1⟩
   have hgood:=kv s.out q
   have p1 := @W9 M T s q
   have p0 := @Z9 M T s q
   have p2 := @qaa M T s q
   have hput:=Vx s.out _ q 1 [] (by decide) hri (by omega) rfl
   generalize hv:stT s.out q = v at *
   obtain ⟨vk,vt⟩:=v
   dsimp only at p1 p0 p2 hst
   generalize hN:jN s.out (⟨q,true,[],1⟩ : Ent) = N at *
   have hN' : jN s.out ⟨q,decide ((1:Int) = 1),[],1⟩ = N:=hN
   rw [hN'] at hput
   by_cases hk1:vk = 1
   ·subst hk1
    rw [p1 rfl] at hpa
    clear p1 p0 p2 hput
    repeat' (first|refine qm ?_|(first|(apply qf;apply xU (ex':=false) (a:=0) (b:=j + 1) (m:=0);(case hx=>rfl);(case hT=>rfl);(case he=>rfl);(case hE=>rfl);(case ha=>rfl);(case hb=>exact ⟨_,rfl⟩);(case hm=>trivial);(case hab=>(first|omega|(simp;done)|(simp only [List.length_cons,List.length_nil,List.length_map];omega)|(simp;omega)));(case hbl=>(first|omega|(simp;done)|(simp only [List.length_cons,List.length_nil,List.length_map];omega)|(simp;omega)));(case hrk=>exact hrk);(case hex=>exact nofun);(case hN=>exact nle rfl))|refine jc Tryz.func38 (hpo ..) ?_|(apply qf;apply yu ([1]);exact j1 Tryz.func35 rfl rfl;apply hst;(case hz=>(repeat' (first|exact q5|apply qH|exact q8 rfl|exact yn|(apply jY;(case hn=>rfl);(case hl=>first|with_reducible rfl|(simp;done)|(simp [*];done)|omega);(case hp=>(first|assumption|exact jX rfl|exact qE fun _=>rfl)))|apply jR|apply jJ)));(case hfl=>rfl);(case hN=>exact nle rfl)))|((first|refine qd ?_ ?_|refine qc ?_ ?_|refine xsC ?_ ?_);all_goals (intro hc;have hp:=hc;try simp at hp;try (exfalso;omega)))|refine qO ?_ ?_)
    all_goals try (exfalso;first|omega|contradiction|simp_all;done)
    all_goals (refine ⟨Q.length - (j + 1),⟨[(4,.fp [[qb M]] 0 0),(5,.fp [[qb T]] 0 0),(13,.op 0 0 0),(14,.op 3 0 0),(15,.op 2 0 0),(16,.clo (.func 32) [] [.fp [[qb M]] 0 0,.fp [[qb T]] 0 0,.op 0 0 0,.op 2 0 0,.op 3 0 0]),(26,.os 5 0 K.length),(27,.v (.int .i64 (i:Int))),(28,.sl false (NN.map qN)),(29,.v (.int .i64 ((j + 1 + 1:Nat):Int)))],[(0,.own false 1 [[.os 1 0 s.out.length]]),(1,.own false 4 (s.out.map Ent.row)),(2,.own false 1 [[.clo (.func 30) [] [.op 0 0 0]]]),(3,.own false 1 [[.os 4 0 s.cps.length]]),(4,.own false 2 (s.cps.map Cpy.row)),(5,.own false 4 (K.map Ent.row))],6⟩,by omega,?_,j + 1,s,by omega,rfl,⟨hpa,hri,hv1,by omega,by omega⟩,rfl⟩;refine qC [(0,0),(1,1),(2,2),(3,3),(4,4),(5,5)] rfl ?_ ?_;(focus ((repeat (first|exact qg|refine qn ?_|refine xM ?_|refine vu ?_|refine xu ?_|refine xx ?_ ?_|refine qS ?_ ?_));all_goals trace_state));(focus ((repeat' (first|exact qj|refine jt ?_|refine xA ?_ ?_|refine kj ?_|refine xz ?_ ?_|exact ql|apply qh|exact qk rfl|exact jh rfl|refine jh ?_|exact yi trivial));all_goals trace_state)))
   ·by_cases hk2:vk = 2
    ·subst hk2
     have ano:=JT M T N s.cps q vt (by omega) lM lT (by omega)
     have ayes:=fun q'=>Q8 M T N s.cps q vt q' (by omega) lM lT (by omega) hro2 (by omega)
     rw [p2 rfl] at hpa
     clear p1 p0 p2
     repeat' (first|refine qm ?_|(first|(apply qf;apply xU (ex':=false) (a:=0) (b:=j + 1) (m:=0);(case hx=>rfl);(case hT=>rfl);(case he=>rfl);(case hE=>rfl);(case ha=>rfl);(case hb=>exact ⟨_,rfl⟩);(case hm=>trivial);(case hab=>(first|omega|(simp;done)|(simp only [List.length_cons,List.length_nil,List.length_map];omega)|(simp;omega)));(case hbl=>(first|omega|(simp;done)|(simp only [List.length_cons,List.length_nil,List.length_map];omega)|(simp;omega)));(case hrk=>exact hrk);(case hex=>exact nofun);(case hN=>exact nle rfl))|refine jc Tryz.func38 (hpo ..) ?_|(apply qf;apply yu ([1]);exact j1 Tryz.func35 rfl rfl;apply hst;(case hz=>(repeat' (first|exact q5|apply qH|exact q8 rfl|exact yn|(apply jY;(case hn=>rfl);(case hl=>first|with_reducible rfl|(simp;done)|(simp [*];done)|omega);(case hp=>(first|assumption|exact jX rfl|exact qE fun _=>rfl)))|apply jR|apply jJ)));(case hfl=>rfl);(case hN=>exact nle rfl)))|((first|refine qd ?_ ?_|refine qc ?_ ?_|refine xsC ?_ ?_);all_goals (intro hc;have hp:=hc;try simp at hp;try (exfalso;omega)))|refine qO ?_ ?_)
     all_goals try (exfalso;first|omega|contradiction|simp_all;done)
     refine yZ (C:=CF) (first:=[]) (cap:=[.op 0 0 0]) [0,1] [6] [(0,.own false 1 [[.os 6 0 N.length]]),(1,.dead),(6,.own false 4 (N.map Ent.row))] 7 (.tup []) Tryz.func30 (hput) (by ((repeat' (first|exact jf|apply q6|exact je rfl|exact jG|(apply qp;apply qI;exact .inr (of_decide_eq_true rfl))|(apply qp;apply qw;exact .inr (of_decide_eq_true rfl))|(apply qp;apply qF;exact .inr (of_decide_eq_true rfl))|apply jw|apply jx)))<;>fail) (by ((repeat' (first|exact qL|exact qK|refine qA _ ?_ ?_|refine qz ?_ ?_|exact qt|exact qe (qi _)|exact qe (qU _)|exact qe (qr _)|exact qx (fun _=>rfl)|refine qB ?_|exact ql|apply qh|exact qk rfl|(apply qw;exact .inr (of_decide_eq_true rfl))|(apply qF;exact .inr (of_decide_eq_true rfl))|(apply qI;exact .inr (of_decide_eq_true rfl))|exact qZ (qE fun _=>rfl))))<;>fail) (by ((repeat' (first|exact qL|exact qK|refine qA _ ?_ ?_|refine qz ?_ ?_|exact qt|exact qe (qi _)|exact qe (qU _)|exact qe (qr _)|exact qx (fun _=>rfl)|refine qB ?_|exact ql|apply qh|exact qk rfl|(apply qw;exact .inr (of_decide_eq_true rfl))|(apply qF;exact .inr (of_decide_eq_true rfl))|(apply qI;exact .inr (of_decide_eq_true rfl))|exact qZ (qE fun _=>rfl))))<;>fail) ?_
     repeat' (first|refine qm ?_|(first|fail)|((first|refine qd ?_ ?_|refine qc ?_ ?_|refine xsC ?_ ?_);all_goals (intro hc;have hp:=hc;try simp at hp;try (exfalso;omega)))|refine qO ?_ ?_)
     all_goals try (exfalso;first|omega|contradiction|simp_all;done)
     cases hasd:xS M T N q 99 1 with
     | none =>
       rw [wN hasd] at hpa
       have hR:R = none:=hpa.symm
       rw [hR]
       refine yZ (C:=CF) (first:=[]) (cap:=[.fp [[qb M]] 0 0,.fp [[qb T]] 0 0,.op 0 0 0,.op 2 0 0,.op 3 0 0]) [0,6,2,3,4] [] [(0,.own false 1 [[.os 6 0 N.length]]),(6,.own false 4 (N.map Ent.row)),(2,.own false 1 [[.clo (.func 30) [] [.op 0 0 0]]]),(3,.own false 1 [[.os 4 0 s.cps.length]]),(4,.own false 2 (s.cps.map Cpy.row))] 7 (.v (.bool false)) Tryz.func32 (ano hasd) (by ((repeat' (first|exact jf|apply q6|exact je rfl|exact jG|(apply qp;apply qI;exact .inr (of_decide_eq_true rfl))|(apply qp;apply qw;exact .inr (of_decide_eq_true rfl))|(apply qp;apply qF;exact .inr (of_decide_eq_true rfl))|apply jw|apply jx)))<;>fail) (by ((repeat' (first|exact qL|exact qK|refine qA _ ?_ ?_|refine qz ?_ ?_|exact qt|exact qx (fun _=>rfl)|exact qZ (qE fun _=>rfl)|refine qB ?_|exact ql|apply qh|exact qk rfl|(apply qF;exact .inr (of_decide_eq_true rfl))|(apply qI;exact .inr (of_decide_eq_true rfl))|(apply yI;exact .inr (of_decide_eq_true rfl)))))<;>fail) (by ((repeat' (first|exact qL|exact qK|refine qA _ ?_ ?_|refine qz ?_ ?_|exact qt|exact qx (fun _=>rfl)|exact qZ (qE fun _=>rfl)|refine qB ?_|exact ql|apply qh|exact qk rfl|(apply qF;exact .inr (of_decide_eq_true rfl))|(apply qI;exact .inr (of_decide_eq_true rfl))|(apply yI;exact .inr (of_decide_eq_true rfl)))))<;>fail) ?_
       repeat' (first|refine qm ?_|(first|fail)|((first|refine qd ?_ ?_|refine qc ?_ ?_|refine xsC ?_ ?_);all_goals (intro hc;have hp:=hc;try simp at hp;try (exfalso;omega)))|refine qO ?_ ?_)
       all_goals try (exfalso;first|omega|contradiction|simp_all;done)
       all_goals unfold qao Q5 vf
       all_goals ((exact xE (rs:=[.tmp 6,.tmp 7,.tmp 8])))
     | some q' =>
       rw [wO hasd] at hpa
       have hro3:q4 jr (jN N (⟨q',false,vt,1⟩ : Ent)) = true:=yG hro2
       have hv3:V1 (jN N (⟨q',false,vt,1⟩ : Ent)):=K8 hro2 hv2 rfl
       have hl3:=wE N ⟨q',false,vt,1⟩
       generalize hN2:jN N (⟨q',false,vt,1⟩ : Ent) = N2 at *
       have hay:=ayes q' hasd N2 hN2
       refine yZ (C:=CF) (first:=[]) (cap:=[.fp [[qb M]] 0 0,.fp [[qb T]] 0 0,.op 0 0 0,.op 2 0 0,.op 3 0 0]) [0,6,2,3,4] [7,8] [(0,.own false 1 [[.os 7 0 N2.length]]),(6,.dead),(2,.own false 1 [[.clo (.func 30) [] [.op 0 0 0]]]),(3,.own false 1 [[.os 8 0 (s.cps ++ [(⟨q,q'⟩ : Cpy)]).length]]),(4,.dead),(7,.own false 4 (N2.map Ent.row)),(8,.own false 2 ((s.cps ++ [(⟨q,q'⟩ : Cpy)]).map Cpy.row))] 9 (.v (.bool true)) Tryz.func32 (hay) (by ((repeat' (first|exact jf|apply q6|exact je rfl|exact jG|(apply qp;apply qI;exact .inr (of_decide_eq_true rfl))|(apply qp;apply qw;exact .inr (of_decide_eq_true rfl))|(apply qp;apply qF;exact .inr (of_decide_eq_true rfl))|apply jw|apply jx)))<;>fail) (by ((repeat' (first|exact qL|exact qK|refine qA _ ?_ ?_|refine qz ?_ ?_|exact qt|exact qx (fun _=>rfl)|exact qZ (qE fun _=>rfl)|refine qB ?_|exact ql|apply qh|exact qk rfl|(apply qF;exact .inr (of_decide_eq_true rfl))|(apply qI;exact .inr (of_decide_eq_true rfl))|(apply yI;exact .inr (of_decide_eq_true rfl)))))<;>fail) (by ((repeat' (first|exact qL|exact qK|refine qA _ ?_ ?_|refine qz ?_ ?_|exact qt|exact qx (fun _=>rfl)|exact qZ (qE fun _=>rfl)|refine qB ?_|exact ql|apply qh|exact qk rfl|(apply qF;exact .inr (of_decide_eq_true rfl))|(apply qI;exact .inr (of_decide_eq_true rfl))|(apply yI;exact .inr (of_decide_eq_true rfl)))))<;>fail) ?_
       repeat' (first|refine qm ?_|(first|fail)|((first|refine qd ?_ ?_|refine qc ?_ ?_|refine xsC ?_ ?_);all_goals (intro hc;have hp:=hc;try simp at hp;try (exfalso;omega)))|refine qO ?_ ?_)
       all_goals try (exfalso;first|omega|contradiction|simp_all;done)
       all_goals (refine ⟨Q.length - (j + 1),⟨[(4,.fp [[qb M]] 0 0),(5,.fp [[qb T]] 0 0),(13,.op 0 0 0),(14,.op 3 0 0),(15,.op 2 0 0),(16,.clo (.func 32) [] [.fp [[qb M]] 0 0,.fp [[qb T]] 0 0,.op 0 0 0,.op 2 0 0,.op 3 0 0]),(26,.os 5 0 K.length),(27,.v (.int .i64 (i:Int))),(28,.sl false (NN.map qN)),(29,.v (.int .i64 ((j + 1 + 1:Nat):Int)))],[(0,.own false 1 [[.os 1 0 N2.length]]),(1,.own false 4 (N2.map Ent.row)),(2,.own false 1 [[.clo (.func 30) [] [.op 0 0 0]]]),(3,.own false 1 [[.os 4 0 (s.cps ++ [(⟨q,q'⟩ : Cpy)]).length]]),(4,.own false 2 ((s.cps ++ [(⟨q,q'⟩ : Cpy)]).map Cpy.row)),(5,.own false 4 (K.map Ent.row))],6⟩,by omega,?_,j + 1,⟨N2,s.cps ++ [(⟨q,q'⟩ : Cpy)]⟩,by omega,rfl,⟨hpa,hro3,hv3,by simp;omega,by simp only;omega⟩,rfl⟩;refine qC [(0,0),(7,1),(2,2),(3,3),(8,4),(5,5)] rfl ?_ ?_;(focus ((repeat (first|exact qg|refine qn ?_|refine xM ?_|refine vu ?_|refine xu ?_|refine xx ?_ ?_|refine qS ?_ ?_));all_goals trace_state));(focus ((repeat' (first|exact qj|refine jt ?_|refine xA ?_ ?_|refine kj ?_|refine xz ?_ ?_|exact ql|apply qh|exact qk rfl|exact jh rfl|refine jh ?_|exact yi trivial));all_goals trace_state)))
    ·rw [p0 hk1 hk2] at hpa
     clear p1 p0 p2
     repeat' (first|refine qm ?_|(first|(apply qf;apply xU (ex':=false) (a:=0) (b:=j + 1) (m:=0);(case hx=>rfl);(case hT=>rfl);(case he=>rfl);(case hE=>rfl);(case ha=>rfl);(case hb=>exact ⟨_,rfl⟩);(case hm=>trivial);(case hab=>(first|omega|(simp;done)|(simp only [List.length_cons,List.length_nil,List.length_map];omega)|(simp;omega)));(case hbl=>(first|omega|(simp;done)|(simp only [List.length_cons,List.length_nil,List.length_map];omega)|(simp;omega)));(case hrk=>exact hrk);(case hex=>exact nofun);(case hN=>exact nle rfl))|refine jc Tryz.func38 (hpo ..) ?_|(apply qf;apply yu ([1]);exact j1 Tryz.func35 rfl rfl;apply hst;(case hz=>(repeat' (first|exact q5|apply qH|exact q8 rfl|exact yn|(apply jY;(case hn=>rfl);(case hl=>first|with_reducible rfl|(simp;done)|(simp [*];done)|omega);(case hp=>(first|assumption|exact jX rfl|exact qE fun _=>rfl)))|apply jR|apply jJ)));(case hfl=>rfl);(case hN=>exact nle rfl)))|((first|refine qd ?_ ?_|refine qc ?_ ?_|refine xsC ?_ ?_);all_goals (intro hc;have hp:=hc;try simp at hp;try (exfalso;omega)))|refine qO ?_ ?_)
     all_goals try (exfalso;first|omega|contradiction|simp_all;done)
     refine yZ (C:=CF) (first:=[]) (cap:=[.op 0 0 0]) [0,1] [6] [(0,.own false 1 [[.os 6 0 N.length]]),(1,.dead),(6,.own false 4 (N.map Ent.row))] 7 (.tup []) Tryz.func30 (hput) (by ((repeat' (first|exact jf|apply q6|exact je rfl|exact jG|(apply qp;apply qI;exact .inr (of_decide_eq_true rfl))|(apply qp;apply qw;exact .inr (of_decide_eq_true rfl))|(apply qp;apply qF;exact .inr (of_decide_eq_true rfl))|apply jw|apply jx)))<;>fail) (by ((repeat' (first|exact qL|exact qK|refine qA _ ?_ ?_|refine qz ?_ ?_|exact qt|exact qe (qi _)|exact qe (qU _)|exact qe (qr _)|exact qx (fun _=>rfl)|refine qB ?_|exact ql|apply qh|exact qk rfl|(apply qw;exact .inr (of_decide_eq_true rfl))|(apply qF;exact .inr (of_decide_eq_true rfl))|(apply qI;exact .inr (of_decide_eq_true rfl))|exact qZ (qE fun _=>rfl))))<;>fail) (by ((repeat' (first|exact qL|exact qK|refine qA _ ?_ ?_|refine qz ?_ ?_|exact qt|exact qe (qi _)|exact qe (qU _)|exact qe (qr _)|exact qx (fun _=>rfl)|refine qB ?_|exact ql|apply qh|exact qk rfl|(apply qw;exact .inr (of_decide_eq_true rfl))|(apply qF;exact .inr (of_decide_eq_true rfl))|(apply qI;exact .inr (of_decide_eq_true rfl))|exact qZ (qE fun _=>rfl))))<;>fail) ?_
     repeat' (first|refine qm ?_|(first|fail)|((first|refine qd ?_ ?_|refine qc ?_ ?_|refine xsC ?_ ?_);all_goals (intro hc;have hp:=hc;try simp at hp;try (exfalso;omega)))|refine qO ?_ ?_)
     all_goals try (exfalso;first|omega|contradiction|simp_all;done)
     all_goals (refine ⟨Q.length - (j + 1),⟨[(4,.fp [[qb M]] 0 0),(5,.fp [[qb T]] 0 0),(13,.op 0 0 0),(14,.op 3 0 0),(15,.op 2 0 0),(16,.clo (.func 32) [] [.fp [[qb M]] 0 0,.fp [[qb T]] 0 0,.op 0 0 0,.op 2 0 0,.op 3 0 0]),(26,.os 5 0 K.length),(27,.v (.int .i64 (i:Int))),(28,.sl false (NN.map qN)),(29,.v (.int .i64 ((j + 1 + 1:Nat):Int)))],[(0,.own false 1 [[.os 1 0 N.length]]),(1,.own false 4 (N.map Ent.row)),(2,.own false 1 [[.clo (.func 30) [] [.op 0 0 0]]]),(3,.own false 1 [[.os 4 0 s.cps.length]]),(4,.own false 2 (s.cps.map Cpy.row)),(5,.own false 4 (K.map Ent.row))],6⟩,by omega,?_,j + 1,⟨N,s.cps⟩,by omega,rfl,⟨hpa,hro2,hv2,by simp only;omega,by simp only;omega⟩,rfl⟩;refine qC [(0,0),(6,1),(2,2),(3,3),(4,4),(5,5)] rfl ?_ ?_;(focus ((repeat (first|exact qg|refine qn ?_|refine xM ?_|refine vu ?_|refine xu ?_|refine xx ?_ ?_|refine qS ?_ ?_));all_goals trace_state));(focus ((repeat' (first|exact qj|refine jt ?_|refine xA ?_ ?_|refine kj ?_|refine xz ?_ ?_|exact ql|apply qh|exact qk rfl|exact jh rfl|refine jh ?_|exact yi trivial));all_goals trace_state)))
  ·obtain rfl:j = Q.length:=by omega
   rw [List.drop_length,List.nil_append, ← hRest] at hpa
   repeat' (first|refine qm ?_|(first|fail)|((first|refine qd ?_ ?_|refine qc ?_ ?_|refine xsC ?_ ?_);all_goals (intro hc;have hp:=hc;try simp at hp;try (exfalso;omega)))|refine qO ?_ ?_)
   all_goals try (exfalso;first|omega|contradiction)
   all_goals (refine ⟨K.length - (i + 1),⟨[(4,.fp [[qb M]] 0 0),(5,.fp [[qb T]] 0 0),(13,.op 0 0 0),(14,.op 3 0 0),(15,.op 2 0 0),(16,.clo (.func 32) [] [.fp [[qb M]] 0 0,.fp [[qb T]] 0 0,.op 0 0 0,.op 2 0 0,.op 3 0 0]),(26,.os 5 0 K.length),(27,.v (.int .i64 ((i + 1:Nat):Int)))],[(0,.own false 1 [[.os 1 0 s.out.length]]),(1,.own false 4 (s.out.map Ent.row)),(2,.own false 1 [[.clo (.func 30) [] [.op 0 0 0]]]),(3,.own false 1 [[.os 4 0 s.cps.length]]),(4,.own false 2 (s.cps.map Cpy.row)),(5,.own false 4 (K.map Ent.row))],6⟩,by omega,?_,i + 1,s,by omega,rfl,⟨hpa,hri,hv1,by omega,by omega⟩,rfl⟩;refine qC [(0,0),(1,1),(2,2),(3,3),(4,4),(5,5)] rfl ?_ ?_;(focus ((repeat (first|exact qg|refine qn ?_|refine xM ?_|refine vu ?_|refine xu ?_|refine xx ?_ ?_|refine qS ?_ ?_));all_goals trace_state));(focus ((repeat' (first|exact qj|refine jt ?_|refine xA ?_ ?_|refine kj ?_|refine xz ?_ ?_|exact ql|apply qh|exact qk rfl|exact jh rfl|refine jh ?_|exact yi trivial));all_goals trace_state)))
 ·obtain rfl:i = K.length:=by omega
  rw [List.drop_eq_nil_of_le (by simp)] at hpa
  have hR2:R = some s:=hpa.symm
  rw [hR2]
  unfold qao
  by_cases h60:60 < s.out.length
  ·dsimp only
   rw [if_pos h60]
   unfold Q5 vf
   repeat' (first|refine qm ?_|(first|fail)|((first|refine qd ?_ ?_|refine qc ?_ ?_|refine xsC ?_ ?_);all_goals (intro hc;have hp:=hc;try simp at hp;try (exfalso;omega)))|refine qO ?_ ?_)
   all_goals try (exfalso;first|omega|contradiction)
   all_goals ((exact xE (rs:=[.tmp 6,.tmp 7,.tmp 8])))
  ·dsimp only
   rw [if_neg h60]
   repeat' (first|(refine Awp.red (qC (τ:=⟨[(4,.fp [[qb M]] 0 0),(5,.fp [[qb T]] 0 0),(13,.op 0 0 0),(14,.op 2 0 0)],[(0,.own false 1 [[.os 1 0 s.out.length]]),(1,.own false 4 (s.out.map Ent.row)),(2,.own false 1 [[.os 3 0 s.cps.length]]),(3,.own false 2 (s.cps.map Cpy.row))],4⟩) [(0,0),(1,1),(3,2),(4,3)] rfl ?_ ?_) ?_;rotate_left 2;exact qfv M T s hri hv1 (by omega) lM lT;(focus ((repeat (first|exact qg|refine qn ?_|refine xM ?_|refine vu ?_|refine xu ?_|refine xx ?_ ?_|refine qS ?_ ?_));all_goals trace_state));(focus ((repeat' (first|exact qj|refine jt ?_|refine xA ?_ ?_|refine kj ?_|refine xz ?_ ?_|exact ql|apply qh|exact qk rfl|exact jh rfl|refine jh ?_|exact yi trivial));all_goals trace_state)))|refine Zr ?_|((first|refine qd ?_ ?_|refine qc ?_ ?_|refine xsC ?_ ?_);all_goals (intro hc;have hp:=hc;try simp at hp;try (exfalso;omega)))|refine qO ?_ ?_)
end Go.Proofs.YtnhpclmbhbblbaaGreatDoor
set_option linter.unusedSimpArgs false
set_option linter.unnecessarySimpa false
set_option linter.unusedVariables false
set_option maxHeartbeats 1000000
namespace Go.Proofs.YtnhpclmbhbblbaaGreatDoor
open Go.Ab Go.RowKit
set_option maxRecDepth 10000
attribute [local irreducible] Awp yl jE jl Red qX Go.Ab.Fin qW Rz vl jj ji ResOk jV jz yb jv
theorem qd3 {m t:List Ent} : ∀ {l:List (qQ × qQ)} {s s' : MS},q4 jr s.out = true → V1 s.out → Vg m t l s = some s' → V1 s'.out
 | [],s,s',_,h,e=>by injection e with e;subst e;exact h
 | g :: l,s,s',hr,h,e=>by
   unfold Vg at e
   cases h1:zc m t s g.1 g.2 with
   | none=>rw [h1] at e;cases e
   | some s1 =>
     rw [h1] at e
     unfold zc at h1
     split at h1
     ·cases h1
     ·injection h1 with h1
      subst h1
      exact qd3 (yG hr) (K8 hr h rfl) e
set_option maxHeartbeats 32000000 in
theorem qft (M T:List Ent) (G:List (qQ × qQ)) (O0:List Ent) (R:Option MS) (iO:MInv O0) (v0:V1 O0) (lO:O0.length ≤ 180) (lG:G.length ≤ 180) (lM:M.length ≤ 60) (lT:T.length ≤ 60) (gG : ∀ g,g ∈ G → qy g.1 = 0 ∧ g.2.length ≤ 300) (hms:(match Vg M T G ⟨O0,[]⟩ with|none=>none|some s=>kn M T ((s.out.map Ent.path).flatMap jC) s) = R) :
  Awp CF 281 (tl 10 Vk) (WI CF #[ResultVar.tmp 6,ResultVar.tmp 7,ResultVar.tmp 8] 0 (Q5 (qao M T R)) []) ⟨[(4,.fp [[qb M]] 0 0),(5,.fp [[qb T]] 0 0),(13,.op 0 0 0),(14,.op 3 0 0),(15,.op 2 0 0),(16,.clo (.func 32) [] [.fp [[qb M]] 0 0,.fp [[qb T]] 0 0,.op 0 0 0,.op 2 0 0,.op 3 0 0]),(17,.os 5 0 G.length),(18,.os 6 0 G.length)],[(0,.own false 1 [[.os 1 0 O0.length]]),(1,.own false 4 (O0.map Ent.row)),(2,.own false 1 [[.clo (.func 30) [] [.op 0 0 0]]]),(3,.own false 1 [[.os 4 0 ([]:List Cpy).length]]),(4,.own false 2 (([]:List Cpy).map Cpy.row)),(5,.own false 1 (G.map fun g=>jo g.1)),(6,.own false 1 (G.map fun g=>jo g.2))],7⟩:=by
 conv=>arg 3;whnf
 repeat' (first|refine qm ?_|(first|fail)|((first|refine qd ?_ ?_|refine qc ?_ ?_|refine xsC ?_ ?_);all_goals (intro hc;have hp:=hc;try simp at hp;try (exfalso;omega)))|refine qO ?_ ?_)
 all_goals try (exfalso;omega)
 (refine Awp.red (qC (τ:=⟨[(4,.fp [[qb M]] 0 0),(5,.fp [[qb T]] 0 0),(13,.op 0 0 0),(14,.op 3 0 0),(15,.op 2 0 0),(16,.clo (.func 32) [] [.fp [[qb M]] 0 0,.fp [[qb T]] 0 0,.op 0 0 0,.op 2 0 0,.op 3 0 0]),(17,.os 5 0 G.length),(18,.os 6 0 G.length),(25,.v (.int .i64 ((0:Nat):Int)))],[(0,.own false 1 [[.os 1 0 O0.length]]),(1,.own false 4 (O0.map Ent.row)),(2,.own false 1 [[.clo (.func 30) [] [.op 0 0 0]]]),(3,.own false 1 [[.os 4 0 ([]:List Cpy).length]]),(4,.own false 2 (([]:List Cpy).map Cpy.row)),(5,.own false 1 (G.map fun g=>jo g.1)),(6,.own false 1 (G.map fun g=>jo g.2))],7⟩) [(0,0),(1,1),(2,2),(3,3),(4,4),(5,5),(6,6)] rfl ?_ ?_) ?_;rotate_left 2;rotate_left 1;(focus ((repeat (first|exact qg|refine qn ?_|refine xM ?_|refine vu ?_|refine xu ?_|refine xx ?_ ?_|refine qS ?_ ?_));all_goals trace_state));(focus ((repeat' (first|exact qj|refine jt ?_|refine xA ?_ ?_|refine kj ?_|refine xz ?_ ?_|exact ql|apply qh|exact qk rfl|exact jh rfl|refine jh ?_|exact yi trivial));all_goals trace_state)))
 refine qP (fun n σ => ∃ (i:Nat) (s:MS),i ≤ G.length ∧ n = G.length - i ∧ (Vg M T (G.drop i) s = Vg M T G ⟨O0,[]⟩ ∧ q4 jr s.out = true ∧ s.cps.length ≤ i ∧ s.out.length ≤ 180 + i) ∧ σ = ⟨[(4,.fp [[qb M]] 0 0),(5,.fp [[qb T]] 0 0),(13,.op 0 0 0),(14,.op 3 0 0),(15,.op 2 0 0),(16,.clo (.func 32) [] [.fp [[qb M]] 0 0,.fp [[qb T]] 0 0,.op 0 0 0,.op 2 0 0,.op 3 0 0]),(17,.os 5 0 G.length),(18,.os 6 0 G.length),(25,.v (.int .i64 (i:Int)))],[(0,.own false 1 [[.os 1 0 s.out.length]]),(1,.own false 4 (s.out.map Ent.row)),(2,.own false 1 [[.clo (.func 30) [] [.op 0 0 0]]]),(3,.own false 1 [[.os 4 0 s.cps.length]]),(4,.own false 2 (s.cps.map Cpy.row)),(5,.own false 1 (G.map fun g=>jo g.1)),(6,.own false 1 (G.map fun g=>jo g.2))],7⟩) G.length ⟨0,⟨O0,[]⟩,by omega,rfl,⟨rfl,iO.rise,Nat.le_refl _,by simp only;omega⟩,rfl⟩ ?_
 rintro n σ ⟨i,s,hi,rfl,⟨hgo,hri,hcl,hol⟩,rfl⟩
 by_cases hlt:i < G.length
 ·have hrow1:(G.map fun g=>jo g.1)[i]? = some (jo G[i].1):=by rw [List.getElem?_map,List.getElem?_eq_getElem hlt];rfl
  have hrow2:(G.map fun g=>jo g.2)[i]? = some (jo G[i].2):=by rw [List.getElem?_map,List.getElem?_eq_getElem hlt];rfl
  have hdr:=WL (m:=M) (t:=T) hlt s
  have hpe:=(gG G[i] (List.getElem_mem hlt)).1
  have hps:=qV hpe
  generalize G[i].1 = p at *
  generalize G[i].2 = x at *
  have ano:=JT M T s.out s.cps p x (by omega) lM lT (by omega)
  have ayes:=fun q'=>Q8 M T s.out s.cps p x q' (by omega) lM lT (by omega) hri (by omega)
  repeat' (first|refine qm ?_|(first|(refine xX ?_))|((first|refine qd ?_ ?_|refine qc ?_ ?_|refine xsC ?_ ?_);all_goals (intro hc;have hp:=hc;try simp at hp;try (exfalso;omega)))|refine qO ?_ ?_)
  all_goals try (exfalso;first|omega|contradiction)
  cases hasd:xS M T s.out p 99 1 with
  | none =>
    refine yZ (C:=CF) (first:=[]) (cap:=[.fp [[qb M]] 0 0,.fp [[qb T]] 0 0,.op 0 0 0,.op 2 0 0,.op 3 0 0]) [0,1,2,3,4] [] [(0,.own false 1 [[.os 1 0 s.out.length]]),(1,.own false 4 (s.out.map Ent.row)),(2,.own false 1 [[.clo (.func 30) [] [.op 0 0 0]]]),(3,.own false 1 [[.os 4 0 s.cps.length]]),(4,.own false 2 (s.cps.map Cpy.row))] 7 (.v (.bool false)) Tryz.func32 (ano hasd) (by ((repeat' (first|exact jf|apply q6|exact je rfl|exact jG|(apply qp;apply qI;exact .inr (of_decide_eq_true rfl))|(apply qp;apply qw;exact .inr (of_decide_eq_true rfl))|(apply qp;apply qF;exact .inr (of_decide_eq_true rfl))|apply jw|apply jx)))<;>fail) (by ((repeat' (first|exact qL|exact qK|refine qA _ ?_ ?_|refine qz ?_ ?_|exact qt|exact qx (fun _=>rfl)|exact qZ (qE fun _=>rfl)|refine qB ?_|exact ql|apply qh|exact qk rfl|(apply qF;exact .inr (of_decide_eq_true rfl))|(apply qI;exact .inr (of_decide_eq_true rfl))|(apply yI;exact .inr (of_decide_eq_true rfl)))))<;>fail) (by ((repeat' (first|exact qL|exact qK|refine qA _ ?_ ?_|refine qz ?_ ?_|exact qt|exact qx (fun _=>rfl)|exact qZ (qE fun _=>rfl)|refine qB ?_|exact ql|apply qh|exact qk rfl|(apply qF;exact .inr (of_decide_eq_true rfl))|(apply qI;exact .inr (of_decide_eq_true rfl))|(apply yI;exact .inr (of_decide_eq_true rfl)))))<;>fail) ?_
    have hno:R = none:=by
     rw [← hms, ← hgo,hdr,wN hasd]
    rw [hno]
    unfold qao Q5 vf
    repeat' (first|refine qm ?_|(first|fail)|((first|refine qd ?_ ?_|refine qc ?_ ?_|refine xsC ?_ ?_);all_goals (intro hc;have hp:=hc;try simp at hp;try (exfalso;omega)))|refine qO ?_ ?_)
    all_goals try (exfalso;first|omega|contradiction)
    all_goals ((exact xE (rs:=[.tmp 6,.tmp 7,.tmp 8])))
  | some q' =>
    rw [wO hasd] at hdr
    have hro3:q4 jr (jN s.out (⟨q',false,x,1⟩ : Ent)) = true:=yG hri
    have hl3:=wE s.out ⟨q',false,x,1⟩
    generalize hN2:jN s.out (⟨q',false,x,1⟩ : Ent) = N2 at *
    have hay:=ayes q' hasd N2 hN2
    refine yZ (C:=CF) (first:=[]) (cap:=[.fp [[qb M]] 0 0,.fp [[qb T]] 0 0,.op 0 0 0,.op 2 0 0,.op 3 0 0]) [0,1,2,3,4] [7,8] [(0,.own false 1 [[.os 7 0 N2.length]]),(1,.dead),(2,.own false 1 [[.clo (.func 30) [] [.op 0 0 0]]]),(3,.own false 1 [[.os 8 0 (s.cps ++ [(⟨p,q'⟩ : Cpy)]).length]]),(4,.dead),(7,.own false 4 (N2.map Ent.row)),(8,.own false 2 ((s.cps ++ [(⟨p,q'⟩ : Cpy)]).map Cpy.row))] 9 (.v (.bool true)) Tryz.func32 (hay) (by ((repeat' (first|exact jf|apply q6|exact je rfl|exact jG|(apply qp;apply qI;exact .inr (of_decide_eq_true rfl))|(apply qp;apply qw;exact .inr (of_decide_eq_true rfl))|(apply qp;apply qF;exact .inr (of_decide_eq_true rfl))|apply jw|apply jx)))<;>fail) (by ((repeat' (first|exact qL|exact qK|refine qA _ ?_ ?_|refine qz ?_ ?_|exact qt|exact qx (fun _=>rfl)|exact qZ (qE fun _=>rfl)|refine qB ?_|exact ql|apply qh|exact qk rfl|(apply qF;exact .inr (of_decide_eq_true rfl))|(apply qI;exact .inr (of_decide_eq_true rfl))|(apply yI;exact .inr (of_decide_eq_true rfl)))))<;>fail) (by ((repeat' (first|exact qL|exact qK|refine qA _ ?_ ?_|refine qz ?_ ?_|exact qt|exact qx (fun _=>rfl)|exact qZ (qE fun _=>rfl)|refine qB ?_|exact ql|apply qh|exact qk rfl|(apply qF;exact .inr (of_decide_eq_true rfl))|(apply qI;exact .inr (of_decide_eq_true rfl))|(apply yI;exact .inr (of_decide_eq_true rfl)))))<;>fail) ?_
    repeat' (first|refine qm ?_|(first|fail)|((first|refine qd ?_ ?_|refine qc ?_ ?_|refine xsC ?_ ?_);all_goals (intro hc;have hp:=hc;try simp at hp;try (exfalso;omega)))|refine qO ?_ ?_)
    all_goals try (exfalso;first|omega|contradiction)
    all_goals (refine ⟨G.length - (i + 1),⟨[(4,.fp [[qb M]] 0 0),(5,.fp [[qb T]] 0 0),(13,.op 0 0 0),(14,.op 3 0 0),(15,.op 2 0 0),(16,.clo (.func 32) [] [.fp [[qb M]] 0 0,.fp [[qb T]] 0 0,.op 0 0 0,.op 2 0 0,.op 3 0 0]),(17,.os 5 0 G.length),(18,.os 6 0 G.length),(25,.v (.int .i64 ((i + 1:Nat):Int)))],[(0,.own false 1 [[.os 1 0 N2.length]]),(1,.own false 4 (N2.map Ent.row)),(2,.own false 1 [[.clo (.func 30) [] [.op 0 0 0]]]),(3,.own false 1 [[.os 4 0 (s.cps ++ [(⟨p,q'⟩ : Cpy)]).length]]),(4,.own false 2 ((s.cps ++ [(⟨p,q'⟩ : Cpy)]).map Cpy.row)),(5,.own false 1 (G.map fun g=>jo g.1)),(6,.own false 1 (G.map fun g=>jo g.2))],7⟩,by omega,?_,i + 1,⟨N2,s.cps ++ [(⟨p,q'⟩ : Cpy)]⟩,by omega,rfl,⟨hdr.symm.trans hgo,hro3,by simp;omega,by simp only;omega⟩,rfl⟩;refine qC [(0,0),(7,1),(2,2),(3,3),(8,4),(5,5),(6,6)] rfl ?_ ?_;(focus ((repeat (first|exact qg|refine qn ?_|refine xM ?_|refine vu ?_|refine xu ?_|refine xx ?_ ?_|refine qS ?_ ?_));all_goals trace_state));(focus ((repeat' (first|exact qj|refine jt ?_|refine xA ?_ ?_|refine kj ?_|refine xz ?_ ?_|exact ql|apply qh|exact qk rfl|exact jh rfl|refine jh ?_|exact yi trivial));all_goals trace_state)))
 ·obtain rfl:i = G.length:=by omega
  rw [List.drop_eq_nil_of_le (by omega)] at hgo
  have hgo2:Vg M T G ⟨O0,[]⟩ = some s:=hgo.symm
  have iS:MInv s.out:=YF (s:=⟨O0,[]⟩) iO gG hgo2
  have hv1:V1 s.out:=qd3 (s:=⟨O0,[]⟩) iO.rise v0 hgo2
  rw [hgo2] at hms
  repeat' (first|(refine Awp.red (qC (τ:=⟨[(4,.fp [[qb M]] 0 0),(5,.fp [[qb T]] 0 0),(13,.op 0 0 0),(14,.op 3 0 0),(15,.op 2 0 0),(16,.clo (.func 32) [] [.fp [[qb M]] 0 0,.fp [[qb T]] 0 0,.op 0 0 0,.op 2 0 0,.op 3 0 0])],[(0,.own false 1 [[.os 1 0 s.out.length]]),(1,.own false 4 (s.out.map Ent.row)),(2,.own false 1 [[.clo (.func 30) [] [.op 0 0 0]]]),(3,.own false 1 [[.os 4 0 s.cps.length]]),(4,.own false 2 (s.cps.map Cpy.row))],5⟩) [(0,0),(1,1),(2,2),(3,3),(4,4)] rfl ?_ ?_) ?_;rotate_left 2;exact qfu M T s iS hv1 (by omega) (by omega) lM lT R hms;(focus ((repeat (first|exact qg|refine qn ?_|refine xM ?_|refine vu ?_|refine xu ?_|refine xx ?_ ?_|refine qS ?_ ?_));all_goals trace_state));(focus ((repeat' (first|exact qj|refine jt ?_|refine xA ?_ ?_|refine kj ?_|refine xz ?_ ?_|exact ql|apply qh|exact qk rfl|exact jh rfl|refine jh ?_|exact yi trivial));all_goals trace_state)))|refine Zr ?_|((first|refine qd ?_ ?_|refine qc ?_ ?_|refine xsC ?_ ?_);all_goals (intro hc;have hp:=hc;try simp at hp;try (exfalso;omega)))|refine qO ?_ ?_)
end Go.Proofs.YtnhpclmbhbblbaaGreatDoor
