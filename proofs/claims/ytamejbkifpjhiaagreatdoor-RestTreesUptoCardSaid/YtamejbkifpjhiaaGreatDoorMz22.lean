import Derived.Test.YtamejbkifpjhiaaGreatDoorMz14
import Derived.Test.YtamejbkifpjhiaaGreatDoorMz7
import Derived.Test.YtamejbkifpjhiaaGreatDoorMz20
import Derived.Test.YtamejbkifpjhiaaGreatDoorMz17
set_option linter.unusedSimpArgs false
set_option linter.unnecessarySimpa false
set_option linter.unusedVariables false
set_option maxHeartbeats 1000000
namespace Go.Proofs.YtamejbkifpjhiaaGreatDoor
open Go.Ab Go.RowKit
set_option maxRecDepth 10000
attribute [local irreducible] Awp yH jH jw Red ja Go.Ab.Fin qZ Rz vn jr jp ResOk j3 jC yC jA
def xI (x:Thg):AV := .agg [.v (.int .i64 x.kind),.v (str x.text)]
def qr (t:List Ent):List (List UInt8 × AV):=t.map fun e=>(e.path,xI (xS e))
theorem qh (t:List Ent) : ∀ e,e ∈ qr t → e.2.pure = true:=fun e he=>by
 obtain ⟨x,_,rfl⟩:=List.mem_map.1 he
 rfl
theorem v2 (t:List Ent):(qr t).map (·.1) = t.map Ent.path:=by
 unfold qr
 rw [List.map_map];rfl
theorem VT {l:List (List UInt8 × AV)} {s:List UInt8} {x:AV}:s ∉ l.map (·.1) → xb l s x = l ++ [(s,x)]:=by
 induction l with
 | nil=>intro _;rfl
 | cons e l ih =>
   intro h
   rw [List.map_cons,List.mem_cons,not_or] at h
   rw [Q9,if_neg (fun e'=>h.1 e'.symm),ih h.2];rfl
theorem qbj {t:List Ent} {i:Nat} (h:i < t.length) (hd:(t.map Ent.path).Nodup):xb (qr (t.take i)) t[i].path (xI (xS t[i])) = qr (t.take (i + 1)):=by
 have hn:t[i].path ∉ (qr (t.take i)).map (·.1):=by
  rw [v2]
  intro hm
  obtain ⟨x,hx,he⟩:=List.mem_map.1 hm
  obtain ⟨j,hj,rfl⟩:=List.getElem_of_mem hx
  rw [List.getElem_take] at he
  have hj' : j < i:=by simp at hj;omega
  have:=(List.getElem_inj (h₀:=by simp;omega) (h₁:=by simp;omega) hd (i:=j) (j:=i)).1 (by simpa using he)
  omega
 rw [VT hn,List.take_succ_eq_append_getElem h]
 unfold qr
 rw [List.map_append];rfl
theorem ZX (t:List Ent) (p:qP):vF (qr t) p = (qW t p).map fun e=>xI (xS e):=by
 unfold vF qr qW
 rw [List.find?_map,Option.map_map]
 have:((fun e:List UInt8 × AV=>e.1 == p) ∘ fun e:Ent=>(e.path,xI (xS e))) = atP p:=by
  funext e
  show (e.path == p) = decide (e.path = p)
  by_cases h:e.path = p<;>simp [h]
 rw [this]
 rfl
theorem vM (t:List Ent) (p:qP):(vF (qr t) p).getD (xI noT) = xI (stT t p):=by
 rw [ZX]
 unfold stT
 cases qW t p<;>rfl
theorem QT {t:List Ent} (h:qU jf t = true):(t.map Ent.path).Nodup:=by
 rw [List.Nodup,List.pairwise_map]
 exact (jJ.1 h).imp fun {a b} hab e=>by rw [e,vD] at hab;cases hab
theorem Zb {t:List Ent} {e:Ent} (h:qU jf t = true):(xb (qr t) e.path (xI (xS e))).Perm (qr (jR t e)):=by
 have hn:((qr t).map (·.1)).Nodup:=by rw [v2];exact QT h
 refine (wJ hn).trans ?_
 obtain ⟨A,M,Z,h1,hp,hA,hZ,hM⟩:=Ze e.path (jJ.1 h)
 rw [QH h1 hp hM]
 have hA' : ∀ a,a ∈ A → ¬ a.path = e.path:=fun a ha=>JP (hA a ha)
 have hZ' : ∀ a,a ∈ Z → ¬ a.path = e.path:=fun a ha h2=>JP (hZ a ha) h2.symm
 have keep : ∀ l:List Ent,(∀ a,a ∈ l → ¬ a.path = e.path) → xJ (qr l) e.path = qr l:=fun l hl=>kE (by
  rw [v2]
  intro hm
  obtain ⟨x,hx,he⟩:=List.mem_map.1 hm
  exact hl x hx he)
 have app : ∀ a b:List Ent,qr (a ++ b) = qr a ++ qr b:=fun a b=>List.map_append ..
 have dapp : ∀ a b:List (List UInt8 × AV),xJ (a ++ b) e.path = xJ a e.path ++ xJ b e.path:=fun a b=>List.filter_append ..
 have hMd:xJ (qr M) e.path = []:=by
  rcases hM with ⟨_,y,rfl,hy⟩|⟨_,rfl⟩
  ·simp [qr,xJ,hy]
  ·rfl
 rw [h1,app,app,dapp,dapp,keep A hA',keep Z hZ',hMd,List.nil_append,app,app]
 exact List.perm_middle.symm
theorem qc3 {t:List Ent} {p:qP} {x:Thg} (h:qU jf t = true) (hg:kP x) (h0:¬ x.kind = 0):(xb (qr t) p (xI x)).Perm (qr (jR t (QW p x))):=by
 have:=Zb (e:=QW p x) h
 rwa [KP hg h0] at this
theorem ji : ∀ w,(zeroValue 163).run C.P w = .ok (.agg #[.int .i64 0,.string ⟨#[]⟩]) w:=Tryz.zeroValue163
theorem jQ (F:Still) (ρ:Places):M F ρ (.agg #[.int .i64 0,.string ⟨#[]⟩]) (xI noT):=by
 refine .agg _ [.int .i64 0,.string ⟨#[]⟩] _ rfl fun i v x hv hx=>?_
 match i with
 | 0=>simp at hv hx;subst hv;subst hx;exact .v _ _ rfl
 | 1=>simp at hv hx;subst hv;subst hx;exact .v _ _ rfl
 | i + 2=>simp at hv
theorem vU:qdQ C.P 163 = some [0,1]:=by kernel_rfl
theorem xR (a b:Thg):Jm [0,1] [.v (.int .i64 a.kind),.v (str a.text)] [.v (.int .i64 b.kind),.v (str b.text)] = some (decide (a = b)):=by
 obtain ⟨a1,a2⟩:=a
 obtain ⟨b1,b2⟩:=b
 simp only [Jm,QZ,str,Thg.mk.injEq,if_true,Option.some.injEq]
 by_cases h1:a1 = b1<;>by_cases h2:a2 = b2<;>simp [h1,h2]
theorem wU (t:List Ent) (hd:qU jf t = true) (hl:t.length ≤ 1000000):qZ C.P 64 [qa t] [] (.mp 0) [.mp (qr t)]:=by
 have hn:=QT hd
 have hml:(t.map Ent.row).length = t.length:=List.length_map ..
 refine qc Tryz.func64 rfl _ Tryz.ntmps64 (Nat.le_of_ble_eq_true rfl) _ Tryz.results64 0 rfl rfl ?_
 repeat' (first|refine qn ?_|(first|(apply xe;apply kq;exact nle rfl))|((first|refine xsC ?_ ?_);all_goals (intro hc;have hp:=hc;try simp at hp;try (exfalso;omega)))|refine qX ?_ ?_)
 all_goals try (exfalso;omega)
 (refine Awp.red (qB (τ:=⟨[(3,.mp 0),(7,qa t),(8,.v (.int .i64 t.length)),(9,.v (.int .i64 ((0:Nat):Int)))],[(0,.mp (qr (t.take 0)))],1⟩) [(0,0)] rfl ?gts2 ?ghs2) ?_;(case gts2=>(repeat (first|exact qg|refine qo ?_|refine yg ?_|refine xM ?_|refine zi ?_|refine xN ?_ ?_|refine qY ?_ ?_));all_goals (first|exact qh _|(rw [List.length_map];done)|rfl|exact nofun));(case ghs2=>(repeat' (first|exact qj|refine jx ?_|refine zy ?_|refine x2 ?_ ?_ ?_|refine ve ?_ ?_|refine yY ?_ ?_|refine xh ?_ ?_ ?_ ?_|refine q6 ?_ ?_|exact ql|apply qd|exact qk rfl|(apply qt;(first|exact qN rfl|exact .inr (List.mem_cons_self ..)|exact .inr (List.mem_cons_of_mem _ (List.mem_cons_self ..))|exact .inr (List.mem_cons_of_mem _ (List.mem_cons_of_mem _ (List.mem_cons_self ..)))|exact .inr (List.mem_cons_of_mem _ (List.mem_cons_of_mem _ (List.mem_cons_of_mem _ (List.mem_cons_self ..))))))|refine ju ?_|refine xi ?_ rfl|with_reducible exact List.Perm.refl _));all_goals (first|exact qh _|(rw [List.length_map];done)|rfl|exact nofun)))
 refine qV (fun n σ => ∃ i:Nat,i ≤ t.length ∧ n = t.length - i ∧ (True) ∧ σ = ⟨[(3,.mp 0),(7,qa t),(8,.v (.int .i64 t.length)),(9,.v (.int .i64 (i:Int)))],[(0,.mp (qr (t.take i)))],1⟩) t.length ⟨0,Nat.zero_le _,rfl,trivial,rfl⟩ ?_
 rintro n σ ⟨i,hi,rfl, -,rfl⟩
 by_cases hlt:i < t.length
 ·have hr:=jB (f:=Ent.row) hlt
  have hs:=qbj hlt hn
  generalize t[i] = e at *
  obtain ⟨p,f,x,v⟩:=e
  cases f with
  | true =>
    repeat' (first|refine qn ?_|(first|(apply yL;apply xx;rfl;rfl;rfl;rfl;rfl;rfl;rfl;rfl))|((first|refine xsC ?_ ?_);all_goals (intro hc;have hp:=hc;try simp at hp;try (exfalso;omega)))|refine qX ?_ ?_)
    all_goals try (exfalso;first|omega|contradiction)
    refine ⟨t.length - (i + 1),_,by omega,qB (τ:=⟨[(3,.mp 0),(7,qa t),(8,.v (.int .i64 t.length)),(9,.v (.int .i64 ((i + 1:Nat):Int)))],[(0,.mp (qr (t.take (i + 1))))],1⟩) [(0,0)] rfl ?gts ?ghs,i + 1,by omega,rfl,trivial,rfl⟩;(case gts=>(repeat (first|exact qg|refine qo ?_|refine yg ?_|refine xM ?_|refine zi ?_|refine xN ?_ ?_|refine qY ?_ ?_));all_goals (first|exact qh _|exact (hs ▸ List.Perm.refl _)));(case ghs=>(repeat' (first|exact qj|refine jx ?_|refine zy ?_|refine x2 ?_ ?_ ?_|refine ve ?_ ?_|refine yY ?_ ?_|refine xh ?_ ?_ ?_ ?_|refine q6 ?_ ?_|exact ql|apply qd|exact qk rfl|(apply qt;(first|exact qN rfl|exact .inr (List.mem_cons_self ..)|exact .inr (List.mem_cons_of_mem _ (List.mem_cons_self ..))|exact .inr (List.mem_cons_of_mem _ (List.mem_cons_of_mem _ (List.mem_cons_self ..)))|exact .inr (List.mem_cons_of_mem _ (List.mem_cons_of_mem _ (List.mem_cons_of_mem _ (List.mem_cons_self ..))))))|refine ju ?_|refine xi ?_ rfl|with_reducible exact List.Perm.refl _));all_goals (first|exact qh _|exact (hs ▸ List.Perm.refl _)))
  | false =>
    repeat' (first|refine qn ?_|(first|(apply yL;apply xx;rfl;rfl;rfl;rfl;rfl;rfl;rfl;rfl))|((first|refine xsC ?_ ?_);all_goals (intro hc;have hp:=hc;try simp at hp;try (exfalso;omega)))|refine qX ?_ ?_)
    all_goals try (exfalso;first|omega|contradiction)
    refine ⟨t.length - (i + 1),_,by omega,qB (τ:=⟨[(3,.mp 0),(7,qa t),(8,.v (.int .i64 t.length)),(9,.v (.int .i64 ((i + 1:Nat):Int)))],[(0,.mp (qr (t.take (i + 1))))],1⟩) [(0,0)] rfl ?gts ?ghs,i + 1,by omega,rfl,trivial,rfl⟩;(case gts=>(repeat (first|exact qg|refine qo ?_|refine yg ?_|refine xM ?_|refine zi ?_|refine xN ?_ ?_|refine qY ?_ ?_));all_goals (first|exact qh _|exact (hs ▸ List.Perm.refl _)));(case ghs=>(repeat' (first|exact qj|refine jx ?_|refine zy ?_|refine x2 ?_ ?_ ?_|refine ve ?_ ?_|refine yY ?_ ?_|refine xh ?_ ?_ ?_ ?_|refine q6 ?_ ?_|exact ql|apply qd|exact qk rfl|(apply qt;(first|exact qN rfl|exact .inr (List.mem_cons_self ..)|exact .inr (List.mem_cons_of_mem _ (List.mem_cons_self ..))|exact .inr (List.mem_cons_of_mem _ (List.mem_cons_of_mem _ (List.mem_cons_self ..)))|exact .inr (List.mem_cons_of_mem _ (List.mem_cons_of_mem _ (List.mem_cons_of_mem _ (List.mem_cons_self ..))))))|refine ju ?_|refine xi ?_ rfl|with_reducible exact List.Perm.refl _));all_goals (first|exact qh _|exact (hs ▸ List.Perm.refl _)))
 obtain rfl:i = t.length:=by omega
 repeat' (first|refine qn ?_|(first|(apply yL;apply xx;rfl;rfl;rfl;rfl;rfl;rfl;rfl;rfl))|((first|refine xsC ?_ ?_);all_goals (intro hc;have hp:=hc;try simp at hp;try (exfalso;omega)))|refine qX ?_ ?_)
 all_goals try (exfalso;omega)
 rw [List.take_length]
 (apply jM (rs:=[.tmp 2]) [(0,0)] 1;(case hr=>(repeat (first|exact js|(apply jt;rfl)|(apply jl;rfl;rfl;rfl;rfl;rfl))));(case hL=>rfl);(case hh=>(repeat' (first|exact qj|refine jx ?_|refine zy ?_|refine x2 ?_ ?_ ?_|refine ve ?_ ?_|refine yY ?_ ?_|refine xh ?_ ?_ ?_ ?_|refine q6 ?_ ?_|exact ql|apply qd|exact qk rfl|(apply qt;(first|exact qN rfl|exact .inr (List.mem_cons_self ..)|exact .inr (List.mem_cons_of_mem _ (List.mem_cons_self ..))|exact .inr (List.mem_cons_of_mem _ (List.mem_cons_of_mem _ (List.mem_cons_self ..)))|exact .inr (List.mem_cons_of_mem _ (List.mem_cons_of_mem _ (List.mem_cons_of_mem _ (List.mem_cons_self ..))))))|refine ju ?_|refine xi ?_ rfl|with_reducible exact List.Perm.refl _));all_goals (first|exact qh _|trace_state));(case hi=>exact rfl);(case hz=>first|rfl|(simp [yh,AV.ren,AV.ren.renL,jF,qS,jD];done)|(simp [yh,AV.ren,AV.ren.renL,jF,qS,jD, *];done)|trace_state))
noncomputable def C6:Cx := { C with nh:=6 }
theorem qgc (l:List (List UInt8 × AV)) (p:qP) (x:Thg) (hp : ∀ e,e ∈ l → e.2.pure = true):qZ C1.P 115 [.mp 0,.v (str p),xI x] [.mp l] (.tup []) [.mp (if x.kind = 0 then xJ l p else xb l p (xI x))]:=by
 have hq : ∀ e,e ∈ xJ l p → e.2.pure = true:=fun e he=>hp e (List.mem_filter.1 he).1
 by_cases h0:x.kind = 0
 ·rw [if_pos h0]
  refine qc (C:=C1) Tryz.func115 rfl _ Tryz.ntmps115 (Nat.le_of_ble_eq_true rfl) _ Tryz.results115 1 rfl rfl ?_
  repeat' (first|refine qn ?_|(first|(apply yL;apply xx;rfl;rfl;rfl;rfl;rfl;rfl;rfl;rfl)|(apply yL;apply ZE;(case hm=>rfl);(case hn=>rfl);(case hk=>rfl);(case htys=>rfl);(case hT=>rfl);(case he=>rfl);(case hK=>rfl);(case hks=>rfl)))|((first|refine qf ?_ ?_|refine qe ?_ ?_|refine xsC ?_ ?_);all_goals (intro hc;have hp:=hc;try simp at hp;try (exfalso;omega)))|refine qX ?_ ?_)
  all_goals try (exfalso;first|omega|contradiction)
  (apply jM (rs:=([]:List ResultVar)) [] 1;(case hr=>(repeat (first|exact js|(apply jt;rfl)|(apply jl;rfl;rfl;rfl;rfl;rfl))));(case hL=>rfl);(case hh=>(repeat' (first|exact qj|refine jx ?_|refine zy ?_|refine x2 ?_ ?_ ?_|refine ve ?_ ?_|refine yY ?_ ?_|refine xh ?_ ?_ ?_ ?_|refine q6 ?_ ?_|exact ql|apply qd|exact qk rfl|(apply qt;(first|exact qN rfl|exact .inr (List.mem_cons_self ..)|exact .inr (List.mem_cons_of_mem _ (List.mem_cons_self ..))|exact .inr (List.mem_cons_of_mem _ (List.mem_cons_of_mem _ (List.mem_cons_self ..)))|exact .inr (List.mem_cons_of_mem _ (List.mem_cons_of_mem _ (List.mem_cons_of_mem _ (List.mem_cons_self ..))))))|refine ju ?_|refine xi ?_ rfl|with_reducible exact List.Perm.refl _));all_goals (first|assumption|exact List.Perm.refl _|trace_state));(case hi=>exact rfl);(case hz=>first|rfl|(simp [yh,AV.ren,AV.ren.renL,jF,qS,jD];done)|(simp [yh,AV.ren,AV.ren.renL,jF,qS,jD, *];done)|trace_state))
 ·rw [if_neg h0]
  have hr : ∀ e,e ∈ xb l p (xI x) → e.2.pure = true:=fun e he=>by
   unfold xb at he
   split at he
   ·rcases List.mem_or_eq_of_mem_set he with h|rfl
    ·exact hp e h
    ·rfl
   ·rcases List.mem_append.1 he with h|h
    ·exact hp e h
    ·rw [List.mem_singleton.1 h];rfl
  refine qc (C:=C1) Tryz.func115 rfl _ Tryz.ntmps115 (Nat.le_of_ble_eq_true rfl) _ Tryz.results115 1 rfl rfl ?_
  repeat' (first|refine qn ?_|(first|(apply yL;apply xx;rfl;rfl;rfl;rfl;rfl;rfl;rfl;rfl)|(apply yL;apply ZE;(case hm=>rfl);(case hn=>rfl);(case hk=>rfl);(case htys=>rfl);(case hT=>rfl);(case he=>rfl);(case hK=>rfl);(case hks=>rfl)))|((first|refine qf ?_ ?_|refine qe ?_ ?_|refine xsC ?_ ?_);all_goals (intro hc;have hp:=hc;try simp at hp;try (exfalso;omega)))|refine qX ?_ ?_)
  all_goals try (exfalso;first|omega|contradiction)
  (apply jM (rs:=([]:List ResultVar)) [] 1;(case hr=>(repeat (first|exact js|(apply jt;rfl)|(apply jl;rfl;rfl;rfl;rfl;rfl))));(case hL=>rfl);(case hh=>(repeat' (first|exact qj|refine jx ?_|refine zy ?_|refine x2 ?_ ?_ ?_|refine ve ?_ ?_|refine yY ?_ ?_|refine xh ?_ ?_ ?_ ?_|refine q6 ?_ ?_|exact ql|apply qd|exact qk rfl|(apply qt;(first|exact qN rfl|exact .inr (List.mem_cons_self ..)|exact .inr (List.mem_cons_of_mem _ (List.mem_cons_self ..))|exact .inr (List.mem_cons_of_mem _ (List.mem_cons_of_mem _ (List.mem_cons_self ..)))|exact .inr (List.mem_cons_of_mem _ (List.mem_cons_of_mem _ (List.mem_cons_of_mem _ (List.mem_cons_self ..))))))|refine ju ?_|refine xi ?_ rfl|with_reducible exact List.Perm.refl _));all_goals (first|assumption|exact List.Perm.refl _|trace_state));(case hi=>exact rfl);(case hz=>first|rfl|(simp [yh,AV.ren,AV.ren.renL,jF,qS,jD];done)|(simp [yh,AV.ren,AV.ren.renL,jF,qS,jD, *];done)|trace_state))
end Go.Proofs.YtamejbkifpjhiaaGreatDoor
