import Derived.Test.YtnhpclmbhbblbaaGreatDoorMz14
import Derived.Test.YtnhpclmbhbblbaaGreatDoorMz9
import Derived.Test.YtnhpclmbhbblbaaGreatDoorMz18
import Derived.Test.YtnhpclmbhbblbaaGreatDoorMz20
set_option linter.unusedSimpArgs false
set_option linter.unnecessarySimpa false
set_option linter.unusedVariables false
set_option maxHeartbeats 1000000
namespace Go.Proofs.YtnhpclmbhbblbaaGreatDoor
open Go.Ab Go.RowKit
set_option maxRecDepth 10000
attribute [local irreducible] Awp j4 jw js Red qU Go.Ab.Fin q6 Rz x6 jp jo ResOk jJ ju yb jx
def yA (x:Thg):AV := .agg [.v (.int .i64 x.kind),.v (str x.text)]
def qm (t:List Ent):List (List UInt8 × AV):=t.map fun e=>(e.path,yA (yL e))
theorem qc (t:List Ent) : ∀ e,e ∈ qm t → e.2.pure = true:=fun e he=>by
 obtain ⟨x,_,rfl⟩:=List.mem_map.1 he
 rfl
theorem x7 (t:List Ent):(qm t).map (·.1) = t.map Ent.path:=by
 unfold qm
 rw [List.map_map];rfl
theorem J4 {l:List (List UInt8 × AV)} {s:List UInt8} {x:AV}:s ∉ l.map (·.1) → j7 l s x = l ++ [(s,x)]:=by
 induction l with
 | nil=>intro _;rfl
 | cons e l ih =>
   intro h
   rw [List.map_cons,List.mem_cons,not_or] at h
   rw [kJ,if_neg (fun e'=>h.1 e'.symm),ih h.2];rfl
theorem V9 {t:List Ent} {i:Nat} (h:i < t.length) (hd:(t.map Ent.path).Nodup):j7 (qm (t.take i)) t[i].path (yA (yL t[i])) = qm (t.take (i + 1)):=by
 have hn:t[i].path ∉ (qm (t.take i)).map (·.1):=by
  rw [x7]
  intro hm
  obtain ⟨x,hx,he⟩:=List.mem_map.1 hm
  obtain ⟨j,hj,rfl⟩:=List.getElem_of_mem hx
  rw [List.getElem_take] at he
  have hj' : j < i:=by simp at hj;omega
  have:=(List.getElem_inj (h₀:=by simp;omega) (h₁:=by simp;omega) hd (i:=j) (j:=i)).1 (by simpa using he)
  omega
 rw [J4 hn,List.take_succ_eq_append_getElem h]
 unfold qm
 rw [List.map_append];rfl
theorem YT (t:List Ent) (p:qJ):xy (qm t) p = (q5 t p).map fun e=>yA (yL e):=by
 unfold xy qm q5
 rw [List.find?_map,Option.map_map]
 have:((fun e:List UInt8 × AV=>e.1 == p) ∘ fun e:Ent=>(e.path,yA (yL e))) = atP p:=by
  funext e
  show (e.path == p) = decide (e.path = p)
  by_cases h:e.path = p<;>simp [h]
 rw [this]
 rfl
theorem xG (t:List Ent) (p:qJ):(xy (qm t) p).getD (yA noT) = yA (stT t p):=by
 rw [YT]
 unfold stT
 cases q5 t p<;>rfl
theorem ky {t:List Ent} (h:qY jn t = true):(t.map Ent.path).Nodup:=by
 rw [List.Nodup,List.pairwise_map]
 exact (yP.1 h).imp fun {a b} hab e=>by rw [e,vG] at hab;cases hab
theorem J2 {t:List Ent} {e:Ent} (h:qY jn t = true):(j7 (qm t) e.path (yA (yL e))).Perm (qm (jX t e)):=by
 have hn:((qm t).map (·.1)).Nodup:=by rw [x7];exact ky h
 refine (zA hn).trans ?_
 obtain ⟨A,M,Z,h1,hp,hA,hZ,hM⟩:=Yi e.path (yP.1 h)
 rw [z6 h1 hp hM]
 have hA' : ∀ a,a ∈ A → ¬ a.path = e.path:=fun a ha=>Qh (hA a ha)
 have hZ' : ∀ a,a ∈ Z → ¬ a.path = e.path:=fun a ha h2=>Qh (hZ a ha) h2.symm
 have keep : ∀ l:List Ent,(∀ a,a ∈ l → ¬ a.path = e.path) → yB (qm l) e.path = qm l:=fun l hl=>vQ (by
  rw [x7]
  intro hm
  obtain ⟨x,hx,he⟩:=List.mem_map.1 hm
  exact hl x hx he)
 have app : ∀ a b:List Ent,qm (a ++ b) = qm a ++ qm b:=fun a b=>List.map_append ..
 have dapp : ∀ a b:List (List UInt8 × AV),yB (a ++ b) e.path = yB a e.path ++ yB b e.path:=fun a b=>List.filter_append ..
 have hMd:yB (qm M) e.path = []:=by
  rcases hM with ⟨_,y,rfl,hy⟩|⟨_,rfl⟩
  ·simp [qm,yB,hy]
  ·rfl
 rw [h1,app,app,dapp,dapp,keep A hA',keep Z hZ',hMd,List.nil_append,app,app]
 exact List.perm_middle.symm
theorem KZ {t:List Ent} {p:qJ} {x:Thg} (h:qY jn t = true) (hg:v7 x) (h0:¬ x.kind = 0):(j7 (qm t) p (yA x)).Perm (qm (jX t (kA p x))):=by
 have:=J2 (e:=kA p x) h
 rwa [XJ hg h0] at this
theorem qR : ∀ w,(zeroValue 99).run C.P w = .ok (.agg #[.int .i64 0,.string ⟨#[]⟩]) w:=Tryz.zeroValue99
theorem jr (F:Still) (ρ:Places):M F ρ (.agg #[.int .i64 0,.string ⟨#[]⟩]) (yA noT):=by
 refine .agg _ [.int .i64 0,.string ⟨#[]⟩] _ rfl fun i v x hv hx=>?_
 match i with
 | 0=>simp at hv hx;subst hv;subst hx;exact .v _ _ rfl
 | 1=>simp at hv hx;subst hv;subst hx;exact .v _ _ rfl
 | i + 2=>simp at hv
theorem xO:qaq C.P 99 = some [0,1]:=by kernel_rfl
theorem yK (a b:Thg):kF [0,1] [.v (.int .i64 a.kind),.v (str a.text)] [.v (.int .i64 b.kind),.v (str b.text)] = some (decide (a = b)):=by
 obtain ⟨a1,a2⟩:=a
 obtain ⟨b1,b2⟩:=b
 simp only [kF,kB,str,Thg.mk.injEq,if_true,Option.some.injEq]
 by_cases h1:a1 = b1<;>by_cases h2:a2 = b2<;>simp [h1,h2]
theorem Yy (t:List Ent) (hd:qY jn t = true) (hl:t.length ≤ 1000000):q6 C.P 23 [qe t] [] (.mp 0) [.mp (qm t)]:=by
 have hn:=ky hd
 have hml:(t.map Ent.row).length = t.length:=List.length_map ..
 refine qh Tryz.func23 rfl _ Tryz.ntmps23 (Nat.le_of_ble_eq_true rfl) _ Tryz.results23 0 rfl rfl ?_
 repeat' (first|refine qA ?_|(first|(apply y2;apply zl;exact nle rfl))|((first|refine jg ?_ ?_);all_goals (intro hc;have hp:=hc;try simp at hp;try (exfalso;omega)))|refine jh ?_ ?_)
 all_goals try (exfalso;omega)
 (refine Awp.red (qL (τ:=⟨[(3,.mp 0),(7,qe t),(8,.v (.int .i64 t.length)),(9,.v (.int .i64 ((0:Nat):Int)))],[(0,.mp (qm (t.take 0)))],1⟩) [(0,0)] rfl ?gts2 ?ghs2) ?_;(case gts2=>(repeat (first|exact qi|refine qz ?_|refine xb ?_|refine yF ?_|refine xY ?_|refine yG ?_ ?_|refine ji ?_ ?_));all_goals (first|exact qc _|(rw [List.length_map];done)|rfl|exact nofun));(case ghs2=>(repeat' (first|exact qq|refine q4 ?_|refine vd ?_|refine yU ?_ ?_ ?_|refine y8 ?_ ?_|refine jW ?_ ?_|refine j9 ?_ ?_ ?_ ?_|refine jC ?_ ?_|exact qg|apply qb|exact qf rfl|(apply qr;(first|exact qH rfl|exact .inr (List.mem_cons_self ..)|exact .inr (List.mem_cons_of_mem _ (List.mem_cons_self ..))|exact .inr (List.mem_cons_of_mem _ (List.mem_cons_of_mem _ (List.mem_cons_self ..)))|exact .inr (List.mem_cons_of_mem _ (List.mem_cons_of_mem _ (List.mem_cons_of_mem _ (List.mem_cons_self ..))))))|refine q3 ?_|refine yc ?_ rfl|with_reducible exact List.Perm.refl _));all_goals (first|exact qc _|(rw [List.length_map];done)|rfl|exact nofun)))
 refine jf (fun n σ => ∃ i:Nat,i ≤ t.length ∧ n = t.length - i ∧ (True) ∧ σ = ⟨[(3,.mp 0),(7,qe t),(8,.v (.int .i64 t.length)),(9,.v (.int .i64 (i:Int)))],[(0,.mp (qm (t.take i)))],1⟩) t.length ⟨0,Nat.zero_le _,rfl,trivial,rfl⟩ ?_
 rintro n σ ⟨i,hi,rfl, -,rfl⟩
 by_cases hlt:i < t.length
 ·have hr:=j3 (f:=Ent.row) hlt
  have hs:=V9 hlt hn
  generalize t[i] = e at *
  obtain ⟨p,f,x,v⟩:=e
  cases f with
  | true =>
    repeat' (first|refine qA ?_|(first|(apply jS;apply yr;rfl;rfl;rfl;rfl;rfl;rfl;rfl;rfl))|((first|refine jg ?_ ?_);all_goals (intro hc;have hp:=hc;try simp at hp;try (exfalso;omega)))|refine jh ?_ ?_)
    all_goals try (exfalso;first|omega|contradiction)
    refine ⟨t.length - (i + 1),_,by omega,qL (τ:=⟨[(3,.mp 0),(7,qe t),(8,.v (.int .i64 t.length)),(9,.v (.int .i64 ((i + 1:Nat):Int)))],[(0,.mp (qm (t.take (i + 1))))],1⟩) [(0,0)] rfl ?gts ?ghs,i + 1,by omega,rfl,trivial,rfl⟩;(case gts=>(repeat (first|exact qi|refine qz ?_|refine xb ?_|refine yF ?_|refine xY ?_|refine yG ?_ ?_|refine ji ?_ ?_));all_goals (first|exact qc _|exact (hs ▸ List.Perm.refl _)));(case ghs=>(repeat' (first|exact qq|refine q4 ?_|refine vd ?_|refine yU ?_ ?_ ?_|refine y8 ?_ ?_|refine jW ?_ ?_|refine j9 ?_ ?_ ?_ ?_|refine jC ?_ ?_|exact qg|apply qb|exact qf rfl|(apply qr;(first|exact qH rfl|exact .inr (List.mem_cons_self ..)|exact .inr (List.mem_cons_of_mem _ (List.mem_cons_self ..))|exact .inr (List.mem_cons_of_mem _ (List.mem_cons_of_mem _ (List.mem_cons_self ..)))|exact .inr (List.mem_cons_of_mem _ (List.mem_cons_of_mem _ (List.mem_cons_of_mem _ (List.mem_cons_self ..))))))|refine q3 ?_|refine yc ?_ rfl|with_reducible exact List.Perm.refl _));all_goals (first|exact qc _|exact (hs ▸ List.Perm.refl _)))
  | false =>
    repeat' (first|refine qA ?_|(first|(apply jS;apply yr;rfl;rfl;rfl;rfl;rfl;rfl;rfl;rfl))|((first|refine jg ?_ ?_);all_goals (intro hc;have hp:=hc;try simp at hp;try (exfalso;omega)))|refine jh ?_ ?_)
    all_goals try (exfalso;first|omega|contradiction)
    refine ⟨t.length - (i + 1),_,by omega,qL (τ:=⟨[(3,.mp 0),(7,qe t),(8,.v (.int .i64 t.length)),(9,.v (.int .i64 ((i + 1:Nat):Int)))],[(0,.mp (qm (t.take (i + 1))))],1⟩) [(0,0)] rfl ?gts ?ghs,i + 1,by omega,rfl,trivial,rfl⟩;(case gts=>(repeat (first|exact qi|refine qz ?_|refine xb ?_|refine yF ?_|refine xY ?_|refine yG ?_ ?_|refine ji ?_ ?_));all_goals (first|exact qc _|exact (hs ▸ List.Perm.refl _)));(case ghs=>(repeat' (first|exact qq|refine q4 ?_|refine vd ?_|refine yU ?_ ?_ ?_|refine y8 ?_ ?_|refine jW ?_ ?_|refine j9 ?_ ?_ ?_ ?_|refine jC ?_ ?_|exact qg|apply qb|exact qf rfl|(apply qr;(first|exact qH rfl|exact .inr (List.mem_cons_self ..)|exact .inr (List.mem_cons_of_mem _ (List.mem_cons_self ..))|exact .inr (List.mem_cons_of_mem _ (List.mem_cons_of_mem _ (List.mem_cons_self ..)))|exact .inr (List.mem_cons_of_mem _ (List.mem_cons_of_mem _ (List.mem_cons_of_mem _ (List.mem_cons_self ..))))))|refine q3 ?_|refine yc ?_ rfl|with_reducible exact List.Perm.refl _));all_goals (first|exact qc _|exact (hs ▸ List.Perm.refl _)))
 obtain rfl:i = t.length:=by omega
 repeat' (first|refine qA ?_|(first|(apply jS;apply yr;rfl;rfl;rfl;rfl;rfl;rfl;rfl;rfl))|((first|refine jg ?_ ?_);all_goals (intro hc;have hp:=hc;try simp at hp;try (exfalso;omega)))|refine jh ?_ ?_)
 all_goals try (exfalso;omega)
 rw [List.take_length]
 (apply jA (rs:=[.tmp 2]) [(0,0)] 1;(case hr=>(repeat (first|exact jm|(apply jl;rfl)|(apply q9;rfl;rfl;rfl;rfl;rfl))));(case hL=>rfl);(case hh=>(repeat' (first|exact qq|refine q4 ?_|refine vd ?_|refine yU ?_ ?_ ?_|refine y8 ?_ ?_|refine jW ?_ ?_|refine j9 ?_ ?_ ?_ ?_|refine jC ?_ ?_|exact qg|apply qb|exact qf rfl|(apply qr;(first|exact qH rfl|exact .inr (List.mem_cons_self ..)|exact .inr (List.mem_cons_of_mem _ (List.mem_cons_self ..))|exact .inr (List.mem_cons_of_mem _ (List.mem_cons_of_mem _ (List.mem_cons_self ..)))|exact .inr (List.mem_cons_of_mem _ (List.mem_cons_of_mem _ (List.mem_cons_of_mem _ (List.mem_cons_self ..))))))|refine q3 ?_|refine yc ?_ rfl|with_reducible exact List.Perm.refl _));all_goals (first|exact qc _|trace_state));(case hi=>exact rfl);(case hz=>first|rfl|(simp [j1,AV.ren,AV.ren.renL,jz,qN,jy];done)|(simp [j1,AV.ren,AV.ren.renL,jz,qN,jy, *];done)|trace_state))
noncomputable def C6:Cx := { C with nh:=6 }
theorem qbG (l:List (List UInt8 × AV)) (p:qJ) (x:Thg) (hp : ∀ e,e ∈ l → e.2.pure = true):q6 C1.P 58 [.mp 0,.v (str p),yA x] [.mp l] (.tup []) [.mp (if x.kind = 0 then yB l p else j7 l p (yA x))]:=by
 have hq : ∀ e,e ∈ yB l p → e.2.pure = true:=fun e he=>hp e (List.mem_filter.1 he).1
 by_cases h0:x.kind = 0
 ·rw [if_pos h0]
  refine qh (C:=C1) Tryz.func58 rfl _ Tryz.ntmps58 (Nat.le_of_ble_eq_true rfl) _ Tryz.results58 1 rfl rfl ?_
  repeat' (first|refine qA ?_|(first|(apply jS;apply yr;rfl;rfl;rfl;rfl;rfl;rfl;rfl;rfl)|(apply jS;apply Y4;(case hm=>rfl);(case hn=>rfl);(case hk=>rfl);(case htys=>rfl);(case hT=>rfl);(case he=>rfl);(case hK=>rfl);(case hks=>rfl)))|((first|refine qk ?_ ?_|refine ql ?_ ?_|refine jg ?_ ?_);all_goals (intro hc;have hp:=hc;try simp at hp;try (exfalso;omega)))|refine jh ?_ ?_)
  all_goals try (exfalso;first|omega|contradiction)
  (apply jA (rs:=([]:List ResultVar)) [] 1;(case hr=>(repeat (first|exact jm|(apply jl;rfl)|(apply q9;rfl;rfl;rfl;rfl;rfl))));(case hL=>rfl);(case hh=>(repeat' (first|exact qq|refine q4 ?_|refine vd ?_|refine yU ?_ ?_ ?_|refine y8 ?_ ?_|refine jW ?_ ?_|refine j9 ?_ ?_ ?_ ?_|refine jC ?_ ?_|exact qg|apply qb|exact qf rfl|(apply qr;(first|exact qH rfl|exact .inr (List.mem_cons_self ..)|exact .inr (List.mem_cons_of_mem _ (List.mem_cons_self ..))|exact .inr (List.mem_cons_of_mem _ (List.mem_cons_of_mem _ (List.mem_cons_self ..)))|exact .inr (List.mem_cons_of_mem _ (List.mem_cons_of_mem _ (List.mem_cons_of_mem _ (List.mem_cons_self ..))))))|refine q3 ?_|refine yc ?_ rfl|with_reducible exact List.Perm.refl _));all_goals (first|assumption|exact List.Perm.refl _|trace_state));(case hi=>exact rfl);(case hz=>first|rfl|(simp [j1,AV.ren,AV.ren.renL,jz,qN,jy];done)|(simp [j1,AV.ren,AV.ren.renL,jz,qN,jy, *];done)|trace_state))
 ·rw [if_neg h0]
  have hr : ∀ e,e ∈ j7 l p (yA x) → e.2.pure = true:=fun e he=>by
   unfold j7 at he
   split at he
   ·rcases List.mem_or_eq_of_mem_set he with h|rfl
    ·exact hp e h
    ·rfl
   ·rcases List.mem_append.1 he with h|h
    ·exact hp e h
    ·rw [List.mem_singleton.1 h];rfl
  refine qh (C:=C1) Tryz.func58 rfl _ Tryz.ntmps58 (Nat.le_of_ble_eq_true rfl) _ Tryz.results58 1 rfl rfl ?_
  repeat' (first|refine qA ?_|(first|(apply jS;apply yr;rfl;rfl;rfl;rfl;rfl;rfl;rfl;rfl)|(apply jS;apply Y4;(case hm=>rfl);(case hn=>rfl);(case hk=>rfl);(case htys=>rfl);(case hT=>rfl);(case he=>rfl);(case hK=>rfl);(case hks=>rfl)))|((first|refine qk ?_ ?_|refine ql ?_ ?_|refine jg ?_ ?_);all_goals (intro hc;have hp:=hc;try simp at hp;try (exfalso;omega)))|refine jh ?_ ?_)
  all_goals try (exfalso;first|omega|contradiction)
  (apply jA (rs:=([]:List ResultVar)) [] 1;(case hr=>(repeat (first|exact jm|(apply jl;rfl)|(apply q9;rfl;rfl;rfl;rfl;rfl))));(case hL=>rfl);(case hh=>(repeat' (first|exact qq|refine q4 ?_|refine vd ?_|refine yU ?_ ?_ ?_|refine y8 ?_ ?_|refine jW ?_ ?_|refine j9 ?_ ?_ ?_ ?_|refine jC ?_ ?_|exact qg|apply qb|exact qf rfl|(apply qr;(first|exact qH rfl|exact .inr (List.mem_cons_self ..)|exact .inr (List.mem_cons_of_mem _ (List.mem_cons_self ..))|exact .inr (List.mem_cons_of_mem _ (List.mem_cons_of_mem _ (List.mem_cons_self ..)))|exact .inr (List.mem_cons_of_mem _ (List.mem_cons_of_mem _ (List.mem_cons_of_mem _ (List.mem_cons_self ..))))))|refine q3 ?_|refine yc ?_ rfl|with_reducible exact List.Perm.refl _));all_goals (first|assumption|exact List.Perm.refl _|trace_state));(case hi=>exact rfl);(case hz=>first|rfl|(simp [j1,AV.ren,AV.ren.renL,jz,qN,jy];done)|(simp [j1,AV.ren,AV.ren.renL,jz,qN,jy, *];done)|trace_state))
end Go.Proofs.YtnhpclmbhbblbaaGreatDoor
