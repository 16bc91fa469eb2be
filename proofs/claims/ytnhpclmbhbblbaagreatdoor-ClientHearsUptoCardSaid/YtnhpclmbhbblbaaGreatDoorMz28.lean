import Derived.Test.YtnhpclmbhbblbaaGreatDoorMz15
import Derived.Test.YtnhpclmbhbblbaaGreatDoorMz7
import Derived.Test.YtnhpclmbhbblbaaGreatDoorMz22
import Derived.Test.YtnhpclmbhbblbaaGreatDoorMz27
set_option linter.unusedSimpArgs false
set_option linter.unnecessarySimpa false
set_option linter.unusedVariables false
set_option maxHeartbeats 1000000
namespace Go.Proofs.YtnhpclmbhbblbaaGreatDoor
open Go.Ab Go.RowKit
set_option maxRecDepth 10000
attribute [local irreducible] Awp yl jE jl Red qX Go.Ab.Fin qW Rz vl jj ji ResOk jV jz yb jv
def xF (x:Thg):AV := .agg [.v (.int .i64 x.kind),.v (str x.text)]
def qq (t:List Ent):List (List UInt8 × AV):=t.map fun e=>(e.path,xF (xO e))
theorem qi (t:List Ent) : ∀ e,e ∈ qq t → e.2.pure = true:=fun e he=>by
 obtain ⟨x,_,rfl⟩:=List.mem_map.1 he
 rfl
theorem zq (t:List Ent):(qq t).map (·.1) = t.map Ent.path:=by
 unfold qq
 rw [List.map_map];rfl
theorem V3 {l:List (List UInt8 × AV)} {s:List UInt8} {x:AV}:s ∉ l.map (·.1) → yY l s x = l ++ [(s,x)]:=by
 induction l with
 | nil=>intro _;rfl
 | cons e l ih =>
   intro h
   rw [List.map_cons,List.mem_cons,not_or] at h
   rw [Je,if_neg (fun e'=>h.1 e'.symm),ih h.2];rfl
theorem qbl {t:List Ent} {i:Nat} (h:i < t.length) (hd:(t.map Ent.path).Nodup):yY (qq (t.take i)) t[i].path (xF (xO t[i])) = qq (t.take (i + 1)):=by
 have hn:t[i].path ∉ (qq (t.take i)).map (·.1):=by
  rw [zq]
  intro hm
  obtain ⟨x,hx,he⟩:=List.mem_map.1 hm
  obtain ⟨j,hj,rfl⟩:=List.getElem_of_mem hx
  rw [List.getElem_take] at he
  have hj' : j < i:=by simp at hj;omega
  have:=(List.getElem_inj (h₀:=by simp;omega) (h₁:=by simp;omega) hd (i:=j) (j:=i)).1 (by simpa using he)
  omega
 rw [V3 hn,List.take_succ_eq_append_getElem h]
 unfold qq
 rw [List.map_append];rfl
theorem Kk (t:List Ent) (p:qQ):vC (qq t) p = (q7 t p).map fun e=>xF (xO e):=by
 unfold vC qq q7
 rw [List.find?_map,Option.map_map]
 have:((fun e:List UInt8 × AV=>e.1 == p) ∘ fun e:Ent=>(e.path,xF (xO e))) = atP p:=by
  funext e
  show (e.path == p) = decide (e.path = p)
  by_cases h:e.path = p<;>simp [h]
 rw [this]
 rfl
theorem vK (t:List Ent) (p:qQ):(vC (qq t) p).getD (xF noT) = xF (stT t p):=by
 rw [Kk]
 unfold stT
 cases q7 t p<;>rfl
theorem QY {t:List Ent} (h:q4 jr t = true):(t.map Ent.path).Nodup:=by
 rw [List.Nodup,List.pairwise_map]
 exact (xB.1 h).imp fun {a b} hab e=>by rw [e,zj] at hab;cases hab
theorem Zj {t:List Ent} {e:Ent} (h:q4 jr t = true):(yY (qq t) e.path (xF (xO e))).Perm (qq (jN t e)):=by
 have hn:((qq t).map (·.1)).Nodup:=by rw [zq];exact QY h
 refine (wV hn).trans ?_
 obtain ⟨A,M,Z,h1,hp,hA,hZ,hM⟩:=Zk e.path (xB.1 h)
 rw [QR h1 hp hM]
 have hA' : ∀ a,a ∈ A → ¬ a.path = e.path:=fun a ha=>Yr (hA a ha)
 have hZ' : ∀ a,a ∈ Z → ¬ a.path = e.path:=fun a ha h2=>Yr (hZ a ha) h2.symm
 have keep : ∀ l:List Ent,(∀ a,a ∈ l → ¬ a.path = e.path) → xG (qq l) e.path = qq l:=fun l hl=>kE (by
  rw [zq]
  intro hm
  obtain ⟨x,hx,he⟩:=List.mem_map.1 hm
  exact hl x hx he)
 have app : ∀ a b:List Ent,qq (a ++ b) = qq a ++ qq b:=fun a b=>List.map_append ..
 have dapp : ∀ a b:List (List UInt8 × AV),xG (a ++ b) e.path = xG a e.path ++ xG b e.path:=fun a b=>List.filter_append ..
 have hMd:xG (qq M) e.path = []:=by
  rcases hM with ⟨_,y,rfl,hy⟩|⟨_,rfl⟩
  ·simp [qq,xG,hy]
  ·rfl
 rw [h1,app,app,dapp,dapp,keep A hA',keep Z hZ',hMd,List.nil_append,app,app]
 exact List.perm_middle.symm
theorem qc2 {t:List Ent} {p:qQ} {x:Thg} (h:q4 jr t = true) (hg:kP x) (h0:¬ x.kind = 0):(yY (qq t) p (xF x)).Perm (qq (jN t (Q4 p x))):=by
 have:=Zj (e:=Q4 p x) h
 rwa [K4 hg h0] at this
theorem jb : ∀ w,(zeroValue 99).run C.P w = .ok (.agg #[.int .i64 0,.string ⟨#[]⟩]) w:=Tryz.zeroValue99
theorem jK (F:Still) (ρ:Places):M F ρ (.agg #[.int .i64 0,.string ⟨#[]⟩]) (xF noT):=by
 refine .agg _ [.int .i64 0,.string ⟨#[]⟩] _ rfl fun i v x hv hx=>?_
 match i with
 | 0=>simp at hv hx;subst hv;subst hx;exact .v _ _ rfl
 | 1=>simp at hv hx;subst hv;subst hx;exact .v _ _ rfl
 | i + 2=>simp at hv
theorem vT:qcm C.P 99 = some [0,1]:=by kernel_rfl
theorem xN (a b:Thg):Qm [0,1] [.v (.int .i64 a.kind),.v (str a.text)] [.v (.int .i64 b.kind),.v (str b.text)] = some (decide (a = b)):=by
 obtain ⟨a1,a2⟩:=a
 obtain ⟨b1,b2⟩:=b
 simp only [Qm,Qw,str,Thg.mk.injEq,if_true,Option.some.injEq]
 by_cases h1:a1 = b1<;>by_cases h2:a2 = b2<;>simp [h1,h2]
theorem Vy (t:List Ent) (hd:q4 jr t = true) (hl:t.length ≤ 1000000):qW C.P 23 [qb t] [] (.mp 0) [.mp (qq t)]:=by
 have hn:=QY hd
 have hml:(t.map Ent.row).length = t.length:=List.length_map ..
 refine qa Tryz.func23 rfl _ Tryz.ntmps23 (Nat.le_of_ble_eq_true rfl) _ Tryz.results23 0 rfl rfl ?_
 repeat' (first|refine qm ?_|(first|(apply xq;apply wu;exact nle rfl))|((first|refine xsC ?_ ?_);all_goals (intro hc;have hp:=hc;try simp at hp;try (exfalso;omega)))|refine qO ?_ ?_)
 all_goals try (exfalso;omega)
 (refine Awp.red (qC (τ:=⟨[(3,.mp 0),(7,qb t),(8,.v (.int .i64 t.length)),(9,.v (.int .i64 ((0:Nat):Int)))],[(0,.mp (qq (t.take 0)))],1⟩) [(0,0)] rfl ?gts2 ?ghs2) ?_;(case gts2=>(repeat (first|exact qg|refine qn ?_|refine ye ?_|refine xr ?_|refine ze ?_|refine xw ?_ ?_|refine qS ?_ ?_));all_goals (first|exact qi _|(rw [List.length_map];done)|rfl|exact nofun));(case ghs2=>(repeat' (first|exact qj|refine jt ?_|refine zz ?_|refine xY ?_ ?_ ?_|refine vh ?_ ?_|refine yH ?_ ?_|refine y9 ?_ ?_ ?_ ?_|refine q9 ?_ ?_|exact ql|apply qh|exact qk rfl|(apply qw;(first|exact qJ rfl|exact .inr (List.mem_cons_self ..)|exact .inr (List.mem_cons_of_mem _ (List.mem_cons_self ..))|exact .inr (List.mem_cons_of_mem _ (List.mem_cons_of_mem _ (List.mem_cons_self ..)))|exact .inr (List.mem_cons_of_mem _ (List.mem_cons_of_mem _ (List.mem_cons_of_mem _ (List.mem_cons_self ..))))))|refine jn ?_|refine yR ?_ rfl|with_reducible exact List.Perm.refl _));all_goals (first|exact qi _|(rw [List.length_map];done)|rfl|exact nofun)))
 refine qP (fun n σ => ∃ i:Nat,i ≤ t.length ∧ n = t.length - i ∧ (True) ∧ σ = ⟨[(3,.mp 0),(7,qb t),(8,.v (.int .i64 t.length)),(9,.v (.int .i64 (i:Int)))],[(0,.mp (qq (t.take i)))],1⟩) t.length ⟨0,Nat.zero_le _,rfl,trivial,rfl⟩ ?_
 rintro n σ ⟨i,hi,rfl, -,rfl⟩
 by_cases hlt:i < t.length
 ·have hr:=js (f:=Ent.row) hlt
  have hs:=qbl hlt hn
  generalize t[i] = e at *
  obtain ⟨p,f,x,v⟩:=e
  cases f with
  | true =>
    repeat' (first|refine qm ?_|(first|(apply yy;apply xj;rfl;rfl;rfl;rfl;rfl;rfl;rfl;rfl))|((first|refine xsC ?_ ?_);all_goals (intro hc;have hp:=hc;try simp at hp;try (exfalso;omega)))|refine qO ?_ ?_)
    all_goals try (exfalso;first|omega|contradiction)
    refine ⟨t.length - (i + 1),_,by omega,qC (τ:=⟨[(3,.mp 0),(7,qb t),(8,.v (.int .i64 t.length)),(9,.v (.int .i64 ((i + 1:Nat):Int)))],[(0,.mp (qq (t.take (i + 1))))],1⟩) [(0,0)] rfl ?gts ?ghs,i + 1,by omega,rfl,trivial,rfl⟩;(case gts=>(repeat (first|exact qg|refine qn ?_|refine ye ?_|refine xr ?_|refine ze ?_|refine xw ?_ ?_|refine qS ?_ ?_));all_goals (first|exact qi _|exact (hs ▸ List.Perm.refl _)));(case ghs=>(repeat' (first|exact qj|refine jt ?_|refine zz ?_|refine xY ?_ ?_ ?_|refine vh ?_ ?_|refine yH ?_ ?_|refine y9 ?_ ?_ ?_ ?_|refine q9 ?_ ?_|exact ql|apply qh|exact qk rfl|(apply qw;(first|exact qJ rfl|exact .inr (List.mem_cons_self ..)|exact .inr (List.mem_cons_of_mem _ (List.mem_cons_self ..))|exact .inr (List.mem_cons_of_mem _ (List.mem_cons_of_mem _ (List.mem_cons_self ..)))|exact .inr (List.mem_cons_of_mem _ (List.mem_cons_of_mem _ (List.mem_cons_of_mem _ (List.mem_cons_self ..))))))|refine jn ?_|refine yR ?_ rfl|with_reducible exact List.Perm.refl _));all_goals (first|exact qi _|exact (hs ▸ List.Perm.refl _)))
  | false =>
    repeat' (first|refine qm ?_|(first|(apply yy;apply xj;rfl;rfl;rfl;rfl;rfl;rfl;rfl;rfl))|((first|refine xsC ?_ ?_);all_goals (intro hc;have hp:=hc;try simp at hp;try (exfalso;omega)))|refine qO ?_ ?_)
    all_goals try (exfalso;first|omega|contradiction)
    refine ⟨t.length - (i + 1),_,by omega,qC (τ:=⟨[(3,.mp 0),(7,qb t),(8,.v (.int .i64 t.length)),(9,.v (.int .i64 ((i + 1:Nat):Int)))],[(0,.mp (qq (t.take (i + 1))))],1⟩) [(0,0)] rfl ?gts ?ghs,i + 1,by omega,rfl,trivial,rfl⟩;(case gts=>(repeat (first|exact qg|refine qn ?_|refine ye ?_|refine xr ?_|refine ze ?_|refine xw ?_ ?_|refine qS ?_ ?_));all_goals (first|exact qi _|exact (hs ▸ List.Perm.refl _)));(case ghs=>(repeat' (first|exact qj|refine jt ?_|refine zz ?_|refine xY ?_ ?_ ?_|refine vh ?_ ?_|refine yH ?_ ?_|refine y9 ?_ ?_ ?_ ?_|refine q9 ?_ ?_|exact ql|apply qh|exact qk rfl|(apply qw;(first|exact qJ rfl|exact .inr (List.mem_cons_self ..)|exact .inr (List.mem_cons_of_mem _ (List.mem_cons_self ..))|exact .inr (List.mem_cons_of_mem _ (List.mem_cons_of_mem _ (List.mem_cons_self ..)))|exact .inr (List.mem_cons_of_mem _ (List.mem_cons_of_mem _ (List.mem_cons_of_mem _ (List.mem_cons_self ..))))))|refine jn ?_|refine yR ?_ rfl|with_reducible exact List.Perm.refl _));all_goals (first|exact qi _|exact (hs ▸ List.Perm.refl _)))
 obtain rfl:i = t.length:=by omega
 repeat' (first|refine qm ?_|(first|(apply yy;apply xj;rfl;rfl;rfl;rfl;rfl;rfl;rfl;rfl))|((first|refine xsC ?_ ?_);all_goals (intro hc;have hp:=hc;try simp at hp;try (exfalso;omega)))|refine qO ?_ ?_)
 all_goals try (exfalso;omega)
 rw [List.take_length]
 (apply jH (rs:=[.tmp 2]) [(0,0)] 1;(case hr=>(repeat (first|exact jp|(apply jq;rfl)|(apply jg;rfl;rfl;rfl;rfl;rfl))));(case hL=>rfl);(case hh=>(repeat' (first|exact qj|refine jt ?_|refine zz ?_|refine xY ?_ ?_ ?_|refine vh ?_ ?_|refine yH ?_ ?_|refine y9 ?_ ?_ ?_ ?_|refine q9 ?_ ?_|exact ql|apply qh|exact qk rfl|(apply qw;(first|exact qJ rfl|exact .inr (List.mem_cons_self ..)|exact .inr (List.mem_cons_of_mem _ (List.mem_cons_self ..))|exact .inr (List.mem_cons_of_mem _ (List.mem_cons_of_mem _ (List.mem_cons_self ..)))|exact .inr (List.mem_cons_of_mem _ (List.mem_cons_of_mem _ (List.mem_cons_of_mem _ (List.mem_cons_self ..))))))|refine jn ?_|refine yR ?_ rfl|with_reducible exact List.Perm.refl _));all_goals (first|exact qi _|trace_state));(case hi=>exact rfl);(case hz=>first|rfl|(simp [j6,AV.ren,AV.ren.renL,jD,qR,jA];done)|(simp [j6,AV.ren,AV.ren.renL,jD,qR,jA, *];done)|trace_state))
noncomputable def C6:Cx := { C with nh:=6 }
theorem qgt (l:List (List UInt8 × AV)) (p:qQ) (x:Thg) (hp : ∀ e,e ∈ l → e.2.pure = true):qW C1.P 58 [.mp 0,.v (str p),xF x] [.mp l] (.tup []) [.mp (if x.kind = 0 then xG l p else yY l p (xF x))]:=by
 have hq : ∀ e,e ∈ xG l p → e.2.pure = true:=fun e he=>hp e (List.mem_filter.1 he).1
 by_cases h0:x.kind = 0
 ·rw [if_pos h0]
  refine qa (C:=C1) Tryz.func58 rfl _ Tryz.ntmps58 (Nat.le_of_ble_eq_true rfl) _ Tryz.results58 1 rfl rfl ?_
  repeat' (first|refine qm ?_|(first|(apply yy;apply xj;rfl;rfl;rfl;rfl;rfl;rfl;rfl;rfl)|(apply yy;apply ZP;(case hm=>rfl);(case hn=>rfl);(case hk=>rfl);(case htys=>rfl);(case hT=>rfl);(case he=>rfl);(case hK=>rfl);(case hks=>rfl)))|((first|refine qd ?_ ?_|refine qc ?_ ?_|refine xsC ?_ ?_);all_goals (intro hc;have hp:=hc;try simp at hp;try (exfalso;omega)))|refine qO ?_ ?_)
  all_goals try (exfalso;first|omega|contradiction)
  (apply jH (rs:=([]:List ResultVar)) [] 1;(case hr=>(repeat (first|exact jp|(apply jq;rfl)|(apply jg;rfl;rfl;rfl;rfl;rfl))));(case hL=>rfl);(case hh=>(repeat' (first|exact qj|refine jt ?_|refine zz ?_|refine xY ?_ ?_ ?_|refine vh ?_ ?_|refine yH ?_ ?_|refine y9 ?_ ?_ ?_ ?_|refine q9 ?_ ?_|exact ql|apply qh|exact qk rfl|(apply qw;(first|exact qJ rfl|exact .inr (List.mem_cons_self ..)|exact .inr (List.mem_cons_of_mem _ (List.mem_cons_self ..))|exact .inr (List.mem_cons_of_mem _ (List.mem_cons_of_mem _ (List.mem_cons_self ..)))|exact .inr (List.mem_cons_of_mem _ (List.mem_cons_of_mem _ (List.mem_cons_of_mem _ (List.mem_cons_self ..))))))|refine jn ?_|refine yR ?_ rfl|with_reducible exact List.Perm.refl _));all_goals (first|assumption|exact List.Perm.refl _|trace_state));(case hi=>exact rfl);(case hz=>first|rfl|(simp [j6,AV.ren,AV.ren.renL,jD,qR,jA];done)|(simp [j6,AV.ren,AV.ren.renL,jD,qR,jA, *];done)|trace_state))
 ·rw [if_neg h0]
  have hr : ∀ e,e ∈ yY l p (xF x) → e.2.pure = true:=fun e he=>by
   unfold yY at he
   split at he
   ·rcases List.mem_or_eq_of_mem_set he with h|rfl
    ·exact hp e h
    ·rfl
   ·rcases List.mem_append.1 he with h|h
    ·exact hp e h
    ·rw [List.mem_singleton.1 h];rfl
  refine qa (C:=C1) Tryz.func58 rfl _ Tryz.ntmps58 (Nat.le_of_ble_eq_true rfl) _ Tryz.results58 1 rfl rfl ?_
  repeat' (first|refine qm ?_|(first|(apply yy;apply xj;rfl;rfl;rfl;rfl;rfl;rfl;rfl;rfl)|(apply yy;apply ZP;(case hm=>rfl);(case hn=>rfl);(case hk=>rfl);(case htys=>rfl);(case hT=>rfl);(case he=>rfl);(case hK=>rfl);(case hks=>rfl)))|((first|refine qd ?_ ?_|refine qc ?_ ?_|refine xsC ?_ ?_);all_goals (intro hc;have hp:=hc;try simp at hp;try (exfalso;omega)))|refine qO ?_ ?_)
  all_goals try (exfalso;first|omega|contradiction)
  (apply jH (rs:=([]:List ResultVar)) [] 1;(case hr=>(repeat (first|exact jp|(apply jq;rfl)|(apply jg;rfl;rfl;rfl;rfl;rfl))));(case hL=>rfl);(case hh=>(repeat' (first|exact qj|refine jt ?_|refine zz ?_|refine xY ?_ ?_ ?_|refine vh ?_ ?_|refine yH ?_ ?_|refine y9 ?_ ?_ ?_ ?_|refine q9 ?_ ?_|exact ql|apply qh|exact qk rfl|(apply qw;(first|exact qJ rfl|exact .inr (List.mem_cons_self ..)|exact .inr (List.mem_cons_of_mem _ (List.mem_cons_self ..))|exact .inr (List.mem_cons_of_mem _ (List.mem_cons_of_mem _ (List.mem_cons_self ..)))|exact .inr (List.mem_cons_of_mem _ (List.mem_cons_of_mem _ (List.mem_cons_of_mem _ (List.mem_cons_self ..))))))|refine jn ?_|refine yR ?_ rfl|with_reducible exact List.Perm.refl _));all_goals (first|assumption|exact List.Perm.refl _|trace_state));(case hi=>exact rfl);(case hz=>first|rfl|(simp [j6,AV.ren,AV.ren.renL,jD,qR,jA];done)|(simp [j6,AV.ren,AV.ren.renL,jD,qR,jA, *];done)|trace_state))
end Go.Proofs.YtnhpclmbhbblbaaGreatDoor
