import Derived.Test.YtnhpclmbhbblbaaGreatDoorMz12
import Derived.Test.YtnhpclmbhbblbaaGreatDoorMz9
import Derived.Test.YtnhpclmbhbblbaaGreatDoorMz14
import Derived.Test.YtnhpclmbhbblbaaGreatDoorMz15
set_option linter.unusedSimpArgs false
set_option linter.unnecessarySimpa false
set_option linter.unusedVariables false
set_option maxHeartbeats 1000000
namespace Go.Proofs.YtnhpclmbhbblbaaGreatDoor
open Go.Ab Go.RowKit
set_option maxRecDepth 10000
attribute [local irreducible] Awp jW jh jn Red qD Go.Ab.Fin qI Rz x4 ji jf ResOk jQ jq yl jg
def j6 (x:Thg):AV := .agg [.v (.int .i64 x.kind),.v (str x.text)]
def qd (t:List Ent):List (List UInt8 × AV):=t.map fun e=>(e.path,j6 (yw e))
theorem qc (t:List Ent) : ∀ e,e ∈ qd t → e.2.pure = true:=fun e he=>by
 obtain ⟨x,_,rfl⟩:=List.mem_map.1 he
 rfl
theorem xK (t:List Ent):(qd t).map (·.1) = t.map Ent.path:=by
 unfold qd
 rw [List.map_map];rfl
theorem Yb {l:List (List UInt8 × AV)} {s:List UInt8} {x:AV}:s ∉ l.map (·.1) → jR l s x = l ++ [(s,x)]:=by
 induction l with
 | nil=>intro _;rfl
 | cons e l ih =>
   intro h
   rw [List.map_cons,List.mem_cons,not_or] at h
   rw [kF,if_neg (fun e'=>h.1 e'.symm),ih h.2];rfl
theorem ZF {t:List Ent} {i:Nat} (h:i < t.length) (hd:(t.map Ent.path).Nodup):jR (qd (t.take i)) t[i].path (j6 (yw t[i])) = qd (t.take (i + 1)):=by
 have hn:t[i].path ∉ (qd (t.take i)).map (·.1):=by
  rw [xK]
  intro hm
  obtain ⟨x,hx,he⟩:=List.mem_map.1 hm
  obtain ⟨j,hj,rfl⟩:=List.getElem_of_mem hx
  rw [List.getElem_take] at he
  have hj' : j < i:=by simp at hj;omega
  have:=(List.getElem_inj (h₀:=by simp;omega) (h₁:=by simp;omega) hd (i:=j) (j:=i)).1 (by simpa using he)
  omega
 rw [Yb hn,List.take_succ_eq_append_getElem h]
 unfold qd
 rw [List.map_append];rfl
theorem Y9 (t:List Ent) (p:qx):yX (qd t) p = (qG t p).map fun e=>j6 (yw e):=by
 unfold yX qd qG
 rw [List.find?_map,Option.map_map]
 have:((fun e:List UInt8 × AV=>e.1 == p) ∘ fun e:Ent=>(e.path,j6 (yw e))) = atP p:=by
  funext e
  show (e.path == p) = decide (e.path = p)
  by_cases h:e.path = p<;>simp [h]
 rw [this]
 rfl
theorem y3 (t:List Ent) (p:qx):(yX (qd t) p).getD (j6 noT) = j6 (stT t p):=by
 rw [Y9]
 unfold stT
 cases qG t p<;>rfl
theorem kq {t:List Ent} (h:qS jj t = true):(t.map Ent.path).Nodup:=by
 rw [List.Nodup,List.pairwise_map]
 exact (yB.1 h).imp fun {a b} hab e=>by rw [e,vV] at hab;cases hab
theorem Yo {t:List Ent} {e:Ent} (h:qS jj t = true):(jR (qd t) e.path (j6 (yw e))).Perm (qd (js t e)):=by
 have hn:((qd t).map (·.1)).Nodup:=by rw [xK];exact kq h
 refine (zn hn).trans ?_
 obtain ⟨A,M,Z,h1,hp,hA,hZ,hM⟩:=XR e.path (yB.1 h)
 rw [wM h1 hp hM]
 have hA' : ∀ a,a ∈ A → ¬ a.path = e.path:=fun a ha=>YM (hA a ha)
 have hZ' : ∀ a,a ∈ Z → ¬ a.path = e.path:=fun a ha h2=>YM (hZ a ha) h2.symm
 have keep : ∀ l:List Ent,(∀ a,a ∈ l → ¬ a.path = e.path) → j7 (qd l) e.path = qd l:=fun l hl=>vz (by
  rw [xK]
  intro hm
  obtain ⟨x,hx,he⟩:=List.mem_map.1 hm
  exact hl x hx he)
 have app : ∀ a b:List Ent,qd (a ++ b) = qd a ++ qd b:=fun a b=>List.map_append ..
 have dapp : ∀ a b:List (List UInt8 × AV),j7 (a ++ b) e.path = j7 a e.path ++ j7 b e.path:=fun a b=>List.filter_append ..
 have hMd:j7 (qd M) e.path = []:=by
  rcases hM with ⟨_,y,rfl,hy⟩|⟨_,rfl⟩
  ·simp [qd,j7,hy]
  ·rfl
 rw [h1,app,app,dapp,dapp,keep A hA',keep Z hZ',hMd,List.nil_append,app,app]
 exact List.perm_middle.symm
theorem KT {t:List Ent} {p:qx} {x:Thg} (h:qS jj t = true) (hg:zh x) (h0:¬ x.kind = 0):(jR (qd t) p (j6 x)).Perm (qd (js t (zX p x))):=by
 have:=Yo (e:=zX p x) h
 rwa [XZ hg h0] at this
theorem qz : ∀ w,(zeroValue 99).run C.P w = .ok (.agg #[.int .i64 0,.string ⟨#[]⟩]) w:=Tryz.zeroValue99
theorem q6 (F:Still) (ρ:Places):M F ρ (.agg #[.int .i64 0,.string ⟨#[]⟩]) (j6 noT):=by
 refine .agg _ [.int .i64 0,.string ⟨#[]⟩] _ rfl fun i v x hv hx=>?_
 match i with
 | 0=>simp at hv hx;subst hv;subst hx;exact .v _ _ rfl
 | 1=>simp at hv hx;subst hv;subst hx;exact .v _ _ rfl
 | i + 2=>simp at hv
theorem y9:qbo C.P 99 = some [0,1]:=by kernel_rfl
theorem yg (a b:Thg):Yl [0,1] [.v (.int .i64 a.kind),.v (str a.text)] [.v (.int .i64 b.kind),.v (str b.text)] = some (decide (a = b)):=by
 obtain ⟨a1,a2⟩:=a
 obtain ⟨b1,b2⟩:=b
 simp only [Yl,QA,str,Thg.mk.injEq,if_true,Option.some.injEq]
 by_cases h1:a1 = b1<;>by_cases h2:a2 = b2<;>simp [h1,h2]
theorem JF (t:List Ent) (hd:qS jj t = true) (hl:t.length ≤ 1000000):qI C.P 23 [qo t] [] (.mp 0) [.mp (qd t)]:=by
 have hn:=kq hd
 have hml:(t.map Ent.row).length = t.length:=List.length_map ..
 refine qa Tryz.func23 rfl _ Tryz.ntmps23 (Nat.le_of_ble_eq_true rfl) _ Tryz.results23 0 rfl rfl ?_
 repeat' (first|refine qu ?_|(first|(apply yJ;apply vY;exact nle rfl))|((first|refine xsC ?_ ?_);all_goals (intro hc;have hp:=hc;try simp at hp;try (exfalso;omega)))|refine jc ?_ ?_)
 all_goals try (exfalso;omega)
 (refine Awp.red (qN (τ:=⟨[(3,.mp 0),(7,qo t),(8,.v (.int .i64 t.length)),(9,.v (.int .i64 ((0:Nat):Int)))],[(0,.mp (qd (t.take 0)))],1⟩) [(0,0)] rfl ?gts2 ?ghs2) ?_;(case gts2=>(repeat (first|exact qp|refine qE ?_|refine yq ?_|refine j1 ?_|refine xg ?_|refine j3 ?_ ?_|refine ju ?_ ?_));all_goals (first|exact qc _|(rw [List.length_map];done)|rfl|exact nofun));(case ghs2=>(repeat' (first|exact qh|refine jv ?_|refine x5 ?_|refine yo ?_ ?_ ?_|refine yE ?_ ?_|refine jZ ?_ ?_|refine jS ?_ ?_ ?_ ?_|refine q7 ?_ ?_|exact qm|apply qf|exact ql rfl|(apply qt;(first|exact qq rfl|exact .inr (List.mem_cons_self ..)|exact .inr (List.mem_cons_of_mem _ (List.mem_cons_self ..))|exact .inr (List.mem_cons_of_mem _ (List.mem_cons_of_mem _ (List.mem_cons_self ..)))|exact .inr (List.mem_cons_of_mem _ (List.mem_cons_of_mem _ (List.mem_cons_of_mem _ (List.mem_cons_self ..))))))|refine qX ?_|refine jT ?_ rfl|with_reducible exact List.Perm.refl _));all_goals (first|exact qc _|(rw [List.length_map];done)|rfl|exact nofun)))
 refine jr (fun n σ => ∃ i:Nat,i ≤ t.length ∧ n = t.length - i ∧ (True) ∧ σ = ⟨[(3,.mp 0),(7,qo t),(8,.v (.int .i64 t.length)),(9,.v (.int .i64 (i:Int)))],[(0,.mp (qd (t.take i)))],1⟩) t.length ⟨0,Nat.zero_le _,rfl,trivial,rfl⟩ ?_
 rintro n σ ⟨i,hi,rfl, -,rfl⟩
 by_cases hlt:i < t.length
 ·have hr:=yA (f:=Ent.row) hlt
  have hs:=ZF hlt hn
  generalize t[i] = e at *
  obtain ⟨p,f,x,v⟩:=e
  cases f with
  | true =>
    repeat' (first|refine qu ?_|(first|(apply jD;apply j0;rfl;rfl;rfl;rfl;rfl;rfl;rfl;rfl))|((first|refine xsC ?_ ?_);all_goals (intro hc;have hp:=hc;try simp at hp;try (exfalso;omega)))|refine jc ?_ ?_)
    all_goals try (exfalso;first|omega|contradiction)
    refine ⟨t.length - (i + 1),_,by omega,qN (τ:=⟨[(3,.mp 0),(7,qo t),(8,.v (.int .i64 t.length)),(9,.v (.int .i64 ((i + 1:Nat):Int)))],[(0,.mp (qd (t.take (i + 1))))],1⟩) [(0,0)] rfl ?gts ?ghs,i + 1,by omega,rfl,trivial,rfl⟩;(case gts=>(repeat (first|exact qp|refine qE ?_|refine yq ?_|refine j1 ?_|refine xg ?_|refine j3 ?_ ?_|refine ju ?_ ?_));all_goals (first|exact qc _|exact (hs ▸ List.Perm.refl _)));(case ghs=>(repeat' (first|exact qh|refine jv ?_|refine x5 ?_|refine yo ?_ ?_ ?_|refine yE ?_ ?_|refine jZ ?_ ?_|refine jS ?_ ?_ ?_ ?_|refine q7 ?_ ?_|exact qm|apply qf|exact ql rfl|(apply qt;(first|exact qq rfl|exact .inr (List.mem_cons_self ..)|exact .inr (List.mem_cons_of_mem _ (List.mem_cons_self ..))|exact .inr (List.mem_cons_of_mem _ (List.mem_cons_of_mem _ (List.mem_cons_self ..)))|exact .inr (List.mem_cons_of_mem _ (List.mem_cons_of_mem _ (List.mem_cons_of_mem _ (List.mem_cons_self ..))))))|refine qX ?_|refine jT ?_ rfl|with_reducible exact List.Perm.refl _));all_goals (first|exact qc _|exact (hs ▸ List.Perm.refl _)))
  | false =>
    repeat' (first|refine qu ?_|(first|(apply jD;apply j0;rfl;rfl;rfl;rfl;rfl;rfl;rfl;rfl))|((first|refine xsC ?_ ?_);all_goals (intro hc;have hp:=hc;try simp at hp;try (exfalso;omega)))|refine jc ?_ ?_)
    all_goals try (exfalso;first|omega|contradiction)
    refine ⟨t.length - (i + 1),_,by omega,qN (τ:=⟨[(3,.mp 0),(7,qo t),(8,.v (.int .i64 t.length)),(9,.v (.int .i64 ((i + 1:Nat):Int)))],[(0,.mp (qd (t.take (i + 1))))],1⟩) [(0,0)] rfl ?gts ?ghs,i + 1,by omega,rfl,trivial,rfl⟩;(case gts=>(repeat (first|exact qp|refine qE ?_|refine yq ?_|refine j1 ?_|refine xg ?_|refine j3 ?_ ?_|refine ju ?_ ?_));all_goals (first|exact qc _|exact (hs ▸ List.Perm.refl _)));(case ghs=>(repeat' (first|exact qh|refine jv ?_|refine x5 ?_|refine yo ?_ ?_ ?_|refine yE ?_ ?_|refine jZ ?_ ?_|refine jS ?_ ?_ ?_ ?_|refine q7 ?_ ?_|exact qm|apply qf|exact ql rfl|(apply qt;(first|exact qq rfl|exact .inr (List.mem_cons_self ..)|exact .inr (List.mem_cons_of_mem _ (List.mem_cons_self ..))|exact .inr (List.mem_cons_of_mem _ (List.mem_cons_of_mem _ (List.mem_cons_self ..)))|exact .inr (List.mem_cons_of_mem _ (List.mem_cons_of_mem _ (List.mem_cons_of_mem _ (List.mem_cons_self ..))))))|refine qX ?_|refine jT ?_ rfl|with_reducible exact List.Perm.refl _));all_goals (first|exact qc _|exact (hs ▸ List.Perm.refl _)))
 obtain rfl:i = t.length:=by omega
 repeat' (first|refine qu ?_|(first|(apply jD;apply j0;rfl;rfl;rfl;rfl;rfl;rfl;rfl;rfl))|((first|refine xsC ?_ ?_);all_goals (intro hc;have hp:=hc;try simp at hp;try (exfalso;omega)))|refine jc ?_ ?_)
 all_goals try (exfalso;omega)
 rw [List.take_length]
 (apply jb (rs:=[.tmp 2]) [(0,0)] 1;(case hr=>(repeat (first|exact qP|(apply qQ;rfl)|(apply qJ;rfl;rfl;rfl;rfl;rfl))));(case hL=>rfl);(case hh=>(repeat' (first|exact qh|refine jv ?_|refine x5 ?_|refine yo ?_ ?_ ?_|refine yE ?_ ?_|refine jZ ?_ ?_|refine jS ?_ ?_ ?_ ?_|refine q7 ?_ ?_|exact qm|apply qf|exact ql rfl|(apply qt;(first|exact qq rfl|exact .inr (List.mem_cons_self ..)|exact .inr (List.mem_cons_of_mem _ (List.mem_cons_self ..))|exact .inr (List.mem_cons_of_mem _ (List.mem_cons_of_mem _ (List.mem_cons_self ..)))|exact .inr (List.mem_cons_of_mem _ (List.mem_cons_of_mem _ (List.mem_cons_of_mem _ (List.mem_cons_self ..))))))|refine qX ?_|refine jT ?_ rfl|with_reducible exact List.Perm.refl _));all_goals (first|exact qc _|trace_state));(case hi=>exact rfl);(case hz=>first|rfl|(simp [jx,AV.ren,AV.ren.renL,q4,qr,qZ];done)|(simp [jx,AV.ren,AV.ren.renL,q4,qr,qZ, *];done)|trace_state))
noncomputable def C6:Cx := { C with nh:=6 }
theorem qbk (l:List (List UInt8 × AV)) (p:qx) (x:Thg) (hp : ∀ e,e ∈ l → e.2.pure = true):qI C1.P 58 [.mp 0,.v (str p),j6 x] [.mp l] (.tup []) [.mp (if x.kind = 0 then j7 l p else jR l p (j6 x))]:=by
 have hq : ∀ e,e ∈ j7 l p → e.2.pure = true:=fun e he=>hp e (List.mem_filter.1 he).1
 by_cases h0:x.kind = 0
 ·rw [if_pos h0]
  refine qa (C:=C1) Tryz.func58 rfl _ Tryz.ntmps58 (Nat.le_of_ble_eq_true rfl) _ Tryz.results58 1 rfl rfl ?_
  repeat' (first|refine qu ?_|(first|(apply jD;apply j0;rfl;rfl;rfl;rfl;rfl;rfl;rfl;rfl)|(apply jD;apply YO;(case hm=>rfl);(case hn=>rfl);(case hk=>rfl);(case htys=>rfl);(case hT=>rfl);(case he=>rfl);(case hK=>rfl);(case hks=>rfl)))|((first|refine qk ?_ ?_|refine qj ?_ ?_|refine xsC ?_ ?_);all_goals (intro hc;have hp:=hc;try simp at hp;try (exfalso;omega)))|refine jc ?_ ?_)
  all_goals try (exfalso;first|omega|contradiction)
  (apply jb (rs:=([]:List ResultVar)) [] 1;(case hr=>(repeat (first|exact qP|(apply qQ;rfl)|(apply qJ;rfl;rfl;rfl;rfl;rfl))));(case hL=>rfl);(case hh=>(repeat' (first|exact qh|refine jv ?_|refine x5 ?_|refine yo ?_ ?_ ?_|refine yE ?_ ?_|refine jZ ?_ ?_|refine jS ?_ ?_ ?_ ?_|refine q7 ?_ ?_|exact qm|apply qf|exact ql rfl|(apply qt;(first|exact qq rfl|exact .inr (List.mem_cons_self ..)|exact .inr (List.mem_cons_of_mem _ (List.mem_cons_self ..))|exact .inr (List.mem_cons_of_mem _ (List.mem_cons_of_mem _ (List.mem_cons_self ..)))|exact .inr (List.mem_cons_of_mem _ (List.mem_cons_of_mem _ (List.mem_cons_of_mem _ (List.mem_cons_self ..))))))|refine qX ?_|refine jT ?_ rfl|with_reducible exact List.Perm.refl _));all_goals (first|assumption|exact List.Perm.refl _|trace_state));(case hi=>exact rfl);(case hz=>first|rfl|(simp [jx,AV.ren,AV.ren.renL,q4,qr,qZ];done)|(simp [jx,AV.ren,AV.ren.renL,q4,qr,qZ, *];done)|trace_state))
 ·rw [if_neg h0]
  have hr : ∀ e,e ∈ jR l p (j6 x) → e.2.pure = true:=fun e he=>by
   unfold jR at he
   split at he
   ·rcases List.mem_or_eq_of_mem_set he with h|rfl
    ·exact hp e h
    ·rfl
   ·rcases List.mem_append.1 he with h|h
    ·exact hp e h
    ·rw [List.mem_singleton.1 h];rfl
  refine qa (C:=C1) Tryz.func58 rfl _ Tryz.ntmps58 (Nat.le_of_ble_eq_true rfl) _ Tryz.results58 1 rfl rfl ?_
  repeat' (first|refine qu ?_|(first|(apply jD;apply j0;rfl;rfl;rfl;rfl;rfl;rfl;rfl;rfl)|(apply jD;apply YO;(case hm=>rfl);(case hn=>rfl);(case hk=>rfl);(case htys=>rfl);(case hT=>rfl);(case he=>rfl);(case hK=>rfl);(case hks=>rfl)))|((first|refine qk ?_ ?_|refine qj ?_ ?_|refine xsC ?_ ?_);all_goals (intro hc;have hp:=hc;try simp at hp;try (exfalso;omega)))|refine jc ?_ ?_)
  all_goals try (exfalso;first|omega|contradiction)
  (apply jb (rs:=([]:List ResultVar)) [] 1;(case hr=>(repeat (first|exact qP|(apply qQ;rfl)|(apply qJ;rfl;rfl;rfl;rfl;rfl))));(case hL=>rfl);(case hh=>(repeat' (first|exact qh|refine jv ?_|refine x5 ?_|refine yo ?_ ?_ ?_|refine yE ?_ ?_|refine jZ ?_ ?_|refine jS ?_ ?_ ?_ ?_|refine q7 ?_ ?_|exact qm|apply qf|exact ql rfl|(apply qt;(first|exact qq rfl|exact .inr (List.mem_cons_self ..)|exact .inr (List.mem_cons_of_mem _ (List.mem_cons_self ..))|exact .inr (List.mem_cons_of_mem _ (List.mem_cons_of_mem _ (List.mem_cons_self ..)))|exact .inr (List.mem_cons_of_mem _ (List.mem_cons_of_mem _ (List.mem_cons_of_mem _ (List.mem_cons_self ..))))))|refine qX ?_|refine jT ?_ rfl|with_reducible exact List.Perm.refl _));all_goals (first|assumption|exact List.Perm.refl _|trace_state));(case hi=>exact rfl);(case hz=>first|rfl|(simp [jx,AV.ren,AV.ren.renL,q4,qr,qZ];done)|(simp [jx,AV.ren,AV.ren.renL,q4,qr,qZ, *];done)|trace_state))
end Go.Proofs.YtnhpclmbhbblbaaGreatDoor
