import Derived.Test.YtnhpclmbhbblbaaGreatDoorMz31
set_option linter.unusedSimpArgs false
set_option linter.unnecessarySimpa false
set_option linter.unusedVariables false
namespace Go.Ab
theorem Zr {G G' : Prop} (k:G') (h:Hold G' → G:=by intro key;(first|(apply qf;first|(apply Vb;(conv=>lhs;whnf);exact nle rfl)|(apply Jw;(conv=>lhs;whnf);exact nle rfl)|(apply z8;rfl;(conv=>lhs;whnf);exact nle rfl)|(apply zC;rfl;(conv=>lhs;whnf);exact nle rfl)|(apply Va;rfl;rfl;rfl;exact nle rfl)|(apply zr;rfl;rfl;rfl;rfl;exact nofun;exact nle rfl)|(apply zJ;rfl;rfl;rfl;rfl;exact nofun;exact nle rfl)|(apply zK;rfl;rfl;rfl;(first|rfl|assumption|(apply jd;assumption)|(apply jd;apply jd;assumption));rfl;rfl;exact nle rfl)|(apply zZ;rfl;rfl;(first|rfl|assumption|(apply jd;assumption)|(apply jd;apply jd;assumption));rfl;rfl;exact nle rfl)|(apply z1;rfl;rfl;rfl;rfl;rfl;rfl;exact nle rfl)|(apply kC;rfl;rfl;rfl;(first|rfl|assumption|(apply jd;assumption)|(apply jd;apply jd;assumption));(conv=>lhs;whnf);exact nle rfl)|(apply wq;rfl;rfl;(first|rfl|assumption|(apply jd;assumption)|(apply jd;apply jd;assumption));(conv=>lhs;whnf);exact nle rfl)|(apply Vd;rfl;rfl;rfl;exact nle rfl)|(apply Jy;rfl;rfl;rfl;exact nle rfl)|(apply QC;rfl;rfl;rfl;exact nle rfl)|(apply QB;rfl;rfl;rfl;exact nle rfl)|(apply vZ;rfl;rfl;rfl;rfl;rfl;(first|rfl|assumption|(apply jd;assumption)|(apply jd;apply jd;assumption));rfl;exact nle rfl)|(apply vc;rfl;rfl;rfl;rfl;(first|rfl|assumption|(apply jd;assumption)|(apply jd;apply jd;assumption));exact nle rfl)|(apply Ve;rfl;rfl;omega;exact nle rfl)|(apply Vc;rfl;rfl;omega;exact nle rfl)|(apply VI;rfl;rfl;omega;omega;exact nle rfl)|(apply VM;rfl;rfl;omega;omega;exact nle rfl)|(apply Kz;rfl;exact nle rfl)|(apply QA;rfl;(conv=>lhs;whnf);exact nle rfl)|(apply Yy;rfl;rfl;rfl;rfl;(conv=>lhs;whnf);exact nle rfl)|(apply wR (b':=true);rfl;assumption;(conv=>lhs;whnf);exact nle rfl)|(apply wR (b':=false);rfl;assumption;(conv=>lhs;whnf);exact nle rfl)|(apply X9;exact nle rfl)|(apply z7;rfl;exact nle rfl)|(apply z6;rfl;exact nle rfl)|(apply Yv;rfl;rfl;rfl;(conv=>lhs;whnf);exact nle rfl)|(apply ws;rfl;rfl;rfl;rfl;(conv=>lhs;whnf);exact nle rfl)|(apply vU;rfl;rfl;(first|omega|(simp<;>fail)|(simp only [List.length_cons,List.length_nil,List.length_map];omega)|(simp;omega));exact nle rfl))|(apply xq;first|(apply Yu;rfl;exact nle rfl)|(apply Ky;rfl;exact nle rfl))|(apply yy;apply YB;rfl;rfl;rfl;(first|rfl|assumption|(apply jd;assumption)|(apply jd;apply jd;assumption));rfl;rfl;exact nle rfl)|apply kh|(apply Vm;exact nle rfl;refine ⟨?_,?_⟩;first|exact fun h=>absurd h Bool.false_ne_true|(intro _;kernel_rfl))|(apply YV;rfl;rfl;exact nle rfl)|(apply YU;rfl;rfl;exact nle rfl)|(apply JI;rfl;rfl;exact nle rfl)|(apply JH;rfl;rfl;exact nle rfl)|(apply wa;rfl;rfl;exact nle rfl)|(apply Vn;rfl;rfl;assumption;exact nle rfl)|(apply YT;rfl;rfl;assumption;exact nle rfl)|(apply YS;rfl;rfl;assumption;exact nle rfl)|apply kW|apply vS|(apply Qv;rfl)|(apply Qu;rfl)|(apply J6;rfl;assumption)|(apply J5;rfl;assumption)|apply Xe|apply VF|apply VE|apply Kt);exact key.out):G:=h ⟨k⟩
end Go.Ab
namespace Go.Proofs.YtnhpclmbhbblbaaGreatDoor
open Go.Ab Go.RowKit
set_option maxRecDepth 10000
theorem qcu {l:List (qQ × qQ)} {p x:qQ} (h:p ∉ l.map (·.1)):yY (vG l) p (xF ⟨2,x⟩) = vG (l ++ [(p,x)]):=by
 rw [V3 (by rw [Ya];exact h)]
 unfold vG
 rw [List.map_append]
 rfl
theorem qct {l:List (qQ × qQ)} (h:(l.map (·.1)).Nodup) {g:qQ × qQ} (hg:g ∈ l):(vC (vG l) g.1).getD (xF noT) = xF ⟨2,g.2⟩:=by
 have:vC (vG l) g.1 = some (xF ⟨2,g.2⟩):=(QK (by rw [Ya];exact h)).2 (List.mem_map.2 ⟨g,hg,rfl⟩)
 rw [this]
 rfl
theorem YH (b m t:List Ent) : ∀ P:List qQ,((yx b m t P).map (·.1)).Sublist P
 | [] => .slnil
 | p :: P=>by
   unfold yx
   rw [List.filterMap_cons]
   split
   ·exact (YH b m t P).cons p
   ·rename_i y hy
    split at hy
    ·injection hy with hy;subst hy
     exact (YH b m t P).cons_cons p
    ·cases hy
theorem qd5 {b m t:List Ent} {P:List qQ} (h:Ql P):Ql ((yx b m t P).map (·.1)):=List.Pairwise.sublist (YH b m t P) h
theorem YG (b m t:List Ent) (P:List qQ):(yx b m t P).length ≤ P.length:=by
 have:=(YH b m t P).length_le
 rwa [List.length_map] at this
theorem WL {m t:List Ent} {G:List (qQ × qQ)} {i:Nat} (h:i < G.length) (s:MS):Vg m t (G.drop i) s = match zc m t s G[i].1 G[i].2 with|none=>none|some s'=>Vg m t (G.drop (i + 1)) s':=by
 rw [List.drop_eq_getElem_cons h];rfl
theorem wN {m t:List Ent} {s:MS} {p x:qQ} (h:xS m t s.out p 99 1 = none):zc m t s p x = none:=by
 unfold zc;rw [h]
theorem wO {m t:List Ent} {s:MS} {p x q:qQ} (h:xS m t s.out p 99 1 = some q):zc m t s p x = some ⟨jN s.out ⟨q,false,x,1⟩,s.cps ++ [⟨p,q⟩]⟩:=by
 unfold zc;rw [h]
theorem W8 {b m t:List Ent} (hb:Right b) (hm:Right m) (ht:Right t) (P:List qQ):q4 jr (xH b m t P) = true:=(JJ b m t (P:=P) (o:=[]) rfl).1
theorem qd6 (b m t:List Ent) (p:qQ):kP (xZ b m t p).1 ∧ kP (xZ b m t p).2:=W5 (kv m p) (kv t p)
theorem XT {s:List UInt8} {x:AV} : ∀ {l:List (List UInt8 × AV)},vC l s = some x → yY l s x = l
 | [],h=>by simp [vC] at h
 | e :: l,h=>by
   rw [Je]
   by_cases he:e.1 = s
   ·rw [if_pos he]
    unfold vC at h
    rw [List.find?_cons,show (e.1 == s) = true from by simpa using he] at h
    simp at h
    subst he
    rw [← h]
   ·rw [if_neg he,XT]
    unfold vC at h ⊢
    rw [List.find?_cons,show (e.1 == s) = false from by simpa using he] at h
    exact h
theorem qc1 {o:List Ent} {q:qQ} (h:(stT o q).kind = 1):yY (qq o) q (xF ⟨1,[]⟩) = qq o:=by
 apply XT
 rw [Kk]
 obtain ⟨x,hx,hf⟩:=qeA.1 h
 rw [hx]
 show some (xF (xO x)) = _
 unfold xO
 rw [if_pos hf]
theorem W9 {m t:List Ent} {s:MS} {q:qQ} (h:(stT s.out q).kind = 1):YY m t s q = some s:=by unfold YY;rw [if_pos h]
theorem Z9 {m t:List Ent} {s:MS} {q:qQ} (h1:¬ (stT s.out q).kind = 1) (h2:¬ (stT s.out q).kind = 2):YY m t s q = some ⟨jN s.out ⟨q,true,[],1⟩,s.cps⟩:=by unfold YY;rw [if_neg h1,if_neg h2]
theorem qaa {m t:List Ent} {s:MS} {q:qQ} (h:(stT s.out q).kind = 2):YY m t s q = zc m t ⟨jN s.out ⟨q,true,[],1⟩,s.cps⟩ q (stT s.out q).text:=by unfold YY;rw [if_neg (by rw [h];decide),if_pos h]
theorem Zb {m t:List Ent} {q:qQ} {l:List qQ} {s:MS}:kn m t (q :: l) s = match YY m t s q with|none=>none|some s'=>kn m t l s':=rfl
theorem YX (b m t:List Ent) : ∀ (P:List qQ) (o:List Ent),(P.foldl (fun o p=>wJ o p (xZ b m t p).1) o).length ≤ o.length + P.length
 | [],o=>Nat.le_refl _
 | p :: P,o=>by
   have h1:=YX b m t P (wJ o p (xZ b m t p).1)
   have h2:(wJ o p (xZ b m t p).1).length ≤ o.length + 1:=by
    unfold wJ
    split
    ·omega
    ·exact wE _ _
   simp only [List.foldl_cons,List.length_cons]
   omega
theorem KC {m t:List Ent} : ∀ {l:List (qQ × qQ)} {s s' : MS},Vg m t l s = some s' → s'.out.length ≤ s.out.length + l.length
 | [],s,s',h=>by injection h with h;subst h;exact Nat.le_refl _
 | g :: l,s,s',h=>by
   unfold Vg at h
   split at h
   ·cases h
   ·rename_i s1 h1
    have h2:=KC h
    unfold zc at h1
    split at h1
    ·cases h1
    ·rename_i q _
     injection h1 with h1;subst h1
     have h3:=wE s.out ⟨q,false,g.2,1⟩
     simp only [List.length_cons] at h2 ⊢
     omega
theorem Zc {p:qQ} (hp:qy p = 0):(jC p).length ≤ 80:=by
 rw [yz]
 have:=xP p
 have:=qV hp
 omega
noncomputable def tl:Nat → Code → Code
 | 0,c=>c
 | n + 1,.seq _ b=>tl n b
 | _,c=>c
noncomputable def Xx:Code:=match Tryz.f24.body with|some c=>c|none => .skip
def H8 (B M T:List Ent) (s:MS):List HB:=[.own false 5 [vm 5 s.cps.length],.mp (qq B),.mp (qq M),.mp (qq T),.mp (qq s.out),.own false 2 (s.cps.map Cpy.row)]
def H8o (B M T:List Ent):Option MS → List HB
 | none => [.dead,.dead,.dead,.dead,.dead]
 | some s=>H8 B M T s
theorem Zh {L:List (Nat × Nat)} {nh:Nat} {l l' : List (List UInt8 × AV)} (hp:l.Perm l') (h : ∀ e,e ∈ l' → e.2.pure = true):vF L nh (.mp (.map l)) (.mp (.map l')):=by
 obtain ⟨m,h1,h2,h3⟩:=qe (L:=L) (nh:=nh) h
 exact ⟨m,by first|exact hp.trans h1|exact h1.trans hp|exact h1.trans hp.symm|exact hp.symm.trans h1,h2,h3⟩
theorem ki {L:List (Nat × Nat)} {σ:St} {n n' c c' k:Nat} {ex ex' : Bool} {l:List (Nat × HB)} (hl:vp L 5 σ l) (hm:Maps L 5 n n':=by (first|exact qJ rfl|exact .inr (List.mem_cons_self ..)|exact .inr (List.mem_cons_of_mem _ (List.mem_cons_self ..))|exact .inr (List.mem_cons_of_mem _ (List.mem_cons_of_mem _ (List.mem_cons_self ..)))|exact .inr (List.mem_cons_of_mem _ (List.mem_cons_of_mem _ (List.mem_cons_of_mem _ (List.mem_cons_self ..)))))) (hc:Maps L 5 c c':=by (first|exact qJ rfl|exact .inr (List.mem_cons_self ..)|exact .inr (List.mem_cons_of_mem _ (List.mem_cons_self ..))|exact .inr (List.mem_cons_of_mem _ (List.mem_cons_of_mem _ (List.mem_cons_self ..)))|exact .inr (List.mem_cons_of_mem _ (List.mem_cons_of_mem _ (List.mem_cons_of_mem _ (List.mem_cons_self ..)))))) (hx:ja σ.hs n = .own ex 5 [vm c k]:=by rfl) (he:ex' = true → ex = true:=by first|exact id|exact nofun):vp L 5 σ ((n',.own ex' 5 [vm c' k]) :: l) :=
 Qf hm hx he (vv (qh (qw (qJ rfl)) (qh (qw (qJ rfl)) (qh (qw (qJ rfl)) (qh (qw (qJ rfl)) (qh (qF hc) ql))))) zT) hl
end Go.Proofs.YtnhpclmbhbblbaaGreatDoor
set_option linter.unusedSimpArgs false
set_option linter.unnecessarySimpa false
set_option linter.unusedVariables false
set_option maxHeartbeats 1000000
namespace Go.Proofs.YtnhpclmbhbblbaaGreatDoor
open Go.Ab Go.RowKit
set_option maxRecDepth 10000
attribute [local irreducible] Awp yl jE jl Red qX Go.Ab.Fin qW Rz vl jj ji ResOk jV jz yb jv
set_option maxHeartbeats 16000000 in
theorem qcC (B M T:List Ent) (s:MS) (iS:MInv s.out) (lS:s.out.length ≤ 360) (hcl0:s.cps.length ≤ 180) (R:Option MS) (hms2:kn M T ((s.out.map Ent.path).flatMap jC) s = R) :
  Awp C5 125 (tl 6 Xx) (WI C5 #[ResultVar.tmp 2] 5 (.v (.bool R.isSome)) (H8o B M T R)) ⟨[(0,.op 0 0 0)],[(0,.own false 5 [vm 5 s.cps.length]),(1,.mp (qq B)),(2,.mp (qq M)),(3,.mp (qq T)),(4,.mp (qq s.out)),(5,.own false 2 (s.cps.map Cpy.row))],6⟩:=by
 conv=>arg 3;whnf
 have pS : ∀ x,x ∈ s.out.map Ent.path → qy x = 0:=fun x hx=>by
  obtain ⟨e,he,rfl⟩:=List.mem_map.1 hx
  exact (j5 (iS.ent e he)).1
 have ap3:=X6 (qq s.out) (s.out.map Ent.path) (Kf iS.rise) (by rw [zq]) (by rw [List.length_map];omega) (fun x hx=>Nat.le_trans (qV (pS x hx)) (by decide))
 have lS2:(s.out.map Ent.path).length ≤ 360:=by rw [List.length_map];exact lS
 generalize s.out.map Ent.path = K3 at *
 repeat' (first|refine qm ?_|(first|fail)|((first|refine qd ?_ ?_|refine qc ?_ ?_|refine xsC ?_ ?_);all_goals (intro hc;have hp:=hc;try simp at hp;try (exfalso;omega)))|refine qO ?_ ?_)
 all_goals try (exfalso;omega)
 apply jT Tryz.func25 rfl rfl
 intro hIsFn
 refine xQ [4] [6] [(4,.mp (qq s.out)),(6,.own false 1 (K3.map jo))] 7 (.os 6 0 K3.length) hIsFn (ap3) (by ((repeat' (first|exact jf|apply q6|exact je rfl|exact jG|(apply qp;apply qI;exact .inr (of_decide_eq_true rfl))|(apply qp;apply qw;exact .inr (of_decide_eq_true rfl))|(apply qp;apply qF;exact .inr (of_decide_eq_true rfl))|apply jw|apply jx)))<;>fail) (by ((repeat' (first|exact qL|exact qK|refine qA _ ?_ ?_|refine qz ?_ ?_|exact qt|exact qe (qi _)|exact qe (qU _)|exact qe (qr _)|exact qx (fun _=>rfl)|refine qB ?_|exact ql|apply qh|exact qk rfl|(apply qw;exact .inr (of_decide_eq_true rfl))|(apply qF;exact .inr (of_decide_eq_true rfl))|(apply qI;exact .inr (of_decide_eq_true rfl))|fail)))<;>fail) (by ((repeat' (first|exact qL|exact qK|refine qA _ ?_ ?_|refine qz ?_ ?_|exact qt|exact qe (qi _)|exact qe (qU _)|exact qe (qr _)|exact qx (fun _=>rfl)|refine qB ?_|exact ql|apply qh|exact qk rfl|(apply qw;exact .inr (of_decide_eq_true rfl))|(apply qF;exact .inr (of_decide_eq_true rfl))|(apply qI;exact .inr (of_decide_eq_true rfl))|fail)))<;>fail) ?_
 repeat' (first|refine qm ?_|(first|fail)|((first|refine qd ?_ ?_|refine qc ?_ ?_|refine xsC ?_ ?_);all_goals (intro hc;have hp:=hc;try simp at hp;try (exfalso;omega)))|refine qO ?_ ?_)
 all_goals try (exfalso;omega)
 clear ap3
 (refine Awp.red (qC (τ:=⟨[(0,.op 0 0 0),(88,.os 6 0 K3.length),(89,.v (.int .i64 K3.length)),(90,.v (.int .i64 ((0:Nat):Int)))],[(0,.own false 5 [vm 5 s.cps.length]),(1,.mp (qq B)),(2,.mp (qq M)),(3,.mp (qq T)),(4,.mp (qq s.out)),(5,.own false 2 (s.cps.map Cpy.row)),(6,.own false 1 (K3.map jo))],7⟩) [(5,5),(6,6)] rfl ?gts2 ?ghs2) ?_;(case gts2=>(repeat (first|exact qg|refine qn ?_|refine ye ?_|refine xr ?_|refine ze ?_|refine xw ?_ ?_|refine qS ?_ ?_));all_goals (first|rfl|(rw [List.length_map];done)|trace_state));(case ghs2=>(repeat' (first|exact qj|refine ki ?_|refine xY ?_ ?_ ?_|refine zz ?_));all_goals (first|with_reducible exact qi _|with_reducible exact List.Perm.refl _|rfl|trace_state)))
 have hri0:=iS.rise
 refine qP (fun n σ => ∃ (i:Nat) (s:MS),i ≤ K3.length ∧ n = K3.length - i ∧ (kn M T ((K3.drop i).flatMap jC) s = R ∧ q4 jr s.out = true ∧ s.cps.length ≤ 180 + 80 * i) ∧ σ = ⟨[(0,.op 0 0 0),(88,.os 6 0 K3.length),(89,.v (.int .i64 K3.length)),(90,.v (.int .i64 (i:Int)))],[(0,.own false 5 [vm 5 s.cps.length]),(1,.mp (qq B)),(2,.mp (qq M)),(3,.mp (qq T)),(4,.mp (qq s.out)),(5,.own false 2 (s.cps.map Cpy.row)),(6,.own false 1 (K3.map jo))],7⟩) K3.length ⟨0,s,by omega,rfl,⟨hms2,hri0,by omega⟩,rfl⟩ ?_
 clear hri0 hcl0 hms2 iS lS s
 rintro n σ ⟨i,s,hi,rfl,⟨hpa,hri,hcl⟩,rfl⟩
 by_cases hlt:i < K3.length
 ·have hrow:(K3.map jo)[i]? = some (jo K3[i]):=by rw [List.getElem?_map,List.getElem?_eq_getElem hlt];rfl
  have hpe:=pS K3[i] (List.getElem_mem hlt)
  have apr:=qca K3[i] hpe
  have lQ:=Zc hpe
  have rQ : ∀ a,a ∈ jC K3[i] → qy a = 0:=fun a ha=>QO hpe ha
  rw [List.drop_eq_getElem_cons hlt,List.flatMap_cons] at hpa
  generalize jC K3[i] = Q at *
  repeat' (first|refine qm ?_|(first|(refine xX ?_))|((first|refine qd ?_ ?_|refine qc ?_ ?_|refine xsC ?_ ?_);all_goals (intro hc;have hp:=hc;try simp at hp;try (exfalso;omega)))|refine qO ?_ ?_)
  all_goals try (exfalso;first|omega|contradiction)
  apply jT Tryz.func60 rfl rfl
  intro hIsFn2
  refine xQ [] [7] [(7,.own false 1 (Q.map jo))] 8 (.os 7 0 Q.length) hIsFn2 (apr) (by ((repeat' (first|exact jf|apply q6|exact je rfl|exact jG|(apply qp;apply qI;exact .inr (of_decide_eq_true rfl))|(apply qp;apply qw;exact .inr (of_decide_eq_true rfl))|(apply qp;apply qF;exact .inr (of_decide_eq_true rfl))|apply jw|apply jx)))<;>fail) (by ((repeat' (first|exact qL|exact qK|refine qA _ ?_ ?_|refine qz ?_ ?_|exact qt|exact qe (qi _)|exact qe (qU _)|exact qe (qr _)|exact qx (fun _=>rfl)|refine qB ?_|exact ql|apply qh|exact qk rfl|(apply qw;exact .inr (of_decide_eq_true rfl))|(apply qF;exact .inr (of_decide_eq_true rfl))|(apply qI;exact .inr (of_decide_eq_true rfl))|fail)))<;>fail) (by ((repeat' (first|exact qL|exact qK|refine qA _ ?_ ?_|refine qz ?_ ?_|exact qt|exact qe (qi _)|exact qe (qU _)|exact qe (qr _)|exact qx (fun _=>rfl)|refine qB ?_|exact ql|apply qh|exact qk rfl|(apply qw;exact .inr (of_decide_eq_true rfl))|(apply qF;exact .inr (of_decide_eq_true rfl))|(apply qI;exact .inr (of_decide_eq_true rfl))|fail)))<;>fail) ?_
  repeat' (first|refine qm ?_|(first|fail)|((first|refine qd ?_ ?_|refine qc ?_ ?_|refine xsC ?_ ?_);all_goals (intro hc;have hp:=hc;try simp at hp;try (exfalso;omega)))|refine qO ?_ ?_)
  all_goals try (exfalso;first|omega|contradiction)
  clear apr hpe
  generalize hRest:(K3.drop (i + 1)).flatMap jC = rest at *
  (refine Awp.red (qC (τ:=⟨[(0,.op 0 0 0),(88,.os 6 0 K3.length),(89,.v (.int .i64 K3.length)),(90,.v (.int .i64 (i:Int))),(95,.os 7 0 Q.length),(96,.v (.int .i64 Q.length)),(97,.v (.int .i64 ((0:Nat):Int)))],[(0,.own false 5 [vm 5 s.cps.length]),(1,.mp (qq B)),(2,.mp (qq M)),(3,.mp (qq T)),(4,.mp (qq s.out)),(5,.own false 2 (s.cps.map Cpy.row)),(6,.own false 1 (K3.map jo)),(7,.own false 1 (Q.map jo))],8⟩) [(5,5),(6,6),(7,7)] rfl ?gts2 ?ghs2) ?_;(case gts2=>(repeat (first|exact qg|refine qn ?_|refine ye ?_|refine xr ?_|refine ze ?_|refine xw ?_ ?_|refine qS ?_ ?_));all_goals (first|rfl|(rw [List.length_map];done)|trace_state));(case ghs2=>(repeat' (first|exact qj|refine ki ?_|refine xY ?_ ?_ ?_|refine zz ?_));all_goals (first|with_reducible exact qi _|with_reducible exact List.Perm.refl _|rfl|trace_state)))
  refine qP (fun n σ => ∃ (j:Nat) (s:MS),j ≤ Q.length ∧ n = Q.length - j ∧ (kn M T (Q.drop j ++ rest) s = R ∧ q4 jr s.out = true ∧ s.cps.length ≤ 180 + 80 * i + j) ∧ σ = ⟨[(0,.op 0 0 0),(88,.os 6 0 K3.length),(89,.v (.int .i64 K3.length)),(90,.v (.int .i64 (i:Int))),(95,.os 7 0 Q.length),(96,.v (.int .i64 Q.length)),(97,.v (.int .i64 (j:Int)))],[(0,.own false 5 [vm 5 s.cps.length]),(1,.mp (qq B)),(2,.mp (qq M)),(3,.mp (qq T)),(4,.mp (qq s.out)),(5,.own false 2 (s.cps.map Cpy.row)),(6,.own false 1 (K3.map jo)),(7,.own false 1 (Q.map jo))],8⟩) Q.length ⟨0,s,by omega,rfl,⟨hpa,hri,by omega⟩,rfl⟩ ?_
  clear hpa hri hcl s
  rintro n σ ⟨j,s,hj,rfl,⟨hpa,hri,hcl⟩,rfl⟩
  by_cases hjl:j < Q.length
  ·have hrow2:(Q.map jo)[j]? = some (jo Q[j]):=by rw [List.getElem?_map,List.getElem?_eq_getElem hjl];rfl
   have hqe:=rQ Q[j] (List.getElem_mem hjl)
   rw [List.drop_eq_getElem_cons hjl,List.cons_append,Zb] at hpa
   generalize Q[j] = q at *
   have hget:=vK s.out q
   have hpt:=Zj (e:=⟨q,true,[],1⟩) hri
   have hro2:q4 jr (jN s.out (⟨q,true,[],1⟩ : Ent)) = true:=yG hri
   have ano:=V2 B M T (jN s.out (⟨q,true,[],1⟩ : Ent)) s.cps q (stT s.out q).text hqe
   have ayes:=fun q'=>XR B M T (jN s.out (⟨q,true,[],1⟩ : Ent)) s.cps q (stT s.out q).text q' hqe
   have hgood:=kv s.out q
   have p1 := @W9 M T s q
   have p0 := @Z9 M T s q
   have p2 := @qaa M T s q
   have pf := @qc1 s.out q
   generalize hv:stT s.out q = v at *
   obtain ⟨vk,vt⟩:=v
   dsimp only at p1 p0 p2 ano ayes pf
   by_cases hk2:vk = 2
   ·subst hk2
    have d2:decide ((2:Int) = 2) = true:=rfl
    rw [p2 rfl] at hpa
    repeat' (first|refine qm ?_|(first|(refine xX ?_)|(apply qf;apply jI;(case hm=>rfl);(case hn=>rfl);(case hk=>rfl);(case hT=>rfl);(case he=>rfl);(case hK=>rfl);(case hks=>rfl);(case hz=>exact jb);(case hzv=>exact jK);(case hx=>exact hget);(case hN=>exact nle rfl))|(apply yy;apply xj;rfl;rfl;rfl;rfl;rfl;rfl;rfl;rfl))|((first|refine qd ?_ ?_|refine qc ?_ ?_|refine xsC ?_ ?_);all_goals (intro hc;have hp:=hc;try simp at hp;try (exfalso;omega)))|refine qO ?_ ?_)
    all_goals try (exfalso;first|omega|contradiction)
    apply jT Tryz.func59 rfl rfl
    intro hIsFn3
    cases hasd:xS M T (jN s.out (⟨q,true,[],1⟩ : Ent)) q 99 1 with
    | none =>
      rw [wN hasd] at hpa
      have hR:R = none:=hpa.symm
      rw [hR]
      refine xQ [0,1,2,3,4,5] [] [(0,.own false 5 [vm 5 s.cps.length]),(1,.mp (qq B)),(2,.mp (qq M)),(3,.mp (qq T)),(4,.mp (qq (jN s.out (⟨q,true,[],1⟩ : Ent)))),(5,.own false 2 (s.cps.map Cpy.row))] 9 (.v (.bool false)) hIsFn3 (ano hasd (by omega)) (by ((repeat' (first|exact jf|apply q6|exact je rfl|exact jG|(apply qp;apply qI;exact .inr (of_decide_eq_true rfl))|(apply qp;apply qw;exact .inr (of_decide_eq_true rfl))|(apply qp;apply qF;exact .inr (of_decide_eq_true rfl))|apply jw|apply jx)))<;>fail) (by ((repeat' (first|exact qL|exact qK|refine qA _ ?_ ?_|refine qz ?_ ?_|exact qt|exact qe (qi _)|exact qe (qU _)|exact qe (qr _)|exact qx (fun _=>rfl)|refine qB ?_|exact ql|apply qh|exact qk rfl|(apply qw;exact .inr (of_decide_eq_true rfl))|(apply qF;exact .inr (of_decide_eq_true rfl))|(apply qI;exact .inr (of_decide_eq_true rfl))|exact Zh hpt (qi _))))<;>fail) (by ((repeat' (first|exact qL|exact qK|refine qA _ ?_ ?_|refine qz ?_ ?_|exact qt|exact qe (qi _)|exact qe (qU _)|exact qe (qr _)|exact qx (fun _=>rfl)|refine qB ?_|exact ql|apply qh|exact qk rfl|(apply qw;exact .inr (of_decide_eq_true rfl))|(apply qF;exact .inr (of_decide_eq_true rfl))|(apply qI;exact .inr (of_decide_eq_true rfl))|fail)))<;>fail) ?_
      repeat' (first|refine qm ?_|(first|fail)|((first|refine qd ?_ ?_|refine qc ?_ ?_|refine xsC ?_ ?_);all_goals (intro hc;have hp:=hc;try simp at hp;try (exfalso;omega)))|refine qO ?_ ?_)
      all_goals try (exfalso;first|omega|contradiction)
      all_goals ((apply jH (rs:=[.tmp 2]) [] 5;(case hr=>(repeat (first|exact jp|(apply jq;rfl)|(apply jg;rfl;rfl;rfl;rfl;rfl))));(case hL=>rfl);(case hh=>(repeat' (first|exact qj|refine jt ?_|refine zz ?_|refine xY ?_ ?_ ?_|refine vh ?_ ?_|refine yH ?_ ?_|refine y9 ?_ ?_ ?_ ?_|refine q9 ?_ ?_|exact ql|apply qh|exact qk rfl|(apply qw;(first|exact qJ rfl|exact .inr (List.mem_cons_self ..)|exact .inr (List.mem_cons_of_mem _ (List.mem_cons_self ..))|exact .inr (List.mem_cons_of_mem _ (List.mem_cons_of_mem _ (List.mem_cons_self ..)))|exact .inr (List.mem_cons_of_mem _ (List.mem_cons_of_mem _ (List.mem_cons_of_mem _ (List.mem_cons_self ..))))))|refine jn ?_|refine yR ?_ rfl|with_reducible exact List.Perm.refl _));all_goals (first|rfl|trace_state));(case hi=>exact rfl);(case hz=>first|rfl|(simp [j6,AV.ren,AV.ren.renL,jD,qR,jA];done)|(simp [j6,AV.ren,AV.ren.renL,jD,qR,jA, *];done)|trace_state)))
    | some q' =>
      rw [wO hasd] at hpa
      have hro3:q4 jr (jN (jN s.out (⟨q,true,[],1⟩ : Ent)) (⟨q',false,vt,1⟩ : Ent)) = true:=yG hro2
      refine xQ [0,1,2,3,4,5] [9] [(0,.own false 5 [vm 9 (s.cps ++ [(⟨q,q'⟩ : Cpy)]).length]),(1,.mp (qq B)),(2,.mp (qq M)),(3,.mp (qq T)),(4,.mp (qq (jN (jN s.out (⟨q,true,[],1⟩ : Ent)) (⟨q',false,vt,1⟩ : Ent)))),(5,.dead),(9,.own false 2 ((s.cps ++ [(⟨q,q'⟩ : Cpy)]).map Cpy.row))] 10 (.v (.bool true)) hIsFn3 (ayes q' hasd hro2 (by omega)) (by ((repeat' (first|exact jf|apply q6|exact je rfl|exact jG|(apply qp;apply qI;exact .inr (of_decide_eq_true rfl))|(apply qp;apply qw;exact .inr (of_decide_eq_true rfl))|(apply qp;apply qF;exact .inr (of_decide_eq_true rfl))|apply jw|apply jx)))<;>fail) (by ((repeat' (first|exact qL|exact qK|refine qA _ ?_ ?_|refine qz ?_ ?_|exact qt|exact qe (qi _)|exact qe (qU _)|exact qe (qr _)|exact qx (fun _=>rfl)|refine qB ?_|exact ql|apply qh|exact qk rfl|(apply qw;exact .inr (of_decide_eq_true rfl))|(apply qF;exact .inr (of_decide_eq_true rfl))|(apply qI;exact .inr (of_decide_eq_true rfl))|exact Zh hpt (qi _))))<;>fail) (by ((repeat' (first|exact qL|exact qK|refine qA _ ?_ ?_|refine qz ?_ ?_|exact qt|exact qe (qi _)|exact qe (qU _)|exact qe (qr _)|exact qx (fun _=>rfl)|refine qB ?_|exact ql|apply qh|exact qk rfl|(apply qw;exact .inr (of_decide_eq_true rfl))|(apply qF;exact .inr (of_decide_eq_true rfl))|(apply qI;exact .inr (of_decide_eq_true rfl))|fail)))<;>fail) ?_
      repeat' (first|refine qm ?_|(first|fail)|((first|refine qd ?_ ?_|refine qc ?_ ?_|refine xsC ?_ ?_);all_goals (intro hc;have hp:=hc;try simp at hp;try (exfalso;omega)))|refine qO ?_ ?_)
      all_goals try (exfalso;first|omega|contradiction)
      refine ⟨Q.length - (j + 1),⟨[(0,.op 0 0 0),(88,.os 6 0 K3.length),(89,.v (.int .i64 K3.length)),(90,.v (.int .i64 (i:Int))),(95,.os 7 0 Q.length),(96,.v (.int .i64 Q.length)),(97,.v (.int .i64 ((j + 1:Nat):Int)))],[(0,.own false 5 [vm 5 (s.cps ++ [(⟨q,q'⟩ : Cpy)]).length]),(1,.mp (qq B)),(2,.mp (qq M)),(3,.mp (qq T)),(4,.mp (qq (jN (jN s.out (⟨q,true,[],1⟩ : Ent)) (⟨q',false,vt,1⟩ : Ent)))),(5,.own false 2 ((s.cps ++ [(⟨q,q'⟩ : Cpy)]).map Cpy.row)),(6,.own false 1 (K3.map jo)),(7,.own false 1 (Q.map jo))],8⟩,by omega,?_,j + 1,⟨(jN (jN s.out (⟨q,true,[],1⟩ : Ent)) (⟨q',false,vt,1⟩ : Ent)),(s.cps ++ [(⟨q,q'⟩ : Cpy)])⟩,by omega,rfl,⟨hpa,hro3,by simp;omega⟩,rfl⟩;(skip);refine qC [(9,5),(6,6),(7,7)] rfl ?gts ?ghs;(case gts=>(repeat (first|exact qg|refine qn ?_|refine ye ?_|refine xr ?_|refine ze ?_|refine xw ?_ ?_|refine qS ?_ ?_));all_goals (first|rfl|trace_state));(case ghs=>(repeat' (first|exact qj|refine ki ?_|refine xY ?_ ?_ ?_|refine zz ?_));all_goals (first|with_reducible exact qi _|with_reducible exact List.Perm.refl _|fail|rfl|trace_state))
   ·have d2:decide (vk = 2) = false:=decide_eq_false hk2
    repeat' (first|refine qm ?_|(first|(refine xX ?_)|(apply qf;apply jI;(case hm=>rfl);(case hn=>rfl);(case hk=>rfl);(case hT=>rfl);(case he=>rfl);(case hK=>rfl);(case hks=>rfl);(case hz=>exact jb);(case hzv=>exact jK);(case hx=>exact hget);(case hN=>exact nle rfl))|(apply yy;apply xj;rfl;rfl;rfl;rfl;rfl;rfl;rfl;rfl))|((first|refine qd ?_ ?_|refine qc ?_ ?_|refine xsC ?_ ?_);all_goals (intro hc;have hp:=hc;try simp at hp;try (exfalso;omega)))|refine qO ?_ ?_)
    all_goals try (exfalso;first|omega|contradiction)
    by_cases hk1:vk = 1
    ·rw [p1 hk1] at hpa
     have hpf:=List.Perm.of_eq (pf hk1)
     refine ⟨Q.length - (j + 1),⟨[(0,.op 0 0 0),(88,.os 6 0 K3.length),(89,.v (.int .i64 K3.length)),(90,.v (.int .i64 (i:Int))),(95,.os 7 0 Q.length),(96,.v (.int .i64 Q.length)),(97,.v (.int .i64 ((j + 1:Nat):Int)))],[(0,.own false 5 [vm 5 s.cps.length]),(1,.mp (qq B)),(2,.mp (qq M)),(3,.mp (qq T)),(4,.mp (qq s.out)),(5,.own false 2 (s.cps.map Cpy.row)),(6,.own false 1 (K3.map jo)),(7,.own false 1 (Q.map jo))],8⟩,by omega,?_,j + 1,s,by omega,rfl,⟨hpa,hri,by omega⟩,rfl⟩;(skip);refine qC [(5,5),(6,6),(7,7)] rfl ?gts ?ghs;(case gts=>(repeat (first|exact qg|refine qn ?_|refine ye ?_|refine xr ?_|refine ze ?_|refine xw ?_ ?_|refine qS ?_ ?_));all_goals (first|rfl|trace_state));(case ghs=>(repeat' (first|exact qj|refine ki ?_|refine xY ?_ ?_ ?_|refine zz ?_));all_goals (first|with_reducible exact qi _|with_reducible exact List.Perm.refl _|exact hpf|exact hpf.symm|rfl|trace_state))
    ·rw [p0 hk1 hk2] at hpa
     refine ⟨Q.length - (j + 1),⟨[(0,.op 0 0 0),(88,.os 6 0 K3.length),(89,.v (.int .i64 K3.length)),(90,.v (.int .i64 (i:Int))),(95,.os 7 0 Q.length),(96,.v (.int .i64 Q.length)),(97,.v (.int .i64 ((j + 1:Nat):Int)))],[(0,.own false 5 [vm 5 s.cps.length]),(1,.mp (qq B)),(2,.mp (qq M)),(3,.mp (qq T)),(4,.mp (qq (jN s.out (⟨q,true,[],1⟩ : Ent)))),(5,.own false 2 (s.cps.map Cpy.row)),(6,.own false 1 (K3.map jo)),(7,.own false 1 (Q.map jo))],8⟩,by omega,?_,j + 1,⟨(jN s.out (⟨q,true,[],1⟩ : Ent)),s.cps⟩,by omega,rfl,⟨hpa,hro2,by simp only;omega⟩,rfl⟩;(skip);refine qC [(5,5),(6,6),(7,7)] rfl ?gts ?ghs;(case gts=>(repeat (first|exact qg|refine qn ?_|refine ye ?_|refine xr ?_|refine ze ?_|refine xw ?_ ?_|refine qS ?_ ?_));all_goals (first|rfl|trace_state));(case ghs=>(repeat' (first|exact qj|refine ki ?_|refine xY ?_ ?_ ?_|refine zz ?_));all_goals (first|with_reducible exact qi _|with_reducible exact List.Perm.refl _|exact hpt|exact hpt.symm|rfl|trace_state))
  ·obtain rfl:j = Q.length:=by omega
   rw [List.drop_length,List.nil_append, ← hRest] at hpa
   repeat' (first|refine qm ?_|(first|fail)|((first|refine qd ?_ ?_|refine qc ?_ ?_|refine xsC ?_ ?_);all_goals (intro hc;have hp:=hc;try simp at hp;try (exfalso;omega)))|refine qO ?_ ?_)
   all_goals try (exfalso;first|omega|contradiction)
   refine ⟨K3.length - (i + 1),⟨[(0,.op 0 0 0),(88,.os 6 0 K3.length),(89,.v (.int .i64 K3.length)),(90,.v (.int .i64 ((i + 1:Nat):Int)))],[(0,.own false 5 [vm 5 s.cps.length]),(1,.mp (qq B)),(2,.mp (qq M)),(3,.mp (qq T)),(4,.mp (qq s.out)),(5,.own false 2 (s.cps.map Cpy.row)),(6,.own false 1 (K3.map jo))],7⟩,by omega,?_,i + 1,s,by omega,rfl,⟨hpa,hri,by omega⟩,rfl⟩;(skip);refine qC [(5,5),(6,6)] rfl ?gts ?ghs;(case gts=>(repeat (first|exact qg|refine qn ?_|refine ye ?_|refine xr ?_|refine ze ?_|refine xw ?_ ?_|refine qS ?_ ?_));all_goals (first|rfl|trace_state));(case ghs=>(repeat' (first|exact qj|refine ki ?_|refine xY ?_ ?_ ?_|refine zz ?_));all_goals (first|with_reducible exact qi _|with_reducible exact List.Perm.refl _|rfl|trace_state))
 ·obtain rfl:i = K3.length:=by omega
  rw [List.drop_length] at hpa
  have hR2:R = some s:=hpa.symm
  rw [hR2]
  repeat' (first|refine qm ?_|(first|fail)|((first|refine qd ?_ ?_|refine qc ?_ ?_|refine xsC ?_ ?_);all_goals (intro hc;have hp:=hc;try simp at hp;try (exfalso;omega)))|refine qO ?_ ?_)
  all_goals try (exfalso;first|omega|contradiction)
  (apply jH (rs:=[.tmp 2]) [(5,5)] 6;(case hr=>(repeat (first|exact jp|(apply jq;rfl)|(apply jg;rfl;rfl;rfl;rfl;rfl))));(case hL=>rfl);(case hh=>(repeat' (first|exact qj|refine ki ?_|refine xY ?_ ?_ ?_|refine zz ?_));all_goals (first|with_reducible exact qi _|with_reducible exact List.Perm.refl _|rfl));(case hi=>exact rfl);(case hz=>rfl))
end Go.Proofs.YtnhpclmbhbblbaaGreatDoor
set_option linter.unusedSimpArgs false
set_option linter.unnecessarySimpa false
set_option linter.unusedVariables false
set_option maxHeartbeats 1000000
namespace Go.Proofs.YtnhpclmbhbblbaaGreatDoor
open Go.Ab Go.RowKit
set_option maxRecDepth 10000
attribute [local irreducible] Awp yl jE jl Red qX Go.Ab.Fin qW Rz vl jj ji ResOk jV jz yb jv
set_option maxHeartbeats 16000000 in
theorem qcB (B M T:List Ent) (G:List (qQ × qQ)) (O0:List Ent) (R:Option MS) (iO:MInv O0) (lO:O0.length ≤ 180) (rG:Ql (G.map (·.1))) (lG:G.length ≤ 180) (gG : ∀ g,g ∈ G → qy g.1 = 0 ∧ g.2.length ≤ 300) (hms:(match Vg M T G ⟨O0,[]⟩ with|none=>none|some s=>kn M T ((s.out.map Ent.path).flatMap jC) s) = R) :
  Awp C5 125 (tl 5 Xx) (WI C5 #[ResultVar.tmp 2] 5 (.v (.bool R.isSome)) (H8o B M T R)) ⟨[(0,.op 0 0 0),(6,.mp 6)],[(0,.own false 5 [vm 5 0]),(1,.mp (qq B)),(2,.mp (qq M)),(3,.mp (qq T)),(4,.mp (qq O0)),(5,.own false 2 []),(6,.mp (vG G))],7⟩:=by
 conv=>arg 3;whnf
 have ap2:=X6 (vG G) (G.map (·.1)) rG (by rw [Ya]) (by rw [List.length_map];omega) (fun x hx=>by
  obtain ⟨g,hg,rfl⟩:=List.mem_map.1 hx
  exact Nat.le_trans (qV (gG g hg).1) (by decide))
 generalize hK:G.map (·.1) = K at *
 have lK:K.length = G.length:=by rw [← hK,List.length_map]
 repeat' (first|refine qm ?_|(first|fail)|((first|refine qd ?_ ?_|refine qc ?_ ?_|refine xsC ?_ ?_);all_goals (intro hc;have hp:=hc;try simp at hp;try (exfalso;omega)))|refine qO ?_ ?_)
 all_goals try (exfalso;omega)
 apply jT Tryz.func25 rfl rfl
 intro hIsFn
 refine xQ [6] [7] [(6,.mp (vG G)),(7,.own false 1 (K.map jo))] 8 (.os 7 0 K.length) hIsFn (ap2) (by ((repeat' (first|exact jf|apply q6|exact je rfl|exact jG|(apply qp;apply qI;exact .inr (of_decide_eq_true rfl))|(apply qp;apply qw;exact .inr (of_decide_eq_true rfl))|(apply qp;apply qF;exact .inr (of_decide_eq_true rfl))|apply jw|apply jx)))<;>fail) (by ((repeat' (first|exact qL|exact qK|refine qA _ ?_ ?_|refine qz ?_ ?_|exact qt|exact qe (qi _)|exact qe (qU _)|exact qe (qr _)|exact qx (fun _=>rfl)|refine qB ?_|exact ql|apply qh|exact qk rfl|(apply qw;exact .inr (of_decide_eq_true rfl))|(apply qF;exact .inr (of_decide_eq_true rfl))|(apply qI;exact .inr (of_decide_eq_true rfl))|fail)))<;>fail) (by ((repeat' (first|exact qL|exact qK|refine qA _ ?_ ?_|refine qz ?_ ?_|exact qt|exact qe (qi _)|exact qe (qU _)|exact qe (qr _)|exact qx (fun _=>rfl)|refine qB ?_|exact ql|apply qh|exact qk rfl|(apply qw;exact .inr (of_decide_eq_true rfl))|(apply qF;exact .inr (of_decide_eq_true rfl))|(apply qI;exact .inr (of_decide_eq_true rfl))|fail)))<;>fail) ?_
 repeat' (first|refine qm ?_|(first|fail)|((first|refine qd ?_ ?_|refine qc ?_ ?_|refine xsC ?_ ?_);all_goals (intro hc;have hp:=hc;try simp at hp;try (exfalso;omega)))|refine qO ?_ ?_)
 all_goals try (exfalso;omega)
 clear ap2
 (refine Awp.red (qC (τ:=⟨[(0,.op 0 0 0),(6,.mp 6),(70,.os 7 0 K.length),(71,.v (.int .i64 K.length)),(72,.v (.int .i64 ((0:Nat):Int)))],[(0,.own false 5 [vm 5 0]),(1,.mp (qq B)),(2,.mp (qq M)),(3,.mp (qq T)),(4,.mp (qq O0)),(5,.own false 2 []),(6,.mp (vG G)),(7,.own false 1 (K.map jo))],8⟩) [(5,5),(6,6),(7,7)] rfl ?gts2 ?ghs2) ?_;(case gts2=>(repeat (first|exact qg|refine qn ?_|refine ye ?_|refine xr ?_|refine ze ?_|refine xw ?_ ?_|refine qS ?_ ?_));all_goals (first|rfl|(rw [List.length_map];done)|trace_state));(case ghs2=>(repeat' (first|exact qj|refine ki ?_|refine xY ?_ ?_ ?_|refine zz ?_));all_goals (first|with_reducible exact qi _|with_reducible exact qr _|with_reducible exact List.Perm.refl _|rfl|trace_state)))
 refine qP (fun n σ => ∃ (i:Nat) (s:MS),i ≤ K.length ∧ n = K.length - i ∧ (Vg M T (G.drop i) s = Vg M T G ⟨O0,[]⟩ ∧ q4 jr s.out = true ∧ s.cps.length ≤ i) ∧ σ = ⟨[(0,.op 0 0 0),(6,.mp 6),(70,.os 7 0 K.length),(71,.v (.int .i64 K.length)),(72,.v (.int .i64 (i:Int)))],[(0,.own false 5 [vm 5 s.cps.length]),(1,.mp (qq B)),(2,.mp (qq M)),(3,.mp (qq T)),(4,.mp (qq s.out)),(5,.own false 2 (s.cps.map Cpy.row)),(6,.mp (vG G)),(7,.own false 1 (K.map jo))],8⟩) K.length ⟨0,⟨O0,[]⟩,by omega,rfl,⟨rfl,iO.rise,Nat.le_refl _⟩,rfl⟩ ?_
 rintro n σ ⟨i,s,hi,rfl,⟨hgo,hri,hcl⟩,rfl⟩
 by_cases hlt:i < K.length
 ·have hG:i < G.length:=by omega
  have hrow:(K.map jo)[i]? = some (jo G[i].1):=by rw [List.getElem?_map, ← hK,List.getElem?_map,List.getElem?_eq_getElem hG];rfl
  have hget:=qct (by rw [hK];exact vY rG) (List.getElem_mem hG)
  have hdr:=WL (m:=M) (t:=T) hG s
  have hpe:=(gG G[i] (List.getElem_mem hG)).1
  have hEx:G[i] = (G[i].1,G[i].2):=rfl
  generalize G[i].1 = p at *
  generalize G[i].2 = x at *
  have ano:=V2 B M T s.out s.cps p x hpe
  have ayes:=fun q=>XR B M T s.out s.cps p x q hpe
  repeat' (first|refine qm ?_|(first|(refine xX ?_)|(apply qf;apply jI;(case hm=>rfl);(case hn=>rfl);(case hk=>rfl);(case hT=>rfl);(case he=>rfl);(case hK=>rfl);(case hks=>rfl);(case hz=>exact jb);(case hzv=>exact jK);(case hx=>exact hget);(case hN=>exact nle rfl)))|((first|refine qd ?_ ?_|refine qc ?_ ?_|refine xsC ?_ ?_);all_goals (intro hc;have hp:=hc;try simp at hp;try (exfalso;omega)))|refine qO ?_ ?_)
  all_goals try (exfalso;first|omega|contradiction)
  apply jT Tryz.func59 rfl rfl
  intro hIsFn2
  cases hasd:xS M T s.out p 99 1 with
  | none =>
    refine xQ [0,1,2,3,4,5] [] [(0,.own false 5 [vm 5 s.cps.length]),(1,.mp (qq B)),(2,.mp (qq M)),(3,.mp (qq T)),(4,.mp (qq s.out)),(5,.own false 2 (s.cps.map Cpy.row))] 8 (.v (.bool false)) hIsFn2 (ano hasd (by omega)) (by ((repeat' (first|exact jf|apply q6|exact je rfl|exact jG|(apply qp;apply qI;exact .inr (of_decide_eq_true rfl))|(apply qp;apply qw;exact .inr (of_decide_eq_true rfl))|(apply qp;apply qF;exact .inr (of_decide_eq_true rfl))|apply jw|apply jx)))<;>fail) (by ((repeat' (first|exact qL|exact qK|refine qA _ ?_ ?_|refine qz ?_ ?_|exact qt|exact qe (qi _)|exact qe (qU _)|exact qe (qr _)|exact qx (fun _=>rfl)|refine qB ?_|exact ql|apply qh|exact qk rfl|(apply qw;exact .inr (of_decide_eq_true rfl))|(apply qF;exact .inr (of_decide_eq_true rfl))|(apply qI;exact .inr (of_decide_eq_true rfl))|fail)))<;>fail) (by ((repeat' (first|exact qL|exact qK|refine qA _ ?_ ?_|refine qz ?_ ?_|exact qt|exact qe (qi _)|exact qe (qU _)|exact qe (qr _)|exact qx (fun _=>rfl)|refine qB ?_|exact ql|apply qh|exact qk rfl|(apply qw;exact .inr (of_decide_eq_true rfl))|(apply qF;exact .inr (of_decide_eq_true rfl))|(apply qI;exact .inr (of_decide_eq_true rfl))|fail)))<;>fail) ?_
    have hno:R = none:=by
     rw [← hms, ← hgo,hdr,wN hasd]
    rw [hno]
    repeat' (first|refine qm ?_|(first|fail)|((first|refine qd ?_ ?_|refine qc ?_ ?_|refine xsC ?_ ?_);all_goals (intro hc;have hp:=hc;try simp at hp;try (exfalso;omega)))|refine qO ?_ ?_)
    all_goals try (exfalso;first|omega|contradiction)
    all_goals ((apply jH (rs:=[.tmp 2]) [] 5;(case hr=>(repeat (first|exact jp|(apply jq;rfl)|(apply jg;rfl;rfl;rfl;rfl;rfl))));(case hL=>rfl);(case hh=>(repeat' (first|exact qj|refine jt ?_|refine zz ?_|refine xY ?_ ?_ ?_|refine vh ?_ ?_|refine yH ?_ ?_|refine y9 ?_ ?_ ?_ ?_|refine q9 ?_ ?_|exact ql|apply qh|exact qk rfl|(apply qw;(first|exact qJ rfl|exact .inr (List.mem_cons_self ..)|exact .inr (List.mem_cons_of_mem _ (List.mem_cons_self ..))|exact .inr (List.mem_cons_of_mem _ (List.mem_cons_of_mem _ (List.mem_cons_self ..)))|exact .inr (List.mem_cons_of_mem _ (List.mem_cons_of_mem _ (List.mem_cons_of_mem _ (List.mem_cons_self ..))))))|refine jn ?_|refine yR ?_ rfl|with_reducible exact List.Perm.refl _));all_goals (first|rfl|trace_state));(case hi=>exact rfl);(case hz=>first|rfl|(simp [j6,AV.ren,AV.ren.renL,jD,qR,jA];done)|(simp [j6,AV.ren,AV.ren.renL,jD,qR,jA, *];done)|trace_state)))
  | some q =>
    rw [wO hasd] at hdr
    have hro2:q4 jr (jN s.out (⟨q,false,x,1⟩ : Ent)) = true:=yG hri
    refine xQ [0,1,2,3,4,5] [8] [(0,.own false 5 [vm 8 (s.cps ++ [(⟨p,q⟩ : Cpy)]).length]),(1,.mp (qq B)),(2,.mp (qq M)),(3,.mp (qq T)),(4,.mp (qq (jN s.out (⟨q,false,x,1⟩ : Ent)))),(5,.dead),(8,.own false 2 ((s.cps ++ [(⟨p,q⟩ : Cpy)]).map Cpy.row))] 9 (.v (.bool true)) hIsFn2 (ayes q hasd hri (by omega)) (by ((repeat' (first|exact jf|apply q6|exact je rfl|exact jG|(apply qp;apply qI;exact .inr (of_decide_eq_true rfl))|(apply qp;apply qw;exact .inr (of_decide_eq_true rfl))|(apply qp;apply qF;exact .inr (of_decide_eq_true rfl))|apply jw|apply jx)))<;>fail) (by ((repeat' (first|exact qL|exact qK|refine qA _ ?_ ?_|refine qz ?_ ?_|exact qt|exact qe (qi _)|exact qe (qU _)|exact qe (qr _)|exact qx (fun _=>rfl)|refine qB ?_|exact ql|apply qh|exact qk rfl|(apply qw;exact .inr (of_decide_eq_true rfl))|(apply qF;exact .inr (of_decide_eq_true rfl))|(apply qI;exact .inr (of_decide_eq_true rfl))|fail)))<;>fail) (by ((repeat' (first|exact qL|exact qK|refine qA _ ?_ ?_|refine qz ?_ ?_|exact qt|exact qe (qi _)|exact qe (qU _)|exact qe (qr _)|exact qx (fun _=>rfl)|refine qB ?_|exact ql|apply qh|exact qk rfl|(apply qw;exact .inr (of_decide_eq_true rfl))|(apply qF;exact .inr (of_decide_eq_true rfl))|(apply qI;exact .inr (of_decide_eq_true rfl))|fail)))<;>fail) ?_
    repeat' (first|refine qm ?_|(first|fail)|((first|refine qd ?_ ?_|refine qc ?_ ?_|refine xsC ?_ ?_);all_goals (intro hc;have hp:=hc;try simp at hp;try (exfalso;omega)))|refine qO ?_ ?_)
    all_goals try (exfalso;first|omega|contradiction)
    refine ⟨K.length - (i + 1),⟨[(0,.op 0 0 0),(6,.mp 6),(70,.os 7 0 K.length),(71,.v (.int .i64 K.length)),(72,.v (.int .i64 ((i + 1:Nat):Int)))],[(0,.own false 5 [vm 5 (s.cps ++ [(⟨p,q⟩ : Cpy)]).length]),(1,.mp (qq B)),(2,.mp (qq M)),(3,.mp (qq T)),(4,.mp (qq (jN s.out (⟨q,false,x,1⟩ : Ent)))),(5,.own false 2 ((s.cps ++ [(⟨p,q⟩ : Cpy)]).map Cpy.row)),(6,.mp (vG G)),(7,.own false 1 (K.map jo))],8⟩,by omega,?_,i + 1,⟨jN s.out (⟨q,false,x,1⟩ : Ent),s.cps ++ [⟨p,q⟩]⟩,by omega,rfl,⟨hdr.symm.trans hgo,hro2,by simp;omega⟩,rfl⟩;(skip);refine qC [(8,5),(6,6),(7,7)] rfl ?gts ?ghs;(case gts=>(repeat (first|exact qg|refine qn ?_|refine ye ?_|refine xr ?_|refine ze ?_|refine xw ?_ ?_|refine qS ?_ ?_));all_goals (first|rfl|trace_state));(case ghs=>(repeat' (first|exact qj|refine ki ?_|refine xY ?_ ?_ ?_|refine zz ?_));all_goals (first|with_reducible exact qi _|with_reducible exact qr _|with_reducible exact List.Perm.refl _|rfl|trace_state))
 ·obtain rfl:i = K.length:=by omega
  rw [List.drop_eq_nil_of_le (by omega)] at hgo
  have hgo2:Vg M T G ⟨O0,[]⟩ = some s:=hgo.symm
  have iS:MInv s.out:=YF (s:=⟨O0,[]⟩) iO gG hgo2
  have lS:s.out.length ≤ 360:=by have:=KC hgo2;simp at this;omega
  rw [hgo2] at hms
  have hcl0:s.cps.length ≤ 180:=by omega
  repeat' (first|(refine Awp.red (qC (τ:=⟨[(0,.op 0 0 0)],[(0,.own false 5 [vm 5 s.cps.length]),(1,.mp (qq B)),(2,.mp (qq M)),(3,.mp (qq T)),(4,.mp (qq s.out)),(5,.own false 2 (s.cps.map Cpy.row))],6⟩) [(5,5)] rfl ?_ ?_) ?_;rotate_left 2;exact qcC B M T s iS lS hcl0 R hms;(focus ((repeat (first|exact qg|refine qn ?_|refine ye ?_|refine xr ?_|refine ze ?_|refine xw ?_ ?_|refine qS ?_ ?_));all_goals trace_state));(focus ((repeat' (first|exact qj|refine ki ?_|refine xY ?_ ?_ ?_|refine zz ?_));all_goals (first|with_reducible exact qi _|with_reducible exact qr _|with_reducible exact qU _|with_reducible exact List.Perm.refl _|rfl|trace_state))))|refine Zr ?_|((first|refine qd ?_ ?_|refine qc ?_ ?_|refine xsC ?_ ?_);all_goals (intro hc;have hp:=hc;try simp at hp;try (exfalso;omega)))|refine qO ?_ ?_)
end Go.Proofs.YtnhpclmbhbblbaaGreatDoor
set_option linter.unusedSimpArgs false
set_option linter.unnecessarySimpa false
set_option linter.unusedVariables false
set_option maxHeartbeats 1000000
namespace Go.Proofs.YtnhpclmbhbblbaaGreatDoor
open Go.Ab Go.RowKit
set_option maxRecDepth 10000
attribute [local irreducible] Awp yl jE jl Red qX Go.Ab.Fin qW Rz vl jj ji ResOk jV jz yb jv
set_option maxHeartbeats 16000000 in
theorem qcA (B M T:List Ent) (hB:Right B) (hM:Right M) (hT:Right T) (P:List qQ) (hP:zb B M T = P) (lP:P.length ≤ 180) :
  Awp C5 125 (tl 3 Xx) (WI C5 #[ResultVar.tmp 2] 5 (.v (.bool (vI B M T).isSome)) (H8o B M T (vI B M T))) ⟨[(0,.op 0 0 0),(3,.mp 6)],[(0,.own false 5 [vm 5 0]),(1,.mp (qq B)),(2,.mp (qq M)),(3,.mp (qq T)),(4,.mp (qq [])),(5,.own false 2 []),(6,.mp (jk P))],7⟩:=by
 conv=>arg 3;whnf
 have rP:Ql P:=hP ▸ qdu B M T
 have pP : ∀ x,x ∈ P → qy x = 0:=fun x hx=>Qs hB hM hT (hP ▸ hx)
 have ap1:=X6 (jk P) P rP (by rw [KF]) (by omega) (fun x hx=>Nat.le_trans (qV (pP x hx)) (by decide))
 repeat' (first|refine qm ?_|(first|(apply xq;apply wu;exact nle rfl))|((first|refine qd ?_ ?_|refine qc ?_ ?_|refine xsC ?_ ?_);all_goals (intro hc;have hp:=hc;try simp at hp;try (exfalso;omega)))|refine qO ?_ ?_)
 all_goals try (exfalso;omega)
 apply jT Tryz.func25 rfl rfl
 intro hIsFn
 refine xQ [6] [8] [(6,.mp (jk P)),(8,.own false 1 (P.map jo))] 9 (.os 8 0 P.length) hIsFn (ap1) (by ((repeat' (first|exact jf|apply q6|exact je rfl|exact jG|(apply qp;apply qI;exact .inr (of_decide_eq_true rfl))|(apply qp;apply qw;exact .inr (of_decide_eq_true rfl))|(apply qp;apply qF;exact .inr (of_decide_eq_true rfl))|apply jw|apply jx)))<;>fail) (by ((repeat' (first|exact qL|exact qK|refine qA _ ?_ ?_|refine qz ?_ ?_|exact qt|exact qe (qi _)|exact qe (qU _)|exact qe (qr _)|exact qx (fun _=>rfl)|refine qB ?_|exact ql|apply qh|exact qk rfl|(apply qw;exact .inr (of_decide_eq_true rfl))|(apply qF;exact .inr (of_decide_eq_true rfl))|(apply qI;exact .inr (of_decide_eq_true rfl))|fail)))<;>fail) (by ((repeat' (first|exact qL|exact qK|refine qA _ ?_ ?_|refine qz ?_ ?_|exact qt|exact qe (qi _)|exact qe (qU _)|exact qe (qr _)|exact qx (fun _=>rfl)|refine qB ?_|exact ql|apply qh|exact qk rfl|(apply qw;exact .inr (of_decide_eq_true rfl))|(apply qF;exact .inr (of_decide_eq_true rfl))|(apply qI;exact .inr (of_decide_eq_true rfl))|fail)))<;>fail) ?_
 repeat' (first|refine qm ?_|(first|(apply xq;apply wu;exact nle rfl))|((first|refine qd ?_ ?_|refine qc ?_ ?_|refine xsC ?_ ?_);all_goals (intro hc;have hp:=hc;try simp at hp;try (exfalso;omega)))|refine qO ?_ ?_)
 all_goals try (exfalso;omega)
 clear ap1
 (refine Awp.red (qC (τ:=⟨[(0,.op 0 0 0),(6,.mp 6),(43,.os 7 0 P.length),(44,.v (.int .i64 P.length)),(45,.v (.int .i64 ((0:Nat):Int)))],[(0,.own false 5 [vm 5 0]),(1,.mp (qq B)),(2,.mp (qq M)),(3,.mp (qq T)),(4,.mp (qq (xH B M T (P.take 0)))),(5,.own false 2 []),(6,.mp (vG (yx B M T (P.take 0)))),(7,.own false 1 (P.map jo))],8⟩) [(5,5),(7,6),(8,7)] rfl ?gts2 ?ghs2) ?_;(case gts2=>(repeat (first|exact qg|refine qn ?_|refine ye ?_|refine xr ?_|refine ze ?_|refine xw ?_ ?_|refine qS ?_ ?_));all_goals (first|exact qi _|exact qr _|rfl|(rw [List.length_map];done)|trace_state));(case ghs2=>(repeat' (first|exact qj|refine jt ?_|refine zz ?_|refine xY ?_ ?_ ?_|refine vh ?_ ?_|refine yH ?_ ?_|refine y9 ?_ ?_ ?_ ?_|refine q9 ?_ ?_|exact ql|apply qh|exact qk rfl|(apply qw;(first|exact qJ rfl|exact .inr (List.mem_cons_self ..)|exact .inr (List.mem_cons_of_mem _ (List.mem_cons_self ..))|exact .inr (List.mem_cons_of_mem _ (List.mem_cons_of_mem _ (List.mem_cons_self ..)))|exact .inr (List.mem_cons_of_mem _ (List.mem_cons_of_mem _ (List.mem_cons_of_mem _ (List.mem_cons_self ..))))))|refine jn ?_|refine yR ?_ rfl|with_reducible exact List.Perm.refl _));all_goals (first|exact qi _|exact qr _|rfl|(rw [List.length_map];done)|trace_state)))
 refine qP (fun n σ => ∃ i:Nat,i ≤ P.length ∧ n = P.length - i ∧ True ∧ σ = ⟨[(0,.op 0 0 0),(6,.mp 6),(43,.os 7 0 P.length),(44,.v (.int .i64 P.length)),(45,.v (.int .i64 (i:Int)))],[(0,.own false 5 [vm 5 0]),(1,.mp (qq B)),(2,.mp (qq M)),(3,.mp (qq T)),(4,.mp (qq (xH B M T (P.take i)))),(5,.own false 2 []),(6,.mp (vG (yx B M T (P.take i)))),(7,.own false 1 (P.map jo))],8⟩) P.length ⟨0,by omega,rfl,trivial,rfl⟩ ?_
 rintro n σ ⟨i,hi,rfl, -,rfl⟩
 by_cases hlt:i < P.length
 ·have hrow:(P.map jo)[i]? = some (jo P[i]):=by rw [List.getElem?_map,List.getElem?_eq_getElem hlt];rfl
  have hro:q4 jr (xH B M T (P.take i)) = true:=W8 hB hM hT _
  have aone:qW C6.P 57 [.op 0 0 0,.v (str P[i])] [.own false 5 [vm 5 0],.mp (qq B),.mp (qq M),.mp (qq T),.mp (qq (xH B M T (P.take i))),.own false 2 []] (.tup [xF (xZ B M T P[i]).1,xF (xZ B M T P[i]).2]) [.own false 5 [vm 5 0],.mp (qq B),.mp (qq M),.mp (qq T),.mp (qq (xH B M T (P.take i))),.own false 2 []]:=qgZ B M T (xH B M T (P.take i)) [] P[i]
  have gone:=qd6 B M T P[i]
  have hpn:=qfH (b:=B) (m:=M) (t:=T) (vY rP) hlt
  have hgn:=qd4 (b:=B) (m:=M) (t:=T) (vY rP) hlt
  have hos:=Z8 (b:=B) (m:=M) (t:=T) hlt
  have hgs:=VR (b:=B) (m:=M) (t:=T) hlt
  have hpu:=qc3 hro gone.1 hpn
  rw [← hos] at hpu
  have hpp:=qc4 (qq (xH B M T (P.take i))) P[i] (xZ B M T P[i]).1 (qi _)
  have aput:qW C1.P 58 [.mp 0,.v (str P[i]),xF (xZ B M T P[i]).1] [.mp (qq (xH B M T (P.take i)))] (.tup []) [.mp (.map (if (xZ B M T P[i]).1.kind = 0 then xG (qq (xH B M T (P.take i))) P[i] else yY (qq (xH B M T (P.take i))) P[i] (xF (xZ B M T P[i]).1)))]:=by
   have h:=qgt (qq (xH B M T (P.take i))) P[i] (xZ B M T P[i]).1 (qi _)
   by_cases h0:(xZ B M T P[i]).1.kind = 0
   ·rw [if_pos h0] at h ⊢;exact h
   ·rw [if_neg h0] at h ⊢;exact h
  have hbn:vG (yx B M T (P.take i)) = vG (yx B M T (P.take i)):=rfl
  generalize hX:xZ B M T P[i] = X at *
  obtain ⟨x,y⟩:=X
  dsimp only at *
  repeat' (first|refine qm ?_|(first|(refine xX ?_))|((first|refine qd ?_ ?_|refine qc ?_ ?_|refine xsC ?_ ?_);all_goals (intro hc;have hp:=hc;try simp at hp;try (exfalso;omega)))|refine qO ?_ ?_)
  all_goals try (exfalso;first|omega|contradiction)
  apply jT Tryz.func57 rfl rfl
  intro hIsFn
  refine xQ [0,1,2,3,4,5] [] [(0,.own false 5 [vm 5 0]),(1,.mp (qq B)),(2,.mp (qq M)),(3,.mp (qq T)),(4,.mp (qq (xH B M T (P.take i)))),(5,.own false 2 [])] 8 (.tup [xF x,xF y]) hIsFn (aone) (by ((repeat' (first|exact jf|apply q6|exact je rfl|exact jG|(apply qp;apply qI;exact .inr (of_decide_eq_true rfl))|(apply qp;apply qw;exact .inr (of_decide_eq_true rfl))|(apply qp;apply qF;exact .inr (of_decide_eq_true rfl))|apply jw|apply jx)))<;>fail) (by ((repeat' (first|exact qL|exact qK|refine qA _ ?_ ?_|refine qz ?_ ?_|exact qt|exact qe (qi _)|exact qe (qU _)|exact qe (qr _)|exact qx (fun _=>rfl)|refine qB ?_|exact ql|apply qh|exact qk rfl|(apply qw;exact .inr (of_decide_eq_true rfl))|(apply qF;exact .inr (of_decide_eq_true rfl))|(apply qI;exact .inr (of_decide_eq_true rfl))|exact qx (l:=([]:List Cpy)) (f:=Cpy.row) (fun _=>rfl))))<;>fail) (by ((repeat' (first|exact qL|exact qK|refine qA _ ?_ ?_|refine qz ?_ ?_|exact qt|exact qe (qi _)|exact qe (qU _)|exact qe (qr _)|exact qx (fun _=>rfl)|refine qB ?_|exact ql|apply qh|exact qk rfl|(apply qw;exact .inr (of_decide_eq_true rfl))|(apply qF;exact .inr (of_decide_eq_true rfl))|(apply qI;exact .inr (of_decide_eq_true rfl))|exact qx (l:=([]:List Cpy)) (f:=Cpy.row) (fun _=>rfl))))<;>fail) ?_
  repeat' (first|refine qm ?_|(first|(refine xX ?_))|((first|refine qd ?_ ?_|refine qc ?_ ?_|refine xsC ?_ ?_);all_goals (intro hc;have hp:=hc;try simp at hp;try (exfalso;omega)))|refine qO ?_ ?_)
  all_goals try (exfalso;first|omega|contradiction)
  apply jT Tryz.func58 rfl rfl
  intro hIsFn2
  refine xQ [4] [] [(4,.mp (.map (if x.kind = 0 then xG (qq (xH B M T (P.take i))) P[i] else yY (qq (xH B M T (P.take i))) P[i] (xF x))))] 10 (.tup []) hIsFn2 (aput) (by ((repeat' (first|exact jf|apply q6|exact je rfl|exact jG|(apply qp;apply qI;exact .inr (of_decide_eq_true rfl))|(apply qp;apply qw;exact .inr (of_decide_eq_true rfl))|(apply qp;apply qF;exact .inr (of_decide_eq_true rfl))|apply jw|apply jx)))<;>fail) (by ((repeat' (first|exact qL|exact qK|refine qA _ ?_ ?_|refine qz ?_ ?_|exact qt|exact qe (qi _)|exact qe (qU _)|exact qe (qr _)|exact qx (fun _=>rfl)|refine qB ?_|exact ql|apply qh|exact qk rfl|(apply qw;exact .inr (of_decide_eq_true rfl))|(apply qF;exact .inr (of_decide_eq_true rfl))|(apply qI;exact .inr (of_decide_eq_true rfl))|fail)))<;>fail) (by ((repeat' (first|exact qL|exact qK|refine qA _ ?_ ?_|refine qz ?_ ?_|exact qt|exact qe (qi _)|exact qe (qU _)|exact qe (qr _)|exact qx (fun _=>rfl)|refine qB ?_|exact ql|apply qh|exact qk rfl|(apply qw;exact .inr (of_decide_eq_true rfl))|(apply qF;exact .inr (of_decide_eq_true rfl))|(apply qI;exact .inr (of_decide_eq_true rfl))|exact qe hpp)))<;>fail) ?_
  have d2:decide (y.kind = 2) = true ∨ decide (y.kind = 2) = false:=by cases decide (y.kind = 2)<;>simp
  rcases d2 with d2|d2
  ·have hy2:y.kind = 2:=of_decide_eq_true d2
   have hy:y = ⟨2,y.text⟩:=K5 hy2
   have hgp:yY (vG (yx B M T (P.take i))) P[i] (xF y) = vG (yx B M T (P.take (i + 1))):=by
    rw [hgs,if_pos hy2,hy];exact qcu hgn
   repeat' (first|refine qm ?_|(first|(apply yy;apply xj;rfl;rfl;rfl;rfl;rfl;rfl;rfl;rfl))|((first|refine qd ?_ ?_|refine qc ?_ ?_|refine xsC ?_ ?_);all_goals (intro hc;have hp:=hc;try simp at hp;try (exfalso;omega)))|refine qO ?_ ?_)
   all_goals try (exfalso;first|omega|contradiction)
   have hO2p:=qi (xH B M T (P.take (i + 1)))
   have hG2p:=qr (yx B M T (P.take (i + 1)))
   refine ⟨P.length - (i + 1),⟨[(0,.op 0 0 0),(6,.mp 6),(43,.os 7 0 P.length),(44,.v (.int .i64 P.length)),(45,.v (.int .i64 ((i + 1:Nat):Int)))],[(0,.own false 5 [vm 5 0]),(1,.mp (qq B)),(2,.mp (qq M)),(3,.mp (qq T)),(4,.mp (qq (xH B M T (P.take (i + 1))))),(5,.own false 2 []),(6,.mp (vG (yx B M T (P.take (i + 1))))),(7,.own false 1 (P.map jo))],8⟩,by omega,?_,i + 1,by omega,rfl,trivial,rfl⟩;((generalize qq (xH B M T (P.take (i + 1))) = O2 at hpu hO2p ⊢;generalize vG (yx B M T (P.take (i + 1))) = G2 at hgp hG2p ⊢;generalize (if x.kind = 0 then xG (qq (xH B M T (P.take i))) P[i] else yY (qq (xH B M T (P.take i))) P[i] (xF x)) = I1 at hpp hpu ⊢));refine qC [(5,5),(6,6),(7,7)] rfl ?gts ?ghs;(case gts=>(repeat (first|exact qg|refine qn ?_|refine ye ?_|refine xr ?_|refine ze ?_|refine xw ?_ ?_|refine qS ?_ ?_));all_goals (first|rfl|trace_state));(case ghs=>(repeat' (first|exact qj|refine ki ?_|refine xY ?_ ?_ ?_|refine zz ?_));all_goals (first|with_reducible exact qi _|with_reducible exact hO2p|with_reducible exact hG2p|with_reducible exact List.Perm.refl _|with_reducible exact hpp|with_reducible exact hpu|with_reducible exact hpu.symm|exact hpu|exact hpu.symm|exact List.Perm.of_eq hgp|exact (List.Perm.of_eq hgp).symm|rfl|trace_state))
  ·have hy2:¬ y.kind = 2:=of_decide_eq_false d2
   have hgp:vG (yx B M T (P.take i)) = vG (yx B M T (P.take (i + 1))):=by rw [hgs,if_neg hy2,List.append_nil]
   repeat' (first|refine qm ?_|(first|(apply yy;apply xj;rfl;rfl;rfl;rfl;rfl;rfl;rfl;rfl))|((first|refine qd ?_ ?_|refine qc ?_ ?_|refine xsC ?_ ?_);all_goals (intro hc;have hp:=hc;try simp at hp;try (exfalso;omega)))|refine qO ?_ ?_)
   all_goals try (exfalso;first|omega|contradiction)
   have hO2p:=qi (xH B M T (P.take (i + 1)))
   have hG2p:=qr (yx B M T (P.take (i + 1)))
   refine ⟨P.length - (i + 1),⟨[(0,.op 0 0 0),(6,.mp 6),(43,.os 7 0 P.length),(44,.v (.int .i64 P.length)),(45,.v (.int .i64 ((i + 1:Nat):Int)))],[(0,.own false 5 [vm 5 0]),(1,.mp (qq B)),(2,.mp (qq M)),(3,.mp (qq T)),(4,.mp (qq (xH B M T (P.take (i + 1))))),(5,.own false 2 []),(6,.mp (vG (yx B M T (P.take (i + 1))))),(7,.own false 1 (P.map jo))],8⟩,by omega,?_,i + 1,by omega,rfl,trivial,rfl⟩;((generalize qq (xH B M T (P.take (i + 1))) = O2 at hpu hO2p ⊢;generalize vG (yx B M T (P.take (i + 1))) = G2 at hgp hG2p ⊢;generalize (if x.kind = 0 then xG (qq (xH B M T (P.take i))) P[i] else yY (qq (xH B M T (P.take i))) P[i] (xF x)) = I1 at hpp hpu ⊢));refine qC [(5,5),(6,6),(7,7)] rfl ?gts ?ghs;(case gts=>(repeat (first|exact qg|refine qn ?_|refine ye ?_|refine xr ?_|refine ze ?_|refine xw ?_ ?_|refine qS ?_ ?_));all_goals (first|rfl|trace_state));(case ghs=>(repeat' (first|exact qj|refine ki ?_|refine xY ?_ ?_ ?_|refine zz ?_));all_goals (first|with_reducible exact qi _|with_reducible exact hO2p|with_reducible exact hG2p|with_reducible exact List.Perm.refl _|with_reducible exact hpp|with_reducible exact hpu|with_reducible exact hpu.symm|exact hpu|exact hpu.symm|exact List.Perm.of_eq hgp|exact (List.Perm.of_eq hgp).symm|rfl|trace_state))
 obtain rfl:i = P.length:=by omega
 rw [List.take_length]
 have rG:Ql ((yx B M T P).map (·.1)):=qd5 rP
 have lG:=YG B M T P
 have gG : ∀ g,g ∈ yx B M T P → qy g.1 = 0 ∧ g.2.length ≤ 300:=by rw [← hP];exact QE hB hM hT
 have iO:MInv (xH B M T P):=by rw [← hP];exact Vo hB hM hT
 have lO:(xH B M T P).length ≤ 180:=by have:=YX B M T P [];simp at this;show (P.foldl _ []).length ≤ 180;omega
 have hms:vI B M T = match Vg M T (yx B M T P) ⟨xH B M T P,[]⟩ with|none=>none|some s=>kn M T ((s.out.map Ent.path).flatMap jC) s:=by rw [← hP];rfl
 repeat' (first|(refine Awp.red (qC (τ:=⟨[(0,.op 0 0 0),(6,.mp 6)],[(0,.own false 5 [vm 5 0]),(1,.mp (qq B)),(2,.mp (qq M)),(3,.mp (qq T)),(4,.mp (qq (xH B M T P))),(5,.own false 2 []),(6,.mp (vG (yx B M T P)))],7⟩) [(5,5),(6,6)] rfl ?_ ?_) ?_;rotate_left 2;exact qcB B M T (yx B M T P) (xH B M T P) (vI B M T) iO lO rG (Nat.le_trans lG lP) gG hms.symm;(focus ((repeat (first|exact qg|refine qn ?_|refine ye ?_|refine xr ?_|refine ze ?_|refine xw ?_ ?_|refine qS ?_ ?_));all_goals trace_state));(focus ((repeat' (first|exact qj|refine ki ?_|refine xY ?_ ?_ ?_|refine zz ?_));all_goals (first|with_reducible exact qi _|with_reducible exact qr _|with_reducible exact qU _|with_reducible exact List.Perm.refl _|rfl|trace_state))))|refine Zr ?_|((first|refine qd ?_ ?_|refine qc ?_ ?_|refine xsC ?_ ?_);all_goals (intro hc;have hp:=hc;try simp at hp;try (exfalso;omega)))|refine qO ?_ ?_)
end Go.Proofs.YtnhpclmbhbblbaaGreatDoor
