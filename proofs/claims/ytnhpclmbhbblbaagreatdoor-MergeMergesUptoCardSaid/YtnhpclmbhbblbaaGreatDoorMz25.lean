import Derived.Test.YtnhpclmbhbblbaaGreatDoorMz24
set_option linter.unusedSimpArgs false
set_option linter.unnecessarySimpa false
set_option linter.unusedVariables false
namespace Go.Ab
theorem Yk {G G' : Prop} (k:G') (h:Hold G' → G:=by intro key;(first|(apply qd;first|(apply JG;(conv=>lhs;whnf);exact nle rfl)|(apply wn;(conv=>lhs;whnf);exact nle rfl)|(apply vC;rfl;(conv=>lhs;whnf);exact nle rfl)|(apply ve;rfl;(conv=>lhs;whnf);exact nle rfl)|(apply Jr;rfl;rfl;rfl;exact nle rfl)|(apply vc;rfl;rfl;rfl;rfl;exact nofun;exact nle rfl)|(apply vl;rfl;rfl;rfl;rfl;exact nofun;exact nle rfl)|(apply vj;rfl;rfl;rfl;(first|rfl|assumption|(apply qS;assumption)|(apply qS;apply qS;assumption));rfl;rfl;exact nle rfl)|(apply vD;rfl;rfl;(first|rfl|assumption|(apply qS;assumption)|(apply qS;apply qS;assumption));rfl;rfl;exact nle rfl)|(apply vz;rfl;rfl;rfl;rfl;rfl;rfl;exact nle rfl)|(apply vR;rfl;rfl;rfl;(first|rfl|assumption|(apply qS;assumption)|(apply qS;apply qS;assumption));(conv=>lhs;whnf);exact nle rfl)|(apply zm;rfl;rfl;(first|rfl|assumption|(apply qS;assumption)|(apply qS;apply qS;assumption));(conv=>lhs;whnf);exact nle rfl)|(apply JJ;rfl;rfl;rfl;exact nle rfl)|(apply wg;rfl;rfl;rfl;exact nle rfl)|(apply kr;rfl;rfl;rfl;exact nle rfl)|(apply z2;rfl;rfl;rfl;exact nle rfl)|(apply xR;rfl;rfl;rfl;rfl;rfl;(first|rfl|assumption|(apply qS;assumption)|(apply qS;apply qS;assumption));rfl;exact nle rfl)|(apply y6;rfl;rfl;rfl;rfl;(first|rfl|assumption|(apply qS;assumption)|(apply qS;apply qS;assumption));exact nle rfl)|(apply JC;rfl;rfl;omega;exact nle rfl)|(apply Jt;rfl;rfl;omega;exact nle rfl)|(apply J6;rfl;rfl;omega;omega;exact nle rfl)|(apply Yh;rfl;rfl;omega;omega;exact nle rfl)|(apply XW;rfl;exact nle rfl)|(apply z8;rfl;(conv=>lhs;whnf);exact nle rfl)|(apply wZ;rfl;rfl;rfl;rfl;(conv=>lhs;whnf);exact nle rfl)|(apply zw (b':=true);rfl;assumption;(conv=>lhs;whnf);exact nle rfl)|(apply zw (b':=false);rfl;assumption;(conv=>lhs;whnf);exact nle rfl)|(apply JA;exact nle rfl)|(apply vF;rfl;exact nle rfl)|(apply vw;rfl;exact nle rfl)|(apply w8;rfl;rfl;rfl;(conv=>lhs;whnf);exact nle rfl)|(apply zi;rfl;rfl;rfl;rfl;(conv=>lhs;whnf);exact nle rfl)|(apply xQ;rfl;rfl;(first|omega|(simp<;>fail)|(simp only [List.length_cons,List.length_nil,List.length_map];omega)|(simp;omega));exact nle rfl))|(apply y2;first|(apply Qo;rfl;exact nle rfl)|(apply XK;rfl;exact nle rfl))|(apply jS;apply Qp;rfl;rfl;rfl;(first|rfl|assumption|(apply qS;assumption)|(apply qS;apply qS;assumption));rfl;rfl;exact nle rfl)|apply Qr|(apply JE;exact nle rfl;refine ⟨?_,?_⟩;first|exact fun h=>absurd h Bool.false_ne_true|(intro _;kernel_rfl))|(apply w9;rfl;rfl;exact nle rfl)|(apply w7;rfl;rfl;exact nle rfl)|(apply wa;rfl;rfl;exact nle rfl)|(apply wj;rfl;rfl;exact nle rfl)|(apply v8;rfl;rfl;exact nle rfl)|(apply JD;rfl;rfl;assumption;exact nle rfl)|(apply w3;rfl;rfl;assumption;exact nle rfl)|(apply Ql;rfl;rfl;assumption;exact nle rfl)|apply JI|apply kc|(apply kb;rfl)|(apply ke;rfl)|(apply wR;rfl;assumption)|(apply wI;rfl;assumption)|apply QJ|apply Yj|apply JR|apply XS);exact key.out):G:=h ⟨k⟩
end Go.Ab
namespace Go.Proofs.YtnhpclmbhbblbaaGreatDoor
open Go.Ab Go.RowKit
set_option maxRecDepth 10000
theorem Wa {l:List (qJ × qJ)} {p x:qJ} (h:p ∉ l.map (·.1)):j7 (xF l) p (yA ⟨2,x⟩) = xF (l ++ [(p,x)]):=by
 rw [J4 (by rw [wQ];exact h)]
 unfold xF
 rw [List.map_append]
 rfl
theorem K0 {l:List (qJ × qJ)} (h:(l.map (·.1)).Nodup) {g:qJ × qJ} (hg:g ∈ l):(xy (xF l) g.1).getD (yA noT) = yA ⟨2,g.2⟩:=by
 have:xy (xF l) g.1 = some (yA ⟨2,g.2⟩):=(kj (by rw [wQ];exact h)).2 (List.mem_map.2 ⟨g,hg,rfl⟩)
 rw [this]
 rfl
theorem Qw (b m t:List Ent) : ∀ P:List qJ,((jO b m t P).map (·.1)).Sublist P
 | [] => .slnil
 | p :: P=>by
   unfold jO
   rw [List.filterMap_cons]
   split
   ·exact (Qw b m t P).cons p
   ·rename_i y hy
    split at hy
    ·injection hy with hy;subst hy
     exact (Qw b m t P).cons_cons p
    ·cases hy
theorem WX {b m t:List Ent} {P:List qJ} (h:zL P):zL ((jO b m t P).map (·.1)):=List.Pairwise.sublist (Qw b m t P) h
theorem Qe (b m t:List Ent) (P:List qJ):(jO b m t P).length ≤ P.length:=by
 have:=(Qw b m t P).length_le
 rwa [List.length_map] at this
theorem X8 {m t:List Ent} {G:List (qJ × qJ)} {i:Nat} (h:i < G.length) (s:MS):Jy m t (G.drop i) s = match xZ m t s G[i].1 G[i].2 with|none=>none|some s'=>Jy m t (G.drop (i + 1)) s':=by
 rw [List.drop_eq_getElem_cons h];rfl
theorem zC {m t:List Ent} {s:MS} {p x:qJ} (h:yS m t s.out p 99 1 = none):xZ m t s p x = none:=by
 unfold xZ;rw [h]
theorem zB {m t:List Ent} {s:MS} {p x q:qJ} (h:yS m t s.out p 99 1 = some q):xZ m t s p x = some ⟨jX s.out ⟨q,false,x,1⟩,s.cps ++ [⟨p,q⟩]⟩:=by
 unfold xZ;rw [h]
theorem Ve {b m t:List Ent} (hb:Right b) (hm:Right m) (ht:Right t) (P:List qJ):qY jn (yC b m t P) = true:=(k9 b m t (P:=P) (o:=[]) rfl).1
theorem WK (b m t:List Ent) (p:qJ):v7 (yW b m t p).1 ∧ v7 (yW b m t p).2:=X9 (vN m p) (vN t p)
theorem Q9 {s:List UInt8} {x:AV} : ∀ {l:List (List UInt8 × AV)},xy l s = some x → j7 l s x = l
 | [],h=>by simp [xy] at h
 | e :: l,h=>by
   rw [kJ]
   by_cases he:e.1 = s
   ·rw [if_pos he]
    unfold xy at h
    rw [List.find?_cons,show (e.1 == s) = true from by simpa using he] at h
    simp at h
    subst he
    rw [← h]
   ·rw [if_neg he,Q9]
    unfold xy at h ⊢
    rw [List.find?_cons,show (e.1 == s) = false from by simpa using he] at h
    exact h
theorem Kj {o:List Ent} {q:qJ} (h:(stT o q).kind = 1):j7 (qm o) q (yA ⟨1,[]⟩) = qm o:=by
 apply Q9
 rw [YT]
 obtain ⟨x,hx,hf⟩:=W4.1 h
 rw [hx]
 show some (yA (yL x)) = _
 unfold yL
 rw [if_pos hf]
theorem Vz {m t:List Ent} {s:MS} {q:qJ} (h:(stT s.out q).kind = 1):Qs m t s q = some s:=by unfold Qs;rw [if_pos h]
theorem Xc {m t:List Ent} {s:MS} {q:qJ} (h1:¬ (stT s.out q).kind = 1) (h2:¬ (stT s.out q).kind = 2):Qs m t s q = some ⟨jX s.out ⟨q,true,[],1⟩,s.cps⟩:=by unfold Qs;rw [if_neg h1,if_neg h2]
theorem Vn {m t:List Ent} {s:MS} {q:qJ} (h:(stT s.out q).kind = 2):Qs m t s q = xZ m t ⟨jX s.out ⟨q,true,[],1⟩,s.cps⟩ q (stT s.out q).text:=by unfold Qs;rw [if_neg (by rw [h];decide),if_pos h]
theorem JU {m t:List Ent} {q:qJ} {l:List qJ} {s:MS}:vI m t (q :: l) s = match Qs m t s q with|none=>none|some s'=>vI m t l s':=rfl
theorem Qv (b m t:List Ent) : ∀ (P:List qJ) (o:List Ent),(P.foldl (fun o p=>zo o p (yW b m t p).1) o).length ≤ o.length + P.length
 | [],o=>Nat.le_refl _
 | p :: P,o=>by
   have h1:=Qv b m t P (zo o p (yW b m t p).1)
   have h2:(zo o p (yW b m t p).1).length ≤ o.length + 1:=by
    unfold zo
    split
    ·omega
    ·exact kX _ _
   simp only [List.foldl_cons,List.length_cons]
   omega
theorem Xj {m t:List Ent} : ∀ {l:List (qJ × qJ)} {s s' : MS},Jy m t l s = some s' → s'.out.length ≤ s.out.length + l.length
 | [],s,s',h=>by injection h with h;subst h;exact Nat.le_refl _
 | g :: l,s,s',h=>by
   unfold Jy at h
   split at h
   ·cases h
   ·rename_i s1 h1
    have h2:=Xj h
    unfold xZ at h1
    split at h1
    ·cases h1
    ·rename_i q _
     injection h1 with h1;subst h1
     have h3:=kX s.out ⟨q,false,g.2,1⟩
     simp only [List.length_cons] at h2 ⊢
     omega
theorem J0 {p:qJ} (hp:qE p = 0):(je p).length ≤ 80:=by
 rw [jP]
 have:=x9 p
 have:=jD hp
 omega
noncomputable def tl:Nat → Code → Code
 | 0,c=>c
 | n + 1,.seq _ b=>tl n b
 | _,c=>c
noncomputable def QX:Code:=match Tryz.f24.body with|some c=>c|none => .skip
def H8 (B M T:List Ent) (s:MS):List HB:=[.own false 5 [xg 5 s.cps.length],.mp (qm B),.mp (qm M),.mp (qm T),.mp (qm s.out),.own false 2 (s.cps.map Cpy.row)]
def H8o (B M T:List Ent):Option MS → List HB
 | none => [.dead,.dead,.dead,.dead,.dead]
 | some s=>H8 B M T s
theorem Ye {L:List (Nat × Nat)} {nh:Nat} {l l' : List (List UInt8 × AV)} (hp:l.Perm l') (h : ∀ e,e ∈ l' → e.2.pure = true):vS L nh (.mp (.map l)) (.mp (.map l')):=by
 obtain ⟨m,h1,h2,h3⟩:=qa (L:=L) (nh:=nh) h
 exact ⟨m,by first|exact hp.trans h1|exact h1.trans hp|exact h1.trans hp.symm|exact hp.symm.trans h1,h2,h3⟩
theorem vx {L:List (Nat × Nat)} {σ:St} {n n' c c' k:Nat} {ex ex' : Bool} {l:List (Nat × HB)} (hl:xr L 5 σ l) (hm:Maps L 5 n n':=by (first|exact qH rfl|exact .inr (List.mem_cons_self ..)|exact .inr (List.mem_cons_of_mem _ (List.mem_cons_self ..))|exact .inr (List.mem_cons_of_mem _ (List.mem_cons_of_mem _ (List.mem_cons_self ..)))|exact .inr (List.mem_cons_of_mem _ (List.mem_cons_of_mem _ (List.mem_cons_of_mem _ (List.mem_cons_self ..)))))) (hc:Maps L 5 c c':=by (first|exact qH rfl|exact .inr (List.mem_cons_self ..)|exact .inr (List.mem_cons_of_mem _ (List.mem_cons_self ..))|exact .inr (List.mem_cons_of_mem _ (List.mem_cons_of_mem _ (List.mem_cons_self ..)))|exact .inr (List.mem_cons_of_mem _ (List.mem_cons_of_mem _ (List.mem_cons_of_mem _ (List.mem_cons_self ..)))))) (hx:ja σ.hs n = .own ex 5 [xg c k]:=by rfl) (he:ex' = true → ex = true:=by first|exact id|exact nofun):xr L 5 σ ((n',.own ex' 5 [xg c' k]) :: l) :=
 zK hm hx he (xn (qb (qr (qH rfl)) (qb (qr (qH rfl)) (qb (qr (qH rfl)) (qb (qr (qH rfl)) (qb (qy hc) qg))))) vv) hl
end Go.Proofs.YtnhpclmbhbblbaaGreatDoor
set_option linter.unusedSimpArgs false
set_option linter.unnecessarySimpa false
set_option linter.unusedVariables false
set_option maxHeartbeats 1000000
namespace Go.Proofs.YtnhpclmbhbblbaaGreatDoor
open Go.Ab Go.RowKit
set_option maxRecDepth 10000
attribute [local irreducible] Awp j4 jw js Red qU Go.Ab.Fin q6 Rz x6 jp jo ResOk jJ ju yb jx
set_option maxHeartbeats 16000000 in
theorem Wh (B M T:List Ent) (s:MS) (iS:MInv s.out) (lS:s.out.length ≤ 360) (hcl0:s.cps.length ≤ 180) (R:Option MS) (hms2:vI M T ((s.out.map Ent.path).flatMap je) s = R) :
  Awp C5 125 (tl 6 QX) (VX C5 #[ResultVar.tmp 2] 5 (.v (.bool R.isSome)) (H8o B M T R)) ⟨[(0,.op 0 0 0)],[(0,.own false 5 [xg 5 s.cps.length]),(1,.mp (qm B)),(2,.mp (qm M)),(3,.mp (qm T)),(4,.mp (qm s.out)),(5,.own false 2 (s.cps.map Cpy.row))],6⟩:=by
 conv=>arg 3;whnf
 have pS : ∀ x,x ∈ s.out.map Ent.path → qE x = 0:=fun x hx=>by
  obtain ⟨e,he,rfl⟩:=List.mem_map.1 hx
  exact (yR (iS.ent e he)).1
 have ap3:=Js (qm s.out) (s.out.map Ent.path) (YO iS.rise) (by rw [x7]) (by rw [List.length_map];omega) (fun x hx=>Nat.le_trans (jD (pS x hx)) (by decide))
 have lS2:(s.out.map Ent.path).length ≤ 360:=by rw [List.length_map];exact lS
 generalize s.out.map Ent.path = K3 at *
 repeat' (first|refine qA ?_|(first|fail)|((first|refine qk ?_ ?_|refine ql ?_ ?_|refine jg ?_ ?_);all_goals (intro hc;have hp:=hc;try simp at hp;try (exfalso;omega)))|refine jh ?_ ?_)
 all_goals try (exfalso;omega)
 apply xe Tryz.func25 rfl rfl
 intro hIsFn
 refine yN [4] [6] [(4,.mp (qm s.out)),(6,.own false 1 (K3.map q2))] 7 (.os 6 0 K3.length) hIsFn (ap3) (by ((repeat' (first|exact q1|apply qP|exact qZ rfl|exact jt|(apply qj;apply qB;exact .inr (of_decide_eq_true rfl))|(apply qj;apply qr;exact .inr (of_decide_eq_true rfl))|(apply qj;apply qy;exact .inr (of_decide_eq_true rfl))|apply jc|apply jb)))<;>fail) (by ((repeat' (first|exact qC|exact qD|refine qu _ ?_ ?_|refine qv ?_ ?_|exact qp|exact qa (qc _)|exact qa (qG _)|exact qa (qo _)|exact qt (fun _=>rfl)|refine qw ?_|exact qg|apply qb|exact qf rfl|(apply qr;exact .inr (of_decide_eq_true rfl))|(apply qy;exact .inr (of_decide_eq_true rfl))|(apply qB;exact .inr (of_decide_eq_true rfl))|fail)))<;>fail) (by ((repeat' (first|exact qC|exact qD|refine qu _ ?_ ?_|refine qv ?_ ?_|exact qp|exact qa (qc _)|exact qa (qG _)|exact qa (qo _)|exact qt (fun _=>rfl)|refine qw ?_|exact qg|apply qb|exact qf rfl|(apply qr;exact .inr (of_decide_eq_true rfl))|(apply qy;exact .inr (of_decide_eq_true rfl))|(apply qB;exact .inr (of_decide_eq_true rfl))|fail)))<;>fail) ?_
 repeat' (first|refine qA ?_|(first|fail)|((first|refine qk ?_ ?_|refine ql ?_ ?_|refine jg ?_ ?_);all_goals (intro hc;have hp:=hc;try simp at hp;try (exfalso;omega)))|refine jh ?_ ?_)
 all_goals try (exfalso;omega)
 clear ap3
 (refine Awp.red (qL (τ:=⟨[(0,.op 0 0 0),(88,.os 6 0 K3.length),(89,.v (.int .i64 K3.length)),(90,.v (.int .i64 ((0:Nat):Int)))],[(0,.own false 5 [xg 5 s.cps.length]),(1,.mp (qm B)),(2,.mp (qm M)),(3,.mp (qm T)),(4,.mp (qm s.out)),(5,.own false 2 (s.cps.map Cpy.row)),(6,.own false 1 (K3.map q2))],7⟩) [(5,5),(6,6)] rfl ?gts2 ?ghs2) ?_;(case gts2=>(repeat (first|exact qi|refine qz ?_|refine xb ?_|refine yF ?_|refine xY ?_|refine yG ?_ ?_|refine ji ?_ ?_));all_goals (first|rfl|(rw [List.length_map];done)|trace_state));(case ghs2=>(repeat' (first|exact qq|refine vx ?_|refine yU ?_ ?_ ?_|refine vd ?_));all_goals (first|with_reducible exact qc _|with_reducible exact List.Perm.refl _|rfl|trace_state)))
 have hri0:=iS.rise
 refine jf (fun n σ => ∃ (i:Nat) (s:MS),i ≤ K3.length ∧ n = K3.length - i ∧ (vI M T ((K3.drop i).flatMap je) s = R ∧ qY jn s.out = true ∧ s.cps.length ≤ 180 + 80 * i) ∧ σ = ⟨[(0,.op 0 0 0),(88,.os 6 0 K3.length),(89,.v (.int .i64 K3.length)),(90,.v (.int .i64 (i:Int)))],[(0,.own false 5 [xg 5 s.cps.length]),(1,.mp (qm B)),(2,.mp (qm M)),(3,.mp (qm T)),(4,.mp (qm s.out)),(5,.own false 2 (s.cps.map Cpy.row)),(6,.own false 1 (K3.map q2))],7⟩) K3.length ⟨0,s,by omega,rfl,⟨hms2,hri0,by omega⟩,rfl⟩ ?_
 clear hri0 hcl0 hms2 iS lS s
 rintro n σ ⟨i,s,hi,rfl,⟨hpa,hri,hcl⟩,rfl⟩
 by_cases hlt:i < K3.length
 ·have hrow:(K3.map q2)[i]? = some (q2 K3[i]):=by rw [List.getElem?_map,List.getElem?_eq_getElem hlt];rfl
  have hpe:=pS K3[i] (List.getElem_mem hlt)
  have apr:=Wg K3[i] hpe
  have lQ:=J0 hpe
  have rQ : ∀ a,a ∈ je K3[i] → qE a = 0:=fun a ha=>ka hpe ha
  rw [List.drop_eq_getElem_cons hlt,List.flatMap_cons] at hpa
  generalize je K3[i] = Q at *
  repeat' (first|refine qA ?_|(first|(refine x8 ?_))|((first|refine qk ?_ ?_|refine ql ?_ ?_|refine jg ?_ ?_);all_goals (intro hc;have hp:=hc;try simp at hp;try (exfalso;omega)))|refine jh ?_ ?_)
  all_goals try (exfalso;first|omega|contradiction)
  apply xe Tryz.func60 rfl rfl
  intro hIsFn2
  refine yN [] [7] [(7,.own false 1 (Q.map q2))] 8 (.os 7 0 Q.length) hIsFn2 (apr) (by ((repeat' (first|exact q1|apply qP|exact qZ rfl|exact jt|(apply qj;apply qB;exact .inr (of_decide_eq_true rfl))|(apply qj;apply qr;exact .inr (of_decide_eq_true rfl))|(apply qj;apply qy;exact .inr (of_decide_eq_true rfl))|apply jc|apply jb)))<;>fail) (by ((repeat' (first|exact qC|exact qD|refine qu _ ?_ ?_|refine qv ?_ ?_|exact qp|exact qa (qc _)|exact qa (qG _)|exact qa (qo _)|exact qt (fun _=>rfl)|refine qw ?_|exact qg|apply qb|exact qf rfl|(apply qr;exact .inr (of_decide_eq_true rfl))|(apply qy;exact .inr (of_decide_eq_true rfl))|(apply qB;exact .inr (of_decide_eq_true rfl))|fail)))<;>fail) (by ((repeat' (first|exact qC|exact qD|refine qu _ ?_ ?_|refine qv ?_ ?_|exact qp|exact qa (qc _)|exact qa (qG _)|exact qa (qo _)|exact qt (fun _=>rfl)|refine qw ?_|exact qg|apply qb|exact qf rfl|(apply qr;exact .inr (of_decide_eq_true rfl))|(apply qy;exact .inr (of_decide_eq_true rfl))|(apply qB;exact .inr (of_decide_eq_true rfl))|fail)))<;>fail) ?_
  repeat' (first|refine qA ?_|(first|fail)|((first|refine qk ?_ ?_|refine ql ?_ ?_|refine jg ?_ ?_);all_goals (intro hc;have hp:=hc;try simp at hp;try (exfalso;omega)))|refine jh ?_ ?_)
  all_goals try (exfalso;first|omega|contradiction)
  clear apr hpe
  generalize hRest:(K3.drop (i + 1)).flatMap je = rest at *
  (refine Awp.red (qL (τ:=⟨[(0,.op 0 0 0),(88,.os 6 0 K3.length),(89,.v (.int .i64 K3.length)),(90,.v (.int .i64 (i:Int))),(95,.os 7 0 Q.length),(96,.v (.int .i64 Q.length)),(97,.v (.int .i64 ((0:Nat):Int)))],[(0,.own false 5 [xg 5 s.cps.length]),(1,.mp (qm B)),(2,.mp (qm M)),(3,.mp (qm T)),(4,.mp (qm s.out)),(5,.own false 2 (s.cps.map Cpy.row)),(6,.own false 1 (K3.map q2)),(7,.own false 1 (Q.map q2))],8⟩) [(5,5),(6,6),(7,7)] rfl ?gts2 ?ghs2) ?_;(case gts2=>(repeat (first|exact qi|refine qz ?_|refine xb ?_|refine yF ?_|refine xY ?_|refine yG ?_ ?_|refine ji ?_ ?_));all_goals (first|rfl|(rw [List.length_map];done)|trace_state));(case ghs2=>(repeat' (first|exact qq|refine vx ?_|refine yU ?_ ?_ ?_|refine vd ?_));all_goals (first|with_reducible exact qc _|with_reducible exact List.Perm.refl _|rfl|trace_state)))
  refine jf (fun n σ => ∃ (j:Nat) (s:MS),j ≤ Q.length ∧ n = Q.length - j ∧ (vI M T (Q.drop j ++ rest) s = R ∧ qY jn s.out = true ∧ s.cps.length ≤ 180 + 80 * i + j) ∧ σ = ⟨[(0,.op 0 0 0),(88,.os 6 0 K3.length),(89,.v (.int .i64 K3.length)),(90,.v (.int .i64 (i:Int))),(95,.os 7 0 Q.length),(96,.v (.int .i64 Q.length)),(97,.v (.int .i64 (j:Int)))],[(0,.own false 5 [xg 5 s.cps.length]),(1,.mp (qm B)),(2,.mp (qm M)),(3,.mp (qm T)),(4,.mp (qm s.out)),(5,.own false 2 (s.cps.map Cpy.row)),(6,.own false 1 (K3.map q2)),(7,.own false 1 (Q.map q2))],8⟩) Q.length ⟨0,s,by omega,rfl,⟨hpa,hri,by omega⟩,rfl⟩ ?_
  clear hpa hri hcl s
  rintro n σ ⟨j,s,hj,rfl,⟨hpa,hri,hcl⟩,rfl⟩
  by_cases hjl:j < Q.length
  ·have hrow2:(Q.map q2)[j]? = some (q2 Q[j]):=by rw [List.getElem?_map,List.getElem?_eq_getElem hjl];rfl
   have hqe:=rQ Q[j] (List.getElem_mem hjl)
   rw [List.drop_eq_getElem_cons hjl,List.cons_append,JU] at hpa
   generalize Q[j] = q at *
   have hget:=xG s.out q
   have hpt:=J2 (e:=⟨q,true,[],1⟩) hri
   have hro2:qY jn (jX s.out (⟨q,true,[],1⟩ : Ent)) = true:=j6 hri
   have ano:=Yv B M T (jX s.out (⟨q,true,[],1⟩ : Ent)) s.cps q (stT s.out q).text hqe
   have ayes:=fun q'=>Q6 B M T (jX s.out (⟨q,true,[],1⟩ : Ent)) s.cps q (stT s.out q).text q' hqe
   have hgood:=vN s.out q
   have p1 := @Vz M T s q
   have p0 := @Xc M T s q
   have p2 := @Vn M T s q
   have pf := @Kj s.out q
   generalize hv:stT s.out q = v at *
   obtain ⟨vk,vt⟩:=v
   dsimp only at p1 p0 p2 ano ayes pf
   by_cases hk2:vk = 2
   ·subst hk2
    have d2:decide ((2:Int) = 2) = true:=rfl
    rw [p2 rfl] at hpa
    repeat' (first|refine qA ?_|(first|(refine x8 ?_)|(apply qd;apply jq;(case hm=>rfl);(case hn=>rfl);(case hk=>rfl);(case hT=>rfl);(case he=>rfl);(case hK=>rfl);(case hks=>rfl);(case hz=>exact qR);(case hzv=>exact jr);(case hx=>exact hget);(case hN=>exact nle rfl))|(apply jS;apply yr;rfl;rfl;rfl;rfl;rfl;rfl;rfl;rfl))|((first|refine qk ?_ ?_|refine ql ?_ ?_|refine jg ?_ ?_);all_goals (intro hc;have hp:=hc;try simp at hp;try (exfalso;omega)))|refine jh ?_ ?_)
    all_goals try (exfalso;first|omega|contradiction)
    apply xe Tryz.func59 rfl rfl
    intro hIsFn3
    cases hasd:yS M T (jX s.out (⟨q,true,[],1⟩ : Ent)) q 99 1 with
    | none =>
      rw [zC hasd] at hpa
      have hR:R = none:=hpa.symm
      rw [hR]
      refine yN [0,1,2,3,4,5] [] [(0,.own false 5 [xg 5 s.cps.length]),(1,.mp (qm B)),(2,.mp (qm M)),(3,.mp (qm T)),(4,.mp (qm (jX s.out (⟨q,true,[],1⟩ : Ent)))),(5,.own false 2 (s.cps.map Cpy.row))] 9 (.v (.bool false)) hIsFn3 (ano hasd (by omega)) (by ((repeat' (first|exact q1|apply qP|exact qZ rfl|exact jt|(apply qj;apply qB;exact .inr (of_decide_eq_true rfl))|(apply qj;apply qr;exact .inr (of_decide_eq_true rfl))|(apply qj;apply qy;exact .inr (of_decide_eq_true rfl))|apply jc|apply jb)))<;>fail) (by ((repeat' (first|exact qC|exact qD|refine qu _ ?_ ?_|refine qv ?_ ?_|exact qp|exact qa (qc _)|exact qa (qG _)|exact qa (qo _)|exact qt (fun _=>rfl)|refine qw ?_|exact qg|apply qb|exact qf rfl|(apply qr;exact .inr (of_decide_eq_true rfl))|(apply qy;exact .inr (of_decide_eq_true rfl))|(apply qB;exact .inr (of_decide_eq_true rfl))|exact Ye hpt (qc _))))<;>fail) (by ((repeat' (first|exact qC|exact qD|refine qu _ ?_ ?_|refine qv ?_ ?_|exact qp|exact qa (qc _)|exact qa (qG _)|exact qa (qo _)|exact qt (fun _=>rfl)|refine qw ?_|exact qg|apply qb|exact qf rfl|(apply qr;exact .inr (of_decide_eq_true rfl))|(apply qy;exact .inr (of_decide_eq_true rfl))|(apply qB;exact .inr (of_decide_eq_true rfl))|fail)))<;>fail) ?_
      repeat' (first|refine qA ?_|(first|fail)|((first|refine qk ?_ ?_|refine ql ?_ ?_|refine jg ?_ ?_);all_goals (intro hc;have hp:=hc;try simp at hp;try (exfalso;omega)))|refine jh ?_ ?_)
      all_goals try (exfalso;first|omega|contradiction)
      all_goals ((apply jA (rs:=[.tmp 2]) [] 5;(case hr=>(repeat (first|exact jm|(apply jl;rfl)|(apply q9;rfl;rfl;rfl;rfl;rfl))));(case hL=>rfl);(case hh=>(repeat' (first|exact qq|refine q4 ?_|refine vd ?_|refine yU ?_ ?_ ?_|refine y8 ?_ ?_|refine jW ?_ ?_|refine j9 ?_ ?_ ?_ ?_|refine jC ?_ ?_|exact qg|apply qb|exact qf rfl|(apply qr;(first|exact qH rfl|exact .inr (List.mem_cons_self ..)|exact .inr (List.mem_cons_of_mem _ (List.mem_cons_self ..))|exact .inr (List.mem_cons_of_mem _ (List.mem_cons_of_mem _ (List.mem_cons_self ..)))|exact .inr (List.mem_cons_of_mem _ (List.mem_cons_of_mem _ (List.mem_cons_of_mem _ (List.mem_cons_self ..))))))|refine q3 ?_|refine yc ?_ rfl|with_reducible exact List.Perm.refl _));all_goals (first|rfl|trace_state));(case hi=>exact rfl);(case hz=>first|rfl|(simp [j1,AV.ren,AV.ren.renL,jz,qN,jy];done)|(simp [j1,AV.ren,AV.ren.renL,jz,qN,jy, *];done)|trace_state)))
    | some q' =>
      rw [zB hasd] at hpa
      have hro3:qY jn (jX (jX s.out (⟨q,true,[],1⟩ : Ent)) (⟨q',false,vt,1⟩ : Ent)) = true:=j6 hro2
      refine yN [0,1,2,3,4,5] [9] [(0,.own false 5 [xg 9 (s.cps ++ [(⟨q,q'⟩ : Cpy)]).length]),(1,.mp (qm B)),(2,.mp (qm M)),(3,.mp (qm T)),(4,.mp (qm (jX (jX s.out (⟨q,true,[],1⟩ : Ent)) (⟨q',false,vt,1⟩ : Ent)))),(5,.dead),(9,.own false 2 ((s.cps ++ [(⟨q,q'⟩ : Cpy)]).map Cpy.row))] 10 (.v (.bool true)) hIsFn3 (ayes q' hasd hro2 (by omega)) (by ((repeat' (first|exact q1|apply qP|exact qZ rfl|exact jt|(apply qj;apply qB;exact .inr (of_decide_eq_true rfl))|(apply qj;apply qr;exact .inr (of_decide_eq_true rfl))|(apply qj;apply qy;exact .inr (of_decide_eq_true rfl))|apply jc|apply jb)))<;>fail) (by ((repeat' (first|exact qC|exact qD|refine qu _ ?_ ?_|refine qv ?_ ?_|exact qp|exact qa (qc _)|exact qa (qG _)|exact qa (qo _)|exact qt (fun _=>rfl)|refine qw ?_|exact qg|apply qb|exact qf rfl|(apply qr;exact .inr (of_decide_eq_true rfl))|(apply qy;exact .inr (of_decide_eq_true rfl))|(apply qB;exact .inr (of_decide_eq_true rfl))|exact Ye hpt (qc _))))<;>fail) (by ((repeat' (first|exact qC|exact qD|refine qu _ ?_ ?_|refine qv ?_ ?_|exact qp|exact qa (qc _)|exact qa (qG _)|exact qa (qo _)|exact qt (fun _=>rfl)|refine qw ?_|exact qg|apply qb|exact qf rfl|(apply qr;exact .inr (of_decide_eq_true rfl))|(apply qy;exact .inr (of_decide_eq_true rfl))|(apply qB;exact .inr (of_decide_eq_true rfl))|fail)))<;>fail) ?_
      repeat' (first|refine qA ?_|(first|fail)|((first|refine qk ?_ ?_|refine ql ?_ ?_|refine jg ?_ ?_);all_goals (intro hc;have hp:=hc;try simp at hp;try (exfalso;omega)))|refine jh ?_ ?_)
      all_goals try (exfalso;first|omega|contradiction)
      refine ⟨Q.length - (j + 1),⟨[(0,.op 0 0 0),(88,.os 6 0 K3.length),(89,.v (.int .i64 K3.length)),(90,.v (.int .i64 (i:Int))),(95,.os 7 0 Q.length),(96,.v (.int .i64 Q.length)),(97,.v (.int .i64 ((j + 1:Nat):Int)))],[(0,.own false 5 [xg 5 (s.cps ++ [(⟨q,q'⟩ : Cpy)]).length]),(1,.mp (qm B)),(2,.mp (qm M)),(3,.mp (qm T)),(4,.mp (qm (jX (jX s.out (⟨q,true,[],1⟩ : Ent)) (⟨q',false,vt,1⟩ : Ent)))),(5,.own false 2 ((s.cps ++ [(⟨q,q'⟩ : Cpy)]).map Cpy.row)),(6,.own false 1 (K3.map q2)),(7,.own false 1 (Q.map q2))],8⟩,by omega,?_,j + 1,⟨(jX (jX s.out (⟨q,true,[],1⟩ : Ent)) (⟨q',false,vt,1⟩ : Ent)),(s.cps ++ [(⟨q,q'⟩ : Cpy)])⟩,by omega,rfl,⟨hpa,hro3,by simp;omega⟩,rfl⟩;(skip);refine qL [(9,5),(6,6),(7,7)] rfl ?gts ?ghs;(case gts=>(repeat (first|exact qi|refine qz ?_|refine xb ?_|refine yF ?_|refine xY ?_|refine yG ?_ ?_|refine ji ?_ ?_));all_goals (first|rfl|trace_state));(case ghs=>(repeat' (first|exact qq|refine vx ?_|refine yU ?_ ?_ ?_|refine vd ?_));all_goals (first|with_reducible exact qc _|with_reducible exact List.Perm.refl _|fail|rfl|trace_state))
   ·have d2:decide (vk = 2) = false:=decide_eq_false hk2
    repeat' (first|refine qA ?_|(first|(refine x8 ?_)|(apply qd;apply jq;(case hm=>rfl);(case hn=>rfl);(case hk=>rfl);(case hT=>rfl);(case he=>rfl);(case hK=>rfl);(case hks=>rfl);(case hz=>exact qR);(case hzv=>exact jr);(case hx=>exact hget);(case hN=>exact nle rfl))|(apply jS;apply yr;rfl;rfl;rfl;rfl;rfl;rfl;rfl;rfl))|((first|refine qk ?_ ?_|refine ql ?_ ?_|refine jg ?_ ?_);all_goals (intro hc;have hp:=hc;try simp at hp;try (exfalso;omega)))|refine jh ?_ ?_)
    all_goals try (exfalso;first|omega|contradiction)
    by_cases hk1:vk = 1
    ·rw [p1 hk1] at hpa
     have hpf:=List.Perm.of_eq (pf hk1)
     refine ⟨Q.length - (j + 1),⟨[(0,.op 0 0 0),(88,.os 6 0 K3.length),(89,.v (.int .i64 K3.length)),(90,.v (.int .i64 (i:Int))),(95,.os 7 0 Q.length),(96,.v (.int .i64 Q.length)),(97,.v (.int .i64 ((j + 1:Nat):Int)))],[(0,.own false 5 [xg 5 s.cps.length]),(1,.mp (qm B)),(2,.mp (qm M)),(3,.mp (qm T)),(4,.mp (qm s.out)),(5,.own false 2 (s.cps.map Cpy.row)),(6,.own false 1 (K3.map q2)),(7,.own false 1 (Q.map q2))],8⟩,by omega,?_,j + 1,s,by omega,rfl,⟨hpa,hri,by omega⟩,rfl⟩;(skip);refine qL [(5,5),(6,6),(7,7)] rfl ?gts ?ghs;(case gts=>(repeat (first|exact qi|refine qz ?_|refine xb ?_|refine yF ?_|refine xY ?_|refine yG ?_ ?_|refine ji ?_ ?_));all_goals (first|rfl|trace_state));(case ghs=>(repeat' (first|exact qq|refine vx ?_|refine yU ?_ ?_ ?_|refine vd ?_));all_goals (first|with_reducible exact qc _|with_reducible exact List.Perm.refl _|exact hpf|exact hpf.symm|rfl|trace_state))
    ·rw [p0 hk1 hk2] at hpa
     refine ⟨Q.length - (j + 1),⟨[(0,.op 0 0 0),(88,.os 6 0 K3.length),(89,.v (.int .i64 K3.length)),(90,.v (.int .i64 (i:Int))),(95,.os 7 0 Q.length),(96,.v (.int .i64 Q.length)),(97,.v (.int .i64 ((j + 1:Nat):Int)))],[(0,.own false 5 [xg 5 s.cps.length]),(1,.mp (qm B)),(2,.mp (qm M)),(3,.mp (qm T)),(4,.mp (qm (jX s.out (⟨q,true,[],1⟩ : Ent)))),(5,.own false 2 (s.cps.map Cpy.row)),(6,.own false 1 (K3.map q2)),(7,.own false 1 (Q.map q2))],8⟩,by omega,?_,j + 1,⟨(jX s.out (⟨q,true,[],1⟩ : Ent)),s.cps⟩,by omega,rfl,⟨hpa,hro2,by simp only;omega⟩,rfl⟩;(skip);refine qL [(5,5),(6,6),(7,7)] rfl ?gts ?ghs;(case gts=>(repeat (first|exact qi|refine qz ?_|refine xb ?_|refine yF ?_|refine xY ?_|refine yG ?_ ?_|refine ji ?_ ?_));all_goals (first|rfl|trace_state));(case ghs=>(repeat' (first|exact qq|refine vx ?_|refine yU ?_ ?_ ?_|refine vd ?_));all_goals (first|with_reducible exact qc _|with_reducible exact List.Perm.refl _|exact hpt|exact hpt.symm|rfl|trace_state))
  ·obtain rfl:j = Q.length:=by omega
   rw [List.drop_length,List.nil_append, ← hRest] at hpa
   repeat' (first|refine qA ?_|(first|fail)|((first|refine qk ?_ ?_|refine ql ?_ ?_|refine jg ?_ ?_);all_goals (intro hc;have hp:=hc;try simp at hp;try (exfalso;omega)))|refine jh ?_ ?_)
   all_goals try (exfalso;first|omega|contradiction)
   refine ⟨K3.length - (i + 1),⟨[(0,.op 0 0 0),(88,.os 6 0 K3.length),(89,.v (.int .i64 K3.length)),(90,.v (.int .i64 ((i + 1:Nat):Int)))],[(0,.own false 5 [xg 5 s.cps.length]),(1,.mp (qm B)),(2,.mp (qm M)),(3,.mp (qm T)),(4,.mp (qm s.out)),(5,.own false 2 (s.cps.map Cpy.row)),(6,.own false 1 (K3.map q2))],7⟩,by omega,?_,i + 1,s,by omega,rfl,⟨hpa,hri,by omega⟩,rfl⟩;(skip);refine qL [(5,5),(6,6)] rfl ?gts ?ghs;(case gts=>(repeat (first|exact qi|refine qz ?_|refine xb ?_|refine yF ?_|refine xY ?_|refine yG ?_ ?_|refine ji ?_ ?_));all_goals (first|rfl|trace_state));(case ghs=>(repeat' (first|exact qq|refine vx ?_|refine yU ?_ ?_ ?_|refine vd ?_));all_goals (first|with_reducible exact qc _|with_reducible exact List.Perm.refl _|rfl|trace_state))
 ·obtain rfl:i = K3.length:=by omega
  rw [List.drop_length] at hpa
  have hR2:R = some s:=hpa.symm
  rw [hR2]
  repeat' (first|refine qA ?_|(first|fail)|((first|refine qk ?_ ?_|refine ql ?_ ?_|refine jg ?_ ?_);all_goals (intro hc;have hp:=hc;try simp at hp;try (exfalso;omega)))|refine jh ?_ ?_)
  all_goals try (exfalso;first|omega|contradiction)
  (apply jA (rs:=[.tmp 2]) [(5,5)] 6;(case hr=>(repeat (first|exact jm|(apply jl;rfl)|(apply q9;rfl;rfl;rfl;rfl;rfl))));(case hL=>rfl);(case hh=>(repeat' (first|exact qq|refine vx ?_|refine yU ?_ ?_ ?_|refine vd ?_));all_goals (first|with_reducible exact qc _|with_reducible exact List.Perm.refl _|rfl));(case hi=>exact rfl);(case hz=>rfl))
end Go.Proofs.YtnhpclmbhbblbaaGreatDoor
set_option linter.unusedSimpArgs false
set_option linter.unnecessarySimpa false
set_option linter.unusedVariables false
set_option maxHeartbeats 1000000
namespace Go.Proofs.YtnhpclmbhbblbaaGreatDoor
open Go.Ab Go.RowKit
set_option maxRecDepth 10000
attribute [local irreducible] Awp j4 jw js Red qU Go.Ab.Fin q6 Rz x6 jp jo ResOk jJ ju yb jx
set_option maxHeartbeats 16000000 in
theorem KS (B M T:List Ent) (G:List (qJ × qJ)) (O0:List Ent) (R:Option MS) (iO:MInv O0) (lO:O0.length ≤ 180) (rG:zL (G.map (·.1))) (lG:G.length ≤ 180) (gG : ∀ g,g ∈ G → qE g.1 = 0 ∧ g.2.length ≤ 300) (hms:(match Jy M T G ⟨O0,[]⟩ with|none=>none|some s=>vI M T ((s.out.map Ent.path).flatMap je) s) = R) :
  Awp C5 125 (tl 5 QX) (VX C5 #[ResultVar.tmp 2] 5 (.v (.bool R.isSome)) (H8o B M T R)) ⟨[(0,.op 0 0 0),(6,.mp 6)],[(0,.own false 5 [xg 5 0]),(1,.mp (qm B)),(2,.mp (qm M)),(3,.mp (qm T)),(4,.mp (qm O0)),(5,.own false 2 []),(6,.mp (xF G))],7⟩:=by
 conv=>arg 3;whnf
 have ap2:=Js (xF G) (G.map (·.1)) rG (by rw [wQ]) (by rw [List.length_map];omega) (fun x hx=>by
  obtain ⟨g,hg,rfl⟩:=List.mem_map.1 hx
  exact Nat.le_trans (jD (gG g hg).1) (by decide))
 generalize hK:G.map (·.1) = K at *
 have lK:K.length = G.length:=by rw [← hK,List.length_map]
 repeat' (first|refine qA ?_|(first|fail)|((first|refine qk ?_ ?_|refine ql ?_ ?_|refine jg ?_ ?_);all_goals (intro hc;have hp:=hc;try simp at hp;try (exfalso;omega)))|refine jh ?_ ?_)
 all_goals try (exfalso;omega)
 apply xe Tryz.func25 rfl rfl
 intro hIsFn
 refine yN [6] [7] [(6,.mp (xF G)),(7,.own false 1 (K.map q2))] 8 (.os 7 0 K.length) hIsFn (ap2) (by ((repeat' (first|exact q1|apply qP|exact qZ rfl|exact jt|(apply qj;apply qB;exact .inr (of_decide_eq_true rfl))|(apply qj;apply qr;exact .inr (of_decide_eq_true rfl))|(apply qj;apply qy;exact .inr (of_decide_eq_true rfl))|apply jc|apply jb)))<;>fail) (by ((repeat' (first|exact qC|exact qD|refine qu _ ?_ ?_|refine qv ?_ ?_|exact qp|exact qa (qc _)|exact qa (qG _)|exact qa (qo _)|exact qt (fun _=>rfl)|refine qw ?_|exact qg|apply qb|exact qf rfl|(apply qr;exact .inr (of_decide_eq_true rfl))|(apply qy;exact .inr (of_decide_eq_true rfl))|(apply qB;exact .inr (of_decide_eq_true rfl))|fail)))<;>fail) (by ((repeat' (first|exact qC|exact qD|refine qu _ ?_ ?_|refine qv ?_ ?_|exact qp|exact qa (qc _)|exact qa (qG _)|exact qa (qo _)|exact qt (fun _=>rfl)|refine qw ?_|exact qg|apply qb|exact qf rfl|(apply qr;exact .inr (of_decide_eq_true rfl))|(apply qy;exact .inr (of_decide_eq_true rfl))|(apply qB;exact .inr (of_decide_eq_true rfl))|fail)))<;>fail) ?_
 repeat' (first|refine qA ?_|(first|fail)|((first|refine qk ?_ ?_|refine ql ?_ ?_|refine jg ?_ ?_);all_goals (intro hc;have hp:=hc;try simp at hp;try (exfalso;omega)))|refine jh ?_ ?_)
 all_goals try (exfalso;omega)
 clear ap2
 (refine Awp.red (qL (τ:=⟨[(0,.op 0 0 0),(6,.mp 6),(70,.os 7 0 K.length),(71,.v (.int .i64 K.length)),(72,.v (.int .i64 ((0:Nat):Int)))],[(0,.own false 5 [xg 5 0]),(1,.mp (qm B)),(2,.mp (qm M)),(3,.mp (qm T)),(4,.mp (qm O0)),(5,.own false 2 []),(6,.mp (xF G)),(7,.own false 1 (K.map q2))],8⟩) [(5,5),(6,6),(7,7)] rfl ?gts2 ?ghs2) ?_;(case gts2=>(repeat (first|exact qi|refine qz ?_|refine xb ?_|refine yF ?_|refine xY ?_|refine yG ?_ ?_|refine ji ?_ ?_));all_goals (first|rfl|(rw [List.length_map];done)|trace_state));(case ghs2=>(repeat' (first|exact qq|refine vx ?_|refine yU ?_ ?_ ?_|refine vd ?_));all_goals (first|with_reducible exact qc _|with_reducible exact qo _|with_reducible exact List.Perm.refl _|rfl|trace_state)))
 refine jf (fun n σ => ∃ (i:Nat) (s:MS),i ≤ K.length ∧ n = K.length - i ∧ (Jy M T (G.drop i) s = Jy M T G ⟨O0,[]⟩ ∧ qY jn s.out = true ∧ s.cps.length ≤ i) ∧ σ = ⟨[(0,.op 0 0 0),(6,.mp 6),(70,.os 7 0 K.length),(71,.v (.int .i64 K.length)),(72,.v (.int .i64 (i:Int)))],[(0,.own false 5 [xg 5 s.cps.length]),(1,.mp (qm B)),(2,.mp (qm M)),(3,.mp (qm T)),(4,.mp (qm s.out)),(5,.own false 2 (s.cps.map Cpy.row)),(6,.mp (xF G)),(7,.own false 1 (K.map q2))],8⟩) K.length ⟨0,⟨O0,[]⟩,by omega,rfl,⟨rfl,iO.rise,Nat.le_refl _⟩,rfl⟩ ?_
 rintro n σ ⟨i,s,hi,rfl,⟨hgo,hri,hcl⟩,rfl⟩
 by_cases hlt:i < K.length
 ·have hG:i < G.length:=by omega
  have hrow:(K.map q2)[i]? = some (q2 G[i].1):=by rw [List.getElem?_map, ← hK,List.getElem?_map,List.getElem?_eq_getElem hG];rfl
  have hget:=K0 (by rw [hK];exact xP rG) (List.getElem_mem hG)
  have hdr:=X8 (m:=M) (t:=T) hG s
  have hpe:=(gG G[i] (List.getElem_mem hG)).1
  have hEx:G[i] = (G[i].1,G[i].2):=rfl
  generalize G[i].1 = p at *
  generalize G[i].2 = x at *
  have ano:=Yv B M T s.out s.cps p x hpe
  have ayes:=fun q=>Q6 B M T s.out s.cps p x q hpe
  repeat' (first|refine qA ?_|(first|(refine x8 ?_)|(apply qd;apply jq;(case hm=>rfl);(case hn=>rfl);(case hk=>rfl);(case hT=>rfl);(case he=>rfl);(case hK=>rfl);(case hks=>rfl);(case hz=>exact qR);(case hzv=>exact jr);(case hx=>exact hget);(case hN=>exact nle rfl)))|((first|refine qk ?_ ?_|refine ql ?_ ?_|refine jg ?_ ?_);all_goals (intro hc;have hp:=hc;try simp at hp;try (exfalso;omega)))|refine jh ?_ ?_)
  all_goals try (exfalso;first|omega|contradiction)
  apply xe Tryz.func59 rfl rfl
  intro hIsFn2
  cases hasd:yS M T s.out p 99 1 with
  | none =>
    refine yN [0,1,2,3,4,5] [] [(0,.own false 5 [xg 5 s.cps.length]),(1,.mp (qm B)),(2,.mp (qm M)),(3,.mp (qm T)),(4,.mp (qm s.out)),(5,.own false 2 (s.cps.map Cpy.row))] 8 (.v (.bool false)) hIsFn2 (ano hasd (by omega)) (by ((repeat' (first|exact q1|apply qP|exact qZ rfl|exact jt|(apply qj;apply qB;exact .inr (of_decide_eq_true rfl))|(apply qj;apply qr;exact .inr (of_decide_eq_true rfl))|(apply qj;apply qy;exact .inr (of_decide_eq_true rfl))|apply jc|apply jb)))<;>fail) (by ((repeat' (first|exact qC|exact qD|refine qu _ ?_ ?_|refine qv ?_ ?_|exact qp|exact qa (qc _)|exact qa (qG _)|exact qa (qo _)|exact qt (fun _=>rfl)|refine qw ?_|exact qg|apply qb|exact qf rfl|(apply qr;exact .inr (of_decide_eq_true rfl))|(apply qy;exact .inr (of_decide_eq_true rfl))|(apply qB;exact .inr (of_decide_eq_true rfl))|fail)))<;>fail) (by ((repeat' (first|exact qC|exact qD|refine qu _ ?_ ?_|refine qv ?_ ?_|exact qp|exact qa (qc _)|exact qa (qG _)|exact qa (qo _)|exact qt (fun _=>rfl)|refine qw ?_|exact qg|apply qb|exact qf rfl|(apply qr;exact .inr (of_decide_eq_true rfl))|(apply qy;exact .inr (of_decide_eq_true rfl))|(apply qB;exact .inr (of_decide_eq_true rfl))|fail)))<;>fail) ?_
    have hno:R = none:=by
     rw [← hms, ← hgo,hdr,zC hasd]
    rw [hno]
    repeat' (first|refine qA ?_|(first|fail)|((first|refine qk ?_ ?_|refine ql ?_ ?_|refine jg ?_ ?_);all_goals (intro hc;have hp:=hc;try simp at hp;try (exfalso;omega)))|refine jh ?_ ?_)
    all_goals try (exfalso;first|omega|contradiction)
    all_goals ((apply jA (rs:=[.tmp 2]) [] 5;(case hr=>(repeat (first|exact jm|(apply jl;rfl)|(apply q9;rfl;rfl;rfl;rfl;rfl))));(case hL=>rfl);(case hh=>(repeat' (first|exact qq|refine q4 ?_|refine vd ?_|refine yU ?_ ?_ ?_|refine y8 ?_ ?_|refine jW ?_ ?_|refine j9 ?_ ?_ ?_ ?_|refine jC ?_ ?_|exact qg|apply qb|exact qf rfl|(apply qr;(first|exact qH rfl|exact .inr (List.mem_cons_self ..)|exact .inr (List.mem_cons_of_mem _ (List.mem_cons_self ..))|exact .inr (List.mem_cons_of_mem _ (List.mem_cons_of_mem _ (List.mem_cons_self ..)))|exact .inr (List.mem_cons_of_mem _ (List.mem_cons_of_mem _ (List.mem_cons_of_mem _ (List.mem_cons_self ..))))))|refine q3 ?_|refine yc ?_ rfl|with_reducible exact List.Perm.refl _));all_goals (first|rfl|trace_state));(case hi=>exact rfl);(case hz=>first|rfl|(simp [j1,AV.ren,AV.ren.renL,jz,qN,jy];done)|(simp [j1,AV.ren,AV.ren.renL,jz,qN,jy, *];done)|trace_state)))
  | some q =>
    rw [zB hasd] at hdr
    have hro2:qY jn (jX s.out (⟨q,false,x,1⟩ : Ent)) = true:=j6 hri
    refine yN [0,1,2,3,4,5] [8] [(0,.own false 5 [xg 8 (s.cps ++ [(⟨p,q⟩ : Cpy)]).length]),(1,.mp (qm B)),(2,.mp (qm M)),(3,.mp (qm T)),(4,.mp (qm (jX s.out (⟨q,false,x,1⟩ : Ent)))),(5,.dead),(8,.own false 2 ((s.cps ++ [(⟨p,q⟩ : Cpy)]).map Cpy.row))] 9 (.v (.bool true)) hIsFn2 (ayes q hasd hri (by omega)) (by ((repeat' (first|exact q1|apply qP|exact qZ rfl|exact jt|(apply qj;apply qB;exact .inr (of_decide_eq_true rfl))|(apply qj;apply qr;exact .inr (of_decide_eq_true rfl))|(apply qj;apply qy;exact .inr (of_decide_eq_true rfl))|apply jc|apply jb)))<;>fail) (by ((repeat' (first|exact qC|exact qD|refine qu _ ?_ ?_|refine qv ?_ ?_|exact qp|exact qa (qc _)|exact qa (qG _)|exact qa (qo _)|exact qt (fun _=>rfl)|refine qw ?_|exact qg|apply qb|exact qf rfl|(apply qr;exact .inr (of_decide_eq_true rfl))|(apply qy;exact .inr (of_decide_eq_true rfl))|(apply qB;exact .inr (of_decide_eq_true rfl))|fail)))<;>fail) (by ((repeat' (first|exact qC|exact qD|refine qu _ ?_ ?_|refine qv ?_ ?_|exact qp|exact qa (qc _)|exact qa (qG _)|exact qa (qo _)|exact qt (fun _=>rfl)|refine qw ?_|exact qg|apply qb|exact qf rfl|(apply qr;exact .inr (of_decide_eq_true rfl))|(apply qy;exact .inr (of_decide_eq_true rfl))|(apply qB;exact .inr (of_decide_eq_true rfl))|fail)))<;>fail) ?_
    repeat' (first|refine qA ?_|(first|fail)|((first|refine qk ?_ ?_|refine ql ?_ ?_|refine jg ?_ ?_);all_goals (intro hc;have hp:=hc;try simp at hp;try (exfalso;omega)))|refine jh ?_ ?_)
    all_goals try (exfalso;first|omega|contradiction)
    refine ⟨K.length - (i + 1),⟨[(0,.op 0 0 0),(6,.mp 6),(70,.os 7 0 K.length),(71,.v (.int .i64 K.length)),(72,.v (.int .i64 ((i + 1:Nat):Int)))],[(0,.own false 5 [xg 5 (s.cps ++ [(⟨p,q⟩ : Cpy)]).length]),(1,.mp (qm B)),(2,.mp (qm M)),(3,.mp (qm T)),(4,.mp (qm (jX s.out (⟨q,false,x,1⟩ : Ent)))),(5,.own false 2 ((s.cps ++ [(⟨p,q⟩ : Cpy)]).map Cpy.row)),(6,.mp (xF G)),(7,.own false 1 (K.map q2))],8⟩,by omega,?_,i + 1,⟨jX s.out (⟨q,false,x,1⟩ : Ent),s.cps ++ [⟨p,q⟩]⟩,by omega,rfl,⟨hdr.symm.trans hgo,hro2,by simp;omega⟩,rfl⟩;(skip);refine qL [(8,5),(6,6),(7,7)] rfl ?gts ?ghs;(case gts=>(repeat (first|exact qi|refine qz ?_|refine xb ?_|refine yF ?_|refine xY ?_|refine yG ?_ ?_|refine ji ?_ ?_));all_goals (first|rfl|trace_state));(case ghs=>(repeat' (first|exact qq|refine vx ?_|refine yU ?_ ?_ ?_|refine vd ?_));all_goals (first|with_reducible exact qc _|with_reducible exact qo _|with_reducible exact List.Perm.refl _|rfl|trace_state))
 ·obtain rfl:i = K.length:=by omega
  rw [List.drop_eq_nil_of_le (by omega)] at hgo
  have hgo2:Jy M T G ⟨O0,[]⟩ = some s:=hgo.symm
  have iS:MInv s.out:=Qz (s:=⟨O0,[]⟩) iO gG hgo2
  have lS:s.out.length ≤ 360:=by have:=Xj hgo2;simp at this;omega
  rw [hgo2] at hms
  have hcl0:s.cps.length ≤ 180:=by omega
  repeat' (first|(refine Awp.red (qL (τ:=⟨[(0,.op 0 0 0)],[(0,.own false 5 [xg 5 s.cps.length]),(1,.mp (qm B)),(2,.mp (qm M)),(3,.mp (qm T)),(4,.mp (qm s.out)),(5,.own false 2 (s.cps.map Cpy.row))],6⟩) [(5,5)] rfl ?_ ?_) ?_;rotate_left 2;exact Wh B M T s iS lS hcl0 R hms;(focus ((repeat (first|exact qi|refine qz ?_|refine xb ?_|refine yF ?_|refine xY ?_|refine yG ?_ ?_|refine ji ?_ ?_));all_goals trace_state));(focus ((repeat' (first|exact qq|refine vx ?_|refine yU ?_ ?_ ?_|refine vd ?_));all_goals (first|with_reducible exact qc _|with_reducible exact qo _|with_reducible exact qG _|with_reducible exact List.Perm.refl _|rfl|trace_state))))|refine Yk ?_|((first|refine qk ?_ ?_|refine ql ?_ ?_|refine jg ?_ ?_);all_goals (intro hc;have hp:=hc;try simp at hp;try (exfalso;omega)))|refine jh ?_ ?_)
end Go.Proofs.YtnhpclmbhbblbaaGreatDoor
set_option linter.unusedSimpArgs false
set_option linter.unnecessarySimpa false
set_option linter.unusedVariables false
set_option maxHeartbeats 1000000
namespace Go.Proofs.YtnhpclmbhbblbaaGreatDoor
open Go.Ab Go.RowKit
set_option maxRecDepth 10000
attribute [local irreducible] Awp j4 jw js Red qU Go.Ab.Fin q6 Rz x6 jp jo ResOk jJ ju yb jx
set_option maxHeartbeats 16000000 in
theorem Km (B M T:List Ent) (hB:Right B) (hM:Right M) (hT:Right T) (P:List qJ) (hP:xX B M T = P) (lP:P.length ≤ 180) :
  Awp C5 125 (tl 3 QX) (VX C5 #[ResultVar.tmp 2] 5 (.v (.bool (xJ B M T).isSome)) (H8o B M T (xJ B M T))) ⟨[(0,.op 0 0 0),(3,.mp 6)],[(0,.own false 5 [xg 5 0]),(1,.mp (qm B)),(2,.mp (qm M)),(3,.mp (qm T)),(4,.mp (qm [])),(5,.own false 2 []),(6,.mp (jk P))],7⟩:=by
 conv=>arg 3;whnf
 have rP:zL P:=hP ▸ WQ B M T
 have pP : ∀ x,x ∈ P → qE x = 0:=fun x hx=>ku hB hM hT (hP ▸ hx)
 have ap1:=Js (jk P) P rP (by rw [XI]) (by omega) (fun x hx=>Nat.le_trans (jD (pP x hx)) (by decide))
 repeat' (first|refine qA ?_|(first|(apply y2;apply zl;exact nle rfl))|((first|refine qk ?_ ?_|refine ql ?_ ?_|refine jg ?_ ?_);all_goals (intro hc;have hp:=hc;try simp at hp;try (exfalso;omega)))|refine jh ?_ ?_)
 all_goals try (exfalso;omega)
 apply xe Tryz.func25 rfl rfl
 intro hIsFn
 refine yN [6] [8] [(6,.mp (jk P)),(8,.own false 1 (P.map q2))] 9 (.os 8 0 P.length) hIsFn (ap1) (by ((repeat' (first|exact q1|apply qP|exact qZ rfl|exact jt|(apply qj;apply qB;exact .inr (of_decide_eq_true rfl))|(apply qj;apply qr;exact .inr (of_decide_eq_true rfl))|(apply qj;apply qy;exact .inr (of_decide_eq_true rfl))|apply jc|apply jb)))<;>fail) (by ((repeat' (first|exact qC|exact qD|refine qu _ ?_ ?_|refine qv ?_ ?_|exact qp|exact qa (qc _)|exact qa (qG _)|exact qa (qo _)|exact qt (fun _=>rfl)|refine qw ?_|exact qg|apply qb|exact qf rfl|(apply qr;exact .inr (of_decide_eq_true rfl))|(apply qy;exact .inr (of_decide_eq_true rfl))|(apply qB;exact .inr (of_decide_eq_true rfl))|fail)))<;>fail) (by ((repeat' (first|exact qC|exact qD|refine qu _ ?_ ?_|refine qv ?_ ?_|exact qp|exact qa (qc _)|exact qa (qG _)|exact qa (qo _)|exact qt (fun _=>rfl)|refine qw ?_|exact qg|apply qb|exact qf rfl|(apply qr;exact .inr (of_decide_eq_true rfl))|(apply qy;exact .inr (of_decide_eq_true rfl))|(apply qB;exact .inr (of_decide_eq_true rfl))|fail)))<;>fail) ?_
 repeat' (first|refine qA ?_|(first|(apply y2;apply zl;exact nle rfl))|((first|refine qk ?_ ?_|refine ql ?_ ?_|refine jg ?_ ?_);all_goals (intro hc;have hp:=hc;try simp at hp;try (exfalso;omega)))|refine jh ?_ ?_)
 all_goals try (exfalso;omega)
 clear ap1
 (refine Awp.red (qL (τ:=⟨[(0,.op 0 0 0),(6,.mp 6),(43,.os 7 0 P.length),(44,.v (.int .i64 P.length)),(45,.v (.int .i64 ((0:Nat):Int)))],[(0,.own false 5 [xg 5 0]),(1,.mp (qm B)),(2,.mp (qm M)),(3,.mp (qm T)),(4,.mp (qm (yC B M T (P.take 0)))),(5,.own false 2 []),(6,.mp (xF (jO B M T (P.take 0)))),(7,.own false 1 (P.map q2))],8⟩) [(5,5),(7,6),(8,7)] rfl ?gts2 ?ghs2) ?_;(case gts2=>(repeat (first|exact qi|refine qz ?_|refine xb ?_|refine yF ?_|refine xY ?_|refine yG ?_ ?_|refine ji ?_ ?_));all_goals (first|exact qc _|exact qo _|rfl|(rw [List.length_map];done)|trace_state));(case ghs2=>(repeat' (first|exact qq|refine q4 ?_|refine vd ?_|refine yU ?_ ?_ ?_|refine y8 ?_ ?_|refine jW ?_ ?_|refine j9 ?_ ?_ ?_ ?_|refine jC ?_ ?_|exact qg|apply qb|exact qf rfl|(apply qr;(first|exact qH rfl|exact .inr (List.mem_cons_self ..)|exact .inr (List.mem_cons_of_mem _ (List.mem_cons_self ..))|exact .inr (List.mem_cons_of_mem _ (List.mem_cons_of_mem _ (List.mem_cons_self ..)))|exact .inr (List.mem_cons_of_mem _ (List.mem_cons_of_mem _ (List.mem_cons_of_mem _ (List.mem_cons_self ..))))))|refine q3 ?_|refine yc ?_ rfl|with_reducible exact List.Perm.refl _));all_goals (first|exact qc _|exact qo _|rfl|(rw [List.length_map];done)|trace_state)))
 refine jf (fun n σ => ∃ i:Nat,i ≤ P.length ∧ n = P.length - i ∧ True ∧ σ = ⟨[(0,.op 0 0 0),(6,.mp 6),(43,.os 7 0 P.length),(44,.v (.int .i64 P.length)),(45,.v (.int .i64 (i:Int)))],[(0,.own false 5 [xg 5 0]),(1,.mp (qm B)),(2,.mp (qm M)),(3,.mp (qm T)),(4,.mp (qm (yC B M T (P.take i)))),(5,.own false 2 []),(6,.mp (xF (jO B M T (P.take i)))),(7,.own false 1 (P.map q2))],8⟩) P.length ⟨0,by omega,rfl,trivial,rfl⟩ ?_
 rintro n σ ⟨i,hi,rfl, -,rfl⟩
 by_cases hlt:i < P.length
 ·have hrow:(P.map q2)[i]? = some (q2 P[i]):=by rw [List.getElem?_map,List.getElem?_eq_getElem hlt];rfl
  have hro:qY jn (yC B M T (P.take i)) = true:=Ve hB hM hT _
  have aone:q6 C6.P 57 [.op 0 0 0,.v (str P[i])] [.own false 5 [xg 5 0],.mp (qm B),.mp (qm M),.mp (qm T),.mp (qm (yC B M T (P.take i))),.own false 2 []] (.tup [yA (yW B M T P[i]).1,yA (yW B M T P[i]).2]) [.own false 5 [xg 5 0],.mp (qm B),.mp (qm M),.mp (qm T),.mp (qm (yC B M T (P.take i))),.own false 2 []]:=qb6 B M T (yC B M T (P.take i)) [] P[i]
  have gone:=WK B M T P[i]
  have hpn:=qa8 (b:=B) (m:=M) (t:=T) (xP rP) hlt
  have hgn:=Wq (b:=B) (m:=M) (t:=T) (xP rP) hlt
  have hos:=Xb (b:=B) (m:=M) (t:=T) hlt
  have hgs:=Yp (b:=B) (m:=M) (t:=T) hlt
  have hpu:=Wc hro gone.1 hpn
  rw [← hos] at hpu
  have hpp:=KM (qm (yC B M T (P.take i))) P[i] (yW B M T P[i]).1 (qc _)
  have aput:q6 C1.P 58 [.mp 0,.v (str P[i]),yA (yW B M T P[i]).1] [.mp (qm (yC B M T (P.take i)))] (.tup []) [.mp (.map (if (yW B M T P[i]).1.kind = 0 then yB (qm (yC B M T (P.take i))) P[i] else j7 (qm (yC B M T (P.take i))) P[i] (yA (yW B M T P[i]).1)))]:=by
   have h:=qbG (qm (yC B M T (P.take i))) P[i] (yW B M T P[i]).1 (qc _)
   by_cases h0:(yW B M T P[i]).1.kind = 0
   ·rw [if_pos h0] at h ⊢;exact h
   ·rw [if_neg h0] at h ⊢;exact h
  have hbn:xF (jO B M T (P.take i)) = xF (jO B M T (P.take i)):=rfl
  generalize hX:yW B M T P[i] = X at *
  obtain ⟨x,y⟩:=X
  dsimp only at *
  repeat' (first|refine qA ?_|(first|(refine x8 ?_))|((first|refine qk ?_ ?_|refine ql ?_ ?_|refine jg ?_ ?_);all_goals (intro hc;have hp:=hc;try simp at hp;try (exfalso;omega)))|refine jh ?_ ?_)
  all_goals try (exfalso;first|omega|contradiction)
  apply xe Tryz.func57 rfl rfl
  intro hIsFn
  refine yN [0,1,2,3,4,5] [] [(0,.own false 5 [xg 5 0]),(1,.mp (qm B)),(2,.mp (qm M)),(3,.mp (qm T)),(4,.mp (qm (yC B M T (P.take i)))),(5,.own false 2 [])] 8 (.tup [yA x,yA y]) hIsFn (aone) (by ((repeat' (first|exact q1|apply qP|exact qZ rfl|exact jt|(apply qj;apply qB;exact .inr (of_decide_eq_true rfl))|(apply qj;apply qr;exact .inr (of_decide_eq_true rfl))|(apply qj;apply qy;exact .inr (of_decide_eq_true rfl))|apply jc|apply jb)))<;>fail) (by ((repeat' (first|exact qC|exact qD|refine qu _ ?_ ?_|refine qv ?_ ?_|exact qp|exact qa (qc _)|exact qa (qG _)|exact qa (qo _)|exact qt (fun _=>rfl)|refine qw ?_|exact qg|apply qb|exact qf rfl|(apply qr;exact .inr (of_decide_eq_true rfl))|(apply qy;exact .inr (of_decide_eq_true rfl))|(apply qB;exact .inr (of_decide_eq_true rfl))|exact qt (l:=([]:List Cpy)) (f:=Cpy.row) (fun _=>rfl))))<;>fail) (by ((repeat' (first|exact qC|exact qD|refine qu _ ?_ ?_|refine qv ?_ ?_|exact qp|exact qa (qc _)|exact qa (qG _)|exact qa (qo _)|exact qt (fun _=>rfl)|refine qw ?_|exact qg|apply qb|exact qf rfl|(apply qr;exact .inr (of_decide_eq_true rfl))|(apply qy;exact .inr (of_decide_eq_true rfl))|(apply qB;exact .inr (of_decide_eq_true rfl))|exact qt (l:=([]:List Cpy)) (f:=Cpy.row) (fun _=>rfl))))<;>fail) ?_
  repeat' (first|refine qA ?_|(first|(refine x8 ?_))|((first|refine qk ?_ ?_|refine ql ?_ ?_|refine jg ?_ ?_);all_goals (intro hc;have hp:=hc;try simp at hp;try (exfalso;omega)))|refine jh ?_ ?_)
  all_goals try (exfalso;first|omega|contradiction)
  apply xe Tryz.func58 rfl rfl
  intro hIsFn2
  refine yN [4] [] [(4,.mp (.map (if x.kind = 0 then yB (qm (yC B M T (P.take i))) P[i] else j7 (qm (yC B M T (P.take i))) P[i] (yA x))))] 10 (.tup []) hIsFn2 (aput) (by ((repeat' (first|exact q1|apply qP|exact qZ rfl|exact jt|(apply qj;apply qB;exact .inr (of_decide_eq_true rfl))|(apply qj;apply qr;exact .inr (of_decide_eq_true rfl))|(apply qj;apply qy;exact .inr (of_decide_eq_true rfl))|apply jc|apply jb)))<;>fail) (by ((repeat' (first|exact qC|exact qD|refine qu _ ?_ ?_|refine qv ?_ ?_|exact qp|exact qa (qc _)|exact qa (qG _)|exact qa (qo _)|exact qt (fun _=>rfl)|refine qw ?_|exact qg|apply qb|exact qf rfl|(apply qr;exact .inr (of_decide_eq_true rfl))|(apply qy;exact .inr (of_decide_eq_true rfl))|(apply qB;exact .inr (of_decide_eq_true rfl))|fail)))<;>fail) (by ((repeat' (first|exact qC|exact qD|refine qu _ ?_ ?_|refine qv ?_ ?_|exact qp|exact qa (qc _)|exact qa (qG _)|exact qa (qo _)|exact qt (fun _=>rfl)|refine qw ?_|exact qg|apply qb|exact qf rfl|(apply qr;exact .inr (of_decide_eq_true rfl))|(apply qy;exact .inr (of_decide_eq_true rfl))|(apply qB;exact .inr (of_decide_eq_true rfl))|exact qa hpp)))<;>fail) ?_
  have d2:decide (y.kind = 2) = true ∨ decide (y.kind = 2) = false:=by cases decide (y.kind = 2)<;>simp
  rcases d2 with d2|d2
  ·have hy2:y.kind = 2:=of_decide_eq_true d2
   have hy:y = ⟨2,y.text⟩:=XE hy2
   have hgp:j7 (xF (jO B M T (P.take i))) P[i] (yA y) = xF (jO B M T (P.take (i + 1))):=by
    rw [hgs,if_pos hy2,hy];exact Wa hgn
   repeat' (first|refine qA ?_|(first|(apply jS;apply yr;rfl;rfl;rfl;rfl;rfl;rfl;rfl;rfl))|((first|refine qk ?_ ?_|refine ql ?_ ?_|refine jg ?_ ?_);all_goals (intro hc;have hp:=hc;try simp at hp;try (exfalso;omega)))|refine jh ?_ ?_)
   all_goals try (exfalso;first|omega|contradiction)
   have hO2p:=qc (yC B M T (P.take (i + 1)))
   have hG2p:=qo (jO B M T (P.take (i + 1)))
   refine ⟨P.length - (i + 1),⟨[(0,.op 0 0 0),(6,.mp 6),(43,.os 7 0 P.length),(44,.v (.int .i64 P.length)),(45,.v (.int .i64 ((i + 1:Nat):Int)))],[(0,.own false 5 [xg 5 0]),(1,.mp (qm B)),(2,.mp (qm M)),(3,.mp (qm T)),(4,.mp (qm (yC B M T (P.take (i + 1))))),(5,.own false 2 []),(6,.mp (xF (jO B M T (P.take (i + 1))))),(7,.own false 1 (P.map q2))],8⟩,by omega,?_,i + 1,by omega,rfl,trivial,rfl⟩;((generalize qm (yC B M T (P.take (i + 1))) = O2 at hpu hO2p ⊢;generalize xF (jO B M T (P.take (i + 1))) = G2 at hgp hG2p ⊢;generalize (if x.kind = 0 then yB (qm (yC B M T (P.take i))) P[i] else j7 (qm (yC B M T (P.take i))) P[i] (yA x)) = I1 at hpp hpu ⊢));refine qL [(5,5),(6,6),(7,7)] rfl ?gts ?ghs;(case gts=>(repeat (first|exact qi|refine qz ?_|refine xb ?_|refine yF ?_|refine xY ?_|refine yG ?_ ?_|refine ji ?_ ?_));all_goals (first|rfl|trace_state));(case ghs=>(repeat' (first|exact qq|refine vx ?_|refine yU ?_ ?_ ?_|refine vd ?_));all_goals (first|with_reducible exact qc _|with_reducible exact hO2p|with_reducible exact hG2p|with_reducible exact List.Perm.refl _|with_reducible exact hpp|with_reducible exact hpu|with_reducible exact hpu.symm|exact hpu|exact hpu.symm|exact List.Perm.of_eq hgp|exact (List.Perm.of_eq hgp).symm|rfl|trace_state))
  ·have hy2:¬ y.kind = 2:=of_decide_eq_false d2
   have hgp:xF (jO B M T (P.take i)) = xF (jO B M T (P.take (i + 1))):=by rw [hgs,if_neg hy2,List.append_nil]
   repeat' (first|refine qA ?_|(first|(apply jS;apply yr;rfl;rfl;rfl;rfl;rfl;rfl;rfl;rfl))|((first|refine qk ?_ ?_|refine ql ?_ ?_|refine jg ?_ ?_);all_goals (intro hc;have hp:=hc;try simp at hp;try (exfalso;omega)))|refine jh ?_ ?_)
   all_goals try (exfalso;first|omega|contradiction)
   have hO2p:=qc (yC B M T (P.take (i + 1)))
   have hG2p:=qo (jO B M T (P.take (i + 1)))
   refine ⟨P.length - (i + 1),⟨[(0,.op 0 0 0),(6,.mp 6),(43,.os 7 0 P.length),(44,.v (.int .i64 P.length)),(45,.v (.int .i64 ((i + 1:Nat):Int)))],[(0,.own false 5 [xg 5 0]),(1,.mp (qm B)),(2,.mp (qm M)),(3,.mp (qm T)),(4,.mp (qm (yC B M T (P.take (i + 1))))),(5,.own false 2 []),(6,.mp (xF (jO B M T (P.take (i + 1))))),(7,.own false 1 (P.map q2))],8⟩,by omega,?_,i + 1,by omega,rfl,trivial,rfl⟩;((generalize qm (yC B M T (P.take (i + 1))) = O2 at hpu hO2p ⊢;generalize xF (jO B M T (P.take (i + 1))) = G2 at hgp hG2p ⊢;generalize (if x.kind = 0 then yB (qm (yC B M T (P.take i))) P[i] else j7 (qm (yC B M T (P.take i))) P[i] (yA x)) = I1 at hpp hpu ⊢));refine qL [(5,5),(6,6),(7,7)] rfl ?gts ?ghs;(case gts=>(repeat (first|exact qi|refine qz ?_|refine xb ?_|refine yF ?_|refine xY ?_|refine yG ?_ ?_|refine ji ?_ ?_));all_goals (first|rfl|trace_state));(case ghs=>(repeat' (first|exact qq|refine vx ?_|refine yU ?_ ?_ ?_|refine vd ?_));all_goals (first|with_reducible exact qc _|with_reducible exact hO2p|with_reducible exact hG2p|with_reducible exact List.Perm.refl _|with_reducible exact hpp|with_reducible exact hpu|with_reducible exact hpu.symm|exact hpu|exact hpu.symm|exact List.Perm.of_eq hgp|exact (List.Perm.of_eq hgp).symm|rfl|trace_state))
 obtain rfl:i = P.length:=by omega
 rw [List.take_length]
 have rG:zL ((jO B M T P).map (·.1)):=WX rP
 have lG:=Qe B M T P
 have gG : ∀ g,g ∈ jO B M T P → qE g.1 = 0 ∧ g.2.length ≤ 300:=by rw [← hP];exact kh hB hM hT
 have iO:MInv (yC B M T P):=by rw [← hP];exact Jv hB hM hT
 have lO:(yC B M T P).length ≤ 180:=by have:=Qv B M T P [];simp at this;show (P.foldl _ []).length ≤ 180;omega
 have hms:xJ B M T = match Jy M T (jO B M T P) ⟨yC B M T P,[]⟩ with|none=>none|some s=>vI M T ((s.out.map Ent.path).flatMap je) s:=by rw [← hP];rfl
 repeat' (first|(refine Awp.red (qL (τ:=⟨[(0,.op 0 0 0),(6,.mp 6)],[(0,.own false 5 [xg 5 0]),(1,.mp (qm B)),(2,.mp (qm M)),(3,.mp (qm T)),(4,.mp (qm (yC B M T P))),(5,.own false 2 []),(6,.mp (xF (jO B M T P)))],7⟩) [(5,5),(6,6)] rfl ?_ ?_) ?_;rotate_left 2;exact KS B M T (jO B M T P) (yC B M T P) (xJ B M T) iO lO rG (Nat.le_trans lG lP) gG hms.symm;(focus ((repeat (first|exact qi|refine qz ?_|refine xb ?_|refine yF ?_|refine xY ?_|refine yG ?_ ?_|refine ji ?_ ?_));all_goals trace_state));(focus ((repeat' (first|exact qq|refine vx ?_|refine yU ?_ ?_ ?_|refine vd ?_));all_goals (first|with_reducible exact qc _|with_reducible exact qo _|with_reducible exact qG _|with_reducible exact List.Perm.refl _|rfl|trace_state))))|refine Yk ?_|((first|refine qk ?_ ?_|refine ql ?_ ?_|refine jg ?_ ?_);all_goals (intro hc;have hp:=hc;try simp at hp;try (exfalso;omega)))|refine jh ?_ ?_)
end Go.Proofs.YtnhpclmbhbblbaaGreatDoor
