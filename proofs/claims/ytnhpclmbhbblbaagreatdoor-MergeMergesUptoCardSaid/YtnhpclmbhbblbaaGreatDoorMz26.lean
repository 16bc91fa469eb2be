import Derived.Test.YtnhpclmbhbblbaaGreatDoorMz25
import Derived.Test.YtnhpclmbhbblbaaGreatDoorMz24
import Derived.Test.YtnhpclmbhbblbaaGreatDoorMz19
import Derived.Test.YtnhpclmbhbblbaaGreatDoorMz14
set_option linter.unusedSimpArgs false
set_option linter.unnecessarySimpa false
set_option linter.unusedVariables false
set_option maxHeartbeats 1000000
namespace Go.Proofs.YtnhpclmbhbblbaaGreatDoor
open Go.Ab Go.RowKit
set_option maxRecDepth 10000
attribute [local irreducible] Awp j4 jw js Red qU Go.Ab.Fin q6 Rz x6 jp jo ResOk jJ ju yb jx
def qaC (a b c:List qJ):Nat → List qJ
 | 0 => []
 | 1=>a
 | 2=>b
 | _=>c
set_option maxHeartbeats 16000000 in
theorem qbh (B M T:List Ent) (hB:Right B) (hM:Right M) (hT:Right T):q6 C5.P 24 [.op 0 0 0] (H5 B M T) (.v (.bool (xJ B M T).isSome)) (H8o B M T (xJ B M T)):=by
 have lB:=hB.len
 have lM:=hM.len
 have lT:=hT.len
 have pth : ∀ u:List Ent,Right u → ∀ x,x ∈ u → x.path.length ≤ 1000000:=fun u hu x hx=>Nat.le_trans (jD (yR (hu.ent x hx)).1) (by decide)
 have k1:=kL (L:=B.map Ent.path) (l:=[]) List.Pairwise.nil
 have k2:=kL (L:=M.map Ent.path) k1.1
 have k3:=kL (L:=T.map Ent.path) k2.1
 have n1:=zM (B.map Ent.path) []
 have n2:=zM (M.map Ent.path) (vB B M T 1)
 have n3:=zM (T.map Ent.path) (vB B M T 2)
 rw [List.length_map] at n1 n2 n3
 have lP:(xX B M T).length ≤ 180:=by
  rw [← QR]
  have e1:(vB B M T 1).length ≤ 60:=by simp at n1;show ((B.map Ent.path).foldl vf []).length ≤ 60;omega
  have e2:(vB B M T 2).length ≤ 120:=by show ((M.map Ent.path).foldl vf (vB B M T 1)).length ≤ 120;omega
  show ((T.map Ent.path).foldl vf (vB B M T 2)).length ≤ 180
  omega
 have pall : ∀ i, ∀ s,s ∈ vB B M T i → s.length ≤ 1000000:=fun i s hs=>by
  have:s ∈ xX B M T:=by
   rw [← QR]
   match i with
   | 0=>cases hs
   | 1=>exact (k3.2 s).2 (.inr ((k2.2 s).2 (.inr hs)))
   | 2=>exact (k3.2 s).2 (.inr hs)
   | i + 3=>exact hs
  exact Nat.le_trans (jD (ku hB hM hT this)) (by decide)
 have cp1:=Zo [] (vB B M T 1) B List.nodup_nil (xP k1.1) (fun x=>by rw [show vB B M T 1 = (B.map Ent.path).foldl vf [] from rfl,k1.2 x];simp) (by simp) (by omega) (fun s hs=>by cases hs) (pth B hB)
 have cp2:=Zo (vB B M T 1) (vB B M T 2) M (xP k1.1) (xP k2.1) (fun x=>by exact (k2.2 x).trans Or.comm) (by show ((B.map Ent.path).foldl vf []).length ≤ _;simp at n1;omega) (by omega) (pall 1) (pth M hM)
 have cp3:=Zo (vB B M T 2) (vB B M T 3) T (xP k2.1) (xP k3.1) (fun x=>by exact (k3.2 x).trans Or.comm) (by show ((M.map Ent.path).foldl vf (vB B M T 1)).length ≤ _;simp at n1;simp [vB] at n2 ⊢;omega) (by omega) (pall 2) (pth T hT)
 rw [QR] at cp3
 clear k1 k2 k3 n1 n2 n3
 generalize hK1:vB B M T 1 = K1 at *
 generalize hK2:vB B M T 2 = K2 at *
 refine qh (C:=C5) Tryz.func24 rfl _ Tryz.ntmps24 (Nat.le_of_ble_eq_true rfl) _ Tryz.results24 5 rfl rfl ?_
 refine Awp.red (Yd (C:=C5) 0 4 2 rfl rfl (Nat.le_refl _) (by decide)) ?_
 repeat' (first|refine qA ?_|(first|(apply y2;apply zl;exact nle rfl)|(apply y2;focus (apply YF;rfl;rfl;rfl;rfl;rfl;rfl;rfl;exact nle rfl;exact nle rfl)))|((first|refine qk ?_ ?_|refine ql ?_ ?_|refine jg ?_ ?_);all_goals (intro hc;have hp:=hc;try simp at hp;try (exfalso;omega)))|refine jh ?_ ?_)
 all_goals try (exfalso;omega)
 (refine Awp.red (qL (τ:=⟨[(0,.op 0 0 0),(3,.mp 6),(31,.os 7 0 3),(32,.v (.int .i64 3)),(33,.v (.int .i64 0))],[(0,.own false 5 [xg 5 0]),(1,.mp (qm B)),(2,.mp (qm M)),(3,.mp (qm T)),(4,.mp (qm [])),(5,.own false 2 []),(6,.mp (jk [])),(7,.own false 1 [[.mp 1],[.mp 2],[.mp 3]])],8⟩) [(5,5),(6,6),(7,7)] rfl ?gts2 ?ghs2) ?_;(case gts2=>(repeat (first|exact qi|refine qz ?_|refine xb ?_|refine yF ?_|refine xY ?_|refine yG ?_ ?_|refine ji ?_ ?_));all_goals (first|exact qc _|exact qG _|rfl|trace_state));(case ghs2=>(repeat' (first|exact qq|refine q4 ?_|refine vd ?_|refine yU ?_ ?_ ?_|refine y8 ?_ ?_|refine jW ?_ ?_|refine j9 ?_ ?_ ?_ ?_|refine jC ?_ ?_|exact qg|apply qb|exact qf rfl|(apply qr;(first|exact qH rfl|exact .inr (List.mem_cons_self ..)|exact .inr (List.mem_cons_of_mem _ (List.mem_cons_self ..))|exact .inr (List.mem_cons_of_mem _ (List.mem_cons_of_mem _ (List.mem_cons_self ..)))|exact .inr (List.mem_cons_of_mem _ (List.mem_cons_of_mem _ (List.mem_cons_of_mem _ (List.mem_cons_self ..))))))|refine q3 ?_|refine yc ?_ rfl|with_reducible exact List.Perm.refl _));all_goals (first|exact qc _|exact qG _|rfl|trace_state)))
 refine jf (fun n σ => ∃ i:Nat,i ≤ 3 ∧ n = 3 - i ∧ True ∧ σ = ⟨[(0,.op 0 0 0),(3,.mp 6),(31,.os 7 0 3),(32,.v (.int .i64 3)),(33,.v (.int .i64 (i:Int)))],[(0,.own false 5 [xg 5 0]),(1,.mp (qm B)),(2,.mp (qm M)),(3,.mp (qm T)),(4,.mp (qm [])),(5,.own false 2 []),(6,.mp (jk (qaC K1 K2 (xX B M T) i))),(7,.own false 1 [[.mp 1],[.mp 2],[.mp 3]])],8⟩) 3 ⟨0,by omega,rfl,trivial,rfl⟩ ?_
 rintro n σ ⟨i,hi,rfl, -,rfl⟩
 rcases show i = 0 ∨ i = 1 ∨ i = 2 ∨ i = 3 from by omega with rfl|rfl|rfl|rfl
 ·repeat' (first|refine qA ?_|(first|(refine x8 ?_))|((first|refine qk ?_ ?_|refine ql ?_ ?_|refine jg ?_ ?_);all_goals (intro hc;have hp:=hc;try simp at hp;try (exfalso;omega)))|refine jh ?_ ?_)
  all_goals try (exfalso;first|omega|contradiction)
  apply xe Tryz.func56 rfl rfl
  intro hIsFn
  refine yN [6,1] [] [(6,.mp (jk K1)),(1,.mp (qm B))] 8 (.tup []) hIsFn (cp1) (by ((repeat' (first|exact q1|apply qP|exact qZ rfl|exact jt|(apply qj;apply qB;exact .inr (of_decide_eq_true rfl))|(apply qj;apply qr;exact .inr (of_decide_eq_true rfl))|(apply qj;apply qy;exact .inr (of_decide_eq_true rfl))|apply jc|apply jb)))<;>fail) (by ((repeat' (first|exact qC|exact qD|refine qu _ ?_ ?_|refine qv ?_ ?_|exact qp|exact qa (qc _)|exact qa (qG _)|exact qa (qo _)|exact qt (fun _=>rfl)|refine qw ?_|exact qg|apply qb|exact qf rfl|(apply qr;exact .inr (of_decide_eq_true rfl))|(apply qy;exact .inr (of_decide_eq_true rfl))|(apply qB;exact .inr (of_decide_eq_true rfl))|fail)))<;>fail) (by ((repeat' (first|exact qC|exact qD|refine qu _ ?_ ?_|refine qv ?_ ?_|exact qp|exact qa (qc _)|exact qa (qG _)|exact qa (qo _)|exact qt (fun _=>rfl)|refine qw ?_|exact qg|apply qb|exact qf rfl|(apply qr;exact .inr (of_decide_eq_true rfl))|(apply qy;exact .inr (of_decide_eq_true rfl))|(apply qB;exact .inr (of_decide_eq_true rfl))|fail)))<;>fail) ?_
  repeat' (first|refine qA ?_|(first|(refine x8 ?_))|((first|refine qk ?_ ?_|refine ql ?_ ?_|refine jg ?_ ?_);all_goals (intro hc;have hp:=hc;try simp at hp;try (exfalso;omega)))|refine jh ?_ ?_)
  refine ⟨3 - 1,_,by omega,qL (τ:=⟨[(0,.op 0 0 0),(3,.mp 6),(31,.os 7 0 3),(32,.v (.int .i64 3)),(33,.v (.int .i64 ((1:Nat):Int)))],[(0,.own false 5 [xg 5 0]),(1,.mp (qm B)),(2,.mp (qm M)),(3,.mp (qm T)),(4,.mp (qm [])),(5,.own false 2 []),(6,.mp (jk (qaC K1 K2 (xX B M T) 1))),(7,.own false 1 [[.mp 1],[.mp 2],[.mp 3]])],8⟩) [(5,5),(6,6),(7,7)] rfl ?gts ?ghs,1,by omega,rfl,trivial,rfl⟩;(case gts=>(repeat (first|exact qi|refine qz ?_|refine xb ?_|refine yF ?_|refine xY ?_|refine yG ?_ ?_|refine ji ?_ ?_));all_goals (first|exact qc _|exact qG _|rfl|trace_state));(case ghs=>(repeat' (first|exact qq|refine q4 ?_|refine vd ?_|refine yU ?_ ?_ ?_|refine y8 ?_ ?_|refine jW ?_ ?_|refine j9 ?_ ?_ ?_ ?_|refine jC ?_ ?_|exact qg|apply qb|exact qf rfl|(apply qr;(first|exact qH rfl|exact .inr (List.mem_cons_self ..)|exact .inr (List.mem_cons_of_mem _ (List.mem_cons_self ..))|exact .inr (List.mem_cons_of_mem _ (List.mem_cons_of_mem _ (List.mem_cons_self ..)))|exact .inr (List.mem_cons_of_mem _ (List.mem_cons_of_mem _ (List.mem_cons_of_mem _ (List.mem_cons_self ..))))))|refine q3 ?_|refine yc ?_ rfl|with_reducible exact List.Perm.refl _));all_goals (first|exact qc _|exact qG _|rfl|trace_state))
 ·repeat' (first|refine qA ?_|(first|(refine x8 ?_))|((first|refine qk ?_ ?_|refine ql ?_ ?_|refine jg ?_ ?_);all_goals (intro hc;have hp:=hc;try simp at hp;try (exfalso;omega)))|refine jh ?_ ?_)
  all_goals try (exfalso;first|omega|contradiction)
  apply xe Tryz.func56 rfl rfl
  intro hIsFn
  refine yN [6,2] [] [(6,.mp (jk K2)),(2,.mp (qm M))] 8 (.tup []) hIsFn (cp2) (by ((repeat' (first|exact q1|apply qP|exact qZ rfl|exact jt|(apply qj;apply qB;exact .inr (of_decide_eq_true rfl))|(apply qj;apply qr;exact .inr (of_decide_eq_true rfl))|(apply qj;apply qy;exact .inr (of_decide_eq_true rfl))|apply jc|apply jb)))<;>fail) (by ((repeat' (first|exact qC|exact qD|refine qu _ ?_ ?_|refine qv ?_ ?_|exact qp|exact qa (qc _)|exact qa (qG _)|exact qa (qo _)|exact qt (fun _=>rfl)|refine qw ?_|exact qg|apply qb|exact qf rfl|(apply qr;exact .inr (of_decide_eq_true rfl))|(apply qy;exact .inr (of_decide_eq_true rfl))|(apply qB;exact .inr (of_decide_eq_true rfl))|fail)))<;>fail) (by ((repeat' (first|exact qC|exact qD|refine qu _ ?_ ?_|refine qv ?_ ?_|exact qp|exact qa (qc _)|exact qa (qG _)|exact qa (qo _)|exact qt (fun _=>rfl)|refine qw ?_|exact qg|apply qb|exact qf rfl|(apply qr;exact .inr (of_decide_eq_true rfl))|(apply qy;exact .inr (of_decide_eq_true rfl))|(apply qB;exact .inr (of_decide_eq_true rfl))|fail)))<;>fail) ?_
  repeat' (first|refine qA ?_|(first|(refine x8 ?_))|((first|refine qk ?_ ?_|refine ql ?_ ?_|refine jg ?_ ?_);all_goals (intro hc;have hp:=hc;try simp at hp;try (exfalso;omega)))|refine jh ?_ ?_)
  refine ⟨3 - 2,_,by omega,qL (τ:=⟨[(0,.op 0 0 0),(3,.mp 6),(31,.os 7 0 3),(32,.v (.int .i64 3)),(33,.v (.int .i64 ((2:Nat):Int)))],[(0,.own false 5 [xg 5 0]),(1,.mp (qm B)),(2,.mp (qm M)),(3,.mp (qm T)),(4,.mp (qm [])),(5,.own false 2 []),(6,.mp (jk (qaC K1 K2 (xX B M T) 2))),(7,.own false 1 [[.mp 1],[.mp 2],[.mp 3]])],8⟩) [(5,5),(6,6),(7,7)] rfl ?gts ?ghs,2,by omega,rfl,trivial,rfl⟩;(case gts=>(repeat (first|exact qi|refine qz ?_|refine xb ?_|refine yF ?_|refine xY ?_|refine yG ?_ ?_|refine ji ?_ ?_));all_goals (first|exact qc _|exact qG _|rfl|trace_state));(case ghs=>(repeat' (first|exact qq|refine q4 ?_|refine vd ?_|refine yU ?_ ?_ ?_|refine y8 ?_ ?_|refine jW ?_ ?_|refine j9 ?_ ?_ ?_ ?_|refine jC ?_ ?_|exact qg|apply qb|exact qf rfl|(apply qr;(first|exact qH rfl|exact .inr (List.mem_cons_self ..)|exact .inr (List.mem_cons_of_mem _ (List.mem_cons_self ..))|exact .inr (List.mem_cons_of_mem _ (List.mem_cons_of_mem _ (List.mem_cons_self ..)))|exact .inr (List.mem_cons_of_mem _ (List.mem_cons_of_mem _ (List.mem_cons_of_mem _ (List.mem_cons_self ..))))))|refine q3 ?_|refine yc ?_ rfl|with_reducible exact List.Perm.refl _));all_goals (first|exact qc _|exact qG _|rfl|trace_state))
 ·repeat' (first|refine qA ?_|(first|(refine x8 ?_))|((first|refine qk ?_ ?_|refine ql ?_ ?_|refine jg ?_ ?_);all_goals (intro hc;have hp:=hc;try simp at hp;try (exfalso;omega)))|refine jh ?_ ?_)
  all_goals try (exfalso;first|omega|contradiction)
  apply xe Tryz.func56 rfl rfl
  intro hIsFn
  refine yN [6,3] [] [(6,.mp (jk (xX B M T))),(3,.mp (qm T))] 8 (.tup []) hIsFn (cp3) (by ((repeat' (first|exact q1|apply qP|exact qZ rfl|exact jt|(apply qj;apply qB;exact .inr (of_decide_eq_true rfl))|(apply qj;apply qr;exact .inr (of_decide_eq_true rfl))|(apply qj;apply qy;exact .inr (of_decide_eq_true rfl))|apply jc|apply jb)))<;>fail) (by ((repeat' (first|exact qC|exact qD|refine qu _ ?_ ?_|refine qv ?_ ?_|exact qp|exact qa (qc _)|exact qa (qG _)|exact qa (qo _)|exact qt (fun _=>rfl)|refine qw ?_|exact qg|apply qb|exact qf rfl|(apply qr;exact .inr (of_decide_eq_true rfl))|(apply qy;exact .inr (of_decide_eq_true rfl))|(apply qB;exact .inr (of_decide_eq_true rfl))|fail)))<;>fail) (by ((repeat' (first|exact qC|exact qD|refine qu _ ?_ ?_|refine qv ?_ ?_|exact qp|exact qa (qc _)|exact qa (qG _)|exact qa (qo _)|exact qt (fun _=>rfl)|refine qw ?_|exact qg|apply qb|exact qf rfl|(apply qr;exact .inr (of_decide_eq_true rfl))|(apply qy;exact .inr (of_decide_eq_true rfl))|(apply qB;exact .inr (of_decide_eq_true rfl))|fail)))<;>fail) ?_
  repeat' (first|refine qA ?_|(first|(refine x8 ?_))|((first|refine qk ?_ ?_|refine ql ?_ ?_|refine jg ?_ ?_);all_goals (intro hc;have hp:=hc;try simp at hp;try (exfalso;omega)))|refine jh ?_ ?_)
  refine ⟨3 - 3,_,by omega,qL (τ:=⟨[(0,.op 0 0 0),(3,.mp 6),(31,.os 7 0 3),(32,.v (.int .i64 3)),(33,.v (.int .i64 ((3:Nat):Int)))],[(0,.own false 5 [xg 5 0]),(1,.mp (qm B)),(2,.mp (qm M)),(3,.mp (qm T)),(4,.mp (qm [])),(5,.own false 2 []),(6,.mp (jk (qaC K1 K2 (xX B M T) 3))),(7,.own false 1 [[.mp 1],[.mp 2],[.mp 3]])],8⟩) [(5,5),(6,6),(7,7)] rfl ?gts ?ghs,3,by omega,rfl,trivial,rfl⟩;(case gts=>(repeat (first|exact qi|refine qz ?_|refine xb ?_|refine yF ?_|refine xY ?_|refine yG ?_ ?_|refine ji ?_ ?_));all_goals (first|exact qc _|exact qG _|rfl|trace_state));(case ghs=>(repeat' (first|exact qq|refine q4 ?_|refine vd ?_|refine yU ?_ ?_ ?_|refine y8 ?_ ?_|refine jW ?_ ?_|refine j9 ?_ ?_ ?_ ?_|refine jC ?_ ?_|exact qg|apply qb|exact qf rfl|(apply qr;(first|exact qH rfl|exact .inr (List.mem_cons_self ..)|exact .inr (List.mem_cons_of_mem _ (List.mem_cons_self ..))|exact .inr (List.mem_cons_of_mem _ (List.mem_cons_of_mem _ (List.mem_cons_self ..)))|exact .inr (List.mem_cons_of_mem _ (List.mem_cons_of_mem _ (List.mem_cons_of_mem _ (List.mem_cons_self ..))))))|refine q3 ?_|refine yc ?_ rfl|with_reducible exact List.Perm.refl _));all_goals (first|exact qc _|exact qG _|rfl|trace_state))
 ·clear cp1 cp2 cp3 pall pth
  repeat' (first|(refine Awp.red (qL (τ:=⟨[(0,.op 0 0 0),(3,.mp 6)],[(0,.own false 5 [xg 5 0]),(1,.mp (qm B)),(2,.mp (qm M)),(3,.mp (qm T)),(4,.mp (qm [])),(5,.own false 2 []),(6,.mp (jk (xX B M T)))],7⟩) [(5,5),(6,6)] rfl ?_ ?_) ?_;rotate_left 2;exact Km B M T hB hM hT (xX B M T) rfl lP;(focus ((repeat (first|exact qi|refine qz ?_|refine xb ?_|refine yF ?_|refine xY ?_|refine yG ?_ ?_|refine ji ?_ ?_));all_goals trace_state));(focus ((repeat' (first|exact qq|refine vx ?_|refine yU ?_ ?_ ?_|refine vd ?_));all_goals (first|with_reducible exact qc _|with_reducible exact qo _|with_reducible exact qG _|with_reducible exact List.Perm.refl _|rfl|trace_state))))|refine Yk ?_|((first|refine qk ?_ ?_|refine ql ?_ ?_|refine jg ?_ ?_);all_goals (intro hc;have hp:=hc;try simp at hp;try (exfalso;omega)))|refine jh ?_ ?_)
end Go.Proofs.YtnhpclmbhbblbaaGreatDoor
set_option linter.unusedSimpArgs false
set_option linter.unnecessarySimpa false
set_option linter.unusedVariables false
set_option maxHeartbeats 1000000
namespace Go.Proofs.YtnhpclmbhbblbaaGreatDoor
open Go.Ab Go.RowKit
set_option maxRecDepth 10000
attribute [local irreducible] Awp j4 jw js Red qU Go.Ab.Fin q6 Rz x6 jp jo ResOk jJ ju yb jx
theorem kg {L:List (Nat × Nat)} {σ:St} {n n' c c' k:Nat} {ex ex' : Bool} {l:List (Nat × HB)} (hl:xr L 6 σ l) (hm:Maps L 6 n n':=by (first|exact qH rfl|exact .inr (List.mem_cons_self ..)|exact .inr (List.mem_cons_of_mem _ (List.mem_cons_self ..))|exact .inr (List.mem_cons_of_mem _ (List.mem_cons_of_mem _ (List.mem_cons_self ..)))|exact .inr (List.mem_cons_of_mem _ (List.mem_cons_of_mem _ (List.mem_cons_of_mem _ (List.mem_cons_self ..)))))) (hc:Maps L 6 c c':=by (first|exact qH rfl|exact .inr (List.mem_cons_self ..)|exact .inr (List.mem_cons_of_mem _ (List.mem_cons_self ..))|exact .inr (List.mem_cons_of_mem _ (List.mem_cons_of_mem _ (List.mem_cons_self ..)))|exact .inr (List.mem_cons_of_mem _ (List.mem_cons_of_mem _ (List.mem_cons_of_mem _ (List.mem_cons_self ..)))))) (hx:ja σ.hs n = .own ex 5 [xg c k]:=by rfl) (he:ex' = true → ex = true:=by first|exact id|exact nofun):xr L 6 σ ((n',.own ex' 5 [xg c' k]) :: l) :=
 zK hm hx he (xn (qb (qr (qH rfl)) (qb (qr (qH rfl)) (qb (qr (qH rfl)) (qb (qr (qH rfl)) (qb (qy hc) qg))))) vv) hl
def qaH (m t o:List Ent) (p:qJ):Ent:=vi m t (kA p (stT o p))
theorem JV {t:List Ent} {p:qJ} (hs:qY jn t = true) (h:yJ t p = true) : ∃ hk:x1 t p < t.length,q5 t p = some t[x1 t p]:=by
 obtain ⟨hk,_,h2,_⟩:=Z4 hs h
 exact ⟨hk,h2⟩
theorem Zj {t:List Ent} {p:qJ} {x:Thg} {y:Ent} (hl:q5 t p = some y) (hx:v7 x) (h0:¬ x.kind = 0) (he:stT t p = x):vu t (kA p x) = some y.ver:=by
 unfold vu
 rw [show (kA p x).path = p from rfl,hl,XJ hx h0]
 unfold stT at he
 rw [hl] at he
 have he:yL y = x:=he
 simp only [he,if_true]
theorem WM {t:List Ent} {p:qJ} {x:Thg} (hx:v7 x) (h0:¬ x.kind = 0) (he:¬ stT t p = x):vu t (kA p x) = none:=by
 unfold vu
 rw [show (kA p x).path = p from rfl,XJ hx h0]
 unfold stT at he
 cases hl:q5 t p with
 | none=>rfl
 | some y =>
   rw [hl] at he
   have he:¬ yL y = x:=he
   simp only [he,if_false]
theorem XQ {t:List Ent} {p:qJ} {x:Thg} (h:yJ t p = false):vu t (kA p x) = none:=by
 unfold vu
 rw [Yz] at h
 rw [show (kA p x).path = p from rfl]
 cases hl:q5 t p with
 | none=>rfl
 | some y=>rw [hl] at h;cases h
set_option maxHeartbeats 4000000 in
theorem qaz (B M T O:List Ent) (cs:List Cpy) (p:qJ) (hM:qY jn M = true) (hT:qY jn T = true) (lM:M.length ≤ 60) (lT:T.length ≤ 60) (h0:¬ (stT O p).kind = 0) :
  q6 C6.P 26 [.op 0 0 0,.v (str p),qe M,qe T] (H6 B M T O cs) (.agg (qaH M T O p).row) (H6 B M T O cs):=by
 have g1:=xG O p
 have g2:=xG T p
 have g3:=xG M p
 have at1:=qbC T p (by omega) hT
 have at2:=qbC M p (by omega) hM
 have hx:=vN O p
 have hE:(qaH M T O p).row = [.v (str p),.v (.bool (decide ((stT O p).kind = 1))),.v (str (stT O p).text),.v (.int .i64 (vV M T (kA p (stT O p))))]:=rfl
 rw [hE]
 generalize hxx:stT O p = x at *
 clear hE
 have key : ∀ v:Int,vV M T (kA p x) = v → q6 C6.P 26 [.op 0 0 0,.v (str p),qe M,qe T] (H6 B M T O cs) (.agg [.v (str p),.v (.bool (decide (x.kind = 1))),.v (str x.text),.v (.int .i64 v)]) (H6 B M T O cs) → q6 C6.P 26 [.op 0 0 0,.v (str p),qe M,qe T] (H6 B M T O cs) (.agg [.v (str p),.v (.bool (decide (x.kind = 1))),.v (str x.text),.v (.int .i64 (vV M T (kA p x)))]) (H6 B M T O cs):=fun v e h=>by rw [e];exact h
 cases hT1:yJ T p with
 | true =>
   rw [hT1] at at1
   obtain ⟨kT,lkT⟩:=JV hT hT1
   have rowT:(T.map Ent.row)[x1 T p]? = some T[x1 T p].row:=j3 kT
   generalize hPT:x1 T p = PT at *
   by_cases eT:stT T p = x
   ·refine key T[PT].ver (by unfold vV;rw [Zj lkT hx h0 eT]) ?_
    clear key
    have dT:decide (stT T p = x) = true:=decide_eq_true eT
    generalize stT T p = tt at *
    generalize stT M p = mm at *
    generalize T[PT] = yT at *
    refine qh (C:=C6) Tryz.func26 rfl _ Tryz.ntmps26 (Nat.le_of_ble_eq_true rfl) _ Tryz.results26 6 rfl rfl ?_
    repeat (first|refine qA ?_|(apply qd;apply jq;(case hm=>rfl);(case hn=>rfl);(case hk=>rfl);(case hT=>rfl);(case he=>rfl);(case hK=>rfl);(case hks=>rfl);(case hz=>exact qR);(case hzv=>exact jr);(case hx=>exact g1);(case hN=>exact nle rfl))|(apply qd;apply jq;(case hm=>rfl);(case hn=>rfl);(case hk=>rfl);(case hT=>rfl);(case he=>rfl);(case hK=>rfl);(case hks=>rfl);(case hz=>exact qR);(case hzv=>exact jr);(case hx=>exact g2);(case hN=>exact nle rfl))|(apply qd;apply jq;(case hm=>rfl);(case hn=>rfl);(case hk=>rfl);(case hT=>rfl);(case he=>rfl);(case hK=>rfl);(case hks=>rfl);(case hz=>exact qR);(case hzv=>exact jr);(case hx=>exact g3);(case hN=>exact nle rfl))|(apply qd;apply yQ;rfl;rfl;exact xO;exact yK _ _;(first|exact .inl ⟨rfl,rfl⟩|exact .inr ⟨rfl,rfl⟩);exact nle rfl)|refine xB Tryz.func63 (at1 ..) ?_|refine xB Tryz.func63 (at2 ..) ?_)
    (apply jA (rs:=[.cell 8 59]) [] 6;(case hr=>(repeat (first|exact jm|(apply jl;rfl)|(apply q9;rfl;rfl;rfl;rfl;rfl))));(case hL=>rfl);(case hh=>(repeat' (first|exact qq|refine kg ?_|refine yU ?_ ?_ ?_|refine vd ?_));all_goals (first|with_reducible exact qc _|with_reducible exact List.Perm.refl _|rfl|trace_state));(case hi=>exact rfl);(case hz=>first|rfl|(simp [j1,AV.ren,AV.ren.renL,jz,qN,jy];done)|(simp [j1,AV.ren,AV.ren.renL,jz,qN,jy, *];done)))
   ·have dT:decide (stT T p = x) = false:=decide_eq_false eT
    have nT:=WM hx h0 eT
    cases hM1:yJ M p with
    | true =>
      rw [hM1] at at2
      obtain ⟨kM,lkM⟩:=JV hM hM1
      have rowM:(M.map Ent.row)[x1 M p]? = some M[x1 M p].row:=j3 kM
      generalize hPM:x1 M p = PM at *
      by_cases eM:stT M p = x
      ·refine key M[PM].ver (by unfold vV;rw [nT,Zj lkM hx h0 eM]) ?_
       clear key
       have dM:decide (stT M p = x) = true:=decide_eq_true eM
       generalize stT T p = tt at *
       generalize stT M p = mm at *
       generalize M[PM] = yM at *
       refine qh (C:=C6) Tryz.func26 rfl _ Tryz.ntmps26 (Nat.le_of_ble_eq_true rfl) _ Tryz.results26 6 rfl rfl ?_
       repeat (first|refine qA ?_|(apply qd;apply jq;(case hm=>rfl);(case hn=>rfl);(case hk=>rfl);(case hT=>rfl);(case he=>rfl);(case hK=>rfl);(case hks=>rfl);(case hz=>exact qR);(case hzv=>exact jr);(case hx=>exact g1);(case hN=>exact nle rfl))|(apply qd;apply jq;(case hm=>rfl);(case hn=>rfl);(case hk=>rfl);(case hT=>rfl);(case he=>rfl);(case hK=>rfl);(case hks=>rfl);(case hz=>exact qR);(case hzv=>exact jr);(case hx=>exact g2);(case hN=>exact nle rfl))|(apply qd;apply jq;(case hm=>rfl);(case hn=>rfl);(case hk=>rfl);(case hT=>rfl);(case he=>rfl);(case hK=>rfl);(case hks=>rfl);(case hz=>exact qR);(case hzv=>exact jr);(case hx=>exact g3);(case hN=>exact nle rfl))|(apply qd;apply yQ;rfl;rfl;exact xO;exact yK _ _;(first|exact .inl ⟨rfl,rfl⟩|exact .inr ⟨rfl,rfl⟩);exact nle rfl)|refine xB Tryz.func63 (at1 ..) ?_|refine xB Tryz.func63 (at2 ..) ?_)
       (apply jA (rs:=[.cell 8 59]) [] 6;(case hr=>(repeat (first|exact jm|(apply jl;rfl)|(apply q9;rfl;rfl;rfl;rfl;rfl))));(case hL=>rfl);(case hh=>(repeat' (first|exact qq|refine kg ?_|refine yU ?_ ?_ ?_|refine vd ?_));all_goals (first|with_reducible exact qc _|with_reducible exact List.Perm.refl _|rfl|trace_state));(case hi=>exact rfl);(case hz=>first|rfl|(simp [j1,AV.ren,AV.ren.renL,jz,qN,jy];done)|(simp [j1,AV.ren,AV.ren.renL,jz,qN,jy, *];done)))
      ·refine key 1 (by unfold vV;rw [nT,WM hx h0 eM]) ?_
       clear key
       have dM:decide (stT M p = x) = false:=decide_eq_false eM
       generalize stT T p = tt at *
       generalize stT M p = mm at *
       refine qh (C:=C6) Tryz.func26 rfl _ Tryz.ntmps26 (Nat.le_of_ble_eq_true rfl) _ Tryz.results26 6 rfl rfl ?_
       repeat (first|refine qA ?_|(apply qd;apply jq;(case hm=>rfl);(case hn=>rfl);(case hk=>rfl);(case hT=>rfl);(case he=>rfl);(case hK=>rfl);(case hks=>rfl);(case hz=>exact qR);(case hzv=>exact jr);(case hx=>exact g1);(case hN=>exact nle rfl))|(apply qd;apply jq;(case hm=>rfl);(case hn=>rfl);(case hk=>rfl);(case hT=>rfl);(case he=>rfl);(case hK=>rfl);(case hks=>rfl);(case hz=>exact qR);(case hzv=>exact jr);(case hx=>exact g2);(case hN=>exact nle rfl))|(apply qd;apply jq;(case hm=>rfl);(case hn=>rfl);(case hk=>rfl);(case hT=>rfl);(case he=>rfl);(case hK=>rfl);(case hks=>rfl);(case hz=>exact qR);(case hzv=>exact jr);(case hx=>exact g3);(case hN=>exact nle rfl))|(apply qd;apply yQ;rfl;rfl;exact xO;exact yK _ _;(first|exact .inl ⟨rfl,rfl⟩|exact .inr ⟨rfl,rfl⟩);exact nle rfl)|refine xB Tryz.func63 (at1 ..) ?_|refine xB Tryz.func63 (at2 ..) ?_)
       (apply jA (rs:=[.cell 8 59]) [] 6;(case hr=>(repeat (first|exact jm|(apply jl;rfl)|(apply q9;rfl;rfl;rfl;rfl;rfl))));(case hL=>rfl);(case hh=>(repeat' (first|exact qq|refine kg ?_|refine yU ?_ ?_ ?_|refine vd ?_));all_goals (first|with_reducible exact qc _|with_reducible exact List.Perm.refl _|rfl|trace_state));(case hi=>exact rfl);(case hz=>first|rfl|(simp [j1,AV.ren,AV.ren.renL,jz,qN,jy];done)|(simp [j1,AV.ren,AV.ren.renL,jz,qN,jy, *];done)))
    | false =>
      rw [hM1] at at2
      refine key 1 (by unfold vV;rw [nT,XQ hM1]) ?_
      clear key
      generalize stT T p = tt at *
      generalize stT M p = mm at *
      refine qh (C:=C6) Tryz.func26 rfl _ Tryz.ntmps26 (Nat.le_of_ble_eq_true rfl) _ Tryz.results26 6 rfl rfl ?_
      repeat (first|refine qA ?_|(apply qd;apply jq;(case hm=>rfl);(case hn=>rfl);(case hk=>rfl);(case hT=>rfl);(case he=>rfl);(case hK=>rfl);(case hks=>rfl);(case hz=>exact qR);(case hzv=>exact jr);(case hx=>exact g1);(case hN=>exact nle rfl))|(apply qd;apply jq;(case hm=>rfl);(case hn=>rfl);(case hk=>rfl);(case hT=>rfl);(case he=>rfl);(case hK=>rfl);(case hks=>rfl);(case hz=>exact qR);(case hzv=>exact jr);(case hx=>exact g2);(case hN=>exact nle rfl))|(apply qd;apply jq;(case hm=>rfl);(case hn=>rfl);(case hk=>rfl);(case hT=>rfl);(case he=>rfl);(case hK=>rfl);(case hks=>rfl);(case hz=>exact qR);(case hzv=>exact jr);(case hx=>exact g3);(case hN=>exact nle rfl))|(apply qd;apply yQ;rfl;rfl;exact xO;exact yK _ _;(first|exact .inl ⟨rfl,rfl⟩|exact .inr ⟨rfl,rfl⟩);exact nle rfl)|refine xB Tryz.func63 (at1 ..) ?_|refine xB Tryz.func63 (at2 ..) ?_)
      (apply jA (rs:=[.cell 8 59]) [] 6;(case hr=>(repeat (first|exact jm|(apply jl;rfl)|(apply q9;rfl;rfl;rfl;rfl;rfl))));(case hL=>rfl);(case hh=>(repeat' (first|exact qq|refine kg ?_|refine yU ?_ ?_ ?_|refine vd ?_));all_goals (first|with_reducible exact qc _|with_reducible exact List.Perm.refl _|rfl|trace_state));(case hi=>exact rfl);(case hz=>first|rfl|(simp [j1,AV.ren,AV.ren.renL,jz,qN,jy];done)|(simp [j1,AV.ren,AV.ren.renL,jz,qN,jy, *];done)))
 | false =>
   rw [hT1] at at1
   have nT:=XQ (x:=x) hT1
   cases hM1:yJ M p with
   | true =>
     rw [hM1] at at2
     obtain ⟨kM,lkM⟩:=JV hM hM1
     have rowM:(M.map Ent.row)[x1 M p]? = some M[x1 M p].row:=j3 kM
     generalize hPM:x1 M p = PM at *
     by_cases eM:stT M p = x
     ·refine key M[PM].ver (by unfold vV;rw [nT,Zj lkM hx h0 eM]) ?_
      clear key
      have dM:decide (stT M p = x) = true:=decide_eq_true eM
      generalize stT T p = tt at *
      generalize stT M p = mm at *
      generalize M[PM] = yM at *
      refine qh (C:=C6) Tryz.func26 rfl _ Tryz.ntmps26 (Nat.le_of_ble_eq_true rfl) _ Tryz.results26 6 rfl rfl ?_
      repeat (first|refine qA ?_|(apply qd;apply jq;(case hm=>rfl);(case hn=>rfl);(case hk=>rfl);(case hT=>rfl);(case he=>rfl);(case hK=>rfl);(case hks=>rfl);(case hz=>exact qR);(case hzv=>exact jr);(case hx=>exact g1);(case hN=>exact nle rfl))|(apply qd;apply jq;(case hm=>rfl);(case hn=>rfl);(case hk=>rfl);(case hT=>rfl);(case he=>rfl);(case hK=>rfl);(case hks=>rfl);(case hz=>exact qR);(case hzv=>exact jr);(case hx=>exact g2);(case hN=>exact nle rfl))|(apply qd;apply jq;(case hm=>rfl);(case hn=>rfl);(case hk=>rfl);(case hT=>rfl);(case he=>rfl);(case hK=>rfl);(case hks=>rfl);(case hz=>exact qR);(case hzv=>exact jr);(case hx=>exact g3);(case hN=>exact nle rfl))|(apply qd;apply yQ;rfl;rfl;exact xO;exact yK _ _;(first|exact .inl ⟨rfl,rfl⟩|exact .inr ⟨rfl,rfl⟩);exact nle rfl)|refine xB Tryz.func63 (at1 ..) ?_|refine xB Tryz.func63 (at2 ..) ?_)
      (apply jA (rs:=[.cell 8 59]) [] 6;(case hr=>(repeat (first|exact jm|(apply jl;rfl)|(apply q9;rfl;rfl;rfl;rfl;rfl))));(case hL=>rfl);(case hh=>(repeat' (first|exact qq|refine kg ?_|refine yU ?_ ?_ ?_|refine vd ?_));all_goals (first|with_reducible exact qc _|with_reducible exact List.Perm.refl _|rfl|trace_state));(case hi=>exact rfl);(case hz=>first|rfl|(simp [j1,AV.ren,AV.ren.renL,jz,qN,jy];done)|(simp [j1,AV.ren,AV.ren.renL,jz,qN,jy, *];done)))
     ·refine key 1 (by unfold vV;rw [nT,WM hx h0 eM]) ?_
      clear key
      have dM:decide (stT M p = x) = false:=decide_eq_false eM
      generalize stT T p = tt at *
      generalize stT M p = mm at *
      refine qh (C:=C6) Tryz.func26 rfl _ Tryz.ntmps26 (Nat.le_of_ble_eq_true rfl) _ Tryz.results26 6 rfl rfl ?_
      repeat (first|refine qA ?_|(apply qd;apply jq;(case hm=>rfl);(case hn=>rfl);(case hk=>rfl);(case hT=>rfl);(case he=>rfl);(case hK=>rfl);(case hks=>rfl);(case hz=>exact qR);(case hzv=>exact jr);(case hx=>exact g1);(case hN=>exact nle rfl))|(apply qd;apply jq;(case hm=>rfl);(case hn=>rfl);(case hk=>rfl);(case hT=>rfl);(case he=>rfl);(case hK=>rfl);(case hks=>rfl);(case hz=>exact qR);(case hzv=>exact jr);(case hx=>exact g2);(case hN=>exact nle rfl))|(apply qd;apply jq;(case hm=>rfl);(case hn=>rfl);(case hk=>rfl);(case hT=>rfl);(case he=>rfl);(case hK=>rfl);(case hks=>rfl);(case hz=>exact qR);(case hzv=>exact jr);(case hx=>exact g3);(case hN=>exact nle rfl))|(apply qd;apply yQ;rfl;rfl;exact xO;exact yK _ _;(first|exact .inl ⟨rfl,rfl⟩|exact .inr ⟨rfl,rfl⟩);exact nle rfl)|refine xB Tryz.func63 (at1 ..) ?_|refine xB Tryz.func63 (at2 ..) ?_)
      (apply jA (rs:=[.cell 8 59]) [] 6;(case hr=>(repeat (first|exact jm|(apply jl;rfl)|(apply q9;rfl;rfl;rfl;rfl;rfl))));(case hL=>rfl);(case hh=>(repeat' (first|exact qq|refine kg ?_|refine yU ?_ ?_ ?_|refine vd ?_));all_goals (first|with_reducible exact qc _|with_reducible exact List.Perm.refl _|rfl|trace_state));(case hi=>exact rfl);(case hz=>first|rfl|(simp [j1,AV.ren,AV.ren.renL,jz,qN,jy];done)|(simp [j1,AV.ren,AV.ren.renL,jz,qN,jy, *];done)))
   | false =>
     rw [hM1] at at2
     refine key 1 (by unfold vV;rw [nT,XQ hM1]) ?_
     clear key
     generalize stT T p = tt at *
     generalize stT M p = mm at *
     refine qh (C:=C6) Tryz.func26 rfl _ Tryz.ntmps26 (Nat.le_of_ble_eq_true rfl) _ Tryz.results26 6 rfl rfl ?_
     repeat (first|refine qA ?_|(apply qd;apply jq;(case hm=>rfl);(case hn=>rfl);(case hk=>rfl);(case hT=>rfl);(case he=>rfl);(case hK=>rfl);(case hks=>rfl);(case hz=>exact qR);(case hzv=>exact jr);(case hx=>exact g1);(case hN=>exact nle rfl))|(apply qd;apply jq;(case hm=>rfl);(case hn=>rfl);(case hk=>rfl);(case hT=>rfl);(case he=>rfl);(case hK=>rfl);(case hks=>rfl);(case hz=>exact qR);(case hzv=>exact jr);(case hx=>exact g2);(case hN=>exact nle rfl))|(apply qd;apply jq;(case hm=>rfl);(case hn=>rfl);(case hk=>rfl);(case hT=>rfl);(case he=>rfl);(case hK=>rfl);(case hks=>rfl);(case hz=>exact qR);(case hzv=>exact jr);(case hx=>exact g3);(case hN=>exact nle rfl))|(apply qd;apply yQ;rfl;rfl;exact xO;exact yK _ _;(first|exact .inl ⟨rfl,rfl⟩|exact .inr ⟨rfl,rfl⟩);exact nle rfl)|refine xB Tryz.func63 (at1 ..) ?_|refine xB Tryz.func63 (at2 ..) ?_)
     (apply jA (rs:=[.cell 8 59]) [] 6;(case hr=>(repeat (first|exact jm|(apply jl;rfl)|(apply q9;rfl;rfl;rfl;rfl;rfl))));(case hL=>rfl);(case hh=>(repeat' (first|exact qq|refine kg ?_|refine yU ?_ ?_ ?_|refine vd ?_));all_goals (first|with_reducible exact qc _|with_reducible exact List.Perm.refl _|rfl|trace_state));(case hi=>exact rfl);(case hz=>first|rfl|(simp [j1,AV.ren,AV.ren.renL,jz,qN,jy];done)|(simp [j1,AV.ren,AV.ren.renL,jz,qN,jy, *];done)))
end Go.Proofs.YtnhpclmbhbblbaaGreatDoor
set_option linter.unusedSimpArgs false
set_option linter.unnecessarySimpa false
set_option linter.unusedVariables false
set_option maxHeartbeats 1000000
namespace Go.Proofs.YtnhpclmbhbblbaaGreatDoor
open Go.Ab Go.RowKit
set_option maxRecDepth 10000
attribute [local irreducible] Awp j4 jw js Red qU Go.Ab.Fin q6 Rz x6 jp jo ResOk jJ ju yb jx
def vy (l:List Cpy):AV := .sl false (l.map Cpy.row)
def zT (r:List Ent × List Cpy × Int):AV := .tup [qe r.1,vy r.2.1,.v (.int .i64 r.2.2)]
theorem KA {b m t:List Ent} (h:¬ qI b = 0):xi b m t = ([],[],qI b):=by
 unfold xi
 rw [show jd qI [b,m,t] = qI b from by simp [jd,h],if_neg h]
theorem Kl {b m t:List Ent} (hb:qI b = 0) (h:¬ qI m = 0):xi b m t = ([],[],qI m):=by
 unfold xi
 rw [show jd qI [b,m,t] = qI m from by simp [jd,h,hb],if_neg h]
theorem Kx {b m t:List Ent} (hb:qI b = 0) (hm:qI m = 0) (h:¬ qI t = 0):xi b m t = ([],[],qI t):=by
 unfold xi
 rw [show jd qI [b,m,t] = qI t from by simp [jd,h,hb,hm],if_neg h]
theorem QG {b m t:List Ent} (hb:qI b = 0) (hm:qI m = 0) (ht:qI t = 0):xi b m t = x0 b m t:=by
 unfold xi
 rw [show jd qI [b,m,t] = 0 from by simp [jd,ht,hb,hm],if_pos rfl]
theorem Kr (t:List Ent):(qm t).length = t.length:=by
 have:=congrArg List.length (x7 t)
 simpa using this
theorem qaK {m t o:List Ent} (ho:MInv o) {e:Ent} (he:e ∈ o):qaH m t o e.path = vi m t e:=by
 have hl:q5 o e.path = some e:=zk ho.rise he
 have h1:stT o e.path = yL e:=by unfold stT;rw [hl]
 unfold qaH
 rw [h1,WN (ho.ent e he)]
 unfold vi vV vu qb9
 rfl
theorem qbA {o:List Ent} (ho:MInv o) {e:Ent} (he:e ∈ o):¬ (stT o e.path).kind = 0:=by
 rw [Xm,zk ho.rise he];exact nofun
set_option maxHeartbeats 4000000 in
theorem XZ (B M T:List Ent) (bB:EBig B) (bM:EBig M) (bT:EBig T):vg C.P 7 [qe B,qe M,qe T] (zT (xi B M T)):=by
 have cB:=JX B bB
 have cM:=JX M bM
 have cT:=JX T bT
 refine qh Tryz.func7 rfl _ Tryz.ntmps7 (Nat.le_of_ble_eq_true rfl) _ Tryz.results7 0 rfl rfl ?_
 repeat' (first|refine qA ?_|(first|(refine yh ?_))|((first|refine qk ?_ ?_|refine ql ?_ ?_|refine jg ?_ ?_);all_goals (intro hc;have hp:=hc;try simp at hp;try (exfalso;omega)))|refine jh ?_ ?_)
 all_goals try (exfalso;omega)
 (refine Awp.red (qX (ts:=[(0,qe B),(1,qe M),(2,qe T),(19,.sl true [[qe B],[qe M],[qe T]]),(20,.v (.int .i64 3)),(21,.v (.int .i64 ((0:Nat):Int)))]) ?_) ?_;((repeat (first|exact qi|refine qz ?_|refine ji ?_ ?_))))
 refine jf (fun n σ => ∃ i:Nat,i ≤ 3 ∧ n = 3 - i ∧ ((1 ≤ i → qI B = 0) ∧ (2 ≤ i → qI M = 0) ∧ (3 ≤ i → qI T = 0)) ∧ σ = ⟨[(0,qe B),(1,qe M),(2,qe T),(19,.sl true [[qe B],[qe M],[qe T]]),(20,.v (.int .i64 3)),(21,.v (.int .i64 (i:Int)))],[],C.nh⟩) 3 ⟨0,by omega,rfl,⟨by omega,by omega,by omega⟩,rfl⟩ ?_
 rintro n σ ⟨i,hi,rfl,⟨e1,e2,e3⟩,rfl⟩
 rcases show i = 0 ∨ i = 1 ∨ i = 2 ∨ i = 3 from by omega with rfl|rfl|rfl|rfl
 ·have hrow:([[qe B],[qe M],[qe T]]:List (List AV))[0]? = some [qe B]:=rfl
  by_cases h0:qI B = 0
  ·rw [h0] at cB
   repeat' (first|refine qA ?_|(first|refine jM Tryz.func15 (cB ..) ?_)|((first|refine qk ?_ ?_|refine ql ?_ ?_|refine jg ?_ ?_);all_goals (intro hc;have hp:=hc;try simp at hp;try (exfalso;omega)))|refine jh ?_ ?_)
   all_goals try (exfalso;first|omega|contradiction)
   refine ⟨3 - 1,_,by omega,qX (ts:=[(0,qe B),(1,qe M),(2,qe T),(19,.sl true [[qe B],[qe M],[qe T]]),(20,.v (.int .i64 3)),(21,.v (.int .i64 ((1:Nat):Int)))]) ?_,1,by omega,rfl,⟨fun _=>h0,by omega,by omega⟩,rfl⟩;((repeat (first|exact qi|refine qz ?_|refine ji ?_ ?_)))
  ·rw [KA h0]
   generalize qI B = E at *
   repeat' (first|refine qA ?_|(first|refine jM Tryz.func15 (cB ..) ?_)|((first|refine qk ?_ ?_|refine ql ?_ ?_|refine jg ?_ ?_);all_goals (intro hc;have hp:=hc;try simp at hp;try (exfalso;omega)))|refine jh ?_ ?_)
   all_goals try (exfalso;first|omega|contradiction)
   unfold zT vy
   (exact QE (rs:=[.tmp 6,.tmp 7,.tmp 8]))
 ·have hrow:([[qe B],[qe M],[qe T]]:List (List AV))[1]? = some [qe M]:=rfl
  by_cases h0:qI M = 0
  ·rw [h0] at cM
   repeat' (first|refine qA ?_|(first|refine jM Tryz.func15 (cM ..) ?_)|((first|refine qk ?_ ?_|refine ql ?_ ?_|refine jg ?_ ?_);all_goals (intro hc;have hp:=hc;try simp at hp;try (exfalso;omega)))|refine jh ?_ ?_)
   all_goals try (exfalso;first|omega|contradiction)
   refine ⟨3 - 2,_,by omega,qX (ts:=[(0,qe B),(1,qe M),(2,qe T),(19,.sl true [[qe B],[qe M],[qe T]]),(20,.v (.int .i64 3)),(21,.v (.int .i64 ((2:Nat):Int)))]) ?_,2,by omega,rfl,⟨fun _=>e1 (by omega),fun _=>h0,by omega⟩,rfl⟩;((repeat (first|exact qi|refine qz ?_|refine ji ?_ ?_)))
  ·rw [Kl (e1 (by omega)) h0]
   generalize qI M = E at *
   repeat' (first|refine qA ?_|(first|refine jM Tryz.func15 (cM ..) ?_)|((first|refine qk ?_ ?_|refine ql ?_ ?_|refine jg ?_ ?_);all_goals (intro hc;have hp:=hc;try simp at hp;try (exfalso;omega)))|refine jh ?_ ?_)
   all_goals try (exfalso;first|omega|contradiction)
   unfold zT vy
   (exact QE (rs:=[.tmp 6,.tmp 7,.tmp 8]))
 ·have hrow:([[qe B],[qe M],[qe T]]:List (List AV))[2]? = some [qe T]:=rfl
  by_cases h0:qI T = 0
  ·rw [h0] at cT
   repeat' (first|refine qA ?_|(first|refine jM Tryz.func15 (cT ..) ?_)|((first|refine qk ?_ ?_|refine ql ?_ ?_|refine jg ?_ ?_);all_goals (intro hc;have hp:=hc;try simp at hp;try (exfalso;omega)))|refine jh ?_ ?_)
   all_goals try (exfalso;first|omega|contradiction)
   refine ⟨3 - 3,_,by omega,qX (ts:=[(0,qe B),(1,qe M),(2,qe T),(19,.sl true [[qe B],[qe M],[qe T]]),(20,.v (.int .i64 3)),(21,.v (.int .i64 ((3:Nat):Int)))]) ?_,3,by omega,rfl,⟨fun _=>e1 (by omega),fun _=>e2 (by omega),fun _=>h0⟩,rfl⟩;((repeat (first|exact qi|refine qz ?_|refine ji ?_ ?_)))
  ·rw [Kx (e1 (by omega)) (e2 (by omega)) h0]
   generalize qI T = E at *
   repeat' (first|refine qA ?_|(first|refine jM Tryz.func15 (cT ..) ?_)|((first|refine qk ?_ ?_|refine ql ?_ ?_|refine jg ?_ ?_);all_goals (intro hc;have hp:=hc;try simp at hp;try (exfalso;omega)))|refine jh ?_ ?_)
   all_goals try (exfalso;first|omega|contradiction)
   unfold zT vy
   (exact QE (rs:=[.tmp 6,.tmp 7,.tmp 8]))
 have h1:=e1 (by omega)
 have h2:=e2 (by omega)
 have h3:=e3 (by omega)
 rw [QG h1 h2 h3]
 clear e1 e2 e3 cB cM cT
 have rB:=xl.1 h1
 have rM:=xl.1 h2
 have rT:=xl.1 h3
 have lB:=rB.len
 have lM:=rM.len
 have lT:=rT.len
 have s1:=Yy B rB.rise (by omega)
 have s2:=Yy M rM.rise (by omega)
 have s3:=Yy T rT.rise (by omega)
 have hm:=qbh B M T rB rM rT
 repeat' (first|refine qA ?_|(first|fail)|((first|refine qk ?_ ?_|refine ql ?_ ?_|refine jg ?_ ?_);all_goals (intro hc;have hp:=hc;try simp at hp;try (exfalso;omega)))|refine jh ?_ ?_)
 all_goals try (exfalso;first|omega|contradiction)
 apply xe Tryz.func23 rfl rfl
 intro hIsFn
 refine yN [] [0] [(0,.mp (qm B))] 1 (.mp 0) hIsFn (s1) (by ((repeat' (first|exact q1|apply qP|exact qZ rfl|exact jt|(apply qj;apply qB;exact .inr (of_decide_eq_true rfl))|(apply qj;apply qr;exact .inr (of_decide_eq_true rfl))|(apply qj;apply qy;exact .inr (of_decide_eq_true rfl))|apply jc|apply jb)))<;>fail) (by ((repeat' (first|exact qC|exact qD|refine qu _ ?_ ?_|refine qv ?_ ?_|exact qp|exact qa (qc _)|exact qa (qG _)|exact qa (qo _)|exact qt (fun _=>rfl)|refine qw ?_|exact qg|apply qb|exact qf rfl|(apply qr;exact .inr (of_decide_eq_true rfl))|(apply qy;exact .inr (of_decide_eq_true rfl))|(apply qB;exact .inr (of_decide_eq_true rfl))|fail)))<;>fail) (by ((repeat' (first|exact qC|exact qD|refine qu _ ?_ ?_|refine qv ?_ ?_|exact qp|exact qa (qc _)|exact qa (qG _)|exact qa (qo _)|exact qt (fun _=>rfl)|refine qw ?_|exact qg|apply qb|exact qf rfl|(apply qr;exact .inr (of_decide_eq_true rfl))|(apply qy;exact .inr (of_decide_eq_true rfl))|(apply qB;exact .inr (of_decide_eq_true rfl))|fail)))<;>fail) ?_
 repeat' (first|refine qA ?_|(first|fail)|((first|refine qk ?_ ?_|refine ql ?_ ?_|refine jg ?_ ?_);all_goals (intro hc;have hp:=hc;try simp at hp;try (exfalso;omega)))|refine jh ?_ ?_)
 apply xe Tryz.func23 rfl rfl
 intro hIsFn
 refine yN [] [1] [(1,.mp (qm M))] 2 (.mp 1) hIsFn (s2) (by ((repeat' (first|exact q1|apply qP|exact qZ rfl|exact jt|(apply qj;apply qB;exact .inr (of_decide_eq_true rfl))|(apply qj;apply qr;exact .inr (of_decide_eq_true rfl))|(apply qj;apply qy;exact .inr (of_decide_eq_true rfl))|apply jc|apply jb)))<;>fail) (by ((repeat' (first|exact qC|exact qD|refine qu _ ?_ ?_|refine qv ?_ ?_|exact qp|exact qa (qc _)|exact qa (qG _)|exact qa (qo _)|exact qt (fun _=>rfl)|refine qw ?_|exact qg|apply qb|exact qf rfl|(apply qr;exact .inr (of_decide_eq_true rfl))|(apply qy;exact .inr (of_decide_eq_true rfl))|(apply qB;exact .inr (of_decide_eq_true rfl))|fail)))<;>fail) (by ((repeat' (first|exact qC|exact qD|refine qu _ ?_ ?_|refine qv ?_ ?_|exact qp|exact qa (qc _)|exact qa (qG _)|exact qa (qo _)|exact qt (fun _=>rfl)|refine qw ?_|exact qg|apply qb|exact qf rfl|(apply qr;exact .inr (of_decide_eq_true rfl))|(apply qy;exact .inr (of_decide_eq_true rfl))|(apply qB;exact .inr (of_decide_eq_true rfl))|fail)))<;>fail) ?_
 repeat' (first|refine qA ?_|(first|fail)|((first|refine qk ?_ ?_|refine ql ?_ ?_|refine jg ?_ ?_);all_goals (intro hc;have hp:=hc;try simp at hp;try (exfalso;omega)))|refine jh ?_ ?_)
 apply xe Tryz.func23 rfl rfl
 intro hIsFn
 refine yN [] [2] [(2,.mp (qm T))] 3 (.mp 2) hIsFn (s3) (by ((repeat' (first|exact q1|apply qP|exact qZ rfl|exact jt|(apply qj;apply qB;exact .inr (of_decide_eq_true rfl))|(apply qj;apply qr;exact .inr (of_decide_eq_true rfl))|(apply qj;apply qy;exact .inr (of_decide_eq_true rfl))|apply jc|apply jb)))<;>fail) (by ((repeat' (first|exact qC|exact qD|refine qu _ ?_ ?_|refine qv ?_ ?_|exact qp|exact qa (qc _)|exact qa (qG _)|exact qa (qo _)|exact qt (fun _=>rfl)|refine qw ?_|exact qg|apply qb|exact qf rfl|(apply qr;exact .inr (of_decide_eq_true rfl))|(apply qy;exact .inr (of_decide_eq_true rfl))|(apply qB;exact .inr (of_decide_eq_true rfl))|fail)))<;>fail) (by ((repeat' (first|exact qC|exact qD|refine qu _ ?_ ?_|refine qv ?_ ?_|exact qp|exact qa (qc _)|exact qa (qG _)|exact qa (qo _)|exact qt (fun _=>rfl)|refine qw ?_|exact qg|apply qb|exact qf rfl|(apply qr;exact .inr (of_decide_eq_true rfl))|(apply qy;exact .inr (of_decide_eq_true rfl))|(apply qB;exact .inr (of_decide_eq_true rfl))|fail)))<;>fail) ?_
 repeat' (first|refine qA ?_|(first|(apply y2;apply zl;exact nle rfl))|((first|refine qk ?_ ?_|refine ql ?_ ?_|refine jg ?_ ?_);all_goals (intro hc;have hp:=hc;try simp at hp;try (exfalso;omega)))|refine jh ?_ ?_)
 apply xe Tryz.func24 rfl rfl
 intro hIsFn
 unfold x0
 cases hS:xJ B M T with
 | none =>
   rw [hS] at hm
   refine yN [4,0,1,2,3] [] [(4,.dead),(0,.dead),(1,.dead),(2,.dead),(3,.dead)] 5 (.v (.bool false)) hIsFn (hm) (by ((repeat' (first|exact q1|apply qP|exact qZ rfl|exact jt|(apply qj;apply qB;exact .inr (of_decide_eq_true rfl))|(apply qj;apply qr;exact .inr (of_decide_eq_true rfl))|(apply qj;apply qy;exact .inr (of_decide_eq_true rfl))|apply jc|apply jb)))<;>fail) (by ((repeat' (first|exact qC|exact qD|refine qu _ ?_ ?_|refine qv ?_ ?_|exact qp|exact qa (qc _)|exact qa (qG _)|exact qa (qo _)|exact qt (fun _=>rfl)|refine qw ?_|exact qg|apply qb|exact qf rfl|(apply qr;exact .inr (of_decide_eq_true rfl))|(apply qy;exact .inr (of_decide_eq_true rfl))|(apply qB;exact .inr (of_decide_eq_true rfl))|exact qa (qc []))))<;>fail) (by ((repeat' (first|exact qC|exact qD|refine qu _ ?_ ?_|refine qv ?_ ?_|exact qp|exact qa (qc _)|exact qa (qG _)|exact qa (qo _)|exact qt (fun _=>rfl)|refine qw ?_|exact qg|apply qb|exact qf rfl|(apply qr;exact .inr (of_decide_eq_true rfl))|(apply qy;exact .inr (of_decide_eq_true rfl))|(apply qB;exact .inr (of_decide_eq_true rfl))|fail)))<;>fail) ?_
   repeat' (first|refine qA ?_|(first|fail)|((first|refine qk ?_ ?_|refine ql ?_ ?_|refine jg ?_ ?_);all_goals (intro hc;have hp:=hc;try simp at hp;try (exfalso;omega)))|refine jh ?_ ?_)
   all_goals try (exfalso;first|omega|contradiction)
   unfold zT vy
   (exact QE (rs:=[.tmp 6,.tmp 7,.tmp 8]))
 | some s =>
   rw [hS] at hm
   have iS:=(Qm rB rM rT hS).1
   refine yN [4,0,1,2,3] [5] [(4,.own false 5 [[.mp 0,.mp 1,.mp 2,.mp 3,.os 5 0 s.cps.length]]),(0,.mp (qm B)),(1,.mp (qm M)),(2,.mp (qm T)),(3,.mp (qm s.out)),(5,.own false 2 (s.cps.map Cpy.row))] 6 (.v (.bool true)) hIsFn (hm) (by ((repeat' (first|exact q1|apply qP|exact qZ rfl|exact jt|(apply qj;apply qB;exact .inr (of_decide_eq_true rfl))|(apply qj;apply qr;exact .inr (of_decide_eq_true rfl))|(apply qj;apply qy;exact .inr (of_decide_eq_true rfl))|apply jc|apply jb)))<;>fail) (by ((repeat' (first|exact qC|exact qD|refine qu _ ?_ ?_|refine qv ?_ ?_|exact qp|exact qa (qc _)|exact qa (qG _)|exact qa (qo _)|exact qt (fun _=>rfl)|refine qw ?_|exact qg|apply qb|exact qf rfl|(apply qr;exact .inr (of_decide_eq_true rfl))|(apply qy;exact .inr (of_decide_eq_true rfl))|(apply qB;exact .inr (of_decide_eq_true rfl))|exact qa (qc []))))<;>fail) (by ((repeat' (first|exact qC|exact qD|refine qu _ ?_ ?_|refine qv ?_ ?_|exact qp|exact qa (qc _)|exact qa (qG _)|exact qa (qo _)|exact qt (fun _=>rfl)|refine qw ?_|exact qg|apply qb|exact qf rfl|(apply qr;exact .inr (of_decide_eq_true rfl))|(apply qy;exact .inr (of_decide_eq_true rfl))|(apply qB;exact .inr (of_decide_eq_true rfl))|fail)))<;>fail) ?_
   have lo:=Kr s.out
   by_cases h60:60 < s.out.length
   ·dsimp only
    rw [if_pos h60]
    repeat' (first|refine qA ?_|(first|(apply qd;apply YU;rfl;rfl;rfl;rfl;exact nle rfl))|((first|refine qk ?_ ?_|refine ql ?_ ?_|refine jg ?_ ?_);all_goals (intro hc;have hp:=hc;try simp at hp;try (exfalso;omega)))|refine jh ?_ ?_)
    all_goals try (exfalso;first|omega|contradiction)
    all_goals unfold zT vy
    all_goals ((exact QE (rs:=[.tmp 6,.tmp 7,.tmp 8])))
   dsimp only
   rw [if_neg h60]
   have lK:(s.out.map Ent.path).length = s.out.length:=List.length_map ..
   have ap:=Js (qm s.out) (s.out.map Ent.path) (YO iS.rise) (by rw [x7]) (by rw [lK];omega) (fun x hx=>by
    obtain ⟨e,he,rfl⟩:=List.mem_map.1 hx
    exact Nat.le_trans (jD (yR (iS.ent e he)).1) (by decide))
   have hent : ∀ e,e ∈ s.out → q6 C6.P 26 [.op 0 0 0,.v (str e.path),qe M,qe T] (H6 B M T s.out s.cps) (.agg (vi M T e).row) (H6 B M T s.out s.cps):=fun e he=>by
    have:=qaz B M T s.out s.cps e.path rM.rise rT.rise lM lT (qbA iS he)
    rwa [qaK iS he] at this
   generalize hO:s.out = O at *
   generalize s.cps = cs at *
   repeat' (first|refine qA ?_|(first|(apply qd;apply YU;rfl;rfl;rfl;rfl;exact nle rfl))|((first|refine qk ?_ ?_|refine ql ?_ ?_|refine jg ?_ ?_);all_goals (intro hc;have hp:=hc;try simp at hp;try (exfalso;omega)))|refine jh ?_ ?_)
   all_goals try (exfalso;first|omega|contradiction)
   apply xe Tryz.func25 rfl rfl
   intro hIsFn2
   refine yN [3] [6] [(3,.mp (qm O)),(6,.own false 1 ((O.map Ent.path).map q2))] 7 (.os 6 0 (O.map Ent.path).length) hIsFn2 (ap) (by ((repeat' (first|exact q1|apply qP|exact qZ rfl|exact jt|(apply qj;apply qB;exact .inr (of_decide_eq_true rfl))|(apply qj;apply qr;exact .inr (of_decide_eq_true rfl))|(apply qj;apply qy;exact .inr (of_decide_eq_true rfl))|apply jc|apply jb)))<;>fail) (by ((repeat' (first|exact qC|exact qD|refine qu _ ?_ ?_|refine qv ?_ ?_|exact qp|exact qa (qc _)|exact qa (qG _)|exact qa (qo _)|exact qt (fun _=>rfl)|refine qw ?_|exact qg|apply qb|exact qf rfl|(apply qr;exact .inr (of_decide_eq_true rfl))|(apply qy;exact .inr (of_decide_eq_true rfl))|(apply qB;exact .inr (of_decide_eq_true rfl))|fail)))<;>fail) (by ((repeat' (first|exact qC|exact qD|refine qu _ ?_ ?_|refine qv ?_ ?_|exact qp|exact qa (qc _)|exact qa (qG _)|exact qa (qo _)|exact qt (fun _=>rfl)|refine qw ?_|exact qg|apply qb|exact qf rfl|(apply qr;exact .inr (of_decide_eq_true rfl))|(apply qy;exact .inr (of_decide_eq_true rfl))|(apply qB;exact .inr (of_decide_eq_true rfl))|fail)))<;>fail) ?_
   repeat' (first|refine qA ?_|(first|fail)|((first|refine qk ?_ ?_|refine ql ?_ ?_|refine jg ?_ ?_);all_goals (intro hc;have hp:=hc;try simp at hp;try (exfalso;omega)))|refine jh ?_ ?_)
   all_goals try (exfalso;first|omega|contradiction)
   clear ap
   refine Awp.red (we 13 4 rfl (Nat.zero_le _)) ?_
   (refine Awp.red (qL (τ:=⟨[(1,qe M),(2,qe T),(12,.op 4 0 0),(13,.os 7 0 ((O.take 0).map (vi M T)).length),(55,.os 6 0 (O.map Ent.path).length),(56,.v (.int .i64 O.length)),(57,.v (.int .i64 ((0:Nat):Int)))],[(0,.mp (qm B)),(1,.mp (qm M)),(2,.mp (qm T)),(3,.mp (qm O)),(4,.own false 5 [[.mp 0,.mp 1,.mp 2,.mp 3,.os 5 0 cs.length]]),(5,.own false 2 (cs.map Cpy.row)),(6,.own false 1 ((O.map Ent.path).map q2)),(7,.own false 4 (((O.take 0).map (vi M T)).map Ent.row))],8⟩) [(4,4),(7,7),(6,6),(5,5),(0,0),(1,1),(2,2),(3,3)] rfl ?_ ?_) ?_;rotate_left 2;rotate_left 1;(focus ((repeat (first|exact qi|refine qz ?_|refine xo ?_|refine yy ?_|refine yu ?_ ?_|refine qbs ?_|refine ji ?_ ?_));all_goals (first|rfl|(rw [lK];done)|trace_state)));(focus ((repeat' (first|exact qq|refine qbp ?_ ?_ ?_|refine vH ?_|refine yq ?_ ?_|refine ym ?_ ?_|exact qg|apply qb|exact qf rfl|(apply qr;(refine .inr ?_;(repeat (first|exact List.mem_cons_self ..|apply List.mem_cons_of_mem))))|(apply qy;(refine .inr ?_;(repeat (first|exact List.mem_cons_self ..|apply List.mem_cons_of_mem))))));all_goals (first|with_reducible exact qc _|with_reducible exact List.Perm.refl _|rfl|trace_state))))
   refine jf (fun n σ => ∃ i:Nat,i ≤ O.length ∧ n = O.length - i ∧ True ∧ σ = ⟨[(1,qe M),(2,qe T),(12,.op 4 0 0),(13,.os 7 0 ((O.take i).map (vi M T)).length),(55,.os 6 0 (O.map Ent.path).length),(56,.v (.int .i64 O.length)),(57,.v (.int .i64 (i:Int)))],[(0,.mp (qm B)),(1,.mp (qm M)),(2,.mp (qm T)),(3,.mp (qm O)),(4,.own false 5 [[.mp 0,.mp 1,.mp 2,.mp 3,.os 5 0 cs.length]]),(5,.own false 2 (cs.map Cpy.row)),(6,.own false 1 ((O.map Ent.path).map q2)),(7,.own false 4 (((O.take i).map (vi M T)).map Ent.row))],8⟩) O.length ⟨0,by omega,rfl,trivial,rfl⟩ ?_
   rintro n σ ⟨i,hi,rfl, -,rfl⟩
   by_cases hlt:i < O.length
   ·have hrow:((O.map Ent.path).map q2)[i]? = some (q2 O[i].path):=by rw [List.getElem?_map,List.getElem?_map,List.getElem?_eq_getElem hlt];rfl
    have hen:=hent O[i] (List.getElem_mem hlt)
    have hlt2:i < (O.map Ent.path).length:=by rw [lK];exact hlt
    have hlen:((O.take i).map (vi M T)).length = i:=by rw [List.length_map,List.length_take];omega
    have hlen2:((O.take (i + 1)).map (vi M T)).length = i + 1:=by rw [List.length_map,List.length_take];omega
    have hstep:(((O.take i).map (vi M T)).map Ent.row).take ((O.take i).map (vi M T)).length ++ [(vi M T O[i]).row] = ((O.take (i + 1)).map (vi M T)).map Ent.row:=by
     rw [List.take_of_length_le (by simp),List.take_succ_eq_append_getElem hlt,List.map_append,List.map_append];rfl
    clear hent
    repeat' (first|refine qA ?_|(first|(refine x8 ?_))|((first|refine qk ?_ ?_|refine ql ?_ ?_|refine jg ?_ ?_);all_goals (intro hc;have hp:=hc;try simp at hp;try (exfalso;omega)))|refine jh ?_ ?_)
    all_goals try (exfalso;first|omega|contradiction)
    apply xe Tryz.func26 rfl rfl
    intro hIsFn3
    refine yN [4,0,1,2,3,5] [] [(4,.own false 5 [[.mp 0,.mp 1,.mp 2,.mp 3,.os 5 0 cs.length]]),(0,.mp (qm B)),(1,.mp (qm M)),(2,.mp (qm T)),(3,.mp (qm O)),(5,.own false 2 (cs.map Cpy.row))] 8 (.agg (vi M T O[i]).row) hIsFn3 (hen) (by ((repeat' (first|exact q1|apply qP|exact qZ rfl|exact jt|(apply qj;apply qB;exact .inr (of_decide_eq_true rfl))|(apply qj;apply qr;exact .inr (of_decide_eq_true rfl))|(apply qj;apply qy;exact .inr (of_decide_eq_true rfl))|apply jc|apply jb)))<;>fail) (by ((repeat' (first|exact qC|exact qD|refine qu _ ?_ ?_|refine qv ?_ ?_|exact qp|exact qa (qc _)|exact qa (qG _)|exact qa (qo _)|exact qt (fun _=>rfl)|refine qw ?_|exact qg|apply qb|exact qf rfl|(apply qr;exact .inr (of_decide_eq_true rfl))|(apply qy;exact .inr (of_decide_eq_true rfl))|(apply qB;exact .inr (of_decide_eq_true rfl))|fail)))<;>fail) (by ((repeat' (first|exact qC|exact qD|refine qu _ ?_ ?_|refine qv ?_ ?_|exact qp|exact qa (qc _)|exact qa (qG _)|exact qa (qo _)|exact qt (fun _=>rfl)|refine qw ?_|exact qg|apply qb|exact qf rfl|(apply qr;exact .inr (of_decide_eq_true rfl))|(apply qy;exact .inr (of_decide_eq_true rfl))|(apply qB;exact .inr (of_decide_eq_true rfl))|fail)))<;>fail) ?_
    generalize vi M T O[i] = e at *
    repeat' (first|refine qA ?_|(first|(refine yh ?_)|(refine yX ?_))|((first|refine qk ?_ ?_|refine ql ?_ ?_|refine jg ?_ ?_);all_goals (intro hc;have hp:=hc;try simp at hp;try (exfalso;omega)))|refine jh ?_ ?_)
    all_goals try (exfalso;first|omega|contradiction)
    refine ⟨O.length - (i + 1),⟨[(1,qe M),(2,qe T),(12,.op 4 0 0),(13,.os 7 0 ((O.take (i + 1)).map (vi M T)).length),(55,.os 6 0 (O.map Ent.path).length),(56,.v (.int .i64 O.length)),(57,.v (.int .i64 ((i + 1:Nat):Int)))],[(0,.mp (qm B)),(1,.mp (qm M)),(2,.mp (qm T)),(3,.mp (qm O)),(4,.own false 5 [[.mp 0,.mp 1,.mp 2,.mp 3,.os 5 0 cs.length]]),(5,.own false 2 (cs.map Cpy.row)),(6,.own false 1 ((O.map Ent.path).map q2)),(7,.own false 4 (((O.take (i + 1)).map (vi M T)).map Ent.row))],8⟩,by omega,?_,i + 1,by omega,rfl,trivial,rfl⟩;(skip);refine qL [(4,4),(8,7),(6,6),(5,5),(0,0),(1,1),(2,2),(3,3)] rfl ?_ ?_;(focus ((repeat (first|exact qi|refine qz ?_|refine xo ?_|refine yy ?_|refine yu ?_ ?_|refine qbs ?_|refine ji ?_ ?_));all_goals (first|rfl|(rw [hlen,hlen2];rfl)|omega|trace_state)));(focus ((repeat' (first|exact qq|refine qbp ?_ ?_ ?_|refine vH ?_|refine yq ?_ ?_|refine ym ?_ ?_|exact qg|apply qb|exact qf rfl|(apply qr;(refine .inr ?_;(repeat (first|exact List.mem_cons_self ..|apply List.mem_cons_of_mem))))|(apply qy;(refine .inr ?_;(repeat (first|exact List.mem_cons_self ..|apply List.mem_cons_of_mem))))));all_goals (first|with_reducible exact qc _|with_reducible exact List.Perm.refl _|exact hstep|rfl|trace_state)))
   obtain rfl:i = O.length:=by omega
   rw [List.take_length]
   clear hent
   repeat' (first|refine qA ?_|(first|fail)|((first|refine qk ?_ ?_|refine ql ?_ ?_|refine jg ?_ ?_);all_goals (intro hc;have hp:=hc;try simp at hp;try (exfalso;omega)))|refine jh ?_ ?_)
   all_goals try (exfalso;first|omega|contradiction)
   unfold zT vy
   (exact QE (rs:=[.tmp 6,.tmp 7,.tmp 8]))
end Go.Proofs.YtnhpclmbhbblbaaGreatDoor
set_option linter.unusedSimpArgs false
set_option linter.unnecessarySimpa false
set_option linter.unusedVariables false
set_option maxHeartbeats 1000000
namespace Go.Proofs.YtnhpclmbhbblbaaGreatDoor
open Go.Ab Go.RowKit
set_option maxRecDepth 10000
attribute [local irreducible] Awp j4 jw js Red qU Go.Ab.Fin q6 Rz x6 jp jo ResOk jJ ju yb jx
theorem XO:vg C.P 11 [] (.v (.bool true)):=by
 have h1:vg C.P 7 [.sl false [],.sl false [[.v (str [102]),.v (.bool false),.v (str [49]),.v (.int .i64 1)]],.sl false [[.v (str [102]),.v (.bool false),.v (str [50]),.v (.int .i64 3)]]] (zT ([⟨[102],false,[50],3⟩,⟨[102,32,40,49,41],false,[49],1⟩],[⟨[102],[102,32,40,49,41]⟩],0)):=by
  have h:=XZ [] [⟨[102],false,[49],1⟩] [⟨[102],false,[50],3⟩] ⟨by simp,by simp⟩ ⟨by simp [Ent.small],by simp⟩ ⟨by simp [Ent.small],by simp⟩
  rw [show xi [] [⟨[102],false,[49],1⟩] [⟨[102],false,[50],3⟩] = ([⟨[102],false,[50],3⟩,⟨[102,32,40,49,41],false,[49],1⟩],[⟨[102],[102,32,40,49,41]⟩],0) from by decide +kernel] at h
  exact h
 refine qh Tryz.func11 rfl _ Tryz.ntmps11 (Nat.le_of_ble_eq_true rfl) _ Tryz.results11 0 rfl rfl ?_
 repeat' (first|refine qA ?_|(first|(refine yh ?_)|refine xB Tryz.func7 (h1 ..) ?_)|((first|refine qk ?_ ?_|refine ql ?_ ?_|refine jg ?_ ?_);all_goals (intro hc;have hp:=hc;try simp at hp;try (exfalso;omega)))|refine jh ?_ ?_)
 all_goals try (exfalso;simp_all;done)
 all_goals (apply yE;rfl;simp;done)
end Go.Proofs.YtnhpclmbhbblbaaGreatDoor
set_option linter.unusedSimpArgs false
set_option linter.unnecessarySimpa false
set_option linter.unusedVariables false
set_option maxHeartbeats 1000000
namespace Go.Proofs.YtnhpclmbhbblbaaGreatDoor
open Go.Ab Go.RowKit
set_option maxRecDepth 10000
attribute [local irreducible] Awp j4 jw js Red qU Go.Ab.Fin q6 Rz x6 jp jo ResOk jJ ju yb jx
end Go.Proofs.YtnhpclmbhbblbaaGreatDoor
set_option linter.unusedSimpArgs false
set_option linter.unnecessarySimpa false
set_option linter.unusedVariables false
namespace Go.Proofs.YtnhpclmbhbblbaaGreatDoor
open Go.Ab
theorem VR (L l:List qJ):(L.foldl vf l).length ≤ l.length + L.length:=by
 have:=zM L l
 omega
theorem Z5 (b m t:List Ent):(xX b m t).length ≤ b.length + (m.length + t.length):=by
 have h:=VR ((b ++ (m ++ t)).map Ent.path) []
 rw [List.length_map,List.length_append,List.length_append,List.length_nil,Nat.zero_add] at h
 exact h
theorem qa2 {m t:List Ent} {s s' : MS} {q:qJ} (h:Qs m t s q = some s'):s'.cps.length ≤ s.cps.length + 1:=by
 unfold Qs at h
 split at h
 ·injection h with h;subst h;omega
 ·split at h
  ·have:=Jf h;simp at this;omega
  ·injection h with h;subst h;simp
theorem VI {m t:List Ent} : ∀ {qs:List qJ} {s s' : MS},vI m t qs s = some s' → s'.cps.length ≤ s.cps.length + qs.length
 | [],s,s',h=>by injection h with h;subst h;simp
 | q :: qs,s,s',h=>by
   unfold vI at h
   cases h1:Qs m t s q with
   | none=>rw [h1] at h;cases h
   | some s1 =>
     rw [h1] at h
     have h2:=qa2 h1
     have h3:=VI (qs:=qs) h
     simp only [List.length_cons]
     omega
theorem ZY : ∀ {L:List qJ},(∀ p,p ∈ L → qE p = 0) → (L.flatMap je).length ≤ 80 * L.length
 | [],_=>by simp
 | p :: L,h=>by
   have h1:=J0 (h p (List.mem_cons_self ..))
   have h2:=ZY (L:=L) fun q hq=>h q (List.mem_cons_of_mem _ hq)
   rw [List.flatMap_cons,List.length_append,List.length_cons]
   omega
theorem Zl {b m t:List Ent} {s:MS} (hb:Right b) (hm:Right m) (ht:Right t) (h:xJ b m t = some s):s.cps.length ≤ 1000000:=by
 unfold xJ at h
 have hP:=Z5 b m t
 have lb:=hb.len
 have lm:=hm.len
 have lt:=ht.len
 cases h1:Jy m t (jO b m t (xX b m t)) ⟨yC b m t (xX b m t),[]⟩ with
 | none=>rw [h1] at h;cases h
 | some s1 =>
   rw [h1] at h
   have g1:=VP h1
   have g2:=Xj h1
   have g3:=Qe b m t (xX b m t)
   have g4:=Qv b m t (xX b m t) []
   have g5:(yC b m t (xX b m t)).length ≤ 180:=by
    rw [List.length_nil,Nat.zero_add] at g4
    exact Nat.le_trans g4 (by omega)
   simp only [List.length_nil] at g1
   have hi:=Qz (s:=⟨yC b m t (xX b m t),[]⟩) (Jv hb hm ht) (kh hb hm ht) h1
   have f1:=ZY (L:=s1.out.map Ent.path) fun p hp=>by
    obtain ⟨x,hx,rfl⟩:=List.mem_map.1 hp
    exact (yR (hi.ent x hx)).1
   have h2:=VI h
   rw [List.length_map] at f1
   simp only at g2
   omega
theorem Zc {b m t:List Ent} (hb:Right b) (hm:Right m) (ht:Right t) (h:(x0 b m t).2.2 = 0):(x0 b m t).2.1.length ≤ 1000000:=by
 unfold x0 at *
 cases hs:xJ b m t with
 | none=>simp
 | some s =>
   simp only
   split
   ·simp
   ·exact Zl hb hm ht hs
theorem QB {b m t:List Ent} (h:¬ (xi b m t).2.2 = 0):(xi b m t).1 = [] ∧ (xi b m t).2.1 = []:=by
 unfold xi at *
 split at h
 ·rename_i h1
  rw [if_pos h1]
  unfold x0 at *
  cases hs:xJ b m t with
  | none=>exact ⟨rfl,rfl⟩
  | some s =>
    rw [hs] at h
    simp only at h ⊢
    split at h
    ·rename_i h60;rw [if_pos h60];exact ⟨rfl,rfl⟩
    ·exact absurd rfl h
 ·rename_i h1
  rw [if_neg h1]
  exact ⟨rfl,rfl⟩
end Go.Proofs.YtnhpclmbhbblbaaGreatDoor
