import Derived.Test.YtnhpclmbhbblbaaGreatDoorMz32
import Derived.Test.YtnhpclmbhbblbaaGreatDoorMz31
import Derived.Test.YtnhpclmbhbblbaaGreatDoorMz26
import Derived.Test.YtnhpclmbhbblbaaGreatDoorMz15
import Derived.Test.YtnhpclmbhbblbaaGreatDoorMz12
set_option linter.unusedSimpArgs false
set_option linter.unnecessarySimpa false
set_option linter.unusedVariables false
set_option maxHeartbeats 1000000
namespace Go.Proofs.YtnhpclmbhbblbaaGreatDoor
open Go.Ab Go.RowKit
set_option maxRecDepth 10000
attribute [local irreducible] Awp yl jE jl Red qX Go.Ab.Fin qW Rz vl jj ji ResOk jV jz yb jv
def qfm (a b c:List qQ):Nat → List qQ
 | 0 => []
 | 1=>a
 | 2=>b
 | _=>c
set_option maxHeartbeats 16000000 in
theorem qfr (B M T:List Ent) (hB:Right B) (hM:Right M) (hT:Right T):qW C5.P 24 [.op 0 0 0] (H5 B M T) (.v (.bool (vI B M T).isSome)) (H8o B M T (vI B M T)):=by
 have lB:=hB.len
 have lM:=hM.len
 have lT:=hT.len
 have pth : ∀ u:List Ent,Right u → ∀ x,x ∈ u → x.path.length ≤ 1000000:=fun u hu x hx=>Nat.le_trans (qV (j5 (hu.ent x hx)).1) (by decide)
 have k1:=Jl (L:=B.map Ent.path) (l:=[]) List.Pairwise.nil
 have k2:=Jl (L:=M.map Ent.path) k1.1
 have k3:=Jl (L:=T.map Ent.path) k2.1
 have n1:=Qd (B.map Ent.path) []
 have n2:=Qd (M.map Ent.path) (ke B M T 1)
 have n3:=Qd (T.map Ent.path) (ke B M T 2)
 rw [List.length_map] at n1 n2 n3
 have lP:(zb B M T).length ≤ 180:=by
  rw [← Xv]
  have e1:(ke B M T 1).length ≤ 60:=by simp at n1;show ((B.map Ent.path).foldl zE []).length ≤ 60;omega
  have e2:(ke B M T 2).length ≤ 120:=by show ((M.map Ent.path).foldl zE (ke B M T 1)).length ≤ 120;omega
  show ((T.map Ent.path).foldl zE (ke B M T 2)).length ≤ 180
  omega
 have pall : ∀ i, ∀ s,s ∈ ke B M T i → s.length ≤ 1000000:=fun i s hs=>by
  have:s ∈ zb B M T:=by
   rw [← Xv]
   match i with
   | 0=>cases hs
   | 1=>exact (k3.2 s).2 (.inr ((k2.2 s).2 (.inr hs)))
   | 2=>exact (k3.2 s).2 (.inr hs)
   | i + 3=>exact hs
  exact Nat.le_trans (qV (Qs hB hM hT this)) (by decide)
 have cp1:=qaD [] (ke B M T 1) B List.nodup_nil (vY k1.1) (fun x=>by rw [show ke B M T 1 = (B.map Ent.path).foldl zE [] from rfl,k1.2 x];simp) (by simp) (by omega) (fun s hs=>by cases hs) (pth B hB)
 have cp2:=qaD (ke B M T 1) (ke B M T 2) M (vY k1.1) (vY k2.1) (fun x=>by exact (k2.2 x).trans Or.comm) (by show ((B.map Ent.path).foldl zE []).length ≤ _;simp at n1;omega) (by omega) (pall 1) (pth M hM)
 have cp3:=qaD (ke B M T 2) (ke B M T 3) T (vY k2.1) (vY k3.1) (fun x=>by exact (k3.2 x).trans Or.comm) (by show ((M.map Ent.path).foldl zE (ke B M T 1)).length ≤ _;simp at n1;simp [ke] at n2 ⊢;omega) (by omega) (pall 2) (pth T hT)
 rw [Xv] at cp3
 clear k1 k2 k3 n1 n2 n3
 generalize hK1:ke B M T 1 = K1 at *
 generalize hK2:ke B M T 2 = K2 at *
 refine qa (C:=C5) Tryz.func24 rfl _ Tryz.ntmps24 (Nat.le_of_ble_eq_true rfl) _ Tryz.results24 5 rfl rfl ?_
 refine Awp.red (Zf (C:=C5) 0 4 2 rfl rfl (Nat.le_refl _) (by decide)) ?_
 repeat' (first|refine qm ?_|(first|(apply xq;apply wu;exact nle rfl)|(apply xq;focus (apply Zv;rfl;rfl;rfl;rfl;rfl;rfl;rfl;exact nle rfl;exact nle rfl)))|((first|refine qd ?_ ?_|refine qc ?_ ?_|refine xsC ?_ ?_);all_goals (intro hc;have hp:=hc;try simp at hp;try (exfalso;omega)))|refine qO ?_ ?_)
 all_goals try (exfalso;omega)
 (refine Awp.red (qC (τ:=⟨[(0,.op 0 0 0),(3,.mp 6),(31,.os 7 0 3),(32,.v (.int .i64 3)),(33,.v (.int .i64 0))],[(0,.own false 5 [vm 5 0]),(1,.mp (qq B)),(2,.mp (qq M)),(3,.mp (qq T)),(4,.mp (qq [])),(5,.own false 2 []),(6,.mp (jk [])),(7,.own false 1 [[.mp 1],[.mp 2],[.mp 3]])],8⟩) [(5,5),(6,6),(7,7)] rfl ?gts2 ?ghs2) ?_;(case gts2=>(repeat (first|exact qg|refine qn ?_|refine ye ?_|refine xr ?_|refine ze ?_|refine xw ?_ ?_|refine qS ?_ ?_));all_goals (first|exact qi _|exact qU _|rfl|trace_state));(case ghs2=>(repeat' (first|exact qj|refine jt ?_|refine zz ?_|refine xY ?_ ?_ ?_|refine vh ?_ ?_|refine yH ?_ ?_|refine y9 ?_ ?_ ?_ ?_|refine q9 ?_ ?_|exact ql|apply qh|exact qk rfl|(apply qw;(first|exact qJ rfl|exact .inr (List.mem_cons_self ..)|exact .inr (List.mem_cons_of_mem _ (List.mem_cons_self ..))|exact .inr (List.mem_cons_of_mem _ (List.mem_cons_of_mem _ (List.mem_cons_self ..)))|exact .inr (List.mem_cons_of_mem _ (List.mem_cons_of_mem _ (List.mem_cons_of_mem _ (List.mem_cons_self ..))))))|refine jn ?_|refine yR ?_ rfl|with_reducible exact List.Perm.refl _));all_goals (first|exact qi _|exact qU _|rfl|trace_state)))
 refine qP (fun n σ => ∃ i:Nat,i ≤ 3 ∧ n = 3 - i ∧ True ∧ σ = ⟨[(0,.op 0 0 0),(3,.mp 6),(31,.os 7 0 3),(32,.v (.int .i64 3)),(33,.v (.int .i64 (i:Int)))],[(0,.own false 5 [vm 5 0]),(1,.mp (qq B)),(2,.mp (qq M)),(3,.mp (qq T)),(4,.mp (qq [])),(5,.own false 2 []),(6,.mp (jk (qfm K1 K2 (zb B M T) i))),(7,.own false 1 [[.mp 1],[.mp 2],[.mp 3]])],8⟩) 3 ⟨0,by omega,rfl,trivial,rfl⟩ ?_
 rintro n σ ⟨i,hi,rfl, -,rfl⟩
 rcases show i = 0 ∨ i = 1 ∨ i = 2 ∨ i = 3 from by omega with rfl|rfl|rfl|rfl
 ·repeat' (first|refine qm ?_|(first|(refine xX ?_))|((first|refine qd ?_ ?_|refine qc ?_ ?_|refine xsC ?_ ?_);all_goals (intro hc;have hp:=hc;try simp at hp;try (exfalso;omega)))|refine qO ?_ ?_)
  all_goals try (exfalso;first|omega|contradiction)
  apply jT Tryz.func56 rfl rfl
  intro hIsFn
  refine xQ [6,1] [] [(6,.mp (jk K1)),(1,.mp (qq B))] 8 (.tup []) hIsFn (cp1) (by ((repeat' (first|exact jf|apply q6|exact je rfl|exact jG|(apply qp;apply qI;exact .inr (of_decide_eq_true rfl))|(apply qp;apply qw;exact .inr (of_decide_eq_true rfl))|(apply qp;apply qF;exact .inr (of_decide_eq_true rfl))|apply jw|apply jx)))<;>fail) (by ((repeat' (first|exact qL|exact qK|refine qA _ ?_ ?_|refine qz ?_ ?_|exact qt|exact qe (qi _)|exact qe (qU _)|exact qe (qr _)|exact qx (fun _=>rfl)|refine qB ?_|exact ql|apply qh|exact qk rfl|(apply qw;exact .inr (of_decide_eq_true rfl))|(apply qF;exact .inr (of_decide_eq_true rfl))|(apply qI;exact .inr (of_decide_eq_true rfl))|fail)))<;>fail) (by ((repeat' (first|exact qL|exact qK|refine qA _ ?_ ?_|refine qz ?_ ?_|exact qt|exact qe (qi _)|exact qe (qU _)|exact qe (qr _)|exact qx (fun _=>rfl)|refine qB ?_|exact ql|apply qh|exact qk rfl|(apply qw;exact .inr (of_decide_eq_true rfl))|(apply qF;exact .inr (of_decide_eq_true rfl))|(apply qI;exact .inr (of_decide_eq_true rfl))|fail)))<;>fail) ?_
  repeat' (first|refine qm ?_|(first|(refine xX ?_))|((first|refine qd ?_ ?_|refine qc ?_ ?_|refine xsC ?_ ?_);all_goals (intro hc;have hp:=hc;try simp at hp;try (exfalso;omega)))|refine qO ?_ ?_)
  refine ⟨3 - 1,_,by omega,qC (τ:=⟨[(0,.op 0 0 0),(3,.mp 6),(31,.os 7 0 3),(32,.v (.int .i64 3)),(33,.v (.int .i64 ((1:Nat):Int)))],[(0,.own false 5 [vm 5 0]),(1,.mp (qq B)),(2,.mp (qq M)),(3,.mp (qq T)),(4,.mp (qq [])),(5,.own false 2 []),(6,.mp (jk (qfm K1 K2 (zb B M T) 1))),(7,.own false 1 [[.mp 1],[.mp 2],[.mp 3]])],8⟩) [(5,5),(6,6),(7,7)] rfl ?gts ?ghs,1,by omega,rfl,trivial,rfl⟩;(case gts=>(repeat (first|exact qg|refine qn ?_|refine ye ?_|refine xr ?_|refine ze ?_|refine xw ?_ ?_|refine qS ?_ ?_));all_goals (first|exact qi _|exact qU _|rfl|trace_state));(case ghs=>(repeat' (first|exact qj|refine jt ?_|refine zz ?_|refine xY ?_ ?_ ?_|refine vh ?_ ?_|refine yH ?_ ?_|refine y9 ?_ ?_ ?_ ?_|refine q9 ?_ ?_|exact ql|apply qh|exact qk rfl|(apply qw;(first|exact qJ rfl|exact .inr (List.mem_cons_self ..)|exact .inr (List.mem_cons_of_mem _ (List.mem_cons_self ..))|exact .inr (List.mem_cons_of_mem _ (List.mem_cons_of_mem _ (List.mem_cons_self ..)))|exact .inr (List.mem_cons_of_mem _ (List.mem_cons_of_mem _ (List.mem_cons_of_mem _ (List.mem_cons_self ..))))))|refine jn ?_|refine yR ?_ rfl|with_reducible exact List.Perm.refl _));all_goals (first|exact qi _|exact qU _|rfl|trace_state))
 ·repeat' (first|refine qm ?_|(first|(refine xX ?_))|((first|refine qd ?_ ?_|refine qc ?_ ?_|refine xsC ?_ ?_);all_goals (intro hc;have hp:=hc;try simp at hp;try (exfalso;omega)))|refine qO ?_ ?_)
  all_goals try (exfalso;first|omega|contradiction)
  apply jT Tryz.func56 rfl rfl
  intro hIsFn
  refine xQ [6,2] [] [(6,.mp (jk K2)),(2,.mp (qq M))] 8 (.tup []) hIsFn (cp2) (by ((repeat' (first|exact jf|apply q6|exact je rfl|exact jG|(apply qp;apply qI;exact .inr (of_decide_eq_true rfl))|(apply qp;apply qw;exact .inr (of_decide_eq_true rfl))|(apply qp;apply qF;exact .inr (of_decide_eq_true rfl))|apply jw|apply jx)))<;>fail) (by ((repeat' (first|exact qL|exact qK|refine qA _ ?_ ?_|refine qz ?_ ?_|exact qt|exact qe (qi _)|exact qe (qU _)|exact qe (qr _)|exact qx (fun _=>rfl)|refine qB ?_|exact ql|apply qh|exact qk rfl|(apply qw;exact .inr (of_decide_eq_true rfl))|(apply qF;exact .inr (of_decide_eq_true rfl))|(apply qI;exact .inr (of_decide_eq_true rfl))|fail)))<;>fail) (by ((repeat' (first|exact qL|exact qK|refine qA _ ?_ ?_|refine qz ?_ ?_|exact qt|exact qe (qi _)|exact qe (qU _)|exact qe (qr _)|exact qx (fun _=>rfl)|refine qB ?_|exact ql|apply qh|exact qk rfl|(apply qw;exact .inr (of_decide_eq_true rfl))|(apply qF;exact .inr (of_decide_eq_true rfl))|(apply qI;exact .inr (of_decide_eq_true rfl))|fail)))<;>fail) ?_
  repeat' (first|refine qm ?_|(first|(refine xX ?_))|((first|refine qd ?_ ?_|refine qc ?_ ?_|refine xsC ?_ ?_);all_goals (intro hc;have hp:=hc;try simp at hp;try (exfalso;omega)))|refine qO ?_ ?_)
  refine ⟨3 - 2,_,by omega,qC (τ:=⟨[(0,.op 0 0 0),(3,.mp 6),(31,.os 7 0 3),(32,.v (.int .i64 3)),(33,.v (.int .i64 ((2:Nat):Int)))],[(0,.own false 5 [vm 5 0]),(1,.mp (qq B)),(2,.mp (qq M)),(3,.mp (qq T)),(4,.mp (qq [])),(5,.own false 2 []),(6,.mp (jk (qfm K1 K2 (zb B M T) 2))),(7,.own false 1 [[.mp 1],[.mp 2],[.mp 3]])],8⟩) [(5,5),(6,6),(7,7)] rfl ?gts ?ghs,2,by omega,rfl,trivial,rfl⟩;(case gts=>(repeat (first|exact qg|refine qn ?_|refine ye ?_|refine xr ?_|refine ze ?_|refine xw ?_ ?_|refine qS ?_ ?_));all_goals (first|exact qi _|exact qU _|rfl|trace_state));(case ghs=>(repeat' (first|exact qj|refine jt ?_|refine zz ?_|refine xY ?_ ?_ ?_|refine vh ?_ ?_|refine yH ?_ ?_|refine y9 ?_ ?_ ?_ ?_|refine q9 ?_ ?_|exact ql|apply qh|exact qk rfl|(apply qw;(first|exact qJ rfl|exact .inr (List.mem_cons_self ..)|exact .inr (List.mem_cons_of_mem _ (List.mem_cons_self ..))|exact .inr (List.mem_cons_of_mem _ (List.mem_cons_of_mem _ (List.mem_cons_self ..)))|exact .inr (List.mem_cons_of_mem _ (List.mem_cons_of_mem _ (List.mem_cons_of_mem _ (List.mem_cons_self ..))))))|refine jn ?_|refine yR ?_ rfl|with_reducible exact List.Perm.refl _));all_goals (first|exact qi _|exact qU _|rfl|trace_state))
 ·repeat' (first|refine qm ?_|(first|(refine xX ?_))|((first|refine qd ?_ ?_|refine qc ?_ ?_|refine xsC ?_ ?_);all_goals (intro hc;have hp:=hc;try simp at hp;try (exfalso;omega)))|refine qO ?_ ?_)
  all_goals try (exfalso;first|omega|contradiction)
  apply jT Tryz.func56 rfl rfl
  intro hIsFn
  refine xQ [6,3] [] [(6,.mp (jk (zb B M T))),(3,.mp (qq T))] 8 (.tup []) hIsFn (cp3) (by ((repeat' (first|exact jf|apply q6|exact je rfl|exact jG|(apply qp;apply qI;exact .inr (of_decide_eq_true rfl))|(apply qp;apply qw;exact .inr (of_decide_eq_true rfl))|(apply qp;apply qF;exact .inr (of_decide_eq_true rfl))|apply jw|apply jx)))<;>fail) (by ((repeat' (first|exact qL|exact qK|refine qA _ ?_ ?_|refine qz ?_ ?_|exact qt|exact qe (qi _)|exact qe (qU _)|exact qe (qr _)|exact qx (fun _=>rfl)|refine qB ?_|exact ql|apply qh|exact qk rfl|(apply qw;exact .inr (of_decide_eq_true rfl))|(apply qF;exact .inr (of_decide_eq_true rfl))|(apply qI;exact .inr (of_decide_eq_true rfl))|fail)))<;>fail) (by ((repeat' (first|exact qL|exact qK|refine qA _ ?_ ?_|refine qz ?_ ?_|exact qt|exact qe (qi _)|exact qe (qU _)|exact qe (qr _)|exact qx (fun _=>rfl)|refine qB ?_|exact ql|apply qh|exact qk rfl|(apply qw;exact .inr (of_decide_eq_true rfl))|(apply qF;exact .inr (of_decide_eq_true rfl))|(apply qI;exact .inr (of_decide_eq_true rfl))|fail)))<;>fail) ?_
  repeat' (first|refine qm ?_|(first|(refine xX ?_))|((first|refine qd ?_ ?_|refine qc ?_ ?_|refine xsC ?_ ?_);all_goals (intro hc;have hp:=hc;try simp at hp;try (exfalso;omega)))|refine qO ?_ ?_)
  refine ⟨3 - 3,_,by omega,qC (τ:=⟨[(0,.op 0 0 0),(3,.mp 6),(31,.os 7 0 3),(32,.v (.int .i64 3)),(33,.v (.int .i64 ((3:Nat):Int)))],[(0,.own false 5 [vm 5 0]),(1,.mp (qq B)),(2,.mp (qq M)),(3,.mp (qq T)),(4,.mp (qq [])),(5,.own false 2 []),(6,.mp (jk (qfm K1 K2 (zb B M T) 3))),(7,.own false 1 [[.mp 1],[.mp 2],[.mp 3]])],8⟩) [(5,5),(6,6),(7,7)] rfl ?gts ?ghs,3,by omega,rfl,trivial,rfl⟩;(case gts=>(repeat (first|exact qg|refine qn ?_|refine ye ?_|refine xr ?_|refine ze ?_|refine xw ?_ ?_|refine qS ?_ ?_));all_goals (first|exact qi _|exact qU _|rfl|trace_state));(case ghs=>(repeat' (first|exact qj|refine jt ?_|refine zz ?_|refine xY ?_ ?_ ?_|refine vh ?_ ?_|refine yH ?_ ?_|refine y9 ?_ ?_ ?_ ?_|refine q9 ?_ ?_|exact ql|apply qh|exact qk rfl|(apply qw;(first|exact qJ rfl|exact .inr (List.mem_cons_self ..)|exact .inr (List.mem_cons_of_mem _ (List.mem_cons_self ..))|exact .inr (List.mem_cons_of_mem _ (List.mem_cons_of_mem _ (List.mem_cons_self ..)))|exact .inr (List.mem_cons_of_mem _ (List.mem_cons_of_mem _ (List.mem_cons_of_mem _ (List.mem_cons_self ..))))))|refine jn ?_|refine yR ?_ rfl|with_reducible exact List.Perm.refl _));all_goals (first|exact qi _|exact qU _|rfl|trace_state))
 ·clear cp1 cp2 cp3 pall pth
  repeat' (first|(refine Awp.red (qC (τ:=⟨[(0,.op 0 0 0),(3,.mp 6)],[(0,.own false 5 [vm 5 0]),(1,.mp (qq B)),(2,.mp (qq M)),(3,.mp (qq T)),(4,.mp (qq [])),(5,.own false 2 []),(6,.mp (jk (zb B M T)))],7⟩) [(5,5),(6,6)] rfl ?_ ?_) ?_;rotate_left 2;exact qcA B M T hB hM hT (zb B M T) rfl lP;(focus ((repeat (first|exact qg|refine qn ?_|refine ye ?_|refine xr ?_|refine ze ?_|refine xw ?_ ?_|refine qS ?_ ?_));all_goals trace_state));(focus ((repeat' (first|exact qj|refine ki ?_|refine xY ?_ ?_ ?_|refine zz ?_));all_goals (first|with_reducible exact qi _|with_reducible exact qr _|with_reducible exact qU _|with_reducible exact List.Perm.refl _|rfl|trace_state))))|refine Zr ?_|((first|refine qd ?_ ?_|refine qc ?_ ?_|refine xsC ?_ ?_);all_goals (intro hc;have hp:=hc;try simp at hp;try (exfalso;omega)))|refine qO ?_ ?_)
end Go.Proofs.YtnhpclmbhbblbaaGreatDoor
set_option linter.unusedSimpArgs false
set_option linter.unnecessarySimpa false
set_option linter.unusedVariables false
set_option maxHeartbeats 1000000
namespace Go.Proofs.YtnhpclmbhbblbaaGreatDoor
open Go.Ab Go.RowKit
set_option maxRecDepth 10000
attribute [local irreducible] Awp yl jE jl Red qX Go.Ab.Fin qW Rz vl jj ji ResOk jV jz yb jv
theorem QS {L:List (Nat × Nat)} {σ:St} {n n' c c' k:Nat} {ex ex' : Bool} {l:List (Nat × HB)} (hl:vp L 6 σ l) (hm:Maps L 6 n n':=by (first|exact qJ rfl|exact .inr (List.mem_cons_self ..)|exact .inr (List.mem_cons_of_mem _ (List.mem_cons_self ..))|exact .inr (List.mem_cons_of_mem _ (List.mem_cons_of_mem _ (List.mem_cons_self ..)))|exact .inr (List.mem_cons_of_mem _ (List.mem_cons_of_mem _ (List.mem_cons_of_mem _ (List.mem_cons_self ..)))))) (hc:Maps L 6 c c':=by (first|exact qJ rfl|exact .inr (List.mem_cons_self ..)|exact .inr (List.mem_cons_of_mem _ (List.mem_cons_self ..))|exact .inr (List.mem_cons_of_mem _ (List.mem_cons_of_mem _ (List.mem_cons_self ..)))|exact .inr (List.mem_cons_of_mem _ (List.mem_cons_of_mem _ (List.mem_cons_of_mem _ (List.mem_cons_self ..)))))) (hx:ja σ.hs n = .own ex 5 [vm c k]:=by rfl) (he:ex' = true → ex = true:=by first|exact id|exact nofun):vp L 6 σ ((n',.own ex' 5 [vm c' k]) :: l) :=
 Qf hm hx he (vv (qh (qw (qJ rfl)) (qh (qw (qJ rfl)) (qh (qw (qJ rfl)) (qh (qw (qJ rfl)) (qh (qF hc) ql))))) zT) hl
def qe9 (m t o:List Ent) (p:qQ):Ent:=zH m t (Q4 p (stT o p))
theorem VT {t:List Ent} {p:qQ} (hs:q4 jr t = true) (h:jW t p = true) : ∃ hk:y0 t p < t.length,q7 t p = some t[y0 t p]:=by
 obtain ⟨hk,_,h2,_⟩:=zu hs h
 exact ⟨hk,h2⟩
theorem qbu {t:List Ent} {p:qQ} {x:Thg} {y:Ent} (hl:q7 t p = some y) (hx:kP x) (h0:¬ x.kind = 0) (he:stT t p = x):zU t (Q4 p x) = some y.ver:=by
 unfold zU
 rw [show (Q4 p x).path = p from rfl,hl,K4 hx h0]
 unfold stT at he
 rw [hl] at he
 have he:xO y = x:=he
 simp only [he,if_true]
theorem qeG {t:List Ent} {p:qQ} {x:Thg} (hx:kP x) (h0:¬ x.kind = 0) (he:¬ stT t p = x):zU t (Q4 p x) = none:=by
 unfold zU
 rw [show (Q4 p x).path = p from rfl,K4 hx h0]
 unfold stT at he
 cases hl:q7 t p with
 | none=>rfl
 | some y =>
   rw [hl] at he
   have he:¬ xO y = x:=he
   simp only [he,if_false]
theorem K9 {t:List Ent} {p:qQ} {x:Thg} (h:jW t p = false):zU t (Q4 p x) = none:=by
 unfold zU
 rw [V0] at h
 rw [show (Q4 p x).path = p from rfl]
 cases hl:q7 t p with
 | none=>rfl
 | some y=>rw [hl] at h;cases h
set_option maxHeartbeats 4000000 in
theorem qfq (B M T O:List Ent) (cs:List Cpy) (p:qQ) (hM:q4 jr M = true) (hT:q4 jr T = true) (lM:M.length ≤ 60) (lT:T.length ≤ 60) (h0:¬ (stT O p).kind = 0) :
  qW C6.P 26 [.op 0 0 0,.v (str p),qb M,qb T] (H6 B M T O cs) (.agg (qe9 M T O p).row) (H6 B M T O cs):=by
 have g1:=vK O p
 have g2:=vK T p
 have g3:=vK M p
 have at1:=We T p (by omega) hT
 have at2:=We M p (by omega) hM
 have hx:=kv O p
 have hE:(qe9 M T O p).row = [.v (str p),.v (.bool (decide ((stT O p).kind = 1))),.v (str (stT O p).text),.v (.int .i64 (kK M T (Q4 p (stT O p))))]:=rfl
 rw [hE]
 generalize hxx:stT O p = x at *
 clear hE
 have key : ∀ v:Int,kK M T (Q4 p x) = v → qW C6.P 26 [.op 0 0 0,.v (str p),qb M,qb T] (H6 B M T O cs) (.agg [.v (str p),.v (.bool (decide (x.kind = 1))),.v (str x.text),.v (.int .i64 v)]) (H6 B M T O cs) → qW C6.P 26 [.op 0 0 0,.v (str p),qb M,qb T] (H6 B M T O cs) (.agg [.v (str p),.v (.bool (decide (x.kind = 1))),.v (str x.text),.v (.int .i64 (kK M T (Q4 p x)))]) (H6 B M T O cs):=fun v e h=>by rw [e];exact h
 cases hT1:jW T p with
 | true =>
   rw [hT1] at at1
   obtain ⟨kT,lkT⟩:=VT hT hT1
   have rowT:(T.map Ent.row)[y0 T p]? = some T[y0 T p].row:=js kT
   generalize hPT:y0 T p = PT at *
   by_cases eT:stT T p = x
   ·refine key T[PT].ver (by unfold kK;rw [qbu lkT hx h0 eT]) ?_
    clear key
    have dT:decide (stT T p = x) = true:=decide_eq_true eT
    generalize stT T p = tt at *
    generalize stT M p = mm at *
    generalize T[PT] = yT at *
    refine qa (C:=C6) Tryz.func26 rfl _ Tryz.ntmps26 (Nat.le_of_ble_eq_true rfl) _ Tryz.results26 6 rfl rfl ?_
    repeat (first|refine qm ?_|(apply qf;apply jI;(case hm=>rfl);(case hn=>rfl);(case hk=>rfl);(case hT=>rfl);(case he=>rfl);(case hK=>rfl);(case hks=>rfl);(case hz=>exact jb);(case hzv=>exact jK);(case hx=>exact g1);(case hN=>exact nle rfl))|(apply qf;apply jI;(case hm=>rfl);(case hn=>rfl);(case hk=>rfl);(case hT=>rfl);(case he=>rfl);(case hK=>rfl);(case hks=>rfl);(case hz=>exact jb);(case hzv=>exact jK);(case hx=>exact g2);(case hN=>exact nle rfl))|(apply qf;apply jI;(case hm=>rfl);(case hn=>rfl);(case hk=>rfl);(case hT=>rfl);(case he=>rfl);(case hK=>rfl);(case hks=>rfl);(case hz=>exact jb);(case hzv=>exact jK);(case hx=>exact g3);(case hN=>exact nle rfl))|(apply qf;apply xJ;rfl;rfl;exact vT;exact xN _ _;(first|exact .inl ⟨rfl,rfl⟩|exact .inr ⟨rfl,rfl⟩);exact nle rfl)|refine xsQ Tryz.func63 (at1 ..) ?_|refine xsQ Tryz.func63 (at2 ..) ?_)
    (apply jH (rs:=[.cell 8 59]) [] 6;(case hr=>(repeat (first|exact jp|(apply jq;rfl)|(apply jg;rfl;rfl;rfl;rfl;rfl))));(case hL=>rfl);(case hh=>(repeat' (first|exact qj|refine QS ?_|refine xY ?_ ?_ ?_|refine zz ?_));all_goals (first|with_reducible exact qi _|with_reducible exact List.Perm.refl _|rfl|trace_state));(case hi=>exact rfl);(case hz=>first|rfl|(simp [j6,AV.ren,AV.ren.renL,jD,qR,jA];done)|(simp [j6,AV.ren,AV.ren.renL,jD,qR,jA, *];done)))
   ·have dT:decide (stT T p = x) = false:=decide_eq_false eT
    have nT:=qeG hx h0 eT
    cases hM1:jW M p with
    | true =>
      rw [hM1] at at2
      obtain ⟨kM,lkM⟩:=VT hM hM1
      have rowM:(M.map Ent.row)[y0 M p]? = some M[y0 M p].row:=js kM
      generalize hPM:y0 M p = PM at *
      by_cases eM:stT M p = x
      ·refine key M[PM].ver (by unfold kK;rw [nT,qbu lkM hx h0 eM]) ?_
       clear key
       have dM:decide (stT M p = x) = true:=decide_eq_true eM
       generalize stT T p = tt at *
       generalize stT M p = mm at *
       generalize M[PM] = yM at *
       refine qa (C:=C6) Tryz.func26 rfl _ Tryz.ntmps26 (Nat.le_of_ble_eq_true rfl) _ Tryz.results26 6 rfl rfl ?_
       repeat (first|refine qm ?_|(apply qf;apply jI;(case hm=>rfl);(case hn=>rfl);(case hk=>rfl);(case hT=>rfl);(case he=>rfl);(case hK=>rfl);(case hks=>rfl);(case hz=>exact jb);(case hzv=>exact jK);(case hx=>exact g1);(case hN=>exact nle rfl))|(apply qf;apply jI;(case hm=>rfl);(case hn=>rfl);(case hk=>rfl);(case hT=>rfl);(case he=>rfl);(case hK=>rfl);(case hks=>rfl);(case hz=>exact jb);(case hzv=>exact jK);(case hx=>exact g2);(case hN=>exact nle rfl))|(apply qf;apply jI;(case hm=>rfl);(case hn=>rfl);(case hk=>rfl);(case hT=>rfl);(case he=>rfl);(case hK=>rfl);(case hks=>rfl);(case hz=>exact jb);(case hzv=>exact jK);(case hx=>exact g3);(case hN=>exact nle rfl))|(apply qf;apply xJ;rfl;rfl;exact vT;exact xN _ _;(first|exact .inl ⟨rfl,rfl⟩|exact .inr ⟨rfl,rfl⟩);exact nle rfl)|refine xsQ Tryz.func63 (at1 ..) ?_|refine xsQ Tryz.func63 (at2 ..) ?_)
       (apply jH (rs:=[.cell 8 59]) [] 6;(case hr=>(repeat (first|exact jp|(apply jq;rfl)|(apply jg;rfl;rfl;rfl;rfl;rfl))));(case hL=>rfl);(case hh=>(repeat' (first|exact qj|refine QS ?_|refine xY ?_ ?_ ?_|refine zz ?_));all_goals (first|with_reducible exact qi _|with_reducible exact List.Perm.refl _|rfl|trace_state));(case hi=>exact rfl);(case hz=>first|rfl|(simp [j6,AV.ren,AV.ren.renL,jD,qR,jA];done)|(simp [j6,AV.ren,AV.ren.renL,jD,qR,jA, *];done)))
      ·refine key 1 (by unfold kK;rw [nT,qeG hx h0 eM]) ?_
       clear key
       have dM:decide (stT M p = x) = false:=decide_eq_false eM
       generalize stT T p = tt at *
       generalize stT M p = mm at *
       refine qa (C:=C6) Tryz.func26 rfl _ Tryz.ntmps26 (Nat.le_of_ble_eq_true rfl) _ Tryz.results26 6 rfl rfl ?_
       repeat (first|refine qm ?_|(apply qf;apply jI;(case hm=>rfl);(case hn=>rfl);(case hk=>rfl);(case hT=>rfl);(case he=>rfl);(case hK=>rfl);(case hks=>rfl);(case hz=>exact jb);(case hzv=>exact jK);(case hx=>exact g1);(case hN=>exact nle rfl))|(apply qf;apply jI;(case hm=>rfl);(case hn=>rfl);(case hk=>rfl);(case hT=>rfl);(case he=>rfl);(case hK=>rfl);(case hks=>rfl);(case hz=>exact jb);(case hzv=>exact jK);(case hx=>exact g2);(case hN=>exact nle rfl))|(apply qf;apply jI;(case hm=>rfl);(case hn=>rfl);(case hk=>rfl);(case hT=>rfl);(case he=>rfl);(case hK=>rfl);(case hks=>rfl);(case hz=>exact jb);(case hzv=>exact jK);(case hx=>exact g3);(case hN=>exact nle rfl))|(apply qf;apply xJ;rfl;rfl;exact vT;exact xN _ _;(first|exact .inl ⟨rfl,rfl⟩|exact .inr ⟨rfl,rfl⟩);exact nle rfl)|refine xsQ Tryz.func63 (at1 ..) ?_|refine xsQ Tryz.func63 (at2 ..) ?_)
       (apply jH (rs:=[.cell 8 59]) [] 6;(case hr=>(repeat (first|exact jp|(apply jq;rfl)|(apply jg;rfl;rfl;rfl;rfl;rfl))));(case hL=>rfl);(case hh=>(repeat' (first|exact qj|refine QS ?_|refine xY ?_ ?_ ?_|refine zz ?_));all_goals (first|with_reducible exact qi _|with_reducible exact List.Perm.refl _|rfl|trace_state));(case hi=>exact rfl);(case hz=>first|rfl|(simp [j6,AV.ren,AV.ren.renL,jD,qR,jA];done)|(simp [j6,AV.ren,AV.ren.renL,jD,qR,jA, *];done)))
    | false =>
      rw [hM1] at at2
      refine key 1 (by unfold kK;rw [nT,K9 hM1]) ?_
      clear key
      generalize stT T p = tt at *
      generalize stT M p = mm at *
      refine qa (C:=C6) Tryz.func26 rfl _ Tryz.ntmps26 (Nat.le_of_ble_eq_true rfl) _ Tryz.results26 6 rfl rfl ?_
      repeat (first|refine qm ?_|(apply qf;apply jI;(case hm=>rfl);(case hn=>rfl);(case hk=>rfl);(case hT=>rfl);(case he=>rfl);(case hK=>rfl);(case hks=>rfl);(case hz=>exact jb);(case hzv=>exact jK);(case hx=>exact g1);(case hN=>exact nle rfl))|(apply qf;apply jI;(case hm=>rfl);(case hn=>rfl);(case hk=>rfl);(case hT=>rfl);(case he=>rfl);(case hK=>rfl);(case hks=>rfl);(case hz=>exact jb);(case hzv=>exact jK);(case hx=>exact g2);(case hN=>exact nle rfl))|(apply qf;apply jI;(case hm=>rfl);(case hn=>rfl);(case hk=>rfl);(case hT=>rfl);(case he=>rfl);(case hK=>rfl);(case hks=>rfl);(case hz=>exact jb);(case hzv=>exact jK);(case hx=>exact g3);(case hN=>exact nle rfl))|(apply qf;apply xJ;rfl;rfl;exact vT;exact xN _ _;(first|exact .inl ⟨rfl,rfl⟩|exact .inr ⟨rfl,rfl⟩);exact nle rfl)|refine xsQ Tryz.func63 (at1 ..) ?_|refine xsQ Tryz.func63 (at2 ..) ?_)
      (apply jH (rs:=[.cell 8 59]) [] 6;(case hr=>(repeat (first|exact jp|(apply jq;rfl)|(apply jg;rfl;rfl;rfl;rfl;rfl))));(case hL=>rfl);(case hh=>(repeat' (first|exact qj|refine QS ?_|refine xY ?_ ?_ ?_|refine zz ?_));all_goals (first|with_reducible exact qi _|with_reducible exact List.Perm.refl _|rfl|trace_state));(case hi=>exact rfl);(case hz=>first|rfl|(simp [j6,AV.ren,AV.ren.renL,jD,qR,jA];done)|(simp [j6,AV.ren,AV.ren.renL,jD,qR,jA, *];done)))
 | false =>
   rw [hT1] at at1
   have nT:=K9 (x:=x) hT1
   cases hM1:jW M p with
   | true =>
     rw [hM1] at at2
     obtain ⟨kM,lkM⟩:=VT hM hM1
     have rowM:(M.map Ent.row)[y0 M p]? = some M[y0 M p].row:=js kM
     generalize hPM:y0 M p = PM at *
     by_cases eM:stT M p = x
     ·refine key M[PM].ver (by unfold kK;rw [nT,qbu lkM hx h0 eM]) ?_
      clear key
      have dM:decide (stT M p = x) = true:=decide_eq_true eM
      generalize stT T p = tt at *
      generalize stT M p = mm at *
      generalize M[PM] = yM at *
      refine qa (C:=C6) Tryz.func26 rfl _ Tryz.ntmps26 (Nat.le_of_ble_eq_true rfl) _ Tryz.results26 6 rfl rfl ?_
      repeat (first|refine qm ?_|(apply qf;apply jI;(case hm=>rfl);(case hn=>rfl);(case hk=>rfl);(case hT=>rfl);(case he=>rfl);(case hK=>rfl);(case hks=>rfl);(case hz=>exact jb);(case hzv=>exact jK);(case hx=>exact g1);(case hN=>exact nle rfl))|(apply qf;apply jI;(case hm=>rfl);(case hn=>rfl);(case hk=>rfl);(case hT=>rfl);(case he=>rfl);(case hK=>rfl);(case hks=>rfl);(case hz=>exact jb);(case hzv=>exact jK);(case hx=>exact g2);(case hN=>exact nle rfl))|(apply qf;apply jI;(case hm=>rfl);(case hn=>rfl);(case hk=>rfl);(case hT=>rfl);(case he=>rfl);(case hK=>rfl);(case hks=>rfl);(case hz=>exact jb);(case hzv=>exact jK);(case hx=>exact g3);(case hN=>exact nle rfl))|(apply qf;apply xJ;rfl;rfl;exact vT;exact xN _ _;(first|exact .inl ⟨rfl,rfl⟩|exact .inr ⟨rfl,rfl⟩);exact nle rfl)|refine xsQ Tryz.func63 (at1 ..) ?_|refine xsQ Tryz.func63 (at2 ..) ?_)
      (apply jH (rs:=[.cell 8 59]) [] 6;(case hr=>(repeat (first|exact jp|(apply jq;rfl)|(apply jg;rfl;rfl;rfl;rfl;rfl))));(case hL=>rfl);(case hh=>(repeat' (first|exact qj|refine QS ?_|refine xY ?_ ?_ ?_|refine zz ?_));all_goals (first|with_reducible exact qi _|with_reducible exact List.Perm.refl _|rfl|trace_state));(case hi=>exact rfl);(case hz=>first|rfl|(simp [j6,AV.ren,AV.ren.renL,jD,qR,jA];done)|(simp [j6,AV.ren,AV.ren.renL,jD,qR,jA, *];done)))
     ·refine key 1 (by unfold kK;rw [nT,qeG hx h0 eM]) ?_
      clear key
      have dM:decide (stT M p = x) = false:=decide_eq_false eM
      generalize stT T p = tt at *
      generalize stT M p = mm at *
      refine qa (C:=C6) Tryz.func26 rfl _ Tryz.ntmps26 (Nat.le_of_ble_eq_true rfl) _ Tryz.results26 6 rfl rfl ?_
      repeat (first|refine qm ?_|(apply qf;apply jI;(case hm=>rfl);(case hn=>rfl);(case hk=>rfl);(case hT=>rfl);(case he=>rfl);(case hK=>rfl);(case hks=>rfl);(case hz=>exact jb);(case hzv=>exact jK);(case hx=>exact g1);(case hN=>exact nle rfl))|(apply qf;apply jI;(case hm=>rfl);(case hn=>rfl);(case hk=>rfl);(case hT=>rfl);(case he=>rfl);(case hK=>rfl);(case hks=>rfl);(case hz=>exact jb);(case hzv=>exact jK);(case hx=>exact g2);(case hN=>exact nle rfl))|(apply qf;apply jI;(case hm=>rfl);(case hn=>rfl);(case hk=>rfl);(case hT=>rfl);(case he=>rfl);(case hK=>rfl);(case hks=>rfl);(case hz=>exact jb);(case hzv=>exact jK);(case hx=>exact g3);(case hN=>exact nle rfl))|(apply qf;apply xJ;rfl;rfl;exact vT;exact xN _ _;(first|exact .inl ⟨rfl,rfl⟩|exact .inr ⟨rfl,rfl⟩);exact nle rfl)|refine xsQ Tryz.func63 (at1 ..) ?_|refine xsQ Tryz.func63 (at2 ..) ?_)
      (apply jH (rs:=[.cell 8 59]) [] 6;(case hr=>(repeat (first|exact jp|(apply jq;rfl)|(apply jg;rfl;rfl;rfl;rfl;rfl))));(case hL=>rfl);(case hh=>(repeat' (first|exact qj|refine QS ?_|refine xY ?_ ?_ ?_|refine zz ?_));all_goals (first|with_reducible exact qi _|with_reducible exact List.Perm.refl _|rfl|trace_state));(case hi=>exact rfl);(case hz=>first|rfl|(simp [j6,AV.ren,AV.ren.renL,jD,qR,jA];done)|(simp [j6,AV.ren,AV.ren.renL,jD,qR,jA, *];done)))
   | false =>
     rw [hM1] at at2
     refine key 1 (by unfold kK;rw [nT,K9 hM1]) ?_
     clear key
     generalize stT T p = tt at *
     generalize stT M p = mm at *
     refine qa (C:=C6) Tryz.func26 rfl _ Tryz.ntmps26 (Nat.le_of_ble_eq_true rfl) _ Tryz.results26 6 rfl rfl ?_
     repeat (first|refine qm ?_|(apply qf;apply jI;(case hm=>rfl);(case hn=>rfl);(case hk=>rfl);(case hT=>rfl);(case he=>rfl);(case hK=>rfl);(case hks=>rfl);(case hz=>exact jb);(case hzv=>exact jK);(case hx=>exact g1);(case hN=>exact nle rfl))|(apply qf;apply jI;(case hm=>rfl);(case hn=>rfl);(case hk=>rfl);(case hT=>rfl);(case he=>rfl);(case hK=>rfl);(case hks=>rfl);(case hz=>exact jb);(case hzv=>exact jK);(case hx=>exact g2);(case hN=>exact nle rfl))|(apply qf;apply jI;(case hm=>rfl);(case hn=>rfl);(case hk=>rfl);(case hT=>rfl);(case he=>rfl);(case hK=>rfl);(case hks=>rfl);(case hz=>exact jb);(case hzv=>exact jK);(case hx=>exact g3);(case hN=>exact nle rfl))|(apply qf;apply xJ;rfl;rfl;exact vT;exact xN _ _;(first|exact .inl ⟨rfl,rfl⟩|exact .inr ⟨rfl,rfl⟩);exact nle rfl)|refine xsQ Tryz.func63 (at1 ..) ?_|refine xsQ Tryz.func63 (at2 ..) ?_)
     (apply jH (rs:=[.cell 8 59]) [] 6;(case hr=>(repeat (first|exact jp|(apply jq;rfl)|(apply jg;rfl;rfl;rfl;rfl;rfl))));(case hL=>rfl);(case hh=>(repeat' (first|exact qj|refine QS ?_|refine xY ?_ ?_ ?_|refine zz ?_));all_goals (first|with_reducible exact qi _|with_reducible exact List.Perm.refl _|rfl|trace_state));(case hi=>exact rfl);(case hz=>first|rfl|(simp [j6,AV.ren,AV.ren.renL,jD,qR,jA];done)|(simp [j6,AV.ren,AV.ren.renL,jD,qR,jA, *];done)))
end Go.Proofs.YtnhpclmbhbblbaaGreatDoor
set_option linter.unusedSimpArgs false
set_option linter.unnecessarySimpa false
set_option linter.unusedVariables false
set_option maxHeartbeats 1000000
namespace Go.Proofs.YtnhpclmbhbblbaaGreatDoor
open Go.Ab Go.RowKit
set_option maxRecDepth 10000
attribute [local irreducible] Awp yl jE jl Red qX Go.Ab.Fin qW Rz vl jj ji ResOk jV jz yb jv
def vf (l:List Cpy):AV := .sl false (l.map Cpy.row)
def Q5 (r:List Ent × List Cpy × Int):AV := .tup [qb r.1,vf r.2.1,.v (.int .i64 r.2.2)]
theorem qcD {b m t:List Ent} (h:¬ qD b = 0):zd b m t = ([],[],qD b):=by
 unfold zd
 rw [show j3 qD [b,m,t] = qD b from by simp [j3,h],if_neg h]
theorem qcE {b m t:List Ent} (hb:qD b = 0) (h:¬ qD m = 0):zd b m t = ([],[],qD m):=by
 unfold zd
 rw [show j3 qD [b,m,t] = qD m from by simp [j3,h,hb],if_neg h]
theorem qcF {b m t:List Ent} (hb:qD b = 0) (hm:qD m = 0) (h:¬ qD t = 0):zd b m t = ([],[],qD t):=by
 unfold zd
 rw [show j3 qD [b,m,t] = qD t from by simp [j3,h,hb,hm],if_neg h]
theorem wi {b m t:List Ent} (hb:qD b = 0) (hm:qD m = 0) (ht:qD t = 0):zd b m t = vW b m t:=by
 unfold zd
 rw [show j3 qD [b,m,t] = 0 from by simp [j3,ht,hb,hm],if_pos rfl]
theorem qc0 (t:List Ent):(qq t).length = t.length:=by
 have:=congrArg List.length (zq t)
 simpa using this
theorem qfa {m t o:List Ent} (ho:MInv o) {e:Ent} (he:e ∈ o):qe9 m t o e.path = zH m t e:=by
 have hl:q7 o e.path = some e:=wB ho.rise he
 have h1:stT o e.path = xO e:=by unfold stT;rw [hl]
 unfold qe9
 rw [h1,qeC (ho.ent e he)]
 unfold zH kK zU qhi
 rfl
theorem qgK {o:List Ent} (ho:MInv o) {e:Ent} (he:e ∈ o):¬ (stT o e.path).kind = 0:=by
 rw [KZ,wB ho.rise he];exact nofun
set_option maxHeartbeats 4000000 in
theorem qeR (B M T:List Ent) (bB:EBig B) (bM:EBig M) (bT:EBig T):yO C.P 7 [qb B,qb M,qb T] (Q5 (zd B M T)):=by
 have cB:=wn B bB
 have cM:=wn M bM
 have cT:=wn T bT
 refine qa Tryz.func7 rfl _ Tryz.ntmps7 (Nat.le_of_ble_eq_true rfl) _ Tryz.results7 0 rfl rfl ?_
 repeat' (first|refine qm ?_|(first|(refine jM ?_))|((first|refine qd ?_ ?_|refine qc ?_ ?_|refine xsC ?_ ?_);all_goals (intro hc;have hp:=hc;try simp at hp;try (exfalso;omega)))|refine qO ?_ ?_)
 all_goals try (exfalso;omega)
 (refine Awp.red (qv (ts:=[(0,qb B),(1,qb M),(2,qb T),(19,.sl true [[qb B],[qb M],[qb T]]),(20,.v (.int .i64 3)),(21,.v (.int .i64 ((0:Nat):Int)))]) ?_) ?_;((repeat (first|exact qg|refine qn ?_|refine qS ?_ ?_))))
 refine qP (fun n σ => ∃ i:Nat,i ≤ 3 ∧ n = 3 - i ∧ ((1 ≤ i → qD B = 0) ∧ (2 ≤ i → qD M = 0) ∧ (3 ≤ i → qD T = 0)) ∧ σ = ⟨[(0,qb B),(1,qb M),(2,qb T),(19,.sl true [[qb B],[qb M],[qb T]]),(20,.v (.int .i64 3)),(21,.v (.int .i64 (i:Int)))],[],C.nh⟩) 3 ⟨0,by omega,rfl,⟨by omega,by omega,by omega⟩,rfl⟩ ?_
 rintro n σ ⟨i,hi,rfl,⟨e1,e2,e3⟩,rfl⟩
 rcases show i = 0 ∨ i = 1 ∨ i = 2 ∨ i = 3 from by omega with rfl|rfl|rfl|rfl
 ·have hrow:([[qb B],[qb M],[qb T]]:List (List AV))[0]? = some [qb B]:=rfl
  by_cases h0:qD B = 0
  ·rw [h0] at cB
   repeat' (first|refine qm ?_|(first|refine jc Tryz.func15 (cB ..) ?_)|((first|refine qd ?_ ?_|refine qc ?_ ?_|refine xsC ?_ ?_);all_goals (intro hc;have hp:=hc;try simp at hp;try (exfalso;omega)))|refine qO ?_ ?_)
   all_goals try (exfalso;first|omega|contradiction)
   refine ⟨3 - 1,_,by omega,qv (ts:=[(0,qb B),(1,qb M),(2,qb T),(19,.sl true [[qb B],[qb M],[qb T]]),(20,.v (.int .i64 3)),(21,.v (.int .i64 ((1:Nat):Int)))]) ?_,1,by omega,rfl,⟨fun _=>h0,by omega,by omega⟩,rfl⟩;((repeat (first|exact qg|refine qn ?_|refine qS ?_ ?_)))
  ·rw [qcD h0]
   generalize qD B = E at *
   repeat' (first|refine qm ?_|(first|refine jc Tryz.func15 (cB ..) ?_)|((first|refine qd ?_ ?_|refine qc ?_ ?_|refine xsC ?_ ?_);all_goals (intro hc;have hp:=hc;try simp at hp;try (exfalso;omega)))|refine qO ?_ ?_)
   all_goals try (exfalso;first|omega|contradiction)
   unfold Q5 vf
   (exact xE (rs:=[.tmp 6,.tmp 7,.tmp 8]))
 ·have hrow:([[qb B],[qb M],[qb T]]:List (List AV))[1]? = some [qb M]:=rfl
  by_cases h0:qD M = 0
  ·rw [h0] at cM
   repeat' (first|refine qm ?_|(first|refine jc Tryz.func15 (cM ..) ?_)|((first|refine qd ?_ ?_|refine qc ?_ ?_|refine xsC ?_ ?_);all_goals (intro hc;have hp:=hc;try simp at hp;try (exfalso;omega)))|refine qO ?_ ?_)
   all_goals try (exfalso;first|omega|contradiction)
   refine ⟨3 - 2,_,by omega,qv (ts:=[(0,qb B),(1,qb M),(2,qb T),(19,.sl true [[qb B],[qb M],[qb T]]),(20,.v (.int .i64 3)),(21,.v (.int .i64 ((2:Nat):Int)))]) ?_,2,by omega,rfl,⟨fun _=>e1 (by omega),fun _=>h0,by omega⟩,rfl⟩;((repeat (first|exact qg|refine qn ?_|refine qS ?_ ?_)))
  ·rw [qcE (e1 (by omega)) h0]
   generalize qD M = E at *
   repeat' (first|refine qm ?_|(first|refine jc Tryz.func15 (cM ..) ?_)|((first|refine qd ?_ ?_|refine qc ?_ ?_|refine xsC ?_ ?_);all_goals (intro hc;have hp:=hc;try simp at hp;try (exfalso;omega)))|refine qO ?_ ?_)
   all_goals try (exfalso;first|omega|contradiction)
   unfold Q5 vf
   (exact xE (rs:=[.tmp 6,.tmp 7,.tmp 8]))
 ·have hrow:([[qb B],[qb M],[qb T]]:List (List AV))[2]? = some [qb T]:=rfl
  by_cases h0:qD T = 0
  ·rw [h0] at cT
   repeat' (first|refine qm ?_|(first|refine jc Tryz.func15 (cT ..) ?_)|((first|refine qd ?_ ?_|refine qc ?_ ?_|refine xsC ?_ ?_);all_goals (intro hc;have hp:=hc;try simp at hp;try (exfalso;omega)))|refine qO ?_ ?_)
   all_goals try (exfalso;first|omega|contradiction)
   refine ⟨3 - 3,_,by omega,qv (ts:=[(0,qb B),(1,qb M),(2,qb T),(19,.sl true [[qb B],[qb M],[qb T]]),(20,.v (.int .i64 3)),(21,.v (.int .i64 ((3:Nat):Int)))]) ?_,3,by omega,rfl,⟨fun _=>e1 (by omega),fun _=>e2 (by omega),fun _=>h0⟩,rfl⟩;((repeat (first|exact qg|refine qn ?_|refine qS ?_ ?_)))
  ·rw [qcF (e1 (by omega)) (e2 (by omega)) h0]
   generalize qD T = E at *
   repeat' (first|refine qm ?_|(first|refine jc Tryz.func15 (cT ..) ?_)|((first|refine qd ?_ ?_|refine qc ?_ ?_|refine xsC ?_ ?_);all_goals (intro hc;have hp:=hc;try simp at hp;try (exfalso;omega)))|refine qO ?_ ?_)
   all_goals try (exfalso;first|omega|contradiction)
   unfold Q5 vf
   (exact xE (rs:=[.tmp 6,.tmp 7,.tmp 8]))
 have h1:=e1 (by omega)
 have h2:=e2 (by omega)
 have h3:=e3 (by omega)
 rw [wi h1 h2 h3]
 clear e1 e2 e3 cB cM cT
 have rB:=ju.1 h1
 have rM:=ju.1 h2
 have rT:=ju.1 h3
 have lB:=rB.len
 have lM:=rM.len
 have lT:=rT.len
 have s1:=Vy B rB.rise (by omega)
 have s2:=Vy M rM.rise (by omega)
 have s3:=Vy T rT.rise (by omega)
 have hm:=qfr B M T rB rM rT
 repeat' (first|refine qm ?_|(first|fail)|((first|refine qd ?_ ?_|refine qc ?_ ?_|refine xsC ?_ ?_);all_goals (intro hc;have hp:=hc;try simp at hp;try (exfalso;omega)))|refine qO ?_ ?_)
 all_goals try (exfalso;first|omega|contradiction)
 apply jT Tryz.func23 rfl rfl
 intro hIsFn
 refine xQ [] [0] [(0,.mp (qq B))] 1 (.mp 0) hIsFn (s1) (by ((repeat' (first|exact jf|apply q6|exact je rfl|exact jG|(apply qp;apply qI;exact .inr (of_decide_eq_true rfl))|(apply qp;apply qw;exact .inr (of_decide_eq_true rfl))|(apply qp;apply qF;exact .inr (of_decide_eq_true rfl))|apply jw|apply jx)))<;>fail) (by ((repeat' (first|exact qL|exact qK|refine qA _ ?_ ?_|refine qz ?_ ?_|exact qt|exact qe (qi _)|exact qe (qU _)|exact qe (qr _)|exact qx (fun _=>rfl)|refine qB ?_|exact ql|apply qh|exact qk rfl|(apply qw;exact .inr (of_decide_eq_true rfl))|(apply qF;exact .inr (of_decide_eq_true rfl))|(apply qI;exact .inr (of_decide_eq_true rfl))|fail)))<;>fail) (by ((repeat' (first|exact qL|exact qK|refine qA _ ?_ ?_|refine qz ?_ ?_|exact qt|exact qe (qi _)|exact qe (qU _)|exact qe (qr _)|exact qx (fun _=>rfl)|refine qB ?_|exact ql|apply qh|exact qk rfl|(apply qw;exact .inr (of_decide_eq_true rfl))|(apply qF;exact .inr (of_decide_eq_true rfl))|(apply qI;exact .inr (of_decide_eq_true rfl))|fail)))<;>fail) ?_
 repeat' (first|refine qm ?_|(first|fail)|((first|refine qd ?_ ?_|refine qc ?_ ?_|refine xsC ?_ ?_);all_goals (intro hc;have hp:=hc;try simp at hp;try (exfalso;omega)))|refine qO ?_ ?_)
 apply jT Tryz.func23 rfl rfl
 intro hIsFn
 refine xQ [] [1] [(1,.mp (qq M))] 2 (.mp 1) hIsFn (s2) (by ((repeat' (first|exact jf|apply q6|exact je rfl|exact jG|(apply qp;apply qI;exact .inr (of_decide_eq_true rfl))|(apply qp;apply qw;exact .inr (of_decide_eq_true rfl))|(apply qp;apply qF;exact .inr (of_decide_eq_true rfl))|apply jw|apply jx)))<;>fail) (by ((repeat' (first|exact qL|exact qK|refine qA _ ?_ ?_|refine qz ?_ ?_|exact qt|exact qe (qi _)|exact qe (qU _)|exact qe (qr _)|exact qx (fun _=>rfl)|refine qB ?_|exact ql|apply qh|exact qk rfl|(apply qw;exact .inr (of_decide_eq_true rfl))|(apply qF;exact .inr (of_decide_eq_true rfl))|(apply qI;exact .inr (of_decide_eq_true rfl))|fail)))<;>fail) (by ((repeat' (first|exact qL|exact qK|refine qA _ ?_ ?_|refine qz ?_ ?_|exact qt|exact qe (qi _)|exact qe (qU _)|exact qe (qr _)|exact qx (fun _=>rfl)|refine qB ?_|exact ql|apply qh|exact qk rfl|(apply qw;exact .inr (of_decide_eq_true rfl))|(apply qF;exact .inr (of_decide_eq_true rfl))|(apply qI;exact .inr (of_decide_eq_true rfl))|fail)))<;>fail) ?_
 repeat' (first|refine qm ?_|(first|fail)|((first|refine qd ?_ ?_|refine qc ?_ ?_|refine xsC ?_ ?_);all_goals (intro hc;have hp:=hc;try simp at hp;try (exfalso;omega)))|refine qO ?_ ?_)
 apply jT Tryz.func23 rfl rfl
 intro hIsFn
 refine xQ [] [2] [(2,.mp (qq T))] 3 (.mp 2) hIsFn (s3) (by ((repeat' (first|exact jf|apply q6|exact je rfl|exact jG|(apply qp;apply qI;exact .inr (of_decide_eq_true rfl))|(apply qp;apply qw;exact .inr (of_decide_eq_true rfl))|(apply qp;apply qF;exact .inr (of_decide_eq_true rfl))|apply jw|apply jx)))<;>fail) (by ((repeat' (first|exact qL|exact qK|refine qA _ ?_ ?_|refine qz ?_ ?_|exact qt|exact qe (qi _)|exact qe (qU _)|exact qe (qr _)|exact qx (fun _=>rfl)|refine qB ?_|exact ql|apply qh|exact qk rfl|(apply qw;exact .inr (of_decide_eq_true rfl))|(apply qF;exact .inr (of_decide_eq_true rfl))|(apply qI;exact .inr (of_decide_eq_true rfl))|fail)))<;>fail) (by ((repeat' (first|exact qL|exact qK|refine qA _ ?_ ?_|refine qz ?_ ?_|exact qt|exact qe (qi _)|exact qe (qU _)|exact qe (qr _)|exact qx (fun _=>rfl)|refine qB ?_|exact ql|apply qh|exact qk rfl|(apply qw;exact .inr (of_decide_eq_true rfl))|(apply qF;exact .inr (of_decide_eq_true rfl))|(apply qI;exact .inr (of_decide_eq_true rfl))|fail)))<;>fail) ?_
 repeat' (first|refine qm ?_|(first|(apply xq;apply wu;exact nle rfl))|((first|refine qd ?_ ?_|refine qc ?_ ?_|refine xsC ?_ ?_);all_goals (intro hc;have hp:=hc;try simp at hp;try (exfalso;omega)))|refine qO ?_ ?_)
 apply jT Tryz.func24 rfl rfl
 intro hIsFn
 unfold vW
 cases hS:vI B M T with
 | none =>
   rw [hS] at hm
   refine xQ [4,0,1,2,3] [] [(4,.dead),(0,.dead),(1,.dead),(2,.dead),(3,.dead)] 5 (.v (.bool false)) hIsFn (hm) (by ((repeat' (first|exact jf|apply q6|exact je rfl|exact jG|(apply qp;apply qI;exact .inr (of_decide_eq_true rfl))|(apply qp;apply qw;exact .inr (of_decide_eq_true rfl))|(apply qp;apply qF;exact .inr (of_decide_eq_true rfl))|apply jw|apply jx)))<;>fail) (by ((repeat' (first|exact qL|exact qK|refine qA _ ?_ ?_|refine qz ?_ ?_|exact qt|exact qe (qi _)|exact qe (qU _)|exact qe (qr _)|exact qx (fun _=>rfl)|refine qB ?_|exact ql|apply qh|exact qk rfl|(apply qw;exact .inr (of_decide_eq_true rfl))|(apply qF;exact .inr (of_decide_eq_true rfl))|(apply qI;exact .inr (of_decide_eq_true rfl))|exact qe (qi []))))<;>fail) (by ((repeat' (first|exact qL|exact qK|refine qA _ ?_ ?_|refine qz ?_ ?_|exact qt|exact qe (qi _)|exact qe (qU _)|exact qe (qr _)|exact qx (fun _=>rfl)|refine qB ?_|exact ql|apply qh|exact qk rfl|(apply qw;exact .inr (of_decide_eq_true rfl))|(apply qF;exact .inr (of_decide_eq_true rfl))|(apply qI;exact .inr (of_decide_eq_true rfl))|fail)))<;>fail) ?_
   repeat' (first|refine qm ?_|(first|fail)|((first|refine qd ?_ ?_|refine qc ?_ ?_|refine xsC ?_ ?_);all_goals (intro hc;have hp:=hc;try simp at hp;try (exfalso;omega)))|refine qO ?_ ?_)
   all_goals try (exfalso;first|omega|contradiction)
   unfold Q5 vf
   (exact xE (rs:=[.tmp 6,.tmp 7,.tmp 8]))
 | some s =>
   rw [hS] at hm
   have iS:=(YO rB rM rT hS).1
   refine xQ [4,0,1,2,3] [5] [(4,.own false 5 [[.mp 0,.mp 1,.mp 2,.mp 3,.os 5 0 s.cps.length]]),(0,.mp (qq B)),(1,.mp (qq M)),(2,.mp (qq T)),(3,.mp (qq s.out)),(5,.own false 2 (s.cps.map Cpy.row))] 6 (.v (.bool true)) hIsFn (hm) (by ((repeat' (first|exact jf|apply q6|exact je rfl|exact jG|(apply qp;apply qI;exact .inr (of_decide_eq_true rfl))|(apply qp;apply qw;exact .inr (of_decide_eq_true rfl))|(apply qp;apply qF;exact .inr (of_decide_eq_true rfl))|apply jw|apply jx)))<;>fail) (by ((repeat' (first|exact qL|exact qK|refine qA _ ?_ ?_|refine qz ?_ ?_|exact qt|exact qe (qi _)|exact qe (qU _)|exact qe (qr _)|exact qx (fun _=>rfl)|refine qB ?_|exact ql|apply qh|exact qk rfl|(apply qw;exact .inr (of_decide_eq_true rfl))|(apply qF;exact .inr (of_decide_eq_true rfl))|(apply qI;exact .inr (of_decide_eq_true rfl))|exact qe (qi []))))<;>fail) (by ((repeat' (first|exact qL|exact qK|refine qA _ ?_ ?_|refine qz ?_ ?_|exact qt|exact qe (qi _)|exact qe (qU _)|exact qe (qr _)|exact qx (fun _=>rfl)|refine qB ?_|exact ql|apply qh|exact qk rfl|(apply qw;exact .inr (of_decide_eq_true rfl))|(apply qF;exact .inr (of_decide_eq_true rfl))|(apply qI;exact .inr (of_decide_eq_true rfl))|fail)))<;>fail) ?_
   have lo:=qc0 s.out
   by_cases h60:60 < s.out.length
   ·dsimp only
    rw [if_pos h60]
    repeat' (first|refine qm ?_|(first|(apply qf;apply ZQ;rfl;rfl;rfl;rfl;exact nle rfl))|((first|refine qd ?_ ?_|refine qc ?_ ?_|refine xsC ?_ ?_);all_goals (intro hc;have hp:=hc;try simp at hp;try (exfalso;omega)))|refine qO ?_ ?_)
    all_goals try (exfalso;first|omega|contradiction)
    all_goals unfold Q5 vf
    all_goals ((exact xE (rs:=[.tmp 6,.tmp 7,.tmp 8])))
   dsimp only
   rw [if_neg h60]
   have lK:(s.out.map Ent.path).length = s.out.length:=List.length_map ..
   have ap:=X6 (qq s.out) (s.out.map Ent.path) (Kf iS.rise) (by rw [zq]) (by rw [lK];omega) (fun x hx=>by
    obtain ⟨e,he,rfl⟩:=List.mem_map.1 hx
    exact Nat.le_trans (qV (j5 (iS.ent e he)).1) (by decide))
   have hent : ∀ e,e ∈ s.out → qW C6.P 26 [.op 0 0 0,.v (str e.path),qb M,qb T] (H6 B M T s.out s.cps) (.agg (zH M T e).row) (H6 B M T s.out s.cps):=fun e he=>by
    have:=qfq B M T s.out s.cps e.path rM.rise rT.rise lM lT (qgK iS he)
    rwa [qfa iS he] at this
   generalize hO:s.out = O at *
   generalize s.cps = cs at *
   repeat' (first|refine qm ?_|(first|(apply qf;apply ZQ;rfl;rfl;rfl;rfl;exact nle rfl))|((first|refine qd ?_ ?_|refine qc ?_ ?_|refine xsC ?_ ?_);all_goals (intro hc;have hp:=hc;try simp at hp;try (exfalso;omega)))|refine qO ?_ ?_)
   all_goals try (exfalso;first|omega|contradiction)
   apply jT Tryz.func25 rfl rfl
   intro hIsFn2
   refine xQ [3] [6] [(3,.mp (qq O)),(6,.own false 1 ((O.map Ent.path).map jo))] 7 (.os 6 0 (O.map Ent.path).length) hIsFn2 (ap) (by ((repeat' (first|exact jf|apply q6|exact je rfl|exact jG|(apply qp;apply qI;exact .inr (of_decide_eq_true rfl))|(apply qp;apply qw;exact .inr (of_decide_eq_true rfl))|(apply qp;apply qF;exact .inr (of_decide_eq_true rfl))|apply jw|apply jx)))<;>fail) (by ((repeat' (first|exact qL|exact qK|refine qA _ ?_ ?_|refine qz ?_ ?_|exact qt|exact qe (qi _)|exact qe (qU _)|exact qe (qr _)|exact qx (fun _=>rfl)|refine qB ?_|exact ql|apply qh|exact qk rfl|(apply qw;exact .inr (of_decide_eq_true rfl))|(apply qF;exact .inr (of_decide_eq_true rfl))|(apply qI;exact .inr (of_decide_eq_true rfl))|fail)))<;>fail) (by ((repeat' (first|exact qL|exact qK|refine qA _ ?_ ?_|refine qz ?_ ?_|exact qt|exact qe (qi _)|exact qe (qU _)|exact qe (qr _)|exact qx (fun _=>rfl)|refine qB ?_|exact ql|apply qh|exact qk rfl|(apply qw;exact .inr (of_decide_eq_true rfl))|(apply qF;exact .inr (of_decide_eq_true rfl))|(apply qI;exact .inr (of_decide_eq_true rfl))|fail)))<;>fail) ?_
   repeat' (first|refine qm ?_|(first|fail)|((first|refine qd ?_ ?_|refine qc ?_ ?_|refine xsC ?_ ?_);all_goals (intro hc;have hp:=hc;try simp at hp;try (exfalso;omega)))|refine qO ?_ ?_)
   all_goals try (exfalso;first|omega|contradiction)
   clear ap
   refine Awp.red (vX 13 4 rfl (Nat.zero_le _)) ?_
   (refine Awp.red (qC (τ:=⟨[(1,qb M),(2,qb T),(12,.op 4 0 0),(13,.os 7 0 ((O.take 0).map (zH M T)).length),(55,.os 6 0 (O.map Ent.path).length),(56,.v (.int .i64 O.length)),(57,.v (.int .i64 ((0:Nat):Int)))],[(0,.mp (qq B)),(1,.mp (qq M)),(2,.mp (qq T)),(3,.mp (qq O)),(4,.own false 5 [[.mp 0,.mp 1,.mp 2,.mp 3,.os 5 0 cs.length]]),(5,.own false 2 (cs.map Cpy.row)),(6,.own false 1 ((O.map Ent.path).map jo)),(7,.own false 4 (((O.take 0).map (zH M T)).map Ent.row))],8⟩) [(4,4),(7,7),(6,6),(5,5),(0,0),(1,1),(2,2),(3,3)] rfl ?_ ?_) ?_;rotate_left 2;rotate_left 1;(focus ((repeat (first|exact qg|refine qn ?_|refine vu ?_|refine xu ?_|refine xx ?_ ?_|refine qgb ?_|refine qS ?_ ?_));all_goals (first|rfl|(rw [lK];done)|trace_state)));(focus ((repeat' (first|exact qj|refine qgc ?_ ?_ ?_|refine kj ?_|refine xA ?_ ?_|refine xz ?_ ?_|exact ql|apply qh|exact qk rfl|(apply qw;(refine .inr ?_;(repeat (first|exact List.mem_cons_self ..|apply List.mem_cons_of_mem))))|(apply qF;(refine .inr ?_;(repeat (first|exact List.mem_cons_self ..|apply List.mem_cons_of_mem))))));all_goals (first|with_reducible exact qi _|with_reducible exact List.Perm.refl _|rfl|trace_state))))
   refine qP (fun n σ => ∃ i:Nat,i ≤ O.length ∧ n = O.length - i ∧ True ∧ σ = ⟨[(1,qb M),(2,qb T),(12,.op 4 0 0),(13,.os 7 0 ((O.take i).map (zH M T)).length),(55,.os 6 0 (O.map Ent.path).length),(56,.v (.int .i64 O.length)),(57,.v (.int .i64 (i:Int)))],[(0,.mp (qq B)),(1,.mp (qq M)),(2,.mp (qq T)),(3,.mp (qq O)),(4,.own false 5 [[.mp 0,.mp 1,.mp 2,.mp 3,.os 5 0 cs.length]]),(5,.own false 2 (cs.map Cpy.row)),(6,.own false 1 ((O.map Ent.path).map jo)),(7,.own false 4 (((O.take i).map (zH M T)).map Ent.row))],8⟩) O.length ⟨0,by omega,rfl,trivial,rfl⟩ ?_
   rintro n σ ⟨i,hi,rfl, -,rfl⟩
   by_cases hlt:i < O.length
   ·have hrow:((O.map Ent.path).map jo)[i]? = some (jo O[i].path):=by rw [List.getElem?_map,List.getElem?_map,List.getElem?_eq_getElem hlt];rfl
    have hen:=hent O[i] (List.getElem_mem hlt)
    have hlt2:i < (O.map Ent.path).length:=by rw [lK];exact hlt
    have hlen:((O.take i).map (zH M T)).length = i:=by rw [List.length_map,List.length_take];omega
    have hlen2:((O.take (i + 1)).map (zH M T)).length = i + 1:=by rw [List.length_map,List.length_take];omega
    have hstep:(((O.take i).map (zH M T)).map Ent.row).take ((O.take i).map (zH M T)).length ++ [(zH M T O[i]).row] = ((O.take (i + 1)).map (zH M T)).map Ent.row:=by
     rw [List.take_of_length_le (by simp),List.take_succ_eq_append_getElem hlt,List.map_append,List.map_append];rfl
    clear hent
    repeat' (first|refine qm ?_|(first|(refine xX ?_))|((first|refine qd ?_ ?_|refine qc ?_ ?_|refine xsC ?_ ?_);all_goals (intro hc;have hp:=hc;try simp at hp;try (exfalso;omega)))|refine qO ?_ ?_)
    all_goals try (exfalso;first|omega|contradiction)
    apply jT Tryz.func26 rfl rfl
    intro hIsFn3
    refine xQ [4,0,1,2,3,5] [] [(4,.own false 5 [[.mp 0,.mp 1,.mp 2,.mp 3,.os 5 0 cs.length]]),(0,.mp (qq B)),(1,.mp (qq M)),(2,.mp (qq T)),(3,.mp (qq O)),(5,.own false 2 (cs.map Cpy.row))] 8 (.agg (zH M T O[i]).row) hIsFn3 (hen) (by ((repeat' (first|exact jf|apply q6|exact je rfl|exact jG|(apply qp;apply qI;exact .inr (of_decide_eq_true rfl))|(apply qp;apply qw;exact .inr (of_decide_eq_true rfl))|(apply qp;apply qF;exact .inr (of_decide_eq_true rfl))|apply jw|apply jx)))<;>fail) (by ((repeat' (first|exact qL|exact qK|refine qA _ ?_ ?_|refine qz ?_ ?_|exact qt|exact qe (qi _)|exact qe (qU _)|exact qe (qr _)|exact qx (fun _=>rfl)|refine qB ?_|exact ql|apply qh|exact qk rfl|(apply qw;exact .inr (of_decide_eq_true rfl))|(apply qF;exact .inr (of_decide_eq_true rfl))|(apply qI;exact .inr (of_decide_eq_true rfl))|fail)))<;>fail) (by ((repeat' (first|exact qL|exact qK|refine qA _ ?_ ?_|refine qz ?_ ?_|exact qt|exact qe (qi _)|exact qe (qU _)|exact qe (qr _)|exact qx (fun _=>rfl)|refine qB ?_|exact ql|apply qh|exact qk rfl|(apply qw;exact .inr (of_decide_eq_true rfl))|(apply qF;exact .inr (of_decide_eq_true rfl))|(apply qI;exact .inr (of_decide_eq_true rfl))|fail)))<;>fail) ?_
    generalize zH M T O[i] = e at *
    repeat' (first|refine qm ?_|(first|(refine jM ?_)|(refine yg ?_))|((first|refine qd ?_ ?_|refine qc ?_ ?_|refine xsC ?_ ?_);all_goals (intro hc;have hp:=hc;try simp at hp;try (exfalso;omega)))|refine qO ?_ ?_)
    all_goals try (exfalso;first|omega|contradiction)
    refine ⟨O.length - (i + 1),⟨[(1,qb M),(2,qb T),(12,.op 4 0 0),(13,.os 7 0 ((O.take (i + 1)).map (zH M T)).length),(55,.os 6 0 (O.map Ent.path).length),(56,.v (.int .i64 O.length)),(57,.v (.int .i64 ((i + 1:Nat):Int)))],[(0,.mp (qq B)),(1,.mp (qq M)),(2,.mp (qq T)),(3,.mp (qq O)),(4,.own false 5 [[.mp 0,.mp 1,.mp 2,.mp 3,.os 5 0 cs.length]]),(5,.own false 2 (cs.map Cpy.row)),(6,.own false 1 ((O.map Ent.path).map jo)),(7,.own false 4 (((O.take (i + 1)).map (zH M T)).map Ent.row))],8⟩,by omega,?_,i + 1,by omega,rfl,trivial,rfl⟩;(skip);refine qC [(4,4),(8,7),(6,6),(5,5),(0,0),(1,1),(2,2),(3,3)] rfl ?_ ?_;(focus ((repeat (first|exact qg|refine qn ?_|refine vu ?_|refine xu ?_|refine xx ?_ ?_|refine qgb ?_|refine qS ?_ ?_));all_goals (first|rfl|(rw [hlen,hlen2];rfl)|omega|trace_state)));(focus ((repeat' (first|exact qj|refine qgc ?_ ?_ ?_|refine kj ?_|refine xA ?_ ?_|refine xz ?_ ?_|exact ql|apply qh|exact qk rfl|(apply qw;(refine .inr ?_;(repeat (first|exact List.mem_cons_self ..|apply List.mem_cons_of_mem))))|(apply qF;(refine .inr ?_;(repeat (first|exact List.mem_cons_self ..|apply List.mem_cons_of_mem))))));all_goals (first|with_reducible exact qi _|with_reducible exact List.Perm.refl _|exact hstep|rfl|trace_state)))
   obtain rfl:i = O.length:=by omega
   rw [List.take_length]
   clear hent
   repeat' (first|refine qm ?_|(first|fail)|((first|refine qd ?_ ?_|refine qc ?_ ?_|refine xsC ?_ ?_);all_goals (intro hc;have hp:=hc;try simp at hp;try (exfalso;omega)))|refine qO ?_ ?_)
   all_goals try (exfalso;first|omega|contradiction)
   unfold Q5 vf
   (exact xE (rs:=[.tmp 6,.tmp 7,.tmp 8]))
end Go.Proofs.YtnhpclmbhbblbaaGreatDoor
set_option linter.unusedSimpArgs false
set_option linter.unnecessarySimpa false
set_option linter.unusedVariables false
set_option maxHeartbeats 1000000
namespace Go.Proofs.YtnhpclmbhbblbaaGreatDoor
open Go.Ab Go.RowKit
set_option maxRecDepth 10000
attribute [local irreducible] Awp yl jE jl Red qX Go.Ab.Fin qW Rz vl jj ji ResOk jV jz yb jv
end Go.Proofs.YtnhpclmbhbblbaaGreatDoor
set_option linter.unusedSimpArgs false
set_option linter.unnecessarySimpa false
set_option linter.unusedVariables false
set_option maxHeartbeats 1000000
namespace Go.Proofs.YtnhpclmbhbblbaaGreatDoor
open Go.Ab Go.RowKit
set_option maxRecDepth 10000
attribute [local irreducible] Awp yl jE jl Red qX Go.Ab.Fin qW Rz vl jj ji ResOk jV jz yb jv
end Go.Proofs.YtnhpclmbhbblbaaGreatDoor
set_option linter.unusedSimpArgs false
set_option linter.unnecessarySimpa false
set_option linter.unusedVariables false
namespace Go.Proofs.YtnhpclmbhbblbaaGreatDoor
open Go.Ab
theorem qal (L l:List qQ):(L.foldl zE l).length ≤ l.length + L.length:=by
 have:=Qd L l
 omega
theorem qbD (b m t:List Ent):(zb b m t).length ≤ b.length + (m.length + t.length):=by
 have h:=qal ((b ++ (m ++ t)).map Ent.path) []
 rw [List.length_map,List.length_append,List.length_append,List.length_nil,Nat.zero_add] at h
 exact h
theorem qfI {m t:List Ent} {s s' : MS} {q:qQ} (h:YY m t s q = some s'):s'.cps.length ≤ s.cps.length + 1:=by
 unfold YY at h
 split at h
 ·injection h with h;subst h;omega
 ·split at h
  ·have:=XK h;simp at this;omega
  ·injection h with h;subst h;simp
theorem qae {m t:List Ent} : ∀ {qs:List qQ} {s s' : MS},kn m t qs s = some s' → s'.cps.length ≤ s.cps.length + qs.length
 | [],s,s',h=>by injection h with h;subst h;simp
 | q :: qs,s,s',h=>by
   unfold kn at h
   cases h1:YY m t s q with
   | none=>rw [h1] at h;cases h
   | some s1 =>
     rw [h1] at h
     have h2:=qfI h1
     have h3:=qae (qs:=qs) h
     simp only [List.length_cons]
     omega
theorem qbJ : ∀ {L:List qQ},(∀ p,p ∈ L → qy p = 0) → (L.flatMap jC).length ≤ 80 * L.length
 | [],_=>by simp
 | p :: L,h=>by
   have h1:=Zc (h p (List.mem_cons_self ..))
   have h2:=qbJ (L:=L) fun q hq=>h q (List.mem_cons_of_mem _ hq)
   rw [List.flatMap_cons,List.length_append,List.length_cons]
   omega
theorem qa9 {b m t:List Ent} {s:MS} (hb:Right b) (hm:Right m) (ht:Right t) (h:vI b m t = some s):s.cps.length ≤ 1000000:=by
 unfold vI at h
 have hP:=qbD b m t
 have lb:=hb.len
 have lm:=hm.len
 have lt:=ht.len
 cases h1:Vg m t (yx b m t (zb b m t)) ⟨xH b m t (zb b m t),[]⟩ with
 | none=>rw [h1] at h;cases h
 | some s1 =>
   rw [h1] at h
   have g1:=WM h1
   have g2:=KC h1
   have g3:=YG b m t (zb b m t)
   have g4:=YX b m t (zb b m t) []
   have g5:(xH b m t (zb b m t)).length ≤ 180:=by
    rw [List.length_nil,Nat.zero_add] at g4
    exact Nat.le_trans g4 (by omega)
   simp only [List.length_nil] at g1
   have hi:=YF (s:=⟨xH b m t (zb b m t),[]⟩) (Vo hb hm ht) (QE hb hm ht) h1
   have f1:=qbJ (L:=s1.out.map Ent.path) fun p hp=>by
    obtain ⟨x,hx,rfl⟩:=List.mem_map.1 hp
    exact (j5 (hi.ent x hx)).1
   have h2:=qae h
   rw [List.length_map] at f1
   simp only at g2
   omega
theorem qa6 {b m t:List Ent} (hb:Right b) (hm:Right m) (ht:Right t) (h:(vW b m t).2.2 = 0):(vW b m t).2.1.length ≤ 1000000:=by
 unfold vW at *
 cases hs:vI b m t with
 | none=>simp
 | some s =>
   simp only
   split
   ·simp
   ·exact qa9 hb hm ht hs
theorem KG {b m t:List Ent} (h:¬ (zd b m t).2.2 = 0):(zd b m t).1 = [] ∧ (zd b m t).2.1 = []:=by
 unfold zd at *
 split at h
 ·rename_i h1
  rw [if_pos h1]
  unfold vW at *
  cases hs:vI b m t with
  | none=>exact ⟨rfl,rfl⟩
  | some s =>
    rw [hs] at h
    simp only at h ⊢
    split at h
    ·rename_i h60;rw [if_pos h60];exact ⟨rfl,rfl⟩
    ·exact absurd rfl h
 ·rename_i h1
  rw [if_neg h1]
  exact ⟨rfl,rfl⟩
end Go.Proofs.YtnhpclmbhbblbaaGreatDoor
