import Derived.Test.YtamejbkifpjhiaaGreatDoorMz18
import Derived.Test.YtamejbkifpjhiaaGreatDoorMz27
import Derived.Test.YtamejbkifpjhiaaGreatDoorMz30
import Derived.Test.YtamejbkifpjhiaaGreatDoorMz13
import Derived.Test.YtamejbkifpjhiaaGreatDoorMz21
import Derived.Test.YtamejbkifpjhiaaGreatDoorMz15
set_option linter.unusedSimpArgs false
set_option linter.unnecessarySimpa false
set_option linter.unusedVariables false
set_option maxHeartbeats 1000000
namespace Go.Proofs.YtamejbkifpjhiaaGreatDoor
open Go.Ab Go.RowKit
set_option maxRecDepth 10000
def Zn:Ent:=⟨[63],false,[33],0⟩
def Zm:Chg:=⟨77,[],[],[],0⟩
def zb {α:Type} (bad:α) (l:List α) (i:Nat):List α:=List.replicate i bad ++ l.drop i
theorem Zf {α:Type} (bad:α) (l:List α):zb bad l 0 = l:=by simp [zb]
theorem Z0 {α:Type} (bad:α) {l:List α} {i:Nat} (h:i ≤ l.length):(zb bad l i).length = l.length:=by simp [zb];omega
theorem Z1 {α:Type} (bad:α) {l:List α} {i:Nat} (h:i < l.length):(zb bad l i).set i bad = zb bad l (i + 1):=by
 unfold zb
 rw [List.set_append,if_neg (by simp)]
 simp only [List.length_replicate,Nat.sub_self]
 rw [List.drop_eq_getElem_cons h,List.set_cons_zero,List.replicate_succ',List.append_assoc];rfl
theorem ZZ {α:Type} (bad:α) {l:List α} {i:Nat} (h:i < l.length):(zb bad l i)[i]? = some l[i]:=by
 unfold zb
 rw [List.getElem?_append_right (by simp)]
 simp [h]
attribute [local irreducible] Awp yH jH jw Red ja Go.Ab.Fin qZ Rz vn jr jp ResOk j3 jC yC jA
theorem Vp (l:List Ent) (hl:l.length ≤ 1000000):qZ C1.P 21 [.os 0 0 l.length] [.own false 4 (l.map Ent.row)] (.tup []) [.dead]:=by
 refine qc (C:=C1) Tryz.func21 rfl _ Tryz.ntmps21 (Nat.le_of_ble_eq_true rfl) _ Tryz.results21 1 rfl rfl ?_
 repeat' (first|refine qn ?_|fail|((first|refine qf ?_ ?_|refine qe ?_ ?_|refine xsC ?_ ?_);all_goals (intro hc;have hp:=hc;try simp at hp;try (exfalso;omega)))|refine qX ?_ ?_)
 all_goals try (exfalso;omega)
 have h0:=Zf Zn l
 (refine Awp.red (qB (τ:=⟨[(0,.os 0 0 l.length),(2,.v (.int .i64 ((0:Nat):Int)))],[(0,.own false 4 ((zb Zn l 0).map Ent.row))],1⟩) [] rfl ?gts ?ghs) ?gmain;(case gts=>(repeat (first|exact qg|refine qo ?_|refine yg ?_|refine x6 ?_|refine qY ?_ ?_));all_goals (rw [h0]));(case ghs=>(repeat (first|exact qj|refine j4 ?_|refine q6 ?_ ?_))))
 refine qV (fun n σ => ∃ i:Nat,i ≤ l.length ∧ n = l.length - i ∧ True ∧ σ = ⟨[(0,.os 0 0 l.length),(2,.v (.int .i64 (i:Int)))],[(0,.own false 4 ((zb Zn l i).map Ent.row))],1⟩) l.length ⟨0,Nat.zero_le _,rfl,trivial,rfl⟩ ?_
 rintro n σ ⟨i,hi,rfl, -,rfl⟩
 have hsl:(zb Zn l i).length = l.length:=Z0 _ hi
 have hml:((zb Zn l i).map Ent.row).length = l.length:=by rw [List.length_map,hsl]
 by_cases hlt:i < l.length
 ·have hr:((zb Zn l i).map Ent.row)[i]? = some l[i].row:=by rw [List.getElem?_map,ZZ _ hlt];rfl
  have hss:((zb Zn l i).map Ent.row).set i (Ent.row Zn) = (zb Zn l (i + 1)).map Ent.row:=by rw [← List.map_set,Z1 _ hlt]
  repeat' (first|refine qn ?_|(first|(refine xC ?_))|((first|refine qf ?_ ?_|refine qe ?_ ?_|refine xsC ?_ ?_);all_goals (intro hc;have hp:=hc;try simp at hp;try (exfalso;omega)))|refine qX ?_ ?_)
  all_goals try (exfalso;omega)
  refine ⟨l.length - (i + 1),_,by omega,qB (τ:=⟨[(0,.os 0 0 l.length),(2,.v (.int .i64 ((i + 1:Nat):Int)))],[(0,.own false 4 ((zb Zn l (i + 1)).map Ent.row))],1⟩) [] rfl ?gts ?ghs,i + 1,by omega,rfl,trivial,rfl⟩;(case gts=>(repeat (first|exact qg|refine qo ?_|refine yg ?_|refine x6 ?_|refine qY ?_ ?_)));(case ghs=>(repeat (first|exact qj|refine j4 ?_|refine q6 ?_ ?_));all_goals exact hss)
 obtain rfl:i = l.length:=by omega
 repeat' (first|refine qn ?_|fail|((first|refine qf ?_ ?_|refine qe ?_ ?_|refine xsC ?_ ?_);all_goals (intro hc;have hp:=hc;try simp at hp;try (exfalso;omega)))|refine qX ?_ ?_)
 all_goals try (exfalso;omega)
 (refine QV (rs:=[]) [] 1 ?_;(apply xn 0;exact qN rfl;(repeat (first|exact qj|refine j4 ?_|refine q6 ?_ ?_)));all_goals trace_state)
theorem qdv (l:List Chg) (hl:l.length ≤ 1000000):qZ C1.P 23 [.os 0 0 l.length] [.own false 5 (l.map Chg.row)] (.tup []) [.dead]:=by
 refine qc (C:=C1) Tryz.func23 rfl _ Tryz.ntmps23 (Nat.le_of_ble_eq_true rfl) _ Tryz.results23 1 rfl rfl ?_
 repeat' (first|refine qn ?_|fail|((first|refine qf ?_ ?_|refine qe ?_ ?_|refine xsC ?_ ?_);all_goals (intro hc;have hp:=hc;try simp at hp;try (exfalso;omega)))|refine qX ?_ ?_)
 all_goals try (exfalso;omega)
 have h0:=Zf Zm l
 (refine Awp.red (qB (τ:=⟨[(0,.os 0 0 l.length),(2,.v (.int .i64 ((0:Nat):Int)))],[(0,.own false 5 ((zb Zm l 0).map Chg.row))],1⟩) [] rfl ?gts ?ghs) ?gmain;(case gts=>(repeat (first|exact qg|refine qo ?_|refine yg ?_|refine x6 ?_|refine qY ?_ ?_));all_goals (rw [h0]));(case ghs=>(repeat (first|exact qj|refine j4 ?_|refine q6 ?_ ?_))))
 refine qV (fun n σ => ∃ i:Nat,i ≤ l.length ∧ n = l.length - i ∧ True ∧ σ = ⟨[(0,.os 0 0 l.length),(2,.v (.int .i64 (i:Int)))],[(0,.own false 5 ((zb Zm l i).map Chg.row))],1⟩) l.length ⟨0,Nat.zero_le _,rfl,trivial,rfl⟩ ?_
 rintro n σ ⟨i,hi,rfl, -,rfl⟩
 have hsl:(zb Zm l i).length = l.length:=Z0 _ hi
 have hml:((zb Zm l i).map Chg.row).length = l.length:=by rw [List.length_map,hsl]
 by_cases hlt:i < l.length
 ·have hr:((zb Zm l i).map Chg.row)[i]? = some l[i].row:=by rw [List.getElem?_map,ZZ _ hlt];rfl
  have hss:((zb Zm l i).map Chg.row).set i (Chg.row Zm) = (zb Zm l (i + 1)).map Chg.row:=by rw [← List.map_set,Z1 _ hlt]
  repeat' (first|refine qn ?_|(first|(refine xC ?_))|((first|refine qf ?_ ?_|refine qe ?_ ?_|refine xsC ?_ ?_);all_goals (intro hc;have hp:=hc;try simp at hp;try (exfalso;omega)))|refine qX ?_ ?_)
  all_goals try (exfalso;omega)
  refine ⟨l.length - (i + 1),_,by omega,qB (τ:=⟨[(0,.os 0 0 l.length),(2,.v (.int .i64 ((i + 1:Nat):Int)))],[(0,.own false 5 ((zb Zm l (i + 1)).map Chg.row))],1⟩) [] rfl ?gts ?ghs,i + 1,by omega,rfl,trivial,rfl⟩;(case gts=>(repeat (first|exact qg|refine qo ?_|refine yg ?_|refine x6 ?_|refine qY ?_ ?_)));(case ghs=>(repeat (first|exact qj|refine j4 ?_|refine q6 ?_ ?_));all_goals exact hss)
 obtain rfl:i = l.length:=by omega
 repeat' (first|refine qn ?_|fail|((first|refine qf ?_ ?_|refine qe ?_ ?_|refine xsC ?_ ?_);all_goals (intro hc;have hp:=hc;try simp at hp;try (exfalso;omega)))|refine qX ?_ ?_)
 all_goals try (exfalso;omega)
 (refine QV (rs:=[]) [] 1 ?_;(apply xn 0;exact qN rfl;(repeat (first|exact qj|refine j4 ?_|refine q6 ?_ ?_)));all_goals trace_state)
def roomE:Ent:=⟨[114,111,111,109],false,[],0⟩
theorem YY {h:Nat → HB} {n:Nat} {a:List Ent} (hn:h n = .own false 4 ((a ++ [roomE]).map Ent.row)):Rz h (.os n 0 a.length) (qa a):=by
 refine qf1 hn (by simp) ?_
 rw [List.drop_zero,List.map_append,List.take_left' (by simp)]
 exact qbh fun _=>rfl
theorem QN {h:Nat → HB} {n:Nat} {a:List Ent} (hn:h n = .own false 4 (a.map Ent.row)):Rz h (.os n 0 a.length) (qa a):=jU hn (by simp) (qK fun _=>rfl)
theorem qfD {h:Nat → HB} {n:Nat} {a:List Chg} (hn:h n = .own false 5 (a.map Chg.row)):Rz h (.os n 0 a.length) (wE a):=jU hn (by simp) (qK fun _=>rfl)
theorem qfE {h:Nat → HB} {n:Nat} {a:List Cpy} (hn:h n = .own false 2 (a.map Cpy.row)):Rz h (.os n 0 a.length) (we a):=jU hn (by simp) (qK fun _=>rfl)
end Go.Proofs.YtamejbkifpjhiaaGreatDoor
set_option linter.unusedSimpArgs false
set_option linter.unnecessarySimpa false
set_option linter.unusedVariables false
set_option maxHeartbeats 1000000
namespace Go.Proofs.YtamejbkifpjhiaaGreatDoor
open Go.Ab Go.RowKit
set_option maxRecDepth 10000
noncomputable def kj:Nat → Code → Code
 | 0,c=>c
 | n + 1,.seq _ b=>kj n b
 | _,c=>c
noncomputable def qbe:Code → Code
 | .seq a _=>a
 | c=>c
noncomputable def qae:List Nat → Code → Code
 | [],c=>c
 | 0 :: p,.seq a _=>qae p a
 | 1 :: p,.seq _ b=>qae p b
 | 2 :: p,.block _ c=>qae p c
 | 3 :: p,.loop c=>qae p c
 | _,c=>c
noncomputable def qaf:List Nat → Code → Code → Code
 | [],T,_=>T
 | 0 :: p,T,.seq a b => .seq (qaf p T a) b
 | 1 :: p,T,.seq a b => .seq a (qaf p T b)
 | 2 :: p,T,.block n c => .block n (qaf p T c)
 | 3 :: p,T,.loop c => .loop (qaf p T c)
 | _,_,c=>c
noncomputable def kr:Code:=match Tryz.f4.body with|some c=>c|none => .skip
noncomputable def rtB:Code:=qae [0,1,2,3,1,0,2] (kj 5 kr)
theorem qgx:kr = .seq (qbe (kj 0 kr)) (.seq (qbe (kj 1 kr)) (.seq (qbe (kj 2 kr)) (.seq (qbe (kj 3 kr)) (.seq (qbe (kj 4 kr)) (kj 5 kr))))):=by kernel_rfl
theorem qgw:kj 5 kr = qaf [0,1,2,3,1,0,2,1,1,1,1,1] (kj 5 rtB) (kj 5 kr):=by kernel_rfl
theorem rt5:kj 5 rtB = .seq (qbe (kj 5 rtB)) (kj 6 rtB):=by kernel_rfl
theorem rt6:kj 6 rtB = .seq (qbe (kj 6 rtB)) (kj 7 rtB):=by kernel_rfl
@[reducible] def rtH (a b c:List Ent) (x:Chg) (i:Nat):St:=⟨[(0,qa a),(1,qa b),(2,qa c),(7,.fp [x.row] 0 0),(9,.os 0 0 (a.length + 1)),(10,.os 0 0 a.length),(11,.os 1 0 b.length),(12,.os 2 0 c.length),(13,.v (.int .i64 (i:Int)))],[(0,.own false 4 ((a ++ [roomE]).map Ent.row)),(1,.own false 4 (b.map Ent.row)),(2,.own false 4 (c.map Ent.row))],3⟩
@[reducible] def rtS (a b c:List Ent) (x:Chg) (i:Nat) (L:List Ent) (e1:Int) (X:List Ent) (K:List Cpy) (E:Int) (D:List Chg) (e2:Int) (U:List Ent) (e3:Int):St:=⟨[(0,qa a),(1,qa b),(2,qa c),(7,.fp [x.row] 0 0),(9,.os 0 0 (a.length + 1)),(10,.os 0 0 a.length),(11,.os 1 0 b.length),(12,.os 2 0 c.length),(13,.v (.int .i64 (i:Int))),(14,.os 3 0 L.length),(15,.v (.int .i64 e1)),(16,.os 4 0 X.length),(17,.os 5 0 K.length),(18,.v (.int .i64 E)),(19,.os 6 0 D.length),(20,.v (.int .i64 e2)),(21,.os 7 0 U.length),(22,.v (.int .i64 e3))],[(0,.own false 4 ((a ++ [roomE]).map Ent.row)),(1,.own false 4 (b.map Ent.row)),(2,.own false 4 (c.map Ent.row)),(3,.own false 4 (L.map Ent.row)),(4,.own false 4 (X.map Ent.row)),(5,.own false 2 (K.map Cpy.row)),(6,.own false 5 (D.map Chg.row)),(7,.own false 4 (U.map Ent.row))],8⟩
def zq (l:List Cpy) (i:Nat):List Cpy:=(l.take i).map (fun c=>⟨c.path,[63]⟩) ++ l.drop i
theorem qak (l:List Cpy):zq l 0 = l:=by simp [zq]
theorem qbn {l:List Cpy} {i:Nat} (h:i ≤ l.length):(zq l i).length = l.length:=by simp [zq];omega
theorem qbm {l:List Cpy} {i:Nat} (h:i < l.length):(zq l i)[i]? = some l[i]:=by
 unfold zq
 rw [List.getElem?_append_right (by simp;omega)]
 simp [h,Nat.min_eq_left (Nat.le_of_lt h)]
theorem qbo {l:List Cpy} {i:Nat} (h:i < l.length):(zq l i).set i ⟨l[i].path,[63]⟩ = zq l (i + 1):=by
 unfold zq
 rw [List.set_append,if_neg (by simp;omega)]
 simp only [List.length_map,List.length_take,Nat.min_eq_left (Nat.le_of_lt h),Nat.sub_self]
 rw [List.drop_eq_getElem_cons h,List.set_cons_zero,List.take_succ_eq_append_getElem h,List.map_append,List.append_assoc];rfl
attribute [local irreducible] Awp yH jH jw Red ja Go.Ab.Fin qZ Rz vn jr jp ResOk j3 jC yC jA
set_option maxHeartbeats 8000000 in
theorem qez (a b c:List Ent) (x:Chg) (i:Nat) (L:List Ent) (e1:Int) (X:List Ent) (K:List Cpy) (E:Int) (D:List Chg) (e2:Int) (U:List Ent) (e3:Int)
  (lL:L.length ≤ 1000000) (lX:X.length ≤ 1000000) (lK:K.length ≤ 1000000) (lD:D.length ≤ 1000000) (lU:U.length ≤ 1000000)
  {Q:Exit → St → Prop} (hQp : ∀ ch ts hs nx,C.die ch ts hs → Q (.panic ch) ⟨ts,hs,nx⟩) (hQ : ∀ σ',Red C σ' (rtH a b c x i) → Q .normal σ') :
  Awp C 186 (kj 7 rtB) Q (rtS a b c x i L e1 X K E D e2 U e3):=by
 conv=>arg 3;whnf
 have h1:=Vp L lL
 have h2:=Vp X lX
 have h3:=Vp U lU
 have h4:=qdv D lD
 repeat' (first|(refine y1 ?_ ?_;rotate_left;exact hQp)|(first|refine qn ?_|fail|((first|refine qf ?_ ?_|refine qe ?_ ?_|refine xsC ?_ ?_);all_goals (intro hc;have hp:=hc;try simp at hp;try (exfalso;omega)))|refine qX ?_ ?_))
 (apply jo Tryz.func21 rfl rfl;intro hIsFn;refine yD [3] [] [(3,.dead)] 8 (.tup []) hIsFn (h1) (by ((repeat' (first|exact q9|apply qR|exact q8 rfl|exact jy|(apply qm;apply qD;exact .inr (of_decide_eq_true rfl))|(apply qm;apply qt;exact .inr (of_decide_eq_true rfl))|(apply qm;apply qz;exact .inr (of_decide_eq_true rfl))|apply jd|apply je)))<;>fail) (by ((repeat' (first|exact qG|exact qF|refine qx _ ?_ ?_|refine qw ?_ ?_|exact qq|exact qb (qh _)|exact qb (qL _)|exact qb (qp _)|exact qv (fun _=>rfl)|refine qy ?_|exact ql|apply qd|exact qk rfl|(apply qt;exact .inr (of_decide_eq_true rfl))|(apply qz;exact .inr (of_decide_eq_true rfl))|(apply qD;exact .inr (of_decide_eq_true rfl))|fail)))<;>fail) (by ((repeat' (first|exact qG|exact qF|refine qx _ ?_ ?_|refine qw ?_ ?_|exact qq|exact qb (qh _)|exact qb (qL _)|exact qb (qp _)|exact qv (fun _=>rfl)|refine qy ?_|exact ql|apply qd|exact qk rfl|(apply qt;exact .inr (of_decide_eq_true rfl))|(apply qz;exact .inr (of_decide_eq_true rfl))|(apply qD;exact .inr (of_decide_eq_true rfl))|fail)))<;>fail) ?_)
 repeat' (first|(refine y1 ?_ ?_;rotate_left;exact hQp)|(first|refine qn ?_|fail|((first|refine qf ?_ ?_|refine qe ?_ ?_|refine xsC ?_ ?_);all_goals (intro hc;have hp:=hc;try simp at hp;try (exfalso;omega)))|refine qX ?_ ?_))
 (apply jo Tryz.func21 rfl rfl;intro hIsFn;refine yD [4] [] [(4,.dead)] 8 (.tup []) hIsFn (h2) (by ((repeat' (first|exact q9|apply qR|exact q8 rfl|exact jy|(apply qm;apply qD;exact .inr (of_decide_eq_true rfl))|(apply qm;apply qt;exact .inr (of_decide_eq_true rfl))|(apply qm;apply qz;exact .inr (of_decide_eq_true rfl))|apply jd|apply je)))<;>fail) (by ((repeat' (first|exact qG|exact qF|refine qx _ ?_ ?_|refine qw ?_ ?_|exact qq|exact qb (qh _)|exact qb (qL _)|exact qb (qp _)|exact qv (fun _=>rfl)|refine qy ?_|exact ql|apply qd|exact qk rfl|(apply qt;exact .inr (of_decide_eq_true rfl))|(apply qz;exact .inr (of_decide_eq_true rfl))|(apply qD;exact .inr (of_decide_eq_true rfl))|fail)))<;>fail) (by ((repeat' (first|exact qG|exact qF|refine qx _ ?_ ?_|refine qw ?_ ?_|exact qq|exact qb (qh _)|exact qb (qL _)|exact qb (qp _)|exact qv (fun _=>rfl)|refine qy ?_|exact ql|apply qd|exact qk rfl|(apply qt;exact .inr (of_decide_eq_true rfl))|(apply qz;exact .inr (of_decide_eq_true rfl))|(apply qD;exact .inr (of_decide_eq_true rfl))|fail)))<;>fail) ?_)
 repeat' (first|(refine y1 ?_ ?_;rotate_left;exact hQp)|(first|refine qn ?_|fail|((first|refine qf ?_ ?_|refine qe ?_ ?_|refine xsC ?_ ?_);all_goals (intro hc;have hp:=hc;try simp at hp;try (exfalso;omega)))|refine qX ?_ ?_))
 (apply jo Tryz.func21 rfl rfl;intro hIsFn;refine yD [7] [] [(7,.dead)] 8 (.tup []) hIsFn (h3) (by ((repeat' (first|exact q9|apply qR|exact q8 rfl|exact jy|(apply qm;apply qD;exact .inr (of_decide_eq_true rfl))|(apply qm;apply qt;exact .inr (of_decide_eq_true rfl))|(apply qm;apply qz;exact .inr (of_decide_eq_true rfl))|apply jd|apply je)))<;>fail) (by ((repeat' (first|exact qG|exact qF|refine qx _ ?_ ?_|refine qw ?_ ?_|exact qq|exact qb (qh _)|exact qb (qL _)|exact qb (qp _)|exact qv (fun _=>rfl)|refine qy ?_|exact ql|apply qd|exact qk rfl|(apply qt;exact .inr (of_decide_eq_true rfl))|(apply qz;exact .inr (of_decide_eq_true rfl))|(apply qD;exact .inr (of_decide_eq_true rfl))|fail)))<;>fail) (by ((repeat' (first|exact qG|exact qF|refine qx _ ?_ ?_|refine qw ?_ ?_|exact qq|exact qb (qh _)|exact qb (qL _)|exact qb (qp _)|exact qv (fun _=>rfl)|refine qy ?_|exact ql|apply qd|exact qk rfl|(apply qt;exact .inr (of_decide_eq_true rfl))|(apply qz;exact .inr (of_decide_eq_true rfl))|(apply qD;exact .inr (of_decide_eq_true rfl))|fail)))<;>fail) ?_)
 repeat' (first|(refine y1 ?_ ?_;rotate_left;exact hQp)|(first|refine qn ?_|fail|((first|refine qf ?_ ?_|refine qe ?_ ?_|refine xsC ?_ ?_);all_goals (intro hc;have hp:=hc;try simp at hp;try (exfalso;omega)))|refine qX ?_ ?_))
 (apply jo Tryz.func23 rfl rfl;intro hIsFn;refine yD [6] [] [(6,.dead)] 8 (.tup []) hIsFn (h4) (by ((repeat' (first|exact q9|apply qR|exact q8 rfl|exact jy|(apply qm;apply qD;exact .inr (of_decide_eq_true rfl))|(apply qm;apply qt;exact .inr (of_decide_eq_true rfl))|(apply qm;apply qz;exact .inr (of_decide_eq_true rfl))|apply jd|apply je)))<;>fail) (by ((repeat' (first|exact qG|exact qF|refine qx _ ?_ ?_|refine qw ?_ ?_|exact qq|exact qb (qh _)|exact qb (qL _)|exact qb (qp _)|exact qv (fun _=>rfl)|refine qy ?_|exact ql|apply qd|exact qk rfl|(apply qt;exact .inr (of_decide_eq_true rfl))|(apply qz;exact .inr (of_decide_eq_true rfl))|(apply qD;exact .inr (of_decide_eq_true rfl))|fail)))<;>fail) (by ((repeat' (first|exact qG|exact qF|refine qx _ ?_ ?_|refine qw ?_ ?_|exact qq|exact qb (qh _)|exact qb (qL _)|exact qb (qp _)|exact qv (fun _=>rfl)|refine qy ?_|exact ql|apply qd|exact qk rfl|(apply qt;exact .inr (of_decide_eq_true rfl))|(apply qz;exact .inr (of_decide_eq_true rfl))|(apply qD;exact .inr (of_decide_eq_true rfl))|fail)))<;>fail) ?_)
 repeat' (first|(refine y1 ?_ ?_;rotate_left;exact hQp)|(first|refine qn ?_|fail|((first|refine qf ?_ ?_|refine qe ?_ ?_|refine xsC ?_ ?_);all_goals (intro hc;have hp:=hc;try simp at hp;try (exfalso;omega)))|refine qX ?_ ?_))
 all_goals try (exfalso;omega)
 have h0:=qak K
 (refine Awp.red (qB (τ:=⟨[(0,qa a),(1,qa b),(2,qa c),(7,.fp [x.row] 0 0),(9,.os 0 0 (a.length + 1)),(10,.os 0 0 a.length),(11,.os 1 0 b.length),(12,.os 2 0 c.length),(13,.v (.int .i64 (i:Int))),(17,.os 3 0 K.length),(28,.v (.int .i64 ((0:Nat):Int)))],[(0,.own false 4 ((a ++ [roomE]).map Ent.row)),(1,.own false 4 (b.map Ent.row)),(2,.own false 4 (c.map Ent.row)),(3,.own false 2 ((zq K 0).map Cpy.row))],4⟩) [(5,3),(0,0),(1,1),(2,2)] rfl ?_ ?_) ?_;rotate_left 2;rotate_left 1;(focus ((repeat (first|exact qg|refine qo ?_|refine xl ?_|refine yu ?_|refine yw ?_ ?_|refine ws ?_|refine qY ?_ ?_));all_goals trace_state));(focus ((repeat' (first|exact qj|refine ww ?_ ?_ ?_|refine vJ ?_|refine yy ?_ ?_|refine yx ?_ ?_|exact ql|apply qd|exact qk rfl|(apply qt;(refine .inr ?_;(repeat (first|exact List.mem_cons_self ..|apply List.mem_cons_of_mem))))|(apply qz;(refine .inr ?_;(repeat (first|exact List.mem_cons_self ..|apply List.mem_cons_of_mem))))));all_goals (first|rfl|(rw [h0];done)|trace_state))))
 refine qV (fun n σ => ∃ j:Nat,j ≤ K.length ∧ n = K.length - j ∧ True ∧ σ = ⟨[(0,qa a),(1,qa b),(2,qa c),(7,.fp [x.row] 0 0),(9,.os 0 0 (a.length + 1)),(10,.os 0 0 a.length),(11,.os 1 0 b.length),(12,.os 2 0 c.length),(13,.v (.int .i64 (i:Int))),(17,.os 3 0 K.length),(28,.v (.int .i64 (j:Int)))],[(0,.own false 4 ((a ++ [roomE]).map Ent.row)),(1,.own false 4 (b.map Ent.row)),(2,.own false 4 (c.map Ent.row)),(3,.own false 2 ((zq K j).map Cpy.row))],4⟩) K.length ⟨0,Nat.zero_le _,rfl,trivial,rfl⟩ ?_
 rintro n σ ⟨j,hj,rfl, -,rfl⟩
 have hsl:(zq K j).length = K.length:=qbn hj
 have hml:((zq K j).map Cpy.row).length = K.length:=by rw [List.length_map,hsl]
 by_cases hlt:j < K.length
 ·have hr:((zq K j).map Cpy.row)[j]? = some K[j].row:=by rw [List.getElem?_map,qbm hlt];rfl
  have hss:((zq K j).map Cpy.row).set j (Cpy.row ⟨K[j].path,[63]⟩) = (zq K (j + 1)).map Cpy.row:=by rw [← List.map_set,qbo hlt]
  clear hQ
  repeat' (first|(refine y1 ?_ ?_;rotate_left;exact hQp)|(first|refine qn ?_|(refine xC ?_)|((first|refine qf ?_ ?_|refine qe ?_ ?_|refine xsC ?_ ?_);all_goals (intro hc;have hp:=hc;try simp at hp;try (exfalso;omega)))|refine qX ?_ ?_))
  all_goals try (exfalso;omega)
  refine ⟨K.length - (j + 1),⟨[(0,qa a),(1,qa b),(2,qa c),(7,.fp [x.row] 0 0),(9,.os 0 0 (a.length + 1)),(10,.os 0 0 a.length),(11,.os 1 0 b.length),(12,.os 2 0 c.length),(13,.v (.int .i64 (i:Int))),(17,.os 3 0 K.length),(28,.v (.int .i64 ((j + 1:Nat):Int)))],[(0,.own false 4 ((a ++ [roomE]).map Ent.row)),(1,.own false 4 (b.map Ent.row)),(2,.own false 4 (c.map Ent.row)),(3,.own false 2 ((zq K (j + 1)).map Cpy.row))],4⟩,by omega,?_,j + 1,by omega,rfl,trivial,rfl⟩;(skip);refine qB [(3,3),(0,0),(1,1),(2,2)] rfl ?_ ?_;(focus ((repeat (first|exact qg|refine qo ?_|refine xl ?_|refine yu ?_|refine yw ?_ ?_|refine ws ?_|refine qY ?_ ?_));all_goals trace_state));(focus ((repeat' (first|exact qj|refine ww ?_ ?_ ?_|refine vJ ?_|refine yy ?_ ?_|refine yx ?_ ?_|exact ql|apply qd|exact qk rfl|(apply qt;(refine .inr ?_;(repeat (first|exact List.mem_cons_self ..|apply List.mem_cons_of_mem))))|(apply qz;(refine .inr ?_;(repeat (first|exact List.mem_cons_self ..|apply List.mem_cons_of_mem))))));all_goals (first|rfl|exact hss|trace_state)))
 obtain rfl:j = K.length:=by omega
 repeat' (first|(refine y1 ?_ ?_;rotate_left;exact hQp)|(first|refine qn ?_|fail|((first|refine qf ?_ ?_|refine qe ?_ ?_|refine xsC ?_ ?_);all_goals (intro hc;have hp:=hc;try simp at hp;try (exfalso;omega)))|refine qX ?_ ?_))
 all_goals try (exfalso;omega)
 all_goals (refine hQ _ (qB [(0,0),(1,1),(2,2)] rfl ?_ ?_);(focus ((repeat (first|exact qg|refine qo ?_|refine xl ?_|refine yu ?_|refine yw ?_ ?_|refine ws ?_|refine qY ?_ ?_))));(focus ((repeat' (first|exact qj|refine ww ?_ ?_ ?_|refine vJ ?_|refine yy ?_ ?_|refine yx ?_ ?_|exact ql|apply qd|exact qk rfl|(apply qt;(refine .inr ?_;(repeat (first|exact List.mem_cons_self ..|apply List.mem_cons_of_mem))))|(apply qz;(refine .inr ?_;(repeat (first|exact List.mem_cons_self ..|apply List.mem_cons_of_mem)))))))))
set_option maxHeartbeats 8000000 in
theorem qc1 (a b c:List Ent) (x:Chg) (i:Nat) (L:List Ent) (e1:Int) (X:List Ent) (K:List Cpy) (E:Int) (D:List Chg) (e2:Int) (U:List Ent) (e3:Int) (E3:Int)
  (lX:X.length ≤ 1000000) (lK:K.length ≤ 1000000) (h1:xH C.P 34 [qa a,qa b,qa c] (.v (.int .i64 E3)))
  (h2:E3 = 0 → xH C.P 35 [qa a,qa b,qa c] (Qz (X,K,E))) (hi:E3 = 0 → QS X E E X = true) (h20:E3 = 0 → e2 = 0 ∧ e3 = 0)
  {Q:Exit → St → Prop} (hQp : ∀ ch ts hs nx,C.die ch ts hs → Q (.panic ch) ⟨ts,hs,nx⟩) (hT:Awp C 186 (kj 7 rtB) Q (rtS a b c x i L e1 X K E D e2 U e3)) :
  Awp C 186 (kj 6 rtB) Q (rtS a b c x i L e1 X K E D e2 U e3):=by
 rw [rt6]
 generalize kj 7 rtB = T at *
 conv=>arg 3;arg 1;whnf
 have h3:=Wc X E E X (by omega) (by omega)
 have h4:=Z9 K (by omega)
 by_cases h0:E3 = 0
 ·have g2:=h2 h0
  rw [hi h0] at h3
  obtain ⟨rfl,rfl⟩:=h20 h0
  clear h2 hi h20
  subst h0
  unfold Qz at g2
  have d0:decide (E = E) = true:=by simp
  repeat' (first|(refine y1 ?_ ?_;rotate_left;exact hQp)|(first|refine qn ?_|(first|refine jv Tryz.func34 (h1 ..) ?_|refine j1 Tryz.func35 (g2 ..) ?_|(apply qi;apply j9 ([4]);exact jW Tryz.func33 rfl rfl;exact h3;(case hz=>exact (qA (QN rfl) (qA (q4 rfl) (qA (q4 rfl) (qA (q4 rfl) q5)))));(case hfl=>rfl);(case hN=>exact nle rfl))|(apply qi;apply j9 ([5]);exact jW Tryz.func36 rfl rfl;exact h4;(case hz=>exact (qA (qfE rfl) (qA (q4 rfl) q5)));(case hfl=>rfl);(case hN=>exact nle rfl)))|((first|refine qf ?_ ?_|refine qe ?_ ?_|refine xsC ?_ ?_);all_goals (intro hc;have hp:=hc;try simp at hp;try (exfalso;omega)))|refine qX ?_ ?_))
  all_goals try (exfalso;first|omega|contradiction|simp_all;done)
  all_goals (refine Awp.red ?_ hT;refine qB [(4,4),(5,5),(6,6),(7,7),(0,0),(1,1),(2,2),(3,3)] rfl ?_ ?_;(focus ((repeat (first|exact qg|refine qo ?_|refine xl ?_|refine yu ?_|refine yw ?_ ?_|refine ws ?_|refine qY ?_ ?_))));(focus ((repeat' (first|exact qj|refine ww ?_ ?_ ?_|refine vJ ?_|refine yy ?_ ?_|refine yx ?_ ?_|exact ql|apply qd|exact qk rfl|(apply qt;(refine .inr ?_;(repeat (first|exact List.mem_cons_self ..|apply List.mem_cons_of_mem))))|(apply qz;(refine .inr ?_;(repeat (first|exact List.mem_cons_self ..|apply List.mem_cons_of_mem)))))))))
 ·clear h2 hi h20
  repeat' (first|(refine y1 ?_ ?_;rotate_left;exact hQp)|(first|refine qn ?_|refine jv Tryz.func34 (h1 ..) ?_|((first|refine qf ?_ ?_|refine qe ?_ ?_|refine xsC ?_ ?_);all_goals (intro hc;have hp:=hc;try simp at hp;try (exfalso;omega)))|refine qX ?_ ?_))
  all_goals try (exfalso;first|omega|contradiction)
  all_goals (refine Awp.red ?_ hT;refine qB [(4,4),(5,5),(6,6),(7,7),(0,0),(1,1),(2,2),(3,3)] rfl ?_ ?_;(focus ((repeat (first|exact qg|refine qo ?_|refine xl ?_|refine yu ?_|refine yw ?_ ?_|refine ws ?_|refine qY ?_ ?_))));(focus ((repeat' (first|exact qj|refine ww ?_ ?_ ?_|refine vJ ?_|refine yy ?_ ?_|refine yx ?_ ?_|exact ql|apply qd|exact qk rfl|(apply qt;(refine .inr ?_;(repeat (first|exact List.mem_cons_self ..|apply List.mem_cons_of_mem))))|(apply qz;(refine .inr ?_;(repeat (first|exact List.mem_cons_self ..|apply List.mem_cons_of_mem)))))))))
set_option maxHeartbeats 8000000 in
theorem qbf (a b c:List Ent) (x:Chg) (i:Nat) (L:List Ent) (e1:Int) (X:List Ent) (K:List Cpy) (E:Int) (D:List Chg) (e2:Int) (U:List Ent) (e3:Int) (E1:Int)
  (lL:L.length ≤ 1000000) (h1:xH C.P 31 [qa a] (.v (.int .i64 E1)))
  (h2:E1 = 0 → xH C.P 32 [qa a,.agg x.row,.v (.int .i64 5)] (.tup [qa L,.v (.int .i64 e1)])) (hi:E1 = 0 → QS L e1 e1 L = true)
  {Q:Exit → St → Prop} (hQp : ∀ ch ts hs nx,C.die ch ts hs → Q (.panic ch) ⟨ts,hs,nx⟩) (hT:Awp C 186 (kj 6 rtB) Q (rtS a b c x i L e1 X K E D e2 U e3)) :
  Awp C 186 (kj 5 rtB) Q (rtS a b c x i L e1 X K E D e2 U e3):=by
 rw [rt5]
 generalize kj 6 rtB = T at *
 conv=>arg 3;arg 1;whnf
 have h3:=Wc L e1 e1 L (by omega) (by omega)
 by_cases h0:E1 = 0
 ·have g2:=h2 h0
  rw [hi h0] at h3
  clear h2 hi
  subst h0
  have d0:decide (e1 = e1) = true:=by simp
  repeat' (first|(refine y1 ?_ ?_;rotate_left;exact hQp)|(first|refine qn ?_|(first|refine jv Tryz.func31 (h1 ..) ?_|refine j1 Tryz.func32 (g2 ..) ?_|(apply qi;apply j9 ([3]);exact jW Tryz.func33 rfl rfl;exact h3;(case hz=>exact (qA (QN rfl) (qA (q4 rfl) (qA (q4 rfl) (qA (q4 rfl) q5)))));(case hfl=>rfl);(case hN=>exact nle rfl)))|((first|refine qf ?_ ?_|refine qe ?_ ?_|refine xsC ?_ ?_);all_goals (intro hc;have hp:=hc;try simp at hp;try (exfalso;omega)))|refine qX ?_ ?_))
  all_goals try (exfalso;first|omega|contradiction|simp_all;done)
  all_goals (refine Awp.red ?_ hT;refine qB [(4,4),(5,5),(6,6),(7,7),(0,0),(1,1),(2,2),(3,3)] rfl ?_ ?_;(focus ((repeat (first|exact qg|refine qo ?_|refine xl ?_|refine yu ?_|refine yw ?_ ?_|refine ws ?_|refine qY ?_ ?_))));(focus ((repeat' (first|exact qj|refine ww ?_ ?_ ?_|refine vJ ?_|refine yy ?_ ?_|refine yx ?_ ?_|exact ql|apply qd|exact qk rfl|(apply qt;(refine .inr ?_;(repeat (first|exact List.mem_cons_self ..|apply List.mem_cons_of_mem))))|(apply qz;(refine .inr ?_;(repeat (first|exact List.mem_cons_self ..|apply List.mem_cons_of_mem)))))))))
 ·clear h2 hi
  repeat' (first|(refine y1 ?_ ?_;rotate_left;exact hQp)|(first|refine qn ?_|refine jv Tryz.func31 (h1 ..) ?_|((first|refine qf ?_ ?_|refine qe ?_ ?_|refine xsC ?_ ?_);all_goals (intro hc;have hp:=hc;try simp at hp;try (exfalso;omega)))|refine qX ?_ ?_))
  all_goals try (exfalso;first|omega|contradiction)
  all_goals (refine Awp.red ?_ hT;refine qB [(4,4),(5,5),(6,6),(7,7),(0,0),(1,1),(2,2),(3,3)] rfl ?_ ?_;(focus ((repeat (first|exact qg|refine qo ?_|refine xl ?_|refine yu ?_|refine yw ?_ ?_|refine ws ?_|refine qY ?_ ?_))));(focus ((repeat' (first|exact qj|refine ww ?_ ?_ ?_|refine vJ ?_|refine yy ?_ ?_|refine yx ?_ ?_|exact ql|apply qd|exact qk rfl|(apply qt;(refine .inr ?_;(repeat (first|exact List.mem_cons_self ..|apply List.mem_cons_of_mem))))|(apply qz;(refine .inr ?_;(repeat (first|exact List.mem_cons_self ..|apply List.mem_cons_of_mem)))))))))
end Go.Proofs.YtamejbkifpjhiaaGreatDoor
