import Derived.Test.YtamejbkifpjhiaaGreatDoorMz30
import Derived.Test.YtamejbkifpjhiaaGreatDoorMz0
import Derived.Test.YtamejbkifpjhiaaGreatDoorMz34
import Derived.Test.YtamejbkifpjhiaaGreatDoorMz31
set_option linter.unusedSimpArgs false
set_option linter.unnecessarySimpa false
set_option linter.unusedVariables false
set_option maxHeartbeats 1000000
namespace Go.Proofs.YtamejbkifpjhiaaGreatDoor
open Go.Ab Go.RowKit
set_option maxRecDepth 10000
attribute [local irreducible] Awp yH jH jw Red ja Go.Ab.Fin qZ Rz vn jr jp ResOk j3 jC yC jA
theorem qaT {b m t:List Ent} (h:jK qC [b,m,t] = 0):xP b m t = zh b m t:=by
 unfold xP;rw [if_pos h]
theorem XO {b m t:List Ent} (h:jK qC [b,m,t] = 0):qC b = 0 ∧ qC m = 0 ∧ qC t = 0:=by
 have:=xU.1 h
 exact ⟨this b (by simp),this m (by simp),this t (by simp)⟩
theorem X3 (t:List Ent) (e:Int) (h:¬ e = 0 → t = []):QS t e e t = true:=by
 unfold QS
 by_cases h0:e = 0
 ·rw [if_pos h0];simp
 ·rw [if_neg h0,h h0];simp
theorem qaV {b m t:List Ent} (hb:Right b) (hm:Right m) (ht:Right t):(zh b m t).1.length ≤ 60 ∧ (zh b m t).2.1.length ≤ 1000000:=by
 by_cases h:(zh b m t).2.2 = 0
 ·exact ⟨(Kt hb hm ht h).len,qaU hb hm ht h⟩
 ·have h1:=Qx (b:=b) (m:=m) (t:=t) (by rw [w7 (jT.2 hb) (jT.2 hm) (jT.2 ht)];exact h)
  rw [w7 (jT.2 hb) (jT.2 hm) (jT.2 ht)] at h1
  rw [h1.1,h1.2];simp
end Go.Proofs.YtamejbkifpjhiaaGreatDoor
set_option linter.unusedSimpArgs false
set_option linter.unnecessarySimpa false
set_option linter.unusedVariables false
set_option maxHeartbeats 1000000
namespace Go.Proofs.YtamejbkifpjhiaaGreatDoor
open Go.Ab Go.RowKit
set_option maxRecDepth 10000
theorem qcS {a:List Ent} {l:List Chg} {v:Int}:(kL v a l).1.length ≤ 60:=by
 unfold kL
 split
 ·simp
 ·split
  ·simp
  ·rename_i h1 h2
   by_cases h:(x7 v a l).2 = 0
   ·exact (XW v l a (jT.1 (Decidable.not_not.1 h1)) h).len
   ·have : ∀ (l:List Chg) (t:List Ent), ¬ (x7 v t l).2 = 0 → (x7 v t l).1 = []:=by
     intro l
     induction l with
     | nil=>intro t h;exact absurd rfl h
     | cons c l ih =>
       intro t h
       unfold x7 at h ⊢
       split
       ·rename_i h3;rw [if_pos h3] at h;exact ih _ h
       ·rfl
    rw [this l a h];simp
theorem qcj {a:List Ent} {c:Chg} {v:Int}:(vf a c v).length ≤ 60:=by
 by_cases h:yJ a c v = 0
 ·obtain ⟨_,_,_,h1,h2⟩:=JW h
  rw [h1];exact h2.len
 ·unfold vf;rw [if_neg h];simp
theorem qcI {a b c:List Ent}:(xP a b c).1.length ≤ 60 ∧ (xP a b c).2.1.length ≤ 1000000:=by
 by_cases h:(xP a b c).2.2 = 0
 ·obtain ⟨e1,e2,e3⟩:=Ks h
  rw [w7 e1 e2 e3]
  exact qaV (jT.1 e1) (jT.1 e2) (jT.1 e3)
 ·have:=Qx h
  rw [this.1,this.2];simp
theorem Vy {a b:List Ent}:CBig (zP a b) ∧ (zP a b).length ≤ 120:=by
 unfold zP
 by_cases h:zN a b = 0
 ·rw [if_pos h]
  obtain ⟨h1,h2⟩:=kJ.1 h
  exact ⟨qcW (jT.1 h1) (jT.1 h2),KE (jT.1 h1) (jT.1 h2)⟩
 ·rw [if_neg h];exact ⟨⟨fun e he=>(by cases he),by simp⟩,by simp⟩
theorem qeq {a b:List Ent} (ha:qC a = 0) (hb:qC b = 0):(kL 7 a (zP a b)).2 = 0:=by
 have h0:=kJ.2 ⟨ha,hb⟩
 obtain ⟨t,h1,_,_⟩:=qa0 (v:=7) (jT.1 ha) (jT.1 hb) (by decide)
 have h2:=KE (jT.1 ha) (jT.1 hb)
 unfold kL zP
 rw [if_neg (by simp [ha]),if_pos h0,if_neg (by omega),h1]
attribute [local irreducible] Awp yH jH jw Red ja Go.Ab.Fin qZ Rz vn jr jp ResOk j3 jC yC jA
set_option maxHeartbeats 16000000 in
theorem qfC (a b c:List Ent) (x:Chg) (ha:EBig a) (hb:EBig b) (hc:EBig c) (hx:x.small) :
  Awp C 186 (kj 5 kr) (Kl C #[ResultVar.tmp 8] 0 (.v (.bool true)) []) ⟨[(0,qa a),(1,qa b),(2,qa c),(7,.fp [x.row] 0 0),(9,.os 0 0 (a.length + 1)),(10,.os 0 0 a.length),(11,.os 1 0 b.length),(12,.os 2 0 c.length)],[(0,.own false 4 ((a ++ [roomE]).map Ent.row)),(1,.own false 4 (b.map Ent.row)),(2,.own false 4 (c.map Ent.row))],3⟩:=by
 have c1:=KY a x 5 ha hx
 have c2:=qdp a b c ha hb hc
 have c3:=qeL a b ha hb
 have c4:=qdq a (zP a b) 7 ha Vy.1
 have la:=ha.len
 have lb:=hb.len
 have lc:=hc.len
 have hT : ∀ (i:Nat) (Q:Exit → St → Prop),(∀ ch ts hs nx,C.die ch ts hs → Q (.panic ch) ⟨ts,hs,nx⟩) → (∀ σ',Red C σ' (rtH a b c x i) → Q .normal σ') →
   Awp C 186 (kj 5 rtB) Q (rtS a b c x i (vf a x 5) (yJ a x 5) (xP a b c).1 (xP a b c).2.1 (xP a b c).2.2 (zP a b) (zN a b) (kL 7 a (zP a b)).1 (kL 7 a (zP a b)).2):=by
  intro i Q hQp hQ
  have f1 := @qcj a x 5
  have f2 := @qcI a b c
  have f3:=(@Vy a b).2
  have f4 := @qcS a (zP a b) 7
  refine qbf a b c x i _ _ _ _ _ _ _ _ _ (qC a) (by omega) (kS a ha) (fun h=>?_) (fun h=>X3 _ _ (fun h'=>by unfold vf;rw [if_neg h'])) hQp
   (qc1 a b c x i _ _ _ _ _ _ _ _ _ (jK qC [a,b,c]) (by omega) (by omega) (Ka a b c ha hb hc) (fun h=>?_) (fun h=>X3 _ _ (fun h'=>(Qx h').1)) (fun h=>?_) hQp
    (qez a b c x i _ _ _ _ _ _ _ _ _ (by omega) (by omega) (by omega) (by omega) (by omega) hQp hQ))
  ·have hR:=jT.1 h
   have h1:=qar a x 5 hR.len hR.rise (fun y hy=>(jz (hR.ent y hy)).1) hx
   have hE:yJ a x 5 = vb a x 5:=by unfold yJ;rw [if_neg (by simp [h]),if_neg (by decide)]
   have hL:vf a x 5 = QJ a x 5:=by unfold vf QJ;rw [hE]
   rw [hE,hL];exact h1
  ·obtain ⟨e1,e2,e3⟩:=XO h
   rw [qaT h]
   exact qcb a b c (jT.1 e1) (jT.1 e2) (jT.1 e3)
  ·obtain ⟨e1,e2,e3⟩:=XO h
   exact ⟨kJ.2 ⟨e1,e2⟩,qeq e1 e2⟩
 unfold Ky at c1 c4
 unfold qgs at c3
 unfold mgW at c2
 generalize vf a x 5 = L at *
 generalize yJ a x 5 = e1 at *
 generalize xP a b c = mr at *
 obtain ⟨X,K,E⟩:=mr
 generalize kL 7 a (zP a b) = pr at *
 obtain ⟨U,e3⟩:=pr
 generalize zP a b = D at *
 generalize zN a b = e2 at *
 dsimp only at *
 have h4:=zA a a (by omega) (by omega)
 have h5:=zA b b (by omega) (by omega)
 have h6:=zA c c (by omega) (by omega)
 rw [decide_eq_true rfl] at h4 h5 h6
 rw [qgw]
 generalize kj 5 rtB = T at *
 conv =>
  arg 3;whnf
  arg 1;whnf
  arg 2;whnf
  arg 2;whnf
  arg 1;whnf
  arg 2;whnf
  arg 1;whnf
  arg 2;whnf
  arg 2;whnf
  arg 2;whnf
  arg 2;whnf
  arg 2;whnf
  arg 2;whnf
 repeat' (first|refine qn ?_|fail|((first|refine qf ?_ ?_|refine qe ?_ ?_|refine xsC ?_ ?_);all_goals (intro hc;have hp:=hc;try simp at hp;try (exfalso;omega)))|refine qX ?_ ?_)
 (refine Awp.red (qB (τ:=rtH a b c x 0) [(0,0),(1,1),(2,2)] rfl ?_ ?_) ?_;rotate_left 2;rotate_left 1;(focus ((repeat (first|exact qg|refine qo ?_|refine xl ?_|refine yu ?_|refine yw ?_ ?_|refine ws ?_|refine qY ?_ ?_))));(focus ((repeat' (first|exact qj|refine ww ?_ ?_ ?_|refine vJ ?_|refine yy ?_ ?_|refine yx ?_ ?_|exact ql|apply qd|exact qk rfl|(apply qt;(refine .inr ?_;(repeat (first|exact List.mem_cons_self ..|apply List.mem_cons_of_mem))))|(apply qz;(refine .inr ?_;(repeat (first|exact List.mem_cons_self ..|apply List.mem_cons_of_mem)))))))))
 refine qV (fun n σ => ∃ i:Nat,i ≤ 2 ∧ n = 2 - i ∧ σ = rtH a b c x i) 2 ⟨0,by omega,rfl,rfl⟩ ?_
 rintro n σ ⟨i,hi,rfl,rfl⟩
 by_cases hlt:i < 2
 ·have hml:(a.map Ent.row).length = a.length:=List.length_map ..
  have hrow:((a ++ [roomE]).map Ent.row)[(a.map Ent.row).length]? = some roomE.row:=by rw [List.map_append,List.getElem?_append_right (Nat.le_refl _)];simp
  repeat' (first|refine qn ?_|(first|(apply jo Tryz.func27 rfl rfl;intro hIsFn;refine Xu [0] [(3,.own false 4 (L.map Ent.row))] 4 (.tup [.os 3 0 L.length,.v (.int .i64 e1)]) hIsFn (c1) (qA (YY rfl) (qA (q4 rfl) (qA (q4 rfl) q5))) ?_)|(apply jo Tryz.func28 rfl rfl;intro hIsFn;refine Xu [0,1,2] [(4,.own false 4 (X.map Ent.row)),(5,.own false 2 (K.map Cpy.row))] 6 (.tup [.os 4 0 X.length,.os 5 0 K.length,.v (.int .i64 E)]) hIsFn (c2) (qA (YY rfl) (qA (QN rfl) (qA (QN rfl) q5))) ?_)|(apply jo Tryz.func29 rfl rfl;intro hIsFn;refine Xu [0,1] [(6,.own false 5 (D.map Chg.row))] 7 (.tup [.os 6 0 D.length,.v (.int .i64 e2)]) hIsFn (c3) (qA (YY rfl) (qA (QN rfl) q5)) ?_)|(apply jo Tryz.func30 rfl rfl;intro hIsFn;refine Xu [0,6] [(7,.own false 4 (U.map Ent.row))] 8 (.tup [.os 7 0 U.length,.v (.int .i64 e3)]) hIsFn (c4) (qA (YY rfl) (qA (qfD rfl) (qA (q4 rfl) q5))) ?_)|(apply qi;apply j9 ([0]);exact jW Tryz.func19 rfl rfl;exact h4;(case hz=>exact (qA (YY rfl) (qA (q4 rfl) q5)));(case hfl=>rfl);(case hN=>exact nle rfl))|(apply qi;apply j9 ([1]);exact jW Tryz.func19 rfl rfl;exact h5;(case hz=>exact (qA (QN rfl) (qA (q4 rfl) q5)));(case hfl=>rfl);(case hN=>exact nle rfl))|(apply qi;apply j9 ([2]);exact jW Tryz.func19 rfl rfl;exact h6;(case hz=>exact (qA (QN rfl) (qA (q4 rfl) q5)));(case hfl=>rfl);(case hN=>exact nle rfl))|(refine xC ?_))|((first|refine qf ?_ ?_|refine qe ?_ ?_|refine xsC ?_ ?_);all_goals (intro hc;have hp:=hc;try simp at hp;try (exfalso;omega)))|refine qX ?_ ?_)
  all_goals try (exfalso;first|omega|contradiction|simp_all;done)
  refine Awp.red ?_ (hT i _ ?_ ?_)
  ·refine qB [(4,4),(5,5),(6,6),(7,7),(0,0),(1,1),(2,2),(3,3)] rfl ?_ ?_;(focus ((repeat (first|exact qg|refine qo ?_|refine xl ?_|refine yu ?_|refine yw ?_ ?_|refine ws ?_|refine qY ?_ ?_))));(focus ((repeat' (first|exact qj|refine ww ?_ ?_ ?_|refine vJ ?_|refine yy ?_ ?_|refine yx ?_ ?_|exact ql|apply qd|exact qk rfl|(apply qt;(refine .inr ?_;(repeat (first|exact List.mem_cons_self ..|apply List.mem_cons_of_mem))))|(apply qz;(refine .inr ?_;(repeat (first|exact List.mem_cons_self ..|apply List.mem_cons_of_mem))))))))
  ·exact fun _ _ _ _ h=>h
  intro σ' hR
  show Awp _ _ _ _ _
  refine Awp.red hR ?_
  clear hT
  repeat' (first|refine qn ?_|fail|((first|refine qf ?_ ?_|refine qe ?_ ?_|refine xsC ?_ ?_);all_goals (intro hc;have hp:=hc;try simp at hp;try (exfalso;omega)))|refine qX ?_ ?_)
  refine ⟨2 - (i + 1),rtH a b c x (i + 1),by omega,?_,i + 1,by omega,rfl,rfl⟩
  refine qB [(0,0),(1,1),(2,2)] rfl ?_ ?_;(focus ((repeat (first|exact qg|refine qo ?_|refine xl ?_|refine yu ?_|refine yw ?_ ?_|refine ws ?_|refine qY ?_ ?_))));(focus ((repeat' (first|exact qj|refine ww ?_ ?_ ?_|refine vJ ?_|refine yy ?_ ?_|refine yx ?_ ?_|exact ql|apply qd|exact qk rfl|(apply qt;(refine .inr ?_;(repeat (first|exact List.mem_cons_self ..|apply List.mem_cons_of_mem))))|(apply qz;(refine .inr ?_;(repeat (first|exact List.mem_cons_self ..|apply List.mem_cons_of_mem))))))))
 ·clear hT
  repeat' (first|refine qn ?_|fail|((first|refine qf ?_ ?_|refine qe ?_ ?_|refine xsC ?_ ?_);all_goals (intro hc;have hp:=hc;try simp at hp;try (exfalso;omega)))|refine qX ?_ ?_)
  all_goals try (exfalso;omega)
  all_goals (apply j6;rfl;rfl)
set_option maxHeartbeats 8000000 in
theorem qaQ (a b c:List Ent) (x:Chg) (ha:EBig a) (hb:EBig b) (hc:EBig c) (hx:x.small):xH C.P 4 [qa a,qa b,qa c,.agg x.row] (.v (.bool true)):=by
 have hL:=qfC a b c x ha hb hc hx
 have g1:=Wb
 have g2:=Z8
 have g3:=qdg
 have la:=ha.len
 have lb:=hb.len
 have lc:=hc.len
 have hma:(a.map Ent.row).length = a.length:=List.length_map ..
 have hmb:(b.map Ent.row).length = b.length:=List.length_map ..
 have hmc:(c.map Ent.row).length = c.length:=List.length_map ..
 have hroom:(a.map Ent.row).take (a.map Ent.row).length ++ [[.v (str [114,111,111,109]),.v (.bool false),.v (str []),.v (.int .i64 0)]] = (a ++ [roomE]).map Ent.row:=by rw [List.take_length,List.map_append];rfl
 refine qc Tryz.func4 rfl _ Tryz.ntmps4 (Nat.le_of_ble_eq_true rfl) _ Tryz.results4 0 rfl rfl ?_
 change Awp C 186 kr _ _
 rw [qgx]
 generalize kj 5 kr = T at *
 conv =>
  arg 3
  arg 1;whnf
 conv =>
  arg 3;arg 2
  arg 1;whnf
 conv =>
  arg 3;arg 2;arg 2
  arg 1;whnf
 conv =>
  arg 3;arg 2;arg 2;arg 2
  arg 1;whnf
 conv =>
  arg 3;arg 2;arg 2;arg 2;arg 2
  arg 1;whnf
 repeat' (first|refine qn ?_|(first|refine jv Tryz.func24 (g1 ..) ?_|refine jv Tryz.func25 (g2 ..) ?_|refine jv Tryz.func26 (g3 ..) ?_|(refine jL ?_)|(apply xe;apply wO;(case hx=>rfl);(case hT=>rfl);(case he=>rfl);(case hE=>rfl);(case hz=>rfl);(case hsrc=>(apply v6;rfl;exact xw fun _=>rfl));(case hsz=>(first|omega|(simp only [List.length_append,List.length_drop,List.length_take,List.length_map,List.length_cons,List.length_nil];omega)|(simp;omega)));(case hlen=>(first|omega|(simp only [List.length_append,List.length_drop,List.length_take,List.length_map,List.length_cons,List.length_nil];omega)|(simp;omega)));(case hN=>exact nle rfl))|(apply Jc;apply zB;(case hx=>rfl);(case hT=>rfl);(case he=>rfl);(case hE=>rfl);(case hn=>rfl);(case hl=>(first|omega|(simp only [List.length_append,List.length_drop,List.length_take,List.length_map,List.length_cons,List.length_nil];omega)|(simp;omega)));(case hz=>rfl);(case hsrc=>(first|(apply v6;rfl;rfl)|(apply v6;rfl;exact xw fun _=>rfl)));(case hsz=>(first|omega|(simp only [List.length_append,List.length_drop,List.length_take,List.length_map,List.length_cons,List.length_nil];omega)|(simp;omega)));(case hlen=>(first|omega|(simp only [List.length_append,List.length_drop,List.length_take,List.length_map,List.length_cons,List.length_nil];omega)|(simp;omega)));(case hmn=>exact Nat.ne_of_beq_eq_false rfl);(case hN=>exact nle rfl))|(refine qbW ?_))|((first|refine qf ?_ ?_|refine qe ?_ ?_|refine xsC ?_ ?_);all_goals (intro hc;have hp:=hc;try simp at hp;try (exfalso;omega)))|refine qX ?_ ?_)
 all_goals try (exfalso;first|omega|contradiction|simp_all;done)
 refine xsZ 7 0 ?_
 refine Awp.red ?_ hL
 refine qB [(2,0),(3,1),(4,2)] rfl ?_ ?_;(focus ((repeat (first|exact qg|refine qo ?_|refine xl ?_|refine yu ?_|refine yw ?_ ?_|refine ws ?_|refine qY ?_ ?_));all_goals (first|omega|exact congrArg (· + 1) hma|exact hma|exact hmb|exact hmc|trace_state)));(focus ((repeat' (first|exact qj|refine ww ?_ ?_ ?_|refine vJ ?_|refine yy ?_ ?_|refine yx ?_ ?_|exact ql|apply qd|exact qk rfl|(apply qt;(refine .inr ?_;(repeat (first|exact List.mem_cons_self ..|apply List.mem_cons_of_mem))))|(apply qz;(refine .inr ?_;(repeat (first|exact List.mem_cons_self ..|apply List.mem_cons_of_mem))))));all_goals (first|rfl|exact hroom|trace_state)))
theorem VP (ys:List AV) (h:Z5 C.tab 1000000000 [22,22,22,53] ys):xH C.P 4 ys (.v (.bool true)):=by
 obtain ⟨_,_,rfl,h0,_,_,rfl,h1,_,_,rfl,h2,_,_,rfl,h3,rfl⟩:=h
 obtain ⟨a,rfl,ha⟩:=Zj h0
 obtain ⟨b,rfl,hb⟩:=Zj h1
 obtain ⟨c,rfl,hc⟩:=Zj h2
 obtain ⟨x,rfl,hx⟩:=qfL h3
 exact qaQ a b c x ha hb hc hx
end Go.Proofs.YtamejbkifpjhiaaGreatDoor
