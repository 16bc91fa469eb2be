import Derived.Test.YtgcncinnlmjgdaaGreatDoorMz10
import Derived.Test.YtgcncinnlmjgdaaGreatDoorMz2
set_option linter.unusedSimpArgs false
set_option linter.unnecessarySimpa false
set_option linter.unusedVariables false
set_option maxHeartbeats 1000000
set_option maxRecDepth 10000
namespace Go.Proofs.YtgcncinnlmjgdaaGreatDoor
open Go.Ab Go.RowKit
attribute [local irreducible] Awp j9 jr ye Red qz Go.Ab.Fin qf Rz wz jF jU ResOk yA j1 xR qX
def wU (c:Chg):Int:=if (¬ c.kind = 3 ∧ ¬ c.to = []) ∨ (¬ c.kind = 2 ∧ ¬ c.text = []) then 1 else if 300 < c.text.length then 2 else if c.base < -1 ∨ 1000000 < c.base then 3 else 0
def xz (c:Chg):Int :=
 if c.kind < 1 ∨ 4 < c.kind then 7
 else if ¬ qA c.path = 0 then qA c.path
 else if c.kind = 3 ∧ ¬ qA c.to = 0 then qA c.to
 else wU c
theorem qnY (c:Chg) (hc:c.small):jN C.P 223 [.agg c.row] (.v (.int .i64 (xz c))):=by
 obtain ⟨h1,h2,h3⟩:=hc;have hpp:=Wg c.path (by omega);have ht:=Wg c.to (by omega)
 have hR:wU c = if (¬ c.kind = 3 ∧ ¬ c.to = []) ∨ (¬ c.kind = 2 ∧ ¬ c.text = []) then 1 else if 300 < c.text.length then 2 else if c.base < -1 ∨ 1000000 < c.base then 3 else 0:=rfl
 have hE:xz c = if c.kind < 1 ∨ 4 < c.kind then 7 else if ¬ qA c.path = 0 then qA c.path else if c.kind = 3 ∧ ¬ qA c.to = 0 then qA c.to else wU c:=rfl
 generalize xz c = E at *;generalize wU c = R at *;generalize qA c.path = F at *;generalize qA c.to = G at *;refine qJ 0 ?_
 repeat' (first|refine qg ?_|(first|refine jT (hpp ..) ?_|refine jT (ht ..) ?_)|(refine xsS ?_ ?_;all_goals first|exact False.elim|intro hp hc)|refine xsA ?_ ?_)
 all_goals try (exfalso;omega)
 all_goals (apply qI;rfl)
 all_goals (rw [hE])
 all_goals first
  | (rw [if_pos (by omega)];done)
  | (rw [if_neg (by omega)]
     first
     | (rw [if_pos (by assumption)];done)
     | (rw [if_neg (by omega)]
        first
        | (rw [if_pos ⟨by assumption,by assumption⟩];done)
        | (rw [if_neg (by rintro ⟨_,_⟩;simp_all),hR]
           first
           | (rw [if_pos (by simp_all)];done)
           | (rw [if_neg (by simp_all)]
              first
              | (rw [if_pos (by omega)];done)
              | (rw [if_neg (by omega)]
                 first
                 | (rw [if_pos (by omega)];done)
                 | (rw [if_neg (by omega)];done))))))
theorem qdh (p:Ent → Bool) (g:FuncId) (hg:IsFn C.P g) (cap:List AV) (hcap:AV.pure.pureL cap = true) (l:List (Ent)) (hl:l.length ≤ 1000000) (hc : ∀ s,s ∈ l → jN C.P g ((AV.agg (Ent.row s)) :: cap) (.v (.bool (p s)))) :
  jN C.P 256 [.sl false (l.map Ent.row),.clo (.func g) [] cap] (.v (.int .i64 (yN p l))):=by
 refine qJ 0 ?_
 repeat' (first|refine qg ?_|fail|(refine xsS ?_ ?_;all_goals first|exact False.elim|intro hp hc)|refine xsA ?_ ?_)
 refine Zq (ts:=[(0,.sl false (l.map Ent.row)),(1,.clo (.func g) [] cap),(7,.v (.int .i64 l.length)),(8,.v (.int .i64 ((0:Nat):Int)))]) ?_
 all_goals try (rw [List.length_map];done)
 refine qB (fun n σ => ∃ i:Nat,i ≤ l.length ∧ n = l.length - i ∧ (∀ s,s ∈ l.take i → p s = false) ∧ σ = ⟨[(0,.sl false (l.map Ent.row)),(1,.clo (.func g) [] cap),(7,.v (.int .i64 l.length)),(8,.v (.int .i64 (i:Int)))],[],C.nh⟩) l.length ⟨0,Nat.zero_le _,rfl,(by simp),rfl⟩ ?_;rintro n σ ⟨i,hi,rfl,hsofar,rfl⟩;by_cases hlt:i < l.length
 ·have hr:=qK (f:=Ent.row) hlt;have hci:=hc l[i] (List.getElem_mem _)
  repeat' (first|refine qg ?_|(first|(apply qa;apply zZ [];rfl;exact hg;exact hci;(case hz=>exact qeZ);(case hfl=>rfl);(case hN=>exact nle rfl)))|(refine xsS ?_ ?_;all_goals first|exact False.elim|intro hp hc)|refine xsA ?_ ?_)
  all_goals try (exfalso;omega)
  ·apply qI;rfl;exact (wb hlt hsofar hp).symm
  ·refine ⟨l.length - (i + 1),_,by omega,xsM (ts:=[(0,.sl false (l.map Ent.row)),(1,.clo (.func g) [] cap),(7,.v (.int .i64 l.length)),(8,.v (.int .i64 ((i + 1:Nat):Int)))]),i + 1,by omega,rfl,jJ hlt hsofar hp,rfl⟩
 obtain rfl:i = l.length:=by omega
 repeat' (first|refine qg ?_|fail|(refine xsS ?_ ?_;all_goals first|exact False.elim|intro hp hc)|refine xsA ?_ ?_)
 all_goals try (exfalso;omega)
 apply qI;rfl;exact (zt fun s hs=>hsofar s qaw).symm
theorem qdd (p:Ent → Bool) (g:FuncId) (hg:IsFn C.P g) (cap:List AV) (hcap:AV.pure.pureL cap = true) (l:List (Ent)) (hl:l.length ≤ 1000000) (hc : ∀ s,s ∈ l → jN C.P g ((AV.agg (Ent.row s)) :: cap) (.v (.bool (p s)))) :
  jN C.P 244 [.sl false (l.map Ent.row),.clo (.func g) [] cap] (.v (.bool (l.any p))):=by
 have hidx:=qdh p g hg cap hcap l hl hc;refine qJ 0 ?_
 repeat' (first|refine qg ?_|(first|(apply qa;apply yJ [];exact qr Tryz.func256 rfl rfl;exact hidx;(case hz=>exact qoT);(case hfl=>rfl);(case hN=>exact nle rfl)))|(refine xsS ?_ ?_;all_goals first|exact False.elim|intro hp hc)|refine xsA ?_ ?_)
 apply qR;rfl;rw [← ZK]
def xB (c:Chg):qb:=if c.kind = 3 then c.to else c.path
def W4 (c:Chg) (x:Ent):Bool:=decide (c.base < x.ver) && inB x.path c.path
def XS (t:List Ent) (p:qb):Bool:=match t.find? (atP p) with|some x=>x.fold|none=>false
def QE (t:List Ent) (c:Chg):Int:=if c.kind = 1 then (if vB t c.path = true then 6 else 0) else if c.kind = 2 then (if XS t c.path = true then 4 else 0) else (if vB t c.path = true then 0 else 5)
def YI (t:List Ent) (c:Chg):Int:=if c.kind = 3 then (if inB c.to c.path = true then 3 else if vB t c.to = true then 6 else 0) else 0
def JF (t:List Ent) (c:Chg):Int:=if ¬ c.base = -1 ∧ t.any (W4 c) = true then 8 else 0
def zv (t:List Ent) (c:Chg):Int :=
 if ¬ yX t (qM (xB c)) = 0 then yX t (qM (xB c))
 else if ¬ QE t c = 0 then QE t c
 else if ¬ YI t c = 0 then YI t c else JF t c
theorem qn4 (x:Ent) (c:Chg) (hc:c.path.length ≤ 140737488355328):jN C.P 243 [.agg x.row,.fp [c.row] 0 0] (.v (.bool (W4 c x))):=by
 have hin:=qh9 x.path c.path hc;have hE:W4 c x = (decide (c.base < x.ver) && inB x.path c.path):=rfl;generalize W4 c x = E at *;generalize inB x.path c.path = I at *;refine qJ 0 ?_
 repeat' (first|refine qg ?_|(first|refine jT (hin ..) ?_)|(refine xsS ?_ ?_;all_goals first|exact False.elim|intro hp hc)|refine xsA ?_ ?_)
 all_goals (apply qR;rfl;rw [hE];simp_all;try (intro _;omega))
theorem qpd (t:List Ent) (c:Chg) (hl:t.length ≤ 1000000) (hs:ql yq t = true) (hcs:c.small):jN C.P 224 [qU t,.agg c.row] (.v (.int .i64 (zv t c))):=by
 obtain ⟨l1,l2,l3⟩:=hcs;have hpa:=qa3 t (xB c) (by omega) hs (by unfold xB;split<;>omega);have hfe:=qac t (xB c);have hat:=ql9 t c.path (by omega) hs;have hat2:=ql9 t c.to (by omega) hs;have hin:=qh9 c.to c.path (by omega);have hcon:=qdd (W4 c) 243 (qr Tryz.func243 rfl rfl) [.fp [c.row] 0 0] rfl t hl (fun x _=>qn4 x c (by omega))
 have hE:zv t c = if ¬ yX t (qM (xB c)) = 0 then yX t (qM (xB c)) else if ¬ QE t c = 0 then QE t c else if ¬ YI t c = 0 then YI t c else JF t c:=rfl
 have hI:QE t c = if c.kind = 1 then (if vB t c.path = true then 6 else 0) else if c.kind = 2 then (if XS t c.path = true then 4 else 0) else (if vB t c.path = true then 0 else 5):=rfl
 have hM:YI t c = if c.kind = 3 then (if inB c.to c.path = true then 3 else if vB t c.to = true then 6 else 0) else 0:=rfl
 have hS:JF t c = if ¬ c.base = -1 ∧ t.any (W4 c) = true then 8 else 0:=rfl
 have hrow:vB t c.path = true → ∃ hk:x7 t c.path < t.length,XS t c.path = t[x7 t c.path].fold:=fun h=>by
  obtain ⟨hk,_,hfi,_⟩:=qcq hs h;exact ⟨hk,by unfold XS;rw [hfi]⟩
 have hnorow:vB t c.path = false → XS t c.path = false:=fun h=>by
  unfold XS;rw [(Xc h).1]
 have hg3:c.kind = 3 → xB c = c.to:=fun h=>by simp [xB,h]
 have hg0:¬ c.kind = 3 → xB c = c.path:=fun h=>by simp [xB,h]
 generalize zv t c = E at *;generalize QE t c = I at *;generalize YI t c = Mv at *;generalize JF t c = S at *;generalize t.any (W4 c) = NW at *;generalize inB c.to c.path = IB at *;generalize vB t c.to = HT at *;generalize x7 t c.to = PT at *;generalize yX t (qM (xB c)) = FE at *;generalize YS t (xB c) = OK at *;generalize QN t (xB c) = PE at *
 cases hh:vB t c.path with
 | true =>
   obtain ⟨hk,hfo⟩:=hrow hh;rw [hh] at hat hI;rw [hfo] at hI;have hr:=qK (f:=Ent.row) hk;clear hrow hnorow;generalize x7 t c.path = k at *;by_cases k3:c.kind = 3
   ·rw [hg3 k3] at hpa;refine qJ 0 ?_
    repeat' (first|refine qg ?_|(first|refine yS (hpa ..) ?_|refine yS (hat ..) ?_|refine yS (hat2 ..) ?_|refine jT (hin ..) ?_|(apply qa;apply yJ ([0]);exact qr Tryz.func244 rfl rfl;exact hcon;(case hz=>exact qoM);(case hfl=>rfl);(case hN=>exact nle rfl)))|(refine xsS ?_ ?_;all_goals first|exact False.elim|intro hp hc)|refine xsA ?_ ?_)
    all_goals try (exfalso;omega)
    all_goals (apply qI;rfl;clear hat hat2 hcon hpa hin;simp_all)
   ·rw [hg0 k3] at hpa;refine qJ 0 ?_
    repeat' (first|refine qg ?_|(first|refine yS (hpa ..) ?_|refine yS (hat ..) ?_|refine yS (hat2 ..) ?_|refine jT (hin ..) ?_|(apply qa;apply yJ ([0]);exact qr Tryz.func244 rfl rfl;exact hcon;(case hz=>exact qoM);(case hfl=>rfl);(case hN=>exact nle rfl)))|(refine xsS ?_ ?_;all_goals first|exact False.elim|intro hp hc)|refine xsA ?_ ?_)
    all_goals try (exfalso;omega)
    all_goals (apply qI;rfl;clear hat hat2 hcon hpa hin;simp_all)
 | false =>
   have hfo:=hnorow hh;rw [hh] at hat hI;rw [hfo] at hI;clear hrow hnorow;generalize x7 t c.path = k at *;by_cases k3:c.kind = 3
   ·rw [hg3 k3] at hpa;refine qJ 0 ?_
    repeat' (first|refine qg ?_|(first|refine yS (hpa ..) ?_|refine yS (hat ..) ?_|refine yS (hat2 ..) ?_|refine jT (hin ..) ?_)|(refine xsS ?_ ?_;all_goals first|exact False.elim|intro hp hc)|refine xsA ?_ ?_)
    all_goals try (exfalso;omega)
    all_goals (apply qI;rfl;clear hat hat2 hcon hpa hin;simp_all)
   ·rw [hg0 k3] at hpa;refine qJ 0 ?_
    repeat' (first|refine qg ?_|(first|refine yS (hpa ..) ?_|refine yS (hat ..) ?_|refine yS (hat2 ..) ?_|refine jT (hin ..) ?_|(apply qa;apply yJ ([0]);exact qr Tryz.func244 rfl rfl;exact hcon;(case hz=>exact qoM);(case hfl=>rfl);(case hN=>exact nle rfl)))|(refine xsS ?_ ?_;all_goals first|exact False.elim|intro hp hc)|refine xsA ?_ ?_)
    all_goals try (exfalso;omega)
    all_goals (apply qI;rfl;clear hat hat2 hcon hpa hin;simp_all)
theorem Wb (l:List Ent) (hl:l.length ≤ 1000000) :
  qf C.P 122 [qU l] [] (.os 0 0 l.length) [.own false 4 (l.map Ent.row)]:=by
 by_cases h0:l = []
 ·subst h0;refine qJ 0 ?_
  repeat' (first|refine qg ?_|(first|(refine jd ?_)|(refine vm ?_)|(refine Xj ?_))|(refine xsS ?_ ?_;all_goals first|exact False.elim|intro hp hc)|refine xsA ?_ ?_)
  · (refine Q4 (C:=C) (Q9 (C:=C) 2 4 rfl (Nat.zero_le _)) ?_)
    (exact yp (rs:=[.tmp 2]) [(0,0)] 1 Yh)
  · (exact yp (rs:=[.tmp 2]) [(0,0)] 1 Yh)
 ·refine qJ 0 ?_
  repeat' (first|refine qg ?_|(first|(refine jd ?_)|(refine vm ?_)|(apply qa;apply Qh;rfl;exact (fun h=>h0 (List.map_eq_nil_iff.1 h));rfl;rfl;(first|exact .inl rfl|exact .inr rfl);exact nle rfl))|(refine xsS ?_ ?_;all_goals first|exact False.elim|intro hp hc)|refine xsA ?_ ?_)
  (exact yp (rs:=[.tmp 2]) [(0,0)] 1 Yh)
theorem qdk (l:List Ent) (g:Ent) (hl:l.length ≤ 1000000) :
  qf C1.P 257 [.os 0 0 l.length,.v (.int .i64 l.length),.sl false [g.row]] [.own false 4 (l.map Ent.row)] (.os 1 0 (l.length + 1)) [.dead,.own false 4 ((l ++ [g]).map Ent.row)]:=by
 refine qJ (C:=C1) 1 ?_
 repeat' (first|refine qg ?_|(first|(refine YQ ?_)|(refine vF ?_))|(refine xsS ?_ ?_;all_goals first|exact False.elim|intro hp hc)|refine xsA ?_ ?_)
 (exact yp (rs:=[.tmp 6]) [(1,1)] 2 Va)
theorem qhv {α:Type} (R J Z:List α) (x:α) {i a b c d:Nat} (hi:i ≤ R.length) (hJ:J.length = 1 + Z.length) (ha:a = i) (hb:b = i + 1) (hc:c = i + 1) (hd:d = i + 1 + Z.length) :
  ((R.take i ++ J).take a ++ [x] ++ (R.take i ++ J).drop b).take c ++ Z ++ ((R.take i ++ J).take a ++ [x] ++ (R.take i ++ J).drop b).drop d = R.take i ++ ([x] ++ Z):=by
 subst ha;subst hb;subst hc;subst hd;have h1:(R.take a ++ J).take a = R.take a:=by rw [List.take_append_of_le_length (by simp;omega),List.take_of_length_le (by simp;omega)]
 have h2:(R.take a ++ [x] ++ (R.take a ++ J).drop (a + 1)).take (a + 1) = R.take a ++ [x]:=by
  rw [List.take_append_of_le_length (by simp;omega),List.take_of_length_le (by simp;omega)]
 have h3:(R.take a ++ [x] ++ (R.take a ++ J).drop (a + 1)).drop (a + 1 + Z.length) = []:=List.drop_of_length_le (by simp;omega);rw [h1,h2,h3];simp
theorem qk7 {α:Type} (R Z:List α) (x:α) {i a b c d m:Nat} (hi:i + 1 ≤ R.length) (ha:a = i + 1) (hc:c = i) (hd:d = i + 1) (hm:m = i + 1 + Z.length) :
  ((R.take a ++ Z ++ R.drop b).take c ++ [x] ++ (R.take a ++ Z ++ R.drop b).drop d).take m = R.take i ++ ([x] ++ Z):=by
 subst ha;subst hc;subst hd;subst hm
 have h1:(R.take (c + 1) ++ Z ++ R.drop b).take c = R.take c:=by
  rw [List.append_assoc,List.take_append_of_le_length (by simp;omega),List.take_take,Nat.min_eq_left (by omega)]
 have h2:(R.take (c + 1) ++ Z ++ R.drop b).drop (c + 1) = Z ++ R.drop b:=by
  rw [List.append_assoc,List.drop_append_of_le_length (by simp;omega),List.drop_of_length_le (by simp;omega),List.nil_append]
 rw [h1,h2, ← List.append_assoc,List.take_append_of_le_length (by simp;omega),List.take_of_length_le (by simp;omega),List.append_assoc]
theorem qfc (l:List Ent) (g:Ent) (i:Nat) (hi:i < l.length) (hl:l.length ≤ 1000000) :
  qf C1.P 257 [.os 0 0 l.length,.v (.int .i64 (i:Int)),.sl false [g.row]] [.own false 4 (l.map Ent.row)] (.os 1 0 (l.length + 1)) [.dead,.own false 4 ((l.take i ++ ([g] ++ l.drop i)).map Ent.row)]:=by
 refine qJ (C:=C1) 1 ?_;refine qb3 0 4 (l.map Ent.row) rfl fun cap hcap=>?_
 rw [List.length_map] at hcap
 have hRt:(l.map Ent.row ++ xV 4 (cap - (l.map Ent.row).length)).take l.length = l.map Ent.row:=by
  rw [List.take_append_of_le_length (by simp),List.take_of_length_le (by simp)]
 have hRl:l.length ≤ (l.map Ent.row ++ xV 4 (cap - (l.map Ent.row).length)).length:=by simp
 generalize l.map Ent.row ++ xV 4 (cap - (l.map Ent.row).length) = R at hRt hRl ⊢;have hcut:(R.drop i).take (l.length - i) = (l.drop i).map Ent.row:=by rw [← List.drop_take,hRt,List.map_drop]
 have hti:R.take i = (l.take i).map Ent.row:=by rw [List.map_take, ← hRt,List.take_take,Nat.min_eq_left (by omega)]
 have hck : ∀ row,row ∈ (l.drop i).map Ent.row → row.length = 4:=fun row hr=>by obtain ⟨x,_,rfl⟩:=List.mem_map.1 hr;rfl
 have hcl : ∀ row,row ∈ (l.drop i).map Ent.row → row.all jj = true:=fun row hr=>by obtain ⟨x,_,rfl⟩:=List.mem_map.1 hr;rfl
 repeat' (first|refine qg ?_|(first|(refine YQ ?_)|(apply qa;apply ZA;(case hx=>rfl);(case hn=>rfl);(case hT=>rfl);(case he=>rfl);(case hN=>exact nle rfl))|(apply j5;apply Qx;(case hx=>rfl);(case hT=>rfl);(case he=>rfl);(case hE=>rfl);(case hn=>rfl);(case hl=>exact K6);(case hy=>exact qoO);(case hxT=>rfl);(case hxk=>rfl);(case hz=>rfl);(case hs0=>exact qjA);(case hg=>omega);(case hsz=>exact K6);(case hlen=>exact K6);(case hN=>exact nle rfl))|(apply qa;apply YA;exact Tryz.func265;(case hname=>rfl);(case hb=>rfl);(case hnx=>rfl);(case hex=>rfl);(case hT=>rfl);(case he=>rfl);(case hE=>rfl);(case hx=>rfl);(case hy=>rfl);(case hm=>rfl);(case hk=>exact qjA);(case hrw=>exact qoS);(case hN=>exact nle rfl))|(apply zf;apply kF;(case hx=>rfl);(case hT=>rfl);(case he=>rfl);(case hE=>rfl);(case hn=>rfl);(case hsrc=>exact qcU (Xq rfl rfl));(case hmin=>exact qoP);(case hfit=>exact K6);(case hN=>exact nle rfl))|(apply zf;apply kF;(case hx=>rfl);(case hT=>rfl);(case he=>rfl);(case hE=>rfl);(case hn=>rfl);(case hsrc=>exact qoQ);(case hmin=>exact qoL);(case hfit=>exact K6);(case hN=>exact nle rfl)))|(refine xsS ?_ ?_;all_goals first|exact False.elim|intro hp hc)|refine xsA ?_ ?_)
 all_goals try (exfalso;omega)
 ·have hrow:=qhv R (xV 4 (l.length + 1 - i)) ((l.drop i).map Ent.row) g.row (i:=i) (a:=0 + i) (b:=0 + i + 1) (c:=0 + (i + 1)) (d:=0 + (i + 1) + ((l.drop i).map Ent.row).length) (by omega) (by simp;omega) (by omega) (by omega) (by omega) (by omega)
  (exact yp (rs:=[.tmp 6]) [(1,1)] 2 qp9)
 ·have hrow:=qk7 R ((l.drop i).map Ent.row) g.row (i:=i) (a:=0 + 0 + (i + 1)) (b:=0 + 0 + (i + 1) + ((l.drop i).map Ent.row).length) (c:=0 + 0 + i) (d:=0 + 0 + i + 1) (m:=l.length + 1) (by omega) (by omega) (by omega) (by omega) (by simp;omega);have hrow:=hrow.trans (show _ = (l.take i ++ ([g] ++ l.drop i)).map Ent.row from by rw [hti];simp);apply Jn (C:=C1) 6 0 (l.length + 1)
  case hi=>rfl
  case hn=>rfl
  case hr=>exact hrow
  case hnn=>exact Nat.ne_of_beq_eq_false rfl
  case hnx=>exact Nat.le_of_ble_eq_true rfl
  (exact yp (rs:=[.tmp 6]) [(1,1)] 2 Va)
def xU (t:List Ent) (x:Ent):List Ent:=if vB t x.path = true then t.take (x7 t x.path) ++ ([x] ++ t.drop (x7 t x.path + 1)) else t.take (x7 t x.path) ++ ([x] ++ t.drop (x7 t x.path))
theorem qjU (t:List Ent) (x:Ent) (hl:t.length ≤ 1000000) (hs:ql yq t = true) :
  qf C1.P 245 [.os 0 0 t.length,.agg x.row] [.own false 4 (t.map Ent.row)] (.os 1 0 (xU t x).length) [.dead,.own false 4 ((xU t x).map Ent.row)]:=by
 have hat:=ql9 t x.path (by omega) hs
 cases hh:vB t x.path with
 | true =>
   obtain ⟨hp0, -, -, -⟩:=qcq hs hh;have hL:xU t x = t.take (x7 t x.path) ++ ([x] ++ t.drop (x7 t x.path + 1)):=by simp [xU,hh]
   rw [hh] at hat;generalize xU t x = L at hL ⊢;generalize x7 t x.path = p at hL hp0 hat;have hlen:L.length = t.length:=by rw [hL];simp;omega
   have hrow:=qK (f:=Ent.row) hp0;refine qJ (C:=C1) 1 ?_
   repeat' (first|refine qg ?_|(first|refine xsE [0] (hat ..) ?_|(refine vq ?_))|(refine xsS ?_ ?_;all_goals first|exact False.elim|intro hp hc)|refine xsA ?_ ?_)
   all_goals try (exfalso;omega)
   apply Jn (C:=C1) 4 0 t.length
   case hi=>rfl
   case hn=>rfl
   case hr=>(show ((t.map Ent.row).set p x.row).take t.length = L.map Ent.row;rw [← List.map_set,hL,List.set_eq_take_append_cons_drop,if_pos hp0,List.take_of_length_le (by simp;omega)];rfl)
   case hnn=>exact Nat.ne_of_beq_eq_false rfl
   case hnx=>exact Nat.le_of_ble_eq_true rfl
   (exact yp (rs:=[.tmp 4]) [(2,1)] 2 Va)
 | false =>
   have hL:xU t x = t.take (x7 t x.path) ++ ([x] ++ t.drop (x7 t x.path)):=by simp [xU,hh]
   have hple:=qna t x.path;rw [hh] at hat;generalize xU t x = L at hL ⊢;generalize x7 t x.path = p at hL hple hat;have hlen:L.length = t.length + 1:=by rw [hL];simp;omega
   by_cases hp0:p = t.length
   ·have hin:=qdk t x hl;have hL2:L = t ++ [x]:=by rw [hL,hp0];simp
    rw [hp0] at hat;refine qJ (C:=C1) 1 ?_
    repeat' (first|refine qg ?_|(first|refine xsE [0] (hat ..) ?_|(refine vq ?_)|(refine jd ?_)|(refine zn ([0]) 0 qi (hin ..) ?_))|(refine xsS ?_ ?_;all_goals first|exact False.elim|intro hp hc)|refine xsA ?_ ?_)
    all_goals try (exfalso;omega)
    (exact yp (rs:=[.tmp 4]) [(2,1)] 2 (by (apply zH 0;exact jy rfl;(repeat (first|exact qn|refine J8 ?_|refine vH ?_ ?_)));all_goals (rw [hL2])))
   ·have hin:=qfc t x p (by omega) hl;refine qJ (C:=C1) 1 ?_
    repeat' (first|refine qg ?_|(first|refine xsE [0] (hat ..) ?_|(refine vq ?_)|(refine jd ?_)|(refine zn ([0]) 0 qi (hin ..) ?_))|(refine xsS ?_ ?_;all_goals first|exact False.elim|intro hp hc)|refine xsA ?_ ?_)
    all_goals try (exfalso;omega)
    (exact yp (rs:=[.tmp 4]) [(2,1)] 2 (by (apply zH 0;exact jy rfl;(repeat (first|exact qn|refine J8 ?_|refine vH ?_ ?_)));all_goals (rw [hL])))
def yI (p:Ent → Bool) (t:List Ent):List Ent:=t.filter fun x => !p x
theorem WT {p:Ent → Bool} {t:List Ent} {j:Nat} (h:j < t.length):yI p (t.take (j + 1)) = if p t[j] = true then yI p (t.take j) else yI p (t.take j) ++ [t[j]]:=by
 unfold yI;rw [List.take_succ_eq_append_getElem h,List.filter_append];cases hs:p t[j]<;>simp [hs]
theorem qiQ (p:Ent → Bool) (t:List Ent) (j:Nat) (hj:j ≤ t.length):(yI p (t.take j)).length ≤ j:=by
 have h1:(yI p (t.take j)).length ≤ (t.take j).length:=List.length_filter_le ..;simp at h1;omega
theorem qbV (p:Ent → Bool) (g:FuncId) (hg:IsFn C1.P g) (cap:List AV) (hcap:AV.pure.pureL cap = true) (t:List Ent) (hl:t.length ≤ 1000000) (hcf : ∀ s,s ∈ t → jN C1.P g (AV.agg s.row :: cap) (.v (.bool (p s)))) :
  qf C1.P 258 [.os 0 0 t.length,.clo (.func g) [] cap] [.own false 4 (t.map Ent.row)] (.os 0 0 (yI p t).length) [.own false 4 ((yI p t).map Ent.row)]:=by
 have hidx:=qdh p g hg cap hcap t hl hcf;refine qJ (C:=C1) 1 ?_
 rcases xM p t with ⟨h1,h2⟩|⟨k,hk,h1,h2,h3⟩
 ·have hall:yI p t = t:=List.filter_eq_self.2 fun x hx=>by rw [h2 x hx];rfl
  rw [h1] at hidx;rw [hall]
  repeat' (first|refine qg ?_|(first|(apply qa;apply yJ ([0]);exact qr Tryz.func256 rfl rfl;exact hidx;(case hz=>exact qqe);(case hfl=>rfl);(case hN=>exact nle rfl)))|(refine xsS ?_ ?_;all_goals first|exact False.elim|intro hp hc)|refine xsA ?_ ?_)
  all_goals try (exfalso;omega)
  (exact yp (rs:=[.tmp 4]) [] 1 qav)
 ·rw [h1] at hidx
  have hk1:yI p (t.take (k + 1)) = t.take k:=by
   rw [WT hk,if_pos h3];exact List.filter_eq_self.2 fun x hx=>by rw [h2 x hx];rfl
  repeat' (first|refine qg ?_|(first|(apply qa;apply yJ ([0]);exact qr Tryz.func256 rfl rfl;exact hidx;(case hz=>exact qqe);(case hfl=>rfl);(case hN=>exact nle rfl)))|(refine xsS ?_ ?_;all_goals first|exact False.elim|intro hp hc)|refine xsA ?_ ?_)
  all_goals try (exfalso;omega)
  (refine xsK (τ:=⟨[(0,.os 0 0 t.length),(1,.clo (.func g) [] cap),(5,.v (.int .i64 (k:Int))),(6,.v (.int .i64 ((k:Int) + 1)))],[(0,.own false 4 (t.map Ent.row))],1⟩) [] tz9 qgO ?_)
  refine qB (C:=C1) (fun n σ => ∃ (j:Nat) (E:List Ent),k + 1 ≤ j ∧ j ≤ t.length ∧ n = t.length - j ∧ E.length = t.length ∧ E.take (yI p (t.take j)).length = yI p (t.take j) ∧ E.drop j = t.drop j ∧ σ = ⟨[(0,.os 0 0 t.length),(1,.clo (.func g) [] cap),(5,.v (.int .i64 ((yI p (t.take j)).length:Int))),(6,.v (.int .i64 (j:Int)))],[(0,.own false 4 (E.map Ent.row))],1⟩) (t.length - (k + 1)) ⟨k + 1,t,Nat.le_refl _,hk,rfl,rfl,(by rw [hk1];simp),rfl,?_⟩ ?_
  ·have htl:(t.take k).length = k:=by simp;omega
   rw [hk1,htl];rfl
  rintro n σ ⟨j,E,hkj,hj,rfl,hEl,hEt,hEd,rfl⟩;have hil:=qiQ p t j hj;by_cases hlt:j < t.length
  ·have hej:E[j]'(by omega) = t[j]:=by
    have h:=congrArg (fun l=>l[0]?) hEd;simp only [List.getElem?_drop,Nat.add_zero] at h;rw [List.getElem?_eq_getElem (by omega),List.getElem?_eq_getElem hlt] at h;exact Option.some.inj h
   have hr:=qK (f:=Ent.row) (l:=E) (i:=j) (by omega);rw [hej] at hr;have hci:=hcf t[j] (List.getElem_mem _);have hks := @WT p t j hlt;have hEd2:E.drop (j + 1) = t.drop (j + 1):=by rw [← List.drop_drop,hEd,List.drop_drop]
   have hml:(E.map Ent.row).length = E.length:=List.length_map ..
   have hrw : ∀ i:Nat,i < E.length → (E.map Ent.row)[i]? = some (E[i]?.getD t[j]).row:=fun i hi=>by
    rw [List.getElem?_map,List.getElem?_eq_getElem hi];rfl
   have hri:=hrw (yI p (t.take j)).length (by omega);generalize hI:(yI p (t.take j)).length = i at *;generalize p t[j] = P at *
   cases P with
   | true =>
     rw [if_pos rfl] at hks
     repeat' (first|refine qg ?_|(first|(refine vq ?_)|(apply qa;apply zZ [];rfl;exact hg;exact hci;(case hz=>exact qeZ);(case hfl=>rfl);(case hN=>exact nle rfl)))|(refine xsS ?_ ?_;all_goals first|exact False.elim|intro hp hc)|refine xsA ?_ ?_)
     all_goals try (exfalso;omega)
     refine ⟨t.length - (j + 1),_,by omega,xsL (τ:=⟨[(0,.os 0 0 t.length),(1,.clo (.func g) [] cap),(5,.v (.int .i64 ((yI p (t.take (j + 1))).length:Int))),(6,.v (.int .i64 ((j + 1:Nat):Int)))],[(0,.own false 4 (List.map Ent.row E))],1⟩) [] (by (repeat (first|exact qx|refine jz ?_|refine wm ?_|refine qcB ?_|refine xy ?_ ?_));all_goals (rw [hks,hI])) Yh,j + 1,E,by omega,by omega,rfl,hEl,(by rw [hks,hI];exact hEt),hEd2,rfl⟩
   | false =>
     rw [if_neg (by decide)] at hks;have hlen1:(yI p (t.take (j + 1))).length = i + 1:=by rw [hks,List.length_append,hI];rfl
     have hset:(E.set i t[j]).take (i + 1) = yI p (t.take (j + 1)):=by
      rw [hks,List.take_set, ← hEt,List.take_succ_eq_append_getElem (by omega)];rw [List.set_append_right _ _ (by simp;omega)];simp [show i - min i E.length = 0 from by omega]
     have hdr:(E.set i t[j]).drop (j + 1) = t.drop (j + 1):=by rw [List.drop_set_of_lt (by omega)];exact hEd2
     repeat' (first|refine qg ?_|(first|(refine vq ?_)|(apply qa;apply zZ [];rfl;exact hg;exact hci;(case hz=>exact qeZ);(case hfl=>rfl);(case hN=>exact nle rfl)))|(refine xsS ?_ ?_;all_goals first|exact False.elim|intro hp hc)|refine xsA ?_ ?_)
     all_goals try (exfalso;omega)
     refine ⟨t.length - (j + 1),_,by omega,xsL (τ:=⟨[(0,.os 0 0 t.length),(1,.clo (.func g) [] cap),(5,.v (.int .i64 ((yI p (t.take (j + 1))).length:Int))),(6,.v (.int .i64 ((j + 1:Nat):Int)))],[(0,.own false 4 (List.map Ent.row (E.set i t[j])))],1⟩) [] (by (repeat (first|exact qx|refine jz ?_|refine wm ?_|refine qcB ?_|refine xy ?_ ?_));all_goals (rw [hlen1])) (by (repeat (first|exact qn|refine J8 ?_|refine vH ?_ ?_));all_goals (rw [List.map_set];rfl)),j + 1,(E.set i t[j]),by omega,by omega,rfl,(by rw [List.length_set];exact hEl),(by rw [hlen1];exact hset),hdr,rfl⟩
  obtain rfl:j = t.length:=by omega
  rw [List.take_length] at *
  repeat' (first|refine qg ?_|(first|(refine YQ ?_)|(refine qhB ?_))|(refine xsS ?_ ?_;all_goals first|exact False.elim|intro hp hc)|refine xsA ?_ ?_)
  all_goals try (exfalso;omega)
  apply qhn (C:=C1) 0 (yI p t).length
  case hn=>rfl
  case hr =>
   refine Eq.trans (b:=(yI p t).map Ent.row) ?_ rfl;rw [List.append_assoc,List.take_append_of_le_length (by simp;omega),Nat.zero_add,List.take_take,Nat.min_self, ← List.map_take,hEt]
  (exact yp (rs:=[.tmp 4]) [] 1 qav)
def Zp (p:qb) (x:Ent):Bool:=inB x.path p
theorem qfg (x:Ent) (p:qb) (hp:p.length ≤ 140737488355328):jN C.P 259 [.agg x.row,.fp [[.v (str p)]] 0 0] (.v (.bool (Zp p x))):=by
 have hin:=qh9 x.path p hp;refine qJ 0 ?_;exact Yp
theorem qa4 (t:List Ent) (p:qb) (hl:t.length ≤ 1000000) (hpl:p.length ≤ 140737488355328) :
  qf C1.P 246 [.os 0 0 t.length,.v (str p)] [.own false 4 (t.map Ent.row)] (.os 0 0 (yI (Zp p) t).length) [.own false 4 ((yI (Zp p) t).map Ent.row)]:=by
 have hdel:=qbV (Zp p) 259 (qr Tryz.func259 rfl rfl) [.fp [[.v (str p)]] 0 0] rfl t hl (fun x _=>qfg x p hpl);refine qJ (C:=C1) 1 ?_
 (repeat apply jW);refine qO ?_;(repeat' (first|apply qF|refine wk ?_|refine we ?_|refine wJ ?_|refine J4 ?_|refine wi ?_|refine YO ?_|refine wj ?_|refine X1 ?_|refine qos ?_|refine J6 ?_|refine VY ?_|refine qor ?_|refine YN ?_|refine ZV ?_|refine ZU ?_|refine Jt ?_|refine wI ?_|refine zK ?_|(first|fail)|refine xY ?_|refine vA ?_|refine vz ?_|refine xL ?_|refine xK ?_|refine kZ ?_|refine k9 ?_|refine vy ?_|refine vx ?_|((first|refine vl ?_ ?_|refine vk ?_ ?_);all_goals (intro hc;have hp:=hc;first|(simp at hp;done)|((try simp at hp);first|(exfalso;omega)|skip)))));show Awp _ _ _ _ _
 refine Ym 3 1 ?_
 repeat' (first|refine qg ?_|(first|(refine Q8 ([0]) 0 qi (hdel ..) ?_))|(refine xsS ?_ ?_;all_goals first|exact False.elim|intro hp hc)|refine xsA ?_ ?_)
 all_goals try (exfalso;omega)
 (exact yp (rs:=[.tmp 4]) [] 1 qav)
def vb (c:Chg) (v:Int) (x:Ent):Ent:=⟨c.to ++ x.path.drop c.path.length,x.fold,x.text,if x.path = c.path then v else x.ver⟩
def jO (t:List Ent) (c:Chg) (v:Int):List Ent:=(t.filter (Zp c.path)).map (vb c v)
def jI (t:List Ent) (c:Chg) (v:Int):List Ent :=
 if c.kind = 1 then xU t ⟨c.path,true,[],v⟩
 else if c.kind = 2 then xU t ⟨c.path,false,c.text,v⟩
 else if c.kind = 4 then yI (Zp c.path) t
 else (jO t c v).foldl xU (yI (Zp c.path) t)
def va (t:List Ent) (c:Chg):Bool:=decide (c.kind = 3) && (t.filter (Zp c.path)).any fun x=>yD (c.to ++ x.path.drop c.path.length)
def xG (t:List Ent) (c:Chg) (v:Int):Int:=if va t c = true then 2 else if 60 < (jI t c v).length then 2 else 0
def qbF (e:Int) (n:Nat):AV:=if e = 0 then .tup [.os 1 0 n,.v (.int .i64 0)] else .tup [.sl true [],.v (.int .i64 e)]
theorem qmg (t:List Ent) (c:Chg) (v:Int) (hl:t.length ≤ 1000000) (hs:ql yq t = true) (hk:c.kind = 1) (hlen:(jI t c v).length ≤ 1000001) :
  qf C1.P 225 [.os 0 0 t.length,.agg c.row,.v (.int .i64 v)] [.own false 4 (t.map Ent.row)] (qbF (xG t c v) (jI t c v).length) [.dead,.own false 4 ((jI t c v).map Ent.row)]:=by
 have hput:qf C1.P 245 [.os 0 0 t.length,.agg [.v (str c.path),.v (.bool true),.v (str []),.v (.int .i64 v)]] [.own false 4 (t.map Ent.row)] _ _:=qjU t ⟨c.path,true,[],v⟩ hl hs;have hD:jI t c v = xU t ⟨c.path,true,[],v⟩:=by simp [jI,hk]
 have hE:xG t c v = if 60 < (jI t c v).length then 2 else 0:=by simp [xG,va,hk]
 rw [← hD] at hput;generalize xG t c v = E at *;generalize jI t c v = L at *;by_cases h60:60 < L.length
 ·rw [if_pos h60] at hE;subst hE;refine qJ (C:=C1) 1 ?_
  repeat' (first|refine qg ?_|(first|(refine zn ([0]) 0 qi (hput ..) ?_))|(refine xsS ?_ ?_;all_goals first|exact False.elim|intro hp hc)|refine xsA ?_ ?_)
  all_goals try (exfalso;omega)
  (exact yp (rs:=[.tmp 6,.tmp 7]) [(2,1)] 2 Va)
 ·rw [if_neg h60] at hE;subst hE;refine qJ (C:=C1) 1 ?_
  repeat' (first|refine qg ?_|(first|(refine zn ([0]) 0 qi (hput ..) ?_))|(refine xsS ?_ ?_;all_goals first|exact False.elim|intro hp hc)|refine xsA ?_ ?_)
  all_goals try (exfalso;omega)
  (exact yp (rs:=[.tmp 6,.tmp 7]) [(2,1)] 2 Va)
theorem qmh (t:List Ent) (c:Chg) (v:Int) (hl:t.length ≤ 1000000) (hs:ql yq t = true) (hk:c.kind = 2) (hlen:(jI t c v).length ≤ 1000001) :
  qf C1.P 225 [.os 0 0 t.length,.agg c.row,.v (.int .i64 v)] [.own false 4 (t.map Ent.row)] (qbF (xG t c v) (jI t c v).length) [.dead,.own false 4 ((jI t c v).map Ent.row)]:=by
 have hput:qf C1.P 245 [.os 0 0 t.length,.agg [.v (str c.path),.v (.bool false),.v (str c.text),.v (.int .i64 v)]] [.own false 4 (t.map Ent.row)] _ _:=qjU t ⟨c.path,false,c.text,v⟩ hl hs;have hD:jI t c v = xU t ⟨c.path,false,c.text,v⟩:=by simp [jI,hk]
 have hE:xG t c v = if 60 < (jI t c v).length then 2 else 0:=by simp [xG,va,hk]
 rw [← hD] at hput;generalize xG t c v = E at *;generalize jI t c v = L at *;by_cases h60:60 < L.length
 ·rw [if_pos h60] at hE;subst hE;refine qJ (C:=C1) 1 ?_
  repeat' (first|refine qg ?_|(first|(refine zn ([0]) 0 qi (hput ..) ?_))|(refine xsS ?_ ?_;all_goals first|exact False.elim|intro hp hc)|refine xsA ?_ ?_)
  all_goals try (exfalso;omega)
  (exact yp (rs:=[.tmp 6,.tmp 7]) [(2,1)] 2 Va)
 ·rw [if_neg h60] at hE;subst hE;refine qJ (C:=C1) 1 ?_
  repeat' (first|refine qg ?_|(first|(refine zn ([0]) 0 qi (hput ..) ?_))|(refine xsS ?_ ?_;all_goals first|exact False.elim|intro hp hc)|refine xsA ?_ ?_)
  all_goals try (exfalso;omega)
  (exact yp (rs:=[.tmp 6,.tmp 7]) [(2,1)] 2 Va)
theorem qmi (t:List Ent) (c:Chg) (v:Int) (hl:t.length ≤ 1000000) (hk:c.kind = 4) (hpl:c.path.length ≤ 140737488355328) :
  qf C1.P 225 [.os 0 0 t.length,.agg c.row,.v (.int .i64 v)] [.own false 4 (t.map Ent.row)] (qbF (xG t c v) (jI t c v).length) [.dead,.own false 4 ((jI t c v).map Ent.row)]:=by
 have hwo:=qa4 t c.path hl hpl;have hD:jI t c v = yI (Zp c.path) t:=by simp [jI,hk]
 have hE:xG t c v = if 60 < (jI t c v).length then 2 else 0:=by simp [xG,va,hk]
 have hlen:(jI t c v).length ≤ t.length:=by rw [hD];exact List.length_filter_le ..
 rw [← hD] at hwo;generalize xG t c v = E at *;generalize jI t c v = L at *;by_cases h60:60 < L.length
 ·rw [if_pos h60] at hE;subst hE;refine qJ (C:=C1) 1 ?_
  repeat' (first|refine qg ?_|(first|(refine Q8 ([0]) 0 qi (hwo ..) ?_))|(refine xsS ?_ ?_;all_goals first|exact False.elim|intro hp hc)|refine xsA ?_ ?_)
  all_goals try (exfalso;omega)
  apply Jn (C:=C1) 0 0 L.length
  case hi=>rfl
  case hn=>rfl
  case hr=>exact (List.take_of_length_le (by simp))
  case hnn=>exact Nat.ne_of_beq_eq_false rfl
  case hnx=>exact Nat.le_of_ble_eq_true rfl
  (exact yp (rs:=[.tmp 6,.tmp 7]) [(2,1)] 2 Va)
 ·rw [if_neg h60] at hE;subst hE;refine qJ (C:=C1) 1 ?_
  repeat' (first|refine qg ?_|(first|(refine Q8 ([0]) 0 qi (hwo ..) ?_))|(refine xsS ?_ ?_;all_goals first|exact False.elim|intro hp hc)|refine xsA ?_ ?_)
  all_goals try (exfalso;omega)
  apply Jn (C:=C1) 6 0 L.length
  case hi=>rfl
  case hn=>rfl
  case hr=>exact (List.take_of_length_le (by simp))
  case hnn=>exact Nat.ne_of_beq_eq_false rfl
  case hnx=>exact Nat.le_of_ble_eq_true rfl
  (exact yp (rs:=[.tmp 6,.tmp 7]) [(2,1)] 2 Va)
end Go.Proofs.YtgcncinnlmjgdaaGreatDoor
namespace Go.Proofs.YtgcncinnlmjgdaaGreatDoor
open Go.Op
theorem qhc {a b:qb} (h:bytesLess a b = true):¬ a = b:=fun e=>by rw [e,zp] at h;cases h
theorem qoc {a b:qb} (h1:bytesLess a b = false) (h2:¬ a = b):bytesLess b a = true:=by
 rcases JQ a b with ⟨h,_,_⟩|⟨h,_,_⟩|⟨h,_,_⟩
 ·rw [h] at h1;cases h1
 ·exact absurd h h2
 ·exact h
theorem qgI (p:qb) : ∀ {t:List Ent},t.Pairwise (fun a b=>bytesLess a.path b.path = true) → ∃ A M Z,t = A ++ (M ++ Z) ∧ x7 t p = A.length ∧ (∀ a,a ∈ A → bytesLess a.path p = true) ∧ (∀ z,z ∈ Z → bytesLess p z.path = true) ∧
  ((vB t p = true ∧ ∃ x,M = [x] ∧ x.path = p) ∨ (vB t p = false ∧ M = []))
 | [],_=>⟨[],[],[],rfl,rfl,nofun,nofun,.inr ⟨rfl,rfl⟩⟩
 | x :: l,h=>by
   obtain ⟨h1,h2⟩:=List.pairwise_cons.1 h;by_cases hx:bytesLess x.path p = true
   ·obtain ⟨A,M,Z,rfl,hp,hA,hZ,hM⟩:=qgI p h2
    have hp' : x7 (x :: (A ++ (M ++ Z))) p = A.length + 1:=by
     simp only [x7,List.takeWhile_cons,hx,if_true,List.length_cons] at hp ⊢;omega
    have hh:vB (x :: (A ++ (M ++ Z))) p = vB (A ++ (M ++ Z)) p:=by
     simp [vB,atP,qhc hx]
    refine ⟨x :: A,M,Z,rfl,hp',fun a ha=>?_,hZ,by rw [hh];exact hM⟩;rcases List.mem_cons.1 ha with rfl|ha
    ·exact hx
    ·exact hA a ha
   ·have hx:bytesLess x.path p = false:=by simpa using hx
    have hp:x7 (x :: l) p = 0:=by simp [x7,List.takeWhile_cons,hx]
    by_cases e:x.path = p
    ·subst e;exact ⟨[],[x],l,rfl,hp,nofun,fun z hz=>h1 z hz,.inl ⟨by simp [vB,atP],x,rfl,rfl⟩⟩
    ·have hg:=qoc hx e
     have hall : ∀ z,z ∈ x :: l → bytesLess p z.path = true:=fun z hz=>by
      rcases List.mem_cons.1 hz with rfl|hz
      ·exact hg
      ·exact vf hg (h1 z hz)
     refine ⟨[],[],x :: l,rfl,hp,nofun,hall,.inr ⟨List.any_eq_false.2 fun z hz=>?_,rfl⟩⟩;have:=qhc (hall z hz);simp only [atP,decide_eq_true_eq];exact fun e=>this e.symm
theorem qaf {t A M Z:List Ent} {x:Ent} (h:t = A ++ (M ++ Z)) (hp:x7 t x.path = A.length) (hM:(vB t x.path = true ∧ ∃ y,M = [y] ∧ y.path = x.path) ∨ (vB t x.path = false ∧ M = [])):xU t x = A ++ ([x] ++ Z):=by
 unfold xU;rw [hp];have h1:t.take A.length = A:=by rw [h];simp
 rw [h1]
 rcases hM with ⟨hh,y,rfl,_⟩|⟨hh,rfl⟩
 ·simp only [hh,if_true];rw [h];simp
 ·simp only [hh,Bool.false_eq_true,if_false];rw [h];simp
theorem qet (t:List Ent) (x:Ent):(xU t x).length ≤ t.length + 1:=by
 unfold xU;split<;>simp<;>omega
theorem wn {t:List Ent} {x:Ent} (hs:ql yq t = true):ql yq (xU t x) = true:=by
 have hl:=vQ.1 hs;obtain ⟨A,M,Z,h,hp,hA,hZ,hM⟩:=qgI x.path hl;rw [qaf h hp hM];refine vQ.2 ?_
 have hsub:(A ++ Z).Sublist t:=by
  rw [h];exact List.Sublist.append_left (List.sublist_append_right _ _) _
 obtain ⟨pA,pZ,pAZ⟩:=List.pairwise_append.1 (hl.sublist hsub);refine List.pairwise_append.2 ⟨pA,List.pairwise_cons.2 ⟨fun z hz=>hZ z hz,pZ⟩,fun a ha b hb=>?_⟩;rcases List.mem_cons.1 hb with rfl|hb
 ·exact hA a ha
 ·exact pAZ a ha b hb
theorem wX {p:Ent → Bool} {t:List Ent} (hs:ql yq t = true):ql yq (yI p t) = true:=vQ.2 ((vQ.1 hs).sublist List.filter_sublist)
theorem Jc : ∀ {l t:List Ent},ql yq t = true → ql yq (l.foldl xU t) = true
 | [],_,h=>h
 | x :: l,t,h=>Jc (l:=l) (wn h)
theorem X5 : ∀ (l t:List Ent),(l.foldl xU t).length ≤ t.length + l.length
 | [],_=>by simp
 | x :: l,t=>by
   have h1:=X5 l (xU t x);have h2:=qet t x;simp only [List.foldl_cons,List.length_cons];omega
theorem qes {l t:List Ent} {i:Nat} (h:i < l.length):(l.take (i + 1)).foldl xU t = xU ((l.take i).foldl xU t) l[i]:=by
 rw [List.take_succ_eq_append_getElem h,List.foldl_append];rfl
theorem xf {p:qb} (h:qA p = 0):p.length ≤ 80:=by
 have:yD p = false:=by
  unfold qA at h;split at h
  ·split at h
   ·exact absurd h (by decide)
   ·rename_i h2;simpa using h2
  ·exact absurd h (by decide)
 simp [yD] at this;omega
theorem YH {p f t:qb} (hp:qA p = 0) (hf:qA f = 0) (ht:qA t = 0) (hi:inB p f = true):vD p f t = if yD (t ++ p.drop f.length) = true then 2 else 0:=by
 unfold vD;rw [if_pos (by simp [yl,hp,hf,ht]),if_pos hi]
theorem qbm {t:List Ent} {c:Chg} {v:Int} {i:Nat} (h:i < t.length):jO (t.take (i + 1)) c v = if inB t[i].path c.path = true then jO (t.take i) c v ++ [vb c v t[i]] else jO (t.take i) c v:=by
 unfold jO;rw [List.take_succ_eq_append_getElem h,List.filter_append];cases hs:inB t[i].path c.path<;>simp [hs,Zp]
end Go.Proofs.YtgcncinnlmjgdaaGreatDoor
namespace Go.Proofs.YtgcncinnlmjgdaaGreatDoor
open Go.Ab Go.RowKit
attribute [local irreducible] Awp j9 jr ye Red qz Go.Ab.Fin qf Rz wz jF jU ResOk yA j1 xR qX
def JP (t:List Ent) (c:Chg) (i:Nat):Bool:=((t.take i).filter (Zp c.path)).any fun x=>yD (c.to ++ x.path.drop c.path.length)
theorem qkf {t:List Ent} {c:Chg} {i:Nat} (h:i < t.length):JP t c (i + 1) = (JP t c i || (inB t[i].path c.path && yD (c.to ++ t[i].path.drop c.path.length))):=by
 unfold JP;rw [List.take_succ_eq_append_getElem h,List.filter_append,List.any_append];cases hs:inB t[i].path c.path<;>simp [hs,Zp]
theorem qde (t:List Ent) (c:Chg) (v:Int) (hl:t.length ≤ 1000000) (hk:c.kind = 3) (hgt : ∀ x,x ∈ t → qA x.path = 0) (hc1:qA c.path = 0) (hc2:qA c.to = 0) (hbad:va t c = true) :
  qf C1.P 225 [.os 0 0 t.length,.agg c.row,.v (.int .i64 v)] [.own false 4 (t.map Ent.row)] (.tup [.sl true [],.v (.int .i64 2)]) [.own false 4 (t.map Ent.row)]:=by
 have l1:=xf hc1;have l2:=xf hc2;have hml:(t.map Ent.row).length = t.length:=List.length_map ..;refine qJ (C:=C1) 1 ?_
 repeat' (first|refine qg ?_|fail|(refine xsS ?_ ?_;all_goals first|exact False.elim|intro hp hc)|refine xsA ?_ ?_)
 all_goals try (exfalso;omega)
 refine Awp.red (C:=C1) (Q9 8 4 rfl (Nat.le_of_ble_eq_true rfl)) ?_
 (refine xsK (τ:=⟨[(0,.os 0 0 t.length),(2,.v (.int .i64 v)),(4,.op 1 0 0),(8,.os 2 0 0),(43,.os 0 0 t.length),(44,.v (.int .i64 t.length)),(45,.v (.int .i64 ((0:Nat):Int)))],[(0,.own false 4 (t.map Ent.row)),(1,.own false 5 [c.row]),(2,.own false 4 [])],3⟩) [(1,1),(2,2)] tz9 qgO ?_)
 refine qB (C:=C1) (fun n σ => ∃ i:Nat,i ≤ t.length ∧ n = t.length - i ∧ JP t c i = false ∧ σ = ⟨[(0,.os 0 0 t.length),(2,.v (.int .i64 v)),(4,.op 1 0 0),(8,.os 2 0 (jO (t.take i) c v).length),(43,.os 0 0 t.length),(44,.v (.int .i64 t.length)),(45,.v (.int .i64 (i:Int)))],[(0,.own false 4 (t.map Ent.row)),(1,.own false 5 [c.row]),(2,.own false 4 ((jO (t.take i) c v).map Ent.row))],3⟩) t.length ⟨0,Nat.zero_le _,rfl,rfl,rfl⟩ ?_;rintro n σ ⟨i,hi,rfl,hsofar,rfl⟩
 have hgl:(jO (t.take i) c v).length ≤ i:=by
  unfold jO;rw [List.length_map];have h1:((t.take i).filter (Zp c.path)).length ≤ (t.take i).length:=List.length_filter_le ..;simp at h1;omega
 by_cases hlt:i < t.length
 ·have hr:=qK (f:=Ent.row) hlt;have hpx:=hgt t[i] (List.getElem_mem _);have lx:=xf hpx;have hin:=qh9 t[i].path c.path (by omega);have hgs := @qbm t c v i hlt;have hmv:=qg2 t[i].path c.path c.to (by omega) (by omega) (by omega);have hme := @YH t[i].path c.path c.to hpx hc1 hc2;have hbs := @qkf t c i hlt;rw [hsofar] at hbs;have hmt : ∀ w,(if t[i].path = c.path then v else t[i].ver) = w → (vb c v t[i]).row = [.v (str (c.to ++ t[i].path.drop c.path.length)),.v (.bool t[i].fold),.v (str t[i].text),.v (.int .i64 w)]:=fun w hw=>by simp [vb,Ent.row,hw]
  generalize hG:jO (t.take i) c v = G at hgl hgs ⊢;generalize inB t[i].path c.path = I at *
  cases I with
  | false =>
    rw [if_neg (by decide)] at hgs;have hbs:JP t c (i + 1) = false:=hbs
    repeat' (first|refine qg ?_|(first|(refine vq ?_)|(refine jd ?_)|(refine vF ?_)|refine jT (hin ..) ?_|refine yS (hmv ..) ?_)|(refine xsS ?_ ?_;all_goals first|exact False.elim|intro hp hc)|refine xsA ?_ ?_)
    all_goals try (exfalso;omega)
    refine ⟨t.length - (i + 1),_,by omega,xsL (τ:=⟨[(0,.os 0 0 t.length),(2,.v (.int .i64 v)),(4,.op 1 0 0),(8,.os 2 0 (jO (t.take (i + 1)) c v).length),(43,.os 0 0 t.length),(44,.v (.int .i64 t.length)),(45,.v (.int .i64 ((i + 1:Nat):Int)))],[(0,.own false 4 (t.map Ent.row)),(1,.own false 5 [c.row]),(2,.own false 4 ((jO (t.take (i + 1)) c v).map Ent.row))],3⟩) [(1,1),(2,2)] qqb qqi,i + 1,by omega,rfl,(hbs),rfl⟩
  | true =>
    have hme2:=hme rfl;clear hme;rw [if_pos rfl] at hgs;have hlen1:(jO (t.take (i + 1)) c v).length = G.length + 1:=by rw [hgs];simp
    generalize c.to ++ t[i].path.drop c.path.length = Q at *;generalize vD t[i].path c.path c.to = E at *
    cases hq:yD Q with
    | true =>
      rw [hq,if_pos rfl] at hme2;subst hme2
      repeat' (first|refine qg ?_|(first|(refine vq ?_)|(refine jd ?_)|(refine vF ?_)|refine jT (hin ..) ?_|refine yS (hmv ..) ?_)|(refine xsS ?_ ?_;all_goals first|exact False.elim|intro hp hc)|refine xsA ?_ ?_)
      all_goals try (exfalso;omega)
      all_goals ((exact yp (rs:=[.tmp 6,.tmp 7]) [] 1 qav))
    | false =>
      rw [hq,if_neg (by decide)] at hme2;subst hme2;rw [hq] at hbs;have hbs:JP t c (i + 1) = false:=hbs
      repeat' (first|refine qg ?_|(first|(refine vq ?_)|(refine jd ?_)|(refine vF ?_)|refine jT (hin ..) ?_|refine yS (hmv ..) ?_)|(refine xsS ?_ ?_;all_goals first|exact False.elim|intro hp hc)|refine xsA ?_ ?_)
      all_goals try (exfalso;omega)
      ·have hrow:=hmt v (if_pos (by assumption));clear hmt hin hmv hgt hpx lx hr hq hbad;refine ⟨t.length - (i + 1),_,by omega,xsL (τ:=⟨[(0,.os 0 0 t.length),(2,.v (.int .i64 v)),(4,.op 1 0 0),(8,.os 2 0 (jO (t.take (i + 1)) c v).length),(43,.os 0 0 t.length),(44,.v (.int .i64 t.length)),(45,.v (.int .i64 ((i + 1:Nat):Int)))],[(0,.own false 4 (t.map Ent.row)),(1,.own false 5 [c.row]),(2,.own false 4 ((jO (t.take (i + 1)) c v).map Ent.row))],3⟩) [(1,1),(4,2)] qnC qnD,i + 1,by omega,rfl,(hbs),rfl⟩
      ·have hrow:=hmt t[i].ver (if_neg (by assumption));clear hmt hin hmv hgt hpx lx hr hq hbad;refine ⟨t.length - (i + 1),_,by omega,xsL (τ:=⟨[(0,.os 0 0 t.length),(2,.v (.int .i64 v)),(4,.op 1 0 0),(8,.os 2 0 (jO (t.take (i + 1)) c v).length),(43,.os 0 0 t.length),(44,.v (.int .i64 t.length)),(45,.v (.int .i64 ((i + 1:Nat):Int)))],[(0,.own false 4 (t.map Ent.row)),(1,.own false 5 [c.row]),(2,.own false 4 ((jO (t.take (i + 1)) c v).map Ent.row))],3⟩) [(1,1),(4,2)] qnC qnD,i + 1,by omega,rfl,(hbs),rfl⟩
 ·obtain rfl:i = t.length:=by omega
  unfold JP at hsofar;rw [List.take_length] at hsofar;simp only [va,hk,hsofar] at hbad;simp at hbad
theorem qe8 (t:List Ent) (c:Chg) (v:Int) (hl:t.length ≤ 400000) (hk:c.kind = 3) (hgt : ∀ x,x ∈ t → qA x.path = 0) (hc1:qA c.path = 0) (hc2:qA c.to = 0) (hbad:va t c = false) (hs:ql yq t = true) :
  qf C1.P 225 [.os 0 0 t.length,.agg c.row,.v (.int .i64 v)] [.own false 4 (t.map Ent.row)] (qbF (xG t c v) (jI t c v).length) [.dead,.own false 4 ((jI t c v).map Ent.row)]:=by
 have l1:=xf hc1;have l2:=xf hc2
 have hnb : ∀ x,x ∈ t → inB x.path c.path = true → yD (c.to ++ x.path.drop c.path.length) = false:=fun x hx hi=>by
  simp only [va,hk,decide_true,Bool.true_and,List.any_eq_false] at hbad;simpa using hbad x (List.mem_filter.2 ⟨hx,hi⟩)
 have hwo:=qa4 t c.path (by omega) (by omega);have hD:jI t c v = (jO t c v).foldl xU (yI (Zp c.path) t):=by simp [jI,hk]
 have hE:xG t c v = if 60 < (jI t c v).length then 2 else 0:=by simp [xG,hbad]
 have hkl:(yI (Zp c.path) t).length ≤ t.length:=List.length_filter_le ..;have hkr:=wX (p:=Zp c.path) hs;have hml:(t.map Ent.row).length = t.length:=List.length_map ..;refine qJ (C:=C1) 1 ?_
 repeat' (first|refine qg ?_|fail|(refine xsS ?_ ?_;all_goals first|exact False.elim|intro hp hc)|refine xsA ?_ ?_)
 all_goals try (exfalso;omega)
 refine Awp.red (C:=C1) (Q9 8 4 rfl (Nat.le_of_ble_eq_true rfl)) ?_
 (refine xsK (τ:=⟨[(0,.os 0 0 t.length),(2,.v (.int .i64 v)),(4,.op 1 0 0),(8,.os 2 0 0),(43,.os 0 0 t.length),(44,.v (.int .i64 t.length)),(45,.v (.int .i64 ((0:Nat):Int)))],[(0,.own false 4 (t.map Ent.row)),(1,.own false 5 [c.row]),(2,.own false 4 [])],3⟩) [(1,1),(2,2)] tz9 qgO ?_)
 refine qB (C:=C1) (fun n σ => ∃ i:Nat,i ≤ t.length ∧ n = t.length - i ∧ True ∧ σ = ⟨[(0,.os 0 0 t.length),(2,.v (.int .i64 v)),(4,.op 1 0 0),(8,.os 2 0 (jO (t.take i) c v).length),(43,.os 0 0 t.length),(44,.v (.int .i64 t.length)),(45,.v (.int .i64 (i:Int)))],[(0,.own false 4 (t.map Ent.row)),(1,.own false 5 [c.row]),(2,.own false 4 ((jO (t.take i) c v).map Ent.row))],3⟩) t.length ⟨0,Nat.zero_le _,rfl,trivial,rfl⟩ ?_;rintro n σ ⟨i,hi,rfl, -,rfl⟩
 have hgl:(jO (t.take i) c v).length ≤ i:=by
  unfold jO;rw [List.length_map];have h1:((t.take i).filter (Zp c.path)).length ≤ (t.take i).length:=List.length_filter_le ..;simp at h1;omega
 by_cases hlt:i < t.length
 ·have hr:=qK (f:=Ent.row) hlt;have hpx:=hgt t[i] (List.getElem_mem _);have lx:=xf hpx;have hin:=qh9 t[i].path c.path (by omega);have hgs := @qbm t c v i hlt;have hmv:=qg2 t[i].path c.path c.to (by omega) (by omega) (by omega);have hme := @YH t[i].path c.path c.to hpx hc1 hc2;have hnb1:=hnb t[i] (List.getElem_mem _);have hmt : ∀ w,(if t[i].path = c.path then v else t[i].ver) = w → (vb c v t[i]).row = [.v (str (c.to ++ t[i].path.drop c.path.length)),.v (.bool t[i].fold),.v (str t[i].text),.v (.int .i64 w)]:=fun w hw=>by simp [vb,Ent.row,hw]
  generalize hG:jO (t.take i) c v = G at hgl hgs ⊢;generalize inB t[i].path c.path = I at *
  cases I with
  | false =>
    rw [if_neg (by decide)] at hgs
    repeat' (first|refine qg ?_|(first|(refine vq ?_)|(refine jd ?_)|(refine vF ?_)|refine jT (hin ..) ?_|refine yS (hmv ..) ?_)|(refine xsS ?_ ?_;all_goals first|exact False.elim|intro hp hc)|refine xsA ?_ ?_)
    all_goals try (exfalso;omega)
    refine ⟨t.length - (i + 1),_,by omega,xsL (τ:=⟨[(0,.os 0 0 t.length),(2,.v (.int .i64 v)),(4,.op 1 0 0),(8,.os 2 0 (jO (t.take (i + 1)) c v).length),(43,.os 0 0 t.length),(44,.v (.int .i64 t.length)),(45,.v (.int .i64 ((i + 1:Nat):Int)))],[(0,.own false 4 (t.map Ent.row)),(1,.own false 5 [c.row]),(2,.own false 4 ((jO (t.take (i + 1)) c v).map Ent.row))],3⟩) [(1,1),(2,2)] qqb qqi,i + 1,by omega,rfl,trivial,rfl⟩
  | true =>
    have hme2:=hme rfl;clear hme;rw [if_pos rfl] at hgs;have hlen1:(jO (t.take (i + 1)) c v).length = G.length + 1:=by rw [hgs];simp
    generalize c.to ++ t[i].path.drop c.path.length = Q at *;generalize vD t[i].path c.path c.to = E at *;have hq:yD Q = false:=hnb1 rfl;rw [hq,if_neg (by decide)] at hme2;subst hme2
    repeat' (first|refine qg ?_|(first|(refine vq ?_)|(refine jd ?_)|(refine vF ?_)|refine jT (hin ..) ?_|refine yS (hmv ..) ?_)|(refine xsS ?_ ?_;all_goals first|exact False.elim|intro hp hc)|refine xsA ?_ ?_)
    all_goals try (exfalso;omega)
    ·have hrow:=hmt v (if_pos (by assumption));clear hmt hin hmv hgt hpx lx hr hq hnb hnb1 hwo hE hD;refine ⟨t.length - (i + 1),_,by omega,xsL (τ:=⟨[(0,.os 0 0 t.length),(2,.v (.int .i64 v)),(4,.op 1 0 0),(8,.os 2 0 (jO (t.take (i + 1)) c v).length),(43,.os 0 0 t.length),(44,.v (.int .i64 t.length)),(45,.v (.int .i64 ((i + 1:Nat):Int)))],[(0,.own false 4 (t.map Ent.row)),(1,.own false 5 [c.row]),(2,.own false 4 ((jO (t.take (i + 1)) c v).map Ent.row))],3⟩) [(1,1),(4,2)] qnC qnD,i + 1,by omega,rfl,trivial,rfl⟩
    ·have hrow:=hmt t[i].ver (if_neg (by assumption));clear hmt hin hmv hgt hpx lx hr hq hnb hnb1 hwo hE hD;refine ⟨t.length - (i + 1),_,by omega,xsL (τ:=⟨[(0,.os 0 0 t.length),(2,.v (.int .i64 v)),(4,.op 1 0 0),(8,.os 2 0 (jO (t.take (i + 1)) c v).length),(43,.os 0 0 t.length),(44,.v (.int .i64 t.length)),(45,.v (.int .i64 ((i + 1:Nat):Int)))],[(0,.own false 4 (t.map Ent.row)),(1,.own false 5 [c.row]),(2,.own false 4 ((jO (t.take (i + 1)) c v).map Ent.row))],3⟩) [(1,1),(4,2)] qnC qnD,i + 1,by omega,rfl,trivial,rfl⟩
 obtain rfl:i = t.length:=by omega
 have hgl2:(jO t c v).length ≤ t.length:=by rw [List.take_length] at hgl;exact hgl
 rw [List.take_length];generalize hK:yI (Zp c.path) t = K at *;generalize hGo:jO t c v = G at *;generalize xG t c v = E at *;clear hnb hgl
 repeat' (first|refine qg ?_|(first|(refine Q8 ([0]) 0 qi (hwo ..) ?_))|(refine xsS ?_ ?_;all_goals first|exact False.elim|intro hp hc)|refine xsA ?_ ?_)
 all_goals try (exfalso;omega)
 refine Awp.red (C:=C1) (qey 0 0 K.length rfl rfl (List.take_of_length_le (by simp)) (Nat.ne_of_beq_eq_false rfl) (Nat.le_of_ble_eq_true rfl)) ?_
 (refine xsK (τ:=⟨[(0,.os 2 0 ((G.take 0).foldl xU K).length),(86,.os 1 0 G.length),(87,.v (.int .i64 G.length)),(88,.v (.int .i64 ((0:Nat):Int)))],[(1,.own false 4 (G.map Ent.row)),(2,.own false 4 (((G.take 0).foldl xU K).map Ent.row))],3⟩) [(2,1),(3,2)] qqE qgO ?_)
 refine qB (C:=C1) (fun n σ => ∃ i:Nat,i ≤ G.length ∧ n = G.length - i ∧ True ∧ σ = ⟨[(0,.os 2 0 ((G.take i).foldl xU K).length),(86,.os 1 0 G.length),(87,.v (.int .i64 G.length)),(88,.v (.int .i64 (i:Int)))],[(1,.own false 4 (G.map Ent.row)),(2,.own false 4 (((G.take i).foldl xU K).map Ent.row))],3⟩) G.length ⟨0,Nat.zero_le _,rfl,trivial,rfl⟩ ?_;rintro n σ ⟨i,hi,rfl, -,rfl⟩;have hLr:=Jc (l:=G.take i) hkr;have hLl:=X5 (G.take i) K;have hLs:=fun h => @qes G K i h
 have htl:(G.take i).length ≤ G.length:=by simp;omega
 by_cases hlt:i < G.length
 ·have hr:=qK (f:=Ent.row) hlt;have hLs:=hLs hlt;generalize (G.take i).foldl xU K = L at *;have hput:=qjU L G[i] (by omega) hLr;rw [← hLs] at hput
  repeat' (first|refine qg ?_|(first|(refine vq ?_)|(refine zn ([2]) 2 qi (hput ..) ?_))|(refine xsS ?_ ?_;all_goals first|exact False.elim|intro hp hc)|refine xsA ?_ ?_)
  all_goals try (exfalso;omega)
  clear hLr hLl hput hr hwo hE hD hkr;refine ⟨G.length - (i + 1),_,by omega,xsL (τ:=⟨[(0,.os 2 0 ((G.take (i + 1)).foldl xU K).length),(86,.os 1 0 G.length),(87,.v (.int .i64 G.length)),(88,.v (.int .i64 ((i + 1:Nat):Int)))],[(1,.own false 4 (G.map Ent.row)),(2,.own false 4 (((G.take (i + 1)).foldl xU K).map Ent.row))],3⟩) [(1,1),(4,2)] tz9 qgO,i + 1,by omega,rfl,trivial,rfl⟩
 obtain rfl:i = G.length:=by omega
 rw [List.take_length] at *;rw [← hD] at *;generalize jI t c v = L at *;by_cases h60:60 < L.length
 ·rw [if_pos h60] at hE;subst hE
  repeat' (first|refine qg ?_|fail|(refine xsS ?_ ?_;all_goals first|exact False.elim|intro hp hc)|refine xsA ?_ ?_)
  all_goals try (exfalso;omega)
  (exact yp (rs:=[.tmp 6,.tmp 7]) [(2,1)] 2 Va)
 ·rw [if_neg h60] at hE;subst hE
  repeat' (first|refine qg ?_|fail|(refine xsS ?_ ?_;all_goals first|exact False.elim|intro hp hc)|refine xsA ?_ ?_)
  all_goals try (exfalso;omega)
  (exact yp (rs:=[.tmp 6,.tmp 7]) [(2,1)] 2 Va)
end Go.Proofs.YtgcncinnlmjgdaaGreatDoor
namespace Go.Proofs.YtgcncinnlmjgdaaGreatDoor
theorem qfO {s:qb}:qj s = true ↔ s ≠ [] ∧ s.length ≤ 20 ∧ s ≠ [46] ∧ s ≠ [46,46] ∧ s.head? ≠ some 32 ∧ s.getLast? ≠ some 32 ∧ ∀ c,c ∈ s → okB c = true:=by
 simp [qj,and_assoc]
theorem qd2 {s:qb} (h:qj s = true):(47:UInt8) ∉ s:=fun hm=>by
 have:=(qfO.1 h).2.2.2.2.2.2 47 hm;exact absurd this (by decide)
theorem qfQ:qj [] = false:=by simp [qj]
theorem Qa {p:qb}:qA p = 0 ↔ (∀ n,n ∈ qk p → qj n = true) ∧ yD p = false:=by
 unfold qA;constructor
 ·intro h;split at h
  ·rename_i h1;split at h
   ·exact absurd h (by decide)
   ·rename_i h2;exact ⟨List.all_eq_true.1 h1,by simpa using h2⟩
  ·exact absurd h (by decide)
 ·rintro ⟨h1,h2⟩;rw [if_pos (List.all_eq_true.2 h1),h2];rfl
theorem qbB {a b:qb} (h:(47:UInt8) ∉ b):qM (a ++ 47 :: b) = a ∧ J0 (a ++ 47 :: b) = b:=by
 rw [qM,J0,QG h];refine ⟨by rw [show (a.length:Int).toNat = a.length from by omega,List.take_left],?_⟩;rw [show ((a.length:Int) + 1).toNat = a.length + 1 from by omega,List.drop_append,List.drop_of_length_le (by omega),List.nil_append,show a.length + 1 - a.length = 1 from by omega];rfl
theorem yK {p:qb} {l:List qb}:yl (p :: l) = 0 ↔ qA p = 0 ∧ yl l = 0:=by
 show (if qA p = 0 then yl l else qA p) = 0 ↔ _;split
 ·rename_i h;simp [h]
 ·rename_i h;simp [h]
theorem qfl {p f t:qb} (h:vD p f t = 0) :
  vD (t ++ p.drop f.length) t f = 0 ∧ yl [t ++ p.drop f.length,t] = 0 ∧ inB (t ++ p.drop f.length) t = true ∧ f ++ (t ++ p.drop f.length).drop t.length = p:=by
 unfold vD at h;split at h
 case isFalse h'=>exact absurd h h'
 rename_i h0;split at h
 case isFalse=>exact absurd h (by decide)
 rename_i hi;split at h
 case isTrue=>exact absurd h (by decide)
 rename_i hg;obtain ⟨hp,h1⟩:=yK.1 h0;obtain ⟨hf,h2⟩:=yK.1 h1;obtain ⟨ht, -⟩:=yK.1 h2;obtain ⟨np,gp⟩:=Qa.1 hp;obtain ⟨nt, -⟩:=Qa.1 ht;have hr:=qiZ (t:=t) hi
 have hall : ∀ n,n ∈ qk t ++ (qk p).drop (qk f).length → qj n = true:=fun n hm=>by
  rcases List.mem_append.1 hm with hm|hm
  ·exact nt n hm
  ·exact np n (List.mem_of_mem_drop hm)
 have hnm:qk (t ++ p.drop f.length) = qk t ++ (qk p).drop (qk f).length:=by
  rw [← hr];exact XZ (by simp [xS]) fun n hm=>qd2 (hall n hm)
 have hm:qA (t ++ p.drop f.length) = 0:=Qa.2 ⟨by rw [hnm];exact hall,by simpa using hg⟩
 have hb:inB (t ++ p.drop f.length) t = true:=by
  rw [qhu,hnm,List.isPrefixOf_iff_prefix];exact List.prefix_append ..
 have hpre:f ++ p.drop f.length = p:=by
  simp only [inB,Bool.or_eq_true,decide_eq_true_eq,List.isPrefixOf_iff_prefix] at hi
  rcases hi with rfl|⟨s,rfl⟩
  ·simp
  ·rw [List.append_assoc,List.drop_left]
 have hback:f ++ (t ++ p.drop f.length).drop t.length = p:=by rw [List.drop_left];exact hpre
 refine ⟨?_,?_,hb,hback⟩
 ·unfold vD;rw [if_pos (yK.2 ⟨hm,yK.2 ⟨ht,yK.2 ⟨hf,rfl⟩⟩⟩),if_pos hb,hback,gp];rfl
 ·exact yK.2 ⟨hm,yK.2 ⟨ht,rfl⟩⟩
end Go.Proofs.YtgcncinnlmjgdaaGreatDoor
