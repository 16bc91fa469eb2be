import Derived.Test.YtnhpclmbhbblbaaGreatDoorMz9
import Derived.Test.YtnhpclmbhbblbaaGreatDoorMz2
set_option linter.unusedSimpArgs false
set_option linter.unnecessarySimpa false
set_option linter.unusedVariables false
set_option maxHeartbeats 1000000
namespace Go.Proofs.YtnhpclmbhbblbaaGreatDoor
open Go.Ab Go.RowKit
set_option maxRecDepth 10000
attribute [local irreducible] Awp yl jE jl Red qX Go.Ab.Fin qW Rz vl jj ji ResOk jV jz yb jv
theorem Wk (p:Ent → Bool) (g:FuncId) (hg:IsFn C.P g) (cap:List AV) (hcap:AV.pure.pureL cap = true) (l:List (Ent)) (hl:l.length ≤ 1000000) (hc : ∀ s,s ∈ l → yO C.P g ((AV.agg (Ent.row s)) :: cap) (.v (.bool (p s)))) :
  yO C.P 149 [.sl false (l.map Ent.row),.clo (.func g) [] cap] (.v (.int .i64 (xa p l))):=by
 refine qa Tryz.func149 rfl _ Tryz.ntmps149 (Nat.le_of_ble_eq_true rfl) _ Tryz.results149 0 rfl rfl ?_
 repeat' (first|refine qm ?_|fail|((first|refine xsC ?_ ?_);all_goals (intro hc;have hp:=hc;try simp at hp;try (exfalso;omega)))|refine qO ?_ ?_)
 (refine Awp.red (qv (ts:=[(0,.sl false (l.map Ent.row)),(1,.clo (.func g) [] cap),(7,.v (.int .i64 l.length)),(8,.v (.int .i64 ((0:Nat):Int)))]) ?_) ?_;((repeat (first|exact qg|refine qn ?_|refine qS ?_ ?_))))
 all_goals try (rw [List.length_map];done)
 refine qP (fun n σ => ∃ i:Nat,i ≤ l.length ∧ n = l.length - i ∧ (∀ s,s ∈ l.take i → p s = false) ∧ σ = ⟨[(0,.sl false (l.map Ent.row)),(1,.clo (.func g) [] cap),(7,.v (.int .i64 l.length)),(8,.v (.int .i64 (i:Int)))],[],C.nh⟩) l.length ⟨0,Nat.zero_le _,rfl,(by simp),rfl⟩ ?_
 rintro n σ ⟨i,hi,rfl,hsofar,rfl⟩
 by_cases hlt:i < l.length
 ·have hr:=js (f:=Ent.row) hlt
  have hci:=hc l[i] (List.getElem_mem _)
  repeat' (first|refine qm ?_|(first|(apply qf;apply Ja [];rfl;exact hg;exact hci;(case hz=>exact qH (q8 rfl) (Y7 hcap));(case hfl=>rfl);(case hN=>exact nle rfl)))|((first|refine xsC ?_ ?_);all_goals (intro hc;have hp:=hc;try simp at hp;try (exfalso;omega)))|refine qO ?_ ?_)
  all_goals try (exfalso;omega)
  ·apply jL
   rfl
   exact (Jd hlt hsofar hp).symm
  ·refine ⟨l.length - (i + 1),_,by omega,qv (ts:=[(0,.sl false (l.map Ent.row)),(1,.clo (.func g) [] cap),(7,.v (.int .i64 l.length)),(8,.v (.int .i64 ((i + 1:Nat):Int)))]) ?_,i + 1,by omega,rfl,jU hlt hsofar hp,rfl⟩;((repeat (first|exact qg|refine qn ?_|refine qS ?_ ?_)))
 obtain rfl:i = l.length:=by omega
 repeat' (first|refine qm ?_|fail|((first|refine xsC ?_ ?_);all_goals (intro hc;have hp:=hc;try simp at hp;try (exfalso;omega)))|refine qO ?_ ?_)
 all_goals try (exfalso;omega)
 apply jL
 rfl
 exact (wy fun s hs=>hsofar s (by rw [List.take_length];exact hs)).symm
theorem Wh (p:Ent → Bool) (g:FuncId) (hg:IsFn C.P g) (cap:List AV) (hcap:AV.pure.pureL cap = true) (l:List (Ent)) (hl:l.length ≤ 1000000) (hc : ∀ s,s ∈ l → yO C.P g ((AV.agg (Ent.row s)) :: cap) (.v (.bool (p s)))) :
  yO C.P 121 [.sl false (l.map Ent.row),.clo (.func g) [] cap] (.v (.bool (l.any p))):=by
 have hidx:=Wk p g hg cap hcap l hl hc
 refine qa Tryz.func121 rfl _ Tryz.ntmps121 (Nat.le_of_ble_eq_true rfl) _ Tryz.results121 0 rfl rfl ?_
 repeat' (first|refine qm ?_|(first|(apply qf;apply yu [];exact j1 Tryz.func149 rfl rfl;exact hidx;(case hz=>exact qH (q8 rfl) (qH (w3 hcap) q5));(case hfl=>rfl);(case hN=>exact nle rfl)))|((first|refine xsC ?_ ?_);all_goals (intro hc;have hp:=hc;try simp at hp;try (exfalso;omega)))|refine qO ?_ ?_)
 apply jB
 rfl
 rw [← Xr]
def jQ (c:Chg):qQ:=if c.kind = 3 then c.to else c.path
def xW (c:Chg) (x:Ent):Bool:=decide (c.base < x.ver) && inB x.path c.path
def vn (t:List Ent) (p:qQ):Bool:=match t.find? (atP p) with|some x=>x.fold|none=>false
def zD (t:List Ent) (c:Chg):Int:=if c.kind = 1 then (if jW t c.path = true then 6 else 0) else if c.kind = 2 then (if vn t c.path = true then 4 else 0) else (if jW t c.path = true then 0 else 5)
def kH (t:List Ent) (c:Chg):Int:=if c.kind = 3 then (if inB c.to c.path = true then 3 else if jW t c.to = true then 6 else 0) else 0
def yo (t:List Ent) (c:Chg):Int:=if ¬ c.base = -1 ∧ t.any (xW c) = true then 8 else 0
def zN (t:List Ent) (c:Chg):Int :=
 if ¬ yw t (qG (jQ c)) = 0 then yw t (qG (jQ c))
 else if ¬ zD t c = 0 then zD t c
 else if ¬ kH t c = 0 then kH t c else yo t c
theorem qgn (x:Ent) (c:Chg) (hc:c.path.length ≤ 140737488355328):yO C.P 120 [.agg x.row,.fp [c.row] 0 0] (.v (.bool (xW c x))):=by
 have hin:=qaH x.path c.path hc
 have hE:xW c x = (decide (c.base < x.ver) && inB x.path c.path):=rfl
 generalize xW c x = E at *
 generalize inB x.path c.path = I at *
 refine qa Tryz.func120 rfl _ Tryz.ntmps120 (Nat.le_of_ble_eq_true rfl) _ Tryz.results120 0 rfl rfl ?_
 repeat' (first|refine qm ?_|(first|refine jc Tryz.func104 (hin ..) ?_)|((first|refine qd ?_ ?_|refine qc ?_ ?_|refine xsC ?_ ?_);all_goals (intro hc;have hp:=hc;try simp at hp;try (exfalso;omega)))|refine qO ?_ ?_)
 all_goals (apply jB;rfl;rw [hE];simp_all;try (intro _;omega))
theorem qgY (t:List Ent) (c:Chg) (hl:t.length ≤ 1000000) (hs:q4 jr t = true) (hcs:c.small):yO C.P 96 [qb t,.agg c.row] (.v (.int .i64 (zN t c))):=by
 obtain ⟨l1,l2,l3⟩:=hcs
 have hpa:=ZC t (jQ c) (by omega) hs (by unfold jQ;split<;>omega)
 have hfe:=Za t (jQ c)
 have hat:=We t c.path (by omega) hs
 have hat2:=We t c.to (by omega) hs
 have hin:=qaH c.to c.path (by omega)
 have hcon:=Wh (xW c) 120 (j1 Tryz.func120 rfl rfl) [.fp [c.row] 0 0] rfl t hl (fun x _=>qgn x c (by omega))
 have hE:zN t c = if ¬ yw t (qG (jQ c)) = 0 then yw t (qG (jQ c)) else if ¬ zD t c = 0 then zD t c else if ¬ kH t c = 0 then kH t c else yo t c:=rfl
 have hI:zD t c = if c.kind = 1 then (if jW t c.path = true then 6 else 0) else if c.kind = 2 then (if vn t c.path = true then 4 else 0) else (if jW t c.path = true then 0 else 5):=rfl
 have hM:kH t c = if c.kind = 3 then (if inB c.to c.path = true then 3 else if jW t c.to = true then 6 else 0) else 0:=rfl
 have hS:yo t c = if ¬ c.base = -1 ∧ t.any (xW c) = true then 8 else 0:=rfl
 have hrow:jW t c.path = true → ∃ hk:y0 t c.path < t.length,vn t c.path = t[y0 t c.path].fold:=fun h=>by
  obtain ⟨hk,_,hfi,_⟩:=zu hs h
  exact ⟨hk,by unfold vn;rw [hfi]⟩
 have hnorow:jW t c.path = false → vn t c.path = false:=fun h=>by
  unfold vn;rw [(xK h).1]
 have hg3:c.kind = 3 → jQ c = c.to:=fun h=>by simp [jQ,h]
 have hg0:¬ c.kind = 3 → jQ c = c.path:=fun h=>by simp [jQ,h]
 generalize zN t c = E at *
 generalize zD t c = I at *
 generalize kH t c = Mv at *
 generalize yo t c = S at *
 generalize t.any (xW c) = NW at *
 generalize inB c.to c.path = IB at *
 generalize jW t c.to = HT at *
 generalize y0 t c.to = PT at *
 generalize yw t (qG (jQ c)) = FE at *
 generalize Ji t (jQ c) = OK at *
 generalize wD t (jQ c) = PE at *
 cases hh:jW t c.path with
 | true =>
   obtain ⟨hk,hfo⟩:=hrow hh
   rw [hh] at hat hI
   rw [hfo] at hI
   have hr:=js (f:=Ent.row) hk
   clear hrow hnorow
   generalize y0 t c.path = k at *
   by_cases k3:c.kind = 3
   ·rw [hg3 k3] at hpa
    refine qa Tryz.func96 rfl _ Tryz.ntmps96 (Nat.le_of_ble_eq_true rfl) _ Tryz.results96 0 rfl rfl ?_
    repeat' (first|refine qm ?_|(first|refine xsQ Tryz.func99 (hpa ..) ?_|refine xsQ Tryz.func63 (hat ..) ?_|refine xsQ Tryz.func63 (hat2 ..) ?_|refine jc Tryz.func104 (hin ..) ?_|(apply qf;apply yu ([0]);exact j1 Tryz.func121 rfl rfl;exact hcon;(case hz=>(refine qH (q8 rfl) (qH (jJ q5 (qH (qat rfl (by simp) (zo (fun row hrow=>by rw [List.mem_singleton.1 hrow];rfl))) q5)) q5)));(case hfl=>rfl);(case hN=>exact nle rfl)))|((first|refine qd ?_ ?_|refine qc ?_ ?_|refine xsC ?_ ?_);all_goals (intro hc;have hp:=hc;try simp at hp;try (exfalso;omega)))|refine qO ?_ ?_)
    all_goals try (exfalso;omega)
    all_goals (apply jL;rfl;clear hat hat2 hcon hpa hin;simp_all)
   ·rw [hg0 k3] at hpa
    refine qa Tryz.func96 rfl _ Tryz.ntmps96 (Nat.le_of_ble_eq_true rfl) _ Tryz.results96 0 rfl rfl ?_
    repeat' (first|refine qm ?_|(first|refine xsQ Tryz.func99 (hpa ..) ?_|refine xsQ Tryz.func63 (hat ..) ?_|refine xsQ Tryz.func63 (hat2 ..) ?_|refine jc Tryz.func104 (hin ..) ?_|(apply qf;apply yu ([0]);exact j1 Tryz.func121 rfl rfl;exact hcon;(case hz=>(refine qH (q8 rfl) (qH (jJ q5 (qH (qat rfl (by simp) (zo (fun row hrow=>by rw [List.mem_singleton.1 hrow];rfl))) q5)) q5)));(case hfl=>rfl);(case hN=>exact nle rfl)))|((first|refine qd ?_ ?_|refine qc ?_ ?_|refine xsC ?_ ?_);all_goals (intro hc;have hp:=hc;try simp at hp;try (exfalso;omega)))|refine qO ?_ ?_)
    all_goals try (exfalso;omega)
    all_goals (apply jL;rfl;clear hat hat2 hcon hpa hin;simp_all)
 | false =>
   have hfo:=hnorow hh
   rw [hh] at hat hI
   rw [hfo] at hI
   clear hrow hnorow
   generalize y0 t c.path = k at *
   by_cases k3:c.kind = 3
   ·rw [hg3 k3] at hpa
    refine qa Tryz.func96 rfl _ Tryz.ntmps96 (Nat.le_of_ble_eq_true rfl) _ Tryz.results96 0 rfl rfl ?_
    repeat' (first|refine qm ?_|(first|refine xsQ Tryz.func99 (hpa ..) ?_|refine xsQ Tryz.func63 (hat ..) ?_|refine xsQ Tryz.func63 (hat2 ..) ?_|refine jc Tryz.func104 (hin ..) ?_)|((first|refine qd ?_ ?_|refine qc ?_ ?_|refine xsC ?_ ?_);all_goals (intro hc;have hp:=hc;try simp at hp;try (exfalso;omega)))|refine qO ?_ ?_)
    all_goals try (exfalso;omega)
    all_goals (apply jL;rfl;clear hat hat2 hcon hpa hin;simp_all)
   ·rw [hg0 k3] at hpa
    refine qa Tryz.func96 rfl _ Tryz.ntmps96 (Nat.le_of_ble_eq_true rfl) _ Tryz.results96 0 rfl rfl ?_
    repeat' (first|refine qm ?_|(first|refine xsQ Tryz.func99 (hpa ..) ?_|refine xsQ Tryz.func63 (hat ..) ?_|refine xsQ Tryz.func63 (hat2 ..) ?_|refine jc Tryz.func104 (hin ..) ?_|(apply qf;apply yu ([0]);exact j1 Tryz.func121 rfl rfl;exact hcon;(case hz=>(refine qH (q8 rfl) (qH (jJ q5 (qH (qat rfl (by simp) (zo (fun row hrow=>by rw [List.mem_singleton.1 hrow];rfl))) q5)) q5)));(case hfl=>rfl);(case hN=>exact nle rfl)))|((first|refine qd ?_ ?_|refine qc ?_ ?_|refine xsC ?_ ?_);all_goals (intro hc;have hp:=hc;try simp at hp;try (exfalso;omega)))|refine qO ?_ ?_)
    all_goals try (exfalso;omega)
    all_goals (apply jL;rfl;clear hat hat2 hcon hpa hin;simp_all)
end Go.Proofs.YtnhpclmbhbblbaaGreatDoor
set_option linter.unusedSimpArgs false
set_option linter.unnecessarySimpa false
set_option linter.unusedVariables false
set_option maxHeartbeats 1000000
namespace Go.Proofs.YtnhpclmbhbblbaaGreatDoor
open Go.Ab Go.RowKit
set_option maxRecDepth 10000
attribute [local irreducible] Awp yl jE jl Red qX Go.Ab.Fin qW Rz vl jj ji ResOk jV jz yb jv
theorem Vt (l:List Ent) (hl:l.length ≤ 1000000) :
  qW C.P 75 [qb l] [] (.os 0 0 l.length) [.own false 4 (l.map Ent.row)]:=by
 by_cases h0:l = []
 ·subst h0
  refine qa Tryz.func75 rfl _ Tryz.ntmps75 (Nat.le_of_ble_eq_true rfl) _ Tryz.results75 0 rfl rfl ?_
  repeat' (first|refine qm ?_|(first|(refine jM ?_)|(refine Yd ?_)|(refine qbQ ?_))|((first|refine xsC ?_ ?_);all_goals (intro hc;have hp:=hc;try simp at hp;try (exfalso;omega)))|refine qO ?_ ?_)
  · (refine Vf (C:=C) (vX (C:=C) 2 4 rfl (Nat.zero_le _)) ?_)
    (refine Wb (rs:=[.tmp 2]) [(0,0)] 1 ?_;(repeat (first|exact qj|refine yA ?_|refine q9 ?_ ?_));all_goals skip)
  · (refine Wb (rs:=[.tmp 2]) [(0,0)] 1 ?_;(repeat (first|exact qj|refine yA ?_|refine q9 ?_ ?_));all_goals skip)
 ·refine qa Tryz.func75 rfl _ Tryz.ntmps75 (Nat.le_of_ble_eq_true rfl) _ Tryz.results75 0 rfl rfl ?_
  repeat' (first|refine qm ?_|(first|(refine jM ?_)|(refine Yd ?_)|(apply qf;apply ZR;rfl;exact (fun h=>h0 (List.map_eq_nil_iff.1 h));rfl;rfl;(first|exact .inl rfl|exact .inr rfl);exact nle rfl))|((first|refine xsC ?_ ?_);all_goals (intro hc;have hp:=hc;try simp at hp;try (exfalso;omega)))|refine qO ?_ ?_)
  (refine Wb (rs:=[.tmp 2]) [(0,0)] 1 ?_;(repeat (first|exact qj|refine yA ?_|refine q9 ?_ ?_));all_goals skip)
theorem Wm (l:List Ent) (g:Ent) (hl:l.length ≤ 1000000) :
  qW C1.P 150 [.os 0 0 l.length,.v (.int .i64 l.length),.sl false [g.row]] [.own false 4 (l.map Ent.row)] (.os 1 0 (l.length + 1)) [.dead,.own false 4 ((l ++ [g]).map Ent.row)]:=by
 refine qa (C:=C1) Tryz.func150 rfl _ Tryz.ntmps150 (Nat.le_of_ble_eq_true rfl) _ Tryz.results150 1 rfl rfl ?_
 repeat' (first|refine qm ?_|(first|(refine qel ?_)|(refine yg ?_))|((first|refine qd ?_ ?_|refine qc ?_ ?_|refine xsC ?_ ?_);all_goals (intro hc;have hp:=hc;try simp at hp;try (exfalso;omega)))|refine qO ?_ ?_)
 (refine Wb (rs:=[.tmp 6]) [(1,1)] 2 ?_;(apply xL 0;exact qJ rfl;(repeat (first|exact qj|refine yA ?_|refine q9 ?_ ?_)));all_goals trace_state)
theorem qfl {α:Type} (R J Z:List α) (x:α) {i a b c d:Nat} (hi:i ≤ R.length) (hJ:J.length = 1 + Z.length) (ha:a = i) (hb:b = i + 1) (hc:c = i + 1) (hd:d = i + 1 + Z.length) :
  ((R.take i ++ J).take a ++ [x] ++ (R.take i ++ J).drop b).take c ++ Z ++ ((R.take i ++ J).take a ++ [x] ++ (R.take i ++ J).drop b).drop d = R.take i ++ ([x] ++ Z):=by
 subst ha;subst hb;subst hc;subst hd
 have h1:(R.take a ++ J).take a = R.take a:=by rw [List.take_append_of_le_length (by simp;omega),List.take_of_length_le (by simp;omega)]
 have h2:(R.take a ++ [x] ++ (R.take a ++ J).drop (a + 1)).take (a + 1) = R.take a ++ [x]:=by
  rw [List.take_append_of_le_length (by simp;omega),List.take_of_length_le (by simp;omega)]
 have h3:(R.take a ++ [x] ++ (R.take a ++ J).drop (a + 1)).drop (a + 1 + Z.length) = []:=List.drop_of_length_le (by simp;omega)
 rw [h1,h2,h3];simp
theorem qgD {α:Type} (R Z:List α) (x:α) {i a b c d m:Nat} (hi:i + 1 ≤ R.length) (ha:a = i + 1) (hc:c = i) (hd:d = i + 1) (hm:m = i + 1 + Z.length) :
  ((R.take a ++ Z ++ R.drop b).take c ++ [x] ++ (R.take a ++ Z ++ R.drop b).drop d).take m = R.take i ++ ([x] ++ Z):=by
 subst ha;subst hc;subst hd;subst hm
 have h1:(R.take (c + 1) ++ Z ++ R.drop b).take c = R.take c:=by
  rw [List.append_assoc,List.take_append_of_le_length (by simp;omega),List.take_take,Nat.min_eq_left (by omega)]
 have h2:(R.take (c + 1) ++ Z ++ R.drop b).drop (c + 1) = Z ++ R.drop b:=by
  rw [List.append_assoc,List.drop_append_of_le_length (by simp;omega),List.drop_of_length_le (by simp;omega),List.nil_append]
 rw [h1,h2, ← List.append_assoc,List.take_append_of_le_length (by simp;omega),List.take_of_length_le (by simp;omega),List.append_assoc]
theorem qaI (l:List Ent) (g:Ent) (i:Nat) (hi:i < l.length) (hl:l.length ≤ 1000000) :
  qW C1.P 150 [.os 0 0 l.length,.v (.int .i64 (i:Int)),.sl false [g.row]] [.own false 4 (l.map Ent.row)] (.os 1 0 (l.length + 1)) [.dead,.own false 4 ((l.take i ++ ([g] ++ l.drop i)).map Ent.row)]:=by
 refine qa (C:=C1) Tryz.func150 rfl _ Tryz.ntmps150 (Nat.le_of_ble_eq_true rfl) _ Tryz.results150 1 rfl rfl ?_
 refine qe0 0 4 (l.map Ent.row) rfl fun cap hcap=>?_
 rw [List.length_map] at hcap
 have hRt:(l.map Ent.row ++ kb 4 (cap - (l.map Ent.row).length)).take l.length = l.map Ent.row:=by
  rw [List.take_append_of_le_length (by simp),List.take_of_length_le (by simp)]
 have hRl:l.length ≤ (l.map Ent.row ++ kb 4 (cap - (l.map Ent.row).length)).length:=by simp
 generalize l.map Ent.row ++ kb 4 (cap - (l.map Ent.row).length) = R at hRt hRl ⊢
 have hcut:(R.drop i).take (l.length - i) = (l.drop i).map Ent.row:=by rw [← List.drop_take,hRt,List.map_drop]
 have hti:R.take i = (l.take i).map Ent.row:=by rw [List.map_take, ← hRt,List.take_take,Nat.min_eq_left (by omega)]
 have hck : ∀ row,row ∈ (l.drop i).map Ent.row → row.length = 4:=fun row hr=>by obtain ⟨x,_,rfl⟩:=List.mem_map.1 hr;rfl
 have hcl : ∀ row,row ∈ (l.drop i).map Ent.row → row.all yc = true:=fun row hr=>by obtain ⟨x,_,rfl⟩:=List.mem_map.1 hr;rfl
 repeat' (first|refine qm ?_|(first|(refine qel ?_)|(apply qf;apply qcn;(case hx=>rfl);(case hn=>rfl);(case hT=>rfl);(case he=>rfl);(case hN=>exact nle rfl))|(apply xq;apply VJ;(case hx=>rfl);(case hT=>rfl);(case he=>rfl);(case hE=>rfl);(case hn=>rfl);(case hl=>(first|omega|(simp;done)|(simp only [List.length_cons,List.length_nil,List.length_map];omega)|(simp;omega)));(case hy=>exact congrArg (fun z=>AV.v (Value.int IntKind.i64 z)) (show ((l.length + 1:Nat):Int) - (i:Int) = ((l.length + 1 - i:Nat):Int) from by omega));(case hxT=>rfl);(case hxk=>rfl);(case hz=>rfl);(case hs0=>exact Nat.ne_of_beq_eq_false rfl);(case hg=>omega);(case hsz=>(first|omega|(simp;done)|(simp only [List.length_cons,List.length_nil,List.length_map];omega)|(simp;omega)));(case hlen=>(first|omega|(simp;done)|(simp only [List.length_cons,List.length_nil,List.length_map];omega)|(simp;omega)));(case hN=>exact nle rfl))|(apply qf;apply WG;exact Tryz.func170;(case hname=>rfl);(case hb=>rfl);(case hnx=>rfl);(case hex=>rfl);(case hT=>rfl);(case he=>rfl);(case hE=>rfl);(case hx=>rfl);(case hy=>rfl);(case hm=>rfl);(case hk=>exact Nat.ne_of_beq_eq_false rfl);(case hrw=>intro row hrow;rw [List.mem_singleton.1 hrow];exact Nat.succ_ne_zero _);(case hN=>exact nle rfl))|(apply Jh;apply VK;(case hx=>rfl);(case hT=>rfl);(case he=>rfl);(case hE=>rfl);(case hn=>rfl);(case hsrc=>exact qfP (zL rfl rfl));(case hmin=>exact Nat.min_eq_left (by (first|omega|(simp;done)|(simp only [List.length_cons,List.length_nil,List.length_map];omega)|(simp;omega))));(case hfit=>(first|omega|(simp;done)|(simp only [List.length_cons,List.length_nil,List.length_map];omega)|(simp;omega)));(case hN=>exact nle rfl))|(apply Jh;apply VK;(case hx=>rfl);(case hT=>rfl);(case he=>rfl);(case hE=>rfl);(case hn=>rfl);(case hsrc=>exact qez (cnt:=l.length - i) rfl (List.mem_singleton.2 rfl) rfl (by omega) (by omega) (by first|exact hcut|simpa using hcut) hck hcl);(case hmin=>(first|exact (Nat.min_eq_left (by (first|omega|(simp;done)|(simp only [List.length_cons,List.length_nil,List.length_map];omega)|(simp;omega)))).trans (by (first|omega|(simp;done)|(simp only [List.length_cons,List.length_nil,List.length_map];omega)|(simp;omega)))|exact (Nat.min_eq_right (by (first|omega|(simp;done)|(simp only [List.length_cons,List.length_nil,List.length_map];omega)|(simp;omega)))).trans (by (first|omega|(simp;done)|(simp only [List.length_cons,List.length_nil,List.length_map];omega)|(simp;omega)))));(case hfit=>(first|omega|(simp;done)|(simp only [List.length_cons,List.length_nil,List.length_map];omega)|(simp;omega)));(case hN=>exact nle rfl)))|((first|refine qd ?_ ?_|refine qc ?_ ?_|refine xsC ?_ ?_);all_goals (intro hc;have hp:=hc;try simp at hp;try (exfalso;omega)))|refine qO ?_ ?_)
 all_goals try (exfalso;omega)
 ·have hrow:=qfl R (kb 4 (l.length + 1 - i)) ((l.drop i).map Ent.row) g.row (i:=i) (a:=0 + i) (b:=0 + i + 1) (c:=0 + (i + 1)) (d:=0 + (i + 1) + ((l.drop i).map Ent.row).length) (by omega) (by simp;omega) (by omega) (by omega) (by omega) (by omega)
  (apply jH (rs:=[.tmp 6]) [(1,1)] 2;(case hr=>(repeat (first|exact jp|(apply jq;rfl)|(apply jg;rfl;rfl;rfl;rfl;rfl))));(case hL=>rfl);(case hh=>(apply xL 0;exact qJ rfl;(repeat (first|exact qj|refine yA ?_|refine q9 ?_ ?_)));all_goals (refine hrow.trans ?_;rw [hti];simp));(case hi=>first|exact (rfl:_ = ([]:List (Nat × Nat)))|exact (rfl:_ = [((0:Nat),(0:Nat))])|exact (rfl:_ = [((0:Nat),(0:Nat)),(1,1)]));(case hz=>first|rfl|(simp [j6,AV.ren,AV.ren.renL,jD,qR,jA];done)|(simp [j6,AV.ren,AV.ren.renL,jD,qR,jA, *];done)|(simp [j6,AV.ren,AV.ren.renL,jD,qR,jA];omega)))
 ·have hrow:=qgD R ((l.drop i).map Ent.row) g.row (i:=i) (a:=0 + 0 + (i + 1)) (b:=0 + 0 + (i + 1) + ((l.drop i).map Ent.row).length) (c:=0 + 0 + i) (d:=0 + 0 + i + 1) (m:=l.length + 1) (by omega) (by omega) (by omega) (by omega) (by simp;omega)
  have hrow:=hrow.trans (show _ = (l.take i ++ ([g] ++ l.drop i)).map Ent.row from by rw [hti];simp)
  apply YD (C:=C1) 6 0 (l.length + 1)
  case hi=>rfl
  case hn=>rfl
  case hr=>exact hrow
  case hnn=>exact Nat.ne_of_beq_eq_false rfl
  case hnx=>exact Nat.le_of_ble_eq_true rfl
  (apply jH (rs:=[.tmp 6]) [(1,1)] 2;(case hr=>(repeat (first|exact jp|(apply jq;rfl)|(apply jg;rfl;rfl;rfl;rfl;rfl))));(case hL=>rfl);(case hh=>(apply xL 0;exact qJ rfl;(repeat (first|exact qj|refine yA ?_|refine q9 ?_ ?_)));all_goals trace_state);(case hi=>first|exact (rfl:_ = ([]:List (Nat × Nat)))|exact (rfl:_ = [((0:Nat),(0:Nat))])|exact (rfl:_ = [((0:Nat),(0:Nat)),(1,1)]));(case hz=>first|rfl|(simp [j6,AV.ren,AV.ren.renL,jD,qR,jA];done)|(simp [j6,AV.ren,AV.ren.renL,jD,qR,jA, *];done)|(simp [j6,AV.ren,AV.ren.renL,jD,qR,jA];omega)))
def jN (t:List Ent) (x:Ent):List Ent:=if jW t x.path = true then t.take (y0 t x.path) ++ ([x] ++ t.drop (y0 t x.path + 1)) else t.take (y0 t x.path) ++ ([x] ++ t.drop (y0 t x.path))
theorem qds (t:List Ent) (x:Ent) (hl:t.length ≤ 1000000) (hs:q4 jr t = true) :
  qW C1.P 122 [.os 0 0 t.length,.agg x.row] [.own false 4 (t.map Ent.row)] (.os 1 0 (jN t x).length) [.dead,.own false 4 ((jN t x).map Ent.row)]:=by
 have hat:=We t x.path (by omega) hs
 cases hh:jW t x.path with
 | true =>
   obtain ⟨hp0, -, -, -⟩:=zu hs hh
   have hL:jN t x = t.take (y0 t x.path) ++ ([x] ++ t.drop (y0 t x.path + 1)):=by simp [jN,hh]
   rw [hh] at hat
   generalize jN t x = L at hL ⊢
   generalize y0 t x.path = p at hL hp0 hat
   have hlen:L.length = t.length:=by rw [hL];simp;omega
   have hrow:=js (f:=Ent.row) hp0
   refine qa (C:=C1) Tryz.func122 rfl _ Tryz.ntmps122 (Nat.le_of_ble_eq_true rfl) _ Tryz.results122 1 rfl rfl ?_
   repeat' (first|refine qm ?_|(first|(apply qf;apply yu ([0]);exact j1 Tryz.func63 rfl rfl;apply hat;(case hz=>(repeat' (first|exact q5|apply qH|exact q8 rfl|exact yn|(apply jY;(case hn=>rfl);(case hl=>first|with_reducible rfl|(simp;done)|(simp [*];done)|omega);(case hp=>(first|assumption|exact jX rfl|exact qE fun _=>rfl)))|apply jR|apply jJ)));(case hfl=>rfl);(case hN=>exact nle rfl))|(refine xX ?_))|((first|refine qd ?_ ?_|refine qc ?_ ?_|refine xsC ?_ ?_);all_goals (intro hc;have hp:=hc;try simp at hp;try (exfalso;omega)))|refine qO ?_ ?_)
   all_goals try (exfalso;omega)
   apply YD (C:=C1) 4 0 t.length
   case hi=>rfl
   case hn=>rfl
   case hr=>(show ((t.map Ent.row).set p x.row).take t.length = L.map Ent.row;rw [← List.map_set,hL,List.set_eq_take_append_cons_drop,if_pos hp0,List.take_of_length_le (by simp;omega)];rfl)
   case hnn=>exact Nat.ne_of_beq_eq_false rfl
   case hnx=>exact Nat.le_of_ble_eq_true rfl
   (apply jH (rs:=[.tmp 4]) [(2,1)] 2;(case hr=>(repeat (first|exact jp|(apply jq;rfl)|(apply jg;rfl;rfl;rfl;rfl;rfl))));(case hL=>rfl);(case hh=>(apply xL 0;exact qJ rfl;(repeat (first|exact qj|refine yA ?_|refine q9 ?_ ?_)));all_goals trace_state);(case hi=>first|exact (rfl:_ = ([]:List (Nat × Nat)))|exact (rfl:_ = [((0:Nat),(0:Nat))])|exact (rfl:_ = [((0:Nat),(0:Nat)),(1,1)]));(case hz=>first|rfl|(simp [j6,AV.ren,AV.ren.renL,jD,qR,jA];done)|(simp [j6,AV.ren,AV.ren.renL,jD,qR,jA, *];done)|(simp [j6,AV.ren,AV.ren.renL,jD,qR,jA];omega)))
 | false =>
   have hL:jN t x = t.take (y0 t x.path) ++ ([x] ++ t.drop (y0 t x.path)):=by simp [jN,hh]
   have hple:=qfL t x.path
   rw [hh] at hat
   generalize jN t x = L at hL ⊢
   generalize y0 t x.path = p at hL hple hat
   have hlen:L.length = t.length + 1:=by rw [hL];simp;omega
   by_cases hp0:p = t.length
   ·have hin:=Wm t x hl
    have hL2:L = t ++ [x]:=by rw [hL,hp0];simp
    rw [hp0] at hat
    refine qa (C:=C1) Tryz.func122 rfl _ Tryz.ntmps122 (Nat.le_of_ble_eq_true rfl) _ Tryz.results122 1 rfl rfl ?_
    repeat' (first|refine qm ?_|(first|(apply qf;apply yu ([0]);exact j1 Tryz.func63 rfl rfl;apply hat;(case hz=>(repeat' (first|exact q5|apply qH|exact q8 rfl|exact yn|(apply jY;(case hn=>rfl);(case hl=>first|with_reducible rfl|(simp;done)|(simp [*];done)|omega);(case hp=>(first|assumption|exact jX rfl|exact qE fun _=>rfl)))|apply jR|apply jJ)));(case hfl=>rfl);(case hN=>exact nle rfl))|(refine xX ?_)|(refine jM ?_)|(apply jT Tryz.func150 rfl rfl;intro hIsFn;refine k9 ([0]) 0 hIsFn (hin ..) ?_))|((first|refine qd ?_ ?_|refine qc ?_ ?_|refine xsC ?_ ?_);all_goals (intro hc;have hp:=hc;try simp at hp;try (exfalso;omega)))|refine qO ?_ ?_)
    all_goals try (exfalso;omega)
    (apply jH (rs:=[.tmp 4]) [(2,1)] 2;(case hr=>(repeat (first|exact jp|(apply jq;rfl)|(apply jg;rfl;rfl;rfl;rfl;rfl))));(case hL=>rfl);(case hh=>(apply xL 0;exact qJ rfl;(repeat (first|exact qj|refine yA ?_|refine q9 ?_ ?_)));all_goals (rw [hL2]));(case hi=>first|exact (rfl:_ = ([]:List (Nat × Nat)))|exact (rfl:_ = [((0:Nat),(0:Nat))])|exact (rfl:_ = [((0:Nat),(0:Nat)),(1,1)]));(case hz=>first|rfl|(simp [j6,AV.ren,AV.ren.renL,jD,qR,jA];done)|(simp [j6,AV.ren,AV.ren.renL,jD,qR,jA, *];done)|(simp [j6,AV.ren,AV.ren.renL,jD,qR,jA];omega)))
   ·have hin:=qaI t x p (by omega) hl
    refine qa (C:=C1) Tryz.func122 rfl _ Tryz.ntmps122 (Nat.le_of_ble_eq_true rfl) _ Tryz.results122 1 rfl rfl ?_
    repeat' (first|refine qm ?_|(first|(apply qf;apply yu ([0]);exact j1 Tryz.func63 rfl rfl;apply hat;(case hz=>(repeat' (first|exact q5|apply qH|exact q8 rfl|exact yn|(apply jY;(case hn=>rfl);(case hl=>first|with_reducible rfl|(simp;done)|(simp [*];done)|omega);(case hp=>(first|assumption|exact jX rfl|exact qE fun _=>rfl)))|apply jR|apply jJ)));(case hfl=>rfl);(case hN=>exact nle rfl))|(refine xX ?_)|(refine jM ?_)|(apply jT Tryz.func150 rfl rfl;intro hIsFn;refine k9 ([0]) 0 hIsFn (hin ..) ?_))|((first|refine qd ?_ ?_|refine qc ?_ ?_|refine xsC ?_ ?_);all_goals (intro hc;have hp:=hc;try simp at hp;try (exfalso;omega)))|refine qO ?_ ?_)
    all_goals try (exfalso;omega)
    (apply jH (rs:=[.tmp 4]) [(2,1)] 2;(case hr=>(repeat (first|exact jp|(apply jq;rfl)|(apply jg;rfl;rfl;rfl;rfl;rfl))));(case hL=>rfl);(case hh=>(apply xL 0;exact qJ rfl;(repeat (first|exact qj|refine yA ?_|refine q9 ?_ ?_)));all_goals (rw [hL]));(case hi=>first|exact (rfl:_ = ([]:List (Nat × Nat)))|exact (rfl:_ = [((0:Nat),(0:Nat))])|exact (rfl:_ = [((0:Nat),(0:Nat)),(1,1)]));(case hz=>first|rfl|(simp [j6,AV.ren,AV.ren.renL,jD,qR,jA];done)|(simp [j6,AV.ren,AV.ren.renL,jD,qR,jA, *];done)|(simp [j6,AV.ren,AV.ren.renL,jD,qR,jA];omega)))
end Go.Proofs.YtnhpclmbhbblbaaGreatDoor
set_option linter.unusedSimpArgs false
set_option linter.unnecessarySimpa false
set_option linter.unusedVariables false
set_option maxHeartbeats 1000000
namespace Go.Proofs.YtnhpclmbhbblbaaGreatDoor
open Go.Ab Go.RowKit
set_option maxRecDepth 10000
attribute [local irreducible] Awp yl jE jl Red qX Go.Ab.Fin qW Rz vl jj ji ResOk jV jz yb jv
def j4 (p:Ent → Bool) (t:List Ent):List Ent:=t.filter fun x => !p x
theorem QH {p:Ent → Bool} {t:List Ent} {j:Nat} (h:j < t.length):j4 p (t.take (j + 1)) = if p t[j] = true then j4 p (t.take j) else j4 p (t.take j) ++ [t[j]]:=by
 unfold j4
 rw [List.take_succ_eq_append_getElem h,List.filter_append]
 cases hs:p t[j]<;>simp [hs]
theorem Xt (p:Ent → Bool) (t:List Ent) (j:Nat) (hj:j ≤ t.length):(j4 p (t.take j)).length ≤ j:=by
 have h1:(j4 p (t.take j)).length ≤ (t.take j).length:=List.length_filter_le ..
 simp at h1;omega
theorem Kr (p:Ent → Bool) (g:FuncId) (hg:IsFn C1.P g) (cap:List AV) (hcap:AV.pure.pureL cap = true) (t:List Ent) (hl:t.length ≤ 1000000) (hcf : ∀ s,s ∈ t → yO C1.P g (AV.agg s.row :: cap) (.v (.bool (p s)))) :
  qW C1.P 151 [.os 0 0 t.length,.clo (.func g) [] cap] [.own false 4 (t.map Ent.row)] (.os 0 0 (j4 p t).length) [.own false 4 ((j4 p t).map Ent.row)]:=by
 have hidx:=Wk p g hg cap hcap t hl hcf
 refine qa (C:=C1) Tryz.func151 rfl _ Tryz.ntmps151 (Nat.le_of_ble_eq_true rfl) _ Tryz.results151 1 rfl rfl ?_
 rcases kD p t with ⟨h1,h2⟩|⟨k,hk,h1,h2,h3⟩
 ·have hall:j4 p t = t:=List.filter_eq_self.2 fun x hx=>by rw [h2 x hx];rfl
  rw [h1] at hidx
  rw [hall]
  repeat' (first|refine qm ?_|(first|(apply qf;apply yu ([0]);exact j1 Tryz.func149 rfl rfl;exact hidx;(case hz=>(exact qH (jY rfl (by simp) (qE fun _=>rfl)) (qH (w3 hcap) q5)));(case hfl=>rfl);(case hN=>exact nle rfl)))|((first|refine qd ?_ ?_|refine qc ?_ ?_|refine xsC ?_ ?_);all_goals (intro hc;have hp:=hc;try simp at hp;try (exfalso;omega)))|refine qO ?_ ?_)
  all_goals try (exfalso;omega)
  (refine Wb (rs:=[.tmp 4]) [] 1 ?_;(repeat (first|exact qj|refine yA ?_|refine q9 ?_ ?_));all_goals trace_state)
 ·rw [h1] at hidx
  have hk1:j4 p (t.take (k + 1)) = t.take k:=by
   rw [QH hk,if_pos h3]
   exact List.filter_eq_self.2 fun x hx=>by rw [h2 x hx];rfl
  repeat' (first|refine qm ?_|(first|(apply qf;apply yu ([0]);exact j1 Tryz.func149 rfl rfl;exact hidx;(case hz=>(exact qH (jY rfl (by simp) (qE fun _=>rfl)) (qH (w3 hcap) q5)));(case hfl=>rfl);(case hN=>exact nle rfl)))|((first|refine qd ?_ ?_|refine qc ?_ ?_|refine xsC ?_ ?_);all_goals (intro hc;have hp:=hc;try simp at hp;try (exfalso;omega)))|refine qO ?_ ?_)
  all_goals try (exfalso;omega)
  (refine Awp.red (qC (τ:=⟨[(0,.os 0 0 t.length),(1,.clo (.func g) [] cap),(5,.v (.int .i64 (k:Int))),(6,.v (.int .i64 ((k:Int) + 1)))],[(0,.own false 4 (t.map Ent.row))],1⟩) [] rfl ?gts ?ghs) ?gmain;(case gts=>(repeat (first|exact qg|refine qn ?_|refine ye ?_|refine vj ?_|refine qS ?_ ?_)));(case ghs=>(repeat (first|exact qj|refine yA ?_|refine q9 ?_ ?_))))
  refine qP (C:=C1) (fun n σ => ∃ (j:Nat) (E:List Ent),k + 1 ≤ j ∧ j ≤ t.length ∧ n = t.length - j ∧ E.length = t.length ∧ E.take (j4 p (t.take j)).length = j4 p (t.take j) ∧ E.drop j = t.drop j ∧ σ = ⟨[(0,.os 0 0 t.length),(1,.clo (.func g) [] cap),(5,.v (.int .i64 ((j4 p (t.take j)).length:Int))),(6,.v (.int .i64 (j:Int)))],[(0,.own false 4 (E.map Ent.row))],1⟩) (t.length - (k + 1)) ⟨k + 1,t,Nat.le_refl _,hk,rfl,rfl,(by rw [hk1];simp),rfl,?_⟩ ?_
  ·have htl:(t.take k).length = k:=by simp;omega
   rw [hk1,htl];rfl
  rintro n σ ⟨j,E,hkj,hj,rfl,hEl,hEt,hEd,rfl⟩
  have hil:=Xt p t j hj
  by_cases hlt:j < t.length
  ·have hej:E[j]'(by omega) = t[j]:=by
    have h:=congrArg (fun l=>l[0]?) hEd
    simp only [List.getElem?_drop,Nat.add_zero] at h
    rw [List.getElem?_eq_getElem (by omega),List.getElem?_eq_getElem hlt] at h
    exact Option.some.inj h
   have hr:=js (f:=Ent.row) (l:=E) (i:=j) (by omega)
   rw [hej] at hr
   have hci:=hcf t[j] (List.getElem_mem _)
   have hks := @QH p t j hlt
   have hEd2:E.drop (j + 1) = t.drop (j + 1):=by rw [← List.drop_drop,hEd,List.drop_drop]
   have hml:(E.map Ent.row).length = E.length:=List.length_map ..
   have hrw : ∀ i:Nat,i < E.length → (E.map Ent.row)[i]? = some (E[i]?.getD t[j]).row:=fun i hi=>by
    rw [List.getElem?_map,List.getElem?_eq_getElem hi];rfl
   have hri:=hrw (j4 p (t.take j)).length (by omega)
   generalize hI:(j4 p (t.take j)).length = i at *
   generalize p t[j] = P at *
   cases P with
   | true =>
     rw [if_pos rfl] at hks
     repeat' (first|refine qm ?_|(first|(refine xX ?_)|(apply qf;apply Ja [];rfl;exact hg;exact hci;(case hz=>exact qH (q8 rfl) (Y7 hcap));(case hfl=>rfl);(case hN=>exact nle rfl)))|((first|refine qd ?_ ?_|refine qc ?_ ?_|refine xsC ?_ ?_);all_goals (intro hc;have hp:=hc;try simp at hp;try (exfalso;omega)))|refine qO ?_ ?_)
     all_goals try (exfalso;omega)
     refine ⟨t.length - (j + 1),_,by omega,qC (τ:=⟨[(0,.os 0 0 t.length),(1,.clo (.func g) [] cap),(5,.v (.int .i64 ((j4 p (t.take (j + 1))).length:Int))),(6,.v (.int .i64 ((j + 1:Nat):Int)))],[(0,.own false 4 (List.map Ent.row E))],1⟩) [] rfl ?gts ?ghs,j + 1,E,by omega,by omega,rfl,hEl,(by rw [hks,hI];exact hEt),hEd2,rfl⟩;(case gts=>(repeat (first|exact qg|refine qn ?_|refine ye ?_|refine vj ?_|refine qS ?_ ?_));all_goals (rw [hks,hI]));(case ghs=>(repeat (first|exact qj|refine yA ?_|refine q9 ?_ ?_));all_goals skip)
   | false =>
     rw [if_neg (by decide)] at hks
     have hlen1:(j4 p (t.take (j + 1))).length = i + 1:=by rw [hks,List.length_append,hI];rfl
     have hset:(E.set i t[j]).take (i + 1) = j4 p (t.take (j + 1)):=by
      rw [hks,List.take_set, ← hEt,List.take_succ_eq_append_getElem (by omega)]
      rw [List.set_append_right _ _ (by simp;omega)]
      simp [show i - min i E.length = 0 from by omega]
     have hdr:(E.set i t[j]).drop (j + 1) = t.drop (j + 1):=by rw [List.drop_set_of_lt (by omega)];exact hEd2
     repeat' (first|refine qm ?_|(first|(refine xX ?_)|(apply qf;apply Ja [];rfl;exact hg;exact hci;(case hz=>exact qH (q8 rfl) (Y7 hcap));(case hfl=>rfl);(case hN=>exact nle rfl)))|((first|refine qd ?_ ?_|refine qc ?_ ?_|refine xsC ?_ ?_);all_goals (intro hc;have hp:=hc;try simp at hp;try (exfalso;omega)))|refine qO ?_ ?_)
     all_goals try (exfalso;omega)
     refine ⟨t.length - (j + 1),_,by omega,qC (τ:=⟨[(0,.os 0 0 t.length),(1,.clo (.func g) [] cap),(5,.v (.int .i64 ((j4 p (t.take (j + 1))).length:Int))),(6,.v (.int .i64 ((j + 1:Nat):Int)))],[(0,.own false 4 (List.map Ent.row (E.set i t[j])))],1⟩) [] rfl ?gts ?ghs,j + 1,(E.set i t[j]),by omega,by omega,rfl,(by rw [List.length_set];exact hEl),(by rw [hlen1];exact hset),hdr,rfl⟩;(case gts=>(repeat (first|exact qg|refine qn ?_|refine ye ?_|refine vj ?_|refine qS ?_ ?_));all_goals (rw [hlen1]));(case ghs=>(repeat (first|exact qj|refine yA ?_|refine q9 ?_ ?_));all_goals (rw [List.map_set];rfl))
  obtain rfl:j = t.length:=by omega
  rw [List.take_length] at *
  repeat' (first|refine qm ?_|(first|(refine qel ?_)|(refine qg8 ?_))|((first|refine qd ?_ ?_|refine qc ?_ ?_|refine xsC ?_ ?_);all_goals (intro hc;have hp:=hc;try simp at hp;try (exfalso;omega)))|refine qO ?_ ?_)
  all_goals try (exfalso;omega)
  apply qfh (C:=C1) 0 (j4 p t).length
  case hn=>rfl
  case hr =>
   refine Eq.trans (b:=(j4 p t).map Ent.row) ?_ rfl
   rw [List.append_assoc,List.take_append_of_le_length (by simp;omega),Nat.zero_add,List.take_take,Nat.min_self, ← List.map_take,hEt]
  (apply jH (rs:=[.tmp 4]) [] 1;(case hr=>(repeat (first|exact jp|(apply jq;rfl)|(apply jg;rfl;rfl;rfl;rfl;rfl))));(case hL=>rfl);(case hh=>(repeat (first|exact qj|refine yA ?_|refine q9 ?_ ?_));all_goals trace_state);(case hi=>first|exact (rfl:_ = ([]:List (Nat × Nat)))|exact (rfl:_ = [((0:Nat),(0:Nat))])|exact (rfl:_ = [((0:Nat),(0:Nat)),(1,1)]));(case hz=>first|rfl|(simp [j6,AV.ren,AV.ren.renL,jD,qR,jA];done)|(simp [j6,AV.ren,AV.ren.renL,jD,qR,jA, *];done)|(simp [j6,AV.ren,AV.ren.renL,jD,qR,jA];omega)))
def zV (p:qQ) (x:Ent):Bool:=inB x.path p
theorem qaJ (x:Ent) (p:qQ) (hp:p.length ≤ 140737488355328):yO C.P 152 [.agg x.row,.fp [[.v (str p)]] 0 0] (.v (.bool (zV p x))):=by
 have hin:=qaH x.path p hp
 refine qa Tryz.func152 rfl _ Tryz.ntmps152 (Nat.le_of_ble_eq_true rfl) _ Tryz.results152 0 rfl rfl ?_
 repeat' (first|refine qm ?_|(first|refine jc Tryz.func104 (hin ..) ?_)|((first|refine xsC ?_ ?_);all_goals (intro hc;have hp:=hc;try simp at hp;try (exfalso;omega)))|refine qO ?_ ?_)
 all_goals (apply jB;rfl;rfl)
theorem ZF (t:List Ent) (p:qQ) (hl:t.length ≤ 1000000) (hpl:p.length ≤ 140737488355328) :
  qW C1.P 123 [.os 0 0 t.length,.v (str p)] [.own false 4 (t.map Ent.row)] (.os 0 0 (j4 (zV p) t).length) [.own false 4 ((j4 (zV p) t).map Ent.row)]:=by
 have hdel:=Kr (zV p) 152 (j1 Tryz.func152 rfl rfl) [.fp [[.v (str p)]] 0 0] rfl t hl (fun x _=>qaJ x p hpl)
 refine qa (C:=C1) Tryz.func123 rfl _ Tryz.ntmps123 (Nat.le_of_ble_eq_true rfl) _ Tryz.results123 1 rfl rfl ?_
 (repeat apply kW);apply vS;(repeat' (first|apply kh|refine qcK ?_|refine qcH ?_|refine qfF ?_|refine qfC ?_|refine qcI ?_|refine qcL ?_|refine qcJ ?_|refine qfE ?_|refine qha ?_|refine qfG ?_|refine qfB ?_|refine qg9 ?_|refine qfD ?_|refine qhb ?_|refine qg7 ?_|refine qek ?_|refine qfz ?_|refine W4 ?_|(first|fail)|refine Kd ?_|refine Xp ?_|refine Xo ?_|refine JD ?_|refine JC ?_|refine ZW ?_|refine ZX ?_|refine Xn ?_|refine Xm ?_|((first|refine qd ?_ ?_|refine qc ?_ ?_);all_goals (intro hc;have hp:=hc;try simp at hp;try (exfalso;omega)))));show Awp _ _ _ _ _
 refine xsZ 3 1 ?_
 repeat' (first|refine qm ?_|(first|(apply jT Tryz.func151 rfl rfl;intro hIsFn;refine YR ([0]) 0 hIsFn (hdel ..) ?_))|((first|refine qd ?_ ?_|refine qc ?_ ?_|refine xsC ?_ ?_);all_goals (intro hc;have hp:=hc;try simp at hp;try (exfalso;omega)))|refine qO ?_ ?_)
 all_goals try (exfalso;omega)
 (apply jH (rs:=[.tmp 4]) [] 1;(case hr=>(repeat (first|exact jp|(apply jq;rfl)|(apply jg;rfl;rfl;rfl;rfl;rfl))));(case hL=>rfl);(case hh=>(repeat (first|exact qj|refine yA ?_|refine q9 ?_ ?_));all_goals trace_state);(case hi=>first|exact (rfl:_ = ([]:List (Nat × Nat)))|exact (rfl:_ = [((0:Nat),(0:Nat))])|exact (rfl:_ = [((0:Nat),(0:Nat)),(1,1)]));(case hz=>first|rfl|(simp [j6,AV.ren,AV.ren.renL,jD,qR,jA];done)|(simp [j6,AV.ren,AV.ren.renL,jD,qR,jA, *];done)|(simp [j6,AV.ren,AV.ren.renL,jD,qR,jA];omega)))
end Go.Proofs.YtnhpclmbhbblbaaGreatDoor
set_option linter.unusedSimpArgs false
set_option linter.unnecessarySimpa false
set_option linter.unusedVariables false
set_option maxHeartbeats 1000000
namespace Go.Proofs.YtnhpclmbhbblbaaGreatDoor
open Go.Ab Go.RowKit
set_option maxRecDepth 10000
attribute [local irreducible] Awp yl jE jl Red qX Go.Ab.Fin qW Rz vl jj ji ResOk jV jz yb jv
def xh (c:Chg) (v:Int) (x:Ent):Ent:=⟨c.to ++ x.path.drop c.path.length,x.fold,x.text,if x.path = c.path then v else x.ver⟩
def jF (t:List Ent) (c:Chg) (v:Int):List Ent:=(t.filter (zV c.path)).map (xh c v)
def jy (t:List Ent) (c:Chg) (v:Int):List Ent :=
 if c.kind = 1 then jN t ⟨c.path,true,[],v⟩
 else if c.kind = 2 then jN t ⟨c.path,false,c.text,v⟩
 else if c.kind = 4 then j4 (zV c.path) t
 else (jF t c v).foldl jN (j4 (zV c.path) t)
def xe (t:List Ent) (c:Chg):Bool:=decide (c.kind = 3) && (t.filter (zV c.path)).any fun x=>jZ (c.to ++ x.path.drop c.path.length)
def ym (t:List Ent) (c:Chg) (v:Int):Int:=if xe t c = true then 2 else if 60 < (jy t c v).length then 2 else 0
def Ke (e:Int) (n:Nat):AV:=if e = 0 then .tup [.os 1 0 n,.v (.int .i64 0)] else .tup [.sl true [],.v (.int .i64 e)]
theorem qeK (t:List Ent) (c:Chg) (v:Int) (hl:t.length ≤ 1000000) (hs:q4 jr t = true) (hk:c.kind = 1) (hlen:(jy t c v).length ≤ 1000001) :
  qW C1.P 97 [.os 0 0 t.length,.agg c.row,.v (.int .i64 v)] [.own false 4 (t.map Ent.row)] (Ke (ym t c v) (jy t c v).length) [.dead,.own false 4 ((jy t c v).map Ent.row)]:=by
 have hput:qW C1.P 122 [.os 0 0 t.length,.agg [.v (str c.path),.v (.bool true),.v (str []),.v (.int .i64 v)]] [.own false 4 (t.map Ent.row)] _ _:=qds t ⟨c.path,true,[],v⟩ hl hs
 have hD:jy t c v = jN t ⟨c.path,true,[],v⟩:=by simp [jy,hk]
 have hE:ym t c v = if 60 < (jy t c v).length then 2 else 0:=by simp [ym,xe,hk]
 rw [← hD] at hput
 generalize ym t c v = E at *
 generalize jy t c v = L at *
 by_cases h60:60 < L.length
 ·rw [if_pos h60] at hE
  subst hE
  refine qa (C:=C1) Tryz.func97 rfl _ Tryz.ntmps97 (Nat.le_of_ble_eq_true rfl) _ Tryz.results97 1 rfl rfl ?_
  repeat' (first|refine qm ?_|(first|(apply jT Tryz.func122 rfl rfl;intro hIsFn;refine k9 ([0]) 0 hIsFn (hput ..) ?_))|((first|refine qd ?_ ?_|refine qc ?_ ?_|refine xsC ?_ ?_);all_goals (intro hc;have hp:=hc;try simp at hp;try (exfalso;omega)))|refine qO ?_ ?_)
  all_goals try (exfalso;omega)
  (refine Wb (rs:=[.tmp 6,.tmp 7]) [(2,1)] 2 ?_;(apply xL 0;exact qJ rfl;(repeat (first|exact qj|refine yA ?_|refine q9 ?_ ?_)));all_goals trace_state)
 ·rw [if_neg h60] at hE
  subst hE
  refine qa (C:=C1) Tryz.func97 rfl _ Tryz.ntmps97 (Nat.le_of_ble_eq_true rfl) _ Tryz.results97 1 rfl rfl ?_
  repeat' (first|refine qm ?_|(first|(apply jT Tryz.func122 rfl rfl;intro hIsFn;refine k9 ([0]) 0 hIsFn (hput ..) ?_))|((first|refine qd ?_ ?_|refine qc ?_ ?_|refine xsC ?_ ?_);all_goals (intro hc;have hp:=hc;try simp at hp;try (exfalso;omega)))|refine qO ?_ ?_)
  all_goals try (exfalso;omega)
  (refine Wb (rs:=[.tmp 6,.tmp 7]) [(2,1)] 2 ?_;(apply xL 0;exact qJ rfl;(repeat (first|exact qj|refine yA ?_|refine q9 ?_ ?_)));all_goals trace_state)
theorem qeL (t:List Ent) (c:Chg) (v:Int) (hl:t.length ≤ 1000000) (hs:q4 jr t = true) (hk:c.kind = 2) (hlen:(jy t c v).length ≤ 1000001) :
  qW C1.P 97 [.os 0 0 t.length,.agg c.row,.v (.int .i64 v)] [.own false 4 (t.map Ent.row)] (Ke (ym t c v) (jy t c v).length) [.dead,.own false 4 ((jy t c v).map Ent.row)]:=by
 have hput:qW C1.P 122 [.os 0 0 t.length,.agg [.v (str c.path),.v (.bool false),.v (str c.text),.v (.int .i64 v)]] [.own false 4 (t.map Ent.row)] _ _:=qds t ⟨c.path,false,c.text,v⟩ hl hs
 have hD:jy t c v = jN t ⟨c.path,false,c.text,v⟩:=by simp [jy,hk]
 have hE:ym t c v = if 60 < (jy t c v).length then 2 else 0:=by simp [ym,xe,hk]
 rw [← hD] at hput
 generalize ym t c v = E at *
 generalize jy t c v = L at *
 by_cases h60:60 < L.length
 ·rw [if_pos h60] at hE
  subst hE
  refine qa (C:=C1) Tryz.func97 rfl _ Tryz.ntmps97 (Nat.le_of_ble_eq_true rfl) _ Tryz.results97 1 rfl rfl ?_
  repeat' (first|refine qm ?_|(first|(apply jT Tryz.func122 rfl rfl;intro hIsFn;refine k9 ([0]) 0 hIsFn (hput ..) ?_))|((first|refine qd ?_ ?_|refine qc ?_ ?_|refine xsC ?_ ?_);all_goals (intro hc;have hp:=hc;try simp at hp;try (exfalso;omega)))|refine qO ?_ ?_)
  all_goals try (exfalso;omega)
  (refine Wb (rs:=[.tmp 6,.tmp 7]) [(2,1)] 2 ?_;(apply xL 0;exact qJ rfl;(repeat (first|exact qj|refine yA ?_|refine q9 ?_ ?_)));all_goals trace_state)
 ·rw [if_neg h60] at hE
  subst hE
  refine qa (C:=C1) Tryz.func97 rfl _ Tryz.ntmps97 (Nat.le_of_ble_eq_true rfl) _ Tryz.results97 1 rfl rfl ?_
  repeat' (first|refine qm ?_|(first|(apply jT Tryz.func122 rfl rfl;intro hIsFn;refine k9 ([0]) 0 hIsFn (hput ..) ?_))|((first|refine qd ?_ ?_|refine qc ?_ ?_|refine xsC ?_ ?_);all_goals (intro hc;have hp:=hc;try simp at hp;try (exfalso;omega)))|refine qO ?_ ?_)
  all_goals try (exfalso;omega)
  (refine Wb (rs:=[.tmp 6,.tmp 7]) [(2,1)] 2 ?_;(apply xL 0;exact qJ rfl;(repeat (first|exact qj|refine yA ?_|refine q9 ?_ ?_)));all_goals trace_state)
theorem qeM (t:List Ent) (c:Chg) (v:Int) (hl:t.length ≤ 1000000) (hk:c.kind = 4) (hpl:c.path.length ≤ 140737488355328) :
  qW C1.P 97 [.os 0 0 t.length,.agg c.row,.v (.int .i64 v)] [.own false 4 (t.map Ent.row)] (Ke (ym t c v) (jy t c v).length) [.dead,.own false 4 ((jy t c v).map Ent.row)]:=by
 have hwo:=ZF t c.path hl hpl
 have hD:jy t c v = j4 (zV c.path) t:=by simp [jy,hk]
 have hE:ym t c v = if 60 < (jy t c v).length then 2 else 0:=by simp [ym,xe,hk]
 have hlen:(jy t c v).length ≤ t.length:=by rw [hD];exact List.length_filter_le ..
 rw [← hD] at hwo
 generalize ym t c v = E at *
 generalize jy t c v = L at *
 by_cases h60:60 < L.length
 ·rw [if_pos h60] at hE
  subst hE
  refine qa (C:=C1) Tryz.func97 rfl _ Tryz.ntmps97 (Nat.le_of_ble_eq_true rfl) _ Tryz.results97 1 rfl rfl ?_
  repeat' (first|refine qm ?_|(first|(apply jT Tryz.func123 rfl rfl;intro hIsFn;refine YR ([0]) 0 hIsFn (hwo ..) ?_))|((first|refine qd ?_ ?_|refine qc ?_ ?_|refine xsC ?_ ?_);all_goals (intro hc;have hp:=hc;try simp at hp;try (exfalso;omega)))|refine qO ?_ ?_)
  all_goals try (exfalso;omega)
  apply YD (C:=C1) 0 0 L.length
  case hi=>rfl
  case hn=>rfl
  case hr=>exact (List.take_of_length_le (by simp))
  case hnn=>exact Nat.ne_of_beq_eq_false rfl
  case hnx=>exact Nat.le_of_ble_eq_true rfl
  (refine Wb (rs:=[.tmp 6,.tmp 7]) [(2,1)] 2 ?_;(apply xL 0;exact qJ rfl;(repeat (first|exact qj|refine yA ?_|refine q9 ?_ ?_)));all_goals trace_state)
 ·rw [if_neg h60] at hE
  subst hE
  refine qa (C:=C1) Tryz.func97 rfl _ Tryz.ntmps97 (Nat.le_of_ble_eq_true rfl) _ Tryz.results97 1 rfl rfl ?_
  repeat' (first|refine qm ?_|(first|(apply jT Tryz.func123 rfl rfl;intro hIsFn;refine YR ([0]) 0 hIsFn (hwo ..) ?_))|((first|refine qd ?_ ?_|refine qc ?_ ?_|refine xsC ?_ ?_);all_goals (intro hc;have hp:=hc;try simp at hp;try (exfalso;omega)))|refine qO ?_ ?_)
  all_goals try (exfalso;omega)
  apply YD (C:=C1) 6 0 L.length
  case hi=>rfl
  case hn=>rfl
  case hr=>exact (List.take_of_length_le (by simp))
  case hnn=>exact Nat.ne_of_beq_eq_false rfl
  case hnx=>exact Nat.le_of_ble_eq_true rfl
  (refine Wb (rs:=[.tmp 6,.tmp 7]) [(2,1)] 2 ?_;(apply xL 0;exact qJ rfl;(repeat (first|exact qj|refine yA ?_|refine q9 ?_ ?_)));all_goals trace_state)
end Go.Proofs.YtnhpclmbhbblbaaGreatDoor
set_option linter.unusedSimpArgs false
set_option linter.unnecessarySimpa false
set_option linter.unusedVariables false
namespace Go.Proofs.YtnhpclmbhbblbaaGreatDoor
open Go.Op
theorem qbF {a b:qQ} (h:bytesLess a b = true):bytesLess b a = false:=by
 cases e:bytesLess b a
 ·rfl
 ·have:=ky h e
  rw [zj] at this;cases this
theorem Yr {a b:qQ} (h:bytesLess a b = true):¬ a = b:=fun e=>by rw [e,zj] at h;cases h
theorem qgy {a b:qQ} (h1:bytesLess a b = false) (h2:¬ a = b):bytesLess b a = true:=by
 rcases w4 a b with ⟨h,_,_⟩|⟨h,_,_⟩|⟨h,_,_⟩
 ·rw [h] at h1;cases h1
 ·exact absurd h h2
 ·exact h
theorem Zk (p:qQ) : ∀ {t:List Ent},t.Pairwise (fun a b=>bytesLess a.path b.path = true) → ∃ A M Z,t = A ++ (M ++ Z) ∧ y0 t p = A.length ∧ (∀ a,a ∈ A → bytesLess a.path p = true) ∧ (∀ z,z ∈ Z → bytesLess p z.path = true) ∧
  ((jW t p = true ∧ ∃ x,M = [x] ∧ x.path = p) ∨ (jW t p = false ∧ M = []))
 | [],_=>⟨[],[],[],rfl,rfl,nofun,nofun,.inr ⟨rfl,rfl⟩⟩
 | x :: l,h=>by
   obtain ⟨h1,h2⟩:=List.pairwise_cons.1 h
   by_cases hx:bytesLess x.path p = true
   ·obtain ⟨A,M,Z,rfl,hp,hA,hZ,hM⟩:=Zk p h2
    have hp' : y0 (x :: (A ++ (M ++ Z))) p = A.length + 1:=by
     simp only [y0,List.takeWhile_cons,hx,if_true,List.length_cons] at hp ⊢;omega
    have hh:jW (x :: (A ++ (M ++ Z))) p = jW (A ++ (M ++ Z)) p:=by
     simp [jW,atP,Yr hx]
    refine ⟨x :: A,M,Z,rfl,hp',fun a ha=>?_,hZ,by rw [hh];exact hM⟩
    rcases List.mem_cons.1 ha with rfl|ha
    ·exact hx
    ·exact hA a ha
   ·have hx:bytesLess x.path p = false:=by simpa using hx
    have hp:y0 (x :: l) p = 0:=by simp [y0,List.takeWhile_cons,hx]
    by_cases e:x.path = p
    ·subst e
     exact ⟨[],[x],l,rfl,hp,nofun,fun z hz=>h1 z hz,.inl ⟨by simp [jW,atP],x,rfl,rfl⟩⟩
    ·have hg:=qgy hx e
     have hall : ∀ z,z ∈ x :: l → bytesLess p z.path = true:=fun z hz=>by
      rcases List.mem_cons.1 hz with rfl|hz
      ·exact hg
      ·exact ky hg (h1 z hz)
     refine ⟨[],[],x :: l,rfl,hp,nofun,hall,.inr ⟨List.any_eq_false.2 fun z hz=>?_,rfl⟩⟩
     have:=Yr (hall z hz)
     simp only [atP,decide_eq_true_eq]
     exact fun e=>this e.symm
theorem QR {t A M Z:List Ent} {x:Ent} (h:t = A ++ (M ++ Z)) (hp:y0 t x.path = A.length) (hM:(jW t x.path = true ∧ ∃ y,M = [y] ∧ y.path = x.path) ∨ (jW t x.path = false ∧ M = [])):jN t x = A ++ ([x] ++ Z):=by
 unfold jN
 rw [hp]
 have h1:t.take A.length = A:=by rw [h];simp
 rw [h1]
 rcases hM with ⟨hh,y,rfl,_⟩|⟨hh,rfl⟩
 ·simp only [hh,if_true];rw [h];simp
 ·simp only [hh,Bool.false_eq_true,if_false];rw [h];simp
theorem wE (t:List Ent) (x:Ent):(jN t x).length ≤ t.length + 1:=by
 unfold jN;split<;>simp<;>omega
theorem yG {t:List Ent} {x:Ent} (hs:q4 jr t = true):q4 jr (jN t x) = true:=by
 have hl:=xB.1 hs
 obtain ⟨A,M,Z,h,hp,hA,hZ,hM⟩:=Zk x.path hl
 rw [QR h hp hM]
 refine xB.2 ?_
 have hsub:(A ++ Z).Sublist t:=by
  rw [h];exact List.Sublist.append_left (List.sublist_append_right _ _) _
 obtain ⟨pA,pZ,pAZ⟩:=List.pairwise_append.1 (hl.sublist hsub)
 refine List.pairwise_append.2 ⟨pA,List.pairwise_cons.2 ⟨fun z hz=>hZ z hz,pZ⟩,fun a ha b hb=>?_⟩
 rcases List.mem_cons.1 hb with rfl|hb
 ·exact hA a ha
 ·exact pAZ a ha b hb
theorem kc {p:Ent → Bool} {t:List Ent} (hs:q4 jr t = true):q4 jr (j4 p t) = true:=xB.2 ((xB.1 hs).sublist List.filter_sublist)
theorem kw : ∀ {l t:List Ent},q4 jr t = true → q4 jr (l.foldl jN t) = true
 | [],_,h=>h
 | x :: l,t,h=>kw (l:=l) (yG h)
theorem QQ : ∀ (l t:List Ent),(l.foldl jN t).length ≤ t.length + l.length
 | [],_=>by simp
 | x :: l,t=>by
   have h1:=QQ l (jN t x)
   have h2:=wE t x
   simp only [List.foldl_cons,List.length_cons];omega
theorem qai {l t:List Ent} {i:Nat} (h:i < l.length):(l.take (i + 1)).foldl jN t = jN ((l.take i).foldl jN t) l[i]:=by
 rw [List.take_succ_eq_append_getElem h,List.foldl_append];rfl
theorem qV {p:qQ} (h:qy p = 0):p.length ≤ 80:=by
 have:jZ p = false:=by
  unfold qy at h
  split at h
  ·split at h
   ·exact absurd h (by decide)
   ·rename_i h2;simpa using h2
  ·exact absurd h (by decide)
 simp [jZ] at this;omega
theorem Jg {p f t:qQ} (hp:qy p = 0) (hf:qy f = 0) (ht:qy t = 0) (hi:inB p f = true):v6 p f t = if jZ (t ++ p.drop f.length) = true then 2 else 0:=by
 unfold v6
 rw [if_pos (by simp [xb,hp,hf,ht]),if_pos hi]
theorem Xq {t:List Ent} {c:Chg} {v:Int} {i:Nat} (h:i < t.length):jF (t.take (i + 1)) c v = if inB t[i].path c.path = true then jF (t.take i) c v ++ [xh c v t[i]] else jF (t.take i) c v:=by
 unfold jF
 rw [List.take_succ_eq_append_getElem h,List.filter_append]
 cases hs:inB t[i].path c.path<;>simp [hs,zV]
end Go.Proofs.YtnhpclmbhbblbaaGreatDoor
set_option linter.unusedSimpArgs false
set_option linter.unnecessarySimpa false
set_option linter.unusedVariables false
namespace Go.Proofs.YtnhpclmbhbblbaaGreatDoor
open Go.Op
def x9 (x:Ent) (s:List Ent × Bool) (y:Ent):List Ent × Bool :=
 ((if s.2 = false ∧ bytesLess y.path x.path = false then s.1 ++ [x] else s.1) ++ (if y.path = x.path then [] else [y]),s.2 || !bytesLess y.path x.path)
def xd (t:List Ent) (x:Ent):List Ent × Bool:=t.foldl (x9 x) ([],false)
def XA (t:List Ent) (x:Ent):List Ent:=if (xd t x).2 = true then (xd t x).1 else (xd t x).1 ++ [x]
theorem Kc {t:List Ent} {x:Ent} {i:Nat} (h:i < t.length):xd (t.take (i + 1)) x = x9 x (xd (t.take i) x) t[i]:=by
 unfold xd
 rw [List.take_succ_eq_append_getElem h,List.foldl_append];rfl
theorem qaj (t:List Ent) (x:Ent):(xd t x).1.length ≤ 2 * t.length:=by
 have : ∀ (l:List Ent) (s:List Ent × Bool),(l.foldl (x9 x) s).1.length ≤ s.1.length + 2 * l.length:=by
  intro l
  induction l with
  | nil=>intro s;simp
  | cons y l ih =>
    intro s
    have h1:=ih (x9 x s y)
    have hq:(x9 x s y).1.length ≤ s.1.length + 2:=by
     unfold x9
     simp only [List.length_append]
     split<;>split<;>simp
    simp only [List.foldl_cons,List.length_cons]
    omega
 have:=this t ([],false)
 simpa [xd] using this
theorem qak {x:Ent} : ∀ {A:List Ent} {s:List Ent},(∀ a,a ∈ A → bytesLess a.path x.path = true) → A.foldl (x9 x) (s,false) = (s ++ A,false)
 | [],s,_=>by simp
 | a :: A,s,h=>by
   have ha:=h a (by simp)
   have hs:x9 x (s,false) a = (s ++ [a],false):=by
    simp [x9,ha,Yr ha]
   rw [List.foldl_cons,hs,qak fun y hy=>h y (by simp [hy])]
   simp
theorem Xz {x:Ent} : ∀ {Z:List Ent} {s:List Ent},(∀ z,z ∈ Z → bytesLess x.path z.path = true) → Z.foldl (x9 x) (s,true) = (s ++ Z,true)
 | [],s,_=>by simp
 | z :: Z,s,h=>by
   have hz:=h z (by simp)
   have hs:x9 x (s,true) z = (s ++ [z],true):=by
    have:¬ z.path = x.path:=fun e=>Yr hz e.symm
    simp [x9,this]
   rw [List.foldl_cons,hs,Xz fun y hy=>h y (by simp [hy])]
   simp
theorem Qk {t:List Ent} {x:Ent} (hs:q4 jr t = true):XA t x = jN t x:=by
 obtain ⟨A,M,Z,h,hp,hA,hZ,hM⟩:=Zk x.path (xB.1 hs)
 rw [QR h hp hM]
 have h1:xd t x = Z.foldl (x9 x) (M.foldl (x9 x) (A,false)):=by
  unfold xd
  rw [h,List.foldl_append,List.foldl_append,qak hA,List.nil_append]
 rcases hM with ⟨_,y,rfl,hy⟩|⟨_,rfl⟩
 ·have h2:x9 x (A,false) y = (A ++ [x],true):=by simp [x9,hy,zj]
  rw [List.foldl_cons,List.foldl_nil,h2,Xz hZ] at h1
  simp [XA,h1]
 ·rw [List.foldl_nil] at h1
  cases Z with
  | nil=>simp at h1;simp [XA,h1]
  | cons z Z =>
    have hz:=hZ z (by simp)
    have h2:x9 x (A,false) z = (A ++ [x] ++ [z],true):=by
     have h3:¬ z.path = x.path:=fun e=>Yr hz e.symm
     simp [x9,qbF hz,h3]
    rw [List.foldl_cons,h2,Xz fun y hy=>hZ y (by simp [hy])] at h1
    simp [XA,h1]
end Go.Proofs.YtnhpclmbhbblbaaGreatDoor
