import Derived.Test.YtamejbkifpjhiaaGreatDoorMz9
import Derived.Test.YtamejbkifpjhiaaGreatDoorMz2
set_option linter.unusedSimpArgs false
set_option linter.unnecessarySimpa false
set_option linter.unusedVariables false
set_option maxHeartbeats 1000000
namespace Go.Proofs.YtamejbkifpjhiaaGreatDoor
open Go.Ab Go.RowKit
set_option maxRecDepth 10000
attribute [local irreducible] Awp yH jH jw Red ja Go.Ab.Fin qZ Rz vn jr jp ResOk j3 jC yC jA
theorem Yg (l:List Ent) (hl:l.length ≤ 1000000) :
  qZ C.P 41 [qa l] [] (.os 0 0 l.length) [.own false 4 (l.map Ent.row)]:=by
 by_cases h0:l = []
 ·subst h0
  refine qc Tryz.func41 rfl _ Tryz.ntmps41 (Nat.le_of_ble_eq_true rfl) _ Tryz.results41 0 rfl rfl ?_
  repeat' (first|refine qn ?_|(first|(refine jL ?_)|(refine VY ?_)|(refine qfu ?_))|((first|refine xsC ?_ ?_);all_goals (intro hc;have hp:=hc;try simp at hp;try (exfalso;omega)))|refine qX ?_ ?_)
  · (refine xy (C:=C) (ye (C:=C) 2 4 rfl (Nat.zero_le _)) ?_)
    (refine QV (rs:=[.tmp 2]) [(0,0)] 1 ?_;(repeat (first|exact qj|refine j4 ?_|refine q6 ?_ ?_));all_goals skip)
  · (refine QV (rs:=[.tmp 2]) [(0,0)] 1 ?_;(repeat (first|exact qj|refine j4 ?_|refine q6 ?_ ?_));all_goals skip)
 ·refine qc Tryz.func41 rfl _ Tryz.ntmps41 (Nat.le_of_ble_eq_true rfl) _ Tryz.results41 0 rfl rfl ?_
  repeat' (first|refine qn ?_|(first|(refine jL ?_)|(refine VY ?_)|(apply qi;apply qct;rfl;exact (fun h=>h0 (List.map_eq_nil_iff.1 h));rfl;rfl;(first|exact .inl rfl|exact .inr rfl);exact nle rfl))|((first|refine xsC ?_ ?_);all_goals (intro hc;have hp:=hc;try simp at hp;try (exfalso;omega)))|refine qX ?_ ?_)
  (refine QV (rs:=[.tmp 2]) [(0,0)] 1 ?_;(repeat (first|exact qj|refine j4 ?_|refine q6 ?_ ?_));all_goals skip)
theorem K9 (l:List Ent) (g:Ent) (hl:l.length ≤ 1000000) :
  qZ C1.P 166 [.os 0 0 l.length,.v (.int .i64 l.length),.sl false [g.row]] [.own false 4 (l.map Ent.row)] (.os 1 0 (l.length + 1)) [.dead,.own false 4 ((l ++ [g]).map Ent.row)]:=by
 refine qc (C:=C1) Tryz.func166 rfl _ Tryz.ntmps166 (Nat.le_of_ble_eq_true rfl) _ Tryz.results166 1 rfl rfl ?_
 repeat' (first|refine qn ?_|(first|(refine qbW ?_)|(refine yi ?_))|((first|refine qf ?_ ?_|refine qe ?_ ?_|refine xsC ?_ ?_);all_goals (intro hc;have hp:=hc;try simp at hp;try (exfalso;omega)))|refine qX ?_ ?_)
 (refine QV (rs:=[.tmp 6]) [(1,1)] 2 ?_;(apply xn 0;exact qN rfl;(repeat (first|exact qj|refine j4 ?_|refine q6 ?_ ?_)));all_goals trace_state)
theorem qff {α:Type} (R J Z:List α) (x:α) {i a b c d:Nat} (hi:i ≤ R.length) (hJ:J.length = 1 + Z.length) (ha:a = i) (hb:b = i + 1) (hc:c = i + 1) (hd:d = i + 1 + Z.length) :
  ((R.take i ++ J).take a ++ [x] ++ (R.take i ++ J).drop b).take c ++ Z ++ ((R.take i ++ J).take a ++ [x] ++ (R.take i ++ J).drop b).drop d = R.take i ++ ([x] ++ Z):=by
 subst ha;subst hb;subst hc;subst hd
 have h1:(R.take a ++ J).take a = R.take a:=by rw [List.take_append_of_le_length (by simp;omega),List.take_of_length_le (by simp;omega)]
 have h2:(R.take a ++ [x] ++ (R.take a ++ J).drop (a + 1)).take (a + 1) = R.take a ++ [x]:=by
  rw [List.take_append_of_le_length (by simp;omega),List.take_of_length_le (by simp;omega)]
 have h3:(R.take a ++ [x] ++ (R.take a ++ J).drop (a + 1)).drop (a + 1 + Z.length) = []:=List.drop_of_length_le (by simp;omega)
 rw [h1,h2,h3];simp
theorem qgm {α:Type} (R Z:List α) (x:α) {i a b c d m:Nat} (hi:i + 1 ≤ R.length) (ha:a = i + 1) (hc:c = i) (hd:d = i + 1) (hm:m = i + 1 + Z.length) :
  ((R.take a ++ Z ++ R.drop b).take c ++ [x] ++ (R.take a ++ Z ++ R.drop b).drop d).take m = R.take i ++ ([x] ++ Z):=by
 subst ha;subst hc;subst hd;subst hm
 have h1:(R.take (c + 1) ++ Z ++ R.drop b).take c = R.take c:=by
  rw [List.append_assoc,List.take_append_of_le_length (by simp;omega),List.take_take,Nat.min_eq_left (by omega)]
 have h2:(R.take (c + 1) ++ Z ++ R.drop b).drop (c + 1) = Z ++ R.drop b:=by
  rw [List.append_assoc,List.drop_append_of_le_length (by simp;omega),List.drop_of_length_le (by simp;omega),List.nil_append]
 rw [h1,h2, ← List.append_assoc,List.take_append_of_le_length (by simp;omega),List.take_of_length_le (by simp;omega),List.append_assoc]
theorem qav (l:List Ent) (g:Ent) (i:Nat) (hi:i < l.length) (hl:l.length ≤ 1000000) :
  qZ C1.P 166 [.os 0 0 l.length,.v (.int .i64 (i:Int)),.sl false [g.row]] [.own false 4 (l.map Ent.row)] (.os 1 0 (l.length + 1)) [.dead,.own false 4 ((l.take i ++ ([g] ++ l.drop i)).map Ent.row)]:=by
 refine qc (C:=C1) Tryz.func166 rfl _ Tryz.ntmps166 (Nat.le_of_ble_eq_true rfl) _ Tryz.results166 1 rfl rfl ?_
 refine qe1 0 4 (l.map Ent.row) rfl fun cap hcap=>?_
 rw [List.length_map] at hcap
 have hRt:(l.map Ent.row ++ z7 4 (cap - (l.map Ent.row).length)).take l.length = l.map Ent.row:=by
  rw [List.take_append_of_le_length (by simp),List.take_of_length_le (by simp)]
 have hRl:l.length ≤ (l.map Ent.row ++ z7 4 (cap - (l.map Ent.row).length)).length:=by simp
 generalize l.map Ent.row ++ z7 4 (cap - (l.map Ent.row).length) = R at hRt hRl ⊢
 have hcut:(R.drop i).take (l.length - i) = (l.drop i).map Ent.row:=by rw [← List.drop_take,hRt,List.map_drop]
 have hti:R.take i = (l.take i).map Ent.row:=by rw [List.map_take, ← hRt,List.take_take,Nat.min_eq_left (by omega)]
 have hck : ∀ row,row ∈ (l.drop i).map Ent.row → row.length = 4:=fun row hr=>by obtain ⟨x,_,rfl⟩:=List.mem_map.1 hr;rfl
 have hcl : ∀ row,row ∈ (l.drop i).map Ent.row → row.all yo = true:=fun row hr=>by obtain ⟨x,_,rfl⟩:=List.mem_map.1 hr;rfl
 repeat' (first|refine qn ?_|(first|(refine qbW ?_)|(apply qi;apply qcp;(case hx=>rfl);(case hn=>rfl);(case hT=>rfl);(case he=>rfl);(case hN=>exact nle rfl))|(apply xe;apply VB;(case hx=>rfl);(case hT=>rfl);(case he=>rfl);(case hE=>rfl);(case hn=>rfl);(case hl=>(first|omega|(simp;done)|(simp only [List.length_cons,List.length_nil,List.length_map];omega)|(simp;omega)));(case hy=>exact congrArg (fun z=>AV.v (Value.int IntKind.i64 z)) (show ((l.length + 1:Nat):Int) - (i:Int) = ((l.length + 1 - i:Nat):Int) from by omega));(case hxT=>rfl);(case hxk=>rfl);(case hz=>rfl);(case hs0=>exact Nat.ne_of_beq_eq_false rfl);(case hg=>omega);(case hsz=>(first|omega|(simp;done)|(simp only [List.length_cons,List.length_nil,List.length_map];omega)|(simp;omega)));(case hlen=>(first|omega|(simp;done)|(simp only [List.length_cons,List.length_nil,List.length_map];omega)|(simp;omega)));(case hN=>exact nle rfl))|(apply qi;apply Ws;exact Tryz.func192;(case hname=>rfl);(case hb=>rfl);(case hnx=>rfl);(case hex=>rfl);(case hT=>rfl);(case he=>rfl);(case hE=>rfl);(case hx=>rfl);(case hy=>rfl);(case hm=>rfl);(case hk=>exact Nat.ne_of_beq_eq_false rfl);(case hrw=>intro row hrow;rw [List.mem_singleton.1 hrow];exact Nat.succ_ne_zero _);(case hN=>exact nle rfl))|(apply Jd;apply VC;(case hx=>rfl);(case hT=>rfl);(case he=>rfl);(case hE=>rfl);(case hn=>rfl);(case hsrc=>exact qfF (v6 rfl rfl));(case hmin=>exact Nat.min_eq_left (by (first|omega|(simp;done)|(simp only [List.length_cons,List.length_nil,List.length_map];omega)|(simp;omega))));(case hfit=>(first|omega|(simp;done)|(simp only [List.length_cons,List.length_nil,List.length_map];omega)|(simp;omega)));(case hN=>exact nle rfl))|(apply Jd;apply VC;(case hx=>rfl);(case hT=>rfl);(case he=>rfl);(case hE=>rfl);(case hn=>rfl);(case hsrc=>exact qeA (cnt:=l.length - i) rfl (List.mem_singleton.2 rfl) rfl (by omega) (by omega) (by first|exact hcut|simpa using hcut) hck hcl);(case hmin=>(first|exact (Nat.min_eq_left (by (first|omega|(simp;done)|(simp only [List.length_cons,List.length_nil,List.length_map];omega)|(simp;omega)))).trans (by (first|omega|(simp;done)|(simp only [List.length_cons,List.length_nil,List.length_map];omega)|(simp;omega)))|exact (Nat.min_eq_right (by (first|omega|(simp;done)|(simp only [List.length_cons,List.length_nil,List.length_map];omega)|(simp;omega)))).trans (by (first|omega|(simp;done)|(simp only [List.length_cons,List.length_nil,List.length_map];omega)|(simp;omega)))));(case hfit=>(first|omega|(simp;done)|(simp only [List.length_cons,List.length_nil,List.length_map];omega)|(simp;omega)));(case hN=>exact nle rfl)))|((first|refine qf ?_ ?_|refine qe ?_ ?_|refine xsC ?_ ?_);all_goals (intro hc;have hp:=hc;try simp at hp;try (exfalso;omega)))|refine qX ?_ ?_)
 all_goals try (exfalso;omega)
 ·have hrow:=qff R (z7 4 (l.length + 1 - i)) ((l.drop i).map Ent.row) g.row (i:=i) (a:=0 + i) (b:=0 + i + 1) (c:=0 + (i + 1)) (d:=0 + (i + 1) + ((l.drop i).map Ent.row).length) (by omega) (by simp;omega) (by omega) (by omega) (by omega) (by omega)
  (apply jM (rs:=[.tmp 6]) [(1,1)] 2;(case hr=>(repeat (first|exact js|(apply jt;rfl)|(apply jl;rfl;rfl;rfl;rfl;rfl))));(case hL=>rfl);(case hh=>(apply xn 0;exact qN rfl;(repeat (first|exact qj|refine j4 ?_|refine q6 ?_ ?_)));all_goals (refine hrow.trans ?_;rw [hti];simp));(case hi=>first|exact (rfl:_ = ([]:List (Nat × Nat)))|exact (rfl:_ = [((0:Nat),(0:Nat))])|exact (rfl:_ = [((0:Nat),(0:Nat)),(1,1)]));(case hz=>first|rfl|(simp [yh,AV.ren,AV.ren.renL,jF,qS,jD];done)|(simp [yh,AV.ren,AV.ren.renL,jF,qS,jD, *];done)|(simp [yh,AV.ren,AV.ren.renL,jF,qS,jD];omega)))
 ·have hrow:=qgm R ((l.drop i).map Ent.row) g.row (i:=i) (a:=0 + 0 + (i + 1)) (b:=0 + 0 + (i + 1) + ((l.drop i).map Ent.row).length) (c:=0 + 0 + i) (d:=0 + 0 + i + 1) (m:=l.length + 1) (by omega) (by omega) (by omega) (by omega) (by simp;omega)
  have hrow:=hrow.trans (show _ = (l.take i ++ ([g] ++ l.drop i)).map Ent.row from by rw [hti];simp)
  apply Yz (C:=C1) 6 0 (l.length + 1)
  case hi=>rfl
  case hn=>rfl
  case hr=>exact hrow
  case hnn=>exact Nat.ne_of_beq_eq_false rfl
  case hnx=>exact Nat.le_of_ble_eq_true rfl
  (apply jM (rs:=[.tmp 6]) [(1,1)] 2;(case hr=>(repeat (first|exact js|(apply jt;rfl)|(apply jl;rfl;rfl;rfl;rfl;rfl))));(case hL=>rfl);(case hh=>(apply xn 0;exact qN rfl;(repeat (first|exact qj|refine j4 ?_|refine q6 ?_ ?_)));all_goals trace_state);(case hi=>first|exact (rfl:_ = ([]:List (Nat × Nat)))|exact (rfl:_ = [((0:Nat),(0:Nat))])|exact (rfl:_ = [((0:Nat),(0:Nat)),(1,1)]));(case hz=>first|rfl|(simp [yh,AV.ren,AV.ren.renL,jF,qS,jD];done)|(simp [yh,AV.ren,AV.ren.renL,jF,qS,jD, *];done)|(simp [yh,AV.ren,AV.ren.renL,jF,qS,jD];omega)))
def jR (t:List Ent) (x:Ent):List Ent:=if j0 t x.path = true then t.take (xg t x.path) ++ ([x] ++ t.drop (xg t x.path + 1)) else t.take (xg t x.path) ++ ([x] ++ t.drop (xg t x.path))
theorem qds (t:List Ent) (x:Ent) (hl:t.length ≤ 1000000) (hs:qU jf t = true) :
  qZ C1.P 143 [.os 0 0 t.length,.agg x.row] [.own false 4 (t.map Ent.row)] (.os 1 0 (jR t x).length) [.dead,.own false 4 ((jR t x).map Ent.row)]:=by
 have hat:=KZ t x.path (by omega) hs
 cases hh:j0 t x.path with
 | true =>
   obtain ⟨hp0, -, -, -⟩:=zw hs hh
   have hL:jR t x = t.take (xg t x.path) ++ ([x] ++ t.drop (xg t x.path + 1)):=by simp [jR,hh]
   rw [hh] at hat
   generalize jR t x = L at hL ⊢
   generalize xg t x.path = p at hL hp0 hat
   have hlen:L.length = t.length:=by rw [hL];simp;omega
   have hrow:=jB (f:=Ent.row) hp0
   refine qc (C:=C1) Tryz.func143 rfl _ Tryz.ntmps143 (Nat.le_of_ble_eq_true rfl) _ Tryz.results143 1 rfl rfl ?_
   repeat' (first|refine qn ?_|(first|(apply qi;apply j9 ([0]);exact jW Tryz.func120 rfl rfl;apply hat;(case hz=>(repeat' (first|exact q5|apply qA|exact q4 rfl|exact yE|(apply jU;(case hn=>rfl);(case hl=>first|with_reducible rfl|(simp;done)|(simp [*];done)|omega);(case hp=>(first|assumption|exact jZ rfl|exact qK fun _=>rfl)))|apply jX|apply jO)));(case hfl=>rfl);(case hN=>exact nle rfl))|(refine xC ?_))|((first|refine qf ?_ ?_|refine qe ?_ ?_|refine xsC ?_ ?_);all_goals (intro hc;have hp:=hc;try simp at hp;try (exfalso;omega)))|refine qX ?_ ?_)
   all_goals try (exfalso;omega)
   apply Yz (C:=C1) 4 0 t.length
   case hi=>rfl
   case hn=>rfl
   case hr=>(show ((t.map Ent.row).set p x.row).take t.length = L.map Ent.row;rw [← List.map_set,hL,List.set_eq_take_append_cons_drop,if_pos hp0,List.take_of_length_le (by simp;omega)];rfl)
   case hnn=>exact Nat.ne_of_beq_eq_false rfl
   case hnx=>exact Nat.le_of_ble_eq_true rfl
   (apply jM (rs:=[.tmp 4]) [(2,1)] 2;(case hr=>(repeat (first|exact js|(apply jt;rfl)|(apply jl;rfl;rfl;rfl;rfl;rfl))));(case hL=>rfl);(case hh=>(apply xn 0;exact qN rfl;(repeat (first|exact qj|refine j4 ?_|refine q6 ?_ ?_)));all_goals trace_state);(case hi=>first|exact (rfl:_ = ([]:List (Nat × Nat)))|exact (rfl:_ = [((0:Nat),(0:Nat))])|exact (rfl:_ = [((0:Nat),(0:Nat)),(1,1)]));(case hz=>first|rfl|(simp [yh,AV.ren,AV.ren.renL,jF,qS,jD];done)|(simp [yh,AV.ren,AV.ren.renL,jF,qS,jD, *];done)|(simp [yh,AV.ren,AV.ren.renL,jF,qS,jD];omega)))
 | false =>
   have hL:jR t x = t.take (xg t x.path) ++ ([x] ++ t.drop (xg t x.path)):=by simp [jR,hh]
   have hple:=qfz t x.path
   rw [hh] at hat
   generalize jR t x = L at hL ⊢
   generalize xg t x.path = p at hL hple hat
   have hlen:L.length = t.length + 1:=by rw [hL];simp;omega
   by_cases hp0:p = t.length
   ·have hin:=K9 t x hl
    have hL2:L = t ++ [x]:=by rw [hL,hp0];simp
    rw [hp0] at hat
    refine qc (C:=C1) Tryz.func143 rfl _ Tryz.ntmps143 (Nat.le_of_ble_eq_true rfl) _ Tryz.results143 1 rfl rfl ?_
    repeat' (first|refine qn ?_|(first|(apply qi;apply j9 ([0]);exact jW Tryz.func120 rfl rfl;apply hat;(case hz=>(repeat' (first|exact q5|apply qA|exact q4 rfl|exact yE|(apply jU;(case hn=>rfl);(case hl=>first|with_reducible rfl|(simp;done)|(simp [*];done)|omega);(case hp=>(first|assumption|exact jZ rfl|exact qK fun _=>rfl)))|apply jX|apply jO)));(case hfl=>rfl);(case hN=>exact nle rfl))|(refine xC ?_)|(refine jL ?_)|(apply jo Tryz.func166 rfl rfl;intro hIsFn;refine kf ([0]) 0 hIsFn (hin ..) ?_))|((first|refine qf ?_ ?_|refine qe ?_ ?_|refine xsC ?_ ?_);all_goals (intro hc;have hp:=hc;try simp at hp;try (exfalso;omega)))|refine qX ?_ ?_)
    all_goals try (exfalso;omega)
    (apply jM (rs:=[.tmp 4]) [(2,1)] 2;(case hr=>(repeat (first|exact js|(apply jt;rfl)|(apply jl;rfl;rfl;rfl;rfl;rfl))));(case hL=>rfl);(case hh=>(apply xn 0;exact qN rfl;(repeat (first|exact qj|refine j4 ?_|refine q6 ?_ ?_)));all_goals (rw [hL2]));(case hi=>first|exact (rfl:_ = ([]:List (Nat × Nat)))|exact (rfl:_ = [((0:Nat),(0:Nat))])|exact (rfl:_ = [((0:Nat),(0:Nat)),(1,1)]));(case hz=>first|rfl|(simp [yh,AV.ren,AV.ren.renL,jF,qS,jD];done)|(simp [yh,AV.ren,AV.ren.renL,jF,qS,jD, *];done)|(simp [yh,AV.ren,AV.ren.renL,jF,qS,jD];omega)))
   ·have hin:=qav t x p (by omega) hl
    refine qc (C:=C1) Tryz.func143 rfl _ Tryz.ntmps143 (Nat.le_of_ble_eq_true rfl) _ Tryz.results143 1 rfl rfl ?_
    repeat' (first|refine qn ?_|(first|(apply qi;apply j9 ([0]);exact jW Tryz.func120 rfl rfl;apply hat;(case hz=>(repeat' (first|exact q5|apply qA|exact q4 rfl|exact yE|(apply jU;(case hn=>rfl);(case hl=>first|with_reducible rfl|(simp;done)|(simp [*];done)|omega);(case hp=>(first|assumption|exact jZ rfl|exact qK fun _=>rfl)))|apply jX|apply jO)));(case hfl=>rfl);(case hN=>exact nle rfl))|(refine xC ?_)|(refine jL ?_)|(apply jo Tryz.func166 rfl rfl;intro hIsFn;refine kf ([0]) 0 hIsFn (hin ..) ?_))|((first|refine qf ?_ ?_|refine qe ?_ ?_|refine xsC ?_ ?_);all_goals (intro hc;have hp:=hc;try simp at hp;try (exfalso;omega)))|refine qX ?_ ?_)
    all_goals try (exfalso;omega)
    (apply jM (rs:=[.tmp 4]) [(2,1)] 2;(case hr=>(repeat (first|exact js|(apply jt;rfl)|(apply jl;rfl;rfl;rfl;rfl;rfl))));(case hL=>rfl);(case hh=>(apply xn 0;exact qN rfl;(repeat (first|exact qj|refine j4 ?_|refine q6 ?_ ?_)));all_goals (rw [hL]));(case hi=>first|exact (rfl:_ = ([]:List (Nat × Nat)))|exact (rfl:_ = [((0:Nat),(0:Nat))])|exact (rfl:_ = [((0:Nat),(0:Nat)),(1,1)]));(case hz=>first|rfl|(simp [yh,AV.ren,AV.ren.renL,jF,qS,jD];done)|(simp [yh,AV.ren,AV.ren.renL,jF,qS,jD, *];done)|(simp [yh,AV.ren,AV.ren.renL,jF,qS,jD];omega)))
end Go.Proofs.YtamejbkifpjhiaaGreatDoor
set_option linter.unusedSimpArgs false
set_option linter.unnecessarySimpa false
set_option linter.unusedVariables false
set_option maxHeartbeats 1000000
namespace Go.Proofs.YtamejbkifpjhiaaGreatDoor
open Go.Ab Go.RowKit
set_option maxRecDepth 10000
attribute [local irreducible] Awp yH jH jw Red ja Go.Ab.Fin qZ Rz vn jr jp ResOk j3 jC yC jA
def j7 (p:Ent → Bool) (t:List Ent):List Ent:=t.filter fun x => !p x
theorem Qt {p:Ent → Bool} {t:List Ent} {j:Nat} (h:j < t.length):j7 p (t.take (j + 1)) = if p t[j] = true then j7 p (t.take j) else j7 p (t.take j) ++ [t[j]]:=by
 unfold j7
 rw [List.take_succ_eq_append_getElem h,List.filter_append]
 cases hs:p t[j]<;>simp [hs]
theorem Xj (p:Ent → Bool) (t:List Ent) (j:Nat) (hj:j ≤ t.length):(j7 p (t.take j)).length ≤ j:=by
 have h1:(j7 p (t.take j)).length ≤ (t.take j).length:=List.length_filter_le ..
 simp at h1;omega
theorem Z7 (p:Ent → Bool) (g:FuncId) (hg:IsFn C1.P g) (cap:List AV) (hcap:AV.pure.pureL cap = true) (t:List Ent) (hl:t.length ≤ 1000000) (hcf : ∀ s,s ∈ t → xH C1.P g (AV.agg s.row :: cap) (.v (.bool (p s)))) :
  qZ C1.P 167 [.os 0 0 t.length,.clo (.func g) [] cap] [.own false 4 (t.map Ent.row)] (.os 0 0 (j7 p t).length) [.own false 4 ((j7 p t).map Ent.row)]:=by
 have hidx:=K8 p g hg cap hcap t hl hcf
 refine qc (C:=C1) Tryz.func167 rfl _ Tryz.ntmps167 (Nat.le_of_ble_eq_true rfl) _ Tryz.results167 1 rfl rfl ?_
 rcases kC p t with ⟨h1,h2⟩|⟨k,hk,h1,h2,h3⟩
 ·have hall:j7 p t = t:=List.filter_eq_self.2 fun x hx=>by rw [h2 x hx];rfl
  rw [h1] at hidx
  rw [hall]
  repeat' (first|refine qn ?_|(first|(apply qi;apply j9 ([0]);exact jW Tryz.func165 rfl rfl;exact hidx;(case hz=>(exact qA (jU rfl (by simp) (qK fun _=>rfl)) (qA (wM hcap) q5)));(case hfl=>rfl);(case hN=>exact nle rfl)))|((first|refine qf ?_ ?_|refine qe ?_ ?_|refine xsC ?_ ?_);all_goals (intro hc;have hp:=hc;try simp at hp;try (exfalso;omega)))|refine qX ?_ ?_)
  all_goals try (exfalso;omega)
  (refine QV (rs:=[.tmp 4]) [] 1 ?_;(repeat (first|exact qj|refine j4 ?_|refine q6 ?_ ?_));all_goals trace_state)
 ·rw [h1] at hidx
  have hk1:j7 p (t.take (k + 1)) = t.take k:=by
   rw [Qt hk,if_pos h3]
   exact List.filter_eq_self.2 fun x hx=>by rw [h2 x hx];rfl
  repeat' (first|refine qn ?_|(first|(apply qi;apply j9 ([0]);exact jW Tryz.func165 rfl rfl;exact hidx;(case hz=>(exact qA (jU rfl (by simp) (qK fun _=>rfl)) (qA (wM hcap) q5)));(case hfl=>rfl);(case hN=>exact nle rfl)))|((first|refine qf ?_ ?_|refine qe ?_ ?_|refine xsC ?_ ?_);all_goals (intro hc;have hp:=hc;try simp at hp;try (exfalso;omega)))|refine qX ?_ ?_)
  all_goals try (exfalso;omega)
  (refine Awp.red (qB (τ:=⟨[(0,.os 0 0 t.length),(1,.clo (.func g) [] cap),(5,.v (.int .i64 (k:Int))),(6,.v (.int .i64 ((k:Int) + 1)))],[(0,.own false 4 (t.map Ent.row))],1⟩) [] rfl ?gts ?ghs) ?gmain;(case gts=>(repeat (first|exact qg|refine qo ?_|refine yg ?_|refine x6 ?_|refine qY ?_ ?_)));(case ghs=>(repeat (first|exact qj|refine j4 ?_|refine q6 ?_ ?_))))
  refine qV (C:=C1) (fun n σ => ∃ (j:Nat) (E:List Ent),k + 1 ≤ j ∧ j ≤ t.length ∧ n = t.length - j ∧ E.length = t.length ∧ E.take (j7 p (t.take j)).length = j7 p (t.take j) ∧ E.drop j = t.drop j ∧ σ = ⟨[(0,.os 0 0 t.length),(1,.clo (.func g) [] cap),(5,.v (.int .i64 ((j7 p (t.take j)).length:Int))),(6,.v (.int .i64 (j:Int)))],[(0,.own false 4 (E.map Ent.row))],1⟩) (t.length - (k + 1)) ⟨k + 1,t,Nat.le_refl _,hk,rfl,rfl,(by rw [hk1];simp),rfl,?_⟩ ?_
  ·have htl:(t.take k).length = k:=by simp;omega
   rw [hk1,htl];rfl
  rintro n σ ⟨j,E,hkj,hj,rfl,hEl,hEt,hEd,rfl⟩
  have hil:=Xj p t j hj
  by_cases hlt:j < t.length
  ·have hej:E[j]'(by omega) = t[j]:=by
    have h:=congrArg (fun l=>l[0]?) hEd
    simp only [List.getElem?_drop,Nat.add_zero] at h
    rw [List.getElem?_eq_getElem (by omega),List.getElem?_eq_getElem hlt] at h
    exact Option.some.inj h
   have hr:=jB (f:=Ent.row) (l:=E) (i:=j) (by omega)
   rw [hej] at hr
   have hci:=hcf t[j] (List.getElem_mem _)
   have hks := @Qt p t j hlt
   have hEd2:E.drop (j + 1) = t.drop (j + 1):=by rw [← List.drop_drop,hEd,List.drop_drop]
   have hml:(E.map Ent.row).length = E.length:=List.length_map ..
   have hrw : ∀ i:Nat,i < E.length → (E.map Ent.row)[i]? = some (E[i]?.getD t[j]).row:=fun i hi=>by
    rw [List.getElem?_map,List.getElem?_eq_getElem hi];rfl
   have hri:=hrw (j7 p (t.take j)).length (by omega)
   generalize hI:(j7 p (t.take j)).length = i at *
   generalize p t[j] = P at *
   cases P with
   | true =>
     rw [if_pos rfl] at hks
     repeat' (first|refine qn ?_|(first|(refine xC ?_)|(apply qi;apply Q0 [];rfl;exact hg;exact hci;(case hz=>exact qA (q4 rfl) (YZ hcap));(case hfl=>rfl);(case hN=>exact nle rfl)))|((first|refine qf ?_ ?_|refine qe ?_ ?_|refine xsC ?_ ?_);all_goals (intro hc;have hp:=hc;try simp at hp;try (exfalso;omega)))|refine qX ?_ ?_)
     all_goals try (exfalso;omega)
     refine ⟨t.length - (j + 1),_,by omega,qB (τ:=⟨[(0,.os 0 0 t.length),(1,.clo (.func g) [] cap),(5,.v (.int .i64 ((j7 p (t.take (j + 1))).length:Int))),(6,.v (.int .i64 ((j + 1:Nat):Int)))],[(0,.own false 4 (List.map Ent.row E))],1⟩) [] rfl ?gts ?ghs,j + 1,E,by omega,by omega,rfl,hEl,(by rw [hks,hI];exact hEt),hEd2,rfl⟩;(case gts=>(repeat (first|exact qg|refine qo ?_|refine yg ?_|refine x6 ?_|refine qY ?_ ?_));all_goals (rw [hks,hI]));(case ghs=>(repeat (first|exact qj|refine j4 ?_|refine q6 ?_ ?_));all_goals skip)
   | false =>
     rw [if_neg (by decide)] at hks
     have hlen1:(j7 p (t.take (j + 1))).length = i + 1:=by rw [hks,List.length_append,hI];rfl
     have hset:(E.set i t[j]).take (i + 1) = j7 p (t.take (j + 1)):=by
      rw [hks,List.take_set, ← hEt,List.take_succ_eq_append_getElem (by omega)]
      rw [List.set_append_right _ _ (by simp;omega)]
      simp [show i - min i E.length = 0 from by omega]
     have hdr:(E.set i t[j]).drop (j + 1) = t.drop (j + 1):=by rw [List.drop_set_of_lt (by omega)];exact hEd2
     repeat' (first|refine qn ?_|(first|(refine xC ?_)|(apply qi;apply Q0 [];rfl;exact hg;exact hci;(case hz=>exact qA (q4 rfl) (YZ hcap));(case hfl=>rfl);(case hN=>exact nle rfl)))|((first|refine qf ?_ ?_|refine qe ?_ ?_|refine xsC ?_ ?_);all_goals (intro hc;have hp:=hc;try simp at hp;try (exfalso;omega)))|refine qX ?_ ?_)
     all_goals try (exfalso;omega)
     refine ⟨t.length - (j + 1),_,by omega,qB (τ:=⟨[(0,.os 0 0 t.length),(1,.clo (.func g) [] cap),(5,.v (.int .i64 ((j7 p (t.take (j + 1))).length:Int))),(6,.v (.int .i64 ((j + 1:Nat):Int)))],[(0,.own false 4 (List.map Ent.row (E.set i t[j])))],1⟩) [] rfl ?gts ?ghs,j + 1,(E.set i t[j]),by omega,by omega,rfl,(by rw [List.length_set];exact hEl),(by rw [hlen1];exact hset),hdr,rfl⟩;(case gts=>(repeat (first|exact qg|refine qo ?_|refine yg ?_|refine x6 ?_|refine qY ?_ ?_));all_goals (rw [hlen1]));(case ghs=>(repeat (first|exact qj|refine j4 ?_|refine q6 ?_ ?_));all_goals (rw [List.map_set];rfl))
  obtain rfl:j = t.length:=by omega
  rw [List.take_length] at *
  repeat' (first|refine qn ?_|(first|(refine qbW ?_)|(refine qgX ?_))|((first|refine qf ?_ ?_|refine qe ?_ ?_|refine xsC ?_ ?_);all_goals (intro hc;have hp:=hc;try simp at hp;try (exfalso;omega)))|refine qX ?_ ?_)
  all_goals try (exfalso;omega)
  apply qfb (C:=C1) 0 (j7 p t).length
  case hn=>rfl
  case hr =>
   refine Eq.trans (b:=(j7 p t).map Ent.row) ?_ rfl
   rw [List.append_assoc,List.take_append_of_le_length (by simp;omega),Nat.zero_add,List.take_take,Nat.min_self, ← List.map_take,hEt]
  (apply jM (rs:=[.tmp 4]) [] 1;(case hr=>(repeat (first|exact js|(apply jt;rfl)|(apply jl;rfl;rfl;rfl;rfl;rfl))));(case hL=>rfl);(case hh=>(repeat (first|exact qj|refine j4 ?_|refine q6 ?_ ?_));all_goals trace_state);(case hi=>first|exact (rfl:_ = ([]:List (Nat × Nat)))|exact (rfl:_ = [((0:Nat),(0:Nat))])|exact (rfl:_ = [((0:Nat),(0:Nat)),(1,1)]));(case hz=>first|rfl|(simp [yh,AV.ren,AV.ren.renL,jF,qS,jD];done)|(simp [yh,AV.ren,AV.ren.renL,jF,qS,jD, *];done)|(simp [yh,AV.ren,AV.ren.renL,jF,qS,jD];omega)))
def zJ (p:qP) (x:Ent):Bool:=inB x.path p
theorem qax (x:Ent) (p:qP) (hp:p.length ≤ 140737488355328):xH C.P 168 [.agg x.row,.fp [[.v (str p)]] 0 0] (.v (.bool (zJ p x))):=by
 have hin:=qau x.path p hp
 refine qc Tryz.func168 rfl _ Tryz.ntmps168 (Nat.le_of_ble_eq_true rfl) _ Tryz.results168 0 rfl rfl ?_
 repeat' (first|refine qn ?_|(first|refine jv Tryz.func123 (hin ..) ?_)|((first|refine xsC ?_ ?_);all_goals (intro hc;have hp:=hc;try simp at hp;try (exfalso;omega)))|refine qX ?_ ?_)
 all_goals (apply j6;rfl;rfl)
theorem Zw (t:List Ent) (p:qP) (hl:t.length ≤ 1000000) (hpl:p.length ≤ 140737488355328) :
  qZ C1.P 144 [.os 0 0 t.length,.v (str p)] [.own false 4 (t.map Ent.row)] (.os 0 0 (j7 (zJ p) t).length) [.own false 4 ((j7 (zJ p) t).map Ent.row)]:=by
 have hdel:=Z7 (zJ p) 168 (jW Tryz.func168 rfl rfl) [.fp [[.v (str p)]] 0 0] rfl t hl (fun x _=>qax x p hpl)
 refine qc (C:=C1) Tryz.func144 rfl _ Tryz.ntmps144 (Nat.le_of_ble_eq_true rfl) _ Tryz.results144 1 rfl rfl ?_
 (repeat apply Yk);refine y1 ?_;(repeat' (first|apply Jb|refine qg6 ?_|refine qgT ?_|refine qg4 ?_|refine qgZ ?_|refine qgU ?_|refine qg9 ?_|refine qg5 ?_|refine qg2 ?_|refine qg3 ?_|refine qg8 ?_|refine qgY ?_|refine qg0 ?_|refine qg1 ?_|refine qg7 ?_|refine qgV ?_|refine qgS ?_|refine qgW ?_|refine qfZ ?_|(first|fail)|refine qf0 ?_|refine qd4 ?_|refine qd3 ?_|refine qbN ?_|refine qbM ?_|refine qfV ?_|refine qfW ?_|refine qd2 ?_|refine qd1 ?_|((first|refine qf ?_ ?_|refine qe ?_ ?_);all_goals (intro hc;have hp:=hc;try simp at hp;try (exfalso;omega)))));show Awp _ _ _ _ _
 refine xsZ 3 1 ?_
 repeat' (first|refine qn ?_|(first|(apply jo Tryz.func167 rfl rfl;intro hIsFn;refine JB ([0]) 0 hIsFn (hdel ..) ?_))|((first|refine qf ?_ ?_|refine qe ?_ ?_|refine xsC ?_ ?_);all_goals (intro hc;have hp:=hc;try simp at hp;try (exfalso;omega)))|refine qX ?_ ?_)
 all_goals try (exfalso;omega)
 (apply jM (rs:=[.tmp 4]) [] 1;(case hr=>(repeat (first|exact js|(apply jt;rfl)|(apply jl;rfl;rfl;rfl;rfl;rfl))));(case hL=>rfl);(case hh=>(repeat (first|exact qj|refine j4 ?_|refine q6 ?_ ?_));all_goals trace_state);(case hi=>first|exact (rfl:_ = ([]:List (Nat × Nat)))|exact (rfl:_ = [((0:Nat),(0:Nat))])|exact (rfl:_ = [((0:Nat),(0:Nat)),(1,1)]));(case hz=>first|rfl|(simp [yh,AV.ren,AV.ren.renL,jF,qS,jD];done)|(simp [yh,AV.ren,AV.ren.renL,jF,qS,jD, *];done)|(simp [yh,AV.ren,AV.ren.renL,jF,qS,jD];omega)))
end Go.Proofs.YtamejbkifpjhiaaGreatDoor
set_option linter.unusedSimpArgs false
set_option linter.unnecessarySimpa false
set_option linter.unusedVariables false
set_option maxHeartbeats 1000000
namespace Go.Proofs.YtamejbkifpjhiaaGreatDoor
open Go.Ab Go.RowKit
set_option maxRecDepth 10000
attribute [local irreducible] Awp yH jH jw Red ja Go.Ab.Fin qZ Rz vn jr jp ResOk j3 jC yC jA
def xu (c:Chg) (v:Int) (x:Ent):Ent:=⟨c.to ++ x.path.drop c.path.length,x.fold,x.text,if x.path = c.path then v else x.ver⟩
def jI (t:List Ent) (c:Chg) (v:Int):List Ent:=(t.filter (zJ c.path)).map (xu c v)
def jh (t:List Ent) (c:Chg) (v:Int):List Ent :=
 if c.kind = 1 then jR t ⟨c.path,true,[],v⟩
 else if c.kind = 2 then jR t ⟨c.path,false,c.text,v⟩
 else if c.kind = 4 then j7 (zJ c.path) t
 else (jI t c v).foldl jR (j7 (zJ c.path) t)
def yP (t:List Ent) (c:Chg):Bool:=decide (c.kind = 3) && (t.filter (zJ c.path)).any fun x=>j8 (c.to ++ x.path.drop c.path.length)
def j5 (t:List Ent) (c:Chg) (v:Int):Int:=if yP t c = true then 2 else if 60 < (jh t c v).length then 2 else 0
def V8 (e:Int) (n:Nat):AV:=if e = 0 then .tup [.os 1 0 n,.v (.int .i64 0)] else .tup [.sl true [],.v (.int .i64 e)]
theorem qeM (t:List Ent) (c:Chg) (v:Int) (hl:t.length ≤ 1000000) (hs:qU jf t = true) (hk:c.kind = 1) (hlen:(jh t c v).length ≤ 1000001) :
  qZ C1.P 112 [.os 0 0 t.length,.agg c.row,.v (.int .i64 v)] [.own false 4 (t.map Ent.row)] (V8 (j5 t c v) (jh t c v).length) [.dead,.own false 4 ((jh t c v).map Ent.row)]:=by
 have hput:qZ C1.P 143 [.os 0 0 t.length,.agg [.v (str c.path),.v (.bool true),.v (str []),.v (.int .i64 v)]] [.own false 4 (t.map Ent.row)] _ _:=qds t ⟨c.path,true,[],v⟩ hl hs
 have hD:jh t c v = jR t ⟨c.path,true,[],v⟩:=by simp [jh,hk]
 have hE:j5 t c v = if 60 < (jh t c v).length then 2 else 0:=by simp [j5,yP,hk]
 rw [← hD] at hput
 generalize j5 t c v = E at *
 generalize jh t c v = L at *
 by_cases h60:60 < L.length
 ·rw [if_pos h60] at hE
  subst hE
  refine qc (C:=C1) Tryz.func112 rfl _ Tryz.ntmps112 (Nat.le_of_ble_eq_true rfl) _ Tryz.results112 1 rfl rfl ?_
  repeat' (first|refine qn ?_|(first|(apply jo Tryz.func143 rfl rfl;intro hIsFn;refine kf ([0]) 0 hIsFn (hput ..) ?_))|((first|refine qf ?_ ?_|refine qe ?_ ?_|refine xsC ?_ ?_);all_goals (intro hc;have hp:=hc;try simp at hp;try (exfalso;omega)))|refine qX ?_ ?_)
  all_goals try (exfalso;omega)
  (refine QV (rs:=[.tmp 6,.tmp 7]) [(2,1)] 2 ?_;(apply xn 0;exact qN rfl;(repeat (first|exact qj|refine j4 ?_|refine q6 ?_ ?_)));all_goals trace_state)
 ·rw [if_neg h60] at hE
  subst hE
  refine qc (C:=C1) Tryz.func112 rfl _ Tryz.ntmps112 (Nat.le_of_ble_eq_true rfl) _ Tryz.results112 1 rfl rfl ?_
  repeat' (first|refine qn ?_|(first|(apply jo Tryz.func143 rfl rfl;intro hIsFn;refine kf ([0]) 0 hIsFn (hput ..) ?_))|((first|refine qf ?_ ?_|refine qe ?_ ?_|refine xsC ?_ ?_);all_goals (intro hc;have hp:=hc;try simp at hp;try (exfalso;omega)))|refine qX ?_ ?_)
  all_goals try (exfalso;omega)
  (refine QV (rs:=[.tmp 6,.tmp 7]) [(2,1)] 2 ?_;(apply xn 0;exact qN rfl;(repeat (first|exact qj|refine j4 ?_|refine q6 ?_ ?_)));all_goals trace_state)
theorem qeN (t:List Ent) (c:Chg) (v:Int) (hl:t.length ≤ 1000000) (hs:qU jf t = true) (hk:c.kind = 2) (hlen:(jh t c v).length ≤ 1000001) :
  qZ C1.P 112 [.os 0 0 t.length,.agg c.row,.v (.int .i64 v)] [.own false 4 (t.map Ent.row)] (V8 (j5 t c v) (jh t c v).length) [.dead,.own false 4 ((jh t c v).map Ent.row)]:=by
 have hput:qZ C1.P 143 [.os 0 0 t.length,.agg [.v (str c.path),.v (.bool false),.v (str c.text),.v (.int .i64 v)]] [.own false 4 (t.map Ent.row)] _ _:=qds t ⟨c.path,false,c.text,v⟩ hl hs
 have hD:jh t c v = jR t ⟨c.path,false,c.text,v⟩:=by simp [jh,hk]
 have hE:j5 t c v = if 60 < (jh t c v).length then 2 else 0:=by simp [j5,yP,hk]
 rw [← hD] at hput
 generalize j5 t c v = E at *
 generalize jh t c v = L at *
 by_cases h60:60 < L.length
 ·rw [if_pos h60] at hE
  subst hE
  refine qc (C:=C1) Tryz.func112 rfl _ Tryz.ntmps112 (Nat.le_of_ble_eq_true rfl) _ Tryz.results112 1 rfl rfl ?_
  repeat' (first|refine qn ?_|(first|(apply jo Tryz.func143 rfl rfl;intro hIsFn;refine kf ([0]) 0 hIsFn (hput ..) ?_))|((first|refine qf ?_ ?_|refine qe ?_ ?_|refine xsC ?_ ?_);all_goals (intro hc;have hp:=hc;try simp at hp;try (exfalso;omega)))|refine qX ?_ ?_)
  all_goals try (exfalso;omega)
  (refine QV (rs:=[.tmp 6,.tmp 7]) [(2,1)] 2 ?_;(apply xn 0;exact qN rfl;(repeat (first|exact qj|refine j4 ?_|refine q6 ?_ ?_)));all_goals trace_state)
 ·rw [if_neg h60] at hE
  subst hE
  refine qc (C:=C1) Tryz.func112 rfl _ Tryz.ntmps112 (Nat.le_of_ble_eq_true rfl) _ Tryz.results112 1 rfl rfl ?_
  repeat' (first|refine qn ?_|(first|(apply jo Tryz.func143 rfl rfl;intro hIsFn;refine kf ([0]) 0 hIsFn (hput ..) ?_))|((first|refine qf ?_ ?_|refine qe ?_ ?_|refine xsC ?_ ?_);all_goals (intro hc;have hp:=hc;try simp at hp;try (exfalso;omega)))|refine qX ?_ ?_)
  all_goals try (exfalso;omega)
  (refine QV (rs:=[.tmp 6,.tmp 7]) [(2,1)] 2 ?_;(apply xn 0;exact qN rfl;(repeat (first|exact qj|refine j4 ?_|refine q6 ?_ ?_)));all_goals trace_state)
theorem qeO (t:List Ent) (c:Chg) (v:Int) (hl:t.length ≤ 1000000) (hk:c.kind = 4) (hpl:c.path.length ≤ 140737488355328) :
  qZ C1.P 112 [.os 0 0 t.length,.agg c.row,.v (.int .i64 v)] [.own false 4 (t.map Ent.row)] (V8 (j5 t c v) (jh t c v).length) [.dead,.own false 4 ((jh t c v).map Ent.row)]:=by
 have hwo:=Zw t c.path hl hpl
 have hD:jh t c v = j7 (zJ c.path) t:=by simp [jh,hk]
 have hE:j5 t c v = if 60 < (jh t c v).length then 2 else 0:=by simp [j5,yP,hk]
 have hlen:(jh t c v).length ≤ t.length:=by rw [hD];exact List.length_filter_le ..
 rw [← hD] at hwo
 generalize j5 t c v = E at *
 generalize jh t c v = L at *
 by_cases h60:60 < L.length
 ·rw [if_pos h60] at hE
  subst hE
  refine qc (C:=C1) Tryz.func112 rfl _ Tryz.ntmps112 (Nat.le_of_ble_eq_true rfl) _ Tryz.results112 1 rfl rfl ?_
  repeat' (first|refine qn ?_|(first|(apply jo Tryz.func144 rfl rfl;intro hIsFn;refine JB ([0]) 0 hIsFn (hwo ..) ?_))|((first|refine qf ?_ ?_|refine qe ?_ ?_|refine xsC ?_ ?_);all_goals (intro hc;have hp:=hc;try simp at hp;try (exfalso;omega)))|refine qX ?_ ?_)
  all_goals try (exfalso;omega)
  apply Yz (C:=C1) 0 0 L.length
  case hi=>rfl
  case hn=>rfl
  case hr=>exact (List.take_of_length_le (by simp))
  case hnn=>exact Nat.ne_of_beq_eq_false rfl
  case hnx=>exact Nat.le_of_ble_eq_true rfl
  (refine QV (rs:=[.tmp 6,.tmp 7]) [(2,1)] 2 ?_;(apply xn 0;exact qN rfl;(repeat (first|exact qj|refine j4 ?_|refine q6 ?_ ?_)));all_goals trace_state)
 ·rw [if_neg h60] at hE
  subst hE
  refine qc (C:=C1) Tryz.func112 rfl _ Tryz.ntmps112 (Nat.le_of_ble_eq_true rfl) _ Tryz.results112 1 rfl rfl ?_
  repeat' (first|refine qn ?_|(first|(apply jo Tryz.func144 rfl rfl;intro hIsFn;refine JB ([0]) 0 hIsFn (hwo ..) ?_))|((first|refine qf ?_ ?_|refine qe ?_ ?_|refine xsC ?_ ?_);all_goals (intro hc;have hp:=hc;try simp at hp;try (exfalso;omega)))|refine qX ?_ ?_)
  all_goals try (exfalso;omega)
  apply Yz (C:=C1) 6 0 L.length
  case hi=>rfl
  case hn=>rfl
  case hr=>exact (List.take_of_length_le (by simp))
  case hnn=>exact Nat.ne_of_beq_eq_false rfl
  case hnx=>exact Nat.le_of_ble_eq_true rfl
  (refine QV (rs:=[.tmp 6,.tmp 7]) [(2,1)] 2 ?_;(apply xn 0;exact qN rfl;(repeat (first|exact qj|refine j4 ?_|refine q6 ?_ ?_)));all_goals trace_state)
end Go.Proofs.YtamejbkifpjhiaaGreatDoor
set_option linter.unusedSimpArgs false
set_option linter.unnecessarySimpa false
set_option linter.unusedVariables false
namespace Go.Proofs.YtamejbkifpjhiaaGreatDoor
open Go.Op
theorem Ym {a b:qP} (h:bytesLess a b = true):bytesLess b a = false:=by
 cases e:bytesLess b a
 ·rfl
 ·have:=kw h e
  rw [vD] at this;cases this
theorem JP {a b:qP} (h:bytesLess a b = true):¬ a = b:=fun e=>by rw [e,vD] at h;cases h
theorem qgf {a b:qP} (h1:bytesLess a b = false) (h2:¬ a = b):bytesLess b a = true:=by
 rcases wN a b with ⟨h,_,_⟩|⟨h,_,_⟩|⟨h,_,_⟩
 ·rw [h] at h1;cases h1
 ·exact absurd h h2
 ·exact h
theorem Ze (p:qP) : ∀ {t:List Ent},t.Pairwise (fun a b=>bytesLess a.path b.path = true) → ∃ A M Z,t = A ++ (M ++ Z) ∧ xg t p = A.length ∧ (∀ a,a ∈ A → bytesLess a.path p = true) ∧ (∀ z,z ∈ Z → bytesLess p z.path = true) ∧
  ((j0 t p = true ∧ ∃ x,M = [x] ∧ x.path = p) ∨ (j0 t p = false ∧ M = []))
 | [],_=>⟨[],[],[],rfl,rfl,nofun,nofun,.inr ⟨rfl,rfl⟩⟩
 | x :: l,h=>by
   obtain ⟨h1,h2⟩:=List.pairwise_cons.1 h
   by_cases hx:bytesLess x.path p = true
   ·obtain ⟨A,M,Z,rfl,hp,hA,hZ,hM⟩:=Ze p h2
    have hp' : xg (x :: (A ++ (M ++ Z))) p = A.length + 1:=by
     simp only [xg,List.takeWhile_cons,hx,if_true,List.length_cons] at hp ⊢;omega
    have hh:j0 (x :: (A ++ (M ++ Z))) p = j0 (A ++ (M ++ Z)) p:=by
     simp [j0,atP,JP hx]
    refine ⟨x :: A,M,Z,rfl,hp',fun a ha=>?_,hZ,by rw [hh];exact hM⟩
    rcases List.mem_cons.1 ha with rfl|ha
    ·exact hx
    ·exact hA a ha
   ·have hx:bytesLess x.path p = false:=by simpa using hx
    have hp:xg (x :: l) p = 0:=by simp [xg,List.takeWhile_cons,hx]
    by_cases e:x.path = p
    ·subst e
     exact ⟨[],[x],l,rfl,hp,nofun,fun z hz=>h1 z hz,.inl ⟨by simp [j0,atP],x,rfl,rfl⟩⟩
    ·have hg:=qgf hx e
     have hall : ∀ z,z ∈ x :: l → bytesLess p z.path = true:=fun z hz=>by
      rcases List.mem_cons.1 hz with rfl|hz
      ·exact hg
      ·exact kw hg (h1 z hz)
     refine ⟨[],[],x :: l,rfl,hp,nofun,hall,.inr ⟨List.any_eq_false.2 fun z hz=>?_,rfl⟩⟩
     have:=JP (hall z hz)
     simp only [atP,decide_eq_true_eq]
     exact fun e=>this e.symm
theorem QH {t A M Z:List Ent} {x:Ent} (h:t = A ++ (M ++ Z)) (hp:xg t x.path = A.length) (hM:(j0 t x.path = true ∧ ∃ y,M = [y] ∧ y.path = x.path) ∨ (j0 t x.path = false ∧ M = [])):jR t x = A ++ ([x] ++ Z):=by
 unfold jR
 rw [hp]
 have h1:t.take A.length = A:=by rw [h];simp
 rw [h1]
 rcases hM with ⟨hh,y,rfl,_⟩|⟨hh,rfl⟩
 ·simp only [hh,if_true];rw [h];simp
 ·simp only [hh,Bool.false_eq_true,if_false];rw [h];simp
theorem wv (t:List Ent) (x:Ent):(jR t x).length ≤ t.length + 1:=by
 unfold jR;split<;>simp<;>omega
theorem yW {t:List Ent} {x:Ent} (hs:qU jf t = true):qU jf (jR t x) = true:=by
 have hl:=jJ.1 hs
 obtain ⟨A,M,Z,h,hp,hA,hZ,hM⟩:=Ze x.path hl
 rw [QH h hp hM]
 refine jJ.2 ?_
 have hsub:(A ++ Z).Sublist t:=by
  rw [h];exact List.Sublist.append_left (List.sublist_append_right _ _) _
 obtain ⟨pA,pZ,pAZ⟩:=List.pairwise_append.1 (hl.sublist hsub)
 refine List.pairwise_append.2 ⟨pA,List.pairwise_cons.2 ⟨fun z hz=>hZ z hz,pZ⟩,fun a ha b hb=>?_⟩
 rcases List.mem_cons.1 hb with rfl|hb
 ·exact hA a ha
 ·exact pAZ a ha b hb
theorem z8 {p:Ent → Bool} {t:List Ent} (hs:qU jf t = true):qU jf (j7 p t) = true:=jJ.2 ((jJ.1 hs).sublist List.filter_sublist)
theorem zD : ∀ {l t:List Ent},qU jf t = true → qU jf (l.foldl jR t) = true
 | [],_,h=>h
 | x :: l,t,h=>zD (l:=l) (yW h)
theorem QG : ∀ (l t:List Ent),(l.foldl jR t).length ≤ t.length + l.length
 | [],_=>by simp
 | x :: l,t=>by
   have h1:=QG l (jR t x)
   have h2:=wv t x
   simp only [List.foldl_cons,List.length_cons];omega
theorem W0 {l t:List Ent} {i:Nat} (h:i < l.length):(l.take (i + 1)).foldl jR t = jR ((l.take i).foldl jR t) l[i]:=by
 rw [List.take_succ_eq_append_getElem h,List.foldl_append];rfl
theorem qQ {p:qP} (h:qH p = 0):p.length ≤ 80:=by
 have:j8 p = false:=by
  unfold qH at h
  split at h
  ·split at h
   ·exact absurd h (by decide)
   ·rename_i h2;simpa using h2
  ·exact absurd h (by decide)
 simp [j8] at this;omega
theorem Ja {p f t:qP} (hp:qH p = 0) (hf:qH f = 0) (ht:qH t = 0) (hi:inB p f = true):za p f t = if j8 (t ++ p.drop f.length) = true then 2 else 0:=by
 unfold za
 rw [if_pos (by simp [xo,hp,hf,ht]),if_pos hi]
theorem Xd {t:List Ent} {c:Chg} {v:Int} {i:Nat} (h:i < t.length):jI (t.take (i + 1)) c v = if inB t[i].path c.path = true then jI (t.take i) c v ++ [xu c v t[i]] else jI (t.take i) c v:=by
 unfold jI
 rw [List.take_succ_eq_append_getElem h,List.filter_append]
 cases hs:inB t[i].path c.path<;>simp [hs,zJ]
end Go.Proofs.YtamejbkifpjhiaaGreatDoor
set_option linter.unusedSimpArgs false
set_option linter.unnecessarySimpa false
set_option linter.unusedVariables false
namespace Go.Proofs.YtamejbkifpjhiaaGreatDoor
open Go.Op
def x4 (x:Ent) (s:List Ent × Bool) (y:Ent):List Ent × Bool :=
 ((if s.2 = false ∧ bytesLess y.path x.path = false then s.1 ++ [x] else s.1) ++ (if y.path = x.path then [] else [y]),s.2 || !bytesLess y.path x.path)
def xq (t:List Ent) (x:Ent):List Ent × Bool:=t.foldl (x4 x) ([],false)
def Xx (t:List Ent) (x:Ent):List Ent:=if (xq t x).2 = true then (xq t x).1 else (xq t x).1 ++ [x]
theorem ZU {t:List Ent} {x:Ent} {i:Nat} (h:i < t.length):xq (t.take (i + 1)) x = x4 x (xq (t.take i) x) t[i]:=by
 unfold xq
 rw [List.take_succ_eq_append_getElem h,List.foldl_append];rfl
theorem W4 (t:List Ent) (x:Ent):(xq t x).1.length ≤ 2 * t.length:=by
 have : ∀ (l:List Ent) (s:List Ent × Bool),(l.foldl (x4 x) s).1.length ≤ s.1.length + 2 * l.length:=by
  intro l
  induction l with
  | nil=>intro s;simp
  | cons y l ih =>
    intro s
    have h1:=ih (x4 x s y)
    have hq:(x4 x s y).1.length ≤ s.1.length + 2:=by
     unfold x4
     simp only [List.length_append]
     split<;>split<;>simp
    simp only [List.foldl_cons,List.length_cons]
    omega
 have:=this t ([],false)
 simpa [xq] using this
theorem W5 {x:Ent} : ∀ {A:List Ent} {s:List Ent},(∀ a,a ∈ A → bytesLess a.path x.path = true) → A.foldl (x4 x) (s,false) = (s ++ A,false)
 | [],s,_=>by simp
 | a :: A,s,h=>by
   have ha:=h a (by simp)
   have hs:x4 x (s,false) a = (s ++ [a],false):=by
    simp [x4,ha,JP ha]
   rw [List.foldl_cons,hs,W5 fun y hy=>h y (by simp [hy])]
   simp
theorem Xw {x:Ent} : ∀ {Z:List Ent} {s:List Ent},(∀ z,z ∈ Z → bytesLess x.path z.path = true) → Z.foldl (x4 x) (s,true) = (s ++ Z,true)
 | [],s,_=>by simp
 | z :: Z,s,h=>by
   have hz:=h z (by simp)
   have hs:x4 x (s,true) z = (s ++ [z],true):=by
    have:¬ z.path = x.path:=fun e=>JP hz e.symm
    simp [x4,this]
   rw [List.foldl_cons,hs,Xw fun y hy=>h y (by simp [hy])]
   simp
theorem w9 {t:List Ent} {x:Ent} (hs:qU jf t = true):Xx t x = jR t x:=by
 obtain ⟨A,M,Z,h,hp,hA,hZ,hM⟩:=Ze x.path (jJ.1 hs)
 rw [QH h hp hM]
 have h1:xq t x = Z.foldl (x4 x) (M.foldl (x4 x) (A,false)):=by
  unfold xq
  rw [h,List.foldl_append,List.foldl_append,W5 hA,List.nil_append]
 rcases hM with ⟨_,y,rfl,hy⟩|⟨_,rfl⟩
 ·have h2:x4 x (A,false) y = (A ++ [x],true):=by simp [x4,hy,vD]
  rw [List.foldl_cons,List.foldl_nil,h2,Xw hZ] at h1
  simp [Xx,h1]
 ·rw [List.foldl_nil] at h1
  cases Z with
  | nil=>simp at h1;simp [Xx,h1]
  | cons z Z =>
    have hz:=hZ z (by simp)
    have h2:x4 x (A,false) z = (A ++ [x] ++ [z],true):=by
     have h3:¬ z.path = x.path:=fun e=>JP hz e.symm
     simp [x4,Ym hz,h3]
    rw [List.foldl_cons,h2,Xw fun y hy=>hZ y (by simp [hy])] at h1
    simp [Xx,h1]
end Go.Proofs.YtamejbkifpjhiaaGreatDoor
set_option linter.unusedSimpArgs false
set_option linter.unnecessarySimpa false
set_option linter.unusedVariables false
set_option maxHeartbeats 1000000
namespace Go.Proofs.YtamejbkifpjhiaaGreatDoor
open Go.Ab Go.RowKit
set_option maxRecDepth 10000
attribute [local irreducible] Awp yH jH jw Red ja Go.Ab.Fin qZ Rz vn jr jp ResOk j3 jC yC jA
def zX (t:List Ent) (c:Chg) (i:Nat):Bool:=((t.take i).filter (zJ c.path)).any fun x=>j8 (c.to ++ x.path.drop c.path.length)
theorem Wg {t:List Ent} {c:Chg} {i:Nat} (h:i < t.length):zX t c (i + 1) = (zX t c i || (inB t[i].path c.path && j8 (c.to ++ t[i].path.drop c.path.length))):=by
 unfold zX
 rw [List.take_succ_eq_append_getElem h,List.filter_append,List.any_append]
 cases hs:inB t[i].path c.path<;>simp [hs,zJ]
theorem XG (t:List Ent) (c:Chg) (v:Int) (hl:t.length ≤ 1000000) (hk:c.kind = 3) (hgt : ∀ x,x ∈ t → qH x.path = 0) (hc1:qH c.path = 0) (hc2:qH c.to = 0) (hbad:yP t c = true) :
  qZ C1.P 112 [.os 0 0 t.length,.agg c.row,.v (.int .i64 v)] [.own false 4 (t.map Ent.row)] (.tup [.sl true [],.v (.int .i64 2)]) [.own false 4 (t.map Ent.row)]:=by
 have l1:=qQ hc1
 have l2:=qQ hc2
 have hml:(t.map Ent.row).length = t.length:=List.length_map ..
 refine qc (C:=C1) Tryz.func112 rfl _ Tryz.ntmps112 (Nat.le_of_ble_eq_true rfl) _ Tryz.results112 1 rfl rfl ?_
 repeat' (first|refine qn ?_|fail|((first|refine qf ?_ ?_|refine qe ?_ ?_|refine xsC ?_ ?_);all_goals (intro hc;have hp:=hc;try simp at hp;try (exfalso;omega)))|refine qX ?_ ?_)
 all_goals try (exfalso;omega)
 refine Awp.red (C:=C1) (ye 8 4 rfl (Nat.le_of_ble_eq_true rfl)) ?_
 (refine Awp.red (qB (τ:=⟨[(0,.os 0 0 t.length),(2,.v (.int .i64 v)),(4,.op 1 0 0),(8,.os 2 0 0),(43,.os 0 0 t.length),(44,.v (.int .i64 t.length)),(45,.v (.int .i64 ((0:Nat):Int)))],[(0,.own false 4 (t.map Ent.row)),(1,.own false 5 [c.row]),(2,.own false 4 [])],3⟩) [(1,1),(2,2)] rfl ?gts ?ghs) ?gmain;(case gts=>(repeat (first|exact qg|refine qo ?_|refine yg ?_|refine x6 ?_|refine qY ?_ ?_)));(case ghs=>(repeat (first|exact qj|refine j4 ?_|refine q6 ?_ ?_))))
 refine qV (C:=C1) (fun n σ => ∃ i:Nat,i ≤ t.length ∧ n = t.length - i ∧ zX t c i = false ∧ σ = ⟨[(0,.os 0 0 t.length),(2,.v (.int .i64 v)),(4,.op 1 0 0),(8,.os 2 0 (jI (t.take i) c v).length),(43,.os 0 0 t.length),(44,.v (.int .i64 t.length)),(45,.v (.int .i64 (i:Int)))],[(0,.own false 4 (t.map Ent.row)),(1,.own false 5 [c.row]),(2,.own false 4 ((jI (t.take i) c v).map Ent.row))],3⟩) t.length ⟨0,Nat.zero_le _,rfl,rfl,rfl⟩ ?_
 rintro n σ ⟨i,hi,rfl,hsofar,rfl⟩
 have hgl:(jI (t.take i) c v).length ≤ i:=by
  unfold jI
  rw [List.length_map]
  have h1:((t.take i).filter (zJ c.path)).length ≤ (t.take i).length:=List.length_filter_le ..
  simp at h1;omega
 by_cases hlt:i < t.length
 ·have hr:=jB (f:=Ent.row) hlt
  have hpx:=hgt t[i] (List.getElem_mem _)
  have lx:=qQ hpx
  have hin:=qau t[i].path c.path (by omega)
  have hgs := @Xd t c v i hlt
  have hmv:=qbB t[i].path c.path c.to (by omega) (by omega) (by omega)
  have hme := @Ja t[i].path c.path c.to hpx hc1 hc2
  have hbs := @Wg t c i hlt
  rw [hsofar] at hbs
  have hmt : ∀ w,(if t[i].path = c.path then v else t[i].ver) = w → (xu c v t[i]).row = [.v (str (c.to ++ t[i].path.drop c.path.length)),.v (.bool t[i].fold),.v (str t[i].text),.v (.int .i64 w)]:=fun w hw=>by simp [xu,Ent.row,hw]
  generalize hG:jI (t.take i) c v = G at hgl hgs ⊢
  generalize inB t[i].path c.path = I at *
  cases I with
  | false =>
    rw [if_neg (by decide)] at hgs
    have hbs:zX t c (i + 1) = false:=hbs
    repeat' (first|refine qn ?_|(first|(refine xC ?_)|(refine jL ?_)|(refine yi ?_)|refine jv Tryz.func123 (hin ..) ?_|refine j1 Tryz.func145 (hmv ..) ?_)|((first|refine qf ?_ ?_|refine qe ?_ ?_|refine xsC ?_ ?_);all_goals (intro hc;have hp:=hc;try simp at hp;try (exfalso;omega)))|refine qX ?_ ?_)
    all_goals try (exfalso;omega)
    refine ⟨t.length - (i + 1),_,by omega,qB (τ:=⟨[(0,.os 0 0 t.length),(2,.v (.int .i64 v)),(4,.op 1 0 0),(8,.os 2 0 (jI (t.take (i + 1)) c v).length),(43,.os 0 0 t.length),(44,.v (.int .i64 t.length)),(45,.v (.int .i64 ((i + 1:Nat):Int)))],[(0,.own false 4 (t.map Ent.row)),(1,.own false 5 [c.row]),(2,.own false 4 ((jI (t.take (i + 1)) c v).map Ent.row))],3⟩) [(1,1),(2,2)] rfl ?gts ?ghs,i + 1,by omega,rfl,(hbs),rfl⟩;(case gts=>(repeat (first|exact qg|refine qo ?_|refine yg ?_|refine x6 ?_|refine qY ?_ ?_));all_goals (rw [hgs]));(case ghs=>(repeat (first|exact qj|refine j4 ?_|refine q6 ?_ ?_));all_goals (rw [hgs]))
  | true =>
    have hme2:=hme rfl
    clear hme
    rw [if_pos rfl] at hgs
    have hlen1:(jI (t.take (i + 1)) c v).length = G.length + 1:=by rw [hgs];simp
    generalize c.to ++ t[i].path.drop c.path.length = Q at *
    generalize za t[i].path c.path c.to = E at *
    cases hq:j8 Q with
    | true =>
      rw [hq,if_pos rfl] at hme2
      subst hme2
      repeat' (first|refine qn ?_|(first|(refine xC ?_)|(refine jL ?_)|(refine yi ?_)|refine jv Tryz.func123 (hin ..) ?_|refine j1 Tryz.func145 (hmv ..) ?_)|((first|refine qf ?_ ?_|refine qe ?_ ?_|refine xsC ?_ ?_);all_goals (intro hc;have hp:=hc;try simp at hp;try (exfalso;omega)))|refine qX ?_ ?_)
      all_goals try (exfalso;omega)
      all_goals ((refine QV (rs:=[.tmp 6,.tmp 7]) [] 1 ?_;(repeat (first|exact qj|refine j4 ?_|refine q6 ?_ ?_));all_goals trace_state))
    | false =>
      rw [hq,if_neg (by decide)] at hme2
      subst hme2
      rw [hq] at hbs
      have hbs:zX t c (i + 1) = false:=hbs
      repeat' (first|refine qn ?_|(first|(refine xC ?_)|(refine jL ?_)|(refine yi ?_)|refine jv Tryz.func123 (hin ..) ?_|refine j1 Tryz.func145 (hmv ..) ?_)|((first|refine qf ?_ ?_|refine qe ?_ ?_|refine xsC ?_ ?_);all_goals (intro hc;have hp:=hc;try simp at hp;try (exfalso;omega)))|refine qX ?_ ?_)
      all_goals try (exfalso;omega)
      ·have hrow:=hmt v (if_pos (by assumption))
       clear hmt hin hmv hgt hpx lx hr hq hbad
       refine ⟨t.length - (i + 1),_,by omega,qB (τ:=⟨[(0,.os 0 0 t.length),(2,.v (.int .i64 v)),(4,.op 1 0 0),(8,.os 2 0 (jI (t.take (i + 1)) c v).length),(43,.os 0 0 t.length),(44,.v (.int .i64 t.length)),(45,.v (.int .i64 ((i + 1:Nat):Int)))],[(0,.own false 4 (t.map Ent.row)),(1,.own false 5 [c.row]),(2,.own false 4 ((jI (t.take (i + 1)) c v).map Ent.row))],3⟩) [(1,1),(4,2)] rfl ?gts ?ghs,i + 1,by omega,rfl,(hbs),rfl⟩;(case gts=>(repeat (first|exact qg|refine qo ?_|refine yg ?_|refine x6 ?_|refine qY ?_ ?_));all_goals (first|(rw [hlen1];done)|(rw [hgs,List.map_append,List.take_of_length_le (by simp)];show _ = _ ++ [(xu c v t[i]).row];rw [hrow];rfl)));(case ghs=>(repeat (first|exact qj|refine j4 ?_|refine q6 ?_ ?_));all_goals (first|(rw [hlen1];done)|(rw [hgs,List.map_append,List.take_of_length_le (by simp)];show _ = _ ++ [(xu c v t[i]).row];rw [hrow];rfl)))
      ·have hrow:=hmt t[i].ver (if_neg (by assumption))
       clear hmt hin hmv hgt hpx lx hr hq hbad
       refine ⟨t.length - (i + 1),_,by omega,qB (τ:=⟨[(0,.os 0 0 t.length),(2,.v (.int .i64 v)),(4,.op 1 0 0),(8,.os 2 0 (jI (t.take (i + 1)) c v).length),(43,.os 0 0 t.length),(44,.v (.int .i64 t.length)),(45,.v (.int .i64 ((i + 1:Nat):Int)))],[(0,.own false 4 (t.map Ent.row)),(1,.own false 5 [c.row]),(2,.own false 4 ((jI (t.take (i + 1)) c v).map Ent.row))],3⟩) [(1,1),(4,2)] rfl ?gts ?ghs,i + 1,by omega,rfl,(hbs),rfl⟩;(case gts=>(repeat (first|exact qg|refine qo ?_|refine yg ?_|refine x6 ?_|refine qY ?_ ?_));all_goals (first|(rw [hlen1];done)|(rw [hgs,List.map_append,List.take_of_length_le (by simp)];show _ = _ ++ [(xu c v t[i]).row];rw [hrow];rfl)));(case ghs=>(repeat (first|exact qj|refine j4 ?_|refine q6 ?_ ?_));all_goals (first|(rw [hlen1];done)|(rw [hgs,List.map_append,List.take_of_length_le (by simp)];show _ = _ ++ [(xu c v t[i]).row];rw [hrow];rfl)))
 ·obtain rfl:i = t.length:=by omega
  unfold zX at hsofar
  rw [List.take_length] at hsofar
  simp only [yP,hk,hsofar] at hbad
  simp at hbad
theorem qat (t:List Ent) (c:Chg) (v:Int) (hl:t.length ≤ 400000) (hk:c.kind = 3) (hgt : ∀ x,x ∈ t → qH x.path = 0) (hc1:qH c.path = 0) (hc2:qH c.to = 0) (hbad:yP t c = false) (hs:qU jf t = true) :
  qZ C1.P 112 [.os 0 0 t.length,.agg c.row,.v (.int .i64 v)] [.own false 4 (t.map Ent.row)] (V8 (j5 t c v) (jh t c v).length) [.dead,.own false 4 ((jh t c v).map Ent.row)]:=by
 have l1:=qQ hc1
 have l2:=qQ hc2
 have hnb : ∀ x,x ∈ t → inB x.path c.path = true → j8 (c.to ++ x.path.drop c.path.length) = false:=fun x hx hi=>by
  simp only [yP,hk,decide_true,Bool.true_and,List.any_eq_false] at hbad
  simpa using hbad x (List.mem_filter.2 ⟨hx,hi⟩)
 have hwo:=Zw t c.path (by omega) (by omega)
 have hD:jh t c v = (jI t c v).foldl jR (j7 (zJ c.path) t):=by simp [jh,hk]
 have hE:j5 t c v = if 60 < (jh t c v).length then 2 else 0:=by simp [j5,hbad]
 have hkl:(j7 (zJ c.path) t).length ≤ t.length:=List.length_filter_le ..
 have hkr:=z8 (p:=zJ c.path) hs
 have hml:(t.map Ent.row).length = t.length:=List.length_map ..
 refine qc (C:=C1) Tryz.func112 rfl _ Tryz.ntmps112 (Nat.le_of_ble_eq_true rfl) _ Tryz.results112 1 rfl rfl ?_
 repeat' (first|refine qn ?_|fail|((first|refine qf ?_ ?_|refine qe ?_ ?_|refine xsC ?_ ?_);all_goals (intro hc;have hp:=hc;try simp at hp;try (exfalso;omega)))|refine qX ?_ ?_)
 all_goals try (exfalso;omega)
 refine Awp.red (C:=C1) (ye 8 4 rfl (Nat.le_of_ble_eq_true rfl)) ?_
 (refine Awp.red (qB (τ:=⟨[(0,.os 0 0 t.length),(2,.v (.int .i64 v)),(4,.op 1 0 0),(8,.os 2 0 0),(43,.os 0 0 t.length),(44,.v (.int .i64 t.length)),(45,.v (.int .i64 ((0:Nat):Int)))],[(0,.own false 4 (t.map Ent.row)),(1,.own false 5 [c.row]),(2,.own false 4 [])],3⟩) [(1,1),(2,2)] rfl ?gts ?ghs) ?gmain;(case gts=>(repeat (first|exact qg|refine qo ?_|refine yg ?_|refine x6 ?_|refine qY ?_ ?_)));(case ghs=>(repeat (first|exact qj|refine j4 ?_|refine q6 ?_ ?_))))
 refine qV (C:=C1) (fun n σ => ∃ i:Nat,i ≤ t.length ∧ n = t.length - i ∧ True ∧ σ = ⟨[(0,.os 0 0 t.length),(2,.v (.int .i64 v)),(4,.op 1 0 0),(8,.os 2 0 (jI (t.take i) c v).length),(43,.os 0 0 t.length),(44,.v (.int .i64 t.length)),(45,.v (.int .i64 (i:Int)))],[(0,.own false 4 (t.map Ent.row)),(1,.own false 5 [c.row]),(2,.own false 4 ((jI (t.take i) c v).map Ent.row))],3⟩) t.length ⟨0,Nat.zero_le _,rfl,trivial,rfl⟩ ?_
 rintro n σ ⟨i,hi,rfl, -,rfl⟩
 have hgl:(jI (t.take i) c v).length ≤ i:=by
  unfold jI
  rw [List.length_map]
  have h1:((t.take i).filter (zJ c.path)).length ≤ (t.take i).length:=List.length_filter_le ..
  simp at h1;omega
 by_cases hlt:i < t.length
 ·have hr:=jB (f:=Ent.row) hlt
  have hpx:=hgt t[i] (List.getElem_mem _)
  have lx:=qQ hpx
  have hin:=qau t[i].path c.path (by omega)
  have hgs := @Xd t c v i hlt
  have hmv:=qbB t[i].path c.path c.to (by omega) (by omega) (by omega)
  have hme := @Ja t[i].path c.path c.to hpx hc1 hc2
  have hnb1:=hnb t[i] (List.getElem_mem _)
  have hmt : ∀ w,(if t[i].path = c.path then v else t[i].ver) = w → (xu c v t[i]).row = [.v (str (c.to ++ t[i].path.drop c.path.length)),.v (.bool t[i].fold),.v (str t[i].text),.v (.int .i64 w)]:=fun w hw=>by simp [xu,Ent.row,hw]
  generalize hG:jI (t.take i) c v = G at hgl hgs ⊢
  generalize inB t[i].path c.path = I at *
  cases I with
  | false =>
    rw [if_neg (by decide)] at hgs
    repeat' (first|refine qn ?_|(first|(refine xC ?_)|(refine jL ?_)|(refine yi ?_)|refine jv Tryz.func123 (hin ..) ?_|refine j1 Tryz.func145 (hmv ..) ?_)|((first|refine qf ?_ ?_|refine qe ?_ ?_|refine xsC ?_ ?_);all_goals (intro hc;have hp:=hc;try simp at hp;try (exfalso;omega)))|refine qX ?_ ?_)
    all_goals try (exfalso;omega)
    refine ⟨t.length - (i + 1),_,by omega,qB (τ:=⟨[(0,.os 0 0 t.length),(2,.v (.int .i64 v)),(4,.op 1 0 0),(8,.os 2 0 (jI (t.take (i + 1)) c v).length),(43,.os 0 0 t.length),(44,.v (.int .i64 t.length)),(45,.v (.int .i64 ((i + 1:Nat):Int)))],[(0,.own false 4 (t.map Ent.row)),(1,.own false 5 [c.row]),(2,.own false 4 ((jI (t.take (i + 1)) c v).map Ent.row))],3⟩) [(1,1),(2,2)] rfl ?gts ?ghs,i + 1,by omega,rfl,trivial,rfl⟩;(case gts=>(repeat (first|exact qg|refine qo ?_|refine yg ?_|refine x6 ?_|refine qY ?_ ?_));all_goals (rw [hgs]));(case ghs=>(repeat (first|exact qj|refine j4 ?_|refine q6 ?_ ?_));all_goals (rw [hgs]))
  | true =>
    have hme2:=hme rfl
    clear hme
    rw [if_pos rfl] at hgs
    have hlen1:(jI (t.take (i + 1)) c v).length = G.length + 1:=by rw [hgs];simp
    generalize c.to ++ t[i].path.drop c.path.length = Q at *
    generalize za t[i].path c.path c.to = E at *
    have hq:j8 Q = false:=hnb1 rfl
    rw [hq,if_neg (by decide)] at hme2
    subst hme2
    repeat' (first|refine qn ?_|(first|(refine xC ?_)|(refine jL ?_)|(refine yi ?_)|refine jv Tryz.func123 (hin ..) ?_|refine j1 Tryz.func145 (hmv ..) ?_)|((first|refine qf ?_ ?_|refine qe ?_ ?_|refine xsC ?_ ?_);all_goals (intro hc;have hp:=hc;try simp at hp;try (exfalso;omega)))|refine qX ?_ ?_)
    all_goals try (exfalso;omega)
    ·have hrow:=hmt v (if_pos (by assumption))
     clear hmt hin hmv hgt hpx lx hr hq hnb hnb1 hwo hE hD
     refine ⟨t.length - (i + 1),_,by omega,qB (τ:=⟨[(0,.os 0 0 t.length),(2,.v (.int .i64 v)),(4,.op 1 0 0),(8,.os 2 0 (jI (t.take (i + 1)) c v).length),(43,.os 0 0 t.length),(44,.v (.int .i64 t.length)),(45,.v (.int .i64 ((i + 1:Nat):Int)))],[(0,.own false 4 (t.map Ent.row)),(1,.own false 5 [c.row]),(2,.own false 4 ((jI (t.take (i + 1)) c v).map Ent.row))],3⟩) [(1,1),(4,2)] rfl ?gts ?ghs,i + 1,by omega,rfl,trivial,rfl⟩;(case gts=>(repeat (first|exact qg|refine qo ?_|refine yg ?_|refine x6 ?_|refine qY ?_ ?_));all_goals (first|(rw [hlen1];done)|(rw [hgs,List.map_append,List.take_of_length_le (by simp)];show _ = _ ++ [(xu c v t[i]).row];rw [hrow];rfl)));(case ghs=>(repeat (first|exact qj|refine j4 ?_|refine q6 ?_ ?_));all_goals (first|(rw [hlen1];done)|(rw [hgs,List.map_append,List.take_of_length_le (by simp)];show _ = _ ++ [(xu c v t[i]).row];rw [hrow];rfl)))
    ·have hrow:=hmt t[i].ver (if_neg (by assumption))
     clear hmt hin hmv hgt hpx lx hr hq hnb hnb1 hwo hE hD
     refine ⟨t.length - (i + 1),_,by omega,qB (τ:=⟨[(0,.os 0 0 t.length),(2,.v (.int .i64 v)),(4,.op 1 0 0),(8,.os 2 0 (jI (t.take (i + 1)) c v).length),(43,.os 0 0 t.length),(44,.v (.int .i64 t.length)),(45,.v (.int .i64 ((i + 1:Nat):Int)))],[(0,.own false 4 (t.map Ent.row)),(1,.own false 5 [c.row]),(2,.own false 4 ((jI (t.take (i + 1)) c v).map Ent.row))],3⟩) [(1,1),(4,2)] rfl ?gts ?ghs,i + 1,by omega,rfl,trivial,rfl⟩;(case gts=>(repeat (first|exact qg|refine qo ?_|refine yg ?_|refine x6 ?_|refine qY ?_ ?_));all_goals (first|(rw [hlen1];done)|(rw [hgs,List.map_append,List.take_of_length_le (by simp)];show _ = _ ++ [(xu c v t[i]).row];rw [hrow];rfl)));(case ghs=>(repeat (first|exact qj|refine j4 ?_|refine q6 ?_ ?_));all_goals (first|(rw [hlen1];done)|(rw [hgs,List.map_append,List.take_of_length_le (by simp)];show _ = _ ++ [(xu c v t[i]).row];rw [hrow];rfl)))
 obtain rfl:i = t.length:=by omega
 have hgl2:(jI t c v).length ≤ t.length:=by rw [List.take_length] at hgl;exact hgl
 rw [List.take_length]
 generalize hK:j7 (zJ c.path) t = K at *
 generalize hGo:jI t c v = G at *
 generalize j5 t c v = E at *
 clear hnb hgl
 repeat' (first|refine qn ?_|(first|(apply jo Tryz.func144 rfl rfl;intro hIsFn;refine JB ([0]) 0 hIsFn (hwo ..) ?_))|((first|refine qf ?_ ?_|refine qe ?_ ?_|refine xsC ?_ ?_);all_goals (intro hc;have hp:=hc;try simp at hp;try (exfalso;omega)))|refine qX ?_ ?_)
 all_goals try (exfalso;omega)
 refine Awp.red (C:=C1) (W7 0 0 K.length rfl rfl (List.take_of_length_le (by simp)) (Nat.ne_of_beq_eq_false rfl) (Nat.le_of_ble_eq_true rfl)) ?_
 (refine Awp.red (qB (τ:=⟨[(0,.os 2 0 ((G.take 0).foldl jR K).length),(86,.os 1 0 G.length),(87,.v (.int .i64 G.length)),(88,.v (.int .i64 ((0:Nat):Int)))],[(1,.own false 4 (G.map Ent.row)),(2,.own false 4 (((G.take 0).foldl jR K).map Ent.row))],3⟩) [(2,1),(3,2)] rfl ?gts2 ?ghs2) ?gmain2;(case gts2=>(repeat (first|exact qg|refine qo ?_|refine yg ?_|refine x6 ?_|refine qY ?_ ?_));all_goals skip);(case ghs2=>(repeat (first|exact qj|refine j4 ?_|refine q6 ?_ ?_))))
 refine qV (C:=C1) (fun n σ => ∃ i:Nat,i ≤ G.length ∧ n = G.length - i ∧ True ∧ σ = ⟨[(0,.os 2 0 ((G.take i).foldl jR K).length),(86,.os 1 0 G.length),(87,.v (.int .i64 G.length)),(88,.v (.int .i64 (i:Int)))],[(1,.own false 4 (G.map Ent.row)),(2,.own false 4 (((G.take i).foldl jR K).map Ent.row))],3⟩) G.length ⟨0,Nat.zero_le _,rfl,trivial,rfl⟩ ?_
 rintro n σ ⟨i,hi,rfl, -,rfl⟩
 have hLr:=zD (l:=G.take i) hkr
 have hLl:=QG (G.take i) K
 have hLs:=fun h => @W0 G K i h
 have htl:(G.take i).length ≤ G.length:=by simp;omega
 by_cases hlt:i < G.length
 ·have hr:=jB (f:=Ent.row) hlt
  have hLs:=hLs hlt
  generalize (G.take i).foldl jR K = L at *
  have hput:=qds L G[i] (by omega) hLr
  rw [← hLs] at hput
  repeat' (first|refine qn ?_|(first|(refine xC ?_)|(apply jo Tryz.func143 rfl rfl;intro hIsFn;refine kf ([2]) 2 hIsFn (hput ..) ?_))|((first|refine qf ?_ ?_|refine qe ?_ ?_|refine xsC ?_ ?_);all_goals (intro hc;have hp:=hc;try simp at hp;try (exfalso;omega)))|refine qX ?_ ?_)
  all_goals try (exfalso;omega)
  clear hLr hLl hput hr hwo hE hD hkr
  refine ⟨G.length - (i + 1),_,by omega,qB (τ:=⟨[(0,.os 2 0 ((G.take (i + 1)).foldl jR K).length),(86,.os 1 0 G.length),(87,.v (.int .i64 G.length)),(88,.v (.int .i64 ((i + 1:Nat):Int)))],[(1,.own false 4 (G.map Ent.row)),(2,.own false 4 (((G.take (i + 1)).foldl jR K).map Ent.row))],3⟩) [(1,1),(4,2)] rfl ?gts ?ghs,i + 1,by omega,rfl,trivial,rfl⟩;(case gts=>(repeat (first|exact qg|refine qo ?_|refine yg ?_|refine x6 ?_|refine qY ?_ ?_)));(case ghs=>(repeat (first|exact qj|refine j4 ?_|refine q6 ?_ ?_)))
 obtain rfl:i = G.length:=by omega
 rw [List.take_length] at *
 rw [← hD] at *
 generalize jh t c v = L at *
 by_cases h60:60 < L.length
 ·rw [if_pos h60] at hE
  subst hE
  repeat' (first|refine qn ?_|fail|((first|refine qf ?_ ?_|refine qe ?_ ?_|refine xsC ?_ ?_);all_goals (intro hc;have hp:=hc;try simp at hp;try (exfalso;omega)))|refine qX ?_ ?_)
  all_goals try (exfalso;omega)
  (refine QV (rs:=[.tmp 6,.tmp 7]) [(2,1)] 2 ?_;(apply xn 0;exact qN rfl;(repeat (first|exact qj|refine j4 ?_|refine q6 ?_ ?_)));all_goals trace_state)
 ·rw [if_neg h60] at hE
  subst hE
  repeat' (first|refine qn ?_|fail|((first|refine qf ?_ ?_|refine qe ?_ ?_|refine xsC ?_ ?_);all_goals (intro hc;have hp:=hc;try simp at hp;try (exfalso;omega)))|refine qX ?_ ?_)
  all_goals try (exfalso;omega)
  (refine QV (rs:=[.tmp 6,.tmp 7]) [(2,1)] 2 ?_;(apply xn 0;exact qN rfl;(repeat (first|exact qj|refine j4 ?_|refine q6 ?_ ?_)));all_goals trace_state)
end Go.Proofs.YtamejbkifpjhiaaGreatDoor
