import Derived.Test.YtnhpclmbhbblbaaGreatDoorMz21
import Derived.Test.YtnhpclmbhbblbaaGreatDoorMz39
import Derived.Test.YtnhpclmbhbblbaaGreatDoorMz11
import Derived.Test.YtnhpclmbhbblbaaGreatDoorMz22
import Derived.Test.YtnhpclmbhbblbaaGreatDoorMz0
set_option linter.unusedSimpArgs false
set_option linter.unnecessarySimpa false
set_option linter.unusedVariables false
set_option maxHeartbeats 1000000
namespace Go.Proofs.YtnhpclmbhbblbaaGreatDoor
open Go.Ab Go.RowKit
set_option maxRecDepth 10000
attribute [local irreducible] Awp yl jE jl Red qX Go.Ab.Fin qW Rz vl jj ji ResOk jV jz yb jv
theorem qfO {b:Int} {l:List Chg} {i:Nat} (h:i < l.length) :
  (((l.take i).map (reb b) ++ l.drop i).map Chg.row).set i (reb b l[i]).row = ((l.take (i + 1)).map (reb b) ++ l.drop (i + 1)).map Chg.row:=by
 rw [← List.map_set,List.take_succ_eq_append_getElem h,List.map_append (f:=reb b),List.map_singleton,List.append_assoc]
 congr 1
 rw [List.set_append_right _ _ (by simp;omega)]
 congr 1
 rw [show i - ((l.take i).map (reb b)).length = 0 from by simp;omega,List.drop_eq_getElem_cons h]
 rfl
theorem qfN {b:Int} {l:List Chg} {i:Nat} (h:i < l.length):(((l.take i).map (reb b) ++ l.drop i).map Chg.row)[i]? = some l[i].row:=by
 rw [List.getElem?_map,List.getElem?_append_right (by simp;omega),show i - ((l.take i).map (reb b)).length = 0 from by simp;omega,List.drop_eq_getElem_cons h]
 rfl
def zSl:AV:=ofV (.slice none 0 0)
def qgO:List AV:=[.v (str []),.v (str []),zSl,.v (.int .i64 0),zSl,.v (str []),zSl,.v (.int .i64 0)]
def qgP:List AV:=[.v (.int .i64 0),.v (str []),.v (str []),.v (str []),.v (str []),.v (str []),.v (.int .i64 0),.v (.int .i64 0),.v (.int .i64 0),zSl]
set_option maxHeartbeats 4000000 in
theorem qgs (c:Cli) (hb:CliBig c):yO C.P 51 [.agg c.row] (qhp (qbW c)):=by
 have h1:=Ym c hb
 unfold qbW
 by_cases hz:yX c = 0
 ·rw [if_neg (by simp [hz])]
  have hR:=Qy.1 hz
  have hB:=ju.1 hR.base
  have hM:=ju.1 hR.mine
  have h3:=Ju c (by have:=hB.len;omega) (by have:=hM.len;omega) (by have:=hR.few;omega)
  rw [hz] at h1
  have hfew:=hR.few
  have hcl:=Xc c.asked (by omega)
  unfold qey
  by_cases hk:c.key = []
  ·rw [if_pos hk]
   have hraw:=qgr c.base c.mine (by have:=hB.len;omega) (by have:=hM.len;omega) hB.big.each hB.rise hM.rise
   have hit:=qgl (c.keys + 1) (by have:=hR.keys;omega) (by have:=hR.keys;omega)
   have hkeys:=hR.keys
   have hw10:=hR.lwho
   have hil:(Lib.itoa (c.keys + 1)).length ≤ 2000000:=by
    obtain ⟨k,hk⟩ : ∃ k:Nat,c.keys + 1 = (k:Int):=⟨(c.keys + 1).toNat,by omega⟩
    rw [hk,WR]
    have:=qe7 k
    omega
   have hil2:(c.who ++ [45]).length ≤ 11:=by rw [List.length_append];simp;omega
   have hSL:Kj c = ((KR c.base c.mine).take 20).map (reb c.cursor):=rfl
   have hSC:Ki c = { c with keys:=c.keys + 1,key:=c.who ++ [45] ++ Lib.itoa (c.keys + 1),asked:=Kj c }:=rfl
   generalize Ki c = S at *
   generalize Kj c = SL at *
   generalize KR c.base c.mine = D at *
   obtain ⟨m,hm⟩ : ∃ m:Nat,(m:Int) = min (D.length:Int) 20:=⟨min D.length 20,by omega⟩
   have hmD:m ≤ D.length:=by omega
   have hm20:m ≤ 20:=by omega
   by_cases hd:D = []
   ·rw [if_pos hd]
    have hd0:D.length = 0:=by rw [hd];rfl
    refine qa Tryz.func51 rfl _ Tryz.ntmps51 (Nat.le_of_ble_eq_true rfl) _ Tryz.results51 0 rfl rfl ?_
    repeat' (first|refine qm ?_|(first|refine xsQ Tryz.func22 (h1 ..) ?_|refine xsQ Tryz.func43 (h3 ..) ?_|(apply jT Tryz.func80 rfl rfl;intro hIsFn;refine wY ([]) hIsFn (hraw ..) ?_)|(apply qf;apply qaV;(case hx=>rfl);(case hy=>rfl);(case hN=>exact nle rfl))|(apply qf;apply wS (a:=0) (b:=m);(case hx=>rfl);(case hT=>rfl);(case he=>rfl);(case hE=>rfl);(case hn=>rfl);(case ha=>rfl);(case hb=>exact ⟨_,xi hm.symm⟩);(case hab=>omega);(case hbl=>(rw [List.length_map];omega));(case hN=>exact nle rfl)))|((first|refine xsC ?_ ?_);all_goals (intro hc;have hp:=hc;try simp at hp;try (exfalso;omega)))|refine qO ?_ ?_)
    all_goals try (exfalso;first|omega|contradiction)
    all_goals ((exact xE (rs:=[.cell 2 38,.cell 3 93,.tmp 4,.tmp 5])))
   ·rw [if_neg hd]
    have hd0:¬ D.length = 0:=by rw [List.length_eq_zero_iff];exact hd
    by_cases hmax:c.keys = 1000000
    ·rw [if_pos hmax]
     refine qa Tryz.func51 rfl _ Tryz.ntmps51 (Nat.le_of_ble_eq_true rfl) _ Tryz.results51 0 rfl rfl ?_
     repeat' (first|refine qm ?_|(first|refine xsQ Tryz.func22 (h1 ..) ?_|refine xsQ Tryz.func43 (h3 ..) ?_|(apply jT Tryz.func80 rfl rfl;intro hIsFn;refine wY ([]) hIsFn (hraw ..) ?_)|(apply qf;apply qaV;(case hx=>rfl);(case hy=>rfl);(case hN=>exact nle rfl))|(apply qf;apply wS (a:=0) (b:=m);(case hx=>rfl);(case hT=>rfl);(case he=>rfl);(case hE=>rfl);(case hn=>rfl);(case ha=>rfl);(case hb=>exact ⟨_,xi hm.symm⟩);(case hab=>omega);(case hbl=>(rw [List.length_map];omega));(case hN=>exact nle rfl)))|((first|refine xsC ?_ ?_);all_goals (intro hc;have hp:=hc;try simp at hp;try (exfalso;omega)))|refine qO ?_ ?_)
     all_goals try (exfalso;first|omega|contradiction)
     all_goals ((exact xE (rs:=[.cell 2 38,.cell 3 93,.tmp 4,.tmp 5])))
    ·rw [if_neg hmax]
     refine qa Tryz.func51 rfl _ Tryz.ntmps51 (Nat.le_of_ble_eq_true rfl) _ Tryz.results51 0 rfl rfl ?_
     repeat' (first|refine qm ?_|(first|refine xsQ Tryz.func22 (h1 ..) ?_|refine xsQ Tryz.func43 (h3 ..) ?_|(apply jT Tryz.func80 rfl rfl;intro hIsFn;refine wY ([]) hIsFn (hraw ..) ?_)|(apply qf;apply qaV;(case hx=>rfl);(case hy=>rfl);(case hN=>exact nle rfl))|(apply qf;apply wS (a:=0) (b:=m);(case hx=>rfl);(case hT=>rfl);(case he=>rfl);(case hE=>rfl);(case hn=>rfl);(case ha=>rfl);(case hb=>exact ⟨_,xi hm.symm⟩);(case hab=>omega);(case hbl=>(rw [List.length_map];omega));(case hN=>exact nle rfl)))|((first|refine xsC ?_ ?_);all_goals (intro hc;have hp:=hc;try simp at hp;try (exfalso;omega)))|refine qO ?_ ?_)
     all_goals try (exfalso;first|omega|contradiction)
     refine Awp.red (qbV 3 m rfl (rows':=(D.take m).map Chg.row) (by rw [List.map_take])) ?_
     have hLl:(D.take m).length = m:=by rw [List.length_take];omega
     have hSL:SL = (D.take m).map (reb c.cursor):=by rw [hSL,List.take_eq_take_iff.2 (show min 20 D.length = min m D.length from by omega)]
     generalize D.take m = L at *
     subst hLl
     (refine Awp.red (qC (τ:=⟨[(1,.op 0 0 0),(2,.op 1 0 0),(3,.op 2 0 0),(7,.os 3 0 L.length),(42,.v (.int .i64 L.length)),(43,.v (.int .i64 ((0:Nat):Int)))],[(0,.own false 8 [c.row]),(1,.own false 8 [qgO]),(2,.own false 10 [qgP]),(3,.own false 5 (((L.take 0).map (reb c.cursor) ++ L.drop 0).map Chg.row))],4⟩) [(0,0),(1,1),(2,2),(3,3)] rfl ?gts2 ?ghs2) ?gmain2;(case gts2=>(repeat (first|exact qg|refine qn ?_|refine ye ?_|refine xr ?_|refine xw ?_ ?_|refine qS ?_ ?_));all_goals (first|omega|rfl|trace_state));(case ghs2=>(repeat' (first|exact qj|refine zz ?_|refine yH ?_ ?_|refine q9 ?_ ?_|exact ql|apply qh|exact qk rfl|refine jn ?_|refine yR ?_ rfl));all_goals (first|omega|rfl|trace_state)))
     refine qP (fun n σ => ∃ i:Nat,i ≤ L.length ∧ n = L.length - i ∧ (True) ∧ σ = ⟨[(1,.op 0 0 0),(2,.op 1 0 0),(3,.op 2 0 0),(7,.os 3 0 L.length),(42,.v (.int .i64 L.length)),(43,.v (.int .i64 (i:Int)))],[(0,.own false 8 [c.row]),(1,.own false 8 [qgO]),(2,.own false 10 [qgP]),(3,.own false 5 (((L.take i).map (reb c.cursor) ++ L.drop i).map Chg.row))],4⟩) L.length ⟨0,Nat.zero_le _,rfl,trivial,rfl⟩ ?_
     rintro n σ ⟨i,hi,rfl, -,rfl⟩
     by_cases hlt:i < L.length
     ·have hr:=qfN (b:=c.cursor) hlt
      have hss:=qfO (b:=c.cursor) hlt
      repeat' (first|refine qm ?_|(first|(refine xX ?_))|((first|refine xsC ?_ ?_);all_goals (intro hc;have hp:=hc;try simp at hp;try (exfalso;omega)))|refine qO ?_ ?_)
      all_goals try (exfalso;omega)
      refine ⟨L.length - (i + 1),_,by omega,qC (τ:=⟨[(1,.op 0 0 0),(2,.op 1 0 0),(3,.op 2 0 0),(7,.os 3 0 L.length),(42,.v (.int .i64 L.length)),(43,.v (.int .i64 ((i + 1:Nat):Int)))],[(0,.own false 8 [c.row]),(1,.own false 8 [qgO]),(2,.own false 10 [qgP]),(3,.own false 5 (((L.take (i + 1)).map (reb c.cursor) ++ L.drop (i + 1)).map Chg.row))],4⟩) [(0,0),(1,1),(2,2),(3,3)] rfl ?gts ?ghs,i + 1,by omega,rfl,trivial,rfl⟩;(case gts=>(repeat (first|exact qg|refine qn ?_|refine ye ?_|refine xr ?_|refine xw ?_ ?_|refine qS ?_ ?_));all_goals (first|exact hss|trace_state));(case ghs=>(repeat (first|exact qj|refine zz ?_|refine q9 ?_ ?_));all_goals (first|exact hss|trace_state))
     obtain rfl:i = L.length:=by omega
     rw [List.take_length,List.drop_length,List.append_nil, ← hSL]
     have hLL:L.length = SL.length:=by rw [hSL,List.length_map]
     rw [hLL]
     refine Awp.red (wF 3 rfl (by intro row hrow;obtain ⟨x,_,rfl⟩:=List.mem_map.1 hrow;rfl)) ?_
     refine Awp.red (KT 7 3 rfl rfl (by simp)) ?_
     rw [List.drop_zero,List.take_of_length_le (by simp)]
     have hcl2:=Xc SL (by omega)
     clear hSL hLL hraw h1 h3 hcl
     subst hSC
     repeat' (first|refine qm ?_|(first|refine jc Tryz.func81 (hit ..) ?_|refine xsQ Tryz.func77 (hcl2 ..) ?_)|((first|refine xsC ?_ ?_);all_goals (intro hc;have hp:=hc;try simp at hp;try (exfalso;omega)))|refine qO ?_ ?_)
     all_goals try (exfalso;omega)
     all_goals ((exact xE (rs:=[.cell 2 38,.cell 3 93,.tmp 4,.tmp 5])))
  ·rw [if_neg hk]
   refine qa Tryz.func51 rfl _ Tryz.ntmps51 (Nat.le_of_ble_eq_true rfl) _ Tryz.results51 0 rfl rfl ?_
   repeat' (first|refine qm ?_|(first|refine xsQ Tryz.func22 (h1 ..) ?_|refine xsQ Tryz.func43 (h3 ..) ?_|refine xsQ Tryz.func77 (hcl ..) ?_)|((first|refine xsC ?_ ?_);all_goals (intro hc;have hp:=hc;try simp at hp;try (exfalso;omega)))|refine qO ?_ ?_)
   all_goals try (exfalso;first|omega|contradiction)
   all_goals ((exact xE (rs:=[.cell 2 38,.cell 3 93,.tmp 4,.tmp 5])))
 ·rw [if_pos hz]
  generalize yX c = E at *
  refine qa Tryz.func51 rfl _ Tryz.ntmps51 (Nat.le_of_ble_eq_true rfl) _ Tryz.results51 0 rfl rfl ?_
  repeat' (first|refine qm ?_|(first|refine xsQ Tryz.func22 (h1 ..) ?_)|((first|refine xsC ?_ ?_);all_goals (intro hc;have hp:=hc;try simp at hp;try (exfalso;omega)))|refine qO ?_ ?_)
  all_goals try (exfalso;first|omega|contradiction)
  all_goals ((exact xE (rs:=[.cell 2 38,.cell 3 93,.tmp 4,.tmp 5])))
end Go.Proofs.YtnhpclmbhbblbaaGreatDoor
set_option linter.unusedSimpArgs false
set_option linter.unusedVariables false
namespace Go.Proofs.YtnhpclmbhbblbaaGreatDoor
open Go.Ab Go.RowKit
set_option maxRecDepth 100000
def begC:Cli:=Zz [97] [102]
def qg0:Chg:=⟨2,[120],[],[49], -1⟩
def begD:Cli := { begC with mine:=[⟨[120],false,[49],1⟩] }
def qgx:Cli := { begD with key:=[97,45,49],asked:=[⟨2,[120],[],[49],0⟩],keys:=1 }
theorem qe1:yX begC = 0:=by decide
theorem qho:qdS begC qg0 = (begD,0):=by decide
theorem qe2:yX begD = 0:=by decide
theorem qdz:KR begD.base begD.mine = [⟨2,[120],[],[49], -1⟩]:=by decide
theorem qdA:Lib.itoa (begD.keys + 1) = [49]:=by
 rw [show begD.keys + 1 = ((1:Nat):Int) from rfl,WR,ZN (by decide)];rfl
theorem qe3:qbW begD = (qgx,qgv qgx,true,0):=by
 have h1:Kj begD = [⟨2,[120],[],[49],0⟩]:=by unfold Kj;rw [qdz];rfl
 have h2:Ki begD = qgx:=by unfold Ki;rw [h1,qdA];rfl
 unfold qbW qey
 rw [if_neg (by rw [qe2];decide),if_pos (show begD.key = [] from rfl),qdz,if_neg (by simp),if_neg (by decide),h2]
end Go.Proofs.YtnhpclmbhbblbaaGreatDoor
set_option linter.unusedSimpArgs false
set_option linter.unnecessarySimpa false
set_option linter.unusedVariables false
set_option maxHeartbeats 1000000
namespace Go.Proofs.YtnhpclmbhbblbaaGreatDoor
open Go.Ab Go.RowKit
set_option maxRecDepth 10000
attribute [local irreducible] Awp yl jE jl Red qX Go.Ab.Fin qW Rz vl jj ji ResOk jV jz yb jv
theorem KI:EBig []:=⟨fun _ h=>(by cases h),by simp⟩
theorem KJ:CBig []:=⟨fun _ h=>(by cases h),by simp⟩
theorem qdx:CliBig begC:=WY (by decide) (by decide)
theorem qdy:CliBig begD:=⟨by decide,by decide,KI,⟨fun x h=>by rw [List.mem_singleton.1 h];exact ⟨by decide,by decide⟩,by decide⟩,by decide,KJ⟩
theorem qdf:yO C.P 20 [] (.v (.bool true)):=by
 have h1:=qgo [97] [102] (by decide) (by decide)
 rw [show Zz [97] [102] = begC from rfl,qe1] at h1
 have h2:=qgi begC qg0 qdx ⟨by decide,by decide,by decide⟩
 rw [qho] at h2
 have h3:=qgs begD qdy
 rw [qe3] at h3
 refine qa Tryz.func20 rfl _ Tryz.ntmps20 (Nat.le_of_ble_eq_true rfl) _ Tryz.results20 0 rfl rfl ?_
 repeat' (first|refine qm ?_|(first|refine xsQ Tryz.func49 (h1 ..) ?_|refine xsQ Tryz.func50 (h2 ..) ?_|refine xsQ Tryz.func51 (h3 ..) ?_)|((first|refine qd ?_ ?_|refine qc ?_ ?_|refine xsC ?_ ?_);all_goals (intro hc;have hp:=hc;try simp at hp;try (exfalso;omega)))|refine qO ?_ ?_)
 all_goals try (exfalso;simp_all;done)
 all_goals (apply jB;rfl;rfl)
theorem Vs (c d:Cli) (e w:Int) (hc:CliBig c) (hd:CliBig d):yO C.P 21 [.agg c.row,.v (.int .i64 e),.v (.int .i64 w),.agg d.row] (.v (.bool (decide (e = w) && decide (c = if w = 0 then d else zl)))):=by
 by_cases hw:w = 0
 ·have h1:=ZD c d hc.base.len hd.base.len hc.mine.len hd.mine.len hc.asked.len hd.asked.len
  rw [if_pos hw]
  generalize decide (c = d) = D at *
  refine qa Tryz.func21 rfl _ Tryz.ntmps21 (Nat.le_of_ble_eq_true rfl) _ Tryz.results21 0 rfl rfl ?_
  repeat' (first|refine qm ?_|(first|refine jc Tryz.func52 (h1 ..) ?_)|((first|refine qd ?_ ?_|refine qc ?_ ?_|refine xsC ?_ ?_);all_goals (intro hc;have hp:=hc;try simp at hp;try (exfalso;omega)))|refine qO ?_ ?_)
  all_goals try (exfalso;omega)
  all_goals (apply jB;rfl;clear h1;simp_all)
 ·have h1:=ZD c zl hc.base.len (by decide) hc.mine.len (by decide) hc.asked.len (by decide)
  rw [if_neg hw]
  generalize decide (c = zl) = D at *
  have h1:yO C.P 52 [.agg c.row,.agg [.v (str []),.v (str []),.sl false [],.v (.int .i64 0),.sl false [],.v (str []),.sl false [],.v (.int .i64 0)]] (.v (.bool D)):=h1
  refine qa Tryz.func21 rfl _ Tryz.ntmps21 (Nat.le_of_ble_eq_true rfl) _ Tryz.results21 0 rfl rfl ?_
  repeat' (first|refine qm ?_|(first|refine jc Tryz.func52 (h1 ..) ?_)|((first|refine qd ?_ ?_|refine qc ?_ ?_|refine xsC ?_ ?_);all_goals (intro hc;have hp:=hc;try simp at hp;try (exfalso;omega)))|refine qO ?_ ?_)
  all_goals try (exfalso;omega)
  all_goals (apply jB;rfl;clear h1;simp_all)
theorem kr:CliBig zl:=⟨by decide,by decide,KI,KI,by decide,KJ⟩
theorem qec {P:Prop} [Decidable P] {α:Type} (x:α):(if P then x else x) = x:=by split<;>rfl
end Go.Proofs.YtnhpclmbhbblbaaGreatDoor
