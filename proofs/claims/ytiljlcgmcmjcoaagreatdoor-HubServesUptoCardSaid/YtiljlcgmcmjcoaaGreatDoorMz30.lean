import Derived.Test.YtiljlcgmcmjcoaaGreatDoorMz29
import Derived.Test.YtiljlcgmcmjcoaaGreatDoorMz22
import Derived.Test.YtiljlcgmcmjcoaaGreatDoorMz7
set_option linter.unusedSimpArgs false
set_option linter.unnecessarySimpa false
set_option linter.unusedVariables false
set_option maxHeartbeats 1000000
namespace Go.Proofs.YtiljlcgmcmjcoaaGreatDoor
open Go.Ab Go.RowKit
set_option maxRecDepth 10000
attribute [local irreducible] Awp ye ji qQ Red qF Go.Ab.Fin qo Rz xx qG qO ResOk jK je jX qW
theorem qiR (h:Hub) (r:Rqt) (hk:r.kind < 1 ∨ 8 < r.kind):qo C2h.P 45 [.op 0 0 0] (HS h r) (vk (kF 0) 7) (HS h r):=by
 refine qa (C:=C2h) Tryz.func45 rfl _ Tryz.ntmps45 (Nat.le_of_ble_eq_true rfl) _ Tryz.results45 2 rfl rfl ?_
 repeat' (first|refine qe ?_|(first|fail)|((first|refine qb ?_ ?_|refine qc ?_ ?_|refine xsC ?_ ?_);all_goals (intro hc;have hp:=hc;try simp at hp;try (exfalso;omega)))|refine qp ?_ ?_)
 all_goals try (exfalso;first|omega|(rcases hk with hk|hk<;>simp_all<;>omega))
 all_goals ((apply jp (rs:=[.cell 2 46,.tmp 3]) [] 2;(case hr=>(repeat (first|exact qS|(apply qU;rfl)|(apply qK;rfl;rfl;rfl;rfl;rfl))));(case hL=>rfl);(case hh=>(repeat' (first|exact qf|refine xf ?_|refine xa ?_|refine Ji ?_|refine qH ?_ ?_));all_goals rfl);(case hi=>exact rfl);(case hz=>first|rfl|(simp [jI,AV.ren,AV.ren.renL,qZ,qu,qX];done)|(simp [jI,AV.ren,AV.ren.renL,qZ,qu,qX, *];done)|trace_state)))
theorem qgD (h:Hub) (r:Rqt) (rb:r.who.length ≤ 1000000000) (hk:1 ≤ r.kind ∧ r.kind ≤ 8) (hn:ql r.who = false):qo C2h.P 45 [.op 0 0 0] (HS h r) (vk (kF 0) 1) (HS h r):=by
 have hw:=vA r.who (jC rb)
 rw [hn] at hw
 refine qa (C:=C2h) Tryz.func45 rfl _ Tryz.ntmps45 (Nat.le_of_ble_eq_true rfl) _ Tryz.results45 2 rfl rfl ?_
 repeat' (first|refine qe ?_|(first|refine xsF Tryz.func37 (hw ..) ?_)|((first|refine qb ?_ ?_|refine qc ?_ ?_|refine xsC ?_ ?_);all_goals (intro hc;have hp:=hc;try simp at hp;try (exfalso;omega)))|refine qp ?_ ?_)
 all_goals try (exfalso;omega)
 all_goals ((apply jp (rs:=[.cell 2 46,.tmp 3]) [] 2;(case hr=>(repeat (first|exact qS|(apply qU;rfl)|(apply qK;rfl;rfl;rfl;rfl;rfl))));(case hL=>rfl);(case hh=>(repeat' (first|exact qf|refine xf ?_|refine xa ?_|refine Ji ?_|refine qH ?_ ?_));all_goals rfl);(case hi=>exact rfl);(case hz=>first|rfl|(simp [jI,AV.ren,AV.ren.renL,qZ,qu,qX];done)|(simp [jI,AV.ren,AV.ren.renL,qZ,qu,qX, *];done)|trace_state)))
def Qh (n:Int) (b:Bool) (x1:Bool) (R1:List (List AV)) (x2:Bool) (R2:List (List AV)) (c:Int) (m:Bool):List AV:=[.v (.int .i64 0),.v (.int .i64 n),.v (.bool b),.sl x1 R1,.sl x2 R2,.v (.int .i64 c),.v (.bool m)]
theorem qba (h h' : Hub) (r:Rqt) (rb:r.who.length ≤ 1000000000) (hn:ql r.who = true) (hk:r.kind = 8) (rows:List (List AV)) (hpu : ∀ row,row ∈ rows → AV.pure.pureL row = true) (cs:List AV) (k:Nat) (hcp:AV.pure.pureL cs = true) (hc:qo C2h.P 82 [.op 0 0 0] (HS h r) (vk (kF 0) 0) [.own false 17 [.os 2 0 k :: cs],.dead,.own false 4 rows]) :
  qo C2h.P 45 [.op 0 0 0] (HS h r) (vk (kF 0) 0) [.own false 17 [.os 2 0 k :: cs],.dead,.own false 4 rows]:=by
 have hw:=vA r.who (jC rb)
 rw [hn] at hw
 obtain ⟨kind,who,folder,name,key,text,number,offset,base,chs⟩:=r
 dsimp only at *
 subst hk
 refine qa (C:=C2h) Tryz.func45 rfl _ Tryz.ntmps45 (Nat.le_of_ble_eq_true rfl) _ Tryz.results45 2 rfl rfl ?_
 repeat' (first|refine qe ?_|(first|refine xsF Tryz.func37 (hw ..) ?_|(apply qN Tryz.func82 rfl rfl;intro hIsFn;refine qay [0,1] [4] [(0,.own false 17 [.os 4 0 k :: cs]),(1,.dead),(4,.own false 4 rows)] 5 (vk (kF 0) 0) hIsFn (hc) (by ((repeat' (first|exact jR|apply jB|exact jS rfl|exact yz|(apply qD;apply jl;exact .inr (of_decide_eq_true rfl))|(apply qD;apply jh;exact .inr (of_decide_eq_true rfl))|(apply qD;apply q8;exact .inr (of_decide_eq_true rfl))|apply yd|apply yc)))<;>fail) (by ((repeat' (first|exact jo|exact jm|refine q6 _ ?_ ?_|refine q7 ?_ ?_|exact qP|exact qh (sideM_pure _)|exact qh (jE _)|exact qh (goesM_pure _)|exact q3 (fun _=>rfl)|refine q5 ?_|exact qV|apply qt|exact qy rfl|(apply jh;exact .inr (of_decide_eq_true rfl))|(apply q8;exact .inr (of_decide_eq_true rfl))|(apply jl;exact .inr (of_decide_eq_true rfl))|fail)))<;>fail) (by ((repeat' (first|exact jo|exact jm|refine q6 _ ?_ ?_|refine q7 ?_ ?_|exact qP|exact qh (sideM_pure _)|exact qh (jE _)|exact qh (goesM_pure _)|exact q3 (fun _=>rfl)|refine q5 ?_|exact qV|apply qt|exact qy rfl|(apply jh;exact .inr (of_decide_eq_true rfl))|(apply q8;exact .inr (of_decide_eq_true rfl))|(apply jl;exact .inr (of_decide_eq_true rfl))|first|exact Q9 hcp|exact zU hpu)))<;>fail) ?_))|((first|refine qb ?_ ?_|refine qc ?_ ?_|refine xsC ?_ ?_);all_goals (intro hc;have hp:=hc;try simp at hp;try (exfalso;omega)))|refine qp ?_ ?_)
 all_goals try (exfalso;omega)
 apply jp (rs:=[.cell 2 46,.tmp 3]) [(4,2)] 3
 case hr=>(repeat (first|exact qS|(apply qU;rfl)|(apply qK;rfl;rfl;rfl;rfl;rfl)))
 case hL=>rfl
 case hh =>
  refine qd3 ?_ (hc:=hcp)
  refine yp 1 (jj rfl) ?_
  refine Ji ?_
  exact qf
 case hi=>exact rfl
 case hz=>first|rfl|trace_state
theorem qaH (h h' : Hub) (r:Rqt) (rb:r.who.length ≤ 1000000000) (hn:ql r.who = true) (hk:r.kind = 8) (n:Int) (b:Bool) (x1:Bool) (R1:List (List AV)) (x2:Bool) (R2:List (List AV)) (c:Int) (m:Bool) (e:Int) (hc:qo C2h.P 82 [.op 0 0 0] (HS h r) (vk (Qh n b x1 R1 x2 R2 c m) e) (HS h' r)) :
  qo C2h.P 45 [.op 0 0 0] (HS h r) (vk (Qh n b x1 R1 x2 R2 c m) e) (HS h' r):=by
 have hw:=vA r.who (jC rb)
 rw [hn] at hw
 obtain ⟨kind,who,folder,name,key,text,number,offset,base,chs⟩:=r
 dsimp only at *
 subst hk
 refine qa (C:=C2h) Tryz.func45 rfl _ Tryz.ntmps45 (Nat.le_of_ble_eq_true rfl) _ Tryz.results45 2 rfl rfl ?_
 repeat' (first|refine qe ?_|(first|refine xsF Tryz.func37 (hw ..) ?_|(apply qN Tryz.func82 rfl rfl;intro hIsFn;refine xq [0,1] [(0,.own false 17 [vq 1 h' ⟨8,who,folder,name,key,text,number,offset,base,chs⟩]),(1,.own false 4 (h'.fols.map Fol.row))] (vk (Qh n b x1 R1 x2 R2 c m) e) hIsFn (hc) (by ((repeat' (first|exact jR|apply jB|exact jS rfl|exact yz|(apply qD;apply jl;exact .inr (of_decide_eq_true rfl))|(apply qD;apply jh;exact .inr (of_decide_eq_true rfl))|(apply qD;apply q8;exact .inr (of_decide_eq_true rfl))|apply yd|apply yc)))<;>fail) (by ((repeat' (first|exact jo|exact jm|refine q6 _ ?_ ?_|refine q7 ?_ ?_|exact qP|exact qh (sideM_pure _)|exact qh (jE _)|exact qh (goesM_pure _)|exact q3 (fun _=>rfl)|refine q5 ?_|exact qV|apply qt|exact qy rfl|(apply jh;exact .inr (of_decide_eq_true rfl))|(apply q8;exact .inr (of_decide_eq_true rfl))|(apply jl;exact .inr (of_decide_eq_true rfl))|fail)))<;>fail) (by ((repeat' (first|exact jo|exact jm|refine q6 _ ?_ ?_|refine q7 ?_ ?_|exact qP|exact qh (sideM_pure _)|exact qh (jE _)|exact qh (goesM_pure _)|exact q3 (fun _=>rfl)|refine q5 ?_|exact qV|apply qt|exact qy rfl|(apply jh;exact .inr (of_decide_eq_true rfl))|(apply q8;exact .inr (of_decide_eq_true rfl))|(apply jl;exact .inr (of_decide_eq_true rfl))|skip)))<;>fail) ?_))|((first|refine qb ?_ ?_|refine qc ?_ ?_|refine xsC ?_ ?_);all_goals (intro hc;have hp:=hc;try simp at hp;try (exfalso;omega)))|refine qp ?_ ?_)
 all_goals try (exfalso;omega)
 (apply jp (rs:=[.cell 2 46,.tmp 3]) [] 2;(case hr=>(repeat (first|exact qS|(apply qU;rfl)|(apply qK;rfl;rfl;rfl;rfl;rfl))));(case hL=>rfl);(case hh=>(repeat' (first|exact qf|refine xf ?_|refine xa ?_|refine Ji ?_|refine qH ?_ ?_));all_goals rfl);(case hi=>exact rfl);(case hz=>first|rfl|(simp [jI,AV.ren,AV.ren.renL,qZ,qu,qX];done)|(simp [jI,AV.ren,AV.ren.renL,qZ,qu,qX, *];done)|trace_state))
theorem qgb (h h' : Hub) (r:Rqt) (rb:r.who.length ≤ 1000000000) (hn:ql r.who = true) (hk:r.kind = 3) (n:Int) (b:Bool) (x1:Bool) (R1:List (List AV)) (x2:Bool) (R2:List (List AV)) (c:Int) (m:Bool) (e:Int) (hc:qo C2h.P 83 [.op 0 0 0] (HS h r) (vk (Qh n b x1 R1 x2 R2 c m) e) (HS h' r)) :
  qo C2h.P 45 [.op 0 0 0] (HS h r) (vk (Qh n b x1 R1 x2 R2 c m) e) (HS h' r):=by
 have hw:=vA r.who (jC rb)
 rw [hn] at hw
 obtain ⟨kind,who,folder,name,key,text,number,offset,base,chs⟩:=r
 dsimp only at *
 subst hk
 refine qa (C:=C2h) Tryz.func45 rfl _ Tryz.ntmps45 (Nat.le_of_ble_eq_true rfl) _ Tryz.results45 2 rfl rfl ?_
 repeat' (first|refine qe ?_|(first|refine xsF Tryz.func37 (hw ..) ?_|(apply qN Tryz.func83 rfl rfl;intro hIsFn;refine xq [0,1] [(0,.own false 17 [vq 1 h' ⟨3,who,folder,name,key,text,number,offset,base,chs⟩]),(1,.own false 4 (h'.fols.map Fol.row))] (vk (Qh n b x1 R1 x2 R2 c m) e) hIsFn (hc) (by ((repeat' (first|exact jR|apply jB|exact jS rfl|exact yz|(apply qD;apply jl;exact .inr (of_decide_eq_true rfl))|(apply qD;apply jh;exact .inr (of_decide_eq_true rfl))|(apply qD;apply q8;exact .inr (of_decide_eq_true rfl))|apply yd|apply yc)))<;>fail) (by ((repeat' (first|exact jo|exact jm|refine q6 _ ?_ ?_|refine q7 ?_ ?_|exact qP|exact qh (sideM_pure _)|exact qh (jE _)|exact qh (goesM_pure _)|exact q3 (fun _=>rfl)|refine q5 ?_|exact qV|apply qt|exact qy rfl|(apply jh;exact .inr (of_decide_eq_true rfl))|(apply q8;exact .inr (of_decide_eq_true rfl))|(apply jl;exact .inr (of_decide_eq_true rfl))|fail)))<;>fail) (by ((repeat' (first|exact jo|exact jm|refine q6 _ ?_ ?_|refine q7 ?_ ?_|exact qP|exact qh (sideM_pure _)|exact qh (jE _)|exact qh (goesM_pure _)|exact q3 (fun _=>rfl)|refine q5 ?_|exact qV|apply qt|exact qy rfl|(apply jh;exact .inr (of_decide_eq_true rfl))|(apply q8;exact .inr (of_decide_eq_true rfl))|(apply jl;exact .inr (of_decide_eq_true rfl))|skip)))<;>fail) ?_))|((first|refine qb ?_ ?_|refine qc ?_ ?_|refine xsC ?_ ?_);all_goals (intro hc;have hp:=hc;try simp at hp;try (exfalso;omega)))|refine qp ?_ ?_)
 all_goals try (exfalso;omega)
 (apply jp (rs:=[.cell 2 46,.tmp 3]) [] 2;(case hr=>(repeat (first|exact qS|(apply qU;rfl)|(apply qK;rfl;rfl;rfl;rfl;rfl))));(case hL=>rfl);(case hh=>(repeat' (first|exact qf|refine xf ?_|refine xa ?_|refine Ji ?_|refine qH ?_ ?_));all_goals rfl);(case hi=>exact rfl);(case hz=>first|rfl|(simp [jI,AV.ren,AV.ren.renL,qZ,qu,qX];done)|(simp [jI,AV.ren,AV.ren.renL,qZ,qu,qX, *];done)|trace_state))
theorem qfr (h h' : Hub) (r:Rqt) (rb:r.who.length ≤ 1000000000) (hn:ql r.who = true) (hk:r.kind = 2) (n:Int) (b:Bool) (x1:Bool) (R1:List (List AV)) (x2:Bool) (R2:List (List AV)) (c:Int) (m:Bool) (e:Int) (hc:qo C2h.P 84 [.op 0 0 0] (HS h r) (vk (Qh n b x1 R1 x2 R2 c m) e) (HS h' r)) :
  qo C2h.P 45 [.op 0 0 0] (HS h r) (vk (Qh n b x1 R1 x2 R2 c m) e) (HS h' r):=by
 have hw:=vA r.who (jC rb)
 rw [hn] at hw
 obtain ⟨kind,who,folder,name,key,text,number,offset,base,chs⟩:=r
 dsimp only at *
 subst hk
 refine qa (C:=C2h) Tryz.func45 rfl _ Tryz.ntmps45 (Nat.le_of_ble_eq_true rfl) _ Tryz.results45 2 rfl rfl ?_
 repeat' (first|refine qe ?_|(first|refine xsF Tryz.func37 (hw ..) ?_|(apply qN Tryz.func84 rfl rfl;intro hIsFn;refine xq [0,1] [(0,.own false 17 [vq 1 h' ⟨2,who,folder,name,key,text,number,offset,base,chs⟩]),(1,.own false 4 (h'.fols.map Fol.row))] (vk (Qh n b x1 R1 x2 R2 c m) e) hIsFn (hc) (by ((repeat' (first|exact jR|apply jB|exact jS rfl|exact yz|(apply qD;apply jl;exact .inr (of_decide_eq_true rfl))|(apply qD;apply jh;exact .inr (of_decide_eq_true rfl))|(apply qD;apply q8;exact .inr (of_decide_eq_true rfl))|apply yd|apply yc)))<;>fail) (by ((repeat' (first|exact jo|exact jm|refine q6 _ ?_ ?_|refine q7 ?_ ?_|exact qP|exact qh (sideM_pure _)|exact qh (jE _)|exact qh (goesM_pure _)|exact q3 (fun _=>rfl)|refine q5 ?_|exact qV|apply qt|exact qy rfl|(apply jh;exact .inr (of_decide_eq_true rfl))|(apply q8;exact .inr (of_decide_eq_true rfl))|(apply jl;exact .inr (of_decide_eq_true rfl))|fail)))<;>fail) (by ((repeat' (first|exact jo|exact jm|refine q6 _ ?_ ?_|refine q7 ?_ ?_|exact qP|exact qh (sideM_pure _)|exact qh (jE _)|exact qh (goesM_pure _)|exact q3 (fun _=>rfl)|refine q5 ?_|exact qV|apply qt|exact qy rfl|(apply jh;exact .inr (of_decide_eq_true rfl))|(apply q8;exact .inr (of_decide_eq_true rfl))|(apply jl;exact .inr (of_decide_eq_true rfl))|skip)))<;>fail) ?_))|((first|refine qb ?_ ?_|refine qc ?_ ?_|refine xsC ?_ ?_);all_goals (intro hc;have hp:=hc;try simp at hp;try (exfalso;omega)))|refine qp ?_ ?_)
 all_goals try (exfalso;omega)
 (apply jp (rs:=[.cell 2 46,.tmp 3]) [] 2;(case hr=>(repeat (first|exact qS|(apply qU;rfl)|(apply qK;rfl;rfl;rfl;rfl;rfl))));(case hL=>rfl);(case hh=>(repeat' (first|exact qf|refine xf ?_|refine xa ?_|refine Ji ?_|refine qH ?_ ?_));all_goals rfl);(case hi=>exact rfl);(case hz=>first|rfl|(simp [jI,AV.ren,AV.ren.renL,qZ,qu,qX];done)|(simp [jI,AV.ren,AV.ren.renL,qZ,qu,qX, *];done)|trace_state))
theorem qaW (h h' : Hub) (r:Rqt) (rb:r.who.length ≤ 1000000000) (hn:ql r.who = true) (hk:r.kind = 7) (n:Int) (b:Bool) (x1:Bool) (R1:List (List AV)) (x2:Bool) (R2:List (List AV)) (c:Int) (m:Bool) (e:Int) (hc:qo C2h.P 90 [.op 0 0 0] (HS h r) (vk (Qh n b x1 R1 x2 R2 c m) e) (HS h' r)) (hm:qo C2h.P 89 [.op 0 0 0,.v (.int .i64 2)] (HS h r) (.v (.int .i64 0)) (HS h r)) :
  qo C2h.P 45 [.op 0 0 0] (HS h r) (vk (Qh n b x1 R1 x2 R2 c m) e) (HS h' r):=by
 have hw:=vA r.who (jC rb)
 rw [hn] at hw
 obtain ⟨kind,who,folder,name,key,text,number,offset,base,chs⟩:=r
 dsimp only at *
 subst hk
 refine qa (C:=C2h) Tryz.func45 rfl _ Tryz.ntmps45 (Nat.le_of_ble_eq_true rfl) _ Tryz.results45 2 rfl rfl ?_
 repeat' (first|refine qe ?_|(first|refine xsF Tryz.func37 (hw ..) ?_|(apply qN Tryz.func90 rfl rfl;intro hIsFn;refine xq [0,1] [(0,.own false 17 [vq 1 h' ⟨7,who,folder,name,key,text,number,offset,base,chs⟩]),(1,.own false 4 (h'.fols.map Fol.row))] (vk (Qh n b x1 R1 x2 R2 c m) e) hIsFn (hc) (by ((repeat' (first|exact jR|apply jB|exact jS rfl|exact yz|(apply qD;apply jl;exact .inr (of_decide_eq_true rfl))|(apply qD;apply jh;exact .inr (of_decide_eq_true rfl))|(apply qD;apply q8;exact .inr (of_decide_eq_true rfl))|apply yd|apply yc)))<;>fail) (by ((repeat' (first|exact jo|exact jm|refine q6 _ ?_ ?_|refine q7 ?_ ?_|exact qP|exact qh (sideM_pure _)|exact qh (jE _)|exact qh (goesM_pure _)|exact q3 (fun _=>rfl)|refine q5 ?_|exact qV|apply qt|exact qy rfl|(apply jh;exact .inr (of_decide_eq_true rfl))|(apply q8;exact .inr (of_decide_eq_true rfl))|(apply jl;exact .inr (of_decide_eq_true rfl))|fail)))<;>fail) (by ((repeat' (first|exact jo|exact jm|refine q6 _ ?_ ?_|refine q7 ?_ ?_|exact qP|exact qh (sideM_pure _)|exact qh (jE _)|exact qh (goesM_pure _)|exact q3 (fun _=>rfl)|refine q5 ?_|exact qV|apply qt|exact qy rfl|(apply jh;exact .inr (of_decide_eq_true rfl))|(apply q8;exact .inr (of_decide_eq_true rfl))|(apply jl;exact .inr (of_decide_eq_true rfl))|skip)))<;>fail) ?_)|(apply qN Tryz.func89 rfl rfl;intro hIsFn;refine xq [0,1] [(0,.own false 17 [vq 1 h ⟨7,who,folder,name,key,text,number,offset,base,chs⟩]),(1,.own false 4 (h.fols.map Fol.row))] (.v (.int .i64 (0))) hIsFn (hm) (by ((repeat' (first|exact jR|apply jB|exact jS rfl|exact yz|(apply qD;apply jl;exact .inr (of_decide_eq_true rfl))|(apply qD;apply jh;exact .inr (of_decide_eq_true rfl))|(apply qD;apply q8;exact .inr (of_decide_eq_true rfl))|apply yd|apply yc)))<;>fail) (by ((repeat' (first|exact jo|exact jm|refine q6 _ ?_ ?_|refine q7 ?_ ?_|exact qP|exact qh (sideM_pure _)|exact qh (jE _)|exact qh (goesM_pure _)|exact q3 (fun _=>rfl)|refine q5 ?_|exact qV|apply qt|exact qy rfl|(apply jh;exact .inr (of_decide_eq_true rfl))|(apply q8;exact .inr (of_decide_eq_true rfl))|(apply jl;exact .inr (of_decide_eq_true rfl))|fail)))<;>fail) (by ((repeat' (first|exact jo|exact jm|refine q6 _ ?_ ?_|refine q7 ?_ ?_|exact qP|exact qh (sideM_pure _)|exact qh (jE _)|exact qh (goesM_pure _)|exact q3 (fun _=>rfl)|refine q5 ?_|exact qV|apply qt|exact qy rfl|(apply jh;exact .inr (of_decide_eq_true rfl))|(apply q8;exact .inr (of_decide_eq_true rfl))|(apply jl;exact .inr (of_decide_eq_true rfl))|skip)))<;>fail) ?_))|((first|refine qb ?_ ?_|refine qc ?_ ?_|refine xsC ?_ ?_);all_goals (intro hc;have hp:=hc;try simp at hp;try (exfalso;omega)))|refine qp ?_ ?_)
 all_goals try (exfalso;omega)
 (apply jp (rs:=[.cell 2 46,.tmp 3]) [] 2;(case hr=>(repeat (first|exact qS|(apply qU;rfl)|(apply qK;rfl;rfl;rfl;rfl;rfl))));(case hL=>rfl);(case hh=>(repeat' (first|exact qf|refine xf ?_|refine xa ?_|refine Ji ?_|refine qH ?_ ?_));all_goals rfl);(case hi=>exact rfl);(case hz=>first|rfl|(simp [jI,AV.ren,AV.ren.renL,qZ,qu,qX];done)|(simp [jI,AV.ren,AV.ren.renL,qZ,qu,qX, *];done)|trace_state))
theorem qgt (h h' : Hub) (r:Rqt) (rb:r.who.length ≤ 1000000000) (hn:ql r.who = true) (hk:r.kind = 1) (n:Int) (b:Bool) (x1:Bool) (R1:List (List AV)) (x2:Bool) (R2:List (List AV)) (c:Int) (m:Bool) (e:Int) (hc:qo C2h.P 91 [.op 0 0 0,xu r.chs] (HS h r) (vk (Qh n b x1 R1 x2 R2 c m) e) (HS h' r)) (hm:qo C2h.P 89 [.op 0 0 0,.v (.int .i64 2)] (HS h r) (.v (.int .i64 0)) (HS h r)) :
  qo C2h.P 45 [.op 0 0 0] (HS h r) (vk (Qh n b x1 R1 x2 R2 c m) e) (HS h' r):=by
 have hw:=vA r.who (jC rb)
 rw [hn] at hw
 obtain ⟨kind,who,folder,name,key,text,number,offset,base,chs⟩:=r
 dsimp only at *
 subst hk
 refine qa (C:=C2h) Tryz.func45 rfl _ Tryz.ntmps45 (Nat.le_of_ble_eq_true rfl) _ Tryz.results45 2 rfl rfl ?_
 repeat' (first|refine qe ?_|(first|refine xsF Tryz.func37 (hw ..) ?_|(apply qN Tryz.func91 rfl rfl;intro hIsFn;refine xq [0,1] [(0,.own false 17 [vq 1 h' ⟨1,who,folder,name,key,text,number,offset,base,chs⟩]),(1,.own false 4 (h'.fols.map Fol.row))] (vk (Qh n b x1 R1 x2 R2 c m) e) hIsFn (hc) (by ((repeat' (first|exact jR|apply jB|exact jS rfl|exact yz|(apply qD;apply jl;exact .inr (of_decide_eq_true rfl))|(apply qD;apply jh;exact .inr (of_decide_eq_true rfl))|(apply qD;apply q8;exact .inr (of_decide_eq_true rfl))|apply yd|apply yc)))<;>fail) (by ((repeat' (first|exact jo|exact jm|refine q6 _ ?_ ?_|refine q7 ?_ ?_|exact qP|exact qh (sideM_pure _)|exact qh (jE _)|exact qh (goesM_pure _)|exact q3 (fun _=>rfl)|refine q5 ?_|exact qV|apply qt|exact qy rfl|(apply jh;exact .inr (of_decide_eq_true rfl))|(apply q8;exact .inr (of_decide_eq_true rfl))|(apply jl;exact .inr (of_decide_eq_true rfl))|fail)))<;>fail) (by ((repeat' (first|exact jo|exact jm|refine q6 _ ?_ ?_|refine q7 ?_ ?_|exact qP|exact qh (sideM_pure _)|exact qh (jE _)|exact qh (goesM_pure _)|exact q3 (fun _=>rfl)|refine q5 ?_|exact qV|apply qt|exact qy rfl|(apply jh;exact .inr (of_decide_eq_true rfl))|(apply q8;exact .inr (of_decide_eq_true rfl))|(apply jl;exact .inr (of_decide_eq_true rfl))|skip)))<;>fail) ?_)|(apply qN Tryz.func89 rfl rfl;intro hIsFn;refine xq [0,1] [(0,.own false 17 [vq 1 h ⟨1,who,folder,name,key,text,number,offset,base,chs⟩]),(1,.own false 4 (h.fols.map Fol.row))] (.v (.int .i64 (0))) hIsFn (hm) (by ((repeat' (first|exact jR|apply jB|exact jS rfl|exact yz|(apply qD;apply jl;exact .inr (of_decide_eq_true rfl))|(apply qD;apply jh;exact .inr (of_decide_eq_true rfl))|(apply qD;apply q8;exact .inr (of_decide_eq_true rfl))|apply yd|apply yc)))<;>fail) (by ((repeat' (first|exact jo|exact jm|refine q6 _ ?_ ?_|refine q7 ?_ ?_|exact qP|exact qh (sideM_pure _)|exact qh (jE _)|exact qh (goesM_pure _)|exact q3 (fun _=>rfl)|refine q5 ?_|exact qV|apply qt|exact qy rfl|(apply jh;exact .inr (of_decide_eq_true rfl))|(apply q8;exact .inr (of_decide_eq_true rfl))|(apply jl;exact .inr (of_decide_eq_true rfl))|fail)))<;>fail) (by ((repeat' (first|exact jo|exact jm|refine q6 _ ?_ ?_|refine q7 ?_ ?_|exact qP|exact qh (sideM_pure _)|exact qh (jE _)|exact qh (goesM_pure _)|exact q3 (fun _=>rfl)|refine q5 ?_|exact qV|apply qt|exact qy rfl|(apply jh;exact .inr (of_decide_eq_true rfl))|(apply q8;exact .inr (of_decide_eq_true rfl))|(apply jl;exact .inr (of_decide_eq_true rfl))|skip)))<;>fail) ?_))|((first|refine qb ?_ ?_|refine qc ?_ ?_|refine xsC ?_ ?_);all_goals (intro hc;have hp:=hc;try simp at hp;try (exfalso;omega)))|refine qp ?_ ?_)
 all_goals try (exfalso;omega)
 (apply jp (rs:=[.cell 2 46,.tmp 3]) [] 2;(case hr=>(repeat (first|exact qS|(apply qU;rfl)|(apply qK;rfl;rfl;rfl;rfl;rfl))));(case hL=>rfl);(case hh=>(repeat' (first|exact qf|refine xf ?_|refine xa ?_|refine Ji ?_|refine qH ?_ ?_));all_goals rfl);(case hi=>exact rfl);(case hz=>first|rfl|(simp [jI,AV.ren,AV.ren.renL,qZ,qu,qX];done)|(simp [jI,AV.ren,AV.ren.renL,qZ,qu,qX, *];done)|trace_state))
theorem qiu (h:Hub) (r:Rqt) (rb:r.who.length ≤ 1000000000) (hn:ql r.who = true) (hk:r.kind = 1) (hm:qo C2h.P 89 [.op 0 0 0,.v (.int .i64 2)] (HS h r) (.v (.int .i64 9)) (HS h r)) :
  qo C2h.P 45 [.op 0 0 0] (HS h r) (vk (kF 0) 9) (HS h r):=by
 have hw:=vA r.who (jC rb)
 rw [hn] at hw
 obtain ⟨kind,who,folder,name,key,text,number,offset,base,chs⟩:=r
 dsimp only at *
 subst hk
 refine qa (C:=C2h) Tryz.func45 rfl _ Tryz.ntmps45 (Nat.le_of_ble_eq_true rfl) _ Tryz.results45 2 rfl rfl ?_
 repeat' (first|refine qe ?_|(first|refine xsF Tryz.func37 (hw ..) ?_|(apply qN Tryz.func89 rfl rfl;intro hIsFn;refine xq [0,1] [(0,.own false 17 [vq 1 h ⟨1,who,folder,name,key,text,number,offset,base,chs⟩]),(1,.own false 4 (h.fols.map Fol.row))] (.v (.int .i64 (9))) hIsFn (hm) (by ((repeat' (first|exact jR|apply jB|exact jS rfl|exact yz|(apply qD;apply jl;exact .inr (of_decide_eq_true rfl))|(apply qD;apply jh;exact .inr (of_decide_eq_true rfl))|(apply qD;apply q8;exact .inr (of_decide_eq_true rfl))|apply yd|apply yc)))<;>fail) (by ((repeat' (first|exact jo|exact jm|refine q6 _ ?_ ?_|refine q7 ?_ ?_|exact qP|exact qh (sideM_pure _)|exact qh (jE _)|exact qh (goesM_pure _)|exact q3 (fun _=>rfl)|refine q5 ?_|exact qV|apply qt|exact qy rfl|(apply jh;exact .inr (of_decide_eq_true rfl))|(apply q8;exact .inr (of_decide_eq_true rfl))|(apply jl;exact .inr (of_decide_eq_true rfl))|fail)))<;>fail) (by ((repeat' (first|exact jo|exact jm|refine q6 _ ?_ ?_|refine q7 ?_ ?_|exact qP|exact qh (sideM_pure _)|exact qh (jE _)|exact qh (goesM_pure _)|exact q3 (fun _=>rfl)|refine q5 ?_|exact qV|apply qt|exact qy rfl|(apply jh;exact .inr (of_decide_eq_true rfl))|(apply q8;exact .inr (of_decide_eq_true rfl))|(apply jl;exact .inr (of_decide_eq_true rfl))|skip)))<;>fail) ?_))|((first|refine qb ?_ ?_|refine qc ?_ ?_|refine xsC ?_ ?_);all_goals (intro hc;have hp:=hc;try simp at hp;try (exfalso;omega)))|refine qp ?_ ?_)
 all_goals try (exfalso;omega)
 (apply jp (rs:=[.cell 2 46,.tmp 3]) [] 2;(case hr=>(repeat (first|exact qS|(apply qU;rfl)|(apply qK;rfl;rfl;rfl;rfl;rfl))));(case hL=>rfl);(case hh=>(repeat' (first|exact qf|refine xf ?_|refine xa ?_|refine Ji ?_|refine qH ?_ ?_));all_goals rfl);(case hi=>exact rfl);(case hz=>first|rfl|(simp [jI,AV.ren,AV.ren.renL,qZ,qu,qX];done)|(simp [jI,AV.ren,AV.ren.renL,qZ,qu,qX, *];done)|trace_state))
theorem qin (h:Hub) (r:Rqt) (rb:r.who.length ≤ 1000000000) (hn:ql r.who = true) (hk:r.kind = 7) (hm:qo C2h.P 89 [.op 0 0 0,.v (.int .i64 2)] (HS h r) (.v (.int .i64 9)) (HS h r)) :
  qo C2h.P 45 [.op 0 0 0] (HS h r) (vk (kF 0) 9) (HS h r):=by
 have hw:=vA r.who (jC rb)
 rw [hn] at hw
 obtain ⟨kind,who,folder,name,key,text,number,offset,base,chs⟩:=r
 dsimp only at *
 subst hk
 refine qa (C:=C2h) Tryz.func45 rfl _ Tryz.ntmps45 (Nat.le_of_ble_eq_true rfl) _ Tryz.results45 2 rfl rfl ?_
 repeat' (first|refine qe ?_|(first|refine xsF Tryz.func37 (hw ..) ?_|(apply qN Tryz.func89 rfl rfl;intro hIsFn;refine xq [0,1] [(0,.own false 17 [vq 1 h ⟨7,who,folder,name,key,text,number,offset,base,chs⟩]),(1,.own false 4 (h.fols.map Fol.row))] (.v (.int .i64 (9))) hIsFn (hm) (by ((repeat' (first|exact jR|apply jB|exact jS rfl|exact yz|(apply qD;apply jl;exact .inr (of_decide_eq_true rfl))|(apply qD;apply jh;exact .inr (of_decide_eq_true rfl))|(apply qD;apply q8;exact .inr (of_decide_eq_true rfl))|apply yd|apply yc)))<;>fail) (by ((repeat' (first|exact jo|exact jm|refine q6 _ ?_ ?_|refine q7 ?_ ?_|exact qP|exact qh (sideM_pure _)|exact qh (jE _)|exact qh (goesM_pure _)|exact q3 (fun _=>rfl)|refine q5 ?_|exact qV|apply qt|exact qy rfl|(apply jh;exact .inr (of_decide_eq_true rfl))|(apply q8;exact .inr (of_decide_eq_true rfl))|(apply jl;exact .inr (of_decide_eq_true rfl))|fail)))<;>fail) (by ((repeat' (first|exact jo|exact jm|refine q6 _ ?_ ?_|refine q7 ?_ ?_|exact qP|exact qh (sideM_pure _)|exact qh (jE _)|exact qh (goesM_pure _)|exact q3 (fun _=>rfl)|refine q5 ?_|exact qV|apply qt|exact qy rfl|(apply jh;exact .inr (of_decide_eq_true rfl))|(apply q8;exact .inr (of_decide_eq_true rfl))|(apply jl;exact .inr (of_decide_eq_true rfl))|skip)))<;>fail) ?_))|((first|refine qb ?_ ?_|refine qc ?_ ?_|refine xsC ?_ ?_);all_goals (intro hc;have hp:=hc;try simp at hp;try (exfalso;omega)))|refine qp ?_ ?_)
 all_goals try (exfalso;omega)
 (apply jp (rs:=[.cell 2 46,.tmp 3]) [] 2;(case hr=>(repeat (first|exact qS|(apply qU;rfl)|(apply qK;rfl;rfl;rfl;rfl;rfl))));(case hL=>rfl);(case hh=>(repeat' (first|exact qf|refine xf ?_|refine xa ?_|refine Ji ?_|refine qH ?_ ?_));all_goals rfl);(case hi=>exact rfl);(case hz=>first|rfl|(simp [jI,AV.ren,AV.ren.renL,qZ,qu,qX];done)|(simp [jI,AV.ren,AV.ren.renL,qZ,qu,qX, *];done)|trace_state))
theorem qiA (h:Hub) (hu:UBig h.ups) (r:Rqt) (rb:r.who.length ≤ 1000000000) (hn:ql r.who = true) (hk:r.kind = 4) :
  qo C2h.P 45 [.op 0 0 0] (HS h r) (vk (kF (wq h.ups r.who r.number h.now).2.1) (wq h.ups r.who r.number h.now).2.2) (HS (if (wq h.ups r.who r.number h.now).2.2 = 0 then { h with ups:=(wq h.ups r.who r.number h.now).1 } else h) r):=by
 have ho:=qir h.ups hu r.who rb r.number h.now
 have hs:=KM h r (wq h.ups r.who r.number h.now).1 (wq h.ups r.who r.number h.now).2.1 (wq h.ups r.who r.number h.now).2.2
 have hw:=vA r.who (jC rb)
 rw [hn] at hw
 obtain ⟨kind,who,folder,name,key,text,number,offset,base,chs⟩:=r
 dsimp only at *
 subst hk
 generalize wq h.ups who number h.now = P at *
 obtain ⟨u,n,e⟩:=P
 dsimp only at *
 generalize (if e = 0 then ({ h with ups:=u }:Hub) else h) = h' at *
 refine qa (C:=C2h) Tryz.func45 rfl _ Tryz.ntmps45 (Nat.le_of_ble_eq_true rfl) _ Tryz.results45 2 rfl rfl ?_
 repeat' (first|refine qe ?_|(first|refine xsF Tryz.func37 (hw ..) ?_|refine xsQ Tryz.func86 (ho ..) ?_|(apply qN Tryz.func85 rfl rfl;intro hIsFn;refine xq [0,1] [(0,.own false 17 [vq 1 h' ⟨4,who,folder,name,key,text,number,offset,base,chs⟩]),(1,.own false 4 (h'.fols.map Fol.row))] (vk (kF n) e) hIsFn (hs) (by ((repeat' (first|exact jR|apply jB|exact jS rfl|exact yz|(apply qD;apply jl;exact .inr (of_decide_eq_true rfl))|(apply qD;apply jh;exact .inr (of_decide_eq_true rfl))|(apply qD;apply q8;exact .inr (of_decide_eq_true rfl))|apply yd|apply yc)))<;>fail) (by ((repeat' (first|exact jo|exact jm|refine q6 _ ?_ ?_|refine q7 ?_ ?_|exact qP|exact qh (sideM_pure _)|exact qh (jE _)|exact qh (goesM_pure _)|exact q3 (fun _=>rfl)|refine q5 ?_|exact qV|apply qt|exact qy rfl|(apply jh;exact .inr (of_decide_eq_true rfl))|(apply q8;exact .inr (of_decide_eq_true rfl))|(apply jl;exact .inr (of_decide_eq_true rfl))|fail)))<;>fail) (by ((repeat' (first|exact jo|exact jm|refine q6 _ ?_ ?_|refine q7 ?_ ?_|exact qP|exact qh (sideM_pure _)|exact qh (jE _)|exact qh (goesM_pure _)|exact q3 (fun _=>rfl)|refine q5 ?_|exact qV|apply qt|exact qy rfl|(apply jh;exact .inr (of_decide_eq_true rfl))|(apply q8;exact .inr (of_decide_eq_true rfl))|(apply jl;exact .inr (of_decide_eq_true rfl))|skip)))<;>fail) ?_))|((first|refine qb ?_ ?_|refine qc ?_ ?_|refine xsC ?_ ?_);all_goals (intro hc;have hp:=hc;try simp at hp;try (exfalso;omega)))|refine qp ?_ ?_)
 all_goals try (exfalso;omega)
 (apply jp (rs:=[.cell 2 46,.tmp 3]) [] 2;(case hr=>(repeat (first|exact qS|(apply qU;rfl)|(apply qK;rfl;rfl;rfl;rfl;rfl))));(case hL=>rfl);(case hh=>(repeat' (first|exact qf|refine xf ?_|refine xa ?_|refine Ji ?_|refine qH ?_ ?_));all_goals rfl);(case hi=>exact rfl);(case hz=>first|rfl|(simp [jI,AV.ren,AV.ren.renL,qZ,qu,qX];done)|(simp [jI,AV.ren,AV.ren.renL,qZ,qu,qX, *];done)|trace_state))
theorem qf8 (h:Hub) (hu:UBig h.ups) (r:Rqt) (rb:r.who.length ≤ 1000000000) (rt:r.text.length ≤ 1000000000) (hn:ql r.who = true) (hk:r.kind = 5) :
  qo C2h.P 45 [.op 0 0 0] (HS h r) (vk (kF (wC h.ups r.who r.number r.offset r.text h.now).2.1) (wC h.ups r.who r.number r.offset r.text h.now).2.2) (HS (if (wC h.ups r.who r.number r.offset r.text h.now).2.2 = 0 then { h with ups:=(wC h.ups r.who r.number r.offset r.text h.now).1 } else h) r):=by
 have ho:=qfS h.ups hu r.who rb r.number r.offset r.text rt h.now
 have hs:=KM h r (wC h.ups r.who r.number r.offset r.text h.now).1 (wC h.ups r.who r.number r.offset r.text h.now).2.1 (wC h.ups r.who r.number r.offset r.text h.now).2.2
 have hw:=vA r.who (jC rb)
 rw [hn] at hw
 obtain ⟨kind,who,folder,name,key,text,number,offset,base,chs⟩:=r
 dsimp only at *
 subst hk
 generalize wC h.ups who number offset text h.now = P at *
 obtain ⟨u,n,e⟩:=P
 dsimp only at *
 generalize (if e = 0 then ({ h with ups:=u }:Hub) else h) = h' at *
 refine qa (C:=C2h) Tryz.func45 rfl _ Tryz.ntmps45 (Nat.le_of_ble_eq_true rfl) _ Tryz.results45 2 rfl rfl ?_
 repeat' (first|refine qe ?_|(first|refine xsF Tryz.func37 (hw ..) ?_|refine xsQ Tryz.func87 (ho ..) ?_|(apply qN Tryz.func85 rfl rfl;intro hIsFn;refine xq [0,1] [(0,.own false 17 [vq 1 h' ⟨5,who,folder,name,key,text,number,offset,base,chs⟩]),(1,.own false 4 (h'.fols.map Fol.row))] (vk (kF n) e) hIsFn (hs) (by ((repeat' (first|exact jR|apply jB|exact jS rfl|exact yz|(apply qD;apply jl;exact .inr (of_decide_eq_true rfl))|(apply qD;apply jh;exact .inr (of_decide_eq_true rfl))|(apply qD;apply q8;exact .inr (of_decide_eq_true rfl))|apply yd|apply yc)))<;>fail) (by ((repeat' (first|exact jo|exact jm|refine q6 _ ?_ ?_|refine q7 ?_ ?_|exact qP|exact qh (sideM_pure _)|exact qh (jE _)|exact qh (goesM_pure _)|exact q3 (fun _=>rfl)|refine q5 ?_|exact qV|apply qt|exact qy rfl|(apply jh;exact .inr (of_decide_eq_true rfl))|(apply q8;exact .inr (of_decide_eq_true rfl))|(apply jl;exact .inr (of_decide_eq_true rfl))|fail)))<;>fail) (by ((repeat' (first|exact jo|exact jm|refine q6 _ ?_ ?_|refine q7 ?_ ?_|exact qP|exact qh (sideM_pure _)|exact qh (jE _)|exact qh (goesM_pure _)|exact q3 (fun _=>rfl)|refine q5 ?_|exact qV|apply qt|exact qy rfl|(apply jh;exact .inr (of_decide_eq_true rfl))|(apply q8;exact .inr (of_decide_eq_true rfl))|(apply jl;exact .inr (of_decide_eq_true rfl))|skip)))<;>fail) ?_))|((first|refine qb ?_ ?_|refine qc ?_ ?_|refine xsC ?_ ?_);all_goals (intro hc;have hp:=hc;try simp at hp;try (exfalso;omega)))|refine qp ?_ ?_)
 all_goals try (exfalso;omega)
 (apply jp (rs:=[.cell 2 46,.tmp 3]) [] 2;(case hr=>(repeat (first|exact qS|(apply qU;rfl)|(apply qK;rfl;rfl;rfl;rfl;rfl))));(case hL=>rfl);(case hh=>(repeat' (first|exact qf|refine xf ?_|refine xa ?_|refine Ji ?_|refine qH ?_ ?_));all_goals rfl);(case hi=>exact rfl);(case hz=>first|rfl|(simp [jI,AV.ren,AV.ren.renL,qZ,qu,qX];done)|(simp [jI,AV.ren,AV.ren.renL,qZ,qu,qX, *];done)|trace_state))
theorem qhe (h:Hub) (hu:UBig h.ups) (r:Rqt) (rb:r.who.length ≤ 1000000000) (hn:ql r.who = true) (hk:r.kind = 6) :
  qo C2h.P 45 [.op 0 0 0] (HS h r) (vk (kF (Z2 h.ups r.who r.number h.now).1) (Z2 h.ups r.who r.number h.now).2) (HS h r):=by
 have ho:=qhO h.ups hu r.who rb r.number h.now
 have hw:=vA r.who (jC rb)
 rw [hn] at hw
 obtain ⟨kind,who,folder,name,key,text,number,offset,base,chs⟩:=r
 dsimp only at *
 subst hk
 generalize Z2 h.ups who number h.now = P at *
 obtain ⟨n,e⟩:=P
 dsimp only at *
 refine qa (C:=C2h) Tryz.func45 rfl _ Tryz.ntmps45 (Nat.le_of_ble_eq_true rfl) _ Tryz.results45 2 rfl rfl ?_
 repeat' (first|refine qe ?_|(first|refine xsF Tryz.func37 (hw ..) ?_|refine xsQ Tryz.func88 (ho ..) ?_)|((first|refine qb ?_ ?_|refine qc ?_ ?_|refine xsC ?_ ?_);all_goals (intro hc;have hp:=hc;try simp at hp;try (exfalso;omega)))|refine qp ?_ ?_)
 all_goals try (exfalso;omega)
 (apply jp (rs:=[.cell 2 46,.tmp 3]) [] 2;(case hr=>(repeat (first|exact qS|(apply qU;rfl)|(apply qK;rfl;rfl;rfl;rfl;rfl))));(case hL=>rfl);(case hh=>(repeat' (first|exact qf|refine xf ?_|refine xa ?_|refine Ji ?_|refine qH ?_ ?_));all_goals rfl);(case hi=>exact rfl);(case hz=>first|rfl|(simp [jI,AV.ren,AV.ren.renL,qZ,qu,qX];done)|(simp [jI,AV.ren,AV.ren.renL,qZ,qu,qX, *];done)|trace_state))
end Go.Proofs.YtiljlcgmcmjcoaaGreatDoor
set_option linter.unusedSimpArgs false
set_option linter.unnecessarySimpa false
set_option linter.unusedVariables false
set_option maxHeartbeats 1000000
namespace Go.Proofs.YtiljlcgmcmjcoaaGreatDoor
open Go.Ab Go.RowKit
set_option maxRecDepth 10000
attribute [local irreducible] Awp ye ji qQ Red qF Go.Ab.Fin qo Rz xx qG qO ResOk jK je jX qW
def ki (r:Rqt):AV := .agg r.row
def VT (x:Hub) (a:AV) (e:Int):AV := .tup [xy x,a,.v (.int .i64 e)]
theorem qi5 (h:Hub) (hb:HBig h) (r:Rqt) (he:¬ xR h = 0):jO C.P 18 [xy h,ki r] (VT qa1 (Jj Xh) (xR h)):=by
 have hck:=JM h hb
 generalize xR h = E at *
 refine qa Tryz.func18 rfl _ Tryz.ntmps18 (Nat.le_of_ble_eq_true rfl) _ Tryz.results18 0 rfl rfl ?_
 repeat' (first|refine qe ?_|(first|refine xsF Tryz.func16 (hck ..) ?_)|((first|refine xsC ?_ ?_);all_goals (intro hc;have hp:=hc;try simp at hp;try (exfalso;omega)))|refine qp ?_ ?_)
 all_goals try (exfalso;omega)
 (exact j1 (rs:=[.cell 4 28,.cell 5 46,.tmp 6]))
theorem qjl (h h' : Hub) (hb:HBig h) (hr:HRight h) (r:Rqt) (n:Int) (b:Bool) (x1:Bool) (R1:List (List AV)) (x2:Bool) (R2:List (List AV)) (c:Int) (m:Bool) (p1 : ∀ row,row ∈ R1 → AV.pure.pureL row = true) (p2 : ∀ row,row ∈ R2 → AV.pure.pureL row = true) (sv:qo C2h.P 45 [.op 0 0 0] (HS h r) (vk (Qh n b x1 R1 x2 R2 c m) 0) (HS h' r)) :
  jO C.P 18 [xy h,ki r] (VT h' (.agg (Qh n b false R1 false R2 c m)) 0):=by
 have hck:=JM h hb
 rw [zV.2 hr] at hck
 have hco:=Jg h hr
 have hcp:=Vj h hr
 refine qa Tryz.func18 rfl _ Tryz.ntmps18 (Nat.le_of_ble_eq_true rfl) _ Tryz.results18 0 rfl rfl ?_
 repeat' (first|refine qe ?_|(first|refine xsF Tryz.func16 (hck ..) ?_|(apply qN Tryz.func44 rfl rfl;intro hIsFn;refine yr ([]) hIsFn (hco ..) ?_)|(apply qN Tryz.func45 rfl rfl;intro hIsFn;refine xq [5,4] [(5,.own false 17 [vq 4 h' r]),(4,.own false 4 (h'.fols.map Fol.row))] (vk (Qh n b x1 R1 x2 R2 c m) 0) hIsFn (sv) (by ((repeat' (first|exact jR|apply jB|exact jS rfl|exact yz|(apply qD;apply jl;exact .inr (of_decide_eq_true rfl))|(apply qD;apply jh;exact .inr (of_decide_eq_true rfl))|(apply qD;apply q8;exact .inr (of_decide_eq_true rfl))|apply yd|apply yc)))<;>fail) (by ((repeat' (first|exact jo|exact jm|refine q6 _ ?_ ?_|refine q7 ?_ ?_|exact qP|exact qh (sideM_pure _)|exact qh (jE _)|exact qh (goesM_pure _)|exact q3 (fun _=>rfl)|refine q5 ?_|exact qV|apply qt|exact qy rfl|(apply jh;exact .inr (of_decide_eq_true rfl))|(apply q8;exact .inr (of_decide_eq_true rfl))|(apply jl;exact .inr (of_decide_eq_true rfl))|fail)))<;>fail) (by ((repeat' (first|exact jo|exact jm|refine q6 _ ?_ ?_|refine q7 ?_ ?_|exact qP|exact qh (sideM_pure _)|exact qh (jE _)|exact qh (goesM_pure _)|exact q3 (fun _=>rfl)|refine q5 ?_|exact qV|apply qt|exact qy rfl|(apply jh;exact .inr (of_decide_eq_true rfl))|(apply q8;exact .inr (of_decide_eq_true rfl))|(apply jl;exact .inr (of_decide_eq_true rfl))|fail)))<;>fail) ?_))|((first|refine xsC ?_ ?_);all_goals (intro hc;have hp:=hc;try simp at hp;try (exfalso;omega)))|refine qp ?_ ?_)
 all_goals try (exfalso;omega)
 (refine yu (rs:=[.cell 4 28,.cell 5 46,.tmp 6]) ?_;(repeat' (first|exact qL|apply qk|exact qB rfl|exact yi|exact vS|apply jT|apply yl|apply jQ|apply yo|apply jY|apply yq|refine vY ?_|apply y0));all_goals rfl)
theorem qie (h h' : Hub) (hb:HBig h) (hr:HRight h) (r:Rqt) (n:Int) (b:Bool) (x1:Bool) (R1:List (List AV)) (x2:Bool) (R2:List (List AV)) (c:Int) (m:Bool) (e:Int) (he:¬ e = 0) (sv:qo C2h.P 45 [.op 0 0 0] (HS h r) (vk (Qh n b x1 R1 x2 R2 c m) e) (HS h' r)) :
  jO C.P 18 [xy h,ki r] (VT h (Jj (Qy e)) 0):=by
 have hck:=JM h hb
 rw [zV.2 hr] at hck
 have hco:=Jg h hr
 have hcp:=Vj h hr
 refine qa Tryz.func18 rfl _ Tryz.ntmps18 (Nat.le_of_ble_eq_true rfl) _ Tryz.results18 0 rfl rfl ?_
 repeat' (first|refine qe ?_|(first|refine xsF Tryz.func16 (hck ..) ?_|(apply qN Tryz.func44 rfl rfl;intro hIsFn;refine yr ([]) hIsFn (hco ..) ?_)|(apply qN Tryz.func45 rfl rfl;intro hIsFn;refine xq [5,4] [(5,.own false 17 [vq 4 h' r]),(4,.own false 4 (h'.fols.map Fol.row))] (vk (Qh n b x1 R1 x2 R2 c m) e) hIsFn (sv) (by ((repeat' (first|exact jR|apply jB|exact jS rfl|exact yz|(apply qD;apply jl;exact .inr (of_decide_eq_true rfl))|(apply qD;apply jh;exact .inr (of_decide_eq_true rfl))|(apply qD;apply q8;exact .inr (of_decide_eq_true rfl))|apply yd|apply yc)))<;>fail) (by ((repeat' (first|exact jo|exact jm|refine q6 _ ?_ ?_|refine q7 ?_ ?_|exact qP|exact qh (sideM_pure _)|exact qh (jE _)|exact qh (goesM_pure _)|exact q3 (fun _=>rfl)|refine q5 ?_|exact qV|apply qt|exact qy rfl|(apply jh;exact .inr (of_decide_eq_true rfl))|(apply q8;exact .inr (of_decide_eq_true rfl))|(apply jl;exact .inr (of_decide_eq_true rfl))|fail)))<;>fail) (by ((repeat' (first|exact jo|exact jm|refine q6 _ ?_ ?_|refine q7 ?_ ?_|exact qP|exact qh (sideM_pure _)|exact qh (jE _)|exact qh (goesM_pure _)|exact q3 (fun _=>rfl)|refine q5 ?_|exact qV|apply qt|exact qy rfl|(apply jh;exact .inr (of_decide_eq_true rfl))|(apply q8;exact .inr (of_decide_eq_true rfl))|(apply jl;exact .inr (of_decide_eq_true rfl))|fail)))<;>fail) ?_))|((first|refine xsC ?_ ?_);all_goals (intro hc;have hp:=hc;try simp at hp;try (exfalso;omega)))|refine qp ?_ ?_)
 all_goals try (exfalso;omega)
 (refine yu (rs:=[.cell 4 28,.cell 5 46,.tmp 6]) ?_;(repeat' (first|exact qL|apply qk|exact qB rfl|exact yi|exact vS|apply jT|apply yl|apply jQ|apply yo|apply jY|apply yq|refine vY ?_|apply y0));all_goals rfl)
theorem qgu (h h' : Hub) (hb:HBig h) (hr:HRight h) (r:Rqt) (k:Nat) (f:qC) (hk:k = h.fols.length + 1) (hh:h'.fols = Jz h.fols f) (sv:qo C2h.P 45 [.op 0 0 0] (HS h r) (vk (kF 0) 0) [.own false 17 [.os 2 0 k :: (vq 2 h' r).drop 1],.dead,.own false 4 (YD h.fols f)]) :
  jO C.P 18 [xy h,ki r] (VT h' (Jj Xh) 0):=by
 have hck:=JM h hb
 rw [zV.2 hr] at hck
 have hco:=Jg h hr
 have hcp:=Vj h hr
 have hpu : ∀ row,row ∈ YD h.fols f → AV.pure.pureL row = true:=KY _ _
 have hrz : ∀ {g:Nat → HB} {n:Nat},g n = .own false 4 (YD h.fols f) → Rz g (.os n 0 k) (w6 h'.fols):=fun hn=>by rw [hh];exact qiq hn hk
 refine qa Tryz.func18 rfl _ Tryz.ntmps18 (Nat.le_of_ble_eq_true rfl) _ Tryz.results18 0 rfl rfl ?_
 repeat' (first|refine qe ?_|(first|refine xsF Tryz.func16 (hck ..) ?_|(apply qN Tryz.func44 rfl rfl;intro hIsFn;refine yr ([]) hIsFn (hco ..) ?_)|(apply qN Tryz.func45 rfl rfl;intro hIsFn;refine qay [5,4] [6] [(5,.own false 17 [.os 6 0 k :: (vq 2 h' r).drop 1]),(4,.dead),(6,.own false 4 (YD h.fols f))] 7 (vk (kF 0) 0) hIsFn (sv) (by ((repeat' (first|exact jR|apply jB|exact jS rfl|exact yz|(apply qD;apply jl;exact .inr (of_decide_eq_true rfl))|(apply qD;apply jh;exact .inr (of_decide_eq_true rfl))|(apply qD;apply q8;exact .inr (of_decide_eq_true rfl))|apply yd|apply yc)))<;>fail) (by ((repeat' (first|exact jo|exact jm|refine q6 _ ?_ ?_|refine q7 ?_ ?_|exact qP|exact qh (sideM_pure _)|exact qh (jE _)|exact qh (goesM_pure _)|exact q3 (fun _=>rfl)|refine q5 ?_|exact qV|apply qt|exact qy rfl|(apply jh;exact .inr (of_decide_eq_true rfl))|(apply q8;exact .inr (of_decide_eq_true rfl))|(apply jl;exact .inr (of_decide_eq_true rfl))|fail)))<;>fail) (by ((repeat' (first|exact jo|exact jm|refine q6 _ ?_ ?_|refine q7 ?_ ?_|exact qP|exact qh (sideM_pure _)|exact qh (jE _)|exact qh (goesM_pure _)|exact q3 (fun _=>rfl)|refine q5 ?_|exact qV|apply qt|exact qy rfl|(apply jh;exact .inr (of_decide_eq_true rfl))|(apply q8;exact .inr (of_decide_eq_true rfl))|(apply jl;exact .inr (of_decide_eq_true rfl))|first|exact Q9 rfl|exact zU hpu)))<;>fail) ?_))|((first|refine xsC ?_ ?_);all_goals (intro hc;have hp:=hc;try simp at hp;try (exfalso;omega)))|refine qp ?_ ?_)
 all_goals try (exfalso;omega)
 (refine yu (rs:=[.cell 4 28,.cell 5 46,.tmp 6]) ?_;(repeat' (first|((apply hrz;rfl))|exact qL|apply qk|exact qB rfl|exact yi|exact vS|apply jT|apply yl|apply jQ|apply yo|apply jY|apply yq|refine vY ?_|apply y0));all_goals rfl)
end Go.Proofs.YtiljlcgmcmjcoaaGreatDoor
set_option linter.unusedSimpArgs false
set_option linter.unnecessarySimpa false
set_option linter.unusedVariables false
namespace Go.Proofs.YtiljlcgmcmjcoaaGreatDoor
open Go.Ab Go.RowKit
set_option maxRecDepth 10000
attribute [local irreducible] Awp ye ji qQ Red qF Go.Ab.Fin qo Rz xx qG qO ResOk jK je jX qW
theorem qcN {h:Hub} (hr:HRight h) {f w:qC} (hw:¬ jx h.gras f w = 0) : ∃ (k:Nat) (hk:k < h.fols.length),vD h.fols f = k ∧ vo h.fols f = true ∧ h.fols[k].name = f ∧ kY h.fols f = some h.fols[k].jou ∧ JRight h.fols[k].jou:=by
 have hh:vo h.fols f = true:=by rw [hr.has];exact Ze hw
 obtain ⟨hk,h1,h2,_⟩:=WT hr.rise hh
 refine ⟨vD h.fols f,hk,rfl,hh,h1,?_,(hr.each _ (List.getElem_mem _)).2⟩
 unfold kY
 rw [show h.fols.find? (fun s=>decide (s.name = f)) = h.fols.find? (atF f) from rfl,h2];rfl
theorem qiv (n:Int):kF n = Qh n false true [] true [] 0 false:=rfl
theorem qgz : ∀ row,row ∈ ([]:List (List AV)) → AV.pure.pureL row = true:=fun row h=>by cases h
theorem qi1 (n:Int):(.agg (Qh n false false [] false [] 0 false):AV) = Jj ⟨0,n,wu⟩:=rfl
theorem t_z (h h' : Hub) (hb:HBig h) (hr:HRight h) (r:Rqt) (n e:Int) (sv:qo C2h.P 45 [.op 0 0 0] (HS h r) (vk (kF n) e) (HS h' r)) :
  jO C.P 18 [xy h,ki r] (VT (if e = 0 then h' else h) (Jj (if e = 0 then ⟨0,n,wu⟩ else Qy e)) 0):=by
 rw [qiv] at sv
 by_cases h0:e = 0
 ·subst h0
  rw [if_pos rfl,if_pos rfl, ← qi1]
  exact qjl h h' hb hr r _ _ _ _ _ _ _ _ qgz qgz sv
 ·rw [if_neg h0,if_neg h0]
  exact qie h h' hb hr r _ _ _ _ _ _ _ _ e h0 sv
theorem wV {f:FuncId} {ys:List AV} {x x' : Hub} {a a' : Ans} (h:jO C.P f ys (VT x (Jj a) 0)) (e:(x',a') = (x,a)):jO C.P f ys (VT x' (Jj a') 0):=by
 injection e with e1 e2
 rw [e1,e2];exact h
theorem qcU (h:Hub) (r:Rqt):AV.pure.pureL ((vq 2 h r).drop 1) = true:=rfl
theorem ZA (h:Hub) (hb:HBig h) (hr:HRight h) (r:Rqt) (rb:RBig r):jO C.P 18 [xy h,ki r] (VT (vG h r).1 (Jj (vG h r).2) 0):=by
 obtain ⟨a1,a2,a3,a4⟩:=yZ hr.gra
 have hl:=hr.len
 by_cases hk:1 ≤ r.kind ∧ r.kind ≤ 8
 case neg =>
  refine wV (t_z h h hb hr r 0 7 (qiR h r (by omega))) ?_
  unfold vG;rw [if_pos hk];rfl
 by_cases hn:ql r.who = false
 ·refine wV (t_z h h hb hr r 0 1 (qgD h r rb.who hk hn)) ?_
  unfold vG;rw [if_neg (fun e=>e hk),if_pos hn];rfl
 have hn1:ql r.who = true:=by simpa using hn
 have hW:vG h r = if r.kind = 8 then wD h r else if r.kind = 3 then Xq h r else if r.kind = 2 then YZ h r else if r.kind = 4 then Yi h (wq h.ups r.who r.number h.now) else if r.kind = 5 then Yi h (wC h.ups r.who r.number r.offset r.text h.now) else if r.kind = 6 then qbA h r else Z3 h r:=by
  unfold vG;rw [if_neg (fun e=>e hk),if_neg hn]
 by_cases k8:r.kind = 8
 ·rw [if_pos k8] at hW
  rw [hW]
  unfold wD
  by_cases h0:j3 h.gras r.folder r.who = 0
  ·rw [if_pos h0]
   by_cases h8:h.fols.length = 8
   ·rw [if_pos h8]
    have sv:=qaH h h r rb.who hn1 k8 _ _ _ _ _ _ _ _ _ (Vv h hb r rb fun _=>h8)
    rw [if_pos h0] at sv
    exact wV (t_z h h hb hr r 0 2 sv) rfl
   ·rw [if_neg h8]
    have sc:=qgP h hb r rb hr h0 h8
    have e1:vq 2 (WQ h r) r = .os 2 0 (h.fols.length + 1) :: (vq 2 (WQ h r) r).drop 1:=by
     show AV.os 2 0 (WQ h r).fols.length :: _ = _
     rw [show (WQ h r).fols.length = h.fols.length + 1 from Y5 _ _];rfl
    rw [e1] at sc
    have sv:=qba h (WQ h r) r rb.who hn1 k8 _ (KY _ _) _ _ (qcU _ _) sc
    exact qgu h (WQ h r) hb hr r _ r.folder rfl rfl sv
  ·rw [if_neg h0]
   have sv:=qaH h h r rb.who hn1 k8 _ _ _ _ _ _ _ _ _ (Vv h hb r rb fun e=>absurd e h0)
   rw [if_neg h0] at sv
   refine wV (t_z h h hb hr r 0 _ sv) ?_
   rw [if_neg h0,if_neg h0]
 rw [if_neg k8] at hW
 by_cases k3:r.kind = 3
 ·rw [if_pos k3] at hW
  rw [hW]
  unfold Xq
  by_cases h1:jx h.gras r.folder r.who < 1
  ·rw [if_pos h1]
   exact wV (t_z h h hb hr r 0 9 (qgb h h r rb.who hn1 k3 _ _ _ _ _ _ _ _ _ (qes h r hr h1))) rfl
  ·rw [if_neg h1]
   refine wV (t_z h (qdM h r) hb hr r 0 _ (qgb h _ r rb.who hn1 k3 _ _ _ _ _ _ _ _ _ (qiF h hb r rb hr h1))) ?_
   unfold qdM
   by_cases h0:(zv h.gras r.folder r.who r.name r.number).2 = 0
   ·simp only [if_pos h0];rfl
   ·simp only [if_neg h0]
 rw [if_neg k3] at hW
 by_cases k2:r.kind = 2
 ·rw [if_pos k2] at hW
  rw [hW]
  unfold YZ
  by_cases h1:jx h.gras r.folder r.who < 1
  ·rw [if_pos h1]
   exact wV (t_z h h hb hr r 0 9 (qfr h h r rb.who hn1 k2 _ _ _ _ _ _ _ _ _ (qeP h r hr h1))) rfl
  ·rw [if_neg h1]
   obtain ⟨k,hkl,e1,e2,e3,e4,e5⟩:=qcN hr (f:=r.folder) (w:=r.who) (by omega)
   have sp:=qiJ h hb r hr h1 k hkl e1 e2
   rw [e4]
   have hrw:Y3 h.fols[k].jou r.number 10 = QA h.fols[k].jou r.number 10:=by unfold Y3;rw [if_neg (by simp [xE.2 e5])]
   rw [hrw] at sp
   dsimp only
   generalize QA h.fols[k].jou r.number 10 = P at *
   obtain ⟨p,e⟩:=P
   dsimp only at *
   have sv:=qfr h h r rb.who hn1 k2 0 p.reset false (p.tree.map Ent.row) false (p.coms.map Com.row) p.cur p.more e sp
   by_cases h0:e = 0
   ·subst h0
    rw [if_pos rfl]
    exact qjl h h hb hr r _ _ _ _ _ _ _ _ (jq fun _=>rfl) (jq fun _=>rfl) sv
   ·rw [if_neg h0]
    exact qie h h hb hr r _ _ _ _ _ _ _ _ e h0 sv
 rw [if_neg k2] at hW
 by_cases k4:r.kind = 4
 ·rw [if_pos k4] at hW
  rw [hW]
  refine wV (t_z h _ hb hr r _ _ (qiA h hb.ups r rb.who hn1 k4)) ?_
  unfold Yi
  by_cases h0:(wq h.ups r.who r.number h.now).2.2 = 0
  ·simp only [if_pos h0]
  ·simp only [if_neg h0]
 rw [if_neg k4] at hW
 by_cases k5:r.kind = 5
 ·rw [if_pos k5] at hW
  rw [hW]
  refine wV (t_z h _ hb hr r _ _ (qf8 h hb.ups r rb.who rb.text hn1 k5)) ?_
  unfold Yi
  by_cases h0:(wC h.ups r.who r.number r.offset r.text h.now).2.2 = 0
  ·simp only [if_pos h0]
  ·simp only [if_neg h0]
 rw [if_neg k5] at hW
 by_cases k6:r.kind = 6
 ·rw [if_pos k6] at hW
  rw [hW]
  refine wV (t_z h h hb hr r _ _ (qhe h hb.ups r rb.who hn1 k6)) ?_
  unfold qbA
  by_cases h0:(Z2 h.ups r.who r.number h.now).2 = 0
  ·simp only [if_pos h0]
  ·simp only [if_neg h0]
 rw [if_neg k6] at hW
 rw [hW]
 unfold Z3
 have hmay:=Kl h r a3 (by omega) 2
 by_cases h2:jx h.gras r.folder r.who < 2
 ·rw [if_pos h2]
  rw [if_pos h2] at hmay
  by_cases k7:r.kind = 7
  ·exact wV (t_z h h hb hr r 0 9 (qin h r rb.who hn1 k7 hmay)) rfl
  ·exact wV (t_z h h hb hr r 0 9 (qiu h r rb.who hn1 (by omega) hmay)) rfl
 rw [if_neg h2]
 rw [if_neg h2] at hmay
 obtain ⟨k,hkl,e1,e2,e3,e4,e5⟩:=qcN hr (f:=r.folder) (w:=r.who) (by omega)
 have hset:=fun j=>WW hr.rise hkl e3 j
 by_cases k7:r.kind = 7
 ·rw [if_pos k7]
  unfold qbD
  by_cases h0:(zq h.ups r.who r.number h.now).2.2 = 0
  ·rw [if_pos h0]
   have hx:(zq h.ups r.who r.number h.now).2.1.length ≤ 1000:=by
    unfold zq
    by_cases q1:jA h.ups r.who r.number h.now = 0
    ·rw [if_pos q1]
     have:=kj q1
     split
     ·simp
     ·show (mineS h.ups r.who r.number h.now).text.length ≤ 1000;omega
    ·rw [if_neg q1];simp
   have sf:=qfF h hb r rb hr h0 hx k hkl e1 e2 e3
   refine wV (t_z h _ hb hr r _ _ (qaW h _ r rb.who hn1 k7 _ _ _ _ _ _ _ _ _ sf hmay)) ?_
   unfold XB qiL qeT
   rw [e4]
   dsimp only
   rw [Jc e5]
   generalize zq h.ups r.who r.number h.now = P at *
   obtain ⟨u,x,e⟩:=P
   dsimp only at *
   generalize xr h.fols[k].jou r.key [⟨2,r.name,[],x,r.base⟩] = Q at *
   obtain ⟨j',n,e'⟩:=Q
   dsimp only at *
   by_cases q0:e' = 0
   ·simp only [if_pos q0,hset]
   ·simp only [if_neg q0]
  ·rw [if_neg h0]
   refine wV (t_z h h hb hr r 0 _ (qaW h h r rb.who hn1 k7 _ _ _ _ _ _ _ _ _ (qaX h hb r rb h0) hmay)) ?_
   simp only [if_neg h0]
 ·rw [if_neg k7]
  have k1:r.kind = 1:=by omega
  have sc:=qa4 h hb r rb hr r.chs rb.chs k hkl e1 e2 e3
  refine wV (t_z h _ hb hr r _ _ (qgt h _ r rb.who hn1 k1 _ _ _ _ _ _ _ _ _ sc hmay)) ?_
  unfold XB qeT
  rw [e4]
  dsimp only
  rw [Jc e5]
  generalize xr h.fols[k].jou r.key r.chs = Q at *
  obtain ⟨j',n,e'⟩:=Q
  dsimp only at *
  by_cases q0:e' = 0
  ·simp only [if_pos q0,hset]
  ·simp only [if_neg q0]
theorem qhf (h:Hub) (hb:HBig h) (r:Rqt) (rb:RBig r):jO C.P 18 [xy h,ki r] (VT (Zw h r).1 (Jj (Zw h r).2.1) (Zw h r).2.2):=by
 unfold Zw
 by_cases h0:xR h = 0
 ·rw [if_pos h0];exact ZA h hb (zV.1 h0) r rb
 ·rw [if_neg h0];exact qi5 h hb r h0
end Go.Proofs.YtiljlcgmcmjcoaaGreatDoor
set_option linter.unusedSimpArgs false
set_option linter.unnecessarySimpa false
set_option linter.unusedVariables false
set_option maxHeartbeats 1000000
namespace Go.Proofs.YtiljlcgmcmjcoaaGreatDoor
open Go.Ab Go.RowKit
set_option maxRecDepth 10000
attribute [local irreducible] Awp ye ji qQ Red qF Go.Ab.Fin qo Rz xx qG qO ResOk jK je jX qW
def qej (lasts room:Int):Hub:=⟨[],[],⟨[],1,lasts,room⟩,0⟩
def qhn (lasts room:Int):Hub × Int:=if yM ⟨[],1,lasts,room⟩ = 0 then (qej lasts room,0) else (qa1,yM ⟨[],1,lasts,room⟩)
theorem qf1 (a b c:Int):UBig ⟨[],a,b,c⟩:=⟨nofun,nofun,by simp⟩
theorem qio (lasts room:Int):jO C.P 12 [.v (.int .i64 lasts),.v (.int .i64 room)] (.tup [xy (qhn lasts room).1,.v (.int .i64 (qhn lasts room).2)]):=by
 have hc:=VZ ⟨[],1,lasts,room⟩ (qf1 _ _ _)
 unfold qhn
 generalize yM ⟨[],1,lasts,room⟩ = E at *
 by_cases h0:E = 0
 ·rw [if_pos h0]
  subst h0
  refine qa Tryz.func12 rfl _ Tryz.ntmps12 (Nat.le_of_ble_eq_true rfl) _ Tryz.results12 0 rfl rfl ?_
  repeat' (first|refine qe ?_|(first|refine xsF Tryz.func31 (hc ..) ?_)|((first|refine xsC ?_ ?_);all_goals (intro hc;have hp:=hc;try simp at hp;try (exfalso;omega)))|refine qp ?_ ?_)
  all_goals try (exfalso;omega)
  (refine yu (rs:=[.cell 4 28,.tmp 5]) ?_;(repeat' (first|exact qL|apply qk|exact qB rfl|exact yi|exact vS|apply jT|apply yl|apply jQ|apply yo|apply jY|apply yq|refine vY ?_|apply y0));all_goals rfl)
 ·rw [if_neg h0]
  refine qa Tryz.func12 rfl _ Tryz.ntmps12 (Nat.le_of_ble_eq_true rfl) _ Tryz.results12 0 rfl rfl ?_
  repeat' (first|refine qe ?_|(first|refine xsF Tryz.func31 (hc ..) ?_)|((first|refine xsC ?_ ?_);all_goals (intro hc;have hp:=hc;try simp at hp;try (exfalso;omega)))|refine qp ?_ ?_)
  all_goals try (exfalso;omega)
  (refine yu (rs:=[.cell 4 28,.tmp 5]) ?_;(repeat' (first|exact qL|apply qk|exact qB rfl|exact yi|exact vS|apply jT|apply yl|apply jQ|apply yo|apply jY|apply yq|refine vY ?_|apply y0));all_goals rfl)
theorem qhq (h:Hub) (hb:HBig h) (f:qC):jO C.P 21 [xy h,.v (str f)] (.tup [qr (qdR h f).1,.v (.int .i64 (qdR h f).2)]):=by
 have hc:=JM h hb
 unfold qdR
 by_cases h0:xR h = 0
 case neg =>
  rw [if_neg h0]
  generalize xR h = E at *
  refine qa Tryz.func21 rfl _ Tryz.ntmps21 (Nat.le_of_ble_eq_true rfl) _ Tryz.results21 0 rfl rfl ?_
  repeat' (first|refine qe ?_|(first|refine xsF Tryz.func16 (hc ..) ?_)|((first|refine xsC ?_ ?_);all_goals (intro hc;have hp:=hc;try simp at hp;try (exfalso;omega)))|refine qp ?_ ?_)
  all_goals try (exfalso;omega)
  (refine yu (rs:=[.tmp 4,.tmp 5]) ?_;(repeat' (first|exact qL|apply qk|exact qB rfl|exact yi|exact vS|apply jT|apply yl|apply jQ|apply yo|apply jY|apply yq|refine vY ?_|apply y0));all_goals rfl)
 rw [if_pos h0]
 have hr:=zV.1 h0
 rw [h0] at hc
 have hl:=hr.len
 have hf:=Xr h f (by omega) hr.rise
 unfold qib
 cases hh:vo h.fols f with
 | false =>
   rw [qcj.2 hh]
   rw [hh] at hf
   refine qa Tryz.func21 rfl _ Tryz.ntmps21 (Nat.le_of_ble_eq_true rfl) _ Tryz.results21 0 rfl rfl ?_
   repeat' (first|refine qe ?_|(first|refine xsF Tryz.func16 (hc ..) ?_|refine xsQ Tryz.func58 (hf ..) ?_)|((first|refine xsC ?_ ?_);all_goals (intro hc;have hp:=hc;try simp at hp;try (exfalso;omega)))|refine qp ?_ ?_)
   all_goals try (exfalso;omega)
   (refine yu (rs:=[.tmp 4,.tmp 5]) ?_;(repeat' (first|exact qL|apply qk|exact qB rfl|exact yi|exact vS|apply jT|apply yl|apply jQ|apply yo|apply jY|apply yq|refine vY ?_|apply y0));all_goals rfl)
 | true =>
   obtain ⟨hk,h1,h2,_⟩:=WT hr.rise hh
   have hj:kY h.fols f = some h.fols[vD h.fols f].jou:=by
    unfold kY
    rw [show h.fols.find? (fun s=>decide (s.name = f)) = h.fols.find? (atF f) from rfl,h2];rfl
   rw [hj]
   dsimp only
   rw [hh] at hf
   have ht:=qhd h.fols[vD h.fols f].jou (hb.fols.each _ (List.getElem_mem _)).jou
   have hrow:=qx (f:=Fol.row) hk
   have hz:Wd h.fols[vD h.fols f].jou = (vc h.fols[vD h.fols f].jou,0):=by
    have:=xE.2 (hr.each _ (List.getElem_mem hk)).2
    unfold Wd;simp [this]
   rw [hz] at ht
   generalize vc h.fols[vD h.fols f].jou = T at *
   clear hj h1 h2 hr hz
   generalize hp:vD h.fols f = k at *
   refine qa Tryz.func21 rfl _ Tryz.ntmps21 (Nat.le_of_ble_eq_true rfl) _ Tryz.results21 0 rfl rfl ?_
   repeat' (first|refine qe ?_|(first|refine xsF Tryz.func16 (hc ..) ?_|refine xsQ Tryz.func58 (hf ..) ?_|refine xsQ Tryz.func59 (ht ..) ?_)|((first|refine xsC ?_ ?_);all_goals (intro hc;have hp:=hc;try simp at hp;try (exfalso;omega)))|refine qp ?_ ?_)
   all_goals try (exfalso;omega)
   (refine yu (rs:=[.tmp 4,.tmp 5]) ?_;(repeat' (first|exact qL|apply qk|exact qB rfl|exact yi|exact vS|apply jT|apply yl|apply jQ|apply yo|apply jY|apply yq|refine vY ?_|apply y0));all_goals rfl)
theorem Wc (h:Hub) (hb:HBig h) (hl:h.fols.length ≤ 1000000) (hg:h.gras.length ≤ 1000000):jO C.P 15 [xy h,xy h] (.v (.bool true)):=by
 have h1:=qfg h.gras hg
 have h2:=qiM h.ups h.ups hb.ups.len hb.ups.len
 rw [decide_eq_true rfl] at h2
 have hj : ∀ s,s ∈ h.fols → jO C.P 36 [.agg s.jou.row,.agg s.jou.row] (.v (.bool true)):=fun s hs=>by
  have:=qeo s.jou s.jou (hb.fols.each s hs).jou (hb.fols.each s hs).jou
  rwa [decide_eq_true rfl] at this
 clear hb
 obtain ⟨F,G,U,now⟩:=h
 dsimp only at *
 have e0:(!decide (now = now)) = false:=by simp
 refine qa Tryz.func15 rfl _ Tryz.ntmps15 (Nat.le_of_ble_eq_true rfl) _ Tryz.results15 0 rfl rfl ?_
 (repeat apply jg);apply qw;(repeat' (first|apply qT|refine xi ?_|refine xe ?_|refine xl ?_|refine xN ?_|refine xj ?_|refine vm ?_|refine xb ?_|refine vb ?_|refine vl ?_|refine xn ?_|(first|fail)|refine yg ?_|refine j6 ?_|refine j4 ?_|refine jF ?_|refine jG ?_|refine yL ?_|refine yK ?_|refine j7 ?_|refine j8 ?_|((first|refine qb ?_ ?_|refine qc ?_ ?_);all_goals (intro hc;have hp:=hc;try simp at hp;try (exfalso;omega)))));show Awp _ _ _ _ _
 refine xV 2 0 ?_
 refine xV 3 1 ?_
 repeat' (first|refine qe ?_|(first|refine xsF Tryz.func34 (h1 ..) ?_|refine xsF Tryz.func35 (h2 ..) ?_)|((first|refine qb ?_ ?_|refine qc ?_ ?_|refine xsC ?_ ?_);all_goals (intro hc;have hp:=hc;try simp at hp;try (exfalso;omega)))|refine qp ?_ ?_)
 all_goals try (exfalso;first|omega|contradiction)
 (refine Awp.red (qg (ts:=[(2,.fp [Hub.row ⟨F,G,U,now⟩] 0 0),(3,.fp [Hub.row ⟨F,G,U,now⟩] 0 0),(5,.v (.int .i64 ((0:Nat):Int)))]) ?_) ?_;((repeat (first|exact qd|refine qi ?_|refine qI ?_ ?_))))
 refine qq (fun n σ => ∃ i:Nat,i ≤ F.length ∧ n = F.length - i ∧ (True) ∧ σ = ⟨[(2,.fp [Hub.row ⟨F,G,U,now⟩] 0 0),(3,.fp [Hub.row ⟨F,G,U,now⟩] 0 0),(5,.v (.int .i64 (i:Int)))],[],C.nh⟩) F.length ⟨0,Nat.zero_le _,rfl,trivial,rfl⟩ ?_
 rintro n σ ⟨i,hi,rfl, -,rfl⟩
 by_cases hlt:i < F.length
 ·have hr:=qx (f:=Fol.row) hlt
  have hji:=hj F[i] (List.getElem_mem _)
  have e1:(!decide (F[i].name = F[i].name)) = false:=by simp
  clear hj h1 h2
  repeat' (first|refine qe ?_|(first|refine xsF Tryz.func36 (hji ..) ?_)|((first|refine qb ?_ ?_|refine qc ?_ ?_|refine xsC ?_ ?_);all_goals (intro hc;have hp:=hc;try simp at hp;try (exfalso;omega)))|refine qp ?_ ?_)
  all_goals try (exfalso;first|omega|contradiction)
  refine ⟨F.length - (i + 1),_,by omega,qg (ts:=[(2,.fp [Hub.row ⟨F,G,U,now⟩] 0 0),(3,.fp [Hub.row ⟨F,G,U,now⟩] 0 0),(5,.v (.int .i64 ((i + 1:Nat):Int)))]) ?_,i + 1,by omega,rfl,trivial,rfl⟩;((repeat (first|exact qd|refine qi ?_|refine qI ?_ ?_)))
 obtain rfl:i = F.length:=by omega
 repeat' (first|refine qe ?_|fail|((first|refine qb ?_ ?_|refine qc ?_ ?_|refine xsC ?_ ?_);all_goals (intro hc;have hp:=hc;try simp at hp;try (exfalso;omega)))|refine qp ?_ ?_)
 all_goals try (exfalso;omega)
 (refine yu (rs:=[.tmp 4]) ?_;(repeat' (first|exact qL|apply qk|exact qB rfl|exact yi|exact vS|apply jT|apply yl|apply jQ|apply yo|apply jY|apply yq|refine vY ?_|apply y0));all_goals rfl)
theorem K3 (a:Ans) (hb:PBig a.page):jO C.P 20 [Jj a,Jj a] (.v (.bool true)):=by
 have h1:=qet a.page a.page hb hb
 rw [decide_eq_true rfl] at h1
 have e0:decide (a.err = a.err) = true:=by simp
 have e1:decide (a.num = a.num) = true:=by simp
 refine qa Tryz.func20 rfl _ Tryz.ntmps20 (Nat.le_of_ble_eq_true rfl) _ Tryz.results20 0 rfl rfl ?_
 repeat' (first|refine qe ?_|(first|refine xsF Tryz.func57 (h1 ..) ?_)|((first|refine qb ?_ ?_|refine qc ?_ ?_|refine xsC ?_ ?_);all_goals (intro hc;have hp:=hc;try simp at hp;try (exfalso;omega)))|refine qp ?_ ?_)
 all_goals try (exfalso;first|omega|contradiction)
 (refine yu (rs:=[.tmp 4]) ?_;(repeat' (first|exact qL|apply qk|exact qB rfl|exact yi|exact vS|apply jT|apply yl|apply jQ|apply yo|apply jY|apply yq|refine vY ?_|apply y0));all_goals rfl)
end Go.Proofs.YtiljlcgmcmjcoaaGreatDoor
