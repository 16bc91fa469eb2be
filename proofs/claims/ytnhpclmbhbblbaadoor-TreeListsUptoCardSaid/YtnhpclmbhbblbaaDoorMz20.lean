import Derived.Test.YtnhpclmbhbblbaaDoorMz19
import Derived.Test.YtnhpclmbhbblbaaDoorMz14
import Derived.Test.YtnhpclmbhbblbaaDoorMz9
set_option linter.unusedSimpArgs false
set_option linter.unnecessarySimpa false
set_option linter.unusedVariables false
set_option maxHeartbeats 1000000
namespace Go.Proofs.YtnhpclmbhbblbaaDoor
open Go.Ab Go.RowKit
set_option maxRecDepth 10000
attribute [local irreducible] Awp jk qG q9 Red qp Go.Ab.Fin qx Rz yS qX qT ResOk jp jd jG qR
def yv (l:List qv):AV := .sl false (l.map qi)
theorem YL (l:List qv) (s:qv) (hl:l.length ≤ 1000000000):yc C.P 36 [yv l,.v (str s)] (.v (.bool (decide (s ∈ l)))):=by
 unfold yv
 refine qa Tryd.func36 rfl _ Tryd.ntmps36 (Nat.le_of_ble_eq_true rfl) _ Tryd.results36 0 rfl rfl ?_
 repeat' (first|refine qj ?_|fail|((first|refine xsC ?_ ?_);all_goals (intro hc;have hp:=hc;try simp at hp;try (exfalso;omega)))|refine qD ?_ ?_)
 (refine Awp.red (ql (ts:=[(0,.sl false (l.map qi)),(1,.v (str s)),(5,.v (.int .i64 ((0:Nat):Int)))]) ?_) ?_;((repeat (first|exact qd|refine qn ?_|refine qM ?_ ?_))))
 refine qy (fun n σ => ∃ i:Nat,i ≤ l.length ∧ n = l.length - i ∧ (∀ x,x ∈ l.take i → ¬ x = s) ∧ σ = ⟨[(0,.sl false (l.map qi)),(1,.v (str s)),(5,.v (.int .i64 (i:Int)))],[],C.nh⟩) l.length ⟨0,Nat.zero_le _,rfl,(by simp),rfl⟩ ?_
 rintro n σ ⟨i,hi,rfl,hsofar,rfl⟩
 by_cases hlt:i < l.length
 ·have hr:=qL (f:=qi) hlt
  have hnx:=fun h=>qY (p:=fun x => ¬ x = s) hlt hsofar h
  repeat' (first|refine qj ?_|fail|((first|refine xsC ?_ ?_);all_goals (intro hc;have hp:=hc;try simp at hp;try (exfalso;omega)))|refine qD ?_ ?_)
  all_goals try (exfalso;omega)
  ·have hm:s ∈ l:=by
    have e:l[i] = s:=by first|assumption|simp_all
    exact e ▸ List.getElem_mem hlt
   apply q8
   rfl
   exact (decide_eq_true hm).symm
  ·refine ⟨l.length - (i + 1),_,by omega,ql (ts:=[(0,.sl false (l.map qi)),(1,.v (str s)),(5,.v (.int .i64 ((i + 1:Nat):Int)))]) ?_,i + 1,by omega,rfl,hnx (by first|assumption|simp_all),rfl⟩;((repeat (first|exact qd|refine qn ?_|refine qM ?_ ?_)))
 obtain rfl:i = l.length:=by omega
 repeat' (first|refine qj ?_|fail|((first|refine xsC ?_ ?_);all_goals (intro hc;have hp:=hc;try simp at hp;try (exfalso;omega)))|refine qD ?_ ?_)
 all_goals try (exfalso;omega)
 apply q8
 rfl
 exact (decide_eq_false fun hm=>hsofar s (by rw [List.take_length];exact hm) rfl).symm
theorem YZ (l:List qv) (s:qv) (i:Nat):List.drop 0 (List.take i (l.map qi)) ++ List.take ([[AV.v (str s)]].length + (List.drop i (List.take (l.map qi).length (l.map qi))).length) (List.drop 0 ([[AV.v (str s)]] ++ List.drop i (List.take (l.map qi).length (l.map qi)))) = (l.take i ++ s :: l.drop i).map qi:=by
 rw [List.take_length,List.drop_zero,List.drop_zero,List.take_of_length_le (l:=[[AV.v (str s)]] ++ _) (by simp;omega),List.map_append,List.map_cons,List.map_take,List.map_drop]
 rfl
set_option maxHeartbeats 2000000 in
theorem Yh (l:List qv) (s:qv) (hl:l.length ≤ 1000000):yc C.P 23 [yv l,.v (str s)] (yv (yt l s)):=by
 have h1:=YL l s (by omega)
 have hml:(l.map qi).length = l.length:=List.length_map ..
 have hrk : ∀ row,row ∈ l.map qi → row.length = 1:=by
  intro row h
  obtain ⟨s,_,rfl⟩:=List.mem_map.1 h
  rfl
 by_cases hm:s ∈ l
 ·rw [decide_eq_true hm] at h1
  rw [show yt l s = l from by unfold yt;rw [if_pos hm]]
  unfold yv at *
  refine qa Tryd.func23 rfl _ Tryd.ntmps23 (Nat.le_of_ble_eq_true rfl) _ Tryd.results23 0 rfl rfl ?_
  repeat' (first|refine qj ?_|(first|refine jH Tryd.func36 (h1 ..) ?_)|((first|refine qe ?_ ?_|refine qf ?_ ?_|refine xsC ?_ ?_);all_goals (intro hc;have hp:=hc;try simp at hp;try (exfalso;omega)))|refine qD ?_ ?_)
  all_goals try (exfalso;first|omega|contradiction)
  all_goals ((exact zh (rs:=[.tmp 4])))
 rw [decide_eq_false hm] at h1
 unfold yv at *
 refine qa Tryd.func23 rfl _ Tryd.ntmps23 (Nat.le_of_ble_eq_true rfl) _ Tryd.results23 0 rfl rfl ?_
 repeat' (first|refine qj ?_|(first|refine jH Tryd.func36 (h1 ..) ?_)|((first|refine qe ?_ ?_|refine qf ?_ ?_|refine xsC ?_ ?_);all_goals (intro hc;have hp:=hc;try simp at hp;try (exfalso;omega)))|refine qD ?_ ?_)
 all_goals try (exfalso;first|omega|contradiction)
 (refine Awp.red (ql (ts:=[(0,.sl false (l.map qi)),(1,.v (str s)),(5,.v (.int .i64 ((0:Nat):Int)))]) ?_) ?_;((repeat (first|exact qd|refine qn ?_|refine qM ?_ ?_))))
 refine qy (fun n σ => ∃ i:Nat,i ≤ l.length ∧ n = l.length - i ∧ (∀ x,x ∈ l.take i → Op.bytesLess x s = true) ∧ σ = ⟨[(0,.sl false (l.map qi)),(1,.v (str s)),(5,.v (.int .i64 (i:Int)))],[],C.nh⟩) l.length ⟨0,Nat.zero_le _,rfl,(by simp),rfl⟩ ?_
 rintro n σ ⟨i,hi,rfl,hsofar,rfl⟩
 have hil:i ≤ (l.map qi).length:=by omega
 by_cases hlt:i < l.length
 ·have hr:=qL (f:=qi) hlt
  cases hless:Op.bytesLess l[i] s with
  | true =>
    have hnx:=qY (p:=fun x=>Op.bytesLess x s = true) hlt hsofar hless
    repeat' (first|refine qj ?_|fail|((first|refine qe ?_ ?_|refine qf ?_ ?_|refine xsC ?_ ?_);all_goals (intro hc;have hp:=hc;try simp at hp;try (exfalso;omega)))|refine qD ?_ ?_)
    all_goals try (exfalso;first|omega|contradiction|simp_all;done)
    refine ⟨l.length - (i + 1),_,by omega,ql (ts:=[(0,.sl false (l.map qi)),(1,.v (str s)),(5,.v (.int .i64 ((i + 1:Nat):Int)))]) ?_,i + 1,by omega,rfl,hnx,rfl⟩;((repeat (first|exact qd|refine qn ?_|refine qM ?_ ?_)))
  | false =>
    rw [ky hm hi hsofar (fun _=>hless)]
    clear hsofar
    repeat' (first|refine qj ?_|(first|(refine jr ?_)|(apply qh;apply yI (ex':=true) (a:=0) (b:=i) (m:=i);(case hx=>rfl);(case hT=>rfl);(case he=>rfl);(case hE=>rfl);(case ha=>rfl);(case hb=>exact ⟨_,rfl⟩);(case hm=>exact ⟨⟨_,rfl⟩,Nat.le_refl _,hil,rfl⟩);(case hab=>exact Nat.zero_le _);(case hbl=>exact hil);(case hrk=>exact hrk);(case hex=>exact fun _=>rfl);(case hN=>exact nle rfl))|(apply qh;apply yI (ex':=false) (a:=i) (b:=(l.map qi).length) (m:=0);(case hx=>rfl);(case hT=>rfl);(case he=>rfl);(case hE=>rfl);(case ha=>exact ⟨_,rfl⟩);(case hb=>rfl);(case hm=>trivial);(case hab=>(first|omega|(simp;done)|(simp only [List.length_cons,List.length_nil,List.length_map];omega)|(simp;omega)));(case hbl=>(first|omega|(simp;done)|(simp only [List.length_cons,List.length_nil,List.length_map];omega)|(simp;omega)));(case hrk=>exact hrk);(case hex=>exact nofun);(case hN=>exact nle rfl))|(apply j7;apply x1;(case hx=>rfl);(case hT=>rfl);(case he=>rfl);(case hE=>rfl);(case hz=>rfl);(case hk0=>(intro row h;rw [List.mem_singleton.1 h];rfl));(case hc0=>(intro row h;rw [List.mem_singleton.1 h];rfl));(case hsrc=>(apply vA;rfl;exact wn (yz fun _=>rfl) xH));(case hne=>(simp;omega));(case hsz=>(first|omega|(simp only [List.length_append,List.length_drop,List.length_take,List.length_map,List.length_cons,List.length_nil];omega)|(simp;omega)));(case hlen=>(first|omega|(simp only [List.length_append,List.length_drop,List.length_take,List.length_map,List.length_cons,List.length_nil];omega)|(simp;omega)));(case hN=>exact nle rfl))|(apply j7;apply x1;(case hx=>rfl);(case hT=>rfl);(case he=>rfl);(case hE=>rfl);(case hz=>rfl);(case hk0=>(intro row h;exact hrk row (xH row h)));(case hc0=>(intro row h;obtain ⟨x,_,rfl⟩:=List.mem_map.1 (xH row h);rfl));(case hsrc=>(apply Ql;rfl;rfl;exact Nat.le_of_eq (by simp;omega);rfl;(rw [List.all_append,Bool.and_eq_true];exact ⟨rfl,wn (yz fun _=>rfl) xH⟩)));(case hne=>(simp;omega));(case hsz=>(first|omega|(simp only [List.length_append,List.length_drop,List.length_take,List.length_map,List.length_cons,List.length_nil];omega)|(simp;omega)));(case hlen=>(first|omega|(simp only [List.length_append,List.length_drop,List.length_take,List.length_map,List.length_cons,List.length_nil];omega)|(simp;omega)));(case hN=>exact nle rfl)))|((first|refine qe ?_ ?_|refine qf ?_ ?_|refine xsC ?_ ?_);all_goals (intro hc;have hp:=hc;try simp at hp;try (exfalso;omega)))|refine qD ?_ ?_)
    all_goals try (exfalso;first|omega|contradiction|simp_all;done)
    (refine xV (rs:=[.tmp 4]) ?_;(repeat' (first|exact qS|apply qw|exact qK rfl|exact yH|exact k9|apply j4|apply xo|apply jN|apply xu|apply yy|apply xx|refine wj ?_|apply vM));all_goals exact YZ l s i)
 obtain rfl:i = l.length:=by omega
 rw [ky hm hi hsofar (fun h=>absurd h (Nat.lt_irrefl _))]
 clear hsofar
 repeat' (first|refine qj ?_|(first|(refine jr ?_)|(apply qh;apply yI (ex':=true) (a:=0) (b:=l.length) (m:=l.length);(case hx=>rfl);(case hT=>rfl);(case he=>rfl);(case hE=>rfl);(case ha=>rfl);(case hb=>exact ⟨_,rfl⟩);(case hm=>exact ⟨⟨_,rfl⟩,Nat.le_refl _,hil,rfl⟩);(case hab=>exact Nat.zero_le _);(case hbl=>exact hil);(case hrk=>exact hrk);(case hex=>exact fun _=>rfl);(case hN=>exact nle rfl))|(apply qh;apply yI (ex':=false) (a:=l.length) (b:=(l.map qi).length) (m:=0);(case hx=>rfl);(case hT=>rfl);(case he=>rfl);(case hE=>rfl);(case ha=>exact ⟨_,rfl⟩);(case hb=>rfl);(case hm=>trivial);(case hab=>(first|omega|(simp;done)|(simp only [List.length_cons,List.length_nil,List.length_map];omega)|(simp;omega)));(case hbl=>(first|omega|(simp;done)|(simp only [List.length_cons,List.length_nil,List.length_map];omega)|(simp;omega)));(case hrk=>exact hrk);(case hex=>exact nofun);(case hN=>exact nle rfl))|(apply qh;apply wi;(case hx=>rfl);(case hT=>rfl);(case he=>rfl);(case hE=>rfl);(case hy=>rfl);(case h0=>(simp;done));(case hN=>exact nle rfl))|(apply j7;apply x1;(case hx=>rfl);(case hT=>rfl);(case he=>rfl);(case hE=>rfl);(case hz=>rfl);(case hk0=>(intro row h;exact hrk row (xH row h)));(case hc0=>(intro row h;obtain ⟨x,_,rfl⟩:=List.mem_map.1 (xH row h);rfl));(case hsrc=>(apply vA;rfl;rfl));(case hne=>(exact Nat.one_pos));(case hsz=>(first|omega|(simp only [List.length_append,List.length_drop,List.length_take,List.length_map,List.length_cons,List.length_nil];omega)|(simp;omega)));(case hlen=>(first|omega|(simp only [List.length_append,List.length_drop,List.length_take,List.length_map,List.length_cons,List.length_nil];omega)|(simp;omega)));(case hN=>exact nle rfl)))|((first|refine qe ?_ ?_|refine qf ?_ ?_|refine xsC ?_ ?_);all_goals (intro hc;have hp:=hc;try simp at hp;try (exfalso;omega)))|refine qD ?_ ?_)
 all_goals try (exfalso;first|omega|contradiction|simp_all;done)
 (refine xV (rs:=[.tmp 4]) ?_;(repeat' (first|exact qS|apply qw|exact qK rfl|exact yH|exact k9|apply j4|apply xo|apply jN|apply xu|apply yy|apply xx|refine wj ?_|apply vM));all_goals (show List.drop 0 (List.take l.length (l.map qi)) ++ [[.v (str s)]] = _;rw [List.drop_zero,List.take_of_length_le (by simp),List.take_length,List.drop_length,List.map_append];rfl))
end Go.Proofs.YtnhpclmbhbblbaaDoor
