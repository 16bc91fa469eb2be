import Derived.Test.YtamejbkifpjhiaaGreatDoorMz14
import Derived.Test.YtamejbkifpjhiaaGreatDoorMz17
set_option linter.unusedSimpArgs false
set_option linter.unnecessarySimpa false
set_option linter.unusedVariables false
set_option maxHeartbeats 1000000
namespace Go.Proofs.YtamejbkifpjhiaaGreatDoor
open Go.Ab Go.RowKit
set_option maxRecDepth 10000
attribute [local irreducible] Awp yH jH jw Red ja Go.Ab.Fin qZ Rz vn jr jp ResOk j3 jC yC jA
def Ky (l:List Ent) (e:Int):AV := .tup [.os 0 0 l.length,.v (.int .i64 e)]
def qgs (l:List Chg) (e:Int):AV := .tup [.os 0 0 l.length,.v (.int .i64 e)]
theorem qgb (t:List Ent) (c:Chg) (v:Int) (h:RightE t) (hcs:c.small):qZ C.P 62 [qa t,.agg c.row,.v (.int .i64 v)] [] (Ky (QJ t c v) (vb t c v)) [.own false 4 ((QJ t c v).map Ent.row)]:=by
 have hf:=h.few
 have h1:=qdi c hcs
 have h2:=qfT t c (by omega) h.rise hcs
 have h3:=Yg t (by omega)
 have hR:vb t c v = if ¬ yc c = 0 then yc c else if ¬ va t c = 0 then va t c else j5 t c v:=rfl
 have hbadL := @Jj t c v
 unfold Ky
 by_cases hce:yc c = 0
 ·by_cases hme:va t c = 0
  ·have hR2:vb t c v = j5 t c v:=by rw [hR,if_neg (by simp [hce]),if_neg (by simp [hme])]
   rw [hce] at h1
   rw [hme] at h2
   cases hb:yP t c with
   | true =>
     obtain ⟨k1,k2,hpe,hto, -⟩:=yU hce
     have hk3:c.kind = 3:=by
      simp [yP] at hb;exact hb.1
     have hE:j5 t c v = 2:=by simp [j5,hb]
     have hd:=XG t c v (by omega) hk3 h.paths hpe (hto hk3) hb
     rw [hE] at hR2
     rw [hbadL (by rw [hR2];decide),hR2]
     refine qc Tryz.func62 rfl _ Tryz.ntmps62 (Nat.le_of_ble_eq_true rfl) _ Tryz.results62 0 rfl rfl ?_
     repeat' (first|refine qn ?_|(first|refine jv Tryz.func110 (h1 ..) ?_|refine jv Tryz.func111 (h2 ..) ?_|(apply jo Tryz.func41 rfl rfl;intro hIsFn;refine kv ([]) hIsFn (h3 ..) ?_)|(apply jo Tryz.func112 rfl rfl;intro hIsFn;refine JB ([1]) 1 hIsFn (hd ..) ?_))|((first|refine xsC ?_ ?_);all_goals (intro hc;have hp:=hc;try simp at hp;try (exfalso;omega)))|refine qX ?_ ?_)
     all_goals try (exfalso;omega)
     (refine xy (C:=C) (ye (C:=C) 6 4 rfl (Nat.zero_le _)) ?_)
     (refine QV (rs:=[.tmp 6,.tmp 7]) [(2,0)] 1 ?_;(repeat (first|exact qj|refine j4 ?_|refine q6 ?_ ?_));all_goals trace_state)
   | false =>
     have hd:=qdh t c v h hce hb
     by_cases hE:j5 t c v = 0
     ·have hL:QJ t c v = jh t c v:=by unfold QJ;rw [if_pos (by rw [hR2,hE])]
      rw [hE] at hR2 hd
      rw [hL,hR2]
      generalize jh t c v = L at *
      have hd:qZ C1.P 112 [.os 0 0 t.length,.agg c.row,.v (.int .i64 v)] [.own false 4 (t.map Ent.row)] (.tup [.os 1 0 L.length,.v (.int .i64 0)]) [.dead,.own false 4 (L.map Ent.row)]:=hd
      refine qc Tryz.func62 rfl _ Tryz.ntmps62 (Nat.le_of_ble_eq_true rfl) _ Tryz.results62 0 rfl rfl ?_
      repeat' (first|refine qn ?_|(first|refine jv Tryz.func110 (h1 ..) ?_|refine jv Tryz.func111 (h2 ..) ?_|(apply jo Tryz.func41 rfl rfl;intro hIsFn;refine kv ([]) hIsFn (h3 ..) ?_)|(apply jo Tryz.func112 rfl rfl;intro hIsFn;refine kf ([1]) 1 hIsFn (hd ..) ?_))|((first|refine xsC ?_ ?_);all_goals (intro hc;have hp:=hc;try simp at hp;try (exfalso;omega)))|refine qX ?_ ?_)
      all_goals try (exfalso;omega)
      (refine QV (rs:=[.tmp 6,.tmp 7]) [(2,0)] 1 ?_;(repeat (first|exact qj|refine j4 ?_|refine q6 ?_ ?_));all_goals trace_state)
     ·rw [hbadL (by rw [hR2];exact hE),hR2]
      generalize j5 t c v = E at *
      generalize jh t c v = L at *
      have hd:qZ C1.P 112 [.os 0 0 t.length,.agg c.row,.v (.int .i64 v)] [.own false 4 (t.map Ent.row)] (.tup [.sl true [],.v (.int .i64 E)]) [.dead,.own false 4 (L.map Ent.row)]:=by
       rw [V8,if_neg hE] at hd;exact hd
      refine qc Tryz.func62 rfl _ Tryz.ntmps62 (Nat.le_of_ble_eq_true rfl) _ Tryz.results62 0 rfl rfl ?_
      repeat' (first|refine qn ?_|(first|refine jv Tryz.func110 (h1 ..) ?_|refine jv Tryz.func111 (h2 ..) ?_|(apply jo Tryz.func41 rfl rfl;intro hIsFn;refine kv ([]) hIsFn (h3 ..) ?_)|(apply jo Tryz.func112 rfl rfl;intro hIsFn;refine kf ([1]) 1 hIsFn (hd ..) ?_))|((first|refine xsC ?_ ?_);all_goals (intro hc;have hp:=hc;try simp at hp;try (exfalso;omega)))|refine qX ?_ ?_)
      all_goals try (exfalso;omega)
      (refine xy (C:=C) (ye (C:=C) 6 4 rfl (Nat.zero_le _)) ?_)
      (refine QV (rs:=[.tmp 6,.tmp 7]) [(3,0)] 1 ?_;(repeat (first|exact qj|refine j4 ?_|refine q6 ?_ ?_));all_goals trace_state)
  ·have hR2:vb t c v = va t c:=by rw [hR,if_neg (by simp [hce]),if_pos hme]
   rw [hce] at h1
   rw [hbadL (by rw [hR2];exact hme),hR2]
   generalize va t c = E at *
   refine qc Tryz.func62 rfl _ Tryz.ntmps62 (Nat.le_of_ble_eq_true rfl) _ Tryz.results62 0 rfl rfl ?_
   repeat' (first|refine qn ?_|(first|refine jv Tryz.func110 (h1 ..) ?_|refine jv Tryz.func111 (h2 ..) ?_)|((first|refine xsC ?_ ?_);all_goals (intro hc;have hp:=hc;try simp at hp;try (exfalso;omega)))|refine qX ?_ ?_)
   all_goals try (exfalso;omega)
   (refine xy (C:=C) (ye (C:=C) 6 4 rfl (Nat.zero_le _)) ?_)
   (refine QV (rs:=[.tmp 6,.tmp 7]) [(1,0)] 1 ?_;(repeat (first|exact qj|refine j4 ?_|refine q6 ?_ ?_));all_goals trace_state)
 ·have hR2:vb t c v = yc c:=by rw [hR,if_pos hce]
  rw [hbadL (by rw [hR2];exact hce),hR2]
  generalize yc c = E at *
  refine qc Tryz.func62 rfl _ Tryz.ntmps62 (Nat.le_of_ble_eq_true rfl) _ Tryz.results62 0 rfl rfl ?_
  repeat' (first|refine qn ?_|(first|refine jv Tryz.func110 (h1 ..) ?_)|((first|refine xsC ?_ ?_);all_goals (intro hc;have hp:=hc;try simp at hp;try (exfalso;omega)))|refine qX ?_ ?_)
  all_goals try (exfalso;omega)
  (refine xy (C:=C) (ye (C:=C) 6 4 rfl (Nat.zero_le _)) ?_)
  (refine QV (rs:=[.tmp 6,.tmp 7]) [(1,0)] 1 ?_;(repeat (first|exact qj|refine j4 ?_|refine q6 ?_ ?_));all_goals trace_state)
theorem KY (t:List Ent) (c:Chg) (v:Int) (hb:EBig t) (hcs:c.small):qZ C.P 27 [qa t,.agg c.row,.v (.int .i64 v)] [] (Ky (vf t c v) (yJ t c v)) [.own false 4 ((vf t c v).map Ent.row)]:=by
 have h1:=Yf t hb
 have h2:=Yh v
 have hE:yJ t c v = if ¬ qC t = 0 then qC t else if vj v = false then 3 else vb t c v:=rfl
 have hL:vf t c v = if yJ t c v = 0 then jh t c v else []:=rfl
 unfold Ky
 by_cases hte:qC t = 0
 ·have hr:=qgb t c v (RightE.of hte) hcs
  have hrL:QJ t c v = if vb t c v = 0 then jh t c v else []:=rfl
  unfold Ky at hr
  rw [hte] at h1
  rw [if_neg (by simp [hte])] at hE
  generalize vj v = V at *
  cases V with
  | true =>
    have hE2:yJ t c v = vb t c v:=by rw [hE];simp
    rw [hE2] at hL
    rw [← hL] at hrL
    rw [hrL] at hr
    rw [hE2]
    generalize vf t c v = L at *
    generalize vb t c v = R at *
    refine qc Tryz.func27 rfl _ Tryz.ntmps27 (Nat.le_of_ble_eq_true rfl) _ Tryz.results27 0 rfl rfl ?_
    repeat' (first|refine qn ?_|(first|(refine jL ?_)|refine j1 Tryz.func60 (h1 ..) ?_|refine jv Tryz.func61 (h2 ..) ?_|(apply jo Tryz.func62 rfl rfl;intro hIsFn;refine kv ([]) hIsFn (hr ..) ?_))|((first|refine xsC ?_ ?_);all_goals (intro hc;have hp:=hc;try simp at hp;try (exfalso;omega)))|refine qX ?_ ?_)
    all_goals try (exfalso;omega)
    (refine QV (rs:=[.tmp 6,.tmp 7]) [(1,0)] 1 ?_;(repeat (first|exact qj|refine j4 ?_|refine q6 ?_ ?_));all_goals trace_state)
  | false =>
    have hE2:yJ t c v = 3:=by rw [hE];simp
    rw [hE2,if_neg (by decide)] at hL
    rw [hE2,hL]
    refine qc Tryz.func27 rfl _ Tryz.ntmps27 (Nat.le_of_ble_eq_true rfl) _ Tryz.results27 0 rfl rfl ?_
    repeat' (first|refine qn ?_|(first|(refine jL ?_)|refine j1 Tryz.func60 (h1 ..) ?_|refine jv Tryz.func61 (h2 ..) ?_)|((first|refine xsC ?_ ?_);all_goals (intro hc;have hp:=hc;try simp at hp;try (exfalso;omega)))|refine qX ?_ ?_)
    all_goals try (exfalso;omega)
    (refine xy (C:=C) (ye (C:=C) 6 4 rfl (Nat.zero_le _)) ?_)
    (refine QV (rs:=[.tmp 6,.tmp 7]) [(1,0)] 1 ?_;(repeat (first|exact qj|refine j4 ?_|refine q6 ?_ ?_));all_goals trace_state)
 ·rw [if_pos hte] at hE
  have hL2:vf t c v = []:=by rw [hL,if_neg (by rw [hE];exact hte)]
  rw [hE,hL2]
  generalize qC t = E at *
  refine qc Tryz.func27 rfl _ Tryz.ntmps27 (Nat.le_of_ble_eq_true rfl) _ Tryz.results27 0 rfl rfl ?_
  repeat' (first|refine qn ?_|(first|(refine jL ?_)|refine j1 Tryz.func60 (h1 ..) ?_)|((first|refine xsC ?_ ?_);all_goals (intro hc;have hp:=hc;try simp at hp;try (exfalso;omega)))|refine qX ?_ ?_)
  all_goals try (exfalso;omega)
  (refine xy (C:=C) (ye (C:=C) 6 4 rfl (Nat.zero_le _)) ?_)
  (refine QV (rs:=[.tmp 6,.tmp 7]) [(1,0)] 1 ?_;(repeat (first|exact qj|refine j4 ?_|refine q6 ?_ ?_));all_goals trace_state)
theorem qeL (a b:List Ent) (ha:EBig a) (hb:EBig b):qZ C.P 29 [qa a,qa b] [] (qgs (zP a b) (zN a b)) [.own false 5 ((zP a b).map Chg.row)]:=by
 have h1:=K7 a b ha hb
 unfold qgs
 by_cases h:zN a b = 0
 ·obtain ⟨ta,tb⟩:=kJ.1 h
  obtain ⟨la, -,ra, -⟩:=kX.1 ta
  obtain ⟨lb, -,rb, -⟩:=kX.1 tb
  have h2:=qdt a b (by omega) (by omega) ha.each ra rb
  rw [show zP a b = YT a b from if_pos h,h]
  rw [h] at h1
  refine qc Tryz.func29 rfl _ Tryz.ntmps29 (Nat.le_of_ble_eq_true rfl) _ Tryz.results29 0 rfl rfl ?_
  repeat' (first|refine qn ?_|(first|refine jv Tryz.func68 (h1 ..) ?_|(apply jo Tryz.func69 rfl rfl;intro hIsFn;refine kv ([]) hIsFn (h2 ..) ?_))|((first|refine xsC ?_ ?_);all_goals (intro hc;have hp:=hc;try simp at hp;try (exfalso;omega)))|refine qX ?_ ?_)
  all_goals try (exfalso;omega)
  (refine QV (rs:=[.tmp 4,.tmp 5]) [(0,0)] 1 ?_;(repeat (first|exact qj|refine j4 ?_|refine q6 ?_ ?_));all_goals trace_state)
 ·rw [show zP a b = [] from if_neg h]
  generalize zN a b = E at *
  refine qc Tryz.func29 rfl _ Tryz.ntmps29 (Nat.le_of_ble_eq_true rfl) _ Tryz.results29 0 rfl rfl ?_
  repeat' (first|refine qn ?_|(first|refine jv Tryz.func68 (h1 ..) ?_)|((first|refine xsC ?_ ?_);all_goals (intro hc;have hp:=hc;try simp at hp;try (exfalso;omega)))|refine qX ?_ ?_)
  all_goals try (exfalso;omega)
  (refine xy (C:=C) (ye (C:=C) 4 5 rfl (Nat.zero_le _)) ?_)
  (refine QV (rs:=[.tmp 4,.tmp 5]) [(0,0)] 1 ?_;(repeat (first|exact qj|refine j4 ?_|refine q6 ?_ ?_));all_goals trace_state)
theorem qdq (t:List Ent) (l:List Chg) (v:Int) (hb:EBig t) (hcb:CBig l):qZ C.P 30 [qa t,wE l,.v (.int .i64 v)] [] (Ky (kL v t l).1 (kL v t l).2) [.own false 4 ((kL v t l).1.map Ent.row)]:=by
 have h1:=zW t hb
 have hll:=hcb.len
 have hml:(l.map Chg.row).length = l.length:=List.length_map ..
 have hE:kL v t l = if ¬ qC t = 0 then ([],qC t) else if 120 < l.length then ([],2) else x7 v t l:=rfl
 unfold Ky
 by_cases hte:qC t = 0
 ·rw [if_neg (by simp [hte])] at hE
  have hR:=jT.1 hte
  rw [hte] at h1
  have h60:=hR.len
  have h3:=Yg t (by omega)
  by_cases h20:120 < l.length
  ·rw [if_pos h20] at hE
   rw [hE]
   refine qc Tryz.func30 rfl _ Tryz.ntmps30 (Nat.le_of_ble_eq_true rfl) _ Tryz.results30 0 rfl rfl ?_
   repeat' (first|refine qn ?_|(first|refine j1 Tryz.func63 (h1 ..) ?_)|((first|refine xsC ?_ ?_);all_goals (intro hc;have hp:=hc;try simp at hp;try (exfalso;omega)))|refine qX ?_ ?_)
   all_goals try (exfalso;first|omega|(simp_all;done))
   (refine xy (C:=C) (ye (C:=C) 6 4 rfl (Nat.zero_le _)) ?_)
   (refine QV (rs:=[.tmp 6,.tmp 7]) [(0,0)] 1 ?_;(repeat (first|exact qj|refine j4 ?_|refine q6 ?_ ?_));all_goals trace_state)
  ·rw [if_neg h20] at hE
   generalize hA:kL v t l = A at *
   clear hA
   refine qc Tryz.func30 rfl _ Tryz.ntmps30 (Nat.le_of_ble_eq_true rfl) _ Tryz.results30 0 rfl rfl ?_
   repeat' (first|refine qn ?_|(first|refine j1 Tryz.func63 (h1 ..) ?_|(apply jo Tryz.func41 rfl rfl;intro hIsFn;refine kv ([]) hIsFn (h3 ..) ?_))|((first|refine xsC ?_ ?_);all_goals (intro hc;have hp:=hc;try simp at hp;try (exfalso;omega)))|refine qX ?_ ?_)
   all_goals try (exfalso;first|omega|(simp_all;done))
   (refine Awp.red (qB (τ:=⟨[(0,.os 0 0 t.length),(2,.v (.int .i64 v)),(23,wE l),(24,.v (.int .i64 l.length)),(25,.v (.int .i64 ((0:Nat):Int)))],[(0,.own false 4 (t.map Ent.row))],1⟩) [(0,0)] rfl ?gts ?ghs) ?gmain;(case gts=>(repeat (first|exact qg|refine qo ?_|refine yg ?_|refine x6 ?_|refine qY ?_ ?_));all_goals (first|rfl|(rw [List.length_map];done)));(case ghs=>(repeat (first|exact qj|refine j4 ?_|refine q6 ?_ ?_))))
   refine qV (fun n σ => ∃ (i:Nat) (u:List Ent),i ≤ l.length ∧ n = l.length - i ∧ (A = x7 v u (l.drop i) ∧ Right u) ∧ σ = ⟨[(0,.os 0 0 u.length),(2,.v (.int .i64 v)),(23,wE l),(24,.v (.int .i64 l.length)),(25,.v (.int .i64 (i:Int)))],[(0,.own false 4 (u.map Ent.row))],1⟩) l.length ⟨0,t,Nat.zero_le _,rfl,⟨by rw [hE];rfl,hR⟩,rfl⟩ ?_
   rintro n σ ⟨i,u,hi,rfl,⟨hA,hRu⟩,rfl⟩
   by_cases hlt:i < l.length
   ·have hr:=jB (f:=Chg.row) hlt
    have hraw:=KY u l[i] v hRu.big (hcb.each _ (List.getElem_mem _))
    unfold Ky at hraw
    rw [qa2 hlt] at hA
    by_cases hz:yJ u l[i] v = 0
    ·obtain ⟨_,_,_,hL,hRn⟩:=JW hz
     rw [if_pos hz] at hA
     rw [hL,hz] at hraw
     generalize jh u l[i] v = U at *
     clear hE hL hz
     repeat' (first|refine qn ?_|(first|(apply jo Tryz.func27 rfl rfl;intro hIsFn;refine Xu [0] [(2,.own false 4 (U.map Ent.row))] 3 (.tup [.os 2 0 U.length,.v (.int .i64 0)]) hIsFn hraw (by ((repeat' (first|exact q5|apply qA|exact q4 rfl|exact yE|(apply jU;(case hn=>rfl);(case hl=>first|with_reducible rfl|(simp;done)|(simp [*];done)|omega);(case hp=>(first|assumption|exact jZ rfl|exact qK fun _=>rfl)))|apply jX|apply jO)))<;>fail) ?_))|((first|refine xsC ?_ ?_);all_goals (intro hc;have hp:=hc;try simp at hp;try (exfalso;omega)))|refine qX ?_ ?_)
     all_goals try (exfalso;omega)
     refine ⟨l.length - (i + 1),_,by omega,qB (τ:=⟨[(0,.os 0 0 U.length),(2,.v (.int .i64 v)),(23,wE l),(24,.v (.int .i64 l.length)),(25,.v (.int .i64 ((i + 1:Nat):Int)))],[(0,.own false 4 (U.map Ent.row))],1⟩) [(2,0)] rfl ?gts ?ghs,i + 1,U,by omega,rfl,⟨hA,hRn⟩,rfl⟩;(case gts=>(repeat (first|exact qg|refine qo ?_|refine yg ?_|refine x6 ?_|refine qY ?_ ?_)));(case ghs=>(repeat (first|exact qj|refine j4 ?_|refine q6 ?_ ?_)))
    ·rw [if_neg hz] at hA
     have hL:vf u l[i] v = []:=by unfold vf;rw [if_neg hz]
     rw [hL] at hraw
     rw [hA]
     generalize yJ u l[i] v = E at *
     clear hE hL hA
     repeat' (first|refine qn ?_|(first|(apply jo Tryz.func27 rfl rfl;intro hIsFn;refine Xu [0] [(2,.own false 4 (([]:List Ent).map Ent.row))] 3 (.tup [.os 2 0 0,.v (.int .i64 E)]) hIsFn hraw (by ((repeat' (first|exact q5|apply qA|exact q4 rfl|exact yE|(apply jU;(case hn=>rfl);(case hl=>first|with_reducible rfl|(simp;done)|(simp [*];done)|omega);(case hp=>(first|assumption|exact jZ rfl|exact qK fun _=>rfl)))|apply jX|apply jO)))<;>fail) ?_))|((first|refine xsC ?_ ?_);all_goals (intro hc;have hp:=hc;try simp at hp;try (exfalso;omega)))|refine qX ?_ ?_)
     all_goals try (exfalso;omega)
     (refine xy (C:=C) (ye (C:=C) 6 4 rfl (Nat.zero_le _)) ?_)
     (refine QV (rs:=[.tmp 6,.tmp 7]) [(3,0)] 1 ?_;(repeat (first|exact qj|refine j4 ?_|refine q6 ?_ ?_));all_goals trace_state)
   obtain rfl:i = l.length:=by omega
   rw [List.drop_length] at hA
   have hA:A = (u,0):=hA
   rw [hA]
   clear hE hA
   repeat' (first|refine qn ?_|fail|((first|refine xsC ?_ ?_);all_goals (intro hc;have hp:=hc;try simp at hp;try (exfalso;omega)))|refine qX ?_ ?_)
   all_goals try (exfalso;omega)
   (refine QV (rs:=[.tmp 6,.tmp 7]) [(0,0)] 1 ?_;(repeat (first|exact qj|refine j4 ?_|refine q6 ?_ ?_));all_goals trace_state)
 ·rw [if_pos hte] at hE
  rw [hE]
  generalize qC t = E at *
  refine qc Tryz.func30 rfl _ Tryz.ntmps30 (Nat.le_of_ble_eq_true rfl) _ Tryz.results30 0 rfl rfl ?_
  repeat' (first|refine qn ?_|(first|refine j1 Tryz.func63 (h1 ..) ?_)|((first|refine xsC ?_ ?_);all_goals (intro hc;have hp:=hc;try simp at hp;try (exfalso;omega)))|refine qX ?_ ?_)
  all_goals try (exfalso;omega)
  (refine xy (C:=C) (ye (C:=C) 6 4 rfl (Nat.zero_le _)) ?_)
  (refine QV (rs:=[.tmp 6,.tmp 7]) [(0,0)] 1 ?_;(repeat (first|exact qj|refine j4 ?_|refine q6 ?_ ?_));all_goals trace_state)
end Go.Proofs.YtamejbkifpjhiaaGreatDoor
