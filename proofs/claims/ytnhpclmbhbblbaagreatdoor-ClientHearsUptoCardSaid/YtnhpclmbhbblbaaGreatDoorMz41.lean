import Derived.Test.YtnhpclmbhbblbaaGreatDoorMz37
import Derived.Test.YtnhpclmbhbblbaaGreatDoorMz38
import Derived.Test.YtnhpclmbhbblbaaGreatDoorMz40
set_option linter.unusedSimpArgs false
set_option linter.unnecessarySimpa false
set_option linter.unusedVariables false
set_option maxHeartbeats 1000000
namespace Go.Proofs.YtnhpclmbhbblbaaGreatDoor
open Go.Ab Go.RowKit
set_option maxRecDepth 10000
attribute [local irreducible] Awp yl jE jl Red qX Go.Ab.Fin qW Rz vl jj ji ResOk jV jz yb jv
set_option maxHeartbeats 4000000 in
theorem qdk (c:Cli) (hb:CliBig c) (hR:CRight c) (k:Int) (a:Anw) (ha:PBig a.page):yO C.P 19 [.agg c.row,.v (.int .i64 k),.agg a.row] (w7 (kR c k a)):=by
 have hF:=qaF c.base c.cursor a.page hb.base ha
 have rb:=ju.1 hR.base
 have rm:=ju.1 hR.mine
 obtain ⟨err,num,⟨res,tree,coms,cur,more⟩⟩:=a
 obtain ⟨who,folder,base,cursor,mine,key,asked,keys⟩:=c
 unfold qcV at hF
 unfold Pag.row at hF
 unfold kR V9
 dsimp only at *
 by_cases k1:k = 1
 ·subst k1
  rw [if_pos rfl]
  unfold w7 vf
  refine qa Tryz.func19 rfl _ Tryz.ntmps19 (Nat.le_of_ble_eq_true rfl) _ Tryz.results19 0 rfl rfl ?_
  repeat' (first|refine qm ?_|(first|fail)|((first|refine qd ?_ ?_|refine qc ?_ ?_|refine xsC ?_ ?_);all_goals (intro hc;have hp:=hc;try simp at hp;try (exfalso;omega)))|refine qO ?_ ?_)
  all_goals try (exfalso;first|omega|contradiction|simp_all;done)
  all_goals ((exact xE (rs:=[.cell 6 38,.tmp 7,.tmp 8])))
 rw [if_neg k1]
 by_cases k2:k = 2
 case neg =>
  rw [if_pos k2]
  unfold w7 vf
  refine qa Tryz.func19 rfl _ Tryz.ntmps19 (Nat.le_of_ble_eq_true rfl) _ Tryz.results19 0 rfl rfl ?_
  repeat' (first|refine qm ?_|(first|fail)|((first|refine qd ?_ ?_|refine qc ?_ ?_|refine xsC ?_ ?_);all_goals (intro hc;have hp:=hc;try simp at hp;try (exfalso;omega)))|refine qO ?_ ?_)
  all_goals try (exfalso;first|omega|contradiction|simp_all;done)
  all_goals ((exact xE (rs:=[.cell 6 38,.tmp 7,.tmp 8])))
 subst k2
 rw [if_neg (by simp)]
 by_cases h0:err = 0
 case neg =>
  rw [if_pos h0]
  unfold w7 vf
  refine qa Tryz.func19 rfl _ Tryz.ntmps19 (Nat.le_of_ble_eq_true rfl) _ Tryz.results19 0 rfl rfl ?_
  repeat' (first|refine qm ?_|(first|fail)|((first|refine qd ?_ ?_|refine qc ?_ ?_|refine xsC ?_ ?_);all_goals (intro hc;have hp:=hc;try simp at hp;try (exfalso;omega)))|refine qO ?_ ?_)
  all_goals try (exfalso;first|omega|contradiction|simp_all;done)
  all_goals ((exact xE (rs:=[.cell 6 38,.tmp 7,.tmp 8])))
 subst h0
 rw [if_neg (by simp)]
 by_cases h1:res = true ∧ cur < cursor
 ·rw [if_pos h1]
  obtain ⟨rfl,h1⟩:=h1
  unfold w7 vf
  refine qa Tryz.func19 rfl _ Tryz.ntmps19 (Nat.le_of_ble_eq_true rfl) _ Tryz.results19 0 rfl rfl ?_
  repeat' (first|refine qm ?_|(first|fail)|((first|refine qd ?_ ?_|refine qc ?_ ?_|refine xsC ?_ ?_);all_goals (intro hc;have hp:=hc;try simp at hp;try (exfalso;omega)))|refine qO ?_ ?_)
  all_goals try (exfalso;first|omega|contradiction|simp_all;done)
  all_goals ((exact xE (rs:=[.cell 6 38,.tmp 7,.tmp 8])))
 rw [if_neg h1]
 have hfR:(j0 base cursor ⟨res,tree,coms,cur,more⟩).2.2 = 0 → Right (j0 base cursor ⟨res,tree,coms,cur,more⟩).1:=fun e=>kX e
 generalize j0 base cursor ⟨res,tree,coms,cur,more⟩ = FF at *
 obtain ⟨T,cu,E⟩:=FF
 dsimp only at *
 have h1' : res = true → ¬ cur < cursor:=fun e h=>h1 ⟨e,h⟩
 by_cases hE:E = 0
 case neg =>
  rw [if_pos hE]
  unfold w7 vf
  refine qa Tryz.func19 rfl _ Tryz.ntmps19 (Nat.le_of_ble_eq_true rfl) _ Tryz.results19 0 rfl rfl ?_
  repeat' (first|refine qm ?_|(first|refine xsQ Tryz.func48 (hF ..) ?_)|((first|refine qd ?_ ?_|refine qc ?_ ?_|refine xsC ?_ ?_);all_goals (intro hc;have hp:=hc;try simp at hp;try (exfalso;omega)))|refine qO ?_ ?_)
  all_goals try (exfalso;first|omega|contradiction|simp_all;done)
  all_goals ((exact xE (rs:=[.cell 6 38,.tmp 7,.tmp 8])))
 subst hE
 rw [if_neg (by simp)]
 have rT:=hfR rfl
 have hM:=qb9 base mine T rb rm rT
 rw [wi (ju.2 rb) (ju.2 rm) (ju.2 rT)]
 generalize vW base mine T = MM at *
 obtain ⟨X,L,G⟩:=MM
 unfold Q5 at hM
 dsimp only at *
 clear hfR
 by_cases hG:G = 0
 case neg =>
  rw [if_pos hG]
  unfold w7 vf
  refine qa Tryz.func19 rfl _ Tryz.ntmps19 (Nat.le_of_ble_eq_true rfl) _ Tryz.results19 0 rfl rfl ?_
  repeat' (first|refine qm ?_|(first|refine xsQ Tryz.func48 (hF ..) ?_|refine xsQ Tryz.func10 (hM ..) ?_)|((first|refine qd ?_ ?_|refine qc ?_ ?_|refine xsC ?_ ?_);all_goals (intro hc;have hp:=hc;try simp at hp;try (exfalso;omega)))|refine qO ?_ ?_)
  all_goals try (exfalso;first|omega|contradiction|simp_all;done)
  all_goals ((exact xE (rs:=[.cell 6 38,.tmp 7,.tmp 8])))
 subst hG
 rw [if_neg (by simp)]
 unfold w7
 refine qa Tryz.func19 rfl _ Tryz.ntmps19 (Nat.le_of_ble_eq_true rfl) _ Tryz.results19 0 rfl rfl ?_
 repeat' (first|refine qm ?_|(first|refine xsQ Tryz.func48 (hF ..) ?_|refine xsQ Tryz.func10 (hM ..) ?_)|((first|refine qd ?_ ?_|refine qc ?_ ?_|refine xsC ?_ ?_);all_goals (intro hc;have hp:=hc;try simp at hp;try (exfalso;omega)))|refine qO ?_ ?_)
 all_goals try (exfalso;first|omega|contradiction|simp_all;done)
 all_goals ((exact xE (rs:=[.cell 6 38,.tmp 7,.tmp 8])))
theorem qa0 (c:Cli) (k:Int) (a:Anw) (hR:CRight c):(¬ (kR c k a).2.2 = 0 → (kR c k a).1 = zl ∧ (kR c k a).2.1 = []) ∧ ((kR c k a).2.2 = 0 → (kR c k a).1.base.length ≤ 60 ∧ (kR c k a).1.mine.length ≤ 60 ∧ (kR c k a).1.asked.length ≤ 20) ∧ (kR c k a).2.1.length ≤ 1000000:=by
 have rb:=ju.1 hR.base
 have rm:=ju.1 hR.mine
 have lb:=rb.len
 have lm:=rm.len
 have la:=hR.few
 unfold kR
 by_cases k1:k = 1
 ·rw [if_pos k1]
  exact ⟨fun h=>absurd rfl h,fun _=>⟨lb,lm,by simp⟩,by simp⟩
 rw [if_neg k1]
 by_cases k2:k = 2
 case neg=>rw [if_pos k2];exact ⟨fun _=>⟨rfl,rfl⟩,fun h=>absurd (show (7:Int) = 0 from h) (by decide),by simp⟩
 rw [if_neg (by simp [k2])]
 unfold V9
 by_cases h0:a.err = 0
 case neg=>rw [if_pos h0];exact ⟨fun _=>⟨rfl,rfl⟩,fun h=>absurd h h0,by simp⟩
 rw [if_neg (by simp [h0])]
 by_cases h1:a.page.reset = true ∧ a.page.cur < c.cursor
 ·rw [if_pos h1];exact ⟨fun _=>⟨rfl,rfl⟩,fun h=>absurd (show (4:Int) = 0 from h) (by decide),by simp⟩
 rw [if_neg h1]
 by_cases h2:(j0 c.base c.cursor a.page).2.2 = 0
 case neg=>rw [if_pos h2];exact ⟨fun _=>⟨rfl,rfl⟩,fun h=>absurd h h2,by simp⟩
 rw [if_neg (by simp [h2])]
 have rT:=kX h2
 rw [wi (ju.2 rb) (ju.2 rm) (ju.2 rT)]
 have hf:=qa7 rb rm rT
 by_cases h3:(vW c.base c.mine (j0 c.base c.cursor a.page).1).2.2 = 0
 case neg=>rw [if_pos h3];exact ⟨fun _=>⟨rfl,rfl⟩,fun h=>absurd h h3,by simp⟩
 rw [if_neg (by simp [h3])]
 exact ⟨fun h=>absurd rfl h,fun _=>⟨rT.len,hf.1,la⟩,hf.2⟩
theorem qd8 {c:Cli} (hb:CliBig c) (hR:CRight c) {k:Int} {a:Anw} (ha:PBig a.page):CliBig (kR c k a).1:=by
 have rb:=ju.1 hR.base
 have rm:=ju.1 hR.mine
 unfold kR
 by_cases k1:k = 1
 ·rw [if_pos k1];exact ⟨hb.who,hb.folder,hb.base,hb.mine,by simp,KJ⟩
 rw [if_neg k1]
 by_cases k2:k = 2
 case neg=>rw [if_pos k2];exact kr
 rw [if_neg (by simp [k2])]
 unfold V9
 by_cases h0:a.err = 0
 case neg=>rw [if_pos h0];exact kr
 rw [if_neg (by simp [h0])]
 by_cases h1:a.page.reset = true ∧ a.page.cur < c.cursor
 ·rw [if_pos h1];exact kr
 rw [if_neg h1]
 by_cases h2:(j0 c.base c.cursor a.page).2.2 = 0
 case neg=>rw [if_pos h2];exact kr
 rw [if_neg (by simp [h2])]
 have rT:=kX h2
 rw [wi (ju.2 rb) (ju.2 rm) (ju.2 rT)]
 by_cases h3:(vW c.base c.mine (j0 c.base c.cursor a.page).1).2.2 = 0
 case neg=>rw [if_pos h3];exact kr
 rw [if_neg (by simp [h3])]
 exact ⟨hb.who,hb.folder,rT.big,(YN rb rm rT h3).big,hb.key,hb.asked⟩
theorem qa4 (c:Cli) (hb:CliBig c) (k:Int) (a:Anw) (ha:PBig a.page):yO C.P 5 [.agg c.row,.v (.int .i64 k),.agg a.row] (.v (.bool true)):=by
 have h1:=qgk c hb k a ha
 have h2:=qdg c hb
 have hg:=qdf
 unfold qd7 at h1
 by_cases h0:yX c = 0
 case neg =>
  rw [if_pos h0] at h1
  have h4:=Vs zl zl (yX c) (yX c) kr kr
  rw [show (decide (yX c = yX c) && decide (zl = if yX c = 0 then zl else zl)) = true from by rw [qec];simp] at h4
  have h5:=Yn [] (by simp)
  generalize yX c = E at *
  unfold w7 vf at h1
  unfold vf at h5
  refine qa Tryz.func5 rfl _ Tryz.ntmps5 (Nat.le_of_ble_eq_true rfl) _ Tryz.results5 0 rfl rfl ?_
  repeat' (first|refine qm ?_|(first|refine xsQ Tryz.func17 (h1 ..) ?_|refine jc Tryz.func18 (h2 ..) ?_|refine jc Tryz.func20 (hg ..) ?_|refine jc Tryz.func21 (h4 ..) ?_|refine jc Tryz.func13 (h5 ..) ?_)|((first|refine qd ?_ ?_|refine qc ?_ ?_|refine xsC ?_ ?_);all_goals (intro hc;have hp:=hc;try simp at hp;try (exfalso;omega)))|refine qO ?_ ?_)
  all_goals try (exfalso;first|omega|contradiction|simp_all;done)
  all_goals (apply jB;rfl;first|rfl|simp;done|simp_all;done)
 rw [if_neg (by simp [h0])] at h1
 rw [h0] at h2
 have hR:=Qy.1 h0
 have h3:=qdk c hb hR k a ha
 obtain ⟨q1,q2,q3⟩:=qa0 c k a hR
 have hkeep:=qd8 hb hR ha (k:=k)
 generalize kR c k a = r at *
 obtain ⟨d,L,E⟩:=r
 dsimp only at *
 have h5:=Yn L (by omega)
 have h4:=Vs d d E E hkeep hkeep
 rw [show (decide (E = E) && decide (d = if E = 0 then d else zl)) = true from by
  by_cases hE:E = 0
  ·rw [if_pos hE];simp
  ·rw [if_neg hE,(q1 hE).1];simp] at h4
 unfold w7 vf at h1 h3
 unfold vf at h5
 clear q1 q2 q3 hkeep
 refine qa Tryz.func5 rfl _ Tryz.ntmps5 (Nat.le_of_ble_eq_true rfl) _ Tryz.results5 0 rfl rfl ?_
 repeat' (first|refine qm ?_|(first|refine xsQ Tryz.func17 (h1 ..) ?_|refine jc Tryz.func18 (h2 ..) ?_|refine xsQ Tryz.func19 (h3 ..) ?_|refine jc Tryz.func20 (hg ..) ?_|refine jc Tryz.func21 (h4 ..) ?_|refine jc Tryz.func13 (h5 ..) ?_)|((first|refine qd ?_ ?_|refine qc ?_ ?_|refine xsC ?_ ?_);all_goals (intro hc;have hp:=hc;try simp at hp;try (exfalso;omega)))|refine qO ?_ ?_)
 all_goals try (exfalso;first|omega|contradiction|simp_all;done)
 all_goals (apply jB;rfl;first|rfl|simp;done|simp_all;done)
theorem VX (ys:List AV) (h:Ko C.tab 1000000000 [38,3,43] ys):yO C.P 5 ys (.v (.bool true)):=by
 obtain ⟨_,_,rfl,h0,_,_,rfl,h1,_,_,rfl,h2,rfl⟩:=h
 obtain ⟨a,rfl,ha⟩:=qfW h0
 obtain ⟨b,rfl,_⟩:=qfX h1
 obtain ⟨c,rfl,hc⟩:=qfV h2
 exact qa4 a ha b c hc
end Go.Proofs.YtnhpclmbhbblbaaGreatDoor
