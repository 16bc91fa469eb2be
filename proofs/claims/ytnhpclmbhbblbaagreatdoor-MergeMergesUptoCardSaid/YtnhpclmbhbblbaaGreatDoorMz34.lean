import Derived.Test.YtnhpclmbhbblbaaGreatDoorMz30
import Derived.Test.YtnhpclmbhbblbaaGreatDoorMz0
import Derived.Test.YtnhpclmbhbblbaaGreatDoorMz33
set_option linter.unusedSimpArgs false
set_option linter.unnecessarySimpa false
set_option linter.unusedVariables false
set_option maxHeartbeats 1000000
namespace Go.Proofs.YtnhpclmbhbblbaaGreatDoor
open Go.Ab Go.RowKit
set_option maxRecDepth 10000
attribute [local irreducible] Awp j4 jw js Red qU Go.Ab.Fin q6 Rz x6 jp jo ResOk jJ ju yb jx
theorem Zv {b m t:List Ent} (h:¬ jd qI [b,m,t] = 0):xi b m t = ([],[],jd qI [b,m,t]):=by
 unfold xi;rw [if_neg h]
theorem Zr {b m t:List Ent} (h:jd qI [b,m,t] = 0):xi b m t = x0 b m t:=by
 unfold xi;rw [if_pos h]
theorem VH {b m t:List Ent} (h:jd qI [b,m,t] = 0):qI b = 0 ∧ qI m = 0 ∧ qI t = 0:=by
 have:=xA.1 h
 exact ⟨this b (by simp),this m (by simp),this t (by simp)⟩
theorem Q3 (t:List Ent) (e:Int) (h:¬ e = 0 → t = []):Qc t e e t = true:=by
 unfold Qc
 by_cases h0:e = 0
 ·rw [if_pos h0];simp
 ·rw [if_neg h0,h h0];simp
theorem Zm {b m t:List Ent} (hb:Right b) (hm:Right m) (ht:Right t):(x0 b m t).1.length ≤ 60 ∧ (x0 b m t).2.1.length ≤ 1000000:=by
 by_cases h:(x0 b m t).2.2 = 0
 ·exact ⟨(XC hb hm ht h).len,Zc hb hm ht h⟩
 ·have h1:=QB (b:=b) (m:=m) (t:=t) (by rw [QG (xl.2 hb) (xl.2 hm) (xl.2 ht)];exact h)
  rw [QG (xl.2 hb) (xl.2 hm) (xl.2 ht)] at h1
  rw [h1.1,h1.2];simp
theorem VL (b m t:List Ent) (hb:EBig b) (hm:EBig m) (ht:EBig t):vg C.P 3 [qe b,qe m,qe t] (.v (.bool true)):=by
 have h1:=XZ b m t hb hm ht
 have h2:=qbg b m t hb hm ht
 have h3:=XM b m t hb hm ht
 have hg:=XO
 by_cases h0:jd qI [b,m,t] = 0
 case neg =>
  rw [Zv h0] at h1 h2
  have h4:=Vl [] (jd qI [b,m,t]) (jd qI [b,m,t]) [] (by simp) (by simp)
  rw [Q3 [] _ (fun _=>rfl)] at h4
  have h5:=Qq [] (by simp)
  generalize jd qI [b,m,t] = E at *
  unfold zT vy at h1
  unfold vy at h5
  dsimp only at h1 h2
  have d0:decide (E = E) = true:=by simp
  have d1:decide (E = 0) = false:=decide_eq_false h0
  rw [d1] at h2
  refine qh Tryz.func3 rfl _ Tryz.ntmps3 (Nat.le_of_ble_eq_true rfl) _ Tryz.results3 0 rfl rfl ?_
  repeat' (first|refine qA ?_|(first|refine xB Tryz.func7 (h1 ..) ?_|refine xB Tryz.func8 (h2 ..) ?_|refine jM Tryz.func9 (h3 ..) ?_|refine jM Tryz.func11 (hg ..) ?_|refine jM Tryz.func12 (h4 ..) ?_|refine jM Tryz.func13 (h5 ..) ?_|(refine qam ?_))|((first|refine qk ?_ ?_|refine ql ?_ ?_|refine jg ?_ ?_);all_goals (intro hc;have hp:=hc;try simp at hp;try (exfalso;omega)))|refine jh ?_ ?_)
  all_goals try (exfalso;first|omega|contradiction|simp_all;done)
  all_goals (apply yE;rfl;first|rfl|simp;done|simp_all;done)
 obtain ⟨e1,e2,e3⟩:=VH h0
 have rb:=xl.1 e1
 have rm:=xl.1 e2
 have rt:=xl.1 e3
 have h6:=KJ b m t rb rm rt
 have hf:=Zm rb rm rt
 have hem:=QB (b:=b) (m:=m) (t:=t)
 rw [Zr h0] at h1 h2 hem
 rw [h0] at h3
 generalize x0 b m t = r at *
 obtain ⟨X,L,E⟩:=r
 dsimp only at *
 have h4:=Vl X E E X (by omega) (by omega)
 rw [Q3 X E (fun h=>(hem h).1)] at h4
 have h5:=Qq L (by omega)
 have hml:(L.map Cpy.row).length = L.length:=List.length_map ..
 unfold zT vy at h1 h6
 unfold vy at h5
 have d0:decide (E = E) = true:=by simp
 by_cases hE:E = 0
 ·subst hE
  have d2:(decide ((0:Int) = 0) && decide (L.length = 0)) = decide ((L.length:Int) = 0):=by simp
  rw [d2] at h2
  refine qh Tryz.func3 rfl _ Tryz.ntmps3 (Nat.le_of_ble_eq_true rfl) _ Tryz.results3 0 rfl rfl ?_
  repeat' (first|refine qA ?_|(first|refine xB Tryz.func7 (h1 ..) ?_|refine xB Tryz.func8 (h2 ..) ?_|refine jM Tryz.func9 (h3 ..) ?_|refine xB Tryz.func10 (h6 ..) ?_|refine jM Tryz.func11 (hg ..) ?_|refine jM Tryz.func12 (h4 ..) ?_|refine jM Tryz.func13 (h5 ..) ?_|(refine qam ?_))|((first|refine qk ?_ ?_|refine ql ?_ ?_|refine jg ?_ ?_);all_goals (intro hc;have hp:=hc;try simp at hp;try (exfalso;omega)))|refine jh ?_ ?_)
  all_goals try (exfalso;first|omega|contradiction|simp_all;done)
  all_goals (apply yE;rfl;first|rfl|simp;done|simp_all;done)
 ·have d1:decide (E = 0) = false:=decide_eq_false hE
  rw [d1,Bool.false_and] at h2
  refine qh Tryz.func3 rfl _ Tryz.ntmps3 (Nat.le_of_ble_eq_true rfl) _ Tryz.results3 0 rfl rfl ?_
  repeat' (first|refine qA ?_|(first|refine xB Tryz.func7 (h1 ..) ?_|refine xB Tryz.func8 (h2 ..) ?_|refine jM Tryz.func9 (h3 ..) ?_|refine xB Tryz.func10 (h6 ..) ?_|refine jM Tryz.func11 (hg ..) ?_|refine jM Tryz.func12 (h4 ..) ?_|refine jM Tryz.func13 (h5 ..) ?_|(refine qam ?_))|((first|refine qk ?_ ?_|refine ql ?_ ?_|refine jg ?_ ?_);all_goals (intro hc;have hp:=hc;try simp at hp;try (exfalso;omega)))|refine jh ?_ ?_)
  all_goals try (exfalso;first|omega|contradiction|simp_all;done)
  all_goals (apply yE;rfl;first|rfl|simp;done|simp_all;done)
theorem Jp (ys:List AV) (h:XT C.tab 1000000000 [22,22,22] ys):vg C.P 3 ys (.v (.bool true)):=by
 obtain ⟨_,_,rfl,h0,_,_,rfl,h1,_,_,rfl,h2,rfl⟩:=h
 obtain ⟨a,rfl,ha⟩:=J9 h0
 obtain ⟨b,rfl,hb⟩:=J9 h1
 obtain ⟨c,rfl,hc⟩:=J9 h2
 exact VL a b c ha hb hc
end Go.Proofs.YtnhpclmbhbblbaaGreatDoor
