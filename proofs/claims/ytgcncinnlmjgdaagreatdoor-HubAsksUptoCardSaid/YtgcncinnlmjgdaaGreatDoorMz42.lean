import Derived.Test.YtgcncinnlmjgdaaGreatDoorMz20
import Derived.Test.YtgcncinnlmjgdaaGreatDoorMz28
import Derived.Test.YtgcncinnlmjgdaaGreatDoorMz40
import Derived.Test.YtgcncinnlmjgdaaGreatDoorMz41
import Derived.Test.YtgcncinnlmjgdaaGreatDoorMz19
set_option linter.unusedSimpArgs false
set_option linter.unnecessarySimpa false
set_option linter.unusedVariables false
set_option maxHeartbeats 4000000
set_option maxRecDepth 10000
namespace Go.Proofs.YtgcncinnlmjgdaaGreatDoor
open Go.Ab Go.RowKit
theorem qcn {r:Rqt} (h:r.fit):RBig r:=⟨h.who,h.folder,h.name,h.key,h.text,⟨fun c hc=>⟨(h.chs c hc).path,(h.chs c hc).tto,(h.chs c hc).text⟩,h.len⟩⟩
theorem J3 {n:Int} (h:zV n):kv n:=⟨by have:=h.1;omega,by have:=h.2;omega⟩
theorem qmC {e:Ent} (h:qfu e):e.fit:=⟨Nat.le_trans h.1 (by decide),Nat.le_trans h.2.1 (by decide),J3 h.2.2⟩
theorem qmz {c:Chg} (h:qiv c):c.fit:=⟨J3 h.1,Nat.le_trans h.2.1 (by decide),Nat.le_trans h.2.2.1 (by decide),Nat.le_trans h.2.2.2.1 (by decide),J3 h.2.2.2.2⟩
theorem qmA {c:Com} (h:qb9 c):c.fit:=⟨J3 h.1,Nat.le_trans h.2.1 (by decide),fun x hx=>qmz (h.2.2.2 x hx),Nat.le_trans h.2.2.1 (by decide)⟩
theorem Wm {a:Ans} (h:XH a):a.fit :=
 ⟨J3 h.1,J3 h.2.1,fun x hx=>qmC (h.2.2.1.2 x hx),Nat.le_trans h.2.2.1.1 (by decide),fun x hx=>qmA (h.2.2.2.1.2 x hx),Nat.le_trans h.2.2.2.1.1 (by decide),J3 h.2.2.2.2⟩
def qhR (h:Hub) (s:qb):Hub × Ans:=if (vU s).2 = 0 then y8 h (vU s).1 else (h,QW 1)
def qbL (h:Hub) (s:qb):Hub × qb × Int:=if yE h = 0 then ((qhR h s).1,Wn (qhR h s).2,0) else (qhA,[],yE h)
attribute [local irreducible] Awp j9 jr ye Red qz Go.Ab.Fin qf Rz wz jF jU ResOk yA j1 xR qX
theorem qkJ:XH (QW 1):=zW (by unfold yn;omega)
theorem qn7 (h:Hub) (hb:HBig h) (s:qb) (hs:s.length ≤ 1000000000):jN C.P 5 [vT h,.v (str s)] (.tup [vT (qbL h s).1,.v (str (qbL h s).2.1),.v (.int .i64 (qbL h s).2.2)]):=by
 have h1:=Je h hb;unfold qbL;by_cases h0:yE h = 0
 case neg =>
  rw [if_neg h0];generalize yE h = E at *;refine qJ 0 ?_
  repeat' (first|refine qg ?_|(first|refine jT (h1 ..) ?_)|(refine xsS ?_ ?_;all_goals first|exact False.elim|intro hp hc)|refine xsA ?_ ?_)
  all_goals try (exfalso;omega)
  (exact Jd (rs:=[.cell 4 28,.tmp 5,.tmp 6]) (hz:=Vb))
 rw [if_pos h0];have hr:=vC.1 h0;rw [h0] at h1;have h2:=qgW s hs;have hf:=qfk s hs;unfold qhR;by_cases ha:(vU s).2 = 0
 ·rw [if_pos ha];rw [ha] at h2;have h3:=Zh h hb hr _ (qcn hf);have hO:=qam hr (vU s).1;have h4:=qb0 _ (Wm hO);rw [Zi hO] at h4;generalize (vU s).1 = q at *;generalize y8 h q = P at *;obtain ⟨x,a⟩:=P;generalize Wn a = T at *;unfold Ka at h3;dsimp only at *;unfold Jf at h3;unfold Ky at h3;refine qJ 0 ?_
  repeat' (first|refine qg ?_|(first|refine jT (h1 ..) ?_|refine yS (h2 ..) ?_|refine yS (h3 ..) ?_|refine jT (h4 ..) ?_)|(refine xsS ?_ ?_;all_goals first|exact False.elim|intro hp hc)|refine xsA ?_ ?_)
  all_goals try (exfalso;first|omega|contradiction|simp_all;done)
  all_goals ((exact Jd (rs:=[.cell 4 28,.tmp 5,.tmp 6]) (hz:=Vb)))
 ·rw [if_neg ha];have h3:=Y6 h hr;have h4:=qb0 (QW 1) (Wm qkJ);rw [Zi qkJ] at h4;generalize (vU s).1 = q at *;generalize (vU s).2 = E at *;generalize Wn (QW 1) = T at *;dsimp only at *;refine qJ 0 ?_
  repeat' (first|refine qg ?_|(first|refine jT (h1 ..) ?_|refine yS (h2 ..) ?_|refine yS (h3 ..) ?_|refine jT (h4 ..) ?_)|(refine xsS ?_ ?_;all_goals first|exact False.elim|intro hp hc)|refine xsA ?_ ?_)
  all_goals try (exfalso;first|omega|contradiction|simp_all;done)
  all_goals ((exact Jd (rs:=[.cell 4 28,.tmp 5,.tmp 6]) (hz:=Vb)))
theorem qiT (h:Hub) (hb:HBig h) (r:Rqt) (hr:r.fit):jN C.P 4 [vT h,.agg r.row] (.v (.bool true)):=by
 have hg:=qfa;have hw:=qj1;have h1:=qgV r hr;by_cases ha:(JM r).2 = 0
 case neg =>
  generalize JM r = P at *;refine qJ 0 ?_;exact Yp
 have he:vU (JM r).1 = (r,0):=qa9 (Prod.ext rfl ha);have h2:=qn7 h hb (JM r).1 (qkb r hr);have h3:=qmq h hb r (qcn hr);rw [ha] at h1;by_cases h0:yE h = 0
 case neg =>
  unfold qbL at h2;unfold Z3 at h3;rw [if_neg h0] at h2 h3;dsimp only at h2 h3;unfold Ka at h3;generalize yE h = E at *;generalize (JM r).1 = T at *;have d0:decide (E = E) = true:=by simp
  refine qJ 0 ?_;exact Yp
 have hR:=vC.1 h0;unfold qbL qhR at h2;unfold Z3 at h3;rw [if_pos h0] at h2 h3;rw [he] at h2;rw [if_pos rfl] at h2;have hO:=qam hR r;have hS:=(YZ hR r).right;have hB:=Z4 hb hR (qcn hr);have hP:=qmx hb hR r;have h4:=qn8 (Wn (y8 h r).2) (by have:=qjm _ (Wm hO);rw [Zi hO] at this;exact this);rw [qjq (Zi hO)] at h4;generalize (JM r).1 = T at *;generalize y8 h r = P at *;obtain ⟨x,a⟩:=P;dsimp only at *;have hs:=qif x hB hS.lens.1 hS.lens.2;have hsa:=qid a hP;generalize Wn a = U at *;unfold Ka at h3;unfold Jf at h3 hsa;clear hS hB hP hO he ha h0 hb hR;refine qJ 0 ?_;exact Yp
theorem qaR (ys:List AV) (h:qbS C.tab 1000000000 [28,40] ys):jN C.P 4 ys (.v (.bool true)):=by
 obtain ⟨_,_,rfl,h0,_,_,rfl,h1,rfl⟩:=h;obtain ⟨a,rfl,ha⟩:=qns h0;obtain ⟨b,rfl,hb⟩:=qlP h1;exact qiT a ha b hb
end Go.Proofs.YtgcncinnlmjgdaaGreatDoor
