import Derived.Test.YtgcncinnlmjgdaaGreatDoorMz22
import Derived.Test.YtgcncinnlmjgdaaGreatDoorMz13
import Derived.Test.YtgcncinnlmjgdaaGreatDoorMz25
import Derived.Test.YtgcncinnlmjgdaaGreatDoorMz26
import Derived.Test.YtgcncinnlmjgdaaGreatDoorMz23
import Derived.Test.YtgcncinnlmjgdaaGreatDoorMz2
import Derived.Test.YtgcncinnlmjgdaaGreatDoorMz11
set_option linter.unusedSimpArgs false
set_option linter.unnecessarySimpa false
set_option linter.unusedVariables false
set_option maxHeartbeats 1000000
set_option maxRecDepth 10000
namespace Go.Proofs.YtgcncinnlmjgdaaGreatDoor
open Go.Ab Go.RowKit
attribute [local irreducible] Awp j9 jr ye Red qz Go.Ab.Fin qf Rz wz jF jU ResOk yA j1 xR qX
theorem qh3 (l:List Gra) (hl:l.length ≤ 1000000):jN C.P 56 [jw l] (jw l) :=
 Qr (Yr l hl) (xu rfl (by simp) (js fun _=>rfl))
theorem qh4 (l:List Sess) (hl:l.length ≤ 1000000):jN C.P 57 [Z5 l] (Z5 l) :=
 Qr (qdc l hl) (xu rfl (by simp) (js fun _=>rfl))
theorem qe6 (l:List Fol) (hl:l.length ≤ 1000000) :
  qf C.P 55 [Jo l] [] (.os 0 0 l.length) [.own false 4 (l.map Fol.row)]:=by
 by_cases h0:l = []
 ·subst h0;refine qJ 0 ?_
  repeat' (first|refine qg ?_|(first|(refine jd ?_)|(refine vm ?_)|(refine Xj ?_))|(refine xsS ?_ ?_;all_goals first|exact False.elim|intro hp hc)|refine xsA ?_ ?_)
  · (refine Q4 (C:=C) (Q9 (C:=C) 2 4 rfl (Nat.zero_le _)) ?_)
    (exact yp (rs:=[.tmp 2]) [(0,0)] 1 Yh)
  · (exact yp (rs:=[.tmp 2]) [(0,0)] 1 Yh)
 ·refine qJ 0 ?_
  repeat' (first|refine qg ?_|(first|(refine jd ?_)|(refine vm ?_)|(apply qa;apply Qh;rfl;exact (fun h=>h0 (List.map_eq_nil_iff.1 h));rfl;rfl;(first|exact .inl rfl|exact .inr rfl);exact nle rfl))|(refine xsS ?_ ?_;all_goals first|exact False.elim|intro hp hc)|refine xsA ?_ ?_)
  (exact yp (rs:=[.tmp 2]) [(0,0)] 1 Yh)
theorem qn1 (j:Jou) (hl:j.coms.length ≤ 1000000) (hbl:j.base.length ≤ 1000000) (hc : ∀ c,c ∈ j.coms → c.chs.length ≤ 1000000):jN C.P 58 [.agg j.row] (.agg j.row):=by
 have h1:=Qd j.base hbl;have h2:=qdb j.coms hl;obtain ⟨b,n,l⟩:=j;dsimp only at *;refine qJ 0 ?_
 repeat' (first|refine qg ?_|(first|refine yS (h1 ..) ?_|(refine jP ([]) qi (h2 ..) ?_))|(refine xsS ?_ ?_;all_goals first|exact False.elim|intro hp hc)|refine xsA ?_ ?_)
 all_goals try (exfalso;omega)
 (refine Awp.red (jH (τ:=⟨[(1,.op 0 0 0),(2,.op 1 0 0),(14,.os 2 0 l.length),(15,.v (.int .i64 l.length)),(16,.v (.int .i64 ((0:Nat):Int)))],[(0,.own false 3 [[qU b,.v (.int .i64 n),.os 2 0 l.length]]),(1,.own false 3 [[.sl true [],.v (.int .i64 0),.sl true []]]),(2,.own false 3 (l.map Com.row))],3⟩) [(0,0),(1,1),(2,2)] rfl ?_ ?_) ?_;rotate_left 2;rotate_left 1;(focus ((repeat (first|exact qx|refine jz ?_|refine qhG ?_|refine qcC ?_|refine qcD ?_ ?_|refine qhF ?_|refine xy ?_ ?_));all_goals trace_state));(focus ((repeat' (first|exact qn|refine qhL ?_ ?_ ?_|refine qne ?_|refine qcK ?_ ?_|refine qcJ ?_ ?_|exact jg|apply qe|exact qy rfl|(apply yr;(refine .inr ?_;(repeat (first|exact List.mem_cons_self ..|apply List.mem_cons_of_mem))))|(apply jC;(refine .inr ?_;(repeat (first|exact List.mem_cons_self ..|apply List.mem_cons_of_mem))))));all_goals trace_state)))
 refine qB (fun n' σ => ∃ i:Nat,i ≤ l.length ∧ n' = l.length - i ∧ True ∧ σ = ⟨[(1,.op 0 0 0),(2,.op 1 0 0),(14,.os 2 0 l.length),(15,.v (.int .i64 l.length)),(16,.v (.int .i64 (i:Int)))],[(0,.own false 3 [[qU b,.v (.int .i64 n),.os 2 0 l.length]]),(1,.own false 3 [[.sl true [],.v (.int .i64 0),.sl true []]]),(2,.own false 3 (l.map Com.row))],3⟩) l.length ⟨0,Nat.zero_le _,rfl,trivial,rfl⟩ ?_;rintro n' σ ⟨i,hi,rfl, -,rfl⟩;by_cases hlt:i < l.length
 ·have hr:=qK (f:=Com.row) hlt;have hcc:=Y5 l[i].chs (hc _ (List.getElem_mem _));have hss:=qaq (f:=Com.row) hlt
  repeat' (first|refine qg ?_|(first|(refine vq ?_)|refine yS (hcc ..) ?_)|(refine xsS ?_ ?_;all_goals first|exact False.elim|intro hp hc)|refine xsA ?_ ?_)
  all_goals try (exfalso;omega)
  refine ⟨l.length - (i + 1),⟨[(1,.op 0 0 0),(2,.op 1 0 0),(14,.os 2 0 l.length),(15,.v (.int .i64 l.length)),(16,.v (.int .i64 ((i + 1:Nat):Int)))],[(0,.own false 3 [[qU b,.v (.int .i64 n),.os 2 0 l.length]]),(1,.own false 3 [[.sl true [],.v (.int .i64 0),.sl true []]]),(2,.own false 3 (l.map Com.row))],3⟩,by omega,?_,i + 1,by omega,rfl,trivial,rfl⟩;(skip);refine jH [(0,0),(1,1),(2,2)] rfl ?_ ?_;(focus ((repeat (first|exact qx|refine jz ?_|refine qhG ?_|refine qcC ?_|refine qcD ?_ ?_|refine qhF ?_|refine xy ?_ ?_));all_goals trace_state));(focus ((repeat' (first|exact qn|refine qhL ?_ ?_ ?_|refine qne ?_|refine qcK ?_ ?_|refine qcJ ?_ ?_|exact jg|apply qe|exact qy rfl|(apply yr;(refine .inr ?_;(repeat (first|exact List.mem_cons_self ..|apply List.mem_cons_of_mem))))|(apply jC;(refine .inr ?_;(repeat (first|exact List.mem_cons_self ..|apply List.mem_cons_of_mem))))));all_goals (first|exact hss|trace_state)))
 obtain rfl:i = l.length:=by omega
 exact Yp
def qnN (h:Hub) (n:Nat):AV := .agg [.os n 0 h.fols.length,jw h.gras,.sl false (h.ups.sess.map Sess.row),.v (.int .i64 h.ups.next),.v (.int .i64 h.ups.lasts),.v (.int .i64 h.ups.room),.v (.int .i64 h.now)]
theorem HRight.small {h:Hub} (hr:HRight h):h.gras.length ≤ 60 ∧ h.ups.sess.length ≤ 20 ∧ ∀ s,s ∈ h.fols → s.jou.coms.length ≤ 30 ∧ s.jou.base.length ≤ 60 ∧ ∀ c,c ∈ s.jou.coms → c.chs.length ≤ 20 :=
 ⟨(xo hr.gra).1,(kS hr.ups).2.1,fun s hs=>by
   have hJ:=(hr.each s hs).2
   exact ⟨hJ.len,hJ.base.len,fun c hc=>Qe hJ.base hJ.run c hc⟩⟩
theorem JJ (h:Hub) (hr:HRight h):qf C.P 17 [vT h] [] (qnN h 0) [.own false 4 (h.fols.map Fol.row)]:=by
 have hl:=hr.len;obtain ⟨s1,s2,s3⟩:=hr.small;have h1:=qe6 h.fols (by omega);have h2:=qh3 h.gras (by omega);have h3:=qh4 h.ups.sess (by omega)
 have ho : ∀ s,s ∈ h.fols → jN C.P 58 [.agg s.jou.row] (.agg s.jou.row):=fun s hs=>by
  obtain ⟨a,b,c⟩:=s3 s hs;exact qn1 s.jou (by omega) (by omega) (fun x hx=>by have:=c x hx;omega)
 clear s3 hr;obtain ⟨F,G,⟨S,nx,la,ro⟩,now⟩:=h;dsimp only at *;refine qJ 0 ?_
 repeat' (first|refine qg ?_|(first|(refine jP ([]) qi (h1 ..) ?_)|refine yS (h2 ..) ?_|refine yS (h3 ..) ?_)|(refine xsS ?_ ?_;all_goals first|exact False.elim|intro hp hc)|refine xsA ?_ ?_)
 all_goals try (exfalso;omega)
 (refine Awp.red (jH (τ:=⟨[(1,.op 0 0 0),(2,.op 1 0 0),(20,.os 2 0 F.length),(21,.v (.int .i64 F.length)),(22,.v (.int .i64 ((0:Nat):Int)))],[(0,.own false 7 [[.os 2 0 F.length,jw G,Z5 S,.v (.int .i64 nx),.v (.int .i64 la),.v (.int .i64 ro),.v (.int .i64 now)]]),(1,.own false 7 [[.sl true [],.sl true [],.sl true [],.v (.int .i64 0),.v (.int .i64 0),.v (.int .i64 0),.v (.int .i64 0)]]),(2,.own false 4 (F.map Fol.row))],3⟩) [(0,0),(1,1),(2,2)] rfl ?_ ?_) ?_;rotate_left 2;rotate_left 1;(focus ((repeat (first|exact qx|refine jz ?_|refine qhG ?_|refine qcC ?_|refine qcD ?_ ?_|refine qhF ?_|refine xy ?_ ?_));all_goals trace_state));(focus ((repeat' (first|exact qn|refine qhL ?_ ?_ ?_|refine qne ?_|refine qcK ?_ ?_|refine qcJ ?_ ?_|exact jg|apply qe|exact qy rfl|(apply yr;(refine .inr ?_;(repeat (first|exact List.mem_cons_self ..|apply List.mem_cons_of_mem))))|(apply jC;(refine .inr ?_;(repeat (first|exact List.mem_cons_self ..|apply List.mem_cons_of_mem))))));all_goals trace_state)))
 refine qB (fun n' σ => ∃ i:Nat,i ≤ F.length ∧ n' = F.length - i ∧ True ∧ σ = ⟨[(1,.op 0 0 0),(2,.op 1 0 0),(20,.os 2 0 F.length),(21,.v (.int .i64 F.length)),(22,.v (.int .i64 (i:Int)))],[(0,.own false 7 [[.os 2 0 F.length,jw G,Z5 S,.v (.int .i64 nx),.v (.int .i64 la),.v (.int .i64 ro),.v (.int .i64 now)]]),(1,.own false 7 [[.sl true [],.sl true [],.sl true [],.v (.int .i64 0),.v (.int .i64 0),.v (.int .i64 0),.v (.int .i64 0)]]),(2,.own false 4 (F.map Fol.row))],3⟩) F.length ⟨0,Nat.zero_le _,rfl,trivial,rfl⟩ ?_;rintro n' σ ⟨i,hi,rfl, -,rfl⟩;by_cases hlt:i < F.length
 ·have hr:=qK (f:=Fol.row) hlt;have hoi:=ho F[i] (List.getElem_mem _);have hss:=qaq (f:=Fol.row) hlt;clear ho h1 h2 h3
  repeat' (first|refine qg ?_|(first|(refine vq ?_)|refine yS (hoi ..) ?_)|(refine xsS ?_ ?_;all_goals first|exact False.elim|intro hp hc)|refine xsA ?_ ?_)
  all_goals try (exfalso;omega)
  refine ⟨F.length - (i + 1),⟨[(1,.op 0 0 0),(2,.op 1 0 0),(20,.os 2 0 F.length),(21,.v (.int .i64 F.length)),(22,.v (.int .i64 ((i + 1:Nat):Int)))],[(0,.own false 7 [[.os 2 0 F.length,jw G,Z5 S,.v (.int .i64 nx),.v (.int .i64 la),.v (.int .i64 ro),.v (.int .i64 now)]]),(1,.own false 7 [[.sl true [],.sl true [],.sl true [],.v (.int .i64 0),.v (.int .i64 0),.v (.int .i64 0),.v (.int .i64 0)]]),(2,.own false 4 (F.map Fol.row))],3⟩,by omega,?_,i + 1,by omega,rfl,trivial,rfl⟩;(skip);refine jH [(0,0),(1,1),(2,2)] rfl ?_ ?_;(focus ((repeat (first|exact qx|refine jz ?_|refine qhG ?_|refine qcC ?_|refine qcD ?_ ?_|refine qhF ?_|refine xy ?_ ?_));all_goals trace_state));(focus ((repeat' (first|exact qn|refine qhL ?_ ?_ ?_|refine qne ?_|refine qcK ?_ ?_|refine qcJ ?_ ?_|exact jg|apply qe|exact qy rfl|(apply yr;(refine .inr ?_;(repeat (first|exact List.mem_cons_self ..|apply List.mem_cons_of_mem))))|(apply jC;(refine .inr ?_;(repeat (first|exact List.mem_cons_self ..|apply List.mem_cons_of_mem))))));all_goals (first|exact hss|trace_state)))
 obtain rfl:i = F.length:=by omega
 clear ho h1 h2 h3
 repeat' (first|refine qg ?_|fail|(refine xsS ?_ ?_;all_goals first|exact False.elim|intro hp hc)|refine xsA ?_ ?_)
 all_goals try (exfalso;omega)
 (exact yp (rs:=[.cell 2 28]) [(2,0)] 1 qav)
theorem qlA {h:Hub} {f:Nat → HB} {n:Nat} (hn:f n = .own false 4 (h.fols.map Fol.row)):Rz f (qnN h n) (vT h) :=
 vn (qH (xu hn (by simp) (js fun _=>rfl)) (qH (ju rfl) (qH (ju rfl) (qH (ju rfl) (qH (ju rfl) (qH (ju rfl) (qH (ju rfl) jX)))))))
theorem Y6 (h:Hub) (hr:HRight h):jN C.P 17 [vT h] (vT h):=Qr (JJ h hr) (qlA rfl)
theorem Ws {n:Nat} (h:n ≤ 1000000000):n ≤ 9223372036854775807:=Nat.le_trans h (by decide)
theorem qol (u:Upl) (hu:UBig u) (who:qb) (hw:who.length ≤ 1000000000) (size now:Int):jN C.P 101 [vt u,.v (str who),.v (.int .i64 size),.v (.int .i64 now)] (JG (Ju u who size now).1 (Ju u who size now).2.1 (Ju u who size now).2.2):=by
 have h:=qjS u hu who (Ws hw) size now;unfold ZW at h;unfold Ju;by_cases h0:yi u who size now = 0
 ·rw [if_pos h0] at h ⊢;exact h
 ·rw [if_neg h0] at h ⊢;exact h
theorem Xi {u:Upl} {who:qb} {number now:Int} (h:jM u who number now = 0):(zd u who number now).text.length ≤ 300:=by
 obtain ⟨m1,_,_,m4,_⟩:=QH h;have hs:=(kS (Zw m1).1).2.2.1 _ (Ye (List.mem_of_getElem? m4));have h2:=vS hs;unfold yj at hs;split at hs
 ·split at hs
  ·split at hs
   ·omega
   ·omega
  ·omega
 ·omega
theorem qk2 (u:Upl) (hu:UBig u) (who:qb) (hw:who.length ≤ 1000000000) (number offset:Int) (text:qb) (ht:text.length ≤ 1000000000) (now:Int) :
  jN C.P 102 [vt u,.v (str who),.v (.int .i64 number),.v (.int .i64 offset),.v (str text),.v (.int .i64 now)] (JG (Jh u who number offset text now).1 (Jh u who number offset text now).2.1 (Jh u who number offset text now).2.2):=by
 unfold Jh;by_cases h0:jM u who number now = 0
 ·rw [if_pos h0];obtain ⟨m1,m2,m3,m4,m5⟩:=QH h0;have h:=qc8 u hu who (Ws hw) number now m1 m2 _ m3 _ m4 (by have:=Xi h0;omega) offset text (jq ht);unfold Kg at h;unfold qj9;by_cases h1:Jg (zd u who number now) offset text = 0
  ·rw [if_pos h1] at h ⊢;exact h
  ·rw [if_neg h1] at h ⊢;exact h
 ·rw [if_neg h0];exact qbT u hu who (Ws hw) number now h0 offset text
theorem qmP (u:Upl) (hu:UBig u) (who:qb) (hw:who.length ≤ 1000000000) (number now:Int) :
  jN C.P 103 [vt u,.v (str who),.v (.int .i64 number),.v (.int .i64 now)] (.tup [.v (.int .i64 (qag u who number now).1),.v (.int .i64 (qag u who number now).2)]):=by
 unfold qag;by_cases h0:jM u who number now = 0
 ·rw [if_pos h0];obtain ⟨m1,m2,m3,m4,m5⟩:=QH h0;exact qff u hu who (Ws hw) number now m1 m2 _ m3 _ m4 (by have:=Xi h0;omega)
 ·rw [if_neg h0];exact qdp u hu who (Ws hw) number now h0
theorem qdT (u:Upl) (hu:UBig u) (who:qb) (hw:who.length ≤ 1000000000) (number now:Int) :
  jN C.P 149 [vt u,.v (str who),.v (.int .i64 number),.v (.int .i64 now)] (Z9 (ke u who number now).1 (ke u who number now).2.1 (ke u who number now).2.2):=by
 unfold ke;by_cases h0:jM u who number now = 0
 ·rw [if_pos h0];obtain ⟨m1,m2,m3,m4,m5⟩:=QH h0;have h:=qdf u hu who (Ws hw) number now m1 m2 _ m3 _ m4;unfold qbh at h;by_cases h1:(zd u who number now).text.length < (zd u who number now).size
  ·rw [if_pos h1] at h ⊢;exact h
  ·rw [if_neg h1] at h ⊢;exact h
 ·rw [if_neg h0];exact qbY u hu who (Ws hw) number now h0
theorem qok (l:List Gra) (hl:GBig l) (f b w:qb) (r:Int) (hf:f.length ≤ 1000000000) (hb:b.length ≤ 1000000000) (hw:w.length ≤ 1000000000) :
  jN C.P 144 [jw l,.v (str f),.v (str b),.v (str w),.v (.int .i64 r)] (.tup [jw (zE l f b w r).1,.v (.int .i64 (zE l f b w r).2)]):=by
 unfold zE;by_cases h0:jl l f b w r = 0
 ·rw [if_pos h0];exact qnZ l hl f b w r (jq hf) (jq hb) (jq hw) h0
 ·rw [if_neg h0];exact qe9 l hl f b w r (jq hf) (jq hb) (jq hw) h0
theorem qk3 (l:List Gra) (hl:GBig l) (f w:qb) (hf:f.length ≤ 1000000000) (hw:w.length ≤ 1000000000) :
  jN C.P 142 [jw l,.v (str f),.v (str w)] (.tup [jw (if jG l f w = 0 then xP l f w 3 else []),.v (.int .i64 (jG l f w))]):=by
 by_cases h0:jG l f w = 0
 ·rw [if_pos h0,h0];exact qn3 l hl f w (jq hf) (jq hw) h0
 ·rw [if_neg h0];exact qfe l hl f w (jq hf) (jq hw) h0
section call0
variable {C:Cx} {N:Nat} {all:Array Oper} {es:List Eff} {os:List Oper} {K:List Eff → St → Prop} {ts:List (Nat × AV)} {hs:List (Nat × HB)} {nx:Nat} {gd:List Nat}
theorem yz {f:FuncId} {args:List Operand} {tys:Array TypeId} {d:Nat} {ty:TypeId} {pos:String} {af:Array Edge} {gg:Option (Nat × Bool)} {ys:List AV} {H H' : List HB} {r:AV} (ns:List Nat) (Z:List (Nat × HB)) (r' : AV) (hf:IsFn C.P f) (hc:qf C.P f ys H r H')
  (hz:qX (j6 0 ns) ns (qh hs) (args.map (evA (qm ts))) ys) (hg:Q0 (j6 0 ns) (qh hs) ns H) (hb:Yi (zq (j6 0 (Z.map (·.1)))) Z H')
  (k:j9 C N all (⟨gd ++ (qW (.func f) ++ args.flatMap qW),ns,some d,r',Z,[]⟩ :: es) ⟨(d,r') :: ts,Z ++ hs,nx⟩ os K)
  (hr:r.ren (zq (j6 0 (Z.map (·.1)))) = r':=by rfl) (hns:(Z.map (·.1)).take H.length = ns:=by rfl) (hfr:(Z.map (·.1)).drop H.length = []:=by rfl) (hHZ:H.length ≤ Z.length:=by exact Nat.le_of_ble_eq_true rfl) (hnd:(Z.map (·.1)).Nodup:=by exact of_decide_eq_true rfl)
  (hN:d < N:=by exact nle rfl):kC C N all gd es ⟨ts,hs,nx⟩ f args d tys ty pos af gg os K :=
 vc ns [] Z nx r' hf hc hz hg hb k hr hns hfr hHZ hnd rfl (fun n hn=>by cases hn) (Nat.le_refl _) hN
end call0
noncomputable def C2h:Cx := { C with nh:=2 }
def xC (n:Nat) (h:Hub) (r:Rqt):List AV:=[.os n 0 h.fols.length,jw h.gras,.sl false (h.ups.sess.map Sess.row),.v (.int .i64 h.ups.next),.v (.int .i64 h.ups.lasts),.v (.int .i64 h.ups.room),.v (.int .i64 h.now),.v (.int .i64 r.kind),.v (str r.who),.v (str r.folder),.v (str r.name),.v (str r.key),.v (str r.text),.v (.int .i64 r.number),.v (.int .i64 r.offset),.v (.int .i64 r.base),ya r.chs]
def HS (h:Hub) (r:Rqt):List HB:=[.own false 17 [xC 1 h r],.own false 4 (h.fols.map Fol.row)]
theorem qlq {L:List (Nat × Nat)} {σ:St} {ex ex' : Bool} {h:Hub} {r:Rqt} {l:List (Nat × HB)} {n:Nat} (hl:yd L 2 σ l) (hn:Maps L 2 n n:=by exact jy rfl) (hx:qh σ.hs 0 = .own ex 17 [xC n h r]:=by rfl) (he:ex' = true → ex = true:=by first|exact id|exact nofun):yd L 2 σ ((0,.own ex' 17 [xC n h r]) :: l) :=
 VH (jy rfl) hx he (yL (qe (jC hn) (qe (qy rfl) (qe (qy rfl) (qe (qy rfl) (qe (qy rfl) (qe (qy rfl) (qe (qy rfl) (qe (qy rfl) (qe (qy rfl) (qe (qy rfl) (qe (qy rfl) (qe (qy rfl) (qe (qy rfl) (qe (qy rfl) (qe (qy rfl) (qe (qy rfl) (qe (qy rfl) jg))))))))))))))))) xg) hl
theorem qjX (h:Hub) (r:Rqt) (hr:ql ja h.gras = true) (hl:h.gras.length ≤ 1000000):qf C2h.P 148 [.op 0 0 0] (HS h r) (.v (.int .i64 (jD h.gras r.folder r.who))) (HS h r):=by
 have ho:=qjR h.gras r.folder r.who hl hr;refine qJ (C:=C2h) 2 ?_
 repeat' (first|refine qg ?_|(first|refine jT (ho ..) ?_)|(refine xsS ?_ ?_;all_goals first|exact False.elim|intro hp hc)|refine xsA ?_ ?_)
 (exact yp (rs:=[.tmp 2]) [] 2 qjz)
theorem Wi (h:Hub) (r:Rqt) (hr:ql ja h.gras = true) (hl:h.gras.length ≤ 1000000) (k:Int):qf C2h.P 104 [.op 0 0 0,.v (.int .i64 k)] (HS h r) (.v (.int .i64 (if jD h.gras r.folder r.who < k then 9 else 0))) (HS h r):=by
 have ho:=qjX h r hr hl;generalize jD h.gras r.folder r.who = R at *;by_cases hk:R < k
 ·rw [if_pos hk];refine qJ (C:=C2h) 2 ?_
  repeat' (first|refine qg ?_|(first|(refine yz [0,1] [(0,.own false 17 [xC 1 h r]),(1,.own false 4 (h.fols.map Fol.row))] (.v (.int .i64 R)) qi (ho) KH KD tz1 ?_))|(refine xsS ?_ ?_;all_goals first|exact False.elim|intro hp hc)|refine xsA ?_ ?_)
  all_goals try (exfalso;omega)
  (exact yp (rs:=[.tmp 4]) [] 2 qjz)
 ·rw [if_neg hk];refine qJ (C:=C2h) 2 ?_
  repeat' (first|refine qg ?_|(first|(refine yz [0,1] [(0,.own false 17 [xC 1 h r]),(1,.own false 4 (h.fols.map Fol.row))] (.v (.int .i64 R)) qi (ho) KH KD tz1 ?_))|(refine xsS ?_ ?_;all_goals first|exact False.elim|intro hp hc)|refine xsA ?_ ?_)
  all_goals try (exfalso;omega)
  (exact yp (rs:=[.tmp 4]) [] 2 qjz)
def kz (n:Int):List AV:=[.v (.int .i64 0),.v (.int .i64 n),.v (.bool false),.sl true [],.sl true [],.v (.int .i64 0),.v (.bool false)]
def xt (x:List AV) (e:Int):AV := .tup [.agg x,.v (.int .i64 e)]
theorem qjl (h:Hub) (r:Rqt) (hr:HRight h) (hn:jD h.gras r.folder r.who < 1):qf C2h.P 99 [.op 0 0 0] (HS h r) (xt (kz 0) 9) (HS h r):=by
 obtain ⟨a1,a2,a3,a4⟩:=xo hr.gra;have hm:=Wi h r a3 (by omega) 1;rw [if_pos hn] at hm;refine qJ (C:=C2h) 2 ?_
 repeat' (first|refine qg ?_|(first|(refine yz [0,1] [(0,.own false 17 [xC 1 h r]),(1,.own false 4 (h.fols.map Fol.row))] (.v (.int .i64 9)) qi (hm) KH KD tz1 ?_))|(refine xsS ?_ ?_;all_goals first|exact False.elim|intro hp hc)|refine xsA ?_ ?_)
 all_goals try (exfalso;omega)
 (exact yp (rs:=[.cell 2 48,.tmp 3]) [] 2 qjz)
theorem qoK (h:Hub) (hb:HBig h) (r:Rqt) (hr:HRight h) (hn:¬ jD h.gras r.folder r.who < 1) (k:Nat) (hk:k < h.fols.length) (hp:xX h.fols r.folder = k) (hh:x6 h.fols r.folder = true) :
  qf C2h.P 99 [.op 0 0 0] (HS h r) (xt ([.v (.int .i64 0),.v (.int .i64 0)] ++ (V9 h.fols[k].jou r.number 10).1.row) (V9 h.fols[k].jou r.number 10).2) (HS h r):=by
 obtain ⟨a1,a2,a3,a4⟩:=xo hr.gra;have hm:=Wi h r a3 (by omega) 1;rw [if_neg hn] at hm;have hf:=Ve h r.folder (by have:=hr.len;omega) hr.rise;rw [hp,hh] at hf;have hrd:=qn6 h.fols[k].jou r.number 10 (hb.fols.each _ (List.getElem_mem _)).jou;have hrow:=qK (f:=Fol.row) hk;have hml:(h.fols.map Fol.row).length = h.fols.length:=List.length_map ..;generalize V9 h.fols[k].jou r.number 10 = P at *;obtain ⟨p,e⟩:=P;refine qJ (C:=C2h) 2 ?_
 repeat' (first|refine qg ?_|(first|(refine yz [0,1] [(0,.own false 17 [xC 1 h r]),(1,.own false 4 (h.fols.map Fol.row))] (.v (.int .i64 0)) qi (hm) KH KD tz1 ?_)|(refine vq ?_)|(apply qa;apply yJ [1];exact qr Tryz.func88 rfl rfl;exact hf;(case hz=>exact qnH);(case hfl=>rfl);(case hN=>exact nle rfl))|refine yS (hrd ..) ?_)|(refine xsS ?_ ?_;all_goals first|exact False.elim|intro hp hc)|refine xsA ?_ ?_)
 all_goals try (exfalso;omega)
 (exact yp (rs:=[.cell 2 48,.tmp 3]) [] 2 qjz)
def qhq (h:Hub) (r:Rqt):Hub:=if (zE h.gras r.folder r.who r.name r.number).2 = 0 then { h with gras:=(zE h.gras r.folder r.who r.name r.number).1 } else h
theorem qjk (h:Hub) (r:Rqt) (hr:HRight h) (hn:jD h.gras r.folder r.who < 1):qf C2h.P 98 [.op 0 0 0] (HS h r) (xt (kz 0) 9) (HS h r):=by
 obtain ⟨a1,a2,a3,a4⟩:=xo hr.gra;have hm:=Wi h r a3 (by omega) 1;rw [if_pos hn] at hm;refine qJ (C:=C2h) 2 ?_
 repeat' (first|refine qg ?_|(first|(refine yz [0,1] [(0,.own false 17 [xC 1 h r]),(1,.own false 4 (h.fols.map Fol.row))] (.v (.int .i64 (9))) qi (hm) KH KD tz1 ?_))|(refine xsS ?_ ?_;all_goals first|exact False.elim|intro hp hc)|refine xsA ?_ ?_)
 all_goals try (exfalso;omega)
 (exact yp (rs:=[.cell 2 48,.tmp 3]) [] 2 qjz)
theorem qoI (h:Hub) (hb:HBig h) (r:Rqt) (rb:RBig r) (hr:HRight h) (hn:¬ jD h.gras r.folder r.who < 1) :
  qf C2h.P 98 [.op 0 0 0] (HS h r) (xt (kz 0) (zE h.gras r.folder r.who r.name r.number).2) (HS (qhq h r) r):=by
 obtain ⟨a1,a2,a3,a4⟩:=xo hr.gra;have hm:=Wi h r a3 (by omega) 1;rw [if_neg hn] at hm;have hg:=qok h.gras hb.gras r.folder r.who r.name r.number rb.folder rb.who rb.name;unfold qhq;generalize zE h.gras r.folder r.who r.name r.number = P at *;obtain ⟨L,e⟩:=P;dsimp only at *;by_cases h0:e = 0
 ·rw [if_pos h0];subst h0;refine qJ (C:=C2h) 2 ?_
  repeat' (first|refine qg ?_|(first|(refine yz [0,1] [(0,.own false 17 [xC 1 h r]),(1,.own false 4 (h.fols.map Fol.row))] (.v (.int .i64 (0))) qi (hm) KH KD tz1 ?_)|refine yS (hg ..) ?_)|(refine xsS ?_ ?_;all_goals first|exact False.elim|intro hp hc)|refine xsA ?_ ?_)
  all_goals try (exfalso;omega)
  (exact yp (rs:=[.cell 2 48,.tmp 3]) [] 2 tz5)
 ·rw [if_neg h0];refine qJ (C:=C2h) 2 ?_
  repeat' (first|refine qg ?_|(first|(refine yz [0,1] [(0,.own false 17 [xC 1 h r]),(1,.own false 4 (h.fols.map Fol.row))] (.v (.int .i64 (0))) qi (hm) KH KD tz1 ?_)|refine yS (hg ..) ?_)|(refine xsS ?_ ?_;all_goals first|exact False.elim|intro hp hc)|refine xsA ?_ ?_)
  all_goals try (exfalso;omega)
  (exact yp (rs:=[.cell 2 48,.tmp 3]) [] 2 tz5)
theorem qbK (h:Hub) (r:Rqt) (u:Upl) (n e:Int) :
  qf C2h.P 100 [.op 0 0 0,vt u,.v (.int .i64 n),.v (.int .i64 e)] (HS h r) (xt (kz n) e) (HS (if e = 0 then { h with ups:=u } else h) r):=by
 by_cases h0:e = 0
 ·rw [if_pos h0];subst h0;refine qJ (C:=C2h) 2 ?_
  repeat' (first|refine qg ?_|(first|fail)|(refine xsS ?_ ?_;all_goals first|exact False.elim|intro hp hc)|refine xsA ?_ ?_)
  all_goals try (exfalso;omega)
  (exact yp (rs:=[.cell 8 48,.tmp 9]) [] 2 tz5)
 ·rw [if_neg h0];refine qJ (C:=C2h) 2 ?_
  repeat' (first|refine qg ?_|(first|fail)|(refine xsS ?_ ?_;all_goals first|exact False.elim|intro hp hc)|refine xsA ?_ ?_)
  all_goals try (exfalso;omega)
  (exact yp (rs:=[.cell 8 48,.tmp 9]) [] 2 tz5)
def qiz (h:Hub) (k:Nat) (j:Jou) (r:Rqt) (l:List Chg):Hub:=if (yx j r.key l).2.2 = 0 then { h with fols:=h.fols.set k ⟨r.folder,(yx j r.key l).1⟩ } else h
theorem qeN (h:Hub) (hb:HBig h) (r:Rqt) (rb:RBig r) (hr:HRight h) (l:List Chg) (lb:CBig l) (k:Nat) (hk:k < h.fols.length) (hp:xX h.fols r.folder = k) (hh:x6 h.fols r.folder = true) (hkn:h.fols[k].name = r.folder) :
  qf C2h.P 106 [.op 0 0 0,ya l] (HS h r) (xt (kz (yx h.fols[k].jou r.key l).2.1) (yx h.fols[k].jou r.key l).2.2) (HS (qiz h k h.fols[k].jou r l) r):=by
 have hf:=Ve h r.folder (by have:=hr.len;omega) hr.rise;rw [hp,hh] at hf;have hrd:=qjK h.fols[k].jou r.key l (hb.fols.each _ (List.getElem_mem _)).jou lb;have hrow:(h.fols.map Fol.row)[k]? = some (Fol.row ⟨r.folder,h.fols[k].jou⟩):=by rw [qK (f:=Fol.row) hk, ← hkn]
 have hml:(h.fols.map Fol.row).length = h.fols.length:=List.length_map ..;unfold qiz;generalize yx h.fols[k].jou r.key l = P at *;obtain ⟨j',n,e⟩:=P;dsimp only at *;have hset:(h.fols.map Fol.row).set k (Fol.row ⟨r.folder,j'⟩) = (h.fols.set k ⟨r.folder,j'⟩).map Fol.row:=List.map_set.symm;by_cases h0:e = 0
 ·rw [if_pos h0];subst h0;have hlen:(h.fols.set k ⟨r.folder,j'⟩).length = h.fols.length:=List.length_set ..;show qf C2h.P _ _ _ _ [.own false 17 [xC 1 { h with fols:=h.fols.set k ⟨r.folder,j'⟩ } r],.own false 4 ((h.fols.set k ⟨r.folder,j'⟩).map Fol.row)];rw [show xC 1 { h with fols:=h.fols.set k ⟨r.folder,j'⟩ } r = xC 1 h r from by unfold xC;dsimp only;rw [hlen], ← hset];have hpu : ∀ row,row ∈ (h.fols.map Fol.row).set k (Fol.row ⟨r.folder,j'⟩) → AV.pure.pureL row = true:=by rw [hset];exact js fun _=>rfl
  clear hset;refine qJ (C:=C2h) 2 ?_
  repeat' (first|refine qg ?_|(first|(refine vq ?_)|(apply qa;apply yJ [1];exact qr Tryz.func88 rfl rfl;exact hf;(case hz=>exact qnH);(case hfl=>rfl);(case hN=>exact nle rfl))|refine yS (hrd ..) ?_)|(refine xsS ?_ ?_;all_goals first|exact False.elim|intro hp hc)|refine xsA ?_ ?_)
  all_goals try (exfalso;omega)
  (exact yp (rs:=[.cell 4 48,.tmp 5]) [] 2 tz5)
 ·rw [if_neg h0];refine qJ (C:=C2h) 2 ?_
  repeat' (first|refine qg ?_|(first|(refine vq ?_)|(apply qa;apply yJ [1];exact qr Tryz.func88 rfl rfl;exact hf;(case hz=>exact qnH);(case hfl=>rfl);(case hN=>exact nle rfl))|refine yS (hrd ..) ?_)|(refine xsS ?_ ?_;all_goals first|exact False.elim|intro hp hc)|refine xsA ?_ ?_)
  all_goals try (exfalso;omega)
  (exact yp (rs:=[.cell 4 48,.tmp 5]) [] 2 tz5)
def qof (h:Hub) (k:Nat) (j:Jou) (r:Rqt) (u:Upl) (x:qb):Hub:=if (yx j r.key [⟨2,r.name,[],x,r.base⟩]).2.2 = 0 then { qiz h k j r [⟨2,r.name,[],x,r.base⟩] with ups:=u } else h
theorem qeO (h:Hub) (hb:HBig h) (r:Rqt) (rb:RBig r) (he:¬ (ke h.ups r.who r.number h.now).2.2 = 0):qf C2h.P 105 [.op 0 0 0] (HS h r) (xt (kz 0) (ke h.ups r.who r.number h.now).2.2) (HS h r):=by
 have hf:=qdT h.ups hb.ups r.who rb.who r.number h.now;generalize ke h.ups r.who r.number h.now = P at *;obtain ⟨u,x,e⟩:=P;dsimp only at *;refine qJ (C:=C2h) 2 ?_
 repeat' (first|refine qg ?_|(first|refine yS (hf ..) ?_)|(refine xsS ?_ ?_;all_goals first|exact False.elim|intro hp hc)|refine xsA ?_ ?_)
 all_goals try (exfalso;omega)
 (exact yp (rs:=[.cell 2 48,.tmp 3]) [] 2 tz5)
theorem qlE (h:Hub) (hb:HBig h) (r:Rqt) (rb:RBig r) (hr:HRight h) (he:(ke h.ups r.who r.number h.now).2.2 = 0) (hx:(ke h.ups r.who r.number h.now).2.1.length ≤ 1000) (k:Nat) (hk:k < h.fols.length) (hp:xX h.fols r.folder = k) (hh:x6 h.fols r.folder = true) (hkn:h.fols[k].name = r.folder) :
  qf C2h.P 105 [.op 0 0 0] (HS h r) (xt (kz (yx h.fols[k].jou r.key [⟨2,r.name,[],(ke h.ups r.who r.number h.now).2.1,r.base⟩]).2.1) (yx h.fols[k].jou r.key [⟨2,r.name,[],(ke h.ups r.who r.number h.now).2.1,r.base⟩]).2.2)
   (HS (qof h k h.fols[k].jou r (ke h.ups r.who r.number h.now).1 (ke h.ups r.who r.number h.now).2.1) r):=by
 have hf:=qdT h.ups hb.ups r.who rb.who r.number h.now;generalize ke h.ups r.who r.number h.now = P at *;obtain ⟨u,x,e⟩:=P;dsimp only at *;subst he;have hc:=qeN h hb r rb hr [⟨2,r.name,[],x,r.base⟩] ⟨fun c hc=>by rw [List.mem_singleton.1 hc];exact ⟨rb.name,by simp,by show x.length ≤ _;omega⟩,by simp⟩ k hk hp hh hkn;unfold qof;unfold qiz at hc ⊢;generalize yx h.fols[k].jou r.key [⟨2,r.name,[],x,r.base⟩] = Q at *;obtain ⟨j',n,e⟩:=Q;dsimp only at *;by_cases h0:e = 0
 ·subst h0;rw [if_pos rfl] at hc ⊢;rw [if_pos rfl];have hlen:(h.fols.set k ⟨r.folder,j'⟩).length = h.fols.length:=List.length_set ..;have hs1:xC 1 { h with fols:=h.fols.set k ⟨r.folder,j'⟩ } r = xC 1 h r:=by unfold xC;dsimp only;rw [hlen]
  have hs2:xC 1 { h with fols:=h.fols.set k ⟨r.folder,j'⟩,ups:=u } r = xC 1 { h with ups:=u } r:=by unfold xC;dsimp only;rw [hlen]
  have hc:qf C2h.P 106 [.op 0 0 0,ya [⟨2,r.name,[],x,r.base⟩]] (HS h r) (xt (kz n) 0) [.own false 17 [xC 1 h r],.own false 4 ((h.fols.set k ⟨r.folder,j'⟩).map Fol.row)]:=by rw [← hs1];exact hc
  show qf C2h.P _ _ _ _ [.own false 17 [xC 1 { h with fols:=h.fols.set k ⟨r.folder,j'⟩,ups:=u } r],.own false 4 ((h.fols.set k ⟨r.folder,j'⟩).map Fol.row)];rw [hs2];generalize h.fols.set k ⟨r.folder,j'⟩ = F' at *;refine qJ (C:=C2h) 2 ?_
  repeat' (first|refine qg ?_|(first|refine yS (hf ..) ?_|(refine jd ?_)|(refine yz [0,1] [(0,.own false 17 [xC 1 h r]),(1,.own false 4 (F'.map Fol.row))] (xt (kz n) 0) qi (hc) KH KD tz1 ?_))|(refine xsS ?_ ?_;all_goals first|exact False.elim|intro hp hc)|refine xsA ?_ ?_)
  all_goals try (exfalso;omega)
  (exact yp (rs:=[.cell 2 48,.tmp 3]) [] 2 tz5)
 ·rw [if_neg h0] at hc ⊢;refine qJ (C:=C2h) 2 ?_
  repeat' (first|refine qg ?_|(first|refine yS (hf ..) ?_|(refine jd ?_)|(refine yz [0,1] [(0,.own false 17 [xC 1 h r]),(1,.own false 4 (h.fols.map Fol.row))] (xt (kz n) e) qi (hc) KH KD tz1 ?_))|(refine xsS ?_ ?_;all_goals first|exact False.elim|intro hp hc)|refine xsA ?_ ?_)
  all_goals try (exfalso;omega)
  (exact yp (rs:=[.cell 2 48,.tmp 3]) [] 2 tz5)
end Go.Proofs.YtgcncinnlmjgdaaGreatDoor
namespace Go.Proofs.YtgcncinnlmjgdaaGreatDoor
open Go.Ab Go.RowKit
theorem qal {h:Nat → HB} {a a' b b' : List (List AV)} (h1:jF h a a') (h2:jF h b b'):jF h (a ++ b) (a' ++ b'):=by
 obtain ⟨l1,p1⟩:=h1;obtain ⟨l2,p2⟩:=h2;refine ⟨by simp [l1,l2],fun i row row' hr hr'=>?_⟩;by_cases hi:i < a.length
 ·rw [List.getElem?_append_left hi] at hr;rw [List.getElem?_append_left (by omega)] at hr';exact p1 i row row' hr hr'
 ·rw [List.getElem?_append_right (by omega)] at hr;rw [List.getElem?_append_right (by omega)] at hr';rw [l1] at hr;exact p2 _ row row' hr hr'
attribute [local irreducible] Awp j9 jr ye Red qz Go.Ab.Fin qf Rz wz jF jU ResOk yA j1 xR qX
def qaC (f:qb):List AV:=[.v (str f),.sl true [],.v (.int .i64 1),.sl true []]
theorem qdM (l:List Fol) (g:qb) (hl:l.length ≤ 1000000) :
  qf C1.P 143 [.os 0 0 l.length,.v (.int .i64 l.length),.sl false [qaC g]] [.own false 4 (l.map Fol.row)] (.os 1 0 (l.length + 1)) [.dead,.own false 4 (l.map Fol.row ++ [qaC g])]:=by
 have hpu : ∀ row,row ∈ l.map Fol.row ++ [qaC g] → AV.pure.pureL row = true:=fun row hr=>by
  rcases List.mem_append.1 hr with hr|hr
  ·obtain ⟨x,_,rfl⟩:=List.mem_map.1 hr;rfl
  ·rw [List.mem_singleton.1 hr];rfl
 refine qJ (C:=C1) 1 ?_
 repeat' (first|refine qg ?_|(first|(refine YQ ?_)|(refine vF ?_))|(refine xsS ?_ ?_;all_goals first|exact False.elim|intro hp hc)|refine xsA ?_ ?_)
 (exact yp (rs:=[.tmp 6]) [(1,1)] 2 Va)
theorem qfy (l:List Fol) (g:qb) (i:Nat) (hi:i < l.length) (hl:l.length ≤ 1000000) :
  qf C1.P 143 [.os 0 0 l.length,.v (.int .i64 (i:Int)),.sl false [qaC g]] [.own false 4 (l.map Fol.row)] (.os 1 0 (l.length + 1)) [.dead,.own false 4 ((l.take i).map Fol.row ++ ([qaC g] ++ (l.drop i).map Fol.row))]:=by
 have hpu : ∀ row,row ∈ (l.take i).map Fol.row ++ ([qaC g] ++ (l.drop i).map Fol.row) → AV.pure.pureL row = true:=fun row hr=>by
  rcases List.mem_append.1 hr with hr|hr
  ·obtain ⟨x,_,rfl⟩:=List.mem_map.1 hr;rfl
  ·rcases List.mem_append.1 hr with hr|hr
   ·rw [List.mem_singleton.1 hr];rfl
   ·obtain ⟨x,_,rfl⟩:=List.mem_map.1 hr;rfl
 refine qJ (C:=C1) 1 ?_;refine qb3 0 4 (l.map Fol.row) rfl fun cap hcap=>?_
 rw [List.length_map] at hcap
 have hRt:(l.map Fol.row ++ xV 4 (cap - (l.map Fol.row).length)).take l.length = l.map Fol.row:=by
  rw [List.take_append_of_le_length (by simp),List.take_of_length_le (by simp)]
 have hRl:l.length ≤ (l.map Fol.row ++ xV 4 (cap - (l.map Fol.row).length)).length:=by simp
 generalize l.map Fol.row ++ xV 4 (cap - (l.map Fol.row).length) = R at hRt hRl ⊢;have hcut:(R.drop i).take (l.length - i) = (l.drop i).map Fol.row:=by rw [← List.drop_take,hRt,List.map_drop]
 have hti:R.take i = (l.take i).map Fol.row:=by rw [List.map_take, ← hRt,List.take_take,Nat.min_eq_left (by omega)]
 have hck : ∀ row,row ∈ (l.drop i).map Fol.row → row.length = 4:=fun row hr=>by obtain ⟨x,_,rfl⟩:=List.mem_map.1 hr;rfl
 have hcl : ∀ row,row ∈ (l.drop i).map Fol.row → row.all jj = true:=fun row hr=>by obtain ⟨x,_,rfl⟩:=List.mem_map.1 hr;rfl
 repeat' (first|refine qg ?_|(first|(refine YQ ?_)|(apply qa;apply ZA;(case hx=>rfl);(case hn=>rfl);(case hT=>rfl);(case he=>rfl);(case hN=>exact nle rfl))|(apply j5;apply Qx;(case hx=>rfl);(case hT=>rfl);(case he=>rfl);(case hE=>rfl);(case hn=>rfl);(case hl=>exact K6);(case hy=>exact qoO);(case hxT=>rfl);(case hxk=>rfl);(case hz=>rfl);(case hs0=>exact qjA);(case hg=>omega);(case hsz=>exact K6);(case hlen=>exact K6);(case hN=>exact nle rfl))|(apply qa;apply YA;exact Tryz.func171;(case hname=>rfl);(case hb=>rfl);(case hnx=>rfl);(case hex=>rfl);(case hT=>rfl);(case he=>rfl);(case hE=>rfl);(case hx=>rfl);(case hy=>rfl);(case hm=>rfl);(case hk=>exact qjA);(case hrw=>exact qoS);(case hN=>exact nle rfl))|(apply zf;apply kF;(case hx=>rfl);(case hT=>rfl);(case he=>rfl);(case hE=>rfl);(case hn=>rfl);(case hsrc=>exact qcU (Xq rfl rfl));(case hmin=>exact qoP);(case hfit=>exact K6);(case hN=>exact nle rfl))|(apply zf;apply kF;(case hx=>rfl);(case hT=>rfl);(case he=>rfl);(case hE=>rfl);(case hn=>rfl);(case hsrc=>exact qoQ);(case hmin=>exact qoL);(case hfit=>exact K6);(case hN=>exact nle rfl)))|(refine xsS ?_ ?_;all_goals first|exact False.elim|intro hp hc)|refine xsA ?_ ?_)
 all_goals try (exfalso;omega)
 ·have hrow:=qhv R (xV 4 (l.length + 1 - i)) ((l.drop i).map Fol.row) (qaC g) (i:=i) (a:=0 + i) (b:=0 + i + 1) (c:=0 + (i + 1)) (d:=0 + (i + 1) + ((l.drop i).map Fol.row).length) (by omega) (by simp;omega) (by omega) (by omega) (by omega) (by omega)
  (exact yp (rs:=[.tmp 6]) [(1,1)] 2 (by (apply zH 0;exact jy rfl;(repeat (first|exact qn|refine J8 ?_|refine vH ?_ ?_)));all_goals (refine hrow.trans ?_;rw [hti])))
 ·have hrow:=qk7 R ((l.drop i).map Fol.row) (qaC g) (i:=i) (a:=0 + 0 + (i + 1)) (b:=0 + 0 + (i + 1) + ((l.drop i).map Fol.row).length) (c:=0 + 0 + i) (d:=0 + 0 + i + 1) (m:=l.length + 1) (by omega) (by omega) (by omega) (by omega) (by simp;omega);have hrow:=hrow.trans (show _ = (l.take i).map Fol.row ++ ([qaC g] ++ (l.drop i).map Fol.row) from by rw [hti]);apply Jn (C:=C1) 6 0 (l.length + 1)
  case hi=>rfl
  case hn=>rfl
  case hr=>exact hrow
  case hnn=>exact Nat.ne_of_beq_eq_false rfl
  case hnx=>exact Nat.le_of_ble_eq_true rfl
  (exact yp (rs:=[.tmp 6]) [(1,1)] 2 Va)
def XV (l:List Fol) (f:qb):List (List AV):=(l.take (xX l f)).map Fol.row ++ ([qaC f] ++ (l.drop (xX l f)).map Fol.row)
theorem qbr (l:List Fol) (f:qb) : ∀ row,row ∈ XV l f → AV.pure.pureL row = true:=fun row hr=>by
 unfold XV at hr;rcases List.mem_append.1 hr with hr|hr
 ·obtain ⟨x,_,rfl⟩:=List.mem_map.1 hr;rfl
 ·rcases List.mem_append.1 hr with hr|hr
  ·rw [List.mem_singleton.1 hr];rfl
  ·obtain ⟨x,_,rfl⟩:=List.mem_map.1 hr;rfl
theorem qkT (l:List Fol) (f:qb) (hl:l.length ≤ 1000000) :
  qf C1.P 143 [.os 0 0 l.length,.v (.int .i64 (xX l f)),.sl false [qaC f]] [.own false 4 (l.map Fol.row)] (.os 1 0 (l.length + 1)) [.dead,.own false 4 (XV l f)]:=by
 have hp:=K1 l f;unfold XV;by_cases h:xX l f < l.length
 ·exact qfy l f _ h hl
 ·have he:xX l f = l.length:=by omega
  rw [he,List.take_length,List.drop_length];exact qdM l f hl
theorem qoH {h:Nat → HB} {n k:Nat} {l:List Fol} {f:qb} (hn:h n = .own false 4 (XV l f)) (hk:k = l.length + 1):Rz h (.os n 0 k) (Jo (XU l f)):=by
 have hp:=K1 l f;have hlen:(XV l f).length = l.length + 1:=by unfold XV;simp;omega
 refine qbJ hn (by omega) ?_;rw [List.drop_zero,hk, ← hlen,List.take_length];show jF h _ ((l.take (xX l f) ++ ([(⟨f,W0⟩ : Fol)] ++ l.drop (xX l f))).map Fol.row);rw [List.map_append,List.map_append];exact qal (QQ fun _=>rfl) (qal (qeM (qH (ju rfl) (qH zP (qH (ju rfl) (qH zP jX)))) qgC) (QQ fun _=>rfl))
theorem J9 {L:List (Nat × Nat)} {nh:Nat} : ∀ {cs:List AV},AV.pure.pureL cs = true → j1 L nh cs cs
 | [],_=>jg
 | c :: cs,h=>by
   have h2:(c.pure && AV.pure.pureL cs) = true:=h;rw [Bool.and_eq_true] at h2;exact qe (qy h2.1) (J9 h2.2)
theorem qhK {L:List (Nat × Nat)} {σ:St} {ex ex' : Bool} {cs:List AV} {l:List (Nat × HB)} {n n' k w:Nat} (hl:yd L 2 σ l) (hn:Maps L 2 n n':=by exact .inr (List.mem_cons_self ..)) (hx:qh σ.hs 0 = .own ex w [.os n 0 k :: cs]:=by rfl) (hc:AV.pure.pureL cs = true:=by rfl) (he:ex' = true → ex = true:=by first|exact id|exact nofun):yd L 2 σ ((0,.own ex' w [.os n' 0 k :: cs]) :: l) :=
 VH (jy rfl) hx he (yL (qe (jC hn) (J9 hc)) xg) hl
theorem KA (h:Hub) (hb:HBig h) (r:Rqt) (rb:RBig r) (he:jG h.gras r.folder r.who = 0 → h.fols.length = 8) :
  qf C2h.P 97 [.op 0 0 0] (HS h r) (xt (kz 0) (if jG h.gras r.folder r.who = 0 then 2 else jG h.gras r.folder r.who)) (HS h r):=by
 have hm:=qk3 h.gras hb.gras r.folder r.who rb.folder rb.who;have hml:(h.fols.map Fol.row).length = h.fols.length:=List.length_map ..;generalize xP h.gras r.folder r.who 3 = L at *;generalize jG h.gras r.folder r.who = E at *;by_cases h0:E = 0
 ·have h8:=he h0;rw [if_pos h0] at hm ⊢;subst h0;refine qJ (C:=C2h) 2 ?_
  repeat' (first|refine qg ?_|(first|refine yS (hm ..) ?_)|(refine xsS ?_ ?_;all_goals first|exact False.elim|intro hp hc)|refine xsA ?_ ?_)
  all_goals try (exfalso;omega)
  (exact yp (rs:=[.cell 2 48,.tmp 3]) [] 2 tz5)
 ·rw [if_neg h0] at hm ⊢;refine qJ (C:=C2h) 2 ?_
  repeat' (first|refine qg ?_|(first|refine yS (hm ..) ?_)|(refine xsS ?_ ?_;all_goals first|exact False.elim|intro hp hc)|refine xsA ?_ ?_)
  all_goals try (exfalso;omega)
  (exact yp (rs:=[.cell 2 48,.tmp 3]) [] 2 tz5)
def qcb (h:Hub) (r:Rqt):Hub := { h with fols:=XU h.fols r.folder,gras:=xP h.gras r.folder r.who 3 }
theorem qlD (h:Hub) (hb:HBig h) (r:Rqt) (rb:RBig r) (hr:HRight h) (h0:jG h.gras r.folder r.who = 0) (h8:¬ h.fols.length = 8) :
  qf C2h.P 97 [.op 0 0 0] (HS h r) (xt (kz 0) 0) [.own false 17 [xC 2 (qcb h r) r],.dead,.own false 4 (XV h.fols r.folder)]:=by
 have hm:=qk3 h.gras hb.gras r.folder r.who rb.folder rb.who;rw [if_pos h0,h0] at hm;have hml:(h.fols.map Fol.row).length = h.fols.length:=List.length_map ..;have hf:=Ve h r.folder (by have:=hr.len;omega) hr.rise;rw [show x6 h.fols r.folder = false from by rw [hr.has];exact (Ks h0).2.2.2.1] at hf;have hin:=qkT h.fols r.folder (by have:=hr.len;omega)
 have hpu : ∀ row,row ∈ XV h.fols r.folder → AV.pure.pureL row = true:=fun row hr=>by
  unfold XV at hr;rcases List.mem_append.1 hr with hr|hr
  ·obtain ⟨x,_,rfl⟩:=List.mem_map.1 hr;rfl
  ·rcases List.mem_append.1 hr with hr|hr
   ·rw [List.mem_singleton.1 hr];rfl
   ·obtain ⟨x,_,rfl⟩:=List.mem_map.1 hr;rfl
 have hpl:=K1 h.fols r.folder
 have hsr:xC 2 (qcb h r) r = .os 2 0 (h.fols.length + 1) :: jw (xP h.gras r.folder r.who 3) :: (xC 2 h r).drop 2:=by
  show _ :: _ :: _ = _;rw [show (qcb h r).fols.length = h.fols.length + 1 from VK _ _];rfl
 rw [hsr];clear hsr;generalize xP h.gras r.folder r.who 3 = L at *;generalize XV h.fols r.folder = R at *;refine qJ (C:=C2h) 2 ?_
 repeat' (first|refine qg ?_|(first|refine yS (hm ..) ?_|(apply qa;apply yJ [1];exact qr Tryz.func88 rfl rfl;exact hf;(case hz=>exact qnH);(case hfl=>rfl);(case hN=>exact nle rfl))|(refine jd ?_)|(refine zn ([1]) 1 qi (hin ..) ?_))|(refine xsS ?_ ?_;all_goals first|exact False.elim|intro hp hc)|refine xsA ?_ ?_)
 all_goals try (exfalso;omega)
 apply WI (rs:=[.cell 2 48,.tmp 3]) [(3,2)] 3
 case hr=>(repeat (first|exact zM|(apply zN;rfl)|(apply kM;rfl;rfl;rfl;rfl;rfl)))
 case hL=>rfl
 case hh =>
  refine qhK ?_;refine zH 1 (jy rfl) ?_;refine q_r ?_;exact qn
 case hi=>exact rfl
 case hz=>first|rfl|trace_state
end Go.Proofs.YtgcncinnlmjgdaaGreatDoor
