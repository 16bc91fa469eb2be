import Derived.Test.YtiljlcgmcmjcoaaGreatDoorMz27
import Derived.Test.YtiljlcgmcmjcoaaGreatDoorMz28
import Derived.Test.YtiljlcgmcmjcoaaGreatDoorMz24
import Derived.Test.YtiljlcgmcmjcoaaGreatDoorMz2
import Derived.Test.YtiljlcgmcmjcoaaGreatDoorMz10
set_option linter.unusedSimpArgs false
set_option linter.unnecessarySimpa false
set_option linter.unusedVariables false
set_option maxHeartbeats 1000000
namespace Go.Proofs.YtiljlcgmcmjcoaaGreatDoor
open Go.Ab Go.RowKit
set_option maxRecDepth 10000
attribute [local irreducible] Awp ye ji qQ Red qF Go.Ab.Fin qo Rz xx qG qO ResOk jK je jX qW
theorem kc {n:Nat} (h:n ≤ 1000000000):n ≤ 9223372036854775807:=Nat.le_trans h (by decide)
theorem qir (u:Upl) (hu:UBig u) (who:qC) (hw:who.length ≤ 1000000000) (size now:Int):jO C.P 86 [xw u,.v (str who),.v (.int .i64 size),.v (.int .i64 now)] (kZ (wq u who size now).1 (wq u who size now).2.1 (wq u who size now).2.2):=by
 have h:=qgS u hu who (kc hw) size now
 unfold Jy at h
 unfold wq
 by_cases h0:yE u who size now = 0
 ·rw [if_pos h0] at h ⊢;exact h
 ·rw [if_neg h0] at h ⊢;exact h
theorem kj {u:Upl} {who:qC} {number now:Int} (h:jA u who number now = 0):(mineS u who number now).text.length ≤ 300:=by
 obtain ⟨m1,_,_,m4,_⟩:=zI h
 have hs:=(ke (Yb m1).1).2.2.1 _ (kL (List.mem_of_getElem? m4))
 have h2:=zh hs
 unfold yj at hs
 split at hs
 ·split at hs
  ·split at hs
   ·omega
   ·omega
  ·omega
 ·omega
theorem qfS (u:Upl) (hu:UBig u) (who:qC) (hw:who.length ≤ 1000000000) (number offset:Int) (text:qC) (ht:text.length ≤ 1000000000) (now:Int) :
  jO C.P 87 [xw u,.v (str who),.v (.int .i64 number),.v (.int .i64 offset),.v (str text),.v (.int .i64 now)] (kZ (wC u who number offset text now).1 (wC u who number offset text now).2.1 (wC u who number offset text now).2.2):=by
 unfold wC
 by_cases h0:jA u who number now = 0
 ·rw [if_pos h0]
  obtain ⟨m1,m2,m3,m4,m5⟩:=zI h0
  have h:=qbu u hu who (kc hw) number now m1 m2 _ m3 _ m4 (by have:=kj h0;omega) offset text (jC ht)
  unfold VF at h
  unfold qaa
  by_cases h1:QS (mineS u who number now) offset text = 0
  ·rw [if_pos h1] at h ⊢;exact h
  ·rw [if_neg h1] at h ⊢;exact h
 ·rw [if_neg h0]
  exact W6 u hu who (kc hw) number now h0 offset text
theorem qhO (u:Upl) (hu:UBig u) (who:qC) (hw:who.length ≤ 1000000000) (number now:Int) :
  jO C.P 88 [xw u,.v (str who),.v (.int .i64 number),.v (.int .i64 now)] (.tup [.v (.int .i64 (Z2 u who number now).1),.v (.int .i64 (Z2 u who number now).2)]):=by
 unfold Z2
 by_cases h0:jA u who number now = 0
 ·rw [if_pos h0]
  obtain ⟨m1,m2,m3,m4,m5⟩:=zI h0
  exact qcY u hu who (kc hw) number now m1 m2 _ m3 _ m4 (by have:=kj h0;omega)
 ·rw [if_neg h0]
  exact qa2 u hu who (kc hw) number now h0
theorem qbm (u:Upl) (hu:UBig u) (who:qC) (hw:who.length ≤ 1000000000) (number now:Int) :
  jO C.P 128 [xw u,.v (str who),.v (.int .i64 number),.v (.int .i64 now)] (JJ (zq u who number now).1 (zq u who number now).2.1 (zq u who number now).2.2):=by
 unfold zq
 by_cases h0:jA u who number now = 0
 ·rw [if_pos h0]
  obtain ⟨m1,m2,m3,m4,m5⟩:=zI h0
  have h:=qa0 u hu who (kc hw) number now m1 m2 _ m3 _ m4
  unfold K1 at h
  by_cases h1:(mineS u who number now).text.length < (mineS u who number now).size
  ·rw [if_pos h1] at h ⊢;exact h
  ·rw [if_neg h1] at h ⊢;exact h
 ·rw [if_neg h0]
  exact qar u hu who (kc hw) number now h0
theorem qii (l:List Gra) (hl:GBig l) (f b w:qC) (r:Int) (hf:f.length ≤ 1000000000) (hb:b.length ≤ 1000000000) (hw:w.length ≤ 1000000000) :
  jO C.P 61 [q9 l,.v (str f),.v (str b),.v (str w),.v (.int .i64 r)] (.tup [q9 (zv l f b w r).1,.v (.int .i64 (zv l f b w r).2)]):=by
 unfold zv
 by_cases h0:jD l f b w r = 0
 ·rw [if_pos h0];exact qij l hl f b w r (jC hf) (jC hb) (jC hw) h0
 ·rw [if_neg h0];exact qcW l hl f b w r (jC hf) (jC hb) (jC hw) h0
theorem qgG (l:List Gra) (hl:GBig l) (f w:qC) (hf:f.length ≤ 1000000000) (hw:w.length ≤ 1000000000) :
  jO C.P 60 [q9 l,.v (str f),.v (str w)] (.tup [q9 (if j3 l f w = 0 then va l f w 3 else []),.v (.int .i64 (j3 l f w))]):=by
 by_cases h0:j3 l f w = 0
 ·rw [if_pos h0,h0];exact qik l hl f w (jC hf) (jC hw) h0
 ·rw [if_neg h0];exact qdq l hl f w (jC hf) (jC hw) h0
section call0
variable {C:Cx} {N:Nat} {all:Array Oper} {es:List Eff} {os:List Oper} {K:List Eff → St → Prop} {ts:List (Nat × AV)} {hs:List (Nat × HB)} {nx:Nat} {gd:List Nat}
theorem xq {f:FuncId} {args:List Operand} {tys:Array TypeId} {d:Nat} {ty:TypeId} {pos:String} {af:Array Edge} {gg:Option (Nat × Bool)} {ys:List AV} {H H' : List HB} {r:AV} (ns:List Nat) (Z:List (Nat × HB)) (r' : AV) (hf:IsFn C.P f) (hc:qo C.P f ys H r H')
  (hz:qW (Qi 0 ns) ns (ja hs) (args.map (evA (qu ts))) ys) (hg:Vu (Qi 0 ns) (ja hs) ns H) (hb:VG (Wv (Qi 0 (Z.map (·.1)))) Z H')
  (k:ye C N all (⟨gd ++ (yx (.func f) ++ args.flatMap yx),ns,some d,r',Z,[]⟩ :: es) ⟨(d,r') :: ts,Z ++ hs,nx⟩ os K)
  (hr:r.ren (Wv (Qi 0 (Z.map (·.1)))) = r':=by rfl) (hns:(Z.map (·.1)).take H.length = ns:=by rfl) (hfr:(Z.map (·.1)).drop H.length = []:=by rfl) (hHZ:H.length ≤ Z.length:=by exact Nat.le_of_ble_eq_true rfl) (hnd:(Z.map (·.1)).Nodup:=by exact of_decide_eq_true rfl)
  (hN:d < N:=by exact nle rfl):Vx C N all gd es ⟨ts,hs,nx⟩ f args d tys ty pos af gg os K :=
 qay ns [] Z nx r' hf hc hz hg hb k hr hns hfr hHZ hnd rfl (fun n hn=>by cases hn) (Nat.le_refl _) hN
end call0
noncomputable def C2h:Cx := { C with nh:=2 }
def vq (n:Nat) (h:Hub) (r:Rqt):List AV:=[.os n 0 h.fols.length,q9 h.gras,.sl false (h.ups.sess.map Sess.row),.v (.int .i64 h.ups.next),.v (.int .i64 h.ups.lasts),.v (.int .i64 h.ups.room),.v (.int .i64 h.now),.v (.int .i64 r.kind),.v (str r.who),.v (str r.folder),.v (str r.name),.v (str r.key),.v (str r.text),.v (.int .i64 r.number),.v (.int .i64 r.offset),.v (.int .i64 r.base),xu r.chs]
def HS (h:Hub) (r:Rqt):List HB:=[.own false 17 [vq 1 h r],.own false 4 (h.fols.map Fol.row)]
theorem xf {L:List (Nat × Nat)} {σ:St} {ex ex' : Bool} {h:Hub} {r:Rqt} {l:List (Nat × HB)} {n:Nat} (hl:vN L 2 σ l) (hn:Maps L 2 n n:=by exact jj rfl) (hx:ja σ.hs 0 = .own ex 17 [vq n h r]:=by rfl) (he:ex' = true → ex = true:=by first|exact id|exact nofun):vN L 2 σ ((0,.own ex' 17 [vq n h r]) :: l) :=
 JA (jj rfl) hx he (ky (qt (q8 hn) (qt (qy rfl) (qt (qy rfl) (qt (qy rfl) (qt (qy rfl) (qt (qy rfl) (qt (qy rfl) (qt (qy rfl) (qt (qy rfl) (qt (qy rfl) (qt (qy rfl) (qt (qy rfl) (qt (qy rfl) (qt (qy rfl) (qt (qy rfl) (qt (qy rfl) (qt (qy rfl) qV))))))))))))))))) wd) hl
theorem qgx (h:Hub) (r:Rqt) (hr:qv jv h.gras = true) (hl:h.gras.length ≤ 1000000):qo C2h.P 127 [.op 0 0 0] (HS h r) (.v (.int .i64 (jx h.gras r.folder r.who))) (HS h r):=by
 have ho:=qfN h.gras r.folder r.who hl hr
 refine qa (C:=C2h) Tryz.func127 rfl _ Tryz.ntmps127 (Nat.le_of_ble_eq_true rfl) _ Tryz.results127 2 rfl rfl ?_
 repeat' (first|refine qe ?_|(first|refine xsF Tryz.func63 (ho ..) ?_)|((first|refine qb ?_ ?_|refine qc ?_ ?_|refine xsC ?_ ?_);all_goals (intro hc;have hp:=hc;try simp at hp;try (exfalso;omega)))|refine qp ?_ ?_)
 (apply jp (rs:=[.tmp 2]) [] 2;(case hr=>(repeat (first|exact qS|(apply qU;rfl)|(apply qK;rfl;rfl;rfl;rfl;rfl))));(case hL=>rfl);(case hh=>(repeat' (first|exact qf|refine xf ?_|refine xa ?_|refine Ji ?_|refine qH ?_ ?_));all_goals trace_state);(case hi=>exact rfl);(case hz=>first|rfl|(simp [jI,AV.ren,AV.ren.renL,qZ,qu,qX];done)|(simp [jI,AV.ren,AV.ren.renL,qZ,qu,qX, *];done)|trace_state))
theorem Kl (h:Hub) (r:Rqt) (hr:qv jv h.gras = true) (hl:h.gras.length ≤ 1000000) (k:Int):qo C2h.P 89 [.op 0 0 0,.v (.int .i64 k)] (HS h r) (.v (.int .i64 (if jx h.gras r.folder r.who < k then 9 else 0))) (HS h r):=by
 have ho:=qgx h r hr hl
 generalize jx h.gras r.folder r.who = R at *
 by_cases hk:R < k
 ·rw [if_pos hk]
  refine qa (C:=C2h) Tryz.func89 rfl _ Tryz.ntmps89 (Nat.le_of_ble_eq_true rfl) _ Tryz.results89 2 rfl rfl ?_
  repeat' (first|refine qe ?_|(first|(apply qN Tryz.func127 rfl rfl;intro hIsFn;refine xq [0,1] [(0,.own false 17 [vq 1 h r]),(1,.own false 4 (h.fols.map Fol.row))] (.v (.int .i64 R)) hIsFn (ho) (by ((repeat' (first|exact jR|apply jB|exact jS rfl|exact yz|(apply qD;apply jl;exact .inr (of_decide_eq_true rfl))|(apply qD;apply jh;exact .inr (of_decide_eq_true rfl))|(apply qD;apply q8;exact .inr (of_decide_eq_true rfl))|apply yd|apply yc)))<;>fail) (by ((repeat' (first|exact jo|exact jm|refine q6 _ ?_ ?_|refine q7 ?_ ?_|exact qP|exact qh (sideM_pure _)|exact qh (jE _)|exact qh (goesM_pure _)|exact q3 (fun _=>rfl)|refine q5 ?_|exact qV|apply qt|exact qy rfl|(apply jh;exact .inr (of_decide_eq_true rfl))|(apply q8;exact .inr (of_decide_eq_true rfl))|(apply jl;exact .inr (of_decide_eq_true rfl))|fail)))<;>fail) (by ((repeat' (first|exact jo|exact jm|refine q6 _ ?_ ?_|refine q7 ?_ ?_|exact qP|exact qh (sideM_pure _)|exact qh (jE _)|exact qh (goesM_pure _)|exact q3 (fun _=>rfl)|refine q5 ?_|exact qV|apply qt|exact qy rfl|(apply jh;exact .inr (of_decide_eq_true rfl))|(apply q8;exact .inr (of_decide_eq_true rfl))|(apply jl;exact .inr (of_decide_eq_true rfl))|skip)))<;>fail) ?_))|((first|refine qb ?_ ?_|refine qc ?_ ?_|refine xsC ?_ ?_);all_goals (intro hc;have hp:=hc;try simp at hp;try (exfalso;omega)))|refine qp ?_ ?_)
  all_goals try (exfalso;omega)
  (apply jp (rs:=[.tmp 4]) [] 2;(case hr=>(repeat (first|exact qS|(apply qU;rfl)|(apply qK;rfl;rfl;rfl;rfl;rfl))));(case hL=>rfl);(case hh=>(repeat' (first|exact qf|refine xf ?_|refine xa ?_|refine Ji ?_|refine qH ?_ ?_));all_goals trace_state);(case hi=>exact rfl);(case hz=>first|rfl|(simp [jI,AV.ren,AV.ren.renL,qZ,qu,qX];done)|(simp [jI,AV.ren,AV.ren.renL,qZ,qu,qX, *];done)|trace_state))
 ·rw [if_neg hk]
  refine qa (C:=C2h) Tryz.func89 rfl _ Tryz.ntmps89 (Nat.le_of_ble_eq_true rfl) _ Tryz.results89 2 rfl rfl ?_
  repeat' (first|refine qe ?_|(first|(apply qN Tryz.func127 rfl rfl;intro hIsFn;refine xq [0,1] [(0,.own false 17 [vq 1 h r]),(1,.own false 4 (h.fols.map Fol.row))] (.v (.int .i64 R)) hIsFn (ho) (by ((repeat' (first|exact jR|apply jB|exact jS rfl|exact yz|(apply qD;apply jl;exact .inr (of_decide_eq_true rfl))|(apply qD;apply jh;exact .inr (of_decide_eq_true rfl))|(apply qD;apply q8;exact .inr (of_decide_eq_true rfl))|apply yd|apply yc)))<;>fail) (by ((repeat' (first|exact jo|exact jm|refine q6 _ ?_ ?_|refine q7 ?_ ?_|exact qP|exact qh (sideM_pure _)|exact qh (jE _)|exact qh (goesM_pure _)|exact q3 (fun _=>rfl)|refine q5 ?_|exact qV|apply qt|exact qy rfl|(apply jh;exact .inr (of_decide_eq_true rfl))|(apply q8;exact .inr (of_decide_eq_true rfl))|(apply jl;exact .inr (of_decide_eq_true rfl))|fail)))<;>fail) (by ((repeat' (first|exact jo|exact jm|refine q6 _ ?_ ?_|refine q7 ?_ ?_|exact qP|exact qh (sideM_pure _)|exact qh (jE _)|exact qh (goesM_pure _)|exact q3 (fun _=>rfl)|refine q5 ?_|exact qV|apply qt|exact qy rfl|(apply jh;exact .inr (of_decide_eq_true rfl))|(apply q8;exact .inr (of_decide_eq_true rfl))|(apply jl;exact .inr (of_decide_eq_true rfl))|skip)))<;>fail) ?_))|((first|refine qb ?_ ?_|refine qc ?_ ?_|refine xsC ?_ ?_);all_goals (intro hc;have hp:=hc;try simp at hp;try (exfalso;omega)))|refine qp ?_ ?_)
  all_goals try (exfalso;omega)
  (apply jp (rs:=[.tmp 4]) [] 2;(case hr=>(repeat (first|exact qS|(apply qU;rfl)|(apply qK;rfl;rfl;rfl;rfl;rfl))));(case hL=>rfl);(case hh=>(repeat' (first|exact qf|refine xf ?_|refine xa ?_|refine Ji ?_|refine qH ?_ ?_));all_goals trace_state);(case hi=>exact rfl);(case hz=>first|rfl|(simp [jI,AV.ren,AV.ren.renL,qZ,qu,qX];done)|(simp [jI,AV.ren,AV.ren.renL,qZ,qu,qX, *];done)|trace_state))
end Go.Proofs.YtiljlcgmcmjcoaaGreatDoor
set_option linter.unusedSimpArgs false
set_option linter.unnecessarySimpa false
set_option linter.unusedVariables false
set_option maxHeartbeats 1000000
namespace Go.Proofs.YtiljlcgmcmjcoaaGreatDoor
open Go.Ab Go.RowKit
set_option maxRecDepth 10000
attribute [local irreducible] Awp ye ji qQ Red qF Go.Ab.Fin qo Rz xx qG qO ResOk jK je jX qW
def kF (n:Int):List AV:=[.v (.int .i64 0),.v (.int .i64 n),.v (.bool false),.sl true [],.sl true [],.v (.int .i64 0),.v (.bool false)]
def vk (x:List AV) (e:Int):AV := .tup [.agg x,.v (.int .i64 e)]
theorem qeP (h:Hub) (r:Rqt) (hr:HRight h) (hn:jx h.gras r.folder r.who < 1):qo C2h.P 84 [.op 0 0 0] (HS h r) (vk (kF 0) 9) (HS h r):=by
 obtain ⟨a1,a2,a3,a4⟩:=yZ hr.gra
 have hm:=Kl h r a3 (by omega) 1
 rw [if_pos hn] at hm
 refine qa (C:=C2h) Tryz.func84 rfl _ Tryz.ntmps84 (Nat.le_of_ble_eq_true rfl) _ Tryz.results84 2 rfl rfl ?_
 repeat' (first|refine qe ?_|(first|(apply qN Tryz.func89 rfl rfl;intro hIsFn;refine xq [0,1] [(0,.own false 17 [vq 1 h r]),(1,.own false 4 (h.fols.map Fol.row))] (.v (.int .i64 9)) hIsFn (hm) (by ((repeat' (first|exact jR|apply jB|exact jS rfl|exact yz|(apply qD;apply jl;exact .inr (of_decide_eq_true rfl))|(apply qD;apply jh;exact .inr (of_decide_eq_true rfl))|(apply qD;apply q8;exact .inr (of_decide_eq_true rfl))|apply yd|apply yc)))<;>fail) (by ((repeat' (first|exact jo|exact jm|refine q6 _ ?_ ?_|refine q7 ?_ ?_|exact qP|exact qh (sideM_pure _)|exact qh (jE _)|exact qh (goesM_pure _)|exact q3 (fun _=>rfl)|refine q5 ?_|exact qV|apply qt|exact qy rfl|(apply jh;exact .inr (of_decide_eq_true rfl))|(apply q8;exact .inr (of_decide_eq_true rfl))|(apply jl;exact .inr (of_decide_eq_true rfl))|fail)))<;>fail) (by ((repeat' (first|exact jo|exact jm|refine q6 _ ?_ ?_|refine q7 ?_ ?_|exact qP|exact qh (sideM_pure _)|exact qh (jE _)|exact qh (goesM_pure _)|exact q3 (fun _=>rfl)|refine q5 ?_|exact qV|apply qt|exact qy rfl|(apply jh;exact .inr (of_decide_eq_true rfl))|(apply q8;exact .inr (of_decide_eq_true rfl))|(apply jl;exact .inr (of_decide_eq_true rfl))|skip)))<;>fail) ?_))|((first|refine qb ?_ ?_|refine qc ?_ ?_|refine xsC ?_ ?_);all_goals (intro hc;have hp:=hc;try simp at hp;try (exfalso;omega)))|refine qp ?_ ?_)
 all_goals try (exfalso;omega)
 (apply jp (rs:=[.cell 2 46,.tmp 3]) [] 2;(case hr=>(repeat (first|exact qS|(apply qU;rfl)|(apply qK;rfl;rfl;rfl;rfl;rfl))));(case hL=>rfl);(case hh=>(repeat' (first|exact qf|refine xf ?_|refine xa ?_|refine Ji ?_|refine qH ?_ ?_));all_goals trace_state);(case hi=>exact rfl);(case hz=>first|rfl|(simp [jI,AV.ren,AV.ren.renL,qZ,qu,qX];done)|(simp [jI,AV.ren,AV.ren.renL,qZ,qu,qX, *];done)|trace_state))
theorem qiJ (h:Hub) (hb:HBig h) (r:Rqt) (hr:HRight h) (hn:¬ jx h.gras r.folder r.who < 1) (k:Nat) (hk:k < h.fols.length) (hp:vD h.fols r.folder = k) (hh:vo h.fols r.folder = true) :
  qo C2h.P 84 [.op 0 0 0] (HS h r) (vk ([.v (.int .i64 0),.v (.int .i64 0)] ++ (Y3 h.fols[k].jou r.number 10).1.row) (Y3 h.fols[k].jou r.number 10).2) (HS h r):=by
 obtain ⟨a1,a2,a3,a4⟩:=yZ hr.gra
 have hm:=Kl h r a3 (by omega) 1
 rw [if_neg hn] at hm
 have hf:=Xr h r.folder (by have:=hr.len;omega) hr.rise
 rw [hp,hh] at hf
 have hrd:=qiN h.fols[k].jou r.number 10 (hb.fols.each _ (List.getElem_mem _)).jou
 have hrow:=qx (f:=Fol.row) hk
 have hml:(h.fols.map Fol.row).length = h.fols.length:=List.length_map ..
 generalize Y3 h.fols[k].jou r.number 10 = P at *
 obtain ⟨p,e⟩:=P
 refine qa (C:=C2h) Tryz.func84 rfl _ Tryz.ntmps84 (Nat.le_of_ble_eq_true rfl) _ Tryz.results84 2 rfl rfl ?_
 repeat' (first|refine qe ?_|(first|(apply qN Tryz.func89 rfl rfl;intro hIsFn;refine xq [0,1] [(0,.own false 17 [vq 1 h r]),(1,.own false 4 (h.fols.map Fol.row))] (.v (.int .i64 0)) hIsFn (hm) (by ((repeat' (first|exact jR|apply jB|exact jS rfl|exact yz|(apply qD;apply jl;exact .inr (of_decide_eq_true rfl))|(apply qD;apply jh;exact .inr (of_decide_eq_true rfl))|(apply qD;apply q8;exact .inr (of_decide_eq_true rfl))|apply yd|apply yc)))<;>fail) (by ((repeat' (first|exact jo|exact jm|refine q6 _ ?_ ?_|refine q7 ?_ ?_|exact qP|exact qh (sideM_pure _)|exact qh (jE _)|exact qh (goesM_pure _)|exact q3 (fun _=>rfl)|refine q5 ?_|exact qV|apply qt|exact qy rfl|(apply jh;exact .inr (of_decide_eq_true rfl))|(apply q8;exact .inr (of_decide_eq_true rfl))|(apply jl;exact .inr (of_decide_eq_true rfl))|fail)))<;>fail) (by ((repeat' (first|exact jo|exact jm|refine q6 _ ?_ ?_|refine q7 ?_ ?_|exact qP|exact qh (sideM_pure _)|exact qh (jE _)|exact qh (goesM_pure _)|exact q3 (fun _=>rfl)|refine q5 ?_|exact qV|apply qt|exact qy rfl|(apply jh;exact .inr (of_decide_eq_true rfl))|(apply q8;exact .inr (of_decide_eq_true rfl))|(apply jl;exact .inr (of_decide_eq_true rfl))|skip)))<;>fail) ?_)|(refine vV ?_)|(apply qj;apply yy [1];exact jP Tryz.func58 rfl rfl;exact hf;(case hz=>exact qk (Kp rfl) (qk (qB rfl) qL));(case hfl=>rfl);(case hN=>exact nle rfl))|refine xsQ Tryz.func124 (hrd ..) ?_)|((first|refine qb ?_ ?_|refine qc ?_ ?_|refine xsC ?_ ?_);all_goals (intro hc;have hp:=hc;try simp at hp;try (exfalso;omega)))|refine qp ?_ ?_)
 all_goals try (exfalso;omega)
 (apply jp (rs:=[.cell 2 46,.tmp 3]) [] 2;(case hr=>(repeat (first|exact qS|(apply qU;rfl)|(apply qK;rfl;rfl;rfl;rfl;rfl))));(case hL=>rfl);(case hh=>(repeat' (first|exact qf|refine xf ?_|refine xa ?_|refine Ji ?_|refine qH ?_ ?_));all_goals trace_state);(case hi=>exact rfl);(case hz=>first|rfl|(simp [jI,AV.ren,AV.ren.renL,qZ,qu,qX];done)|(simp [jI,AV.ren,AV.ren.renL,qZ,qu,qX, *];done)|trace_state))
def qdM (h:Hub) (r:Rqt):Hub:=if (zv h.gras r.folder r.who r.name r.number).2 = 0 then { h with gras:=(zv h.gras r.folder r.who r.name r.number).1 } else h
theorem qes (h:Hub) (r:Rqt) (hr:HRight h) (hn:jx h.gras r.folder r.who < 1):qo C2h.P 83 [.op 0 0 0] (HS h r) (vk (kF 0) 9) (HS h r):=by
 obtain ⟨a1,a2,a3,a4⟩:=yZ hr.gra
 have hm:=Kl h r a3 (by omega) 1
 rw [if_pos hn] at hm
 refine qa (C:=C2h) Tryz.func83 rfl _ Tryz.ntmps83 (Nat.le_of_ble_eq_true rfl) _ Tryz.results83 2 rfl rfl ?_
 repeat' (first|refine qe ?_|(first|(apply qN Tryz.func89 rfl rfl;intro hIsFn;refine xq [0,1] [(0,.own false 17 [vq 1 h r]),(1,.own false 4 (h.fols.map Fol.row))] (.v (.int .i64 (9))) hIsFn (hm) (by ((repeat' (first|exact jR|apply jB|exact jS rfl|exact yz|(apply qD;apply jl;exact .inr (of_decide_eq_true rfl))|(apply qD;apply jh;exact .inr (of_decide_eq_true rfl))|(apply qD;apply q8;exact .inr (of_decide_eq_true rfl))|apply yd|apply yc)))<;>fail) (by ((repeat' (first|exact jo|exact jm|refine q6 _ ?_ ?_|refine q7 ?_ ?_|exact qP|exact qh (sideM_pure _)|exact qh (jE _)|exact qh (goesM_pure _)|exact q3 (fun _=>rfl)|refine q5 ?_|exact qV|apply qt|exact qy rfl|(apply jh;exact .inr (of_decide_eq_true rfl))|(apply q8;exact .inr (of_decide_eq_true rfl))|(apply jl;exact .inr (of_decide_eq_true rfl))|fail)))<;>fail) (by ((repeat' (first|exact jo|exact jm|refine q6 _ ?_ ?_|refine q7 ?_ ?_|exact qP|exact qh (sideM_pure _)|exact qh (jE _)|exact qh (goesM_pure _)|exact q3 (fun _=>rfl)|refine q5 ?_|exact qV|apply qt|exact qy rfl|(apply jh;exact .inr (of_decide_eq_true rfl))|(apply q8;exact .inr (of_decide_eq_true rfl))|(apply jl;exact .inr (of_decide_eq_true rfl))|skip)))<;>fail) ?_))|((first|refine qb ?_ ?_|refine qc ?_ ?_|refine xsC ?_ ?_);all_goals (intro hc;have hp:=hc;try simp at hp;try (exfalso;omega)))|refine qp ?_ ?_)
 all_goals try (exfalso;omega)
 (apply jp (rs:=[.cell 2 46,.tmp 3]) [] 2;(case hr=>(repeat (first|exact qS|(apply qU;rfl)|(apply qK;rfl;rfl;rfl;rfl;rfl))));(case hL=>rfl);(case hh=>(repeat' (first|exact qf|refine xf ?_|refine xa ?_|refine Ji ?_|refine qH ?_ ?_));all_goals trace_state);(case hi=>exact rfl);(case hz=>first|rfl|(simp [jI,AV.ren,AV.ren.renL,qZ,qu,qX];done)|(simp [jI,AV.ren,AV.ren.renL,qZ,qu,qX, *];done)|trace_state))
theorem qiF (h:Hub) (hb:HBig h) (r:Rqt) (rb:RBig r) (hr:HRight h) (hn:¬ jx h.gras r.folder r.who < 1) :
  qo C2h.P 83 [.op 0 0 0] (HS h r) (vk (kF 0) (zv h.gras r.folder r.who r.name r.number).2) (HS (qdM h r) r):=by
 obtain ⟨a1,a2,a3,a4⟩:=yZ hr.gra
 have hm:=Kl h r a3 (by omega) 1
 rw [if_neg hn] at hm
 have hg:=qii h.gras hb.gras r.folder r.who r.name r.number rb.folder rb.who rb.name
 unfold qdM
 generalize zv h.gras r.folder r.who r.name r.number = P at *
 obtain ⟨L,e⟩:=P
 dsimp only at *
 by_cases h0:e = 0
 ·rw [if_pos h0]
  subst h0
  refine qa (C:=C2h) Tryz.func83 rfl _ Tryz.ntmps83 (Nat.le_of_ble_eq_true rfl) _ Tryz.results83 2 rfl rfl ?_
  repeat' (first|refine qe ?_|(first|(apply qN Tryz.func89 rfl rfl;intro hIsFn;refine xq [0,1] [(0,.own false 17 [vq 1 h r]),(1,.own false 4 (h.fols.map Fol.row))] (.v (.int .i64 (0))) hIsFn (hm) (by ((repeat' (first|exact jR|apply jB|exact jS rfl|exact yz|(apply qD;apply jl;exact .inr (of_decide_eq_true rfl))|(apply qD;apply jh;exact .inr (of_decide_eq_true rfl))|(apply qD;apply q8;exact .inr (of_decide_eq_true rfl))|apply yd|apply yc)))<;>fail) (by ((repeat' (first|exact jo|exact jm|refine q6 _ ?_ ?_|refine q7 ?_ ?_|exact qP|exact qh (sideM_pure _)|exact qh (jE _)|exact qh (goesM_pure _)|exact q3 (fun _=>rfl)|refine q5 ?_|exact qV|apply qt|exact qy rfl|(apply jh;exact .inr (of_decide_eq_true rfl))|(apply q8;exact .inr (of_decide_eq_true rfl))|(apply jl;exact .inr (of_decide_eq_true rfl))|fail)))<;>fail) (by ((repeat' (first|exact jo|exact jm|refine q6 _ ?_ ?_|refine q7 ?_ ?_|exact qP|exact qh (sideM_pure _)|exact qh (jE _)|exact qh (goesM_pure _)|exact q3 (fun _=>rfl)|refine q5 ?_|exact qV|apply qt|exact qy rfl|(apply jh;exact .inr (of_decide_eq_true rfl))|(apply q8;exact .inr (of_decide_eq_true rfl))|(apply jl;exact .inr (of_decide_eq_true rfl))|skip)))<;>fail) ?_)|refine xsQ Tryz.func61 (hg ..) ?_)|((first|refine qb ?_ ?_|refine qc ?_ ?_|refine xsC ?_ ?_);all_goals (intro hc;have hp:=hc;try simp at hp;try (exfalso;omega)))|refine qp ?_ ?_)
  all_goals try (exfalso;omega)
  (apply jp (rs:=[.cell 2 46,.tmp 3]) [] 2;(case hr=>(repeat (first|exact qS|(apply qU;rfl)|(apply qK;rfl;rfl;rfl;rfl;rfl))));(case hL=>rfl);(case hh=>(repeat' (first|exact qf|refine xf ?_|refine xa ?_|refine Ji ?_|refine qH ?_ ?_));all_goals rfl);(case hi=>exact rfl);(case hz=>first|rfl|(simp [jI,AV.ren,AV.ren.renL,qZ,qu,qX];done)|(simp [jI,AV.ren,AV.ren.renL,qZ,qu,qX, *];done)|trace_state))
 ·rw [if_neg h0]
  refine qa (C:=C2h) Tryz.func83 rfl _ Tryz.ntmps83 (Nat.le_of_ble_eq_true rfl) _ Tryz.results83 2 rfl rfl ?_
  repeat' (first|refine qe ?_|(first|(apply qN Tryz.func89 rfl rfl;intro hIsFn;refine xq [0,1] [(0,.own false 17 [vq 1 h r]),(1,.own false 4 (h.fols.map Fol.row))] (.v (.int .i64 (0))) hIsFn (hm) (by ((repeat' (first|exact jR|apply jB|exact jS rfl|exact yz|(apply qD;apply jl;exact .inr (of_decide_eq_true rfl))|(apply qD;apply jh;exact .inr (of_decide_eq_true rfl))|(apply qD;apply q8;exact .inr (of_decide_eq_true rfl))|apply yd|apply yc)))<;>fail) (by ((repeat' (first|exact jo|exact jm|refine q6 _ ?_ ?_|refine q7 ?_ ?_|exact qP|exact qh (sideM_pure _)|exact qh (jE _)|exact qh (goesM_pure _)|exact q3 (fun _=>rfl)|refine q5 ?_|exact qV|apply qt|exact qy rfl|(apply jh;exact .inr (of_decide_eq_true rfl))|(apply q8;exact .inr (of_decide_eq_true rfl))|(apply jl;exact .inr (of_decide_eq_true rfl))|fail)))<;>fail) (by ((repeat' (first|exact jo|exact jm|refine q6 _ ?_ ?_|refine q7 ?_ ?_|exact qP|exact qh (sideM_pure _)|exact qh (jE _)|exact qh (goesM_pure _)|exact q3 (fun _=>rfl)|refine q5 ?_|exact qV|apply qt|exact qy rfl|(apply jh;exact .inr (of_decide_eq_true rfl))|(apply q8;exact .inr (of_decide_eq_true rfl))|(apply jl;exact .inr (of_decide_eq_true rfl))|skip)))<;>fail) ?_)|refine xsQ Tryz.func61 (hg ..) ?_)|((first|refine qb ?_ ?_|refine qc ?_ ?_|refine xsC ?_ ?_);all_goals (intro hc;have hp:=hc;try simp at hp;try (exfalso;omega)))|refine qp ?_ ?_)
  all_goals try (exfalso;omega)
  (apply jp (rs:=[.cell 2 46,.tmp 3]) [] 2;(case hr=>(repeat (first|exact qS|(apply qU;rfl)|(apply qK;rfl;rfl;rfl;rfl;rfl))));(case hL=>rfl);(case hh=>(repeat' (first|exact qf|refine xf ?_|refine xa ?_|refine Ji ?_|refine qH ?_ ?_));all_goals rfl);(case hi=>exact rfl);(case hz=>first|rfl|(simp [jI,AV.ren,AV.ren.renL,qZ,qu,qX];done)|(simp [jI,AV.ren,AV.ren.renL,qZ,qu,qX, *];done)|trace_state))
theorem KM (h:Hub) (r:Rqt) (u:Upl) (n e:Int) :
  qo C2h.P 85 [.op 0 0 0,xw u,.v (.int .i64 n),.v (.int .i64 e)] (HS h r) (vk (kF n) e) (HS (if e = 0 then { h with ups:=u } else h) r):=by
 by_cases h0:e = 0
 ·rw [if_pos h0]
  subst h0
  refine qa (C:=C2h) Tryz.func85 rfl _ Tryz.ntmps85 (Nat.le_of_ble_eq_true rfl) _ Tryz.results85 2 rfl rfl ?_
  repeat' (first|refine qe ?_|(first|fail)|((first|refine qb ?_ ?_|refine qc ?_ ?_|refine xsC ?_ ?_);all_goals (intro hc;have hp:=hc;try simp at hp;try (exfalso;omega)))|refine qp ?_ ?_)
  all_goals try (exfalso;omega)
  (apply jp (rs:=[.cell 8 46,.tmp 9]) [] 2;(case hr=>(repeat (first|exact qS|(apply qU;rfl)|(apply qK;rfl;rfl;rfl;rfl;rfl))));(case hL=>rfl);(case hh=>(repeat' (first|exact qf|refine xf ?_|refine xa ?_|refine Ji ?_|refine qH ?_ ?_));all_goals rfl);(case hi=>exact rfl);(case hz=>first|rfl|(simp [jI,AV.ren,AV.ren.renL,qZ,qu,qX];done)|(simp [jI,AV.ren,AV.ren.renL,qZ,qu,qX, *];done)|trace_state))
 ·rw [if_neg h0]
  refine qa (C:=C2h) Tryz.func85 rfl _ Tryz.ntmps85 (Nat.le_of_ble_eq_true rfl) _ Tryz.results85 2 rfl rfl ?_
  repeat' (first|refine qe ?_|(first|fail)|((first|refine qb ?_ ?_|refine qc ?_ ?_|refine xsC ?_ ?_);all_goals (intro hc;have hp:=hc;try simp at hp;try (exfalso;omega)))|refine qp ?_ ?_)
  all_goals try (exfalso;omega)
  (apply jp (rs:=[.cell 8 46,.tmp 9]) [] 2;(case hr=>(repeat (first|exact qS|(apply qU;rfl)|(apply qK;rfl;rfl;rfl;rfl;rfl))));(case hL=>rfl);(case hh=>(repeat' (first|exact qf|refine xf ?_|refine xa ?_|refine Ji ?_|refine qH ?_ ?_));all_goals rfl);(case hi=>exact rfl);(case hz=>first|rfl|(simp [jI,AV.ren,AV.ren.renL,qZ,qu,qX];done)|(simp [jI,AV.ren,AV.ren.renL,qZ,qu,qX, *];done)|trace_state))
def qeT (h:Hub) (k:Nat) (j:Jou) (r:Rqt) (l:List Chg):Hub:=if (xr j r.key l).2.2 = 0 then { h with fols:=h.fols.set k ⟨r.folder,(xr j r.key l).1⟩ } else h
theorem qa4 (h:Hub) (hb:HBig h) (r:Rqt) (rb:RBig r) (hr:HRight h) (l:List Chg) (lb:CBig l) (k:Nat) (hk:k < h.fols.length) (hp:vD h.fols r.folder = k) (hh:vo h.fols r.folder = true) (hkn:h.fols[k].name = r.folder) :
  qo C2h.P 91 [.op 0 0 0,xu l] (HS h r) (vk (kF (xr h.fols[k].jou r.key l).2.1) (xr h.fols[k].jou r.key l).2.2) (HS (qeT h k h.fols[k].jou r l) r):=by
 have hf:=Xr h r.folder (by have:=hr.len;omega) hr.rise
 rw [hp,hh] at hf
 have hrd:=qgM h.fols[k].jou r.key l (hb.fols.each _ (List.getElem_mem _)).jou lb
 have hrow:(h.fols.map Fol.row)[k]? = some (Fol.row ⟨r.folder,h.fols[k].jou⟩):=by rw [qx (f:=Fol.row) hk, ← hkn]
 have hml:(h.fols.map Fol.row).length = h.fols.length:=List.length_map ..
 unfold qeT
 generalize xr h.fols[k].jou r.key l = P at *
 obtain ⟨j',n,e⟩:=P
 dsimp only at *
 have hset:(h.fols.map Fol.row).set k (Fol.row ⟨r.folder,j'⟩) = (h.fols.set k ⟨r.folder,j'⟩).map Fol.row:=List.map_set.symm
 by_cases h0:e = 0
 ·rw [if_pos h0]
  subst h0
  have hlen:(h.fols.set k ⟨r.folder,j'⟩).length = h.fols.length:=List.length_set ..
  show qo C2h.P _ _ _ _ [.own false 17 [vq 1 { h with fols:=h.fols.set k ⟨r.folder,j'⟩ } r],.own false 4 ((h.fols.set k ⟨r.folder,j'⟩).map Fol.row)]
  rw [show vq 1 { h with fols:=h.fols.set k ⟨r.folder,j'⟩ } r = vq 1 h r from by unfold vq;dsimp only;rw [hlen], ← hset]
  have hpu : ∀ row,row ∈ (h.fols.map Fol.row).set k (Fol.row ⟨r.folder,j'⟩) → AV.pure.pureL row = true:=by rw [hset];exact jq fun _=>rfl
  clear hset
  refine qa (C:=C2h) Tryz.func91 rfl _ Tryz.ntmps91 (Nat.le_of_ble_eq_true rfl) _ Tryz.results91 2 rfl rfl ?_
  repeat' (first|refine qe ?_|(first|(refine vV ?_)|(apply qj;apply yy [1];exact jP Tryz.func58 rfl rfl;exact hf;(case hz=>exact qk (Kp rfl) (qk (qB rfl) qL));(case hfl=>rfl);(case hN=>exact nle rfl))|refine xsQ Tryz.func129 (hrd ..) ?_)|((first|refine qb ?_ ?_|refine qc ?_ ?_|refine xsC ?_ ?_);all_goals (intro hc;have hp:=hc;try simp at hp;try (exfalso;omega)))|refine qp ?_ ?_)
  all_goals try (exfalso;omega)
  (apply jp (rs:=[.cell 4 46,.tmp 5]) [] 2;(case hr=>(repeat (first|exact qS|(apply qU;rfl)|(apply qK;rfl;rfl;rfl;rfl;rfl))));(case hL=>rfl);(case hh=>(repeat' (first|exact qf|refine xf ?_|refine xa ?_|refine Ji ?_|refine qH ?_ ?_));all_goals rfl);(case hi=>exact rfl);(case hz=>first|rfl|(simp [jI,AV.ren,AV.ren.renL,qZ,qu,qX];done)|(simp [jI,AV.ren,AV.ren.renL,qZ,qu,qX, *];done)|trace_state))
 ·rw [if_neg h0]
  refine qa (C:=C2h) Tryz.func91 rfl _ Tryz.ntmps91 (Nat.le_of_ble_eq_true rfl) _ Tryz.results91 2 rfl rfl ?_
  repeat' (first|refine qe ?_|(first|(refine vV ?_)|(apply qj;apply yy [1];exact jP Tryz.func58 rfl rfl;exact hf;(case hz=>exact qk (Kp rfl) (qk (qB rfl) qL));(case hfl=>rfl);(case hN=>exact nle rfl))|refine xsQ Tryz.func129 (hrd ..) ?_)|((first|refine qb ?_ ?_|refine qc ?_ ?_|refine xsC ?_ ?_);all_goals (intro hc;have hp:=hc;try simp at hp;try (exfalso;omega)))|refine qp ?_ ?_)
  all_goals try (exfalso;omega)
  (apply jp (rs:=[.cell 4 46,.tmp 5]) [] 2;(case hr=>(repeat (first|exact qS|(apply qU;rfl)|(apply qK;rfl;rfl;rfl;rfl;rfl))));(case hL=>rfl);(case hh=>(repeat' (first|exact qf|refine xf ?_|refine xa ?_|refine Ji ?_|refine qH ?_ ?_));all_goals rfl);(case hi=>exact rfl);(case hz=>first|rfl|(simp [jI,AV.ren,AV.ren.renL,qZ,qu,qX];done)|(simp [jI,AV.ren,AV.ren.renL,qZ,qu,qX, *];done)|trace_state))
def qiL (h:Hub) (k:Nat) (j:Jou) (r:Rqt) (u:Upl) (x:qC):Hub:=if (xr j r.key [⟨2,r.name,[],x,r.base⟩]).2.2 = 0 then { qeT h k j r [⟨2,r.name,[],x,r.base⟩] with ups:=u } else h
theorem qaX (h:Hub) (hb:HBig h) (r:Rqt) (rb:RBig r) (he:¬ (zq h.ups r.who r.number h.now).2.2 = 0):qo C2h.P 90 [.op 0 0 0] (HS h r) (vk (kF 0) (zq h.ups r.who r.number h.now).2.2) (HS h r):=by
 have hf:=qbm h.ups hb.ups r.who rb.who r.number h.now
 generalize zq h.ups r.who r.number h.now = P at *
 obtain ⟨u,x,e⟩:=P
 dsimp only at *
 refine qa (C:=C2h) Tryz.func90 rfl _ Tryz.ntmps90 (Nat.le_of_ble_eq_true rfl) _ Tryz.results90 2 rfl rfl ?_
 repeat' (first|refine qe ?_|(first|refine xsQ Tryz.func128 (hf ..) ?_)|((first|refine qb ?_ ?_|refine qc ?_ ?_|refine xsC ?_ ?_);all_goals (intro hc;have hp:=hc;try simp at hp;try (exfalso;omega)))|refine qp ?_ ?_)
 all_goals try (exfalso;omega)
 (apply jp (rs:=[.cell 2 46,.tmp 3]) [] 2;(case hr=>(repeat (first|exact qS|(apply qU;rfl)|(apply qK;rfl;rfl;rfl;rfl;rfl))));(case hL=>rfl);(case hh=>(repeat' (first|exact qf|refine xf ?_|refine xa ?_|refine Ji ?_|refine qH ?_ ?_));all_goals rfl);(case hi=>exact rfl);(case hz=>first|rfl|(simp [jI,AV.ren,AV.ren.renL,qZ,qu,qX];done)|(simp [jI,AV.ren,AV.ren.renL,qZ,qu,qX, *];done)|trace_state))
theorem qfF (h:Hub) (hb:HBig h) (r:Rqt) (rb:RBig r) (hr:HRight h) (he:(zq h.ups r.who r.number h.now).2.2 = 0) (hx:(zq h.ups r.who r.number h.now).2.1.length ≤ 1000) (k:Nat) (hk:k < h.fols.length) (hp:vD h.fols r.folder = k) (hh:vo h.fols r.folder = true) (hkn:h.fols[k].name = r.folder) :
  qo C2h.P 90 [.op 0 0 0] (HS h r) (vk (kF (xr h.fols[k].jou r.key [⟨2,r.name,[],(zq h.ups r.who r.number h.now).2.1,r.base⟩]).2.1) (xr h.fols[k].jou r.key [⟨2,r.name,[],(zq h.ups r.who r.number h.now).2.1,r.base⟩]).2.2)
   (HS (qiL h k h.fols[k].jou r (zq h.ups r.who r.number h.now).1 (zq h.ups r.who r.number h.now).2.1) r):=by
 have hf:=qbm h.ups hb.ups r.who rb.who r.number h.now
 generalize zq h.ups r.who r.number h.now = P at *
 obtain ⟨u,x,e⟩:=P
 dsimp only at *
 subst he
 have hc:=qa4 h hb r rb hr [⟨2,r.name,[],x,r.base⟩] ⟨fun c hc=>by rw [List.mem_singleton.1 hc];exact ⟨rb.name,by simp,by show x.length ≤ _;omega⟩,by simp⟩ k hk hp hh hkn
 unfold qiL
 unfold qeT at hc ⊢
 generalize xr h.fols[k].jou r.key [⟨2,r.name,[],x,r.base⟩] = Q at *
 obtain ⟨j',n,e⟩:=Q
 dsimp only at *
 by_cases h0:e = 0
 ·subst h0
  rw [if_pos rfl] at hc ⊢
  rw [if_pos rfl]
  have hlen:(h.fols.set k ⟨r.folder,j'⟩).length = h.fols.length:=List.length_set ..
  have hs1:vq 1 { h with fols:=h.fols.set k ⟨r.folder,j'⟩ } r = vq 1 h r:=by unfold vq;dsimp only;rw [hlen]
  have hs2:vq 1 { h with fols:=h.fols.set k ⟨r.folder,j'⟩,ups:=u } r = vq 1 { h with ups:=u } r:=by unfold vq;dsimp only;rw [hlen]
  have hc:qo C2h.P 91 [.op 0 0 0,xu [⟨2,r.name,[],x,r.base⟩]] (HS h r) (vk (kF n) 0) [.own false 17 [vq 1 h r],.own false 4 ((h.fols.set k ⟨r.folder,j'⟩).map Fol.row)]:=by rw [← hs1];exact hc
  show qo C2h.P _ _ _ _ [.own false 17 [vq 1 { h with fols:=h.fols.set k ⟨r.folder,j'⟩,ups:=u } r],.own false 4 ((h.fols.set k ⟨r.folder,j'⟩).map Fol.row)]
  rw [hs2]
  generalize h.fols.set k ⟨r.folder,j'⟩ = F' at *
  refine qa (C:=C2h) Tryz.func90 rfl _ Tryz.ntmps90 (Nat.le_of_ble_eq_true rfl) _ Tryz.results90 2 rfl rfl ?_
  repeat' (first|refine qe ?_|(first|refine xsQ Tryz.func128 (hf ..) ?_|(refine jN ?_)|(apply qN Tryz.func91 rfl rfl;intro hIsFn;refine xq [0,1] [(0,.own false 17 [vq 1 h r]),(1,.own false 4 (F'.map Fol.row))] (vk (kF n) 0) hIsFn (hc) (by ((repeat' (first|exact jR|apply jB|exact jS rfl|exact yz|(apply qD;apply jl;exact .inr (of_decide_eq_true rfl))|(apply qD;apply jh;exact .inr (of_decide_eq_true rfl))|(apply qD;apply q8;exact .inr (of_decide_eq_true rfl))|apply yd|apply yc)))<;>fail) (by ((repeat' (first|exact jo|exact jm|refine q6 _ ?_ ?_|refine q7 ?_ ?_|exact qP|exact qh (sideM_pure _)|exact qh (jE _)|exact qh (goesM_pure _)|exact q3 (fun _=>rfl)|refine q5 ?_|exact qV|apply qt|exact qy rfl|(apply jh;exact .inr (of_decide_eq_true rfl))|(apply q8;exact .inr (of_decide_eq_true rfl))|(apply jl;exact .inr (of_decide_eq_true rfl))|fail)))<;>fail) (by ((repeat' (first|exact jo|exact jm|refine q6 _ ?_ ?_|refine q7 ?_ ?_|exact qP|exact qh (sideM_pure _)|exact qh (jE _)|exact qh (goesM_pure _)|exact q3 (fun _=>rfl)|refine q5 ?_|exact qV|apply qt|exact qy rfl|(apply jh;exact .inr (of_decide_eq_true rfl))|(apply q8;exact .inr (of_decide_eq_true rfl))|(apply jl;exact .inr (of_decide_eq_true rfl))|skip)))<;>fail) ?_))|((first|refine qb ?_ ?_|refine qc ?_ ?_|refine xsC ?_ ?_);all_goals (intro hc;have hp:=hc;try simp at hp;try (exfalso;omega)))|refine qp ?_ ?_)
  all_goals try (exfalso;omega)
  (apply jp (rs:=[.cell 2 46,.tmp 3]) [] 2;(case hr=>(repeat (first|exact qS|(apply qU;rfl)|(apply qK;rfl;rfl;rfl;rfl;rfl))));(case hL=>rfl);(case hh=>(repeat' (first|exact qf|refine xf ?_|refine xa ?_|refine Ji ?_|refine qH ?_ ?_));all_goals rfl);(case hi=>exact rfl);(case hz=>first|rfl|(simp [jI,AV.ren,AV.ren.renL,qZ,qu,qX];done)|(simp [jI,AV.ren,AV.ren.renL,qZ,qu,qX, *];done)|trace_state))
 ·rw [if_neg h0] at hc ⊢
  refine qa (C:=C2h) Tryz.func90 rfl _ Tryz.ntmps90 (Nat.le_of_ble_eq_true rfl) _ Tryz.results90 2 rfl rfl ?_
  repeat' (first|refine qe ?_|(first|refine xsQ Tryz.func128 (hf ..) ?_|(refine jN ?_)|(apply qN Tryz.func91 rfl rfl;intro hIsFn;refine xq [0,1] [(0,.own false 17 [vq 1 h r]),(1,.own false 4 (h.fols.map Fol.row))] (vk (kF n) e) hIsFn (hc) (by ((repeat' (first|exact jR|apply jB|exact jS rfl|exact yz|(apply qD;apply jl;exact .inr (of_decide_eq_true rfl))|(apply qD;apply jh;exact .inr (of_decide_eq_true rfl))|(apply qD;apply q8;exact .inr (of_decide_eq_true rfl))|apply yd|apply yc)))<;>fail) (by ((repeat' (first|exact jo|exact jm|refine q6 _ ?_ ?_|refine q7 ?_ ?_|exact qP|exact qh (sideM_pure _)|exact qh (jE _)|exact qh (goesM_pure _)|exact q3 (fun _=>rfl)|refine q5 ?_|exact qV|apply qt|exact qy rfl|(apply jh;exact .inr (of_decide_eq_true rfl))|(apply q8;exact .inr (of_decide_eq_true rfl))|(apply jl;exact .inr (of_decide_eq_true rfl))|fail)))<;>fail) (by ((repeat' (first|exact jo|exact jm|refine q6 _ ?_ ?_|refine q7 ?_ ?_|exact qP|exact qh (sideM_pure _)|exact qh (jE _)|exact qh (goesM_pure _)|exact q3 (fun _=>rfl)|refine q5 ?_|exact qV|apply qt|exact qy rfl|(apply jh;exact .inr (of_decide_eq_true rfl))|(apply q8;exact .inr (of_decide_eq_true rfl))|(apply jl;exact .inr (of_decide_eq_true rfl))|skip)))<;>fail) ?_))|((first|refine qb ?_ ?_|refine qc ?_ ?_|refine xsC ?_ ?_);all_goals (intro hc;have hp:=hc;try simp at hp;try (exfalso;omega)))|refine qp ?_ ?_)
  all_goals try (exfalso;omega)
  (apply jp (rs:=[.cell 2 46,.tmp 3]) [] 2;(case hr=>(repeat (first|exact qS|(apply qU;rfl)|(apply qK;rfl;rfl;rfl;rfl;rfl))));(case hL=>rfl);(case hh=>(repeat' (first|exact qf|refine xf ?_|refine xa ?_|refine Ji ?_|refine qH ?_ ?_));all_goals rfl);(case hi=>exact rfl);(case hz=>first|rfl|(simp [jI,AV.ren,AV.ren.renL,qZ,qu,qX];done)|(simp [jI,AV.ren,AV.ren.renL,qZ,qu,qX, *];done)|trace_state))
end Go.Proofs.YtiljlcgmcmjcoaaGreatDoor
set_option linter.unusedSimpArgs false
set_option linter.unnecessarySimpa false
set_option linter.unusedVariables false
set_option maxHeartbeats 1000000
namespace Go.Proofs.YtiljlcgmcmjcoaaGreatDoor
open Go.Ab Go.RowKit
set_option maxRecDepth 10000
theorem QV {h:Nat → HB} {a a' b b' : List (List AV)} (h1:qG h a a') (h2:qG h b b'):qG h (a ++ b) (a' ++ b'):=by
 obtain ⟨l1,p1⟩:=h1
 obtain ⟨l2,p2⟩:=h2
 refine ⟨by simp [l1,l2],fun i row row' hr hr'=>?_⟩
 by_cases hi:i < a.length
 ·rw [List.getElem?_append_left hi] at hr
  rw [List.getElem?_append_left (by omega)] at hr'
  exact p1 i row row' hr hr'
 ·rw [List.getElem?_append_right (by omega)] at hr
  rw [List.getElem?_append_right (by omega)] at hr'
  rw [l1] at hr
  exact p2 _ row row' hr hr'
attribute [local irreducible] Awp ye ji qQ Red qF Go.Ab.Fin qo Rz xx qG qO ResOk jK je jX qW
def YN (f:qC):List AV:=[.v (str f),.sl true [],.v (.int .i64 1),.sl true []]
theorem qb3 (l:List Fol) (g:qC) (hl:l.length ≤ 1000000) :
  qo C1.P 123 [.os 0 0 l.length,.v (.int .i64 l.length),.sl false [YN g]] [.own false 4 (l.map Fol.row)] (.os 1 0 (l.length + 1)) [.dead,.own false 4 (l.map Fol.row ++ [YN g])]:=by
 have hpu : ∀ row,row ∈ l.map Fol.row ++ [YN g] → AV.pure.pureL row = true:=fun row hr=>by
  rcases List.mem_append.1 hr with hr|hr
  ·obtain ⟨x,_,rfl⟩:=List.mem_map.1 hr;rfl
  ·rw [List.mem_singleton.1 hr];rfl
 refine qa (C:=C1) Tryz.func123 rfl _ Tryz.ntmps123 (Nat.le_of_ble_eq_true rfl) _ Tryz.results123 1 rfl rfl ?_
 repeat' (first|refine qe ?_|(first|(refine Jm ?_)|(refine yX ?_))|((first|refine qb ?_ ?_|refine qc ?_ ?_|refine xsC ?_ ?_);all_goals (intro hc;have hp:=hc;try simp at hp;try (exfalso;omega)))|refine qp ?_ ?_)
 (refine Jf (rs:=[.tmp 6]) [(1,1)] 2 ?_;(apply yp 0;exact jj rfl;(repeat (first|exact qf|refine jV ?_|refine qH ?_ ?_)));all_goals trace_state)
theorem qcZ (l:List Fol) (g:qC) (i:Nat) (hi:i < l.length) (hl:l.length ≤ 1000000) :
  qo C1.P 123 [.os 0 0 l.length,.v (.int .i64 (i:Int)),.sl false [YN g]] [.own false 4 (l.map Fol.row)] (.os 1 0 (l.length + 1)) [.dead,.own false 4 ((l.take i).map Fol.row ++ ([YN g] ++ (l.drop i).map Fol.row))]:=by
 have hpu : ∀ row,row ∈ (l.take i).map Fol.row ++ ([YN g] ++ (l.drop i).map Fol.row) → AV.pure.pureL row = true:=fun row hr=>by
  rcases List.mem_append.1 hr with hr|hr
  ·obtain ⟨x,_,rfl⟩:=List.mem_map.1 hr;rfl
  ·rcases List.mem_append.1 hr with hr|hr
   ·rw [List.mem_singleton.1 hr];rfl
   ·obtain ⟨x,_,rfl⟩:=List.mem_map.1 hr;rfl
 refine qa (C:=C1) Tryz.func123 rfl _ Tryz.ntmps123 (Nat.le_of_ble_eq_true rfl) _ Tryz.results123 1 rfl rfl ?_
 refine Wx 0 4 (l.map Fol.row) rfl fun cap hcap=>?_
 rw [List.length_map] at hcap
 have hRt:(l.map Fol.row ++ vQ 4 (cap - (l.map Fol.row).length)).take l.length = l.map Fol.row:=by
  rw [List.take_append_of_le_length (by simp),List.take_of_length_le (by simp)]
 have hRl:l.length ≤ (l.map Fol.row ++ vQ 4 (cap - (l.map Fol.row).length)).length:=by simp
 generalize l.map Fol.row ++ vQ 4 (cap - (l.map Fol.row).length) = R at hRt hRl ⊢
 have hcut:(R.drop i).take (l.length - i) = (l.drop i).map Fol.row:=by rw [← List.drop_take,hRt,List.map_drop]
 have hti:R.take i = (l.take i).map Fol.row:=by rw [List.map_take, ← hRt,List.take_take,Nat.min_eq_left (by omega)]
 have hck : ∀ row,row ∈ (l.drop i).map Fol.row → row.length = 4:=fun row hr=>by obtain ⟨x,_,rfl⟩:=List.mem_map.1 hr;rfl
 have hcl : ∀ row,row ∈ (l.drop i).map Fol.row → row.all j5 = true:=fun row hr=>by obtain ⟨x,_,rfl⟩:=List.mem_map.1 hr;rfl
 repeat' (first|refine qe ?_|(first|(refine Jm ?_)|(apply qj;apply XH;(case hx=>rfl);(case hn=>rfl);(case hT=>rfl);(case he=>rfl);(case hN=>exact nle rfl))|(apply yW;apply Qa;(case hx=>rfl);(case hT=>rfl);(case he=>rfl);(case hE=>rfl);(case hn=>rfl);(case hl=>(first|omega|(simp;done)|(simp only [List.length_cons,List.length_nil,List.length_map];omega)|(simp;omega)));(case hy=>exact congrArg (fun z=>AV.v (Value.int IntKind.i64 z)) (show ((l.length + 1:Nat):Int) - (i:Int) = ((l.length + 1 - i:Nat):Int) from by omega));(case hxT=>rfl);(case hxk=>rfl);(case hz=>rfl);(case hs0=>exact Nat.ne_of_beq_eq_false rfl);(case hg=>omega);(case hsz=>(first|omega|(simp;done)|(simp only [List.length_cons,List.length_nil,List.length_map];omega)|(simp;omega)));(case hlen=>(first|omega|(simp;done)|(simp only [List.length_cons,List.length_nil,List.length_map];omega)|(simp;omega)));(case hN=>exact nle rfl))|(apply qj;apply JU;exact Tryz.func150;(case hname=>rfl);(case hb=>rfl);(case hnx=>rfl);(case hex=>rfl);(case hT=>rfl);(case he=>rfl);(case hE=>rfl);(case hx=>rfl);(case hy=>rfl);(case hm=>rfl);(case hk=>exact Nat.ne_of_beq_eq_false rfl);(case hrw=>intro row hrow;rw [List.mem_singleton.1 hrow];exact Nat.succ_ne_zero _);(case hN=>exact nle rfl))|(apply kD;apply kO;(case hx=>rfl);(case hT=>rfl);(case he=>rfl);(case hE=>rfl);(case hn=>rfl);(case hsrc=>exact W9 (xQ rfl rfl));(case hmin=>exact Nat.min_eq_left (by (first|omega|(simp;done)|(simp only [List.length_cons,List.length_nil,List.length_map];omega)|(simp;omega))));(case hfit=>(first|omega|(simp;done)|(simp only [List.length_cons,List.length_nil,List.length_map];omega)|(simp;omega)));(case hN=>exact nle rfl))|(apply kD;apply kO;(case hx=>rfl);(case hT=>rfl);(case he=>rfl);(case hE=>rfl);(case hn=>rfl);(case hsrc=>exact ZI (cnt:=l.length - i) rfl (List.mem_singleton.2 rfl) rfl (by omega) (by omega) (by first|exact hcut|simpa using hcut) hck hcl);(case hmin=>(first|exact (Nat.min_eq_left (by (first|omega|(simp;done)|(simp only [List.length_cons,List.length_nil,List.length_map];omega)|(simp;omega)))).trans (by (first|omega|(simp;done)|(simp only [List.length_cons,List.length_nil,List.length_map];omega)|(simp;omega)))|exact (Nat.min_eq_right (by (first|omega|(simp;done)|(simp only [List.length_cons,List.length_nil,List.length_map];omega)|(simp;omega)))).trans (by (first|omega|(simp;done)|(simp only [List.length_cons,List.length_nil,List.length_map];omega)|(simp;omega)))));(case hfit=>(first|omega|(simp;done)|(simp only [List.length_cons,List.length_nil,List.length_map];omega)|(simp;omega)));(case hN=>exact nle rfl)))|((first|refine qb ?_ ?_|refine qc ?_ ?_|refine xsC ?_ ?_);all_goals (intro hc;have hp:=hc;try simp at hp;try (exfalso;omega)))|refine qp ?_ ?_)
 all_goals try (exfalso;omega)
 ·have hrow:=qdX R (vQ 4 (l.length + 1 - i)) ((l.drop i).map Fol.row) (YN g) (i:=i) (a:=0 + i) (b:=0 + i + 1) (c:=0 + (i + 1)) (d:=0 + (i + 1) + ((l.drop i).map Fol.row).length) (by omega) (by simp;omega) (by omega) (by omega) (by omega) (by omega)
  (apply jp (rs:=[.tmp 6]) [(1,1)] 2;(case hr=>(repeat (first|exact qS|(apply qU;rfl)|(apply qK;rfl;rfl;rfl;rfl;rfl))));(case hL=>rfl);(case hh=>(apply yp 0;exact jj rfl;(repeat (first|exact qf|refine jV ?_|refine qH ?_ ?_)));all_goals (refine hrow.trans ?_;rw [hti]));(case hi=>first|exact (rfl:_ = ([]:List (Nat × Nat)))|exact (rfl:_ = [((0:Nat),(0:Nat))])|exact (rfl:_ = [((0:Nat),(0:Nat)),(1,1)]));(case hz=>first|rfl|(simp [jI,AV.ren,AV.ren.renL,qZ,qu,qX];done)|(simp [jI,AV.ren,AV.ren.renL,qZ,qu,qX, *];done)|(simp [jI,AV.ren,AV.ren.renL,qZ,qu,qX];omega)))
 ·have hrow:=qfX R ((l.drop i).map Fol.row) (YN g) (i:=i) (a:=0 + 0 + (i + 1)) (b:=0 + 0 + (i + 1) + ((l.drop i).map Fol.row).length) (c:=0 + 0 + i) (d:=0 + 0 + i + 1) (m:=l.length + 1) (by omega) (by omega) (by omega) (by omega) (by simp;omega)
  have hrow:=hrow.trans (show _ = (l.take i).map Fol.row ++ ([YN g] ++ (l.drop i).map Fol.row) from by rw [hti])
  apply QB (C:=C1) 6 0 (l.length + 1)
  case hi=>rfl
  case hn=>rfl
  case hr=>exact hrow
  case hnn=>exact Nat.ne_of_beq_eq_false rfl
  case hnx=>exact Nat.le_of_ble_eq_true rfl
  (apply jp (rs:=[.tmp 6]) [(1,1)] 2;(case hr=>(repeat (first|exact qS|(apply qU;rfl)|(apply qK;rfl;rfl;rfl;rfl;rfl))));(case hL=>rfl);(case hh=>(apply yp 0;exact jj rfl;(repeat (first|exact qf|refine jV ?_|refine qH ?_ ?_)));all_goals trace_state);(case hi=>first|exact (rfl:_ = ([]:List (Nat × Nat)))|exact (rfl:_ = [((0:Nat),(0:Nat))])|exact (rfl:_ = [((0:Nat),(0:Nat)),(1,1)]));(case hz=>first|rfl|(simp [jI,AV.ren,AV.ren.renL,qZ,qu,qX];done)|(simp [jI,AV.ren,AV.ren.renL,qZ,qu,qX, *];done)|(simp [jI,AV.ren,AV.ren.renL,qZ,qu,qX];omega)))
def YD (l:List Fol) (f:qC):List (List AV):=(l.take (vD l f)).map Fol.row ++ ([YN f] ++ (l.drop (vD l f)).map Fol.row)
theorem KY (l:List Fol) (f:qC) : ∀ row,row ∈ YD l f → AV.pure.pureL row = true:=fun row hr=>by
 unfold YD at hr
 rcases List.mem_append.1 hr with hr|hr
 ·obtain ⟨x,_,rfl⟩:=List.mem_map.1 hr;rfl
 ·rcases List.mem_append.1 hr with hr|hr
  ·rw [List.mem_singleton.1 hr];rfl
  ·obtain ⟨x,_,rfl⟩:=List.mem_map.1 hr;rfl
theorem qgK (l:List Fol) (f:qC) (hl:l.length ≤ 1000000) :
  qo C1.P 123 [.os 0 0 l.length,.v (.int .i64 (vD l f)),.sl false [YN f]] [.own false 4 (l.map Fol.row)] (.os 1 0 (l.length + 1)) [.dead,.own false 4 (YD l f)]:=by
 have hp:=V4 l f
 unfold YD
 by_cases h:vD l f < l.length
 ·exact qcZ l f _ h hl
 ·have he:vD l f = l.length:=by omega
  rw [he,List.take_length,List.drop_length]
  exact qb3 l f hl
theorem qiq {h:Nat → HB} {n k:Nat} {l:List Fol} {f:qC} (hn:h n = .own false 4 (YD l f)) (hk:k = l.length + 1):Rz h (.os n 0 k) (w6 (Jz l f)):=by
 have hp:=V4 l f
 have hlen:(YD l f).length = l.length + 1:=by unfold YD;simp;omega
 refine Yo hn (by omega) ?_
 rw [List.drop_zero,hk, ← hlen,List.take_length]
 show qG h _ ((l.take (vD l f) ++ ([(⟨f,YX⟩ : Fol)] ++ l.drop (vD l f))).map Fol.row)
 rw [List.map_append,List.map_append]
 exact QV (zT fun _=>rfl) (QV (VN (qk (qB rfl) (qk yi (qk (qB rfl) (qk yi qL)))) ZZ) (zT fun _=>rfl))
theorem Q9 {L:List (Nat × Nat)} {nh:Nat} : ∀ {cs:List AV},AV.pure.pureL cs = true → je L nh cs cs
 | [],_=>qV
 | c :: cs,h=>by
   have h2:(c.pure && AV.pure.pureL cs) = true:=h
   rw [Bool.and_eq_true] at h2
   exact qt (qy h2.1) (Q9 h2.2)
theorem qd3 {L:List (Nat × Nat)} {σ:St} {ex ex' : Bool} {cs:List AV} {l:List (Nat × HB)} {n n' k w:Nat} (hl:vN L 2 σ l) (hn:Maps L 2 n n':=by exact .inr (List.mem_cons_self ..)) (hx:ja σ.hs 0 = .own ex w [.os n 0 k :: cs]:=by rfl) (hc:AV.pure.pureL cs = true:=by rfl) (he:ex' = true → ex = true:=by first|exact id|exact nofun):vN L 2 σ ((0,.own ex' w [.os n' 0 k :: cs]) :: l) :=
 JA (jj rfl) hx he (ky (qt (q8 hn) (Q9 hc)) wd) hl
theorem Vv (h:Hub) (hb:HBig h) (r:Rqt) (rb:RBig r) (he:j3 h.gras r.folder r.who = 0 → h.fols.length = 8) :
  qo C2h.P 82 [.op 0 0 0] (HS h r) (vk (kF 0) (if j3 h.gras r.folder r.who = 0 then 2 else j3 h.gras r.folder r.who)) (HS h r):=by
 have hm:=qgG h.gras hb.gras r.folder r.who rb.folder rb.who
 have hml:(h.fols.map Fol.row).length = h.fols.length:=List.length_map ..
 generalize va h.gras r.folder r.who 3 = L at *
 generalize j3 h.gras r.folder r.who = E at *
 by_cases h0:E = 0
 ·have h8:=he h0
  rw [if_pos h0] at hm ⊢
  subst h0
  refine qa (C:=C2h) Tryz.func82 rfl _ Tryz.ntmps82 (Nat.le_of_ble_eq_true rfl) _ Tryz.results82 2 rfl rfl ?_
  repeat' (first|refine qe ?_|(first|refine xsQ Tryz.func60 (hm ..) ?_)|((first|refine qb ?_ ?_|refine qc ?_ ?_|refine xsC ?_ ?_);all_goals (intro hc;have hp:=hc;try simp at hp;try (exfalso;omega)))|refine qp ?_ ?_)
  all_goals try (exfalso;omega)
  (apply jp (rs:=[.cell 2 46,.tmp 3]) [] 2;(case hr=>(repeat (first|exact qS|(apply qU;rfl)|(apply qK;rfl;rfl;rfl;rfl;rfl))));(case hL=>rfl);(case hh=>(repeat' (first|exact qf|refine xf ?_|refine xa ?_|refine Ji ?_|refine qH ?_ ?_));all_goals rfl);(case hi=>exact rfl);(case hz=>first|rfl|(simp [jI,AV.ren,AV.ren.renL,qZ,qu,qX];done)|(simp [jI,AV.ren,AV.ren.renL,qZ,qu,qX, *];done)|trace_state))
 ·rw [if_neg h0] at hm ⊢
  refine qa (C:=C2h) Tryz.func82 rfl _ Tryz.ntmps82 (Nat.le_of_ble_eq_true rfl) _ Tryz.results82 2 rfl rfl ?_
  repeat' (first|refine qe ?_|(first|refine xsQ Tryz.func60 (hm ..) ?_)|((first|refine qb ?_ ?_|refine qc ?_ ?_|refine xsC ?_ ?_);all_goals (intro hc;have hp:=hc;try simp at hp;try (exfalso;omega)))|refine qp ?_ ?_)
  all_goals try (exfalso;omega)
  (apply jp (rs:=[.cell 2 46,.tmp 3]) [] 2;(case hr=>(repeat (first|exact qS|(apply qU;rfl)|(apply qK;rfl;rfl;rfl;rfl;rfl))));(case hL=>rfl);(case hh=>(repeat' (first|exact qf|refine xf ?_|refine xa ?_|refine Ji ?_|refine qH ?_ ?_));all_goals rfl);(case hi=>exact rfl);(case hz=>first|rfl|(simp [jI,AV.ren,AV.ren.renL,qZ,qu,qX];done)|(simp [jI,AV.ren,AV.ren.renL,qZ,qu,qX, *];done)|trace_state))
def WQ (h:Hub) (r:Rqt):Hub := { h with fols:=Jz h.fols r.folder,gras:=va h.gras r.folder r.who 3 }
theorem qgP (h:Hub) (hb:HBig h) (r:Rqt) (rb:RBig r) (hr:HRight h) (h0:j3 h.gras r.folder r.who = 0) (h8:¬ h.fols.length = 8) :
  qo C2h.P 82 [.op 0 0 0] (HS h r) (vk (kF 0) 0) [.own false 17 [vq 2 (WQ h r) r],.dead,.own false 4 (YD h.fols r.folder)]:=by
 have hm:=qgG h.gras hb.gras r.folder r.who rb.folder rb.who
 rw [if_pos h0,h0] at hm
 have hml:(h.fols.map Fol.row).length = h.fols.length:=List.length_map ..
 have hf:=Xr h r.folder (by have:=hr.len;omega) hr.rise
 rw [show vo h.fols r.folder = false from by rw [hr.has];exact (VI h0).2.2.2.1] at hf
 have hin:=qgK h.fols r.folder (by have:=hr.len;omega)
 have hpu : ∀ row,row ∈ YD h.fols r.folder → AV.pure.pureL row = true:=fun row hr=>by
  unfold YD at hr
  rcases List.mem_append.1 hr with hr|hr
  ·obtain ⟨x,_,rfl⟩:=List.mem_map.1 hr;rfl
  ·rcases List.mem_append.1 hr with hr|hr
   ·rw [List.mem_singleton.1 hr];rfl
   ·obtain ⟨x,_,rfl⟩:=List.mem_map.1 hr;rfl
 have hpl:=V4 h.fols r.folder
 have hsr:vq 2 (WQ h r) r = .os 2 0 (h.fols.length + 1) :: q9 (va h.gras r.folder r.who 3) :: (vq 2 h r).drop 2:=by
  show _ :: _ :: _ = _
  rw [show (WQ h r).fols.length = h.fols.length + 1 from Y5 _ _];rfl
 rw [hsr]
 clear hsr
 generalize va h.gras r.folder r.who 3 = L at *
 generalize YD h.fols r.folder = R at *
 refine qa (C:=C2h) Tryz.func82 rfl _ Tryz.ntmps82 (Nat.le_of_ble_eq_true rfl) _ Tryz.results82 2 rfl rfl ?_
 repeat' (first|refine qe ?_|(first|refine xsQ Tryz.func60 (hm ..) ?_|(apply qj;apply yy [1];exact jP Tryz.func58 rfl rfl;exact hf;(case hz=>exact qk (Kp rfl) (qk (qB rfl) qL));(case hfl=>rfl);(case hN=>exact nle rfl))|(refine jN ?_)|(apply qN Tryz.func123 rfl rfl;intro hIsFn;refine zP ([1]) 1 hIsFn (hin ..) ?_))|((first|refine qb ?_ ?_|refine qc ?_ ?_|refine xsC ?_ ?_);all_goals (intro hc;have hp:=hc;try simp at hp;try (exfalso;omega)))|refine qp ?_ ?_)
 all_goals try (exfalso;omega)
 apply jp (rs:=[.cell 2 46,.tmp 3]) [(3,2)] 3
 case hr=>(repeat (first|exact qS|(apply qU;rfl)|(apply qK;rfl;rfl;rfl;rfl;rfl)))
 case hL=>rfl
 case hh =>
  refine qd3 ?_
  refine yp 1 (jj rfl) ?_
  refine Ji ?_
  exact qf
 case hi=>exact rfl
 case hz=>first|rfl|trace_state
end Go.Proofs.YtiljlcgmcmjcoaaGreatDoor
