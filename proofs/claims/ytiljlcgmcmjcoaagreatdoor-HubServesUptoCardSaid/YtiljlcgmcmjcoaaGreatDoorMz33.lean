import Derived.Test.YtiljlcgmcmjcoaaGreatDoorMz32
import Derived.Test.YtiljlcgmcmjcoaaGreatDoorMz31
set_option linter.unusedSimpArgs false
set_option linter.unnecessarySimpa false
set_option linter.unusedVariables false
set_option maxHeartbeats 1000000
namespace Go.Proofs.YtiljlcgmcmjcoaaGreatDoor
open Go.Ab Go.RowKit
open Go.Op (bytesLess)
set_option maxRecDepth 10000
attribute [local irreducible] Awp ye ji qQ Red qF Go.Ab.Fin qo Rz xx qG qO ResOk jK je jX qW
theorem qiz (l:List Gra) (h0:jH l = 0) (f w:qC) (hf:f.length ≤ 1000000000) (hw:w.length ≤ 1000000000) :
  jO C.P 48 [q9 l,.v (str f),.v (str w)] (.tup [q9 (if j3 l f w = 0 then va l f w 3 else []),.v (.int .i64 (j3 l f w))]):=by
 have h1:=qfv l f w (yZ h0).1 (jC hf) (jC hw)
 have h2:vv l f w = j3 l f w:=by unfold vv j3;rw [if_pos h0]
 have h3:Qk f w 3 l false = va l f w 3:=qbe (r:=3) (yZ h0).2.2.1
 rw [h2,h3] at h1
 exact h1
theorem YV (l:List Fol) (k:Nat) (f:qC) (hk:k ≤ l.length) {A B X:List (List AV)} (hA:A = ((l.map Fol.row).take k).drop 0) (hX:X = [YN f]) (hB:B = ((l.map Fol.row).take (l.map Fol.row).length).drop k) {n m:Nat} (hn:n = A.length + X.length) (hm:m = n + B.length) :
  ((A.take A.length ++ X).take n ++ B).take m = (l.take k).map Fol.row ++ ([YN f] ++ (l.drop k).map Fol.row) ∧ m ≤ ((A.take A.length ++ X).take n ++ B).length:=by
 subst hA;subst hX;subst hB;subst hn;subst hm
 simp only [List.take_length,List.drop_zero]
 rw [List.take_of_length_le (l:=_ ++ [YN f]) (by simp),List.take_of_length_le (by simp;omega)]
 refine ⟨?_,by simp;omega⟩
 rw [List.map_take,List.map_drop,List.append_assoc]
theorem qd7 {h:Nat → HB} {n len:Nat} {l:List Fol} {k:Nat} {f:qC} {rows:List (List AV)} (hn:h n = .own false 4 rows) (hr:rows.take len = (l.take k).map Fol.row ++ ([YN f] ++ (l.drop k).map Fol.row)) (hl:len ≤ rows.length):Rz h (.os n 0 len) (w6 (l.take k ++ ⟨f,YX⟩ :: l.drop k)):=by
 refine Yo hn (by omega) ?_
 rw [List.drop_zero,hr]
 show qG h _ ((l.take k ++ ([(⟨f,YX⟩ : Fol)] ++ l.drop k)).map Fol.row)
 rw [List.map_append,List.map_append]
 exact QV (zT fun _=>rfl) (QV (VN (qk (qB rfl) (qk yi (qk (qB rfl) (qk yi qL)))) ZZ) (zT fun _=>rfl))
set_option maxHeartbeats 2000000 in
theorem qfk (h:Hub) (hb:HBig h) (hr:HRight h) (r:Rqt) (rb:RBig r) (hk:r.kind = 8) (hn:ql r.who = true):jO C.P 19 [xy h,ki r] (zl (wD h r)):=by
 have hnm:=xA r.who (kc rb.who)
 rw [hn] at hnm
 have hri:=vd h.gras r.folder r.who hr.lens.2
 have hfa:=vC h (by have:=hr.lens.1;omega) r.folder
 have hmk:=qiz h.gras hr.gra r.folder r.who rb.folder rb.who
 have hl8:=hr.len
 unfold wD
 generalize jx h.gras r.folder r.who = RG at *
 generalize j0 (atF r.folder) h.fols = FA at *
 generalize j3 h.gras r.folder r.who = E at *
 have k1:¬ r.kind < 1:=by omega
 have k8:¬ 8 < r.kind:=by omega
 have hmf:(h.fols.map Fol.row).length = h.fols.length:=List.length_map ..
 by_cases he:E = 0
 case neg =>
  rw [if_neg he] at hmk ⊢
  have hbd:=zX h E
  unfold zl at hbd ⊢
  refine qa Tryz.func19 rfl _ Tryz.ntmps19 (Nat.le_of_ble_eq_true rfl) _ Tryz.results19 0 rfl rfl ?_
  (repeat apply jg);apply qw;(repeat' (first|apply qT|refine xi ?_|refine xe ?_|refine xl ?_|refine xN ?_|refine xj ?_|refine vm ?_|refine xb ?_|refine vb ?_|refine vl ?_|refine zb ?_|refine vZ ?_|refine vX ?_|refine xX ?_|refine xn ?_|refine yG ?_|(first|fail)|refine yg ?_|refine j6 ?_|refine j4 ?_|refine jF ?_|refine jG ?_|refine yL ?_|refine yK ?_|refine j7 ?_|refine j8 ?_|((first|refine qb ?_ ?_|refine qc ?_ ?_);all_goals (intro hc;have hp:=hc;try simp at hp;try (exfalso;omega)))));show Awp _ _ _ _ _
  refine xV 2 0 ?_
  refine xV 3 1 ?_
  repeat' (first|refine qe ?_|(first|(refine vf Tryz.func46 (hbd ..) ?_)|refine xsF Tryz.func25 (hnm ..) ?_|refine xsF Tryz.func47 (hri ..) ?_|refine xsF Tryz.func27 (hfa ..) ?_|refine xsQ Tryz.func48 (hmk ..) ?_)|((first|refine qb ?_ ?_|refine qc ?_ ?_|refine xsC ?_ ?_);all_goals (intro hc;have hp:=hc;try simp at hp;try (exfalso;omega)))|refine qp ?_ ?_)
  all_goals try (exfalso;first|omega|contradiction|simp_all;done)
  all_goals ((exact j1 (rs:=[.cell 4 28,.cell 5 46])))
 subst he
 rw [if_pos rfl] at hmk ⊢
 by_cases h8:h.fols.length = 8
 ·rw [if_pos h8]
  have hbd:=zX h 2
  unfold zl at hbd ⊢
  refine qa Tryz.func19 rfl _ Tryz.ntmps19 (Nat.le_of_ble_eq_true rfl) _ Tryz.results19 0 rfl rfl ?_
  (repeat apply jg);apply qw;(repeat' (first|apply qT|refine xi ?_|refine xe ?_|refine xl ?_|refine xN ?_|refine xj ?_|refine vm ?_|refine xb ?_|refine vb ?_|refine vl ?_|refine zb ?_|refine vZ ?_|refine vX ?_|refine xX ?_|refine xn ?_|refine yG ?_|(first|fail)|refine yg ?_|refine j6 ?_|refine j4 ?_|refine jF ?_|refine jG ?_|refine yL ?_|refine yK ?_|refine j7 ?_|refine j8 ?_|((first|refine qb ?_ ?_|refine qc ?_ ?_);all_goals (intro hc;have hp:=hc;try simp at hp;try (exfalso;omega)))));show Awp _ _ _ _ _
  refine xV 2 0 ?_
  refine xV 3 1 ?_
  repeat' (first|refine qe ?_|(first|(refine vf Tryz.func46 (hbd ..) ?_)|refine xsF Tryz.func25 (hnm ..) ?_|refine xsF Tryz.func47 (hri ..) ?_|refine xsF Tryz.func27 (hfa ..) ?_|refine xsQ Tryz.func48 (hmk ..) ?_)|((first|refine qb ?_ ?_|refine qc ?_ ?_|refine xsC ?_ ?_);all_goals (intro hc;have hp:=hc;try simp at hp;try (exfalso;omega)))|refine qp ?_ ?_)
  all_goals try (exfalso;first|omega|contradiction|simp_all;done)
  all_goals ((exact j1 (rs:=[.cell 4 28,.cell 5 46])))
 rw [if_neg h8]
 generalize va h.gras r.folder r.who 3 = L at *
 have hrk : ∀ row,row ∈ h.fols.map Fol.row → row.length = 4:=by
  intro row h
  obtain ⟨s,_,rfl⟩:=List.mem_map.1 h
  rfl
 have hri8:=hr.rise
 unfold zl
 refine qa Tryz.func19 rfl _ Tryz.ntmps19 (Nat.le_of_ble_eq_true rfl) _ Tryz.results19 0 rfl rfl ?_
 (repeat apply jg);apply qw;(repeat' (first|apply qT|refine xi ?_|refine xe ?_|refine xl ?_|refine xN ?_|refine xj ?_|refine vm ?_|refine xb ?_|refine vb ?_|refine vl ?_|refine zb ?_|refine vZ ?_|refine vX ?_|refine xX ?_|refine xn ?_|refine yG ?_|(first|fail)|refine yg ?_|refine j6 ?_|refine j4 ?_|refine jF ?_|refine jG ?_|refine yL ?_|refine yK ?_|refine j7 ?_|refine j8 ?_|((first|refine qb ?_ ?_|refine qc ?_ ?_);all_goals (intro hc;have hp:=hc;try simp at hp;try (exfalso;omega)))));show Awp _ _ _ _ _
 refine xV 3 1 ?_
 repeat' (first|refine qe ?_|(first|refine xsF Tryz.func25 (hnm ..) ?_|refine xsF Tryz.func47 (hri ..) ?_|refine xsF Tryz.func27 (hfa ..) ?_|refine xsQ Tryz.func48 (hmk ..) ?_)|((first|refine qb ?_ ?_|refine qc ?_ ?_|refine xsC ?_ ?_);all_goals (intro hc;have hp:=hc;try simp at hp;try (exfalso;omega)))|refine qp ?_ ?_)
 all_goals try (exfalso;first|omega|contradiction|simp_all;done)
 (refine Awp.red (qY (τ:=⟨[(2,.op 0 0 0),(3,.fp [r.row] 0 0),(4,.op 1 0 0),(5,.op 2 0 0),(9,q9 L),(11,.v (.int .i64 ((0:Nat):Int)))],[(0,.own true 7 [h.row]),(1,.own true 7 [[.sl true [],.sl true [],.sl true [],.v (.int .i64 0),.v (.int .i64 0),.v (.int .i64 0),.v (.int .i64 0)]]),(2,.own true 7 [[.v (.int .i64 0),.v (.int .i64 0),.v (.bool false),.sl true [],.sl true [],.v (.int .i64 0),.v (.bool false)]])],3⟩) [(0,0),(2,1),(3,2)] rfl ?gts ?ghs) ?gmain;(case gts=>(repeat (first|exact qd|refine qi ?_|refine xd ?_|refine xL ?_|refine qI ?_ ?_)));(case ghs=>(repeat (first|exact qf|refine jV ?_|refine qH ?_ ?_))))
 refine qq (fun n σ => ∃ i:Nat,i ≤ h.fols.length ∧ n = h.fols.length - i ∧ (∀ (j:Nat) (hj:j < h.fols.length),j < i → bytesLess h.fols[j].name r.folder = true) ∧ σ = ⟨[(2,.op 0 0 0),(3,.fp [r.row] 0 0),(4,.op 1 0 0),(5,.op 2 0 0),(9,q9 L),(11,.v (.int .i64 (i:Int)))],[(0,.own true 7 [h.row]),(1,.own true 7 [[.sl true [],.sl true [],.sl true [],.v (.int .i64 0),.v (.int .i64 0),.v (.int .i64 0),.v (.int .i64 0)]]),(2,.own true 7 [[.v (.int .i64 0),.v (.int .i64 0),.v (.bool false),.sl true [],.sl true [],.v (.int .i64 0),.v (.bool false)]])],3⟩) h.fols.length ⟨0,Nat.zero_le _,rfl,(fun j hj q=>absurd q (Nat.not_lt_zero _)),rfl⟩ ?_
 rintro n σ ⟨i,hi,rfl,hsofar,rfl⟩
 by_cases hgo : ∃ hlt:i < h.fols.length,bytesLess h.fols[i].name r.folder = true
 ·obtain ⟨hlt,hbl⟩:=hgo
  have hrow:=qx (f:=Fol.row) hlt
  repeat' (first|refine qe ?_|(first|fail)|((first|refine qb ?_ ?_|refine qc ?_ ?_|refine xsC ?_ ?_);all_goals (intro hc;have hp:=hc;try simp at hp;try (exfalso;omega)))|refine qp ?_ ?_)
  all_goals try (exfalso;first|omega|contradiction|simp_all;done)
  refine ⟨h.fols.length - (i + 1),_,by omega,qY (τ:=⟨[(2,.op 0 0 0),(3,.fp [r.row] 0 0),(4,.op 1 0 0),(5,.op 2 0 0),(9,q9 L),(11,.v (.int .i64 ((i + 1:Nat):Int)))],[(0,.own true 7 [h.row]),(1,.own true 7 [[.sl true [],.sl true [],.sl true [],.v (.int .i64 0),.v (.int .i64 0),.v (.int .i64 0),.v (.int .i64 0)]]),(2,.own true 7 [[.v (.int .i64 0),.v (.int .i64 0),.v (.bool false),.sl true [],.sl true [],.v (.int .i64 0),.v (.bool false)]])],3⟩) [(0,0),(1,1),(2,2)] rfl ?gts ?ghs,i + 1,by omega,rfl,(fun j hj q=>by
    by_cases e:j = i
    ·subst e;exact hbl
    ·exact hsofar j hj (by omega)),rfl⟩;(case gts=>(repeat (first|exact qd|refine qi ?_|refine xd ?_|refine xL ?_|refine qI ?_ ?_)));(case ghs=>(repeat (first|exact qf|refine jV ?_|refine qH ?_ ?_)))
 have hpos:vD h.fols r.folder = i:=V6 hi hsofar (fun hlt=>by
  cases q:bytesLess h.fols[i].name r.folder
  ·rfl
  ·exact absurd ⟨hlt,q⟩ hgo)
 have hins:Jz h.fols r.folder = h.fols.take i ++ ⟨r.folder,YX⟩ :: h.fols.drop i:=by unfold Jz;rw [hpos]
 rw [hins]
 clear hins hpos hsofar hri8
 by_cases hlt:i < h.fols.length
 ·have hbl:bytesLess h.fols[i].name r.folder = false:=by
   cases q:bytesLess h.fols[i].name r.folder
   ·rfl
   ·exact absurd ⟨hlt,q⟩ hgo
  have hrow:=qx (f:=Fol.row) hlt
  clear hgo
  repeat' (first|refine qe ?_|(first|(refine jN ?_)|(apply yW;apply kU;(case hx=>rfl);(case hT=>rfl);(case he=>rfl);(case hE=>rfl);(case hz=>rfl);(case hsrc=>(apply xQ;rfl;exact QC (yA fun _=>rfl) Yd));(case hsz=>(first|omega|(simp only [List.length_append,List.length_drop,List.length_take,List.length_map,List.length_cons,List.length_nil];omega)|(simp;omega)));(case hlen=>(first|omega|(simp only [List.length_append,List.length_drop,List.length_take,List.length_map,List.length_cons,List.length_nil];omega)|(simp;omega)));(case hN=>exact nle rfl))|(apply w4;apply vK;(case hx=>rfl);(case hT=>rfl);(case he=>rfl);(case hE=>rfl);(case hn=>rfl);(case hl=>(first|omega|(simp only [List.length_append,List.length_drop,List.length_take,List.length_map,List.length_cons,List.length_nil];omega)|(simp;omega)));(case hz=>rfl);(case hsrc=>(first|(apply xQ;rfl;rfl)|(apply xQ;rfl;exact QC (yA fun _=>rfl) Yd)));(case hsz=>(first|omega|(simp only [List.length_append,List.length_drop,List.length_take,List.length_map,List.length_cons,List.length_nil];omega)|(simp;omega)));(case hlen=>(first|omega|(simp only [List.length_append,List.length_drop,List.length_take,List.length_map,List.length_cons,List.length_nil];omega)|(simp;omega)));(case hmn=>exact Nat.ne_of_beq_eq_false rfl);(case hN=>exact nle rfl))|(apply qj;apply xo (ex':=false) (a:=0) (b:=i) (m:=0);(case hx=>rfl);(case hT=>rfl);(case he=>rfl);(case hE=>rfl);(case ha=>rfl);(case hb=>exact ⟨_,rfl⟩);(case hm=>trivial);(case hab=>(first|omega|(simp;done)|(simp only [List.length_cons,List.length_nil,List.length_map];omega)|(simp;omega)));(case hbl=>(first|omega|(simp;done)|(simp only [List.length_cons,List.length_nil,List.length_map];omega)|(simp;omega)));(case hrk=>exact hrk);(case hex=>exact nofun);(case hN=>exact nle rfl))|(apply qj;apply xo (ex':=false) (a:=i) (b:=(h.fols.map Fol.row).length) (m:=0);(case hx=>rfl);(case hT=>rfl);(case he=>rfl);(case hE=>rfl);(case ha=>exact ⟨_,rfl⟩);(case hb=>rfl);(case hm=>trivial);(case hab=>(first|omega|(simp;done)|(simp only [List.length_cons,List.length_nil,List.length_map];omega)|(simp;omega)));(case hbl=>(first|omega|(simp;done)|(simp only [List.length_cons,List.length_nil,List.length_map];omega)|(simp;omega)));(case hrk=>exact hrk);(case hex=>exact nofun);(case hN=>exact nle rfl)))|((first|refine qb ?_ ?_|refine qc ?_ ?_|refine xsC ?_ ?_);all_goals (intro hc;have hp:=hc;try simp at hp;try (exfalso;omega)))|refine qp ?_ ?_)
  all_goals try (exfalso;first|omega|contradiction|simp_all;done)
  all_goals ((refine yu (rs:=[.cell 4 28,.cell 5 46]) ?_;(repeat' (first|((apply qd7;(case hn=>rfl);(case hr=>exact (YV h.fols i r.folder hi rfl rfl rfl rfl rfl).1);(case hl=>exact (YV h.fols i r.folder hi rfl rfl rfl rfl rfl).2)))|exact qL|apply qk|exact qB rfl|exact yi|exact vS|apply jT|apply yl|apply jQ|apply yo|apply jY|apply yq|refine vY ?_|apply y0));all_goals trace_state))
 ·clear hgo
  repeat' (first|refine qe ?_|(first|(refine jN ?_)|(apply yW;apply kU;(case hx=>rfl);(case hT=>rfl);(case he=>rfl);(case hE=>rfl);(case hz=>rfl);(case hsrc=>(apply xQ;rfl;exact QC (yA fun _=>rfl) Yd));(case hsz=>(first|omega|(simp only [List.length_append,List.length_drop,List.length_take,List.length_map,List.length_cons,List.length_nil];omega)|(simp;omega)));(case hlen=>(first|omega|(simp only [List.length_append,List.length_drop,List.length_take,List.length_map,List.length_cons,List.length_nil];omega)|(simp;omega)));(case hN=>exact nle rfl))|(apply w4;apply vK;(case hx=>rfl);(case hT=>rfl);(case he=>rfl);(case hE=>rfl);(case hn=>rfl);(case hl=>(first|omega|(simp only [List.length_append,List.length_drop,List.length_take,List.length_map,List.length_cons,List.length_nil];omega)|(simp;omega)));(case hz=>rfl);(case hsrc=>(first|(apply xQ;rfl;rfl)|(apply xQ;rfl;exact QC (yA fun _=>rfl) Yd)));(case hsz=>(first|omega|(simp only [List.length_append,List.length_drop,List.length_take,List.length_map,List.length_cons,List.length_nil];omega)|(simp;omega)));(case hlen=>(first|omega|(simp only [List.length_append,List.length_drop,List.length_take,List.length_map,List.length_cons,List.length_nil];omega)|(simp;omega)));(case hmn=>exact Nat.ne_of_beq_eq_false rfl);(case hN=>exact nle rfl))|(apply qj;apply xo (ex':=false) (a:=0) (b:=i) (m:=0);(case hx=>rfl);(case hT=>rfl);(case he=>rfl);(case hE=>rfl);(case ha=>rfl);(case hb=>exact ⟨_,rfl⟩);(case hm=>trivial);(case hab=>(first|omega|(simp;done)|(simp only [List.length_cons,List.length_nil,List.length_map];omega)|(simp;omega)));(case hbl=>(first|omega|(simp;done)|(simp only [List.length_cons,List.length_nil,List.length_map];omega)|(simp;omega)));(case hrk=>exact hrk);(case hex=>exact nofun);(case hN=>exact nle rfl))|(apply qj;apply xo (ex':=false) (a:=i) (b:=(h.fols.map Fol.row).length) (m:=0);(case hx=>rfl);(case hT=>rfl);(case he=>rfl);(case hE=>rfl);(case ha=>exact ⟨_,rfl⟩);(case hb=>rfl);(case hm=>trivial);(case hab=>(first|omega|(simp;done)|(simp only [List.length_cons,List.length_nil,List.length_map];omega)|(simp;omega)));(case hbl=>(first|omega|(simp;done)|(simp only [List.length_cons,List.length_nil,List.length_map];omega)|(simp;omega)));(case hrk=>exact hrk);(case hex=>exact nofun);(case hN=>exact nle rfl)))|((first|refine qb ?_ ?_|refine qc ?_ ?_|refine xsC ?_ ?_);all_goals (intro hc;have hp:=hc;try simp at hp;try (exfalso;omega)))|refine qp ?_ ?_)
  all_goals try (exfalso;first|omega|contradiction|simp_all;done)
  all_goals ((refine yu (rs:=[.cell 4 28,.cell 5 46]) ?_;(repeat' (first|((apply qd7;(case hn=>rfl);(case hr=>exact (YV h.fols i r.folder hi rfl rfl rfl rfl rfl).1);(case hl=>exact (YV h.fols i r.folder hi rfl rfl rfl rfl rfl).2)))|exact qL|apply qk|exact qB rfl|exact yi|exact vS|apply jT|apply yl|apply jQ|apply yo|apply jY|apply yq|refine vY ?_|apply y0));all_goals trace_state))
end Go.Proofs.YtiljlcgmcmjcoaaGreatDoor
set_option linter.unusedSimpArgs false
set_option linter.unnecessarySimpa false
set_option linter.unusedVariables false
set_option maxHeartbeats 1000000
namespace Go.Proofs.YtiljlcgmcmjcoaaGreatDoor
open Go.Ab Go.RowKit
set_option maxRecDepth 10000
attribute [local irreducible] Awp ye ji qQ Red qF Go.Ab.Fin qo Rz xx qG qO ResOk jK je jX qW
theorem qhx {h:Nat → HB} {n k len:Nat} {l:List Fol} {s:Fol} {rows:List (List AV)} (hn:h n = .own false 4 rows) (hr:rows = (l.map Fol.row).set k s.row) (hl:len = (l.map Fol.row).length):Rz h (.os n 0 len) (w6 (l.set k s)):=by
 subst hr;subst hl
 refine Yo hn (by simp) ?_
 rw [List.drop_zero,List.take_of_length_le (by simp)]
 show qG h _ ((l.set k s).map Fol.row)
 rw [List.map_set]
 exact x6 (by rw [← List.map_set];exact jq fun _=>rfl)
theorem qdL (h:Hub) (hl:h.fols.length ≤ 8) (k:Nat) (hk:k < h.fols.length) (j:Jou):jO C.P 56 [xy h,.v (.int .i64 (k:Int)),.agg j.row] (xy { h with fols:=h.fols.set k ⟨h.fols[k].name,j⟩ }):=by
 have hrow:=qx (f:=Fol.row) hk
 have hmf:(h.fols.map Fol.row).length = h.fols.length:=List.length_map ..
 refine qa Tryz.func56 rfl _ Tryz.ntmps56 (Nat.le_of_ble_eq_true rfl) _ Tryz.results56 0 rfl rfl ?_
 repeat' (first|refine qe ?_|(first|(refine jN ?_)|(refine vL ?_)|(refine vV ?_))|((first|refine xsC ?_ ?_);all_goals (intro hc;have hp:=hc;try simp at hp;try (exfalso;omega)))|refine qp ?_ ?_)
 (refine yu (rs:=[.cell 6 28]) ?_;(repeat' (first|((apply qhx;(case hn=>rfl);(case hr=>rfl);(case hl=>rfl)))|exact qL|apply qk|exact qB rfl|exact yi|exact vS|apply jT|apply yl|apply jQ|apply yo|apply jY|apply yq|refine vY ?_|apply y0));all_goals trace_state)
set_option maxHeartbeats 1000000 in
theorem qiB (h:Hub) (hb:HBig h) (hr:HRight h) (r:Rqt) (rb:RBig r) (hk:r.kind = 1 ∨ r.kind = 7) (hn:ql r.who = true) (h2:jx h.gras r.folder r.who < 2):jO C.P 19 [xy h,ki r] (zl (h,Qy 9)):=by
 have hnm:=xA r.who (kc rb.who)
 rw [hn] at hnm
 have hri:=vd h.gras r.folder r.who hr.lens.2
 have hfa:=vC h (by have:=hr.lens.1;omega) r.folder
 generalize jx h.gras r.folder r.who = RG at *
 generalize j0 (atF r.folder) h.fols = FA at *
 have k1:¬ r.kind < 1:=by omega
 have k8:¬ 8 < r.kind:=by omega
 have k0:¬ r.kind = 8 ∧ ¬ r.kind = 3 ∧ ¬ r.kind = 2 ∧ ¬ r.kind = 4 ∧ ¬ r.kind = 5 ∧ ¬ r.kind = 6:=by omega
 have hbd:=zX h 9
 unfold zl at hbd ⊢
 clear hk
 refine qa Tryz.func19 rfl _ Tryz.ntmps19 (Nat.le_of_ble_eq_true rfl) _ Tryz.results19 0 rfl rfl ?_
 (repeat apply jg);apply qw;(repeat' (first|apply qT|refine xi ?_|refine xe ?_|refine xl ?_|refine xN ?_|refine xj ?_|refine vm ?_|refine xb ?_|refine vb ?_|refine vl ?_|refine zb ?_|refine vZ ?_|refine vX ?_|refine xX ?_|refine xn ?_|refine yG ?_|(first|fail)|refine yg ?_|refine j6 ?_|refine j4 ?_|refine jF ?_|refine jG ?_|refine yL ?_|refine yK ?_|refine j7 ?_|refine j8 ?_|((first|refine qb ?_ ?_|refine qc ?_ ?_);all_goals (intro hc;have hp:=hc;try simp at hp;try (exfalso;omega)))));show Awp _ _ _ _ _
 refine xV 2 0 ?_
 refine xV 3 1 ?_
 repeat' (first|refine qe ?_|(first|(refine vf Tryz.func46 (hbd ..) ?_)|refine xsF Tryz.func25 (hnm ..) ?_|refine xsF Tryz.func47 (hri ..) ?_|refine xsF Tryz.func27 (hfa ..) ?_)|((first|refine qb ?_ ?_|refine qc ?_ ?_|refine xsC ?_ ?_);all_goals (intro hc;have hp:=hc;try simp at hp;try (exfalso;omega)))|refine qp ?_ ?_)
 all_goals try (exfalso;first|omega|contradiction|simp_all;done)
 all_goals ((exact j1 (rs:=[.cell 4 28,.cell 5 46])))
set_option maxHeartbeats 1000000 in
theorem qe1 (h:Hub) (hb:HBig h) (hr:HRight h) (r:Rqt) (rb:RBig r) (hk:r.kind = 1) (hn:ql r.who = true) (h2:¬ jx h.gras r.folder r.who < 2):jO C.P 19 [xy h,ki r] (zl (XB h r h.ups r.chs)):=by
 have hnm:=xA r.who (kc rb.who)
 rw [hn] at hnm
 have hri:=vd h.gras r.folder r.who hr.lens.2
 have hfa:=vC h (by have:=hr.lens.1;omega) r.folder
 obtain ⟨k,hkl,e1,e2,e3,e4,e5⟩:=qai hr (f:=r.folder) (w:=r.who) (by omega)
 have hset:=fun j=>WW hr.rise hkl e3 j
 rw [e1] at hfa
 have hcm:=ZF h.fols[k].jou r.key r.chs (hb.fols.each _ (List.getElem_mem hkl)).jou rb.chs e5 rb.key
 have hwj:=fun j=>qdL h hr.len k hkl j
 have hrow:=qx (f:=Fol.row) hkl
 have hrow2:(h.fols.map Fol.row)[((k:Nat):Int).toNat]? = some h.fols[k].row:=hrow
 unfold XB
 rw [e4]
 dsimp only
 generalize jx h.gras r.folder r.who = RG at *
 generalize xU h.fols[k].jou r.key r.chs = P at *
 obtain ⟨j,n,e⟩:=P
 have hwj:=hwj j
 rw [e3, ← hset j] at hwj
 dsimp only at *
 generalize QQ h.fols r.folder j = F at *
 unfold qcS at hcm
 dsimp only at hcm
 have k1:¬ r.kind < 1:=by omega
 have k8:¬ 8 < r.kind:=by omega
 clear e1 e2 e3 e4 e5 hset
 by_cases he:e = 0
 ·subst he
  rw [if_pos rfl]
  unfold zl
  refine qa Tryz.func19 rfl _ Tryz.ntmps19 (Nat.le_of_ble_eq_true rfl) _ Tryz.results19 0 rfl rfl ?_
  (repeat apply jg);apply qw;(repeat' (first|apply qT|refine xi ?_|refine xe ?_|refine xl ?_|refine xN ?_|refine xj ?_|refine vm ?_|refine xb ?_|refine vb ?_|refine vl ?_|refine zb ?_|refine vZ ?_|refine vX ?_|refine xX ?_|refine xn ?_|refine yG ?_|(first|fail)|refine yg ?_|refine j6 ?_|refine j4 ?_|refine jF ?_|refine jG ?_|refine yL ?_|refine yK ?_|refine j7 ?_|refine j8 ?_|((first|refine qb ?_ ?_|refine qc ?_ ?_);all_goals (intro hc;have hp:=hc;try simp at hp;try (exfalso;omega)))));show Awp _ _ _ _ _
  refine xV 3 1 ?_
  repeat' (first|refine qe ?_|(first|refine xsF Tryz.func25 (hnm ..) ?_|refine xsF Tryz.func47 (hri ..) ?_|refine xsF Tryz.func27 (hfa ..) ?_|refine xsQ Tryz.func55 (hcm ..) ?_|refine xsQ Tryz.func56 (hwj ..) ?_)|((first|refine qb ?_ ?_|refine qc ?_ ?_|refine xsC ?_ ?_);all_goals (intro hc;have hp:=hc;try simp at hp;try (exfalso;omega)))|refine qp ?_ ?_)
  all_goals try (exfalso;first|omega|contradiction|simp_all;done)
  all_goals ((exact j1 (rs:=[.cell 4 28,.cell 5 46])))
 ·rw [if_neg he]
  have hbd:=zX h e
  unfold zl at hbd ⊢
  refine qa Tryz.func19 rfl _ Tryz.ntmps19 (Nat.le_of_ble_eq_true rfl) _ Tryz.results19 0 rfl rfl ?_
  (repeat apply jg);apply qw;(repeat' (first|apply qT|refine xi ?_|refine xe ?_|refine xl ?_|refine xN ?_|refine xj ?_|refine vm ?_|refine xb ?_|refine vb ?_|refine vl ?_|refine zb ?_|refine vZ ?_|refine vX ?_|refine xX ?_|refine xn ?_|refine yG ?_|(first|fail)|refine yg ?_|refine j6 ?_|refine j4 ?_|refine jF ?_|refine jG ?_|refine yL ?_|refine yK ?_|refine j7 ?_|refine j8 ?_|((first|refine qb ?_ ?_|refine qc ?_ ?_);all_goals (intro hc;have hp:=hc;try simp at hp;try (exfalso;omega)))));show Awp _ _ _ _ _
  refine xV 2 0 ?_
  refine xV 3 1 ?_
  repeat' (first|refine qe ?_|(first|(refine vf Tryz.func46 (hbd ..) ?_)|refine xsF Tryz.func25 (hnm ..) ?_|refine xsF Tryz.func47 (hri ..) ?_|refine xsF Tryz.func27 (hfa ..) ?_|refine xsQ Tryz.func55 (hcm ..) ?_)|((first|refine qb ?_ ?_|refine qc ?_ ?_|refine xsC ?_ ?_);all_goals (intro hc;have hp:=hc;try simp at hp;try (exfalso;omega)))|refine qp ?_ ?_)
  all_goals try (exfalso;first|omega|contradiction|simp_all;done)
  all_goals ((exact j1 (rs:=[.cell 4 28,.cell 5 46])))
set_option maxHeartbeats 8000000 in
theorem qe8 (h:Hub) (hb:HBig h) (hr:HRight h) (r:Rqt) (rb:RBig r) (hk:r.kind = 7) (hn:ql r.who = true) (h2:¬ jx h.gras r.folder r.who < 2):jO C.P 19 [xy h,ki r] (zl (qbD h r)):=by
 have hnm:=xA r.who (kc rb.who)
 rw [hn] at hnm
 have hri:=vd h.gras r.folder r.who hr.lens.2
 have hfa:=vC h (by have:=hr.lens.1;omega) r.folder
 obtain ⟨k,hkl,e1,e2,e3,e4,e5⟩:=qai hr (f:=r.folder) (w:=r.who) (by omega)
 have hset:=fun j=>WW hr.rise hkl e3 j
 rw [e1] at hfa
 have hfi:=qgo h.ups hb.ups r.who rb.who r.number h.now
 have hx:(zq h.ups r.who r.number h.now).2.1.length ≤ 1000:=by
  unfold zq
  by_cases q1:jA h.ups r.who r.number h.now = 0
  ·rw [if_pos q1]
   have:=kj q1
   split
   ·simp
   ·show (mineS h.ups r.who r.number h.now).text.length ≤ 1000
    omega
  ·rw [if_neg q1];simp
 unfold qbD
 generalize zq h.ups r.who r.number h.now = Q at *
 obtain ⟨u,t,f⟩:=Q
 dsimp only at *
 unfold JJ at hfi
 have hcb:CBig [⟨2,r.name,[],t,r.base⟩]:=⟨fun c hc=>by rw [List.mem_singleton.1 hc];exact ⟨rb.name,by simp,by show t.length ≤ _;omega⟩,by simp⟩
 have hcm:=ZF h.fols[k].jou r.key [⟨2,r.name,[],t,r.base⟩] (hb.fols.each _ (List.getElem_mem hkl)).jou hcb e5 rb.key
 have hwj:=fun j=>qdL h hr.len k hkl j
 have hrow:=qx (f:=Fol.row) hkl
 have hrow2:(h.fols.map Fol.row)[((k:Nat):Int).toNat]? = some h.fols[k].row:=hrow
 unfold XB
 rw [e4]
 dsimp only
 generalize jx h.gras r.folder r.who = RG at *
 generalize xU h.fols[k].jou r.key [⟨2,r.name,[],t,r.base⟩] = P at *
 obtain ⟨j,n,e⟩:=P
 have hwj:=hwj j
 rw [e3, ← hset j] at hwj
 dsimp only at *
 generalize QQ h.fols r.folder j = F at *
 unfold qcS at hcm
 dsimp only at hcm
 have k1:¬ r.kind < 1:=by omega
 have k8:¬ 8 < r.kind:=by omega
 clear e1 e2 e3 e4 e5 hset
 by_cases hf0:f = 0
 case neg =>
  rw [if_neg hf0]
  have hbd:=zX h f
  unfold zl at hbd ⊢
  refine qa Tryz.func19 rfl _ Tryz.ntmps19 (Nat.le_of_ble_eq_true rfl) _ Tryz.results19 0 rfl rfl ?_
  (repeat apply jg);apply qw;(repeat' (first|apply qT|refine xi ?_|refine xe ?_|refine xl ?_|refine xN ?_|refine xj ?_|refine vm ?_|refine xb ?_|refine vb ?_|refine vl ?_|refine zb ?_|refine vZ ?_|refine vX ?_|refine xX ?_|refine xn ?_|refine yG ?_|(first|fail)|refine yg ?_|refine j6 ?_|refine j4 ?_|refine jF ?_|refine jG ?_|refine yL ?_|refine yK ?_|refine j7 ?_|refine j8 ?_|((first|refine qb ?_ ?_|refine qc ?_ ?_);all_goals (intro hc;have hp:=hc;try simp at hp;try (exfalso;omega)))));show Awp _ _ _ _ _
  refine xV 2 0 ?_
  refine xV 3 1 ?_
  repeat' (first|refine qe ?_|(first|(refine vf Tryz.func46 (hbd ..) ?_)|refine xsF Tryz.func25 (hnm ..) ?_|refine xsF Tryz.func47 (hri ..) ?_|refine xsF Tryz.func27 (hfa ..) ?_|refine xsQ Tryz.func54 (hfi ..) ?_)|((first|refine qb ?_ ?_|refine qc ?_ ?_|refine xsC ?_ ?_);all_goals (intro hc;have hp:=hc;try simp at hp;try (exfalso;omega)))|refine qp ?_ ?_)
  all_goals try (exfalso;first|omega|contradiction|simp_all;done)
  all_goals ((exact j1 (rs:=[.cell 4 28,.cell 5 46])))
 subst hf0
 rw [if_pos rfl]
 by_cases he:e = 0
 ·subst he
  rw [if_pos rfl]
  unfold zl
  refine qa Tryz.func19 rfl _ Tryz.ntmps19 (Nat.le_of_ble_eq_true rfl) _ Tryz.results19 0 rfl rfl ?_
  (repeat apply jg);apply qw;(repeat' (first|apply qT|refine xi ?_|refine xe ?_|refine xl ?_|refine xN ?_|refine xj ?_|refine vm ?_|refine xb ?_|refine vb ?_|refine vl ?_|refine zb ?_|refine vZ ?_|refine vX ?_|refine xX ?_|refine xn ?_|refine yG ?_|(first|fail)|refine yg ?_|refine j6 ?_|refine j4 ?_|refine jF ?_|refine jG ?_|refine yL ?_|refine yK ?_|refine j7 ?_|refine j8 ?_|((first|refine qb ?_ ?_|refine qc ?_ ?_);all_goals (intro hc;have hp:=hc;try simp at hp;try (exfalso;omega)))));show Awp _ _ _ _ _
  refine xV 3 1 ?_
  repeat' (first|refine qe ?_|(first|(refine jN ?_)|refine xsF Tryz.func25 (hnm ..) ?_|refine xsF Tryz.func47 (hri ..) ?_|refine xsF Tryz.func27 (hfa ..) ?_|refine xsQ Tryz.func54 (hfi ..) ?_|refine xsQ Tryz.func55 (hcm ..) ?_|refine xsQ Tryz.func56 (hwj ..) ?_)|((first|refine qb ?_ ?_|refine qc ?_ ?_|refine xsC ?_ ?_);all_goals (intro hc;have hp:=hc;try simp at hp;try (exfalso;omega)))|refine qp ?_ ?_)
  all_goals try (exfalso;first|omega|contradiction|simp_all;done)
  all_goals ((exact j1 (rs:=[.cell 4 28,.cell 5 46])))
 ·rw [if_neg he]
  have hbd:=zX h e
  unfold zl at hbd ⊢
  refine qa Tryz.func19 rfl _ Tryz.ntmps19 (Nat.le_of_ble_eq_true rfl) _ Tryz.results19 0 rfl rfl ?_
  (repeat apply jg);apply qw;(repeat' (first|apply qT|refine xi ?_|refine xe ?_|refine xl ?_|refine xN ?_|refine xj ?_|refine vm ?_|refine xb ?_|refine vb ?_|refine vl ?_|refine zb ?_|refine vZ ?_|refine vX ?_|refine xX ?_|refine xn ?_|refine yG ?_|(first|fail)|refine yg ?_|refine j6 ?_|refine j4 ?_|refine jF ?_|refine jG ?_|refine yL ?_|refine yK ?_|refine j7 ?_|refine j8 ?_|((first|refine qb ?_ ?_|refine qc ?_ ?_);all_goals (intro hc;have hp:=hc;try simp at hp;try (exfalso;omega)))));show Awp _ _ _ _ _
  refine xV 2 0 ?_
  refine xV 3 1 ?_
  repeat' (first|refine qe ?_|(first|(refine jN ?_)|(refine vf Tryz.func46 (hbd ..) ?_)|refine xsF Tryz.func25 (hnm ..) ?_|refine xsF Tryz.func47 (hri ..) ?_|refine xsF Tryz.func27 (hfa ..) ?_|refine xsQ Tryz.func54 (hfi ..) ?_|refine xsQ Tryz.func55 (hcm ..) ?_)|((first|refine qb ?_ ?_|refine qc ?_ ?_|refine xsC ?_ ?_);all_goals (intro hc;have hp:=hc;try simp at hp;try (exfalso;omega)))|refine qp ?_ ?_)
  all_goals try (exfalso;first|omega|contradiction|simp_all;done)
  all_goals ((exact j1 (rs:=[.cell 4 28,.cell 5 46])))
theorem qeE (h:Hub) (hb:HBig h) (hr:HRight h) (r:Rqt) (rb:RBig r):jO C.P 19 [xy h,ki r] (zl (vG h r)):=by
 unfold vG
 by_cases hk:1 ≤ r.kind ∧ r.kind ≤ 8
 case neg=>rw [if_pos hk];exact qh7 h r hk
 rw [if_neg (fun q=>q hk)]
 cases hn:ql r.who with
 | false=>rw [if_pos rfl];exact qhK h r rb hk hn
 | true =>
   rw [if_neg (by decide)]
   by_cases k8:r.kind = 8
   ·rw [if_pos k8];exact qfk h hb hr r rb k8 hn
   rw [if_neg k8]
   by_cases k3:r.kind = 3
   ·rw [if_pos k3];exact qho h hb hr r rb k3 hn
   rw [if_neg k3]
   by_cases k2:r.kind = 2
   ·rw [if_pos k2];exact qhg h hb hr r rb k2 hn
   rw [if_neg k2]
   by_cases k4:r.kind = 4
   ·rw [if_pos k4];exact qh8 h hb hr r rb k4 hn
   rw [if_neg k4]
   by_cases k5:r.kind = 5
   ·rw [if_pos k5];exact qe5 h hb hr r rb k5 hn
   rw [if_neg k5]
   by_cases k6:r.kind = 6
   ·rw [if_pos k6];exact qgl h hb hr r rb k6 hn
   rw [if_neg k6]
   unfold Z3
   by_cases h2:jx h.gras r.folder r.who < 2
   ·rw [if_pos h2];exact qiB h hb hr r rb (by omega) hn h2
   rw [if_neg h2]
   by_cases k7:r.kind = 7
   ·rw [if_pos k7];exact qe8 h hb hr r rb k7 hn h2
   ·rw [if_neg k7];exact qe1 h hb hr r rb (by omega) hn h2
end Go.Proofs.YtiljlcgmcmjcoaaGreatDoor
set_option linter.unusedSimpArgs false
set_option linter.unnecessarySimpa false
set_option linter.unusedVariables false
set_option maxHeartbeats 1000000
namespace Go.Proofs.YtiljlcgmcmjcoaaGreatDoor
open Go.Ab Go.RowKit
set_option maxRecDepth 10000
attribute [local irreducible] Awp ye ji qQ Red qF Go.Ab.Fin qo Rz xx qG qO ResOk jK je jX qW
theorem qbJ (h:Hub) (hb:HBig h) (r:Rqt) (rb:RBig r):jO C.P 5 [xy h,ki r] (.v (.bool true)):=by
 have hg:=qci
 have h1:=qhf h hb r rb
 have h2:=qa3 h hb
 unfold Zw at h1
 by_cases h0:xR h = 0
 case neg =>
  rw [if_neg h0] at h1
  unfold VT at h1
  have hs:=Wc qa1 qfm (by decide) (by decide)
  have ha:=K3 Xh yN
  generalize xR h = E at *
  have d0:decide (E = E) = true:=by simp
  refine qa Tryz.func5 rfl _ Tryz.ntmps5 (Nat.le_of_ble_eq_true rfl) _ Tryz.results5 0 rfl rfl ?_
  repeat' (first|refine qe ?_|(first|refine xsF Tryz.func14 (hg ..) ?_|refine xsQ Tryz.func18 (h1 ..) ?_|refine xsF Tryz.func17 (h2 ..) ?_|refine xsF Tryz.func15 (hs ..) ?_|refine xsF Tryz.func20 (ha ..) ?_)|((first|refine qb ?_ ?_|refine qc ?_ ?_|refine xsC ?_ ?_);all_goals (intro hc;have hp:=hc;try simp at hp;try (exfalso;omega)))|refine qp ?_ ?_)
  all_goals try (exfalso;first|omega|contradiction|simp_all;done)
  all_goals (apply jd;rfl;first|rfl|simp;done)
 rw [if_pos h0] at h1
 rw [h0] at h2
 have hr:=zV.1 h0
 have hS:=(Js hr r).right
 have hB:=Vf hb hr rb
 have hP:=qhV hb hr r
 have h3:=qeE h hb hr r rb
 generalize vG h r = P at *
 obtain ⟨x,a⟩:=P
 dsimp only at *
 have hs:=Wc x hB hS.lens.1 hS.lens.2
 have ha:=K3 a hP
 unfold VT at h1
 unfold zl at h3
 clear hS hB hP hr h0 hb rb
 refine qa Tryz.func5 rfl _ Tryz.ntmps5 (Nat.le_of_ble_eq_true rfl) _ Tryz.results5 0 rfl rfl ?_
 repeat' (first|refine qe ?_|(first|refine xsF Tryz.func14 (hg ..) ?_|refine xsQ Tryz.func18 (h1 ..) ?_|refine xsF Tryz.func17 (h2 ..) ?_|refine xsQ Tryz.func19 (h3 ..) ?_|refine xsF Tryz.func15 (hs ..) ?_|refine xsF Tryz.func20 (ha ..) ?_)|((first|refine qb ?_ ?_|refine qc ?_ ?_|refine xsC ?_ ?_);all_goals (intro hc;have hp:=hc;try simp at hp;try (exfalso;omega)))|refine qp ?_ ?_)
 all_goals try (exfalso;first|omega|contradiction|simp_all;done)
 all_goals (apply jd;rfl;first|rfl|simp;done)
theorem VV (ys:List AV) (h:qac C.tab 1000000000 [28,40] ys):jO C.P 5 ys (.v (.bool true)):=by
 obtain ⟨_,_,rfl,h0,_,_,rfl,h1,rfl⟩:=h
 obtain ⟨a,rfl,ha⟩:=qhN h0
 obtain ⟨b,rfl,hb⟩:=qhp h1
 exact qbJ a ha b hb
end Go.Proofs.YtiljlcgmcmjcoaaGreatDoor
