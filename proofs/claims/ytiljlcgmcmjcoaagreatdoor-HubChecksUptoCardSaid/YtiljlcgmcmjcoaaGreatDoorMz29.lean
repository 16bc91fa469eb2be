import Derived.Test.YtiljlcgmcmjcoaaGreatDoorMz27
import Derived.Test.YtiljlcgmcmjcoaaGreatDoorMz28
import Derived.Test.YtiljlcgmcmjcoaaGreatDoorMz24
import Derived.Test.YtiljlcgmcmjcoaaGreatDoorMz2
import Derived.Test.YtiljlcgmcmjcoaaGreatDoorMz10
set_option linter.unusedSimpArgs false
set_option linter.unnecessarySimpa false
set_option linter.unusedVariables false
set_option maxHeartbeats 1000000
namespace Go.Proofs.YtiljlcgmcmjcoaaGreatDoor
open Go.Ab Go.RowKit
set_option maxRecDepth 10000
attribute [local irreducible] Awp jV q9 qJ Red qy Go.Ab.Fin ql Rz yQ qA qG ResOk jC q6 jH qT
theorem Zh {n : Nat} (h : n ≤ 1000000000) : n ≤ 9223372036854775807 := Nat.le_trans h (by decide)
theorem qgx (u : Upl) (hu : UBig u) (who : qB) (hw : who.length ≤ 1000000000) (size now : Int) : jY C.P 86 [vn u, .v (str who), .v (.int .i64 size), .v (.int .i64 now)] (wW (QB u who size now).1 (QB u who size now).2.1 (QB u who size now).2.2) := by
  have h := qep u hu who (Zh hw) size now
  unfold Y3 at h
  unfold QB
  by_cases h0 : yH u who size now = 0
  · rw [if_pos h0] at h ⊢; exact h
  · rw [if_neg h0] at h ⊢; exact h
theorem Jh {u : Upl} {who : qB} {number now : Int} (h : yb u who number now = 0) : (zC u who number now).text.length ≤ 300 := by
  obtain ⟨m1, _, _, m4, _⟩ := wY h
  have hs := (zO (Xq m1).1).2.2.1 _ (w6 (List.mem_of_getElem? m4))
  have h2 := xZ hs
  unfold j7 at hs
  split at hs
  · split at hs
    · split at hs
      · omega
      · omega
    · omega
  · omega
theorem qeD (u : Upl) (hu : UBig u) (who : qB) (hw : who.length ≤ 1000000000) (number offset : Int) (text : qB) (ht : text.length ≤ 1000000000) (now : Int) :
    jY C.P 87 [vn u, .v (str who), .v (.int .i64 number), .v (.int .i64 offset), .v (str text), .v (.int .i64 now)] (wW (Qz u who number offset text now).1 (Qz u who number offset text now).2.1 (Qz u who number offset text now).2.2) := by
  unfold Qz
  by_cases h0 : yb u who number now = 0
  · rw [if_pos h0]
    obtain ⟨m1, m2, m3, m4, m5⟩ := wY h0
    have h := qab u hu who (Zh hw) number now m1 m2 _ m3 _ m4 (by have := Jh h0; omega) offset text (jN ht)
    unfold Xs at h
    unfold qgr
    by_cases h1 : Jw (zC u who number now) offset text = 0
    · rw [if_pos h1] at h ⊢; exact h
    · rw [if_neg h1] at h ⊢; exact h
  · rw [if_neg h0]
    exact KH u hu who (Zh hw) number now h0 offset text
theorem qfz (u : Upl) (hu : UBig u) (who : qB) (hw : who.length ≤ 1000000000) (number now : Int) :
    jY C.P 88 [vn u, .v (str who), .v (.int .i64 number), .v (.int .i64 now)] (.tup [.v (.int .i64 (Zm u who number now).1), .v (.int .i64 (Zm u who number now).2)]) := by
  unfold Zm
  by_cases h0 : yb u who number now = 0
  · rw [if_pos h0]
    obtain ⟨m1, m2, m3, m4, m5⟩ := wY h0
    exact qaS u hu who (Zh hw) number now m1 m2 _ m3 _ m4 (by have := Jh h0; omega)
  · rw [if_neg h0]
    exact Wr u hu who (Zh hw) number now h0
theorem qaw (u : Upl) (hu : UBig u) (who : qB) (hw : who.length ≤ 1000000000) (number now : Int) :
    jY C.P 128 [vn u, .v (str who), .v (.int .i64 number), .v (.int .i64 now)] (Y4 (zy u who number now).1 (zy u who number now).2.1 (zy u who number now).2.2) := by
  unfold zy
  by_cases h0 : yb u who number now = 0
  · rw [if_pos h0]
    obtain ⟨m1, m2, m3, m4, m5⟩ := wY h0
    have h := qav u hu who (Zh hw) number now m1 m2 _ m3 _ m4
    unfold ZL at h
    by_cases h1 : (zC u who number now).text.length < (zC u who number now).size
    · rw [if_pos h1] at h ⊢; exact h
    · rw [if_neg h1] at h ⊢; exact h
  · rw [if_neg h0]
    exact Kg u hu who (Zh hw) number now h0
theorem qgv (l : List Gra) (hl : GBig l) (f b w : qB) (r : Int) (hf : f.length ≤ 1000000000) (hb : b.length ≤ 1000000000) (hw : w.length ≤ 1000000000) :
    jY C.P 61 [jD l, .v (str f), .v (str b), .v (str w), .v (.int .i64 r)] (.tup [jD (zo l f b w r).1, .v (.int .i64 (zo l f b w r).2)]) := by
  unfold zo
  by_cases h0 : jO l f b w r = 0
  · rw [if_pos h0]; exact qgV l hl f b w r (jN hf) (jN hb) (jN hw) h0
  · rw [if_neg h0]; exact qbI l hl f b w r (jN hf) (jN hb) (jN hw) h0
theorem qer (l : List Gra) (hl : GBig l) (f w : qB) (hf : f.length ≤ 1000000000) (hw : w.length ≤ 1000000000) :
    jY C.P 60 [jD l, .v (str f), .v (str w)] (.tup [jD (if j1 l f w = 0 then xz l f w 3 else []), .v (.int .i64 (j1 l f w))]) := by
  by_cases h0 : j1 l f w = 0
  · rw [if_pos h0, h0]; exact qgA l hl f w (jN hf) (jN hw) h0
  · rw [if_neg h0]; exact qbU l hl f w (jN hf) (jN hw) h0
section call0
variable {C : Cx} {N : Nat} {all : Array Oper} {es : List Eff} {os : List Oper} {K : List Eff → St → Prop} {ts : List (Nat × AV)} {hs : List (Nat × HB)} {nx : Nat} {gd : List Nat}
theorem yN {f : FuncId} {args : List Operand} {tys : Array TypeId} {d : Nat} {ty : TypeId} {pos : String} {af : Array Edge} {gg : Option (Nat × Bool)} {ys : List AV} {H H' : List HB} {r : AV} (ns : List Nat) (Z : List (Nat × HB)) (r' : AV) (hf : IsFn C.P f) (hc : ql C.P f ys H r H')
    (hz : qT (wk 0 ns) ns (q7 hs) (args.map (evA (qp ts))) ys) (hg : Xv (wk 0 ns) (q7 hs) ns H) (hb : Xy (KZ (wk 0 (Z.map (·.1)))) Z H')
    (k : jV C N all (⟨gd ++ (yf (.func f) ++ args.flatMap yf), ns, some d, r', Z, []⟩ :: es) ⟨(d, r') :: ts, Z ++ hs, nx⟩ os K)
    (hr : r.ren (KZ (wk 0 (Z.map (·.1)))) = r' := by rfl) (hns : (Z.map (·.1)).take H.length = ns := by rfl) (hfr : (Z.map (·.1)).drop H.length = [] := by rfl) (hHZ : H.length ≤ Z.length := by exact Nat.le_of_ble_eq_true rfl) (hnd : (Z.map (·.1)).Nodup := by exact of_decide_eq_true rfl)
    (hN : d < N := by exact nle rfl) : Xt C N all gd es ⟨ts, hs, nx⟩ f args d tys ty pos af gg os K :=
  KW ns [] Z nx r' hf hc hz hg hb k hr hns hfr hHZ hnd rfl (fun n hn => by cases hn) (Nat.le_refl _) hN
end call0
noncomputable def C2h : Cx := { C with nh := 2 }
def xy (n : Nat) (h : Hub) (r : Rqt) : List AV := [.os n 0 h.fols.length, jD h.gras, .sl false (h.ups.sess.map Sess.row), .v (.int .i64 h.ups.next), .v (.int .i64 h.ups.lasts), .v (.int .i64 h.ups.room), .v (.int .i64 h.now), .v (.int .i64 r.kind), .v (str r.who), .v (str r.folder), .v (str r.name), .v (str r.key), .v (str r.text), .v (.int .i64 r.number), .v (.int .i64 r.offset), .v (.int .i64 r.base), vh r.chs]
def HS (h : Hub) (r : Rqt) : List HB := [.own false 17 [xy 1 h r], .own false 4 (h.fols.map Fol.row)]
theorem yK {L : List (Nat × Nat)} {σ : St} {ex ex' : Bool} {h : Hub} {r : Rqt} {l : List (Nat × HB)} {n : Nat} (hl : xR L 2 σ l) (hn : Maps L 2 n n := by exact jh rfl) (hx : q7 σ.hs 0 = .own ex 17 [xy n h r] := by rfl) (he : ex' = true → ex = true := by first | exact id | exact nofun) : xR L 2 σ ((0, .own ex' 17 [xy n h r]) :: l) :=
  J2 (jh rfl) hx he (kw (qt (q5 hn) (qt (qv rfl) (qt (qv rfl) (qt (qv rfl) (qt (qv rfl) (qt (qv rfl) (qt (qv rfl) (qt (qv rfl) (qt (qv rfl) (qt (qv rfl) (qt (qv rfl) (qt (qv rfl) (qt (qv rfl) (qt (qv rfl) (qt (qv rfl) (qt (qv rfl) (qt (qv rfl) q3))))))))))))))))) wv) hl
theorem qeg (h : Hub) (r : Rqt) (hr : qr jv h.gras = true) (hl : h.gras.length ≤ 1000000) : ql C2h.P 127 [.op 0 0 0] (HS h r) (.v (.int .i64 (jS h.gras r.folder r.who))) (HS h r) := by
  have ho := qd0 h.gras r.folder r.who hl hr
  refine qa (C := C2h) Tryz.func127 rfl _ Tryz.ntmps127 (Nat.le_of_ble_eq_true rfl) _ Tryz.results127 2 rfl rfl ?_
  repeat' (first | refine qe ?_ | (first | refine xsF Tryz.func63 (ho ..) ?_) | ((first | refine qc ?_ ?_ | refine qb ?_ ?_ | refine xsC ?_ ?_); all_goals (intro hc; have hp := hc; try simp at hp; try (exfalso; omega))) | refine qw ?_ ?_)
  (apply je (rs := [.tmp 2]) [] 2; (case hr => (repeat (first | exact qO | (apply qP; rfl) | (apply qE; rfl; rfl; rfl; rfl; rfl)))); (case hL => rfl); (case hh => (repeat' (first | exact qg | refine yK ?_ | refine yF ?_ | refine Q9 ?_ | refine qM ?_ ?_)); all_goals trace_state); (case hi => exact rfl); (case hz => first | rfl | (simp [jw, AV.ren, AV.ren.renL, qU, qp, qS]; done) | (simp [jw, AV.ren, AV.ren.renL, qU, qp, qS, *]; done) | trace_state))
theorem X9 (h : Hub) (r : Rqt) (hr : qr jv h.gras = true) (hl : h.gras.length ≤ 1000000) (k : Int) : ql C2h.P 89 [.op 0 0 0, .v (.int .i64 k)] (HS h r) (.v (.int .i64 (if jS h.gras r.folder r.who < k then 9 else 0))) (HS h r) := by
  have ho := qeg h r hr hl
  generalize jS h.gras r.folder r.who = R at *
  by_cases hk : R < k
  · rw [if_pos hk]
    refine qa (C := C2h) Tryz.func89 rfl _ Tryz.ntmps89 (Nat.le_of_ble_eq_true rfl) _ Tryz.results89 2 rfl rfl ?_
    repeat' (first | refine qe ?_ | (first | (apply qH Tryz.func127 rfl rfl; intro hIsFn; refine yN [0, 1] [(0, .own false 17 [xy 1 h r]), (1, .own false 4 (h.fols.map Fol.row))] (.v (.int .i64 R)) hIsFn (ho) (by ((repeat' (first | exact jJ | apply ju | exact jK rfl | exact yi | (apply qx; apply ja; exact .inr (of_decide_eq_true rfl)) | (apply qx; apply q8; exact .inr (of_decide_eq_true rfl)) | (apply qx; apply q5; exact .inr (of_decide_eq_true rfl)) | apply jW | apply jX))) <;> fail) (by ((repeat' (first | exact jg | exact jd | refine qX _ ?_ ?_ | refine qW ?_ ?_ | exact qI | exact qf (sideM_pure _) | exact qf (jt _) | exact qf (goesM_pure _) | exact qV (fun _ => rfl) | refine qY ?_ | exact q3 | apply qt | exact qv rfl | (apply q8; exact .inr (of_decide_eq_true rfl)) | (apply q5; exact .inr (of_decide_eq_true rfl)) | (apply ja; exact .inr (of_decide_eq_true rfl)) | fail))) <;> fail) (by ((repeat' (first | exact jg | exact jd | refine qX _ ?_ ?_ | refine qW ?_ ?_ | exact qI | exact qf (sideM_pure _) | exact qf (jt _) | exact qf (goesM_pure _) | exact qV (fun _ => rfl) | refine qY ?_ | exact q3 | apply qt | exact qv rfl | (apply q8; exact .inr (of_decide_eq_true rfl)) | (apply q5; exact .inr (of_decide_eq_true rfl)) | (apply ja; exact .inr (of_decide_eq_true rfl)) | skip))) <;> fail) ?_)) | ((first | refine qc ?_ ?_ | refine qb ?_ ?_ | refine xsC ?_ ?_); all_goals (intro hc; have hp := hc; try simp at hp; try (exfalso; omega))) | refine qw ?_ ?_)
    all_goals try (exfalso; omega)
    (apply je (rs := [.tmp 4]) [] 2; (case hr => (repeat (first | exact qO | (apply qP; rfl) | (apply qE; rfl; rfl; rfl; rfl; rfl)))); (case hL => rfl); (case hh => (repeat' (first | exact qg | refine yK ?_ | refine yF ?_ | refine Q9 ?_ | refine qM ?_ ?_)); all_goals trace_state); (case hi => exact rfl); (case hz => first | rfl | (simp [jw, AV.ren, AV.ren.renL, qU, qp, qS]; done) | (simp [jw, AV.ren, AV.ren.renL, qU, qp, qS, *]; done) | trace_state))
  · rw [if_neg hk]
    refine qa (C := C2h) Tryz.func89 rfl _ Tryz.ntmps89 (Nat.le_of_ble_eq_true rfl) _ Tryz.results89 2 rfl rfl ?_
    repeat' (first | refine qe ?_ | (first | (apply qH Tryz.func127 rfl rfl; intro hIsFn; refine yN [0, 1] [(0, .own false 17 [xy 1 h r]), (1, .own false 4 (h.fols.map Fol.row))] (.v (.int .i64 R)) hIsFn (ho) (by ((repeat' (first | exact jJ | apply ju | exact jK rfl | exact yi | (apply qx; apply ja; exact .inr (of_decide_eq_true rfl)) | (apply qx; apply q8; exact .inr (of_decide_eq_true rfl)) | (apply qx; apply q5; exact .inr (of_decide_eq_true rfl)) | apply jW | apply jX))) <;> fail) (by ((repeat' (first | exact jg | exact jd | refine qX _ ?_ ?_ | refine qW ?_ ?_ | exact qI | exact qf (sideM_pure _) | exact qf (jt _) | exact qf (goesM_pure _) | exact qV (fun _ => rfl) | refine qY ?_ | exact q3 | apply qt | exact qv rfl | (apply q8; exact .inr (of_decide_eq_true rfl)) | (apply q5; exact .inr (of_decide_eq_true rfl)) | (apply ja; exact .inr (of_decide_eq_true rfl)) | fail))) <;> fail) (by ((repeat' (first | exact jg | exact jd | refine qX _ ?_ ?_ | refine qW ?_ ?_ | exact qI | exact qf (sideM_pure _) | exact qf (jt _) | exact qf (goesM_pure _) | exact qV (fun _ => rfl) | refine qY ?_ | exact q3 | apply qt | exact qv rfl | (apply q8; exact .inr (of_decide_eq_true rfl)) | (apply q5; exact .inr (of_decide_eq_true rfl)) | (apply ja; exact .inr (of_decide_eq_true rfl)) | skip))) <;> fail) ?_)) | ((first | refine qc ?_ ?_ | refine qb ?_ ?_ | refine xsC ?_ ?_); all_goals (intro hc; have hp := hc; try simp at hp; try (exfalso; omega))) | refine qw ?_ ?_)
    all_goals try (exfalso; omega)
    (apply je (rs := [.tmp 4]) [] 2; (case hr => (repeat (first | exact qO | (apply qP; rfl) | (apply qE; rfl; rfl; rfl; rfl; rfl)))); (case hL => rfl); (case hh => (repeat' (first | exact qg | refine yK ?_ | refine yF ?_ | refine Q9 ?_ | refine qM ?_ ?_)); all_goals trace_state); (case hi => exact rfl); (case hz => first | rfl | (simp [jw, AV.ren, AV.ren.renL, qU, qp, qS]; done) | (simp [jw, AV.ren, AV.ren.renL, qU, qp, qS, *]; done) | trace_state))
end Go.Proofs.YtiljlcgmcmjcoaaGreatDoor
set_option linter.unusedSimpArgs false
set_option linter.unnecessarySimpa false
set_option linter.unusedVariables false
set_option maxHeartbeats 1000000
namespace Go.Proofs.YtiljlcgmcmjcoaaGreatDoor
open Go.Ab Go.RowKit
set_option maxRecDepth 10000
attribute [local irreducible] Awp jV q9 qJ Red qy Go.Ab.Fin ql Rz yQ qA qG ResOk jC q6 jH qT
def zz (n : Int) : List AV := [.v (.int .i64 0), .v (.int .i64 n), .v (.bool false), .sl true [], .sl true [], .v (.int .i64 0), .v (.bool false)]
def xn (x : List AV) (e : Int) : AV := .tup [.agg x, .v (.int .i64 e)]
theorem qdC (h : Hub) (r : Rqt) (hr : HRight h) (hn : jS h.gras r.folder r.who < 1) : ql C2h.P 84 [.op 0 0 0] (HS h r) (xn (zz 0) 9) (HS h r) := by
  obtain ⟨a1, a2, a3, a4⟩ := xF hr.gra
  have hm := X9 h r a3 (by omega) 1
  rw [if_pos hn] at hm
  refine qa (C := C2h) Tryz.func84 rfl _ Tryz.ntmps84 (Nat.le_of_ble_eq_true rfl) _ Tryz.results84 2 rfl rfl ?_
  repeat' (first | refine qe ?_ | (first | (apply qH Tryz.func89 rfl rfl; intro hIsFn; refine yN [0, 1] [(0, .own false 17 [xy 1 h r]), (1, .own false 4 (h.fols.map Fol.row))] (.v (.int .i64 9)) hIsFn (hm) (by ((repeat' (first | exact jJ | apply ju | exact jK rfl | exact yi | (apply qx; apply ja; exact .inr (of_decide_eq_true rfl)) | (apply qx; apply q8; exact .inr (of_decide_eq_true rfl)) | (apply qx; apply q5; exact .inr (of_decide_eq_true rfl)) | apply jW | apply jX))) <;> fail) (by ((repeat' (first | exact jg | exact jd | refine qX _ ?_ ?_ | refine qW ?_ ?_ | exact qI | exact qf (sideM_pure _) | exact qf (jt _) | exact qf (goesM_pure _) | exact qV (fun _ => rfl) | refine qY ?_ | exact q3 | apply qt | exact qv rfl | (apply q8; exact .inr (of_decide_eq_true rfl)) | (apply q5; exact .inr (of_decide_eq_true rfl)) | (apply ja; exact .inr (of_decide_eq_true rfl)) | fail))) <;> fail) (by ((repeat' (first | exact jg | exact jd | refine qX _ ?_ ?_ | refine qW ?_ ?_ | exact qI | exact qf (sideM_pure _) | exact qf (jt _) | exact qf (goesM_pure _) | exact qV (fun _ => rfl) | refine qY ?_ | exact q3 | apply qt | exact qv rfl | (apply q8; exact .inr (of_decide_eq_true rfl)) | (apply q5; exact .inr (of_decide_eq_true rfl)) | (apply ja; exact .inr (of_decide_eq_true rfl)) | skip))) <;> fail) ?_)) | ((first | refine qc ?_ ?_ | refine qb ?_ ?_ | refine xsC ?_ ?_); all_goals (intro hc; have hp := hc; try simp at hp; try (exfalso; omega))) | refine qw ?_ ?_)
  all_goals try (exfalso; omega)
  (apply je (rs := [.cell 2 46, .tmp 3]) [] 2; (case hr => (repeat (first | exact qO | (apply qP; rfl) | (apply qE; rfl; rfl; rfl; rfl; rfl)))); (case hL => rfl); (case hh => (repeat' (first | exact qg | refine yK ?_ | refine yF ?_ | refine Q9 ?_ | refine qM ?_ ?_)); all_goals trace_state); (case hi => exact rfl); (case hz => first | rfl | (simp [jw, AV.ren, AV.ren.renL, qU, qp, qS]; done) | (simp [jw, AV.ren, AV.ren.renL, qU, qp, qS, *]; done) | trace_state))
theorem qgZ (h : Hub) (hb : HBig h) (r : Rqt) (hr : HRight h) (hn : ¬ jS h.gras r.folder r.who < 1) (k : Nat) (hk : k < h.fols.length) (hp : xP h.fols r.folder = k) (hh : xr h.fols r.folder = true) :
    ql C2h.P 84 [.op 0 0 0] (HS h r) (xn ([.v (.int .i64 0), .v (.int .i64 0)] ++ (J8 h.fols[k].jou r.number 10).1.row) (J8 h.fols[k].jou r.number 10).2) (HS h r) := by
  obtain ⟨a1, a2, a3, a4⟩ := xF hr.gra
  have hm := X9 h r a3 (by omega) 1
  rw [if_neg hn] at hm
  have hf := Yy h r.folder (by have := hr.len; omega) hr.rise
  rw [hp, hh] at hf
  have hrd := qgP h.fols[k].jou r.number 10 (hb.fols.each _ (List.getElem_mem _)).jou
  have hrow := qF (f := Fol.row) hk
  have hml : (h.fols.map Fol.row).length = h.fols.length := List.length_map ..
  generalize J8 h.fols[k].jou r.number 10 = P at *
  obtain ⟨p, e⟩ := P
  refine qa (C := C2h) Tryz.func84 rfl _ Tryz.ntmps84 (Nat.le_of_ble_eq_true rfl) _ Tryz.results84 2 rfl rfl ?_
  repeat' (first | refine qe ?_ | (first | (apply qH Tryz.func89 rfl rfl; intro hIsFn; refine yN [0, 1] [(0, .own false 17 [xy 1 h r]), (1, .own false 4 (h.fols.map Fol.row))] (.v (.int .i64 0)) hIsFn (hm) (by ((repeat' (first | exact jJ | apply ju | exact jK rfl | exact yi | (apply qx; apply ja; exact .inr (of_decide_eq_true rfl)) | (apply qx; apply q8; exact .inr (of_decide_eq_true rfl)) | (apply qx; apply q5; exact .inr (of_decide_eq_true rfl)) | apply jW | apply jX))) <;> fail) (by ((repeat' (first | exact jg | exact jd | refine qX _ ?_ ?_ | refine qW ?_ ?_ | exact qI | exact qf (sideM_pure _) | exact qf (jt _) | exact qf (goesM_pure _) | exact qV (fun _ => rfl) | refine qY ?_ | exact q3 | apply qt | exact qv rfl | (apply q8; exact .inr (of_decide_eq_true rfl)) | (apply q5; exact .inr (of_decide_eq_true rfl)) | (apply ja; exact .inr (of_decide_eq_true rfl)) | fail))) <;> fail) (by ((repeat' (first | exact jg | exact jd | refine qX _ ?_ ?_ | refine qW ?_ ?_ | exact qI | exact qf (sideM_pure _) | exact qf (jt _) | exact qf (goesM_pure _) | exact qV (fun _ => rfl) | refine qY ?_ | exact q3 | apply qt | exact qv rfl | (apply q8; exact .inr (of_decide_eq_true rfl)) | (apply q5; exact .inr (of_decide_eq_true rfl)) | (apply ja; exact .inr (of_decide_eq_true rfl)) | skip))) <;> fail) ?_) | (refine vk ?_) | (apply qj; apply yd [1]; exact jG Tryz.func58 rfl rfl; exact hf; (case hz => exact qm (VX rfl) (qm (qQ rfl) qZ)); (case hfl => rfl); (case hN => exact nle rfl)) | refine xsQ Tryz.func124 (hrd ..) ?_) | ((first | refine qc ?_ ?_ | refine qb ?_ ?_ | refine xsC ?_ ?_); all_goals (intro hc; have hp := hc; try simp at hp; try (exfalso; omega))) | refine qw ?_ ?_)
  all_goals try (exfalso; omega)
  (apply je (rs := [.cell 2 46, .tmp 3]) [] 2; (case hr => (repeat (first | exact qO | (apply qP; rfl) | (apply qE; rfl; rfl; rfl; rfl; rfl)))); (case hL => rfl); (case hh => (repeat' (first | exact qg | refine yK ?_ | refine yF ?_ | refine Q9 ?_ | refine qM ?_ ?_)); all_goals trace_state); (case hi => exact rfl); (case hz => first | rfl | (simp [jw, AV.ren, AV.ren.renL, qU, qp, qS]; done) | (simp [jw, AV.ren, AV.ren.renL, qU, qp, qS, *]; done) | trace_state))
def qcf (h : Hub) (r : Rqt) : Hub := if (zo h.gras r.folder r.who r.name r.number).2 = 0 then { h with gras := (zo h.gras r.folder r.who r.name r.number).1 } else h
theorem qcT (h : Hub) (r : Rqt) (hr : HRight h) (hn : jS h.gras r.folder r.who < 1) : ql C2h.P 83 [.op 0 0 0] (HS h r) (xn (zz 0) 9) (HS h r) := by
  obtain ⟨a1, a2, a3, a4⟩ := xF hr.gra
  have hm := X9 h r a3 (by omega) 1
  rw [if_pos hn] at hm
  refine qa (C := C2h) Tryz.func83 rfl _ Tryz.ntmps83 (Nat.le_of_ble_eq_true rfl) _ Tryz.results83 2 rfl rfl ?_
  repeat' (first | refine qe ?_ | (first | (apply qH Tryz.func89 rfl rfl; intro hIsFn; refine yN [0, 1] [(0, .own false 17 [xy 1 h r]), (1, .own false 4 (h.fols.map Fol.row))] (.v (.int .i64 (9))) hIsFn (hm) (by ((repeat' (first | exact jJ | apply ju | exact jK rfl | exact yi | (apply qx; apply ja; exact .inr (of_decide_eq_true rfl)) | (apply qx; apply q8; exact .inr (of_decide_eq_true rfl)) | (apply qx; apply q5; exact .inr (of_decide_eq_true rfl)) | apply jW | apply jX))) <;> fail) (by ((repeat' (first | exact jg | exact jd | refine qX _ ?_ ?_ | refine qW ?_ ?_ | exact qI | exact qf (sideM_pure _) | exact qf (jt _) | exact qf (goesM_pure _) | exact qV (fun _ => rfl) | refine qY ?_ | exact q3 | apply qt | exact qv rfl | (apply q8; exact .inr (of_decide_eq_true rfl)) | (apply q5; exact .inr (of_decide_eq_true rfl)) | (apply ja; exact .inr (of_decide_eq_true rfl)) | fail))) <;> fail) (by ((repeat' (first | exact jg | exact jd | refine qX _ ?_ ?_ | refine qW ?_ ?_ | exact qI | exact qf (sideM_pure _) | exact qf (jt _) | exact qf (goesM_pure _) | exact qV (fun _ => rfl) | refine qY ?_ | exact q3 | apply qt | exact qv rfl | (apply q8; exact .inr (of_decide_eq_true rfl)) | (apply q5; exact .inr (of_decide_eq_true rfl)) | (apply ja; exact .inr (of_decide_eq_true rfl)) | skip))) <;> fail) ?_)) | ((first | refine qc ?_ ?_ | refine qb ?_ ?_ | refine xsC ?_ ?_); all_goals (intro hc; have hp := hc; try simp at hp; try (exfalso; omega))) | refine qw ?_ ?_)
  all_goals try (exfalso; omega)
  (apply je (rs := [.cell 2 46, .tmp 3]) [] 2; (case hr => (repeat (first | exact qO | (apply qP; rfl) | (apply qE; rfl; rfl; rfl; rfl; rfl)))); (case hL => rfl); (case hh => (repeat' (first | exact qg | refine yK ?_ | refine yF ?_ | refine Q9 ?_ | refine qM ?_ ?_)); all_goals trace_state); (case hi => exact rfl); (case hz => first | rfl | (simp [jw, AV.ren, AV.ren.renL, qU, qp, qS]; done) | (simp [jw, AV.ren, AV.ren.renL, qU, qp, qS, *]; done) | trace_state))
theorem qgR (h : Hub) (hb : HBig h) (r : Rqt) (rb : RBig r) (hr : HRight h) (hn : ¬ jS h.gras r.folder r.who < 1) :
    ql C2h.P 83 [.op 0 0 0] (HS h r) (xn (zz 0) (zo h.gras r.folder r.who r.name r.number).2) (HS (qcf h r) r) := by
  obtain ⟨a1, a2, a3, a4⟩ := xF hr.gra
  have hm := X9 h r a3 (by omega) 1
  rw [if_neg hn] at hm
  have hg := qgv h.gras hb.gras r.folder r.who r.name r.number rb.folder rb.who rb.name
  unfold qcf
  generalize zo h.gras r.folder r.who r.name r.number = P at *
  obtain ⟨L, e⟩ := P
  dsimp only at *
  by_cases h0 : e = 0
  · rw [if_pos h0]
    subst h0
    refine qa (C := C2h) Tryz.func83 rfl _ Tryz.ntmps83 (Nat.le_of_ble_eq_true rfl) _ Tryz.results83 2 rfl rfl ?_
    repeat' (first | refine qe ?_ | (first | (apply qH Tryz.func89 rfl rfl; intro hIsFn; refine yN [0, 1] [(0, .own false 17 [xy 1 h r]), (1, .own false 4 (h.fols.map Fol.row))] (.v (.int .i64 (0))) hIsFn (hm) (by ((repeat' (first | exact jJ | apply ju | exact jK rfl | exact yi | (apply qx; apply ja; exact .inr (of_decide_eq_true rfl)) | (apply qx; apply q8; exact .inr (of_decide_eq_true rfl)) | (apply qx; apply q5; exact .inr (of_decide_eq_true rfl)) | apply jW | apply jX))) <;> fail) (by ((repeat' (first | exact jg | exact jd | refine qX _ ?_ ?_ | refine qW ?_ ?_ | exact qI | exact qf (sideM_pure _) | exact qf (jt _) | exact qf (goesM_pure _) | exact qV (fun _ => rfl) | refine qY ?_ | exact q3 | apply qt | exact qv rfl | (apply q8; exact .inr (of_decide_eq_true rfl)) | (apply q5; exact .inr (of_decide_eq_true rfl)) | (apply ja; exact .inr (of_decide_eq_true rfl)) | fail))) <;> fail) (by ((repeat' (first | exact jg | exact jd | refine qX _ ?_ ?_ | refine qW ?_ ?_ | exact qI | exact qf (sideM_pure _) | exact qf (jt _) | exact qf (goesM_pure _) | exact qV (fun _ => rfl) | refine qY ?_ | exact q3 | apply qt | exact qv rfl | (apply q8; exact .inr (of_decide_eq_true rfl)) | (apply q5; exact .inr (of_decide_eq_true rfl)) | (apply ja; exact .inr (of_decide_eq_true rfl)) | skip))) <;> fail) ?_) | refine xsQ Tryz.func61 (hg ..) ?_) | ((first | refine qc ?_ ?_ | refine qb ?_ ?_ | refine xsC ?_ ?_); all_goals (intro hc; have hp := hc; try simp at hp; try (exfalso; omega))) | refine qw ?_ ?_)
    all_goals try (exfalso; omega)
    (apply je (rs := [.cell 2 46, .tmp 3]) [] 2; (case hr => (repeat (first | exact qO | (apply qP; rfl) | (apply qE; rfl; rfl; rfl; rfl; rfl)))); (case hL => rfl); (case hh => (repeat' (first | exact qg | refine yK ?_ | refine yF ?_ | refine Q9 ?_ | refine qM ?_ ?_)); all_goals rfl); (case hi => exact rfl); (case hz => first | rfl | (simp [jw, AV.ren, AV.ren.renL, qU, qp, qS]; done) | (simp [jw, AV.ren, AV.ren.renL, qU, qp, qS, *]; done) | trace_state))
  · rw [if_neg h0]
    refine qa (C := C2h) Tryz.func83 rfl _ Tryz.ntmps83 (Nat.le_of_ble_eq_true rfl) _ Tryz.results83 2 rfl rfl ?_
    repeat' (first | refine qe ?_ | (first | (apply qH Tryz.func89 rfl rfl; intro hIsFn; refine yN [0, 1] [(0, .own false 17 [xy 1 h r]), (1, .own false 4 (h.fols.map Fol.row))] (.v (.int .i64 (0))) hIsFn (hm) (by ((repeat' (first | exact jJ | apply ju | exact jK rfl | exact yi | (apply qx; apply ja; exact .inr (of_decide_eq_true rfl)) | (apply qx; apply q8; exact .inr (of_decide_eq_true rfl)) | (apply qx; apply q5; exact .inr (of_decide_eq_true rfl)) | apply jW | apply jX))) <;> fail) (by ((repeat' (first | exact jg | exact jd | refine qX _ ?_ ?_ | refine qW ?_ ?_ | exact qI | exact qf (sideM_pure _) | exact qf (jt _) | exact qf (goesM_pure _) | exact qV (fun _ => rfl) | refine qY ?_ | exact q3 | apply qt | exact qv rfl | (apply q8; exact .inr (of_decide_eq_true rfl)) | (apply q5; exact .inr (of_decide_eq_true rfl)) | (apply ja; exact .inr (of_decide_eq_true rfl)) | fail))) <;> fail) (by ((repeat' (first | exact jg | exact jd | refine qX _ ?_ ?_ | refine qW ?_ ?_ | exact qI | exact qf (sideM_pure _) | exact qf (jt _) | exact qf (goesM_pure _) | exact qV (fun _ => rfl) | refine qY ?_ | exact q3 | apply qt | exact qv rfl | (apply q8; exact .inr (of_decide_eq_true rfl)) | (apply q5; exact .inr (of_decide_eq_true rfl)) | (apply ja; exact .inr (of_decide_eq_true rfl)) | skip))) <;> fail) ?_) | refine xsQ Tryz.func61 (hg ..) ?_) | ((first | refine qc ?_ ?_ | refine qb ?_ ?_ | refine xsC ?_ ?_); all_goals (intro hc; have hp := hc; try simp at hp; try (exfalso; omega))) | refine qw ?_ ?_)
    all_goals try (exfalso; omega)
    (apply je (rs := [.cell 2 46, .tmp 3]) [] 2; (case hr => (repeat (first | exact qO | (apply qP; rfl) | (apply qE; rfl; rfl; rfl; rfl; rfl)))); (case hL => rfl); (case hh => (repeat' (first | exact qg | refine yK ?_ | refine yF ?_ | refine Q9 ?_ | refine qM ?_ ?_)); all_goals rfl); (case hi => exact rfl); (case hz => first | rfl | (simp [jw, AV.ren, AV.ren.renL, qU, qp, qS]; done) | (simp [jw, AV.ren, AV.ren.renL, qU, qp, qS, *]; done) | trace_state))
theorem ZN (h : Hub) (r : Rqt) (u : Upl) (n e : Int) :
    ql C2h.P 85 [.op 0 0 0, vn u, .v (.int .i64 n), .v (.int .i64 e)] (HS h r) (xn (zz n) e) (HS (if e = 0 then { h with ups := u } else h) r) := by
  by_cases h0 : e = 0
  · rw [if_pos h0]
    subst h0
    refine qa (C := C2h) Tryz.func85 rfl _ Tryz.ntmps85 (Nat.le_of_ble_eq_true rfl) _ Tryz.results85 2 rfl rfl ?_
    repeat' (first | refine qe ?_ | (first | fail) | ((first | refine qc ?_ ?_ | refine qb ?_ ?_ | refine xsC ?_ ?_); all_goals (intro hc; have hp := hc; try simp at hp; try (exfalso; omega))) | refine qw ?_ ?_)
    all_goals try (exfalso; omega)
    (apply je (rs := [.cell 8 46, .tmp 9]) [] 2; (case hr => (repeat (first | exact qO | (apply qP; rfl) | (apply qE; rfl; rfl; rfl; rfl; rfl)))); (case hL => rfl); (case hh => (repeat' (first | exact qg | refine yK ?_ | refine yF ?_ | refine Q9 ?_ | refine qM ?_ ?_)); all_goals rfl); (case hi => exact rfl); (case hz => first | rfl | (simp [jw, AV.ren, AV.ren.renL, qU, qp, qS]; done) | (simp [jw, AV.ren, AV.ren.renL, qU, qp, qS, *]; done) | trace_state))
  · rw [if_neg h0]
    refine qa (C := C2h) Tryz.func85 rfl _ Tryz.ntmps85 (Nat.le_of_ble_eq_true rfl) _ Tryz.results85 2 rfl rfl ?_
    repeat' (first | refine qe ?_ | (first | fail) | ((first | refine qc ?_ ?_ | refine qb ?_ ?_ | refine xsC ?_ ?_); all_goals (intro hc; have hp := hc; try simp at hp; try (exfalso; omega))) | refine qw ?_ ?_)
    all_goals try (exfalso; omega)
    (apply je (rs := [.cell 8 46, .tmp 9]) [] 2; (case hr => (repeat (first | exact qO | (apply qP; rfl) | (apply qE; rfl; rfl; rfl; rfl; rfl)))); (case hL => rfl); (case hh => (repeat' (first | exact qg | refine yK ?_ | refine yF ?_ | refine Q9 ?_ | refine qM ?_ ?_)); all_goals rfl); (case hi => exact rfl); (case hz => first | rfl | (simp [jw, AV.ren, AV.ren.renL, qU, qp, qS]; done) | (simp [jw, AV.ren, AV.ren.renL, qU, qp, qS, *]; done) | trace_state))
def qdv (h : Hub) (k : Nat) (j : Jou) (r : Rqt) (l : List Chg) : Hub := if (yO j r.key l).2.2 = 0 then { h with fols := h.fols.set k ⟨r.folder, (yO j r.key l).1⟩ } else h
theorem WP (h : Hub) (hb : HBig h) (r : Rqt) (rb : RBig r) (hr : HRight h) (l : List Chg) (lb : CBig l) (k : Nat) (hk : k < h.fols.length) (hp : xP h.fols r.folder = k) (hh : xr h.fols r.folder = true) (hkn : h.fols[k].name = r.folder) :
    ql C2h.P 91 [.op 0 0 0, vh l] (HS h r) (xn (zz (yO h.fols[k].jou r.key l).2.1) (yO h.fols[k].jou r.key l).2.2) (HS (qdv h k h.fols[k].jou r l) r) := by
  have hf := Yy h r.folder (by have := hr.len; omega) hr.rise
  rw [hp, hh] at hf
  have hrd := qeR h.fols[k].jou r.key l (hb.fols.each _ (List.getElem_mem _)).jou lb
  have hrow : (h.fols.map Fol.row)[k]? = some (Fol.row ⟨r.folder, h.fols[k].jou⟩) := by rw [qF (f := Fol.row) hk, ← hkn]
  have hml : (h.fols.map Fol.row).length = h.fols.length := List.length_map ..
  unfold qdv
  generalize yO h.fols[k].jou r.key l = P at *
  obtain ⟨j', n, e⟩ := P
  dsimp only at *
  have hset : (h.fols.map Fol.row).set k (Fol.row ⟨r.folder, j'⟩) = (h.fols.set k ⟨r.folder, j'⟩).map Fol.row := List.map_set.symm
  by_cases h0 : e = 0
  · rw [if_pos h0]
    subst h0
    have hlen : (h.fols.set k ⟨r.folder, j'⟩).length = h.fols.length := List.length_set ..
    show ql C2h.P _ _ _ _ [.own false 17 [xy 1 { h with fols := h.fols.set k ⟨r.folder, j'⟩ } r], .own false 4 ((h.fols.set k ⟨r.folder, j'⟩).map Fol.row)]
    rw [show xy 1 { h with fols := h.fols.set k ⟨r.folder, j'⟩ } r = xy 1 h r from by unfold xy; dsimp only; rw [hlen], ← hset]
    have hpu : ∀ row, row ∈ (h.fols.map Fol.row).set k (Fol.row ⟨r.folder, j'⟩) → AV.pure.pureL row = true := by rw [hset]; exact js fun _ => rfl
    clear hset
    refine qa (C := C2h) Tryz.func91 rfl _ Tryz.ntmps91 (Nat.le_of_ble_eq_true rfl) _ Tryz.results91 2 rfl rfl ?_
    repeat' (first | refine qe ?_ | (first | (refine vk ?_) | (apply qj; apply yd [1]; exact jG Tryz.func58 rfl rfl; exact hf; (case hz => exact qm (VX rfl) (qm (qQ rfl) qZ)); (case hfl => rfl); (case hN => exact nle rfl)) | refine xsQ Tryz.func129 (hrd ..) ?_) | ((first | refine qc ?_ ?_ | refine qb ?_ ?_ | refine xsC ?_ ?_); all_goals (intro hc; have hp := hc; try simp at hp; try (exfalso; omega))) | refine qw ?_ ?_)
    all_goals try (exfalso; omega)
    (apply je (rs := [.cell 4 46, .tmp 5]) [] 2; (case hr => (repeat (first | exact qO | (apply qP; rfl) | (apply qE; rfl; rfl; rfl; rfl; rfl)))); (case hL => rfl); (case hh => (repeat' (first | exact qg | refine yK ?_ | refine yF ?_ | refine Q9 ?_ | refine qM ?_ ?_)); all_goals rfl); (case hi => exact rfl); (case hz => first | rfl | (simp [jw, AV.ren, AV.ren.renL, qU, qp, qS]; done) | (simp [jw, AV.ren, AV.ren.renL, qU, qp, qS, *]; done) | trace_state))
  · rw [if_neg h0]
    refine qa (C := C2h) Tryz.func91 rfl _ Tryz.ntmps91 (Nat.le_of_ble_eq_true rfl) _ Tryz.results91 2 rfl rfl ?_
    repeat' (first | refine qe ?_ | (first | (refine vk ?_) | (apply qj; apply yd [1]; exact jG Tryz.func58 rfl rfl; exact hf; (case hz => exact qm (VX rfl) (qm (qQ rfl) qZ)); (case hfl => rfl); (case hN => exact nle rfl)) | refine xsQ Tryz.func129 (hrd ..) ?_) | ((first | refine qc ?_ ?_ | refine qb ?_ ?_ | refine xsC ?_ ?_); all_goals (intro hc; have hp := hc; try simp at hp; try (exfalso; omega))) | refine qw ?_ ?_)
    all_goals try (exfalso; omega)
    (apply je (rs := [.cell 4 46, .tmp 5]) [] 2; (case hr => (repeat (first | exact qO | (apply qP; rfl) | (apply qE; rfl; rfl; rfl; rfl; rfl)))); (case hL => rfl); (case hh => (repeat' (first | exact qg | refine yK ?_ | refine yF ?_ | refine Q9 ?_ | refine qM ?_ ?_)); all_goals rfl); (case hi => exact rfl); (case hz => first | rfl | (simp [jw, AV.ren, AV.ren.renL, qU, qp, qS]; done) | (simp [jw, AV.ren, AV.ren.renL, qU, qp, qS, *]; done) | trace_state))
def qgQ (h : Hub) (k : Nat) (j : Jou) (r : Rqt) (u : Upl) (x : qB) : Hub := if (yO j r.key [⟨2, r.name, [], x, r.base⟩]).2.2 = 0 then { qdv h k j r [⟨2, r.name, [], x, r.base⟩] with ups := u } else h
theorem WG (h : Hub) (hb : HBig h) (r : Rqt) (rb : RBig r) (he : ¬ (zy h.ups r.who r.number h.now).2.2 = 0) : ql C2h.P 90 [.op 0 0 0] (HS h r) (xn (zz 0) (zy h.ups r.who r.number h.now).2.2) (HS h r) := by
  have hf := qaw h.ups hb.ups r.who rb.who r.number h.now
  generalize zy h.ups r.who r.number h.now = P at *
  obtain ⟨u, x, e⟩ := P
  dsimp only at *
  refine qa (C := C2h) Tryz.func90 rfl _ Tryz.ntmps90 (Nat.le_of_ble_eq_true rfl) _ Tryz.results90 2 rfl rfl ?_
  repeat' (first | refine qe ?_ | (first | refine xsQ Tryz.func128 (hf ..) ?_) | ((first | refine qc ?_ ?_ | refine qb ?_ ?_ | refine xsC ?_ ?_); all_goals (intro hc; have hp := hc; try simp at hp; try (exfalso; omega))) | refine qw ?_ ?_)
  all_goals try (exfalso; omega)
  (apply je (rs := [.cell 2 46, .tmp 3]) [] 2; (case hr => (repeat (first | exact qO | (apply qP; rfl) | (apply qE; rfl; rfl; rfl; rfl; rfl)))); (case hL => rfl); (case hh => (repeat' (first | exact qg | refine yK ?_ | refine yF ?_ | refine Q9 ?_ | refine qM ?_ ?_)); all_goals rfl); (case hi => exact rfl); (case hz => first | rfl | (simp [jw, AV.ren, AV.ren.renL, qU, qp, qS]; done) | (simp [jw, AV.ren, AV.ren.renL, qU, qp, qS, *]; done) | trace_state))
theorem qfd (h : Hub) (hb : HBig h) (r : Rqt) (rb : RBig r) (hr : HRight h) (he : (zy h.ups r.who r.number h.now).2.2 = 0) (hx : (zy h.ups r.who r.number h.now).2.1.length ≤ 1000) (k : Nat) (hk : k < h.fols.length) (hp : xP h.fols r.folder = k) (hh : xr h.fols r.folder = true) (hkn : h.fols[k].name = r.folder) :
    ql C2h.P 90 [.op 0 0 0] (HS h r) (xn (zz (yO h.fols[k].jou r.key [⟨2, r.name, [], (zy h.ups r.who r.number h.now).2.1, r.base⟩]).2.1) (yO h.fols[k].jou r.key [⟨2, r.name, [], (zy h.ups r.who r.number h.now).2.1, r.base⟩]).2.2)
      (HS (qgQ h k h.fols[k].jou r (zy h.ups r.who r.number h.now).1 (zy h.ups r.who r.number h.now).2.1) r) := by
  have hf := qaw h.ups hb.ups r.who rb.who r.number h.now
  generalize zy h.ups r.who r.number h.now = P at *
  obtain ⟨u, x, e⟩ := P
  dsimp only at *
  subst he
  have hc := WP h hb r rb hr [⟨2, r.name, [], x, r.base⟩] ⟨fun c hc => by rw [List.mem_singleton.1 hc]; exact ⟨rb.name, by simp, by show x.length ≤ _; omega⟩, by simp⟩ k hk hp hh hkn
  unfold qgQ
  unfold qdv at hc ⊢
  generalize yO h.fols[k].jou r.key [⟨2, r.name, [], x, r.base⟩] = Q at *
  obtain ⟨j', n, e⟩ := Q
  dsimp only at *
  by_cases h0 : e = 0
  · subst h0
    rw [if_pos rfl] at hc ⊢
    rw [if_pos rfl]
    have hlen : (h.fols.set k ⟨r.folder, j'⟩).length = h.fols.length := List.length_set ..
    have hs1 : xy 1 { h with fols := h.fols.set k ⟨r.folder, j'⟩ } r = xy 1 h r := by unfold xy; dsimp only; rw [hlen]
    have hs2 : xy 1 { h with fols := h.fols.set k ⟨r.folder, j'⟩, ups := u } r = xy 1 { h with ups := u } r := by unfold xy; dsimp only; rw [hlen]
    have hc : ql C2h.P 91 [.op 0 0 0, vh [⟨2, r.name, [], x, r.base⟩]] (HS h r) (xn (zz n) 0) [.own false 17 [xy 1 h r], .own false 4 ((h.fols.set k ⟨r.folder, j'⟩).map Fol.row)] := by rw [← hs1]; exact hc
    show ql C2h.P _ _ _ _ [.own false 17 [xy 1 { h with fols := h.fols.set k ⟨r.folder, j'⟩, ups := u } r], .own false 4 ((h.fols.set k ⟨r.folder, j'⟩).map Fol.row)]
    rw [hs2]
    generalize h.fols.set k ⟨r.folder, j'⟩ = F' at *
    refine qa (C := C2h) Tryz.func90 rfl _ Tryz.ntmps90 (Nat.le_of_ble_eq_true rfl) _ Tryz.results90 2 rfl rfl ?_
    repeat' (first | refine qe ?_ | (first | refine xsQ Tryz.func128 (hf ..) ?_ | (refine jZ ?_) | (apply qH Tryz.func91 rfl rfl; intro hIsFn; refine yN [0, 1] [(0, .own false 17 [xy 1 h r]), (1, .own false 4 (F'.map Fol.row))] (xn (zz n) 0) hIsFn (hc) (by ((repeat' (first | exact jJ | apply ju | exact jK rfl | exact yi | (apply qx; apply ja; exact .inr (of_decide_eq_true rfl)) | (apply qx; apply q8; exact .inr (of_decide_eq_true rfl)) | (apply qx; apply q5; exact .inr (of_decide_eq_true rfl)) | apply jW | apply jX))) <;> fail) (by ((repeat' (first | exact jg | exact jd | refine qX _ ?_ ?_ | refine qW ?_ ?_ | exact qI | exact qf (sideM_pure _) | exact qf (jt _) | exact qf (goesM_pure _) | exact qV (fun _ => rfl) | refine qY ?_ | exact q3 | apply qt | exact qv rfl | (apply q8; exact .inr (of_decide_eq_true rfl)) | (apply q5; exact .inr (of_decide_eq_true rfl)) | (apply ja; exact .inr (of_decide_eq_true rfl)) | fail))) <;> fail) (by ((repeat' (first | exact jg | exact jd | refine qX _ ?_ ?_ | refine qW ?_ ?_ | exact qI | exact qf (sideM_pure _) | exact qf (jt _) | exact qf (goesM_pure _) | exact qV (fun _ => rfl) | refine qY ?_ | exact q3 | apply qt | exact qv rfl | (apply q8; exact .inr (of_decide_eq_true rfl)) | (apply q5; exact .inr (of_decide_eq_true rfl)) | (apply ja; exact .inr (of_decide_eq_true rfl)) | skip))) <;> fail) ?_)) | ((first | refine qc ?_ ?_ | refine qb ?_ ?_ | refine xsC ?_ ?_); all_goals (intro hc; have hp := hc; try simp at hp; try (exfalso; omega))) | refine qw ?_ ?_)
    all_goals try (exfalso; omega)
    (apply je (rs := [.cell 2 46, .tmp 3]) [] 2; (case hr => (repeat (first | exact qO | (apply qP; rfl) | (apply qE; rfl; rfl; rfl; rfl; rfl)))); (case hL => rfl); (case hh => (repeat' (first | exact qg | refine yK ?_ | refine yF ?_ | refine Q9 ?_ | refine qM ?_ ?_)); all_goals rfl); (case hi => exact rfl); (case hz => first | rfl | (simp [jw, AV.ren, AV.ren.renL, qU, qp, qS]; done) | (simp [jw, AV.ren, AV.ren.renL, qU, qp, qS, *]; done) | trace_state))
  · rw [if_neg h0] at hc ⊢
    refine qa (C := C2h) Tryz.func90 rfl _ Tryz.ntmps90 (Nat.le_of_ble_eq_true rfl) _ Tryz.results90 2 rfl rfl ?_
    repeat' (first | refine qe ?_ | (first | refine xsQ Tryz.func128 (hf ..) ?_ | (refine jZ ?_) | (apply qH Tryz.func91 rfl rfl; intro hIsFn; refine yN [0, 1] [(0, .own false 17 [xy 1 h r]), (1, .own false 4 (h.fols.map Fol.row))] (xn (zz n) e) hIsFn (hc) (by ((repeat' (first | exact jJ | apply ju | exact jK rfl | exact yi | (apply qx; apply ja; exact .inr (of_decide_eq_true rfl)) | (apply qx; apply q8; exact .inr (of_decide_eq_true rfl)) | (apply qx; apply q5; exact .inr (of_decide_eq_true rfl)) | apply jW | apply jX))) <;> fail) (by ((repeat' (first | exact jg | exact jd | refine qX _ ?_ ?_ | refine qW ?_ ?_ | exact qI | exact qf (sideM_pure _) | exact qf (jt _) | exact qf (goesM_pure _) | exact qV (fun _ => rfl) | refine qY ?_ | exact q3 | apply qt | exact qv rfl | (apply q8; exact .inr (of_decide_eq_true rfl)) | (apply q5; exact .inr (of_decide_eq_true rfl)) | (apply ja; exact .inr (of_decide_eq_true rfl)) | fail))) <;> fail) (by ((repeat' (first | exact jg | exact jd | refine qX _ ?_ ?_ | refine qW ?_ ?_ | exact qI | exact qf (sideM_pure _) | exact qf (jt _) | exact qf (goesM_pure _) | exact qV (fun _ => rfl) | refine qY ?_ | exact q3 | apply qt | exact qv rfl | (apply q8; exact .inr (of_decide_eq_true rfl)) | (apply q5; exact .inr (of_decide_eq_true rfl)) | (apply ja; exact .inr (of_decide_eq_true rfl)) | skip))) <;> fail) ?_)) | ((first | refine qc ?_ ?_ | refine qb ?_ ?_ | refine xsC ?_ ?_); all_goals (intro hc; have hp := hc; try simp at hp; try (exfalso; omega))) | refine qw ?_ ?_)
    all_goals try (exfalso; omega)
    (apply je (rs := [.cell 2 46, .tmp 3]) [] 2; (case hr => (repeat (first | exact qO | (apply qP; rfl) | (apply qE; rfl; rfl; rfl; rfl; rfl)))); (case hL => rfl); (case hh => (repeat' (first | exact qg | refine yK ?_ | refine yF ?_ | refine Q9 ?_ | refine qM ?_ ?_)); all_goals rfl); (case hi => exact rfl); (case hz => first | rfl | (simp [jw, AV.ren, AV.ren.renL, qU, qp, qS]; done) | (simp [jw, AV.ren, AV.ren.renL, qU, qp, qS, *]; done) | trace_state))
end Go.Proofs.YtiljlcgmcmjcoaaGreatDoor
set_option linter.unusedSimpArgs false
set_option linter.unnecessarySimpa false
set_option linter.unusedVariables false
set_option maxHeartbeats 1000000
namespace Go.Proofs.YtiljlcgmcmjcoaaGreatDoor
open Go.Ab Go.RowKit
set_option maxRecDepth 10000
theorem VL {h : Nat → HB} {a a' b b' : List (List AV)} (h1 : qA h a a') (h2 : qA h b b') : qA h (a ++ b) (a' ++ b') := by
  obtain ⟨l1, p1⟩ := h1
  obtain ⟨l2, p2⟩ := h2
  refine ⟨by simp [l1, l2], fun i row row' hr hr' => ?_⟩
  by_cases hi : i < a.length
  · rw [List.getElem?_append_left hi] at hr
    rw [List.getElem?_append_left (by omega)] at hr'
    exact p1 i row row' hr hr'
  · rw [List.getElem?_append_right (by omega)] at hr
    rw [List.getElem?_append_right (by omega)] at hr'
    rw [l1] at hr
    exact p2 _ row row' hr hr'
attribute [local irreducible] Awp jV q9 qJ Red qy Go.Ab.Fin ql Rz yQ qA qG ResOk jC q6 jH qT
def Vu (f : qB) : List AV := [.v (str f), .sl true [], .v (.int .i64 1), .sl true []]
theorem qaG (l : List Fol) (g : qB) (hl : l.length ≤ 1000000) :
    ql C1.P 123 [.os 0 0 l.length, .v (.int .i64 l.length), .sl false [Vu g]] [.own false 4 (l.map Fol.row)] (.os 1 0 (l.length + 1)) [.dead, .own false 4 (l.map Fol.row ++ [Vu g])] := by
  have hpu : ∀ row, row ∈ l.map Fol.row ++ [Vu g] → AV.pure.pureL row = true := fun row hr => by
    rcases List.mem_append.1 hr with hr | hr
    · obtain ⟨x, _, rfl⟩ := List.mem_map.1 hr; rfl
    · rw [List.mem_singleton.1 hr]; rfl
  refine qa (C := C1) Tryz.func123 rfl _ Tryz.ntmps123 (Nat.le_of_ble_eq_true rfl) _ Tryz.results123 1 rfl rfl ?_
  repeat' (first | refine qe ?_ | (first | (refine Q7 ?_) | (refine xw ?_)) | ((first | refine qc ?_ ?_ | refine qb ?_ ?_ | refine xsC ?_ ?_); all_goals (intro hc; have hp := hc; try simp at hp; try (exfalso; omega))) | refine qw ?_ ?_)
  (refine w8 (rs := [.tmp 6]) [(1, 1)] 2 ?_; (apply j4 0; exact jh rfl; (repeat (first | exact qg | refine jQ ?_ | refine qM ?_ ?_))); all_goals trace_state)
theorem qby (l : List Fol) (g : qB) (i : Nat) (hi : i < l.length) (hl : l.length ≤ 1000000) :
    ql C1.P 123 [.os 0 0 l.length, .v (.int .i64 (i : Int)), .sl false [Vu g]] [.own false 4 (l.map Fol.row)] (.os 1 0 (l.length + 1)) [.dead, .own false 4 ((l.take i).map Fol.row ++ ([Vu g] ++ (l.drop i).map Fol.row))] := by
  have hpu : ∀ row, row ∈ (l.take i).map Fol.row ++ ([Vu g] ++ (l.drop i).map Fol.row) → AV.pure.pureL row = true := fun row hr => by
    rcases List.mem_append.1 hr with hr | hr
    · obtain ⟨x, _, rfl⟩ := List.mem_map.1 hr; rfl
    · rcases List.mem_append.1 hr with hr | hr
      · rw [List.mem_singleton.1 hr]; rfl
      · obtain ⟨x, _, rfl⟩ := List.mem_map.1 hr; rfl
  refine qa (C := C1) Tryz.func123 rfl _ Tryz.ntmps123 (Nat.le_of_ble_eq_true rfl) _ Tryz.results123 1 rfl rfl ?_
  refine KB 0 4 (l.map Fol.row) rfl fun cap hcap => ?_
  rw [List.length_map] at hcap
  have hRt : (l.map Fol.row ++ xK 4 (cap - (l.map Fol.row).length)).take l.length = l.map Fol.row := by
    rw [List.take_append_of_le_length (by simp), List.take_of_length_le (by simp)]
  have hRl : l.length ≤ (l.map Fol.row ++ xK 4 (cap - (l.map Fol.row).length)).length := by simp
  generalize l.map Fol.row ++ xK 4 (cap - (l.map Fol.row).length) = R at hRt hRl ⊢
  have hcut : (R.drop i).take (l.length - i) = (l.drop i).map Fol.row := by rw [← List.drop_take, hRt, List.map_drop]
  have hti : R.take i = (l.take i).map Fol.row := by rw [List.map_take, ← hRt, List.take_take, Nat.min_eq_left (by omega)]
  have hck : ∀ row, row ∈ (l.drop i).map Fol.row → row.length = 4 := fun row hr => by obtain ⟨x, _, rfl⟩ := List.mem_map.1 hr; rfl
  have hcl : ∀ row, row ∈ (l.drop i).map Fol.row → row.all jP = true := fun row hr => by obtain ⟨x, _, rfl⟩ := List.mem_map.1 hr; rfl
  repeat' (first | refine qe ?_ | (first | (refine Q7 ?_) | (apply qj; apply Xa; (case hx => rfl); (case hn => rfl); (case hT => rfl); (case he => rfl); (case hN => exact nle rfl)) | (apply yP; apply kK; (case hx => rfl); (case hT => rfl); (case he => rfl); (case hE => rfl); (case hn => rfl); (case hl => (first | omega | (simp; done) | (simp only [List.length_cons, List.length_nil, List.length_map]; omega) | (simp; omega))); (case hy => exact congrArg (fun z => AV.v (Value.int IntKind.i64 z)) (show ((l.length + 1 : Nat) : Int) - (i : Int) = ((l.length + 1 - i : Nat) : Int) from by omega)); (case hxT => rfl); (case hxk => rfl); (case hz => rfl); (case hs0 => exact Nat.ne_of_beq_eq_false rfl); (case hg => omega); (case hsz => (first | omega | (simp; done) | (simp only [List.length_cons, List.length_nil, List.length_map]; omega) | (simp; omega))); (case hlen => (first | omega | (simp; done) | (simp only [List.length_cons, List.length_nil, List.length_map]; omega) | (simp; omega))); (case hN => exact nle rfl)) | (apply qj; apply QK; exact Tryz.func150; (case hname => rfl); (case hb => rfl); (case hnx => rfl); (case hex => rfl); (case hT => rfl); (case he => rfl); (case hE => rfl); (case hx => rfl); (case hy => rfl); (case hm => rfl); (case hk => exact Nat.ne_of_beq_eq_false rfl); (case hrw => intro row hrow; rw [List.mem_singleton.1 hrow]; exact Nat.succ_ne_zero _); (case hN => exact nle rfl)) | (apply zt; apply zK; (case hx => rfl); (case hT => rfl); (case he => rfl); (case hE => rfl); (case hn => rfl); (case hsrc => exact K4 (vK rfl rfl)); (case hmin => exact Nat.min_eq_left (by (first | omega | (simp; done) | (simp only [List.length_cons, List.length_nil, List.length_map]; omega) | (simp; omega)))); (case hfit => (first | omega | (simp; done) | (simp only [List.length_cons, List.length_nil, List.length_map]; omega) | (simp; omega))); (case hN => exact nle rfl)) | (apply zt; apply zK; (case hx => rfl); (case hT => rfl); (case he => rfl); (case hE => rfl); (case hn => rfl); (case hsrc => exact V4 (cnt := l.length - i) rfl (List.mem_singleton.2 rfl) rfl (by omega) (by omega) (by first | exact hcut | simpa using hcut) hck hcl); (case hmin => (first | exact (Nat.min_eq_left (by (first | omega | (simp; done) | (simp only [List.length_cons, List.length_nil, List.length_map]; omega) | (simp; omega)))).trans (by (first | omega | (simp; done) | (simp only [List.length_cons, List.length_nil, List.length_map]; omega) | (simp; omega))) | exact (Nat.min_eq_right (by (first | omega | (simp; done) | (simp only [List.length_cons, List.length_nil, List.length_map]; omega) | (simp; omega)))).trans (by (first | omega | (simp; done) | (simp only [List.length_cons, List.length_nil, List.length_map]; omega) | (simp; omega))))); (case hfit => (first | omega | (simp; done) | (simp only [List.length_cons, List.length_nil, List.length_map]; omega) | (simp; omega))); (case hN => exact nle rfl))) | ((first | refine qc ?_ ?_ | refine qb ?_ ?_ | refine xsC ?_ ?_); all_goals (intro hc; have hp := hc; try simp at hp; try (exfalso; omega))) | refine qw ?_ ?_)
  all_goals try (exfalso; omega)
  · have hrow := qco R (xK 4 (l.length + 1 - i)) ((l.drop i).map Fol.row) (Vu g) (i := i) (a := 0 + i) (b := 0 + i + 1) (c := 0 + (i + 1)) (d := 0 + (i + 1) + ((l.drop i).map Fol.row).length) (by omega) (by simp; omega) (by omega) (by omega) (by omega) (by omega)
    (apply je (rs := [.tmp 6]) [(1, 1)] 2; (case hr => (repeat (first | exact qO | (apply qP; rfl) | (apply qE; rfl; rfl; rfl; rfl; rfl)))); (case hL => rfl); (case hh => (apply j4 0; exact jh rfl; (repeat (first | exact qg | refine jQ ?_ | refine qM ?_ ?_))); all_goals (refine hrow.trans ?_; rw [hti])); (case hi => first | exact (rfl : _ = ([] : List (Nat × Nat))) | exact (rfl : _ = [((0 : Nat), (0 : Nat))]) | exact (rfl : _ = [((0 : Nat), (0 : Nat)), (1, 1)])); (case hz => first | rfl | (simp [jw, AV.ren, AV.ren.renL, qU, qp, qS]; done) | (simp [jw, AV.ren, AV.ren.renL, qU, qp, qS, *]; done) | (simp [jw, AV.ren, AV.ren.renL, qU, qp, qS]; omega)))
  · have hrow := qeS R ((l.drop i).map Fol.row) (Vu g) (i := i) (a := 0 + 0 + (i + 1)) (b := 0 + 0 + (i + 1) + ((l.drop i).map Fol.row).length) (c := 0 + 0 + i) (d := 0 + 0 + i + 1) (m := l.length + 1) (by omega) (by omega) (by omega) (by omega) (by simp; omega)
    have hrow := hrow.trans (show _ = (l.take i).map Fol.row ++ ([Vu g] ++ (l.drop i).map Fol.row) from by rw [hti])
    apply wL (C := C1) 6 0 (l.length + 1)
    case hi => rfl
    case hn => rfl
    case hr => exact hrow
    case hnn => exact Nat.ne_of_beq_eq_false rfl
    case hnx => exact Nat.le_of_ble_eq_true rfl
    (apply je (rs := [.tmp 6]) [(1, 1)] 2; (case hr => (repeat (first | exact qO | (apply qP; rfl) | (apply qE; rfl; rfl; rfl; rfl; rfl)))); (case hL => rfl); (case hh => (apply j4 0; exact jh rfl; (repeat (first | exact qg | refine jQ ?_ | refine qM ?_ ?_))); all_goals trace_state); (case hi => first | exact (rfl : _ = ([] : List (Nat × Nat))) | exact (rfl : _ = [((0 : Nat), (0 : Nat))]) | exact (rfl : _ = [((0 : Nat), (0 : Nat)), (1, 1)])); (case hz => first | rfl | (simp [jw, AV.ren, AV.ren.renL, qU, qp, qS]; done) | (simp [jw, AV.ren, AV.ren.renL, qU, qp, qS, *]; done) | (simp [jw, AV.ren, AV.ren.renL, qU, qp, qS]; omega)))
def JU (l : List Fol) (f : qB) : List (List AV) := (l.take (xP l f)).map Fol.row ++ ([Vu f] ++ (l.drop (xP l f)).map Fol.row)
theorem ZI (l : List Fol) (f : qB) : ∀ row, row ∈ JU l f → AV.pure.pureL row = true := fun row hr => by
  unfold JU at hr
  rcases List.mem_append.1 hr with hr | hr
  · obtain ⟨x, _, rfl⟩ := List.mem_map.1 hr; rfl
  · rcases List.mem_append.1 hr with hr | hr
    · rw [List.mem_singleton.1 hr]; rfl
    · obtain ⟨x, _, rfl⟩ := List.mem_map.1 hr; rfl
theorem qel (l : List Fol) (f : qB) (hl : l.length ≤ 1000000) :
    ql C1.P 123 [.os 0 0 l.length, .v (.int .i64 (xP l f)), .sl false [Vu f]] [.own false 4 (l.map Fol.row)] (.os 1 0 (l.length + 1)) [.dead, .own false 4 (JU l f)] := by
  have hp := X3 l f
  unfold JU
  by_cases h : xP l f < l.length
  · exact qby l f _ h hl
  · have he : xP l f = l.length := by omega
    rw [he, List.take_length, List.drop_length]
    exact qaG l f hl
theorem qgY {h : Nat → HB} {n k : Nat} {l : List Fol} {f : qB} (hn : h n = .own false 4 (JU l f)) (hk : k = l.length + 1) : Rz h (.os n 0 k) (wO (JY l f)) := by
  have hp := X3 l f
  have hlen : (JU l f).length = l.length + 1 := by unfold JU; simp; omega
  refine ZV hn (by omega) ?_
  rw [List.drop_zero, hk, ← hlen, List.take_length]
  show qA h _ ((l.take (xP l f) ++ ([(⟨f, Zi⟩ : Fol)] ++ l.drop (xP l f))).map Fol.row)
  rw [List.map_append, List.map_append]
  exact VL (wg fun _ => rfl) (VL (Wo (qm (qQ rfl) (qm yI (qm (qQ rfl) (qm yI qZ)))) qbw) (wg fun _ => rfl))
theorem Qm {L : List (Nat × Nat)} {nh : Nat} : ∀ {cs : List AV}, AV.pure.pureL cs = true → q6 L nh cs cs
  | [], _ => q3
  | c :: cs, h => by
    have h2 : (c.pure && AV.pure.pureL cs) = true := h
    rw [Bool.and_eq_true] at h2
    exact qt (qv h2.1) (Qm h2.2)
theorem qcA {L : List (Nat × Nat)} {σ : St} {ex ex' : Bool} {cs : List AV} {l : List (Nat × HB)} {n n' k w : Nat} (hl : xR L 2 σ l) (hn : Maps L 2 n n' := by exact .inr (List.mem_cons_self ..)) (hx : q7 σ.hs 0 = .own ex w [.os n 0 k :: cs] := by rfl) (hc : AV.pure.pureL cs = true := by rfl) (he : ex' = true → ex = true := by first | exact id | exact nofun) : xR L 2 σ ((0, .own ex' w [.os n' 0 k :: cs]) :: l) :=
  J2 (jh rfl) hx he (kw (qt (q5 hn) (Qm hc)) wv) hl
theorem XH (h : Hub) (hb : HBig h) (r : Rqt) (rb : RBig r) (he : j1 h.gras r.folder r.who = 0 → h.fols.length = 8) :
    ql C2h.P 82 [.op 0 0 0] (HS h r) (xn (zz 0) (if j1 h.gras r.folder r.who = 0 then 2 else j1 h.gras r.folder r.who)) (HS h r) := by
  have hm := qer h.gras hb.gras r.folder r.who rb.folder rb.who
  have hml : (h.fols.map Fol.row).length = h.fols.length := List.length_map ..
  generalize xz h.gras r.folder r.who 3 = L at *
  generalize j1 h.gras r.folder r.who = E at *
  by_cases h0 : E = 0
  · have h8 := he h0
    rw [if_pos h0] at hm ⊢
    subst h0
    refine qa (C := C2h) Tryz.func82 rfl _ Tryz.ntmps82 (Nat.le_of_ble_eq_true rfl) _ Tryz.results82 2 rfl rfl ?_
    repeat' (first | refine qe ?_ | (first | refine xsQ Tryz.func60 (hm ..) ?_) | ((first | refine qc ?_ ?_ | refine qb ?_ ?_ | refine xsC ?_ ?_); all_goals (intro hc; have hp := hc; try simp at hp; try (exfalso; omega))) | refine qw ?_ ?_)
    all_goals try (exfalso; omega)
    (apply je (rs := [.cell 2 46, .tmp 3]) [] 2; (case hr => (repeat (first | exact qO | (apply qP; rfl) | (apply qE; rfl; rfl; rfl; rfl; rfl)))); (case hL => rfl); (case hh => (repeat' (first | exact qg | refine yK ?_ | refine yF ?_ | refine Q9 ?_ | refine qM ?_ ?_)); all_goals rfl); (case hi => exact rfl); (case hz => first | rfl | (simp [jw, AV.ren, AV.ren.renL, qU, qp, qS]; done) | (simp [jw, AV.ren, AV.ren.renL, qU, qp, qS, *]; done) | trace_state))
  · rw [if_neg h0] at hm ⊢
    refine qa (C := C2h) Tryz.func82 rfl _ Tryz.ntmps82 (Nat.le_of_ble_eq_true rfl) _ Tryz.results82 2 rfl rfl ?_
    repeat' (first | refine qe ?_ | (first | refine xsQ Tryz.func60 (hm ..) ?_) | ((first | refine qc ?_ ?_ | refine qb ?_ ?_ | refine xsC ?_ ?_); all_goals (intro hc; have hp := hc; try simp at hp; try (exfalso; omega))) | refine qw ?_ ?_)
    all_goals try (exfalso; omega)
    (apply je (rs := [.cell 2 46, .tmp 3]) [] 2; (case hr => (repeat (first | exact qO | (apply qP; rfl) | (apply qE; rfl; rfl; rfl; rfl; rfl)))); (case hL => rfl); (case hh => (repeat' (first | exact qg | refine yK ?_ | refine yF ?_ | refine Q9 ?_ | refine qM ?_ ?_)); all_goals rfl); (case hi => exact rfl); (case hz => first | rfl | (simp [jw, AV.ren, AV.ren.renL, qU, qp, qS]; done) | (simp [jw, AV.ren, AV.ren.renL, qU, qp, qS, *]; done) | trace_state))
def K6 (h : Hub) (r : Rqt) : Hub := { h with fols := JY h.fols r.folder, gras := xz h.gras r.folder r.who 3 }
theorem qdU (h : Hub) (hb : HBig h) (r : Rqt) (rb : RBig r) (hr : HRight h) (h0 : j1 h.gras r.folder r.who = 0) (h8 : ¬ h.fols.length = 8) :
    ql C2h.P 82 [.op 0 0 0] (HS h r) (xn (zz 0) 0) [.own false 17 [xy 2 (K6 h r) r], .dead, .own false 4 (JU h.fols r.folder)] := by
  have hm := qer h.gras hb.gras r.folder r.who rb.folder rb.who
  rw [if_pos h0, h0] at hm
  have hml : (h.fols.map Fol.row).length = h.fols.length := List.length_map ..
  have hf := Yy h r.folder (by have := hr.len; omega) hr.rise
  rw [show xr h.fols r.folder = false from by rw [hr.has]; exact (XJ h0).2.2.2.1] at hf
  have hin := qel h.fols r.folder (by have := hr.len; omega)
  have hpu : ∀ row, row ∈ JU h.fols r.folder → AV.pure.pureL row = true := fun row hr => by
    unfold JU at hr
    rcases List.mem_append.1 hr with hr | hr
    · obtain ⟨x, _, rfl⟩ := List.mem_map.1 hr; rfl
    · rcases List.mem_append.1 hr with hr | hr
      · rw [List.mem_singleton.1 hr]; rfl
      · obtain ⟨x, _, rfl⟩ := List.mem_map.1 hr; rfl
  have hpl := X3 h.fols r.folder
  have hsr : xy 2 (K6 h r) r = .os 2 0 (h.fols.length + 1) :: jD (xz h.gras r.folder r.who 3) :: (xy 2 h r).drop 2 := by
    show _ :: _ :: _ = _
    rw [show (K6 h r).fols.length = h.fols.length + 1 from Yo _ _]; rfl
  rw [hsr]
  clear hsr
  generalize xz h.gras r.folder r.who 3 = L at *
  generalize JU h.fols r.folder = R at *
  refine qa (C := C2h) Tryz.func82 rfl _ Tryz.ntmps82 (Nat.le_of_ble_eq_true rfl) _ Tryz.results82 2 rfl rfl ?_
  repeat' (first | refine qe ?_ | (first | refine xsQ Tryz.func60 (hm ..) ?_ | (apply qj; apply yd [1]; exact jG Tryz.func58 rfl rfl; exact hf; (case hz => exact qm (VX rfl) (qm (qQ rfl) qZ)); (case hfl => rfl); (case hN => exact nle rfl)) | (refine jZ ?_) | (apply qH Tryz.func123 rfl rfl; intro hIsFn; refine vN ([1]) 1 hIsFn (hin ..) ?_)) | ((first | refine qc ?_ ?_ | refine qb ?_ ?_ | refine xsC ?_ ?_); all_goals (intro hc; have hp := hc; try simp at hp; try (exfalso; omega))) | refine qw ?_ ?_)
  all_goals try (exfalso; omega)
  apply je (rs := [.cell 2 46, .tmp 3]) [(3, 2)] 3
  case hr => (repeat (first | exact qO | (apply qP; rfl) | (apply qE; rfl; rfl; rfl; rfl; rfl)))
  case hL => rfl
  case hh =>
    refine qcA ?_
    refine j4 1 (jh rfl) ?_
    refine Q9 ?_
    exact qg
  case hi => exact rfl
  case hz => first | rfl | trace_state
end Go.Proofs.YtiljlcgmcmjcoaaGreatDoor
