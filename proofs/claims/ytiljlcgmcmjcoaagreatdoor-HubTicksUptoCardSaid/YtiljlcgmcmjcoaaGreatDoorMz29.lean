import Derived.Test.YtiljlcgmcmjcoaaGreatDoorMz27
import Derived.Test.YtiljlcgmcmjcoaaGreatDoorMz28
import Derived.Test.YtiljlcgmcmjcoaaGreatDoorMz24
import Derived.Test.YtiljlcgmcmjcoaaGreatDoorMz2
import Derived.Test.YtiljlcgmcmjcoaaGreatDoorMz10
set_option linter.unusedSimpArgs false
set_option linter.unnecessarySimpa false
set_option linter.unusedVariables false
set_option maxHeartbeats 1000000
namespace Go.Proofs.YtiljlcgmcmjcoaaGreatDoor
open Go.Ab Go.RowKit
set_option maxRecDepth 10000
attribute [local irreducible] Awp jZ jg qJ Red qz Go.Ab.Fin qm Rz y0 qB qG ResOk jG q9 jK qV
theorem Zm {n : Nat} (h : n ≤ 1000000000) : n ≤ 9223372036854775807 := Nat.le_trans h (by decide)
theorem qg6 (u : Upl) (hu : UBig u) (who : qC) (hw : who.length ≤ 1000000000) (size now : Int) : jT C.P 86 [vm u, .v (str who), .v (.int .i64 size), .v (.int .i64 now)] (Qb (QM u who size now).1 (QM u who size now).2.1 (QM u who size now).2.2) := by
  have h := qe5 u hu who (Zm hw) size now
  unfold Xr at h
  unfold QM
  by_cases h0 : yQ u who size now = 0
  · rw [if_pos h0] at h ⊢; exact h
  · rw [if_neg h0] at h ⊢; exact h
theorem JB {u : Upl} {who : qC} {number now : Int} (h : ye u who number now = 0) : (zT u who number now).text.length ≤ 300 := by
  obtain ⟨m1, _, _, m4, _⟩ := Qc h
  have hs := (z6 (Y0 m1).1).2.2.1 _ (Qt (List.mem_of_getElem? m4))
  have h2 := vk hs
  unfold j9 at hs
  split at hs
  · split at hs
    · split at hs
      · omega
      · omega
    · omega
  · omega
theorem qfA (u : Upl) (hu : UBig u) (who : qC) (hw : who.length ≤ 1000000000) (number offset : Int) (text : qC) (ht : text.length ≤ 1000000000) (now : Int) :
    jT C.P 87 [vm u, .v (str who), .v (.int .i64 number), .v (.int .i64 offset), .v (str text), .v (.int .i64 now)] (Qb (QN u who number offset text now).1 (QN u who number offset text now).2.1 (QN u who number offset text now).2.2) := by
  unfold QN
  by_cases h0 : ye u who number now = 0
  · rw [if_pos h0]
    obtain ⟨m1, m2, m3, m4, m5⟩ := Qc h0
    have h := WK u hu who (Zm hw) number now m1 m2 _ m3 _ m4 (by have := JB h0; omega) offset text (jQ ht)
    unfold XM at h
    unfold qhk
    by_cases h1 : JI (zT u who number now) offset text = 0
    · rw [if_pos h1] at h ⊢; exact h
    · rw [if_neg h1] at h ⊢; exact h
  · rw [if_neg h0]
    exact WA u hu who (Zm hw) number now h0 offset text
theorem qge (u : Upl) (hu : UBig u) (who : qC) (hw : who.length ≤ 1000000000) (number now : Int) :
    jT C.P 88 [vm u, .v (str who), .v (.int .i64 number), .v (.int .i64 now)] (.tup [.v (.int .i64 (ZB u who number now).1), .v (.int .i64 (ZB u who number now).2)]) := by
  unfold ZB
  by_cases h0 : ye u who number now = 0
  · rw [if_pos h0]
    obtain ⟨m1, m2, m3, m4, m5⟩ := Qc h0
    exact qbA u hu who (Zm hw) number now m1 m2 _ m3 _ m4 (by have := JB h0; omega)
  · rw [if_neg h0]
    exact qa6 u hu who (Zm hw) number now h0
theorem qa0 (u : Upl) (hu : UBig u) (who : qC) (hw : who.length ≤ 1000000000) (number now : Int) :
    jT C.P 128 [vm u, .v (str who), .v (.int .i64 number), .v (.int .i64 now)] (Y7 (zO u who number now).1 (zO u who number now).2.1 (zO u who number now).2.2) := by
  unfold zO
  by_cases h0 : ye u who number now = 0
  · rw [if_pos h0]
    obtain ⟨m1, m2, m3, m4, m5⟩ := Qc h0
    have h := qaa u hu who (Zm hw) number now m1 m2 _ m3 _ m4
    unfold Z3 at h
    by_cases h1 : (zT u who number now).text.length < (zT u who number now).size
    · rw [if_pos h1] at h ⊢; exact h
    · rw [if_neg h1] at h ⊢; exact h
  · rw [if_neg h0]
    exact We u hu who (Zm hw) number now h0
theorem qhn (l : List Gra) (hl : GBig l) (f b w : qC) (r : Int) (hf : f.length ≤ 1000000000) (hb : b.length ≤ 1000000000) (hw : w.length ≤ 1000000000) :
    jT C.P 61 [jw l, .v (str f), .v (str b), .v (str w), .v (.int .i64 r)] (.tup [jw (zE l f b w r).1, .v (.int .i64 (zE l f b w r).2)]) := by
  unfold zE
  by_cases h0 : jR l f b w r = 0
  · rw [if_pos h0]; exact qhb l hl f b w r (jQ hf) (jQ hb) (jQ hw) h0
  · rw [if_neg h0]; exact qbX l hl f b w r (jQ hf) (jQ hb) (jQ hw) h0
theorem qfq (l : List Gra) (hl : GBig l) (f w : qC) (hf : f.length ≤ 1000000000) (hw : w.length ≤ 1000000000) :
    jT C.P 60 [jw l, .v (str f), .v (str w)] (.tup [jw (if j5 l f w = 0 then xO l f w 3 else []), .v (.int .i64 (j5 l f w))]) := by
  by_cases h0 : j5 l f w = 0
  · rw [if_pos h0, h0]; exact qhu l hl f w (jQ hf) (jQ hw) h0
  · rw [if_neg h0]; exact qb7 l hl f w (jQ hf) (jQ hw) h0
section call0
variable {C : Cx} {N : Nat} {all : Array Oper} {es : List Eff} {os : List Oper} {K : List Eff → St → Prop} {ts : List (Nat × AV)} {hs : List (Nat × HB)} {nx : Nat} {gd : List Nat}
theorem yX {f : FuncId} {args : List Operand} {tys : Array TypeId} {d : Nat} {ty : TypeId} {pos : String} {af : Array Edge} {gg : Option (Nat × Bool)} {ys : List AV} {H H' : List HB} {r : AV} (ns : List Nat) (Z : List (Nat × HB)) (r' : AV) (hf : IsFn C.P f) (hc : qm C.P f ys H r H')
    (hz : qV (wA 0 ns) ns (ja hs) (args.map (evA (qq ts))) ys) (hg : XS (wA 0 ns) (ja hs) ns H) (hb : XX (Wf (wA 0 (Z.map (·.1)))) Z H')
    (k : jZ C N all (⟨gd ++ (yh (.func f) ++ args.flatMap yh), ns, some d, r', Z, []⟩ :: es) ⟨(d, r') :: ts, Z ++ hs, nx⟩ os K)
    (hr : r.ren (Wf (wA 0 (Z.map (·.1)))) = r' := by rfl) (hns : (Z.map (·.1)).take H.length = ns := by rfl) (hfr : (Z.map (·.1)).drop H.length = [] := by rfl) (hHZ : H.length ≤ Z.length := by exact Nat.le_of_ble_eq_true rfl) (hnd : (Z.map (·.1)).Nodup := by exact of_decide_eq_true rfl)
    (hN : d < N := by exact nle rfl) : X0 C N all gd es ⟨ts, hs, nx⟩ f args d tys ty pos af gg os K :=
  KV ns [] Z nx r' hf hc hz hg hb k hr hns hfr hHZ hnd rfl (fun n hn => by cases hn) (Nat.le_refl _) hN
end call0
noncomputable def C2h : Cx := { C with nh := 2 }
def xJ (n : Nat) (h : Hub) (r : Rqt) : List AV := [.os n 0 h.fols.length, jw h.gras, .sl false (h.ups.sess.map Sess.row), .v (.int .i64 h.ups.next), .v (.int .i64 h.ups.lasts), .v (.int .i64 h.ups.room), .v (.int .i64 h.now), .v (.int .i64 r.kind), .v (str r.who), .v (str r.folder), .v (str r.name), .v (str r.key), .v (str r.text), .v (.int .i64 r.number), .v (.int .i64 r.offset), .v (.int .i64 r.base), xo r.chs]
def HS (h : Hub) (r : Rqt) : List HB := [.own false 17 [xJ 1 h r], .own false 4 (h.fols.map Fol.row)]
theorem yN {L : List (Nat × Nat)} {σ : St} {ex ex' : Bool} {h : Hub} {r : Rqt} {l : List (Nat × HB)} {n : Nat} (hl : x9 L 2 σ l) (hn : Maps L 2 n n := by exact jm rfl) (hx : ja σ.hs 0 = .own ex 17 [xJ n h r] := by rfl) (he : ex' = true → ex = true := by first | exact id | exact nofun) : x9 L 2 σ ((0, .own ex' 17 [xJ n h r]) :: l) :=
  YB (jm rfl) hx he (kH (qu (q8 hn) (qu (qw rfl) (qu (qw rfl) (qu (qw rfl) (qu (qw rfl) (qu (qw rfl) (qu (qw rfl) (qu (qw rfl) (qu (qw rfl) (qu (qw rfl) (qu (qw rfl) (qu (qw rfl) (qu (qw rfl) (qu (qw rfl) (qu (qw rfl) (qu (qw rfl) (qu (qw rfl) q7))))))))))))))))) wP) hl
theorem qfC (h : Hub) (r : Rqt) (hr : qt jA h.gras = true) (hl : h.gras.length ≤ 1000000) : qm C2h.P 127 [.op 0 0 0] (HS h r) (.v (.int .i64 (jY h.gras r.folder r.who))) (HS h r) := by
  have ho := qe9 h.gras r.folder r.who hl hr
  refine qa (C := C2h) Tryz.func127 rfl _ Tryz.ntmps127 (Nat.le_of_ble_eq_true rfl) _ Tryz.results127 2 rfl rfl ?_
  repeat' (first | refine qe ?_ | (first | refine xsF Tryz.func63 (ho ..) ?_) | ((first | refine qb ?_ ?_ | refine qc ?_ ?_ | refine xsC ?_ ?_); all_goals (intro hc; have hp := hc; try simp at hp; try (exfalso; omega))) | refine qv ?_ ?_)
  (apply jl (rs := [.tmp 2]) [] 2; (case hr => (repeat (first | exact qQ | (apply qR; rfl) | (apply qF; rfl; rfl; rfl; rfl; rfl)))); (case hL => rfl); (case hh => (repeat' (first | exact qh | refine yN ?_ | refine yS ?_ | refine Jk ?_ | refine qO ?_ ?_)); all_goals trace_state); (case hi => exact rfl); (case hz => first | rfl | (simp [jB, AV.ren, AV.ren.renL, qW, qq, qS]; done) | (simp [jB, AV.ren, AV.ren.renL, qW, qq, qS, *]; done) | trace_state))
theorem Zj (h : Hub) (r : Rqt) (hr : qt jA h.gras = true) (hl : h.gras.length ≤ 1000000) (k : Int) : qm C2h.P 89 [.op 0 0 0, .v (.int .i64 k)] (HS h r) (.v (.int .i64 (if jY h.gras r.folder r.who < k then 9 else 0))) (HS h r) := by
  have ho := qfC h r hr hl
  generalize jY h.gras r.folder r.who = R at *
  by_cases hk : R < k
  · rw [if_pos hk]
    refine qa (C := C2h) Tryz.func89 rfl _ Tryz.ntmps89 (Nat.le_of_ble_eq_true rfl) _ Tryz.results89 2 rfl rfl ?_
    repeat' (first | refine qe ?_ | (first | (apply qH Tryz.func127 rfl rfl; intro hIsFn; refine yX [0, 1] [(0, .own false 17 [xJ 1 h r]), (1, .own false 4 (h.fols.map Fol.row))] (.v (.int .i64 R)) hIsFn (ho) (by ((repeat' (first | exact jN | apply jy | exact jM rfl | exact yo | (apply qy; apply jh; exact .inr (of_decide_eq_true rfl)) | (apply qy; apply je; exact .inr (of_decide_eq_true rfl)) | (apply qy; apply q8; exact .inr (of_decide_eq_true rfl)) | apply j0 | apply j1))) <;> fail) (by ((repeat' (first | exact ji | exact jj | refine qZ _ ?_ ?_ | refine qX ?_ ?_ | exact qI | exact qg (sideM_pure _) | exact qg (jx _) | exact qg (goesM_pure _) | exact q6 (fun _ => rfl) | refine qY ?_ | exact q7 | apply qu | exact qw rfl | (apply je; exact .inr (of_decide_eq_true rfl)) | (apply q8; exact .inr (of_decide_eq_true rfl)) | (apply jh; exact .inr (of_decide_eq_true rfl)) | fail))) <;> fail) (by ((repeat' (first | exact ji | exact jj | refine qZ _ ?_ ?_ | refine qX ?_ ?_ | exact qI | exact qg (sideM_pure _) | exact qg (jx _) | exact qg (goesM_pure _) | exact q6 (fun _ => rfl) | refine qY ?_ | exact q7 | apply qu | exact qw rfl | (apply je; exact .inr (of_decide_eq_true rfl)) | (apply q8; exact .inr (of_decide_eq_true rfl)) | (apply jh; exact .inr (of_decide_eq_true rfl)) | skip))) <;> fail) ?_)) | ((first | refine qb ?_ ?_ | refine qc ?_ ?_ | refine xsC ?_ ?_); all_goals (intro hc; have hp := hc; try simp at hp; try (exfalso; omega))) | refine qv ?_ ?_)
    all_goals try (exfalso; omega)
    (apply jl (rs := [.tmp 4]) [] 2; (case hr => (repeat (first | exact qQ | (apply qR; rfl) | (apply qF; rfl; rfl; rfl; rfl; rfl)))); (case hL => rfl); (case hh => (repeat' (first | exact qh | refine yN ?_ | refine yS ?_ | refine Jk ?_ | refine qO ?_ ?_)); all_goals trace_state); (case hi => exact rfl); (case hz => first | rfl | (simp [jB, AV.ren, AV.ren.renL, qW, qq, qS]; done) | (simp [jB, AV.ren, AV.ren.renL, qW, qq, qS, *]; done) | trace_state))
  · rw [if_neg hk]
    refine qa (C := C2h) Tryz.func89 rfl _ Tryz.ntmps89 (Nat.le_of_ble_eq_true rfl) _ Tryz.results89 2 rfl rfl ?_
    repeat' (first | refine qe ?_ | (first | (apply qH Tryz.func127 rfl rfl; intro hIsFn; refine yX [0, 1] [(0, .own false 17 [xJ 1 h r]), (1, .own false 4 (h.fols.map Fol.row))] (.v (.int .i64 R)) hIsFn (ho) (by ((repeat' (first | exact jN | apply jy | exact jM rfl | exact yo | (apply qy; apply jh; exact .inr (of_decide_eq_true rfl)) | (apply qy; apply je; exact .inr (of_decide_eq_true rfl)) | (apply qy; apply q8; exact .inr (of_decide_eq_true rfl)) | apply j0 | apply j1))) <;> fail) (by ((repeat' (first | exact ji | exact jj | refine qZ _ ?_ ?_ | refine qX ?_ ?_ | exact qI | exact qg (sideM_pure _) | exact qg (jx _) | exact qg (goesM_pure _) | exact q6 (fun _ => rfl) | refine qY ?_ | exact q7 | apply qu | exact qw rfl | (apply je; exact .inr (of_decide_eq_true rfl)) | (apply q8; exact .inr (of_decide_eq_true rfl)) | (apply jh; exact .inr (of_decide_eq_true rfl)) | fail))) <;> fail) (by ((repeat' (first | exact ji | exact jj | refine qZ _ ?_ ?_ | refine qX ?_ ?_ | exact qI | exact qg (sideM_pure _) | exact qg (jx _) | exact qg (goesM_pure _) | exact q6 (fun _ => rfl) | refine qY ?_ | exact q7 | apply qu | exact qw rfl | (apply je; exact .inr (of_decide_eq_true rfl)) | (apply q8; exact .inr (of_decide_eq_true rfl)) | (apply jh; exact .inr (of_decide_eq_true rfl)) | skip))) <;> fail) ?_)) | ((first | refine qb ?_ ?_ | refine qc ?_ ?_ | refine xsC ?_ ?_); all_goals (intro hc; have hp := hc; try simp at hp; try (exfalso; omega))) | refine qv ?_ ?_)
    all_goals try (exfalso; omega)
    (apply jl (rs := [.tmp 4]) [] 2; (case hr => (repeat (first | exact qQ | (apply qR; rfl) | (apply qF; rfl; rfl; rfl; rfl; rfl)))); (case hL => rfl); (case hh => (repeat' (first | exact qh | refine yN ?_ | refine yS ?_ | refine Jk ?_ | refine qO ?_ ?_)); all_goals trace_state); (case hi => exact rfl); (case hz => first | rfl | (simp [jB, AV.ren, AV.ren.renL, qW, qq, qS]; done) | (simp [jB, AV.ren, AV.ren.renL, qW, qq, qS, *]; done) | trace_state))
end Go.Proofs.YtiljlcgmcmjcoaaGreatDoor
set_option linter.unusedSimpArgs false
set_option linter.unnecessarySimpa false
set_option linter.unusedVariables false
set_option maxHeartbeats 1000000
namespace Go.Proofs.YtiljlcgmcmjcoaaGreatDoor
open Go.Ab Go.RowKit
set_option maxRecDepth 10000
attribute [local irreducible] Awp jZ jg qJ Red qz Go.Ab.Fin qm Rz y0 qB qG ResOk jG q9 jK qV
def zP (n : Int) : List AV := [.v (.int .i64 0), .v (.int .i64 n), .v (.bool false), .sl true [], .sl true [], .v (.int .i64 0), .v (.bool false)]
def xB (x : List AV) (e : Int) : AV := .tup [.agg x, .v (.int .i64 e)]
theorem qdR (h : Hub) (r : Rqt) (hr : HRight h) (hn : jY h.gras r.folder r.who < 1) : qm C2h.P 84 [.op 0 0 0] (HS h r) (xB (zP 0) 9) (HS h r) := by
  obtain ⟨a1, a2, a3, a4⟩ := xE hr.gra
  have hm := Zj h r a3 (by omega) 1
  rw [if_pos hn] at hm
  refine qa (C := C2h) Tryz.func84 rfl _ Tryz.ntmps84 (Nat.le_of_ble_eq_true rfl) _ Tryz.results84 2 rfl rfl ?_
  repeat' (first | refine qe ?_ | (first | (apply qH Tryz.func89 rfl rfl; intro hIsFn; refine yX [0, 1] [(0, .own false 17 [xJ 1 h r]), (1, .own false 4 (h.fols.map Fol.row))] (.v (.int .i64 9)) hIsFn (hm) (by ((repeat' (first | exact jN | apply jy | exact jM rfl | exact yo | (apply qy; apply jh; exact .inr (of_decide_eq_true rfl)) | (apply qy; apply je; exact .inr (of_decide_eq_true rfl)) | (apply qy; apply q8; exact .inr (of_decide_eq_true rfl)) | apply j0 | apply j1))) <;> fail) (by ((repeat' (first | exact ji | exact jj | refine qZ _ ?_ ?_ | refine qX ?_ ?_ | exact qI | exact qg (sideM_pure _) | exact qg (jx _) | exact qg (goesM_pure _) | exact q6 (fun _ => rfl) | refine qY ?_ | exact q7 | apply qu | exact qw rfl | (apply je; exact .inr (of_decide_eq_true rfl)) | (apply q8; exact .inr (of_decide_eq_true rfl)) | (apply jh; exact .inr (of_decide_eq_true rfl)) | fail))) <;> fail) (by ((repeat' (first | exact ji | exact jj | refine qZ _ ?_ ?_ | refine qX ?_ ?_ | exact qI | exact qg (sideM_pure _) | exact qg (jx _) | exact qg (goesM_pure _) | exact q6 (fun _ => rfl) | refine qY ?_ | exact q7 | apply qu | exact qw rfl | (apply je; exact .inr (of_decide_eq_true rfl)) | (apply q8; exact .inr (of_decide_eq_true rfl)) | (apply jh; exact .inr (of_decide_eq_true rfl)) | skip))) <;> fail) ?_)) | ((first | refine qb ?_ ?_ | refine qc ?_ ?_ | refine xsC ?_ ?_); all_goals (intro hc; have hp := hc; try simp at hp; try (exfalso; omega))) | refine qv ?_ ?_)
  all_goals try (exfalso; omega)
  (apply jl (rs := [.cell 2 46, .tmp 3]) [] 2; (case hr => (repeat (first | exact qQ | (apply qR; rfl) | (apply qF; rfl; rfl; rfl; rfl; rfl)))); (case hL => rfl); (case hh => (repeat' (first | exact qh | refine yN ?_ | refine yS ?_ | refine Jk ?_ | refine qO ?_ ?_)); all_goals trace_state); (case hi => exact rfl); (case hz => first | rfl | (simp [jB, AV.ren, AV.ren.renL, qW, qq, qS]; done) | (simp [jB, AV.ren, AV.ren.renL, qW, qq, qS, *]; done) | trace_state))
theorem qg3 (h : Hub) (hb : HBig h) (r : Rqt) (hr : HRight h) (hn : ¬ jY h.gras r.folder r.who < 1) (k : Nat) (hk : k < h.fols.length) (hp : xW h.fols r.folder = k) (hh : xy h.fols r.folder = true) :
    qm C2h.P 84 [.op 0 0 0] (HS h r) (xB ([.v (.int .i64 0), .v (.int .i64 0)] ++ (YW h.fols[k].jou r.number 10).1.row) (YW h.fols[k].jou r.number 10).2) (HS h r) := by
  obtain ⟨a1, a2, a3, a4⟩ := xE hr.gra
  have hm := Zj h r a3 (by omega) 1
  rw [if_neg hn] at hm
  have hf := Yk h r.folder (by have := hr.len; omega) hr.rise
  rw [hp, hh] at hf
  have hrd := qhz h.fols[k].jou r.number 10 (hb.fols.each _ (List.getElem_mem _)).jou
  have hrow := qx (f := Fol.row) hk
  have hml : (h.fols.map Fol.row).length = h.fols.length := List.length_map ..
  generalize YW h.fols[k].jou r.number 10 = P at *
  obtain ⟨p, e⟩ := P
  refine qa (C := C2h) Tryz.func84 rfl _ Tryz.ntmps84 (Nat.le_of_ble_eq_true rfl) _ Tryz.results84 2 rfl rfl ?_
  repeat' (first | refine qe ?_ | (first | (apply qH Tryz.func89 rfl rfl; intro hIsFn; refine yX [0, 1] [(0, .own false 17 [xJ 1 h r]), (1, .own false 4 (h.fols.map Fol.row))] (.v (.int .i64 0)) hIsFn (hm) (by ((repeat' (first | exact jN | apply jy | exact jM rfl | exact yo | (apply qy; apply jh; exact .inr (of_decide_eq_true rfl)) | (apply qy; apply je; exact .inr (of_decide_eq_true rfl)) | (apply qy; apply q8; exact .inr (of_decide_eq_true rfl)) | apply j0 | apply j1))) <;> fail) (by ((repeat' (first | exact ji | exact jj | refine qZ _ ?_ ?_ | refine qX ?_ ?_ | exact qI | exact qg (sideM_pure _) | exact qg (jx _) | exact qg (goesM_pure _) | exact q6 (fun _ => rfl) | refine qY ?_ | exact q7 | apply qu | exact qw rfl | (apply je; exact .inr (of_decide_eq_true rfl)) | (apply q8; exact .inr (of_decide_eq_true rfl)) | (apply jh; exact .inr (of_decide_eq_true rfl)) | fail))) <;> fail) (by ((repeat' (first | exact ji | exact jj | refine qZ _ ?_ ?_ | refine qX ?_ ?_ | exact qI | exact qg (sideM_pure _) | exact qg (jx _) | exact qg (goesM_pure _) | exact q6 (fun _ => rfl) | refine qY ?_ | exact q7 | apply qu | exact qw rfl | (apply je; exact .inr (of_decide_eq_true rfl)) | (apply q8; exact .inr (of_decide_eq_true rfl)) | (apply jh; exact .inr (of_decide_eq_true rfl)) | skip))) <;> fail) ?_) | (refine vz ?_) | (apply qj; apply yi [1]; exact jJ Tryz.func58 rfl rfl; exact hf; (case hz => exact ql (Vo rfl) (ql (qM rfl) qT)); (case hfl => rfl); (case hN => exact nle rfl)) | refine xsQ Tryz.func124 (hrd ..) ?_) | ((first | refine qb ?_ ?_ | refine qc ?_ ?_ | refine xsC ?_ ?_); all_goals (intro hc; have hp := hc; try simp at hp; try (exfalso; omega))) | refine qv ?_ ?_)
  all_goals try (exfalso; omega)
  (apply jl (rs := [.cell 2 46, .tmp 3]) [] 2; (case hr => (repeat (first | exact qQ | (apply qR; rfl) | (apply qF; rfl; rfl; rfl; rfl; rfl)))); (case hL => rfl); (case hh => (repeat' (first | exact qh | refine yN ?_ | refine yS ?_ | refine Jk ?_ | refine qO ?_ ?_)); all_goals trace_state); (case hi => exact rfl); (case hz => first | rfl | (simp [jB, AV.ren, AV.ren.renL, qW, qq, qS]; done) | (simp [jB, AV.ren, AV.ren.renL, qW, qq, qS, *]; done) | trace_state))
def qcv (h : Hub) (r : Rqt) : Hub := if (zE h.gras r.folder r.who r.name r.number).2 = 0 then { h with gras := (zE h.gras r.folder r.who r.name r.number).1 } else h
theorem qdC (h : Hub) (r : Rqt) (hr : HRight h) (hn : jY h.gras r.folder r.who < 1) : qm C2h.P 83 [.op 0 0 0] (HS h r) (xB (zP 0) 9) (HS h r) := by
  obtain ⟨a1, a2, a3, a4⟩ := xE hr.gra
  have hm := Zj h r a3 (by omega) 1
  rw [if_pos hn] at hm
  refine qa (C := C2h) Tryz.func83 rfl _ Tryz.ntmps83 (Nat.le_of_ble_eq_true rfl) _ Tryz.results83 2 rfl rfl ?_
  repeat' (first | refine qe ?_ | (first | (apply qH Tryz.func89 rfl rfl; intro hIsFn; refine yX [0, 1] [(0, .own false 17 [xJ 1 h r]), (1, .own false 4 (h.fols.map Fol.row))] (.v (.int .i64 (9))) hIsFn (hm) (by ((repeat' (first | exact jN | apply jy | exact jM rfl | exact yo | (apply qy; apply jh; exact .inr (of_decide_eq_true rfl)) | (apply qy; apply je; exact .inr (of_decide_eq_true rfl)) | (apply qy; apply q8; exact .inr (of_decide_eq_true rfl)) | apply j0 | apply j1))) <;> fail) (by ((repeat' (first | exact ji | exact jj | refine qZ _ ?_ ?_ | refine qX ?_ ?_ | exact qI | exact qg (sideM_pure _) | exact qg (jx _) | exact qg (goesM_pure _) | exact q6 (fun _ => rfl) | refine qY ?_ | exact q7 | apply qu | exact qw rfl | (apply je; exact .inr (of_decide_eq_true rfl)) | (apply q8; exact .inr (of_decide_eq_true rfl)) | (apply jh; exact .inr (of_decide_eq_true rfl)) | fail))) <;> fail) (by ((repeat' (first | exact ji | exact jj | refine qZ _ ?_ ?_ | refine qX ?_ ?_ | exact qI | exact qg (sideM_pure _) | exact qg (jx _) | exact qg (goesM_pure _) | exact q6 (fun _ => rfl) | refine qY ?_ | exact q7 | apply qu | exact qw rfl | (apply je; exact .inr (of_decide_eq_true rfl)) | (apply q8; exact .inr (of_decide_eq_true rfl)) | (apply jh; exact .inr (of_decide_eq_true rfl)) | skip))) <;> fail) ?_)) | ((first | refine qb ?_ ?_ | refine qc ?_ ?_ | refine xsC ?_ ?_); all_goals (intro hc; have hp := hc; try simp at hp; try (exfalso; omega))) | refine qv ?_ ?_)
  all_goals try (exfalso; omega)
  (apply jl (rs := [.cell 2 46, .tmp 3]) [] 2; (case hr => (repeat (first | exact qQ | (apply qR; rfl) | (apply qF; rfl; rfl; rfl; rfl; rfl)))); (case hL => rfl); (case hh => (repeat' (first | exact qh | refine yN ?_ | refine yS ?_ | refine Jk ?_ | refine qO ?_ ?_)); all_goals trace_state); (case hi => exact rfl); (case hz => first | rfl | (simp [jB, AV.ren, AV.ren.renL, qW, qq, qS]; done) | (simp [jB, AV.ren, AV.ren.renL, qW, qq, qS, *]; done) | trace_state))
theorem qhq (h : Hub) (hb : HBig h) (r : Rqt) (rb : RBig r) (hr : HRight h) (hn : ¬ jY h.gras r.folder r.who < 1) :
    qm C2h.P 83 [.op 0 0 0] (HS h r) (xB (zP 0) (zE h.gras r.folder r.who r.name r.number).2) (HS (qcv h r) r) := by
  obtain ⟨a1, a2, a3, a4⟩ := xE hr.gra
  have hm := Zj h r a3 (by omega) 1
  rw [if_neg hn] at hm
  have hg := qhn h.gras hb.gras r.folder r.who r.name r.number rb.folder rb.who rb.name
  unfold qcv
  generalize zE h.gras r.folder r.who r.name r.number = P at *
  obtain ⟨L, e⟩ := P
  dsimp only at *
  by_cases h0 : e = 0
  · rw [if_pos h0]
    subst h0
    refine qa (C := C2h) Tryz.func83 rfl _ Tryz.ntmps83 (Nat.le_of_ble_eq_true rfl) _ Tryz.results83 2 rfl rfl ?_
    repeat' (first | refine qe ?_ | (first | (apply qH Tryz.func89 rfl rfl; intro hIsFn; refine yX [0, 1] [(0, .own false 17 [xJ 1 h r]), (1, .own false 4 (h.fols.map Fol.row))] (.v (.int .i64 (0))) hIsFn (hm) (by ((repeat' (first | exact jN | apply jy | exact jM rfl | exact yo | (apply qy; apply jh; exact .inr (of_decide_eq_true rfl)) | (apply qy; apply je; exact .inr (of_decide_eq_true rfl)) | (apply qy; apply q8; exact .inr (of_decide_eq_true rfl)) | apply j0 | apply j1))) <;> fail) (by ((repeat' (first | exact ji | exact jj | refine qZ _ ?_ ?_ | refine qX ?_ ?_ | exact qI | exact qg (sideM_pure _) | exact qg (jx _) | exact qg (goesM_pure _) | exact q6 (fun _ => rfl) | refine qY ?_ | exact q7 | apply qu | exact qw rfl | (apply je; exact .inr (of_decide_eq_true rfl)) | (apply q8; exact .inr (of_decide_eq_true rfl)) | (apply jh; exact .inr (of_decide_eq_true rfl)) | fail))) <;> fail) (by ((repeat' (first | exact ji | exact jj | refine qZ _ ?_ ?_ | refine qX ?_ ?_ | exact qI | exact qg (sideM_pure _) | exact qg (jx _) | exact qg (goesM_pure _) | exact q6 (fun _ => rfl) | refine qY ?_ | exact q7 | apply qu | exact qw rfl | (apply je; exact .inr (of_decide_eq_true rfl)) | (apply q8; exact .inr (of_decide_eq_true rfl)) | (apply jh; exact .inr (of_decide_eq_true rfl)) | skip))) <;> fail) ?_) | refine xsQ Tryz.func61 (hg ..) ?_) | ((first | refine qb ?_ ?_ | refine qc ?_ ?_ | refine xsC ?_ ?_); all_goals (intro hc; have hp := hc; try simp at hp; try (exfalso; omega))) | refine qv ?_ ?_)
    all_goals try (exfalso; omega)
    (apply jl (rs := [.cell 2 46, .tmp 3]) [] 2; (case hr => (repeat (first | exact qQ | (apply qR; rfl) | (apply qF; rfl; rfl; rfl; rfl; rfl)))); (case hL => rfl); (case hh => (repeat' (first | exact qh | refine yN ?_ | refine yS ?_ | refine Jk ?_ | refine qO ?_ ?_)); all_goals rfl); (case hi => exact rfl); (case hz => first | rfl | (simp [jB, AV.ren, AV.ren.renL, qW, qq, qS]; done) | (simp [jB, AV.ren, AV.ren.renL, qW, qq, qS, *]; done) | trace_state))
  · rw [if_neg h0]
    refine qa (C := C2h) Tryz.func83 rfl _ Tryz.ntmps83 (Nat.le_of_ble_eq_true rfl) _ Tryz.results83 2 rfl rfl ?_
    repeat' (first | refine qe ?_ | (first | (apply qH Tryz.func89 rfl rfl; intro hIsFn; refine yX [0, 1] [(0, .own false 17 [xJ 1 h r]), (1, .own false 4 (h.fols.map Fol.row))] (.v (.int .i64 (0))) hIsFn (hm) (by ((repeat' (first | exact jN | apply jy | exact jM rfl | exact yo | (apply qy; apply jh; exact .inr (of_decide_eq_true rfl)) | (apply qy; apply je; exact .inr (of_decide_eq_true rfl)) | (apply qy; apply q8; exact .inr (of_decide_eq_true rfl)) | apply j0 | apply j1))) <;> fail) (by ((repeat' (first | exact ji | exact jj | refine qZ _ ?_ ?_ | refine qX ?_ ?_ | exact qI | exact qg (sideM_pure _) | exact qg (jx _) | exact qg (goesM_pure _) | exact q6 (fun _ => rfl) | refine qY ?_ | exact q7 | apply qu | exact qw rfl | (apply je; exact .inr (of_decide_eq_true rfl)) | (apply q8; exact .inr (of_decide_eq_true rfl)) | (apply jh; exact .inr (of_decide_eq_true rfl)) | fail))) <;> fail) (by ((repeat' (first | exact ji | exact jj | refine qZ _ ?_ ?_ | refine qX ?_ ?_ | exact qI | exact qg (sideM_pure _) | exact qg (jx _) | exact qg (goesM_pure _) | exact q6 (fun _ => rfl) | refine qY ?_ | exact q7 | apply qu | exact qw rfl | (apply je; exact .inr (of_decide_eq_true rfl)) | (apply q8; exact .inr (of_decide_eq_true rfl)) | (apply jh; exact .inr (of_decide_eq_true rfl)) | skip))) <;> fail) ?_) | refine xsQ Tryz.func61 (hg ..) ?_) | ((first | refine qb ?_ ?_ | refine qc ?_ ?_ | refine xsC ?_ ?_); all_goals (intro hc; have hp := hc; try simp at hp; try (exfalso; omega))) | refine qv ?_ ?_)
    all_goals try (exfalso; omega)
    (apply jl (rs := [.cell 2 46, .tmp 3]) [] 2; (case hr => (repeat (first | exact qQ | (apply qR; rfl) | (apply qF; rfl; rfl; rfl; rfl; rfl)))); (case hL => rfl); (case hh => (repeat' (first | exact qh | refine yN ?_ | refine yS ?_ | refine Jk ?_ | refine qO ?_ ?_)); all_goals rfl); (case hi => exact rfl); (case hz => first | rfl | (simp [jB, AV.ren, AV.ren.renL, qW, qq, qS]; done) | (simp [jB, AV.ren, AV.ren.renL, qW, qq, qS, *]; done) | trace_state))
theorem Z1 (h : Hub) (r : Rqt) (u : Upl) (n e : Int) :
    qm C2h.P 85 [.op 0 0 0, vm u, .v (.int .i64 n), .v (.int .i64 e)] (HS h r) (xB (zP n) e) (HS (if e = 0 then { h with ups := u } else h) r) := by
  by_cases h0 : e = 0
  · rw [if_pos h0]
    subst h0
    refine qa (C := C2h) Tryz.func85 rfl _ Tryz.ntmps85 (Nat.le_of_ble_eq_true rfl) _ Tryz.results85 2 rfl rfl ?_
    repeat' (first | refine qe ?_ | (first | fail) | ((first | refine qb ?_ ?_ | refine qc ?_ ?_ | refine xsC ?_ ?_); all_goals (intro hc; have hp := hc; try simp at hp; try (exfalso; omega))) | refine qv ?_ ?_)
    all_goals try (exfalso; omega)
    (apply jl (rs := [.cell 8 46, .tmp 9]) [] 2; (case hr => (repeat (first | exact qQ | (apply qR; rfl) | (apply qF; rfl; rfl; rfl; rfl; rfl)))); (case hL => rfl); (case hh => (repeat' (first | exact qh | refine yN ?_ | refine yS ?_ | refine Jk ?_ | refine qO ?_ ?_)); all_goals rfl); (case hi => exact rfl); (case hz => first | rfl | (simp [jB, AV.ren, AV.ren.renL, qW, qq, qS]; done) | (simp [jB, AV.ren, AV.ren.renL, qW, qq, qS, *]; done) | trace_state))
  · rw [if_neg h0]
    refine qa (C := C2h) Tryz.func85 rfl _ Tryz.ntmps85 (Nat.le_of_ble_eq_true rfl) _ Tryz.results85 2 rfl rfl ?_
    repeat' (first | refine qe ?_ | (first | fail) | ((first | refine qb ?_ ?_ | refine qc ?_ ?_ | refine xsC ?_ ?_); all_goals (intro hc; have hp := hc; try simp at hp; try (exfalso; omega))) | refine qv ?_ ?_)
    all_goals try (exfalso; omega)
    (apply jl (rs := [.cell 8 46, .tmp 9]) [] 2; (case hr => (repeat (first | exact qQ | (apply qR; rfl) | (apply qF; rfl; rfl; rfl; rfl; rfl)))); (case hL => rfl); (case hh => (repeat' (first | exact qh | refine yN ?_ | refine yS ?_ | refine Jk ?_ | refine qO ?_ ?_)); all_goals rfl); (case hi => exact rfl); (case hz => first | rfl | (simp [jB, AV.ren, AV.ren.renL, qW, qq, qS]; done) | (simp [jB, AV.ren, AV.ren.renL, qW, qq, qS, *]; done) | trace_state))
def qdN (h : Hub) (k : Nat) (j : Jou) (r : Rqt) (l : List Chg) : Hub := if (yV j r.key l).2.2 = 0 then { h with fols := h.fols.set k ⟨r.folder, (yV j r.key l).1⟩ } else h
theorem qaX (h : Hub) (hb : HBig h) (r : Rqt) (rb : RBig r) (hr : HRight h) (l : List Chg) (lb : CBig l) (k : Nat) (hk : k < h.fols.length) (hp : xW h.fols r.folder = k) (hh : xy h.fols r.folder = true) (hkn : h.fols[k].name = r.folder) :
    qm C2h.P 91 [.op 0 0 0, xo l] (HS h r) (xB (zP (yV h.fols[k].jou r.key l).2.1) (yV h.fols[k].jou r.key l).2.2) (HS (qdN h k h.fols[k].jou r l) r) := by
  have hf := Yk h r.folder (by have := hr.len; omega) hr.rise
  rw [hp, hh] at hf
  have hrd := qfP h.fols[k].jou r.key l (hb.fols.each _ (List.getElem_mem _)).jou lb
  have hrow : (h.fols.map Fol.row)[k]? = some (Fol.row ⟨r.folder, h.fols[k].jou⟩) := by rw [qx (f := Fol.row) hk, ← hkn]
  have hml : (h.fols.map Fol.row).length = h.fols.length := List.length_map ..
  unfold qdN
  generalize yV h.fols[k].jou r.key l = P at *
  obtain ⟨j', n, e⟩ := P
  dsimp only at *
  have hset : (h.fols.map Fol.row).set k (Fol.row ⟨r.folder, j'⟩) = (h.fols.set k ⟨r.folder, j'⟩).map Fol.row := List.map_set.symm
  by_cases h0 : e = 0
  · rw [if_pos h0]
    subst h0
    have hlen : (h.fols.set k ⟨r.folder, j'⟩).length = h.fols.length := List.length_set ..
    show qm C2h.P _ _ _ _ [.own false 17 [xJ 1 { h with fols := h.fols.set k ⟨r.folder, j'⟩ } r], .own false 4 ((h.fols.set k ⟨r.folder, j'⟩).map Fol.row)]
    rw [show xJ 1 { h with fols := h.fols.set k ⟨r.folder, j'⟩ } r = xJ 1 h r from by unfold xJ; dsimp only; rw [hlen], ← hset]
    have hpu : ∀ row, row ∈ (h.fols.map Fol.row).set k (Fol.row ⟨r.folder, j'⟩) → AV.pure.pureL row = true := by rw [hset]; exact ju fun _ => rfl
    clear hset
    refine qa (C := C2h) Tryz.func91 rfl _ Tryz.ntmps91 (Nat.le_of_ble_eq_true rfl) _ Tryz.results91 2 rfl rfl ?_
    repeat' (first | refine qe ?_ | (first | (refine vz ?_) | (apply qj; apply yi [1]; exact jJ Tryz.func58 rfl rfl; exact hf; (case hz => exact ql (Vo rfl) (ql (qM rfl) qT)); (case hfl => rfl); (case hN => exact nle rfl)) | refine xsQ Tryz.func129 (hrd ..) ?_) | ((first | refine qb ?_ ?_ | refine qc ?_ ?_ | refine xsC ?_ ?_); all_goals (intro hc; have hp := hc; try simp at hp; try (exfalso; omega))) | refine qv ?_ ?_)
    all_goals try (exfalso; omega)
    (apply jl (rs := [.cell 4 46, .tmp 5]) [] 2; (case hr => (repeat (first | exact qQ | (apply qR; rfl) | (apply qF; rfl; rfl; rfl; rfl; rfl)))); (case hL => rfl); (case hh => (repeat' (first | exact qh | refine yN ?_ | refine yS ?_ | refine Jk ?_ | refine qO ?_ ?_)); all_goals rfl); (case hi => exact rfl); (case hz => first | rfl | (simp [jB, AV.ren, AV.ren.renL, qW, qq, qS]; done) | (simp [jB, AV.ren, AV.ren.renL, qW, qq, qS, *]; done) | trace_state))
  · rw [if_neg h0]
    refine qa (C := C2h) Tryz.func91 rfl _ Tryz.ntmps91 (Nat.le_of_ble_eq_true rfl) _ Tryz.results91 2 rfl rfl ?_
    repeat' (first | refine qe ?_ | (first | (refine vz ?_) | (apply qj; apply yi [1]; exact jJ Tryz.func58 rfl rfl; exact hf; (case hz => exact ql (Vo rfl) (ql (qM rfl) qT)); (case hfl => rfl); (case hN => exact nle rfl)) | refine xsQ Tryz.func129 (hrd ..) ?_) | ((first | refine qb ?_ ?_ | refine qc ?_ ?_ | refine xsC ?_ ?_); all_goals (intro hc; have hp := hc; try simp at hp; try (exfalso; omega))) | refine qv ?_ ?_)
    all_goals try (exfalso; omega)
    (apply jl (rs := [.cell 4 46, .tmp 5]) [] 2; (case hr => (repeat (first | exact qQ | (apply qR; rfl) | (apply qF; rfl; rfl; rfl; rfl; rfl)))); (case hL => rfl); (case hh => (repeat' (first | exact qh | refine yN ?_ | refine yS ?_ | refine Jk ?_ | refine qO ?_ ?_)); all_goals rfl); (case hi => exact rfl); (case hz => first | rfl | (simp [jB, AV.ren, AV.ren.renL, qW, qq, qS]; done) | (simp [jB, AV.ren, AV.ren.renL, qW, qq, qS, *]; done) | trace_state))
def qhF (h : Hub) (k : Nat) (j : Jou) (r : Rqt) (u : Upl) (x : qC) : Hub := if (yV j r.key [⟨2, r.name, [], x, r.base⟩]).2.2 = 0 then { qdN h k j r [⟨2, r.name, [], x, r.base⟩] with ups := u } else h
theorem WH (h : Hub) (hb : HBig h) (r : Rqt) (rb : RBig r) (he : ¬ (zO h.ups r.who r.number h.now).2.2 = 0) : qm C2h.P 90 [.op 0 0 0] (HS h r) (xB (zP 0) (zO h.ups r.who r.number h.now).2.2) (HS h r) := by
  have hf := qa0 h.ups hb.ups r.who rb.who r.number h.now
  generalize zO h.ups r.who r.number h.now = P at *
  obtain ⟨u, x, e⟩ := P
  dsimp only at *
  refine qa (C := C2h) Tryz.func90 rfl _ Tryz.ntmps90 (Nat.le_of_ble_eq_true rfl) _ Tryz.results90 2 rfl rfl ?_
  repeat' (first | refine qe ?_ | (first | refine xsQ Tryz.func128 (hf ..) ?_) | ((first | refine qb ?_ ?_ | refine qc ?_ ?_ | refine xsC ?_ ?_); all_goals (intro hc; have hp := hc; try simp at hp; try (exfalso; omega))) | refine qv ?_ ?_)
  all_goals try (exfalso; omega)
  (apply jl (rs := [.cell 2 46, .tmp 3]) [] 2; (case hr => (repeat (first | exact qQ | (apply qR; rfl) | (apply qF; rfl; rfl; rfl; rfl; rfl)))); (case hL => rfl); (case hh => (repeat' (first | exact qh | refine yN ?_ | refine yS ?_ | refine Jk ?_ | refine qO ?_ ?_)); all_goals rfl); (case hi => exact rfl); (case hz => first | rfl | (simp [jB, AV.ren, AV.ren.renL, qW, qq, qS]; done) | (simp [jB, AV.ren, AV.ren.renL, qW, qq, qS, *]; done) | trace_state))
theorem qeL (h : Hub) (hb : HBig h) (r : Rqt) (rb : RBig r) (hr : HRight h) (he : (zO h.ups r.who r.number h.now).2.2 = 0) (hx : (zO h.ups r.who r.number h.now).2.1.length ≤ 1000) (k : Nat) (hk : k < h.fols.length) (hp : xW h.fols r.folder = k) (hh : xy h.fols r.folder = true) (hkn : h.fols[k].name = r.folder) :
    qm C2h.P 90 [.op 0 0 0] (HS h r) (xB (zP (yV h.fols[k].jou r.key [⟨2, r.name, [], (zO h.ups r.who r.number h.now).2.1, r.base⟩]).2.1) (yV h.fols[k].jou r.key [⟨2, r.name, [], (zO h.ups r.who r.number h.now).2.1, r.base⟩]).2.2)
      (HS (qhF h k h.fols[k].jou r (zO h.ups r.who r.number h.now).1 (zO h.ups r.who r.number h.now).2.1) r) := by
  have hf := qa0 h.ups hb.ups r.who rb.who r.number h.now
  generalize zO h.ups r.who r.number h.now = P at *
  obtain ⟨u, x, e⟩ := P
  dsimp only at *
  subst he
  have hc := qaX h hb r rb hr [⟨2, r.name, [], x, r.base⟩] ⟨fun c hc => by rw [List.mem_singleton.1 hc]; exact ⟨rb.name, by simp, by show x.length ≤ _; omega⟩, by simp⟩ k hk hp hh hkn
  unfold qhF
  unfold qdN at hc ⊢
  generalize yV h.fols[k].jou r.key [⟨2, r.name, [], x, r.base⟩] = Q at *
  obtain ⟨j', n, e⟩ := Q
  dsimp only at *
  by_cases h0 : e = 0
  · subst h0
    rw [if_pos rfl] at hc ⊢
    rw [if_pos rfl]
    have hlen : (h.fols.set k ⟨r.folder, j'⟩).length = h.fols.length := List.length_set ..
    have hs1 : xJ 1 { h with fols := h.fols.set k ⟨r.folder, j'⟩ } r = xJ 1 h r := by unfold xJ; dsimp only; rw [hlen]
    have hs2 : xJ 1 { h with fols := h.fols.set k ⟨r.folder, j'⟩, ups := u } r = xJ 1 { h with ups := u } r := by unfold xJ; dsimp only; rw [hlen]
    have hc : qm C2h.P 91 [.op 0 0 0, xo [⟨2, r.name, [], x, r.base⟩]] (HS h r) (xB (zP n) 0) [.own false 17 [xJ 1 h r], .own false 4 ((h.fols.set k ⟨r.folder, j'⟩).map Fol.row)] := by rw [← hs1]; exact hc
    show qm C2h.P _ _ _ _ [.own false 17 [xJ 1 { h with fols := h.fols.set k ⟨r.folder, j'⟩, ups := u } r], .own false 4 ((h.fols.set k ⟨r.folder, j'⟩).map Fol.row)]
    rw [hs2]
    generalize h.fols.set k ⟨r.folder, j'⟩ = F' at *
    refine qa (C := C2h) Tryz.func90 rfl _ Tryz.ntmps90 (Nat.le_of_ble_eq_true rfl) _ Tryz.results90 2 rfl rfl ?_
    repeat' (first | refine qe ?_ | (first | refine xsQ Tryz.func128 (hf ..) ?_ | (refine j4 ?_) | (apply qH Tryz.func91 rfl rfl; intro hIsFn; refine yX [0, 1] [(0, .own false 17 [xJ 1 h r]), (1, .own false 4 (F'.map Fol.row))] (xB (zP n) 0) hIsFn (hc) (by ((repeat' (first | exact jN | apply jy | exact jM rfl | exact yo | (apply qy; apply jh; exact .inr (of_decide_eq_true rfl)) | (apply qy; apply je; exact .inr (of_decide_eq_true rfl)) | (apply qy; apply q8; exact .inr (of_decide_eq_true rfl)) | apply j0 | apply j1))) <;> fail) (by ((repeat' (first | exact ji | exact jj | refine qZ _ ?_ ?_ | refine qX ?_ ?_ | exact qI | exact qg (sideM_pure _) | exact qg (jx _) | exact qg (goesM_pure _) | exact q6 (fun _ => rfl) | refine qY ?_ | exact q7 | apply qu | exact qw rfl | (apply je; exact .inr (of_decide_eq_true rfl)) | (apply q8; exact .inr (of_decide_eq_true rfl)) | (apply jh; exact .inr (of_decide_eq_true rfl)) | fail))) <;> fail) (by ((repeat' (first | exact ji | exact jj | refine qZ _ ?_ ?_ | refine qX ?_ ?_ | exact qI | exact qg (sideM_pure _) | exact qg (jx _) | exact qg (goesM_pure _) | exact q6 (fun _ => rfl) | refine qY ?_ | exact q7 | apply qu | exact qw rfl | (apply je; exact .inr (of_decide_eq_true rfl)) | (apply q8; exact .inr (of_decide_eq_true rfl)) | (apply jh; exact .inr (of_decide_eq_true rfl)) | skip))) <;> fail) ?_)) | ((first | refine qb ?_ ?_ | refine qc ?_ ?_ | refine xsC ?_ ?_); all_goals (intro hc; have hp := hc; try simp at hp; try (exfalso; omega))) | refine qv ?_ ?_)
    all_goals try (exfalso; omega)
    (apply jl (rs := [.cell 2 46, .tmp 3]) [] 2; (case hr => (repeat (first | exact qQ | (apply qR; rfl) | (apply qF; rfl; rfl; rfl; rfl; rfl)))); (case hL => rfl); (case hh => (repeat' (first | exact qh | refine yN ?_ | refine yS ?_ | refine Jk ?_ | refine qO ?_ ?_)); all_goals rfl); (case hi => exact rfl); (case hz => first | rfl | (simp [jB, AV.ren, AV.ren.renL, qW, qq, qS]; done) | (simp [jB, AV.ren, AV.ren.renL, qW, qq, qS, *]; done) | trace_state))
  · rw [if_neg h0] at hc ⊢
    refine qa (C := C2h) Tryz.func90 rfl _ Tryz.ntmps90 (Nat.le_of_ble_eq_true rfl) _ Tryz.results90 2 rfl rfl ?_
    repeat' (first | refine qe ?_ | (first | refine xsQ Tryz.func128 (hf ..) ?_ | (refine j4 ?_) | (apply qH Tryz.func91 rfl rfl; intro hIsFn; refine yX [0, 1] [(0, .own false 17 [xJ 1 h r]), (1, .own false 4 (h.fols.map Fol.row))] (xB (zP n) e) hIsFn (hc) (by ((repeat' (first | exact jN | apply jy | exact jM rfl | exact yo | (apply qy; apply jh; exact .inr (of_decide_eq_true rfl)) | (apply qy; apply je; exact .inr (of_decide_eq_true rfl)) | (apply qy; apply q8; exact .inr (of_decide_eq_true rfl)) | apply j0 | apply j1))) <;> fail) (by ((repeat' (first | exact ji | exact jj | refine qZ _ ?_ ?_ | refine qX ?_ ?_ | exact qI | exact qg (sideM_pure _) | exact qg (jx _) | exact qg (goesM_pure _) | exact q6 (fun _ => rfl) | refine qY ?_ | exact q7 | apply qu | exact qw rfl | (apply je; exact .inr (of_decide_eq_true rfl)) | (apply q8; exact .inr (of_decide_eq_true rfl)) | (apply jh; exact .inr (of_decide_eq_true rfl)) | fail))) <;> fail) (by ((repeat' (first | exact ji | exact jj | refine qZ _ ?_ ?_ | refine qX ?_ ?_ | exact qI | exact qg (sideM_pure _) | exact qg (jx _) | exact qg (goesM_pure _) | exact q6 (fun _ => rfl) | refine qY ?_ | exact q7 | apply qu | exact qw rfl | (apply je; exact .inr (of_decide_eq_true rfl)) | (apply q8; exact .inr (of_decide_eq_true rfl)) | (apply jh; exact .inr (of_decide_eq_true rfl)) | skip))) <;> fail) ?_)) | ((first | refine qb ?_ ?_ | refine qc ?_ ?_ | refine xsC ?_ ?_); all_goals (intro hc; have hp := hc; try simp at hp; try (exfalso; omega))) | refine qv ?_ ?_)
    all_goals try (exfalso; omega)
    (apply jl (rs := [.cell 2 46, .tmp 3]) [] 2; (case hr => (repeat (first | exact qQ | (apply qR; rfl) | (apply qF; rfl; rfl; rfl; rfl; rfl)))); (case hL => rfl); (case hh => (repeat' (first | exact qh | refine yN ?_ | refine yS ?_ | refine Jk ?_ | refine qO ?_ ?_)); all_goals rfl); (case hi => exact rfl); (case hz => first | rfl | (simp [jB, AV.ren, AV.ren.renL, qW, qq, qS]; done) | (simp [jB, AV.ren, AV.ren.renL, qW, qq, qS, *]; done) | trace_state))
end Go.Proofs.YtiljlcgmcmjcoaaGreatDoor
set_option linter.unusedSimpArgs false
set_option linter.unnecessarySimpa false
set_option linter.unusedVariables false
set_option maxHeartbeats 1000000
namespace Go.Proofs.YtiljlcgmcmjcoaaGreatDoor
open Go.Ab Go.RowKit
set_option maxRecDepth 10000
theorem VR {h : Nat → HB} {a a' b b' : List (List AV)} (h1 : qB h a a') (h2 : qB h b b') : qB h (a ++ b) (a' ++ b') := by
  obtain ⟨l1, p1⟩ := h1
  obtain ⟨l2, p2⟩ := h2
  refine ⟨by simp [l1, l2], fun i row row' hr hr' => ?_⟩
  by_cases hi : i < a.length
  · rw [List.getElem?_append_left hi] at hr
    rw [List.getElem?_append_left (by omega)] at hr'
    exact p1 i row row' hr hr'
  · rw [List.getElem?_append_right (by omega)] at hr
    rw [List.getElem?_append_right (by omega)] at hr'
    rw [l1] at hr
    exact p2 _ row row' hr hr'
attribute [local irreducible] Awp jZ jg qJ Red qz Go.Ab.Fin qm Rz y0 qB qG ResOk jG q9 jK qV
def Vr (f : qC) : List AV := [.v (str f), .sl true [], .v (.int .i64 1), .sl true []]
theorem qat (l : List Fol) (g : qC) (hl : l.length ≤ 1000000) :
    qm C1.P 123 [.os 0 0 l.length, .v (.int .i64 l.length), .sl false [Vr g]] [.own false 4 (l.map Fol.row)] (.os 1 0 (l.length + 1)) [.dead, .own false 4 (l.map Fol.row ++ [Vr g])] := by
  have hpu : ∀ row, row ∈ l.map Fol.row ++ [Vr g] → AV.pure.pureL row = true := fun row hr => by
    rcases List.mem_append.1 hr with hr | hr
    · obtain ⟨x, _, rfl⟩ := List.mem_map.1 hr; rfl
    · rw [List.mem_singleton.1 hr]; rfl
  refine qa (C := C1) Tryz.func123 rfl _ Tryz.ntmps123 (Nat.le_of_ble_eq_true rfl) _ Tryz.results123 1 rfl rfl ?_
  repeat' (first | refine qe ?_ | (first | (refine Ji ?_) | (refine xK ?_)) | ((first | refine qb ?_ ?_ | refine qc ?_ ?_ | refine xsC ?_ ?_); all_goals (intro hc; have hp := hc; try simp at hp; try (exfalso; omega))) | refine qv ?_ ?_)
  (refine QB (rs := [.tmp 6]) [(1, 1)] 2 ?_; (apply j6 0; exact jm rfl; (repeat (first | exact qh | refine jU ?_ | refine qO ?_ ?_))); all_goals trace_state)
theorem qcm (l : List Fol) (g : qC) (i : Nat) (hi : i < l.length) (hl : l.length ≤ 1000000) :
    qm C1.P 123 [.os 0 0 l.length, .v (.int .i64 (i : Int)), .sl false [Vr g]] [.own false 4 (l.map Fol.row)] (.os 1 0 (l.length + 1)) [.dead, .own false 4 ((l.take i).map Fol.row ++ ([Vr g] ++ (l.drop i).map Fol.row))] := by
  have hpu : ∀ row, row ∈ (l.take i).map Fol.row ++ ([Vr g] ++ (l.drop i).map Fol.row) → AV.pure.pureL row = true := fun row hr => by
    rcases List.mem_append.1 hr with hr | hr
    · obtain ⟨x, _, rfl⟩ := List.mem_map.1 hr; rfl
    · rcases List.mem_append.1 hr with hr | hr
      · rw [List.mem_singleton.1 hr]; rfl
      · obtain ⟨x, _, rfl⟩ := List.mem_map.1 hr; rfl
  refine qa (C := C1) Tryz.func123 rfl _ Tryz.ntmps123 (Nat.le_of_ble_eq_true rfl) _ Tryz.results123 1 rfl rfl ?_
  refine Wj 0 4 (l.map Fol.row) rfl fun cap hcap => ?_
  rw [List.length_map] at hcap
  have hRt : (l.map Fol.row ++ x7 4 (cap - (l.map Fol.row).length)).take l.length = l.map Fol.row := by
    rw [List.take_append_of_le_length (by simp), List.take_of_length_le (by simp)]
  have hRl : l.length ≤ (l.map Fol.row ++ x7 4 (cap - (l.map Fol.row).length)).length := by simp
  generalize l.map Fol.row ++ x7 4 (cap - (l.map Fol.row).length) = R at hRt hRl ⊢
  have hcut : (R.drop i).take (l.length - i) = (l.drop i).map Fol.row := by rw [← List.drop_take, hRt, List.map_drop]
  have hti : R.take i = (l.take i).map Fol.row := by rw [List.map_take, ← hRt, List.take_take, Nat.min_eq_left (by omega)]
  have hck : ∀ row, row ∈ (l.drop i).map Fol.row → row.length = 4 := fun row hr => by obtain ⟨x, _, rfl⟩ := List.mem_map.1 hr; rfl
  have hcl : ∀ row, row ∈ (l.drop i).map Fol.row → row.all jS = true := fun row hr => by obtain ⟨x, _, rfl⟩ := List.mem_map.1 hr; rfl
  repeat' (first | refine qe ?_ | (first | (refine Ji ?_) | (apply qj; apply Y1; (case hx => rfl); (case hn => rfl); (case hT => rfl); (case he => rfl); (case hN => exact nle rfl)) | (apply yZ; apply wj; (case hx => rfl); (case hT => rfl); (case he => rfl); (case hE => rfl); (case hn => rfl); (case hl => (first | omega | (simp; done) | (simp only [List.length_cons, List.length_nil, List.length_map]; omega) | (simp; omega))); (case hy => exact congrArg (fun z => AV.v (Value.int IntKind.i64 z)) (show ((l.length + 1 : Nat) : Int) - (i : Int) = ((l.length + 1 - i : Nat) : Int) from by omega)); (case hxT => rfl); (case hxk => rfl); (case hz => rfl); (case hs0 => exact Nat.ne_of_beq_eq_false rfl); (case hg => omega); (case hsz => (first | omega | (simp; done) | (simp only [List.length_cons, List.length_nil, List.length_map]; omega) | (simp; omega))); (case hlen => (first | omega | (simp; done) | (simp only [List.length_cons, List.length_nil, List.length_map]; omega) | (simp; omega))); (case hN => exact nle rfl)) | (apply qj; apply QZ; exact Tryz.func150; (case hname => rfl); (case hb => rfl); (case hnx => rfl); (case hex => rfl); (case hT => rfl); (case he => rfl); (case hE => rfl); (case hx => rfl); (case hy => rfl); (case hm => rfl); (case hk => exact Nat.ne_of_beq_eq_false rfl); (case hrw => intro row hrow; rw [List.mem_singleton.1 hrow]; exact Nat.succ_ne_zero _); (case hN => exact nle rfl)) | (apply zF; apply zY; (case hx => rfl); (case hT => rfl); (case he => rfl); (case hE => rfl); (case hn => rfl); (case hsrc => exact Wp (zb rfl rfl)); (case hmin => exact Nat.min_eq_left (by (first | omega | (simp; done) | (simp only [List.length_cons, List.length_nil, List.length_map]; omega) | (simp; omega)))); (case hfit => (first | omega | (simp; done) | (simp only [List.length_cons, List.length_nil, List.length_map]; omega) | (simp; omega))); (case hN => exact nle rfl)) | (apply zF; apply zY; (case hx => rfl); (case hT => rfl); (case he => rfl); (case hE => rfl); (case hn => rfl); (case hsrc => exact V0 (cnt := l.length - i) rfl (List.mem_singleton.2 rfl) rfl (by omega) (by omega) (by first | exact hcut | simpa using hcut) hck hcl); (case hmin => (first | exact (Nat.min_eq_left (by (first | omega | (simp; done) | (simp only [List.length_cons, List.length_nil, List.length_map]; omega) | (simp; omega)))).trans (by (first | omega | (simp; done) | (simp only [List.length_cons, List.length_nil, List.length_map]; omega) | (simp; omega))) | exact (Nat.min_eq_right (by (first | omega | (simp; done) | (simp only [List.length_cons, List.length_nil, List.length_map]; omega) | (simp; omega)))).trans (by (first | omega | (simp; done) | (simp only [List.length_cons, List.length_nil, List.length_map]; omega) | (simp; omega))))); (case hfit => (first | omega | (simp; done) | (simp only [List.length_cons, List.length_nil, List.length_map]; omega) | (simp; omega))); (case hN => exact nle rfl))) | ((first | refine qb ?_ ?_ | refine qc ?_ ?_ | refine xsC ?_ ?_); all_goals (intro hc; have hp := hc; try simp at hp; try (exfalso; omega))) | refine qv ?_ ?_)
  all_goals try (exfalso; omega)
  · have hrow := qcF R (x7 4 (l.length + 1 - i)) ((l.drop i).map Fol.row) (Vr g) (i := i) (a := 0 + i) (b := 0 + i + 1) (c := 0 + (i + 1)) (d := 0 + (i + 1) + ((l.drop i).map Fol.row).length) (by omega) (by simp; omega) (by omega) (by omega) (by omega) (by omega)
    (apply jl (rs := [.tmp 6]) [(1, 1)] 2; (case hr => (repeat (first | exact qQ | (apply qR; rfl) | (apply qF; rfl; rfl; rfl; rfl; rfl)))); (case hL => rfl); (case hh => (apply j6 0; exact jm rfl; (repeat (first | exact qh | refine jU ?_ | refine qO ?_ ?_))); all_goals (refine hrow.trans ?_; rw [hti])); (case hi => first | exact (rfl : _ = ([] : List (Nat × Nat))) | exact (rfl : _ = [((0 : Nat), (0 : Nat))]) | exact (rfl : _ = [((0 : Nat), (0 : Nat)), (1, 1)])); (case hz => first | rfl | (simp [jB, AV.ren, AV.ren.renL, qW, qq, qS]; done) | (simp [jB, AV.ren, AV.ren.renL, qW, qq, qS, *]; done) | (simp [jB, AV.ren, AV.ren.renL, qW, qq, qS]; omega)))
  · have hrow := qeY R ((l.drop i).map Fol.row) (Vr g) (i := i) (a := 0 + 0 + (i + 1)) (b := 0 + 0 + (i + 1) + ((l.drop i).map Fol.row).length) (c := 0 + 0 + i) (d := 0 + 0 + i + 1) (m := l.length + 1) (by omega) (by omega) (by omega) (by omega) (by simp; omega)
    have hrow := hrow.trans (show _ = (l.take i).map Fol.row ++ ([Vr g] ++ (l.drop i).map Fol.row) from by rw [hti])
    apply w6 (C := C1) 6 0 (l.length + 1)
    case hi => rfl
    case hn => rfl
    case hr => exact hrow
    case hnn => exact Nat.ne_of_beq_eq_false rfl
    case hnx => exact Nat.le_of_ble_eq_true rfl
    (apply jl (rs := [.tmp 6]) [(1, 1)] 2; (case hr => (repeat (first | exact qQ | (apply qR; rfl) | (apply qF; rfl; rfl; rfl; rfl; rfl)))); (case hL => rfl); (case hh => (apply j6 0; exact jm rfl; (repeat (first | exact qh | refine jU ?_ | refine qO ?_ ?_))); all_goals trace_state); (case hi => first | exact (rfl : _ = ([] : List (Nat × Nat))) | exact (rfl : _ = [((0 : Nat), (0 : Nat))]) | exact (rfl : _ = [((0 : Nat), (0 : Nat)), (1, 1)])); (case hz => first | rfl | (simp [jB, AV.ren, AV.ren.renL, qW, qq, qS]; done) | (simp [jB, AV.ren, AV.ren.renL, qW, qq, qS, *]; done) | (simp [jB, AV.ren, AV.ren.renL, qW, qq, qS]; omega)))
def J9 (l : List Fol) (f : qC) : List (List AV) := (l.take (xW l f)).map Fol.row ++ ([Vr f] ++ (l.drop (xW l f)).map Fol.row)
theorem Kn (l : List Fol) (f : qC) : ∀ row, row ∈ J9 l f → AV.pure.pureL row = true := fun row hr => by
  unfold J9 at hr
  rcases List.mem_append.1 hr with hr | hr
  · obtain ⟨x, _, rfl⟩ := List.mem_map.1 hr; rfl
  · rcases List.mem_append.1 hr with hr | hr
    · rw [List.mem_singleton.1 hr]; rfl
    · obtain ⟨x, _, rfl⟩ := List.mem_map.1 hr; rfl
theorem qfB (l : List Fol) (f : qC) (hl : l.length ≤ 1000000) :
    qm C1.P 123 [.os 0 0 l.length, .v (.int .i64 (xW l f)), .sl false [Vr f]] [.own false 4 (l.map Fol.row)] (.os 1 0 (l.length + 1)) [.dead, .own false 4 (J9 l f)] := by
  have hp := Vk l f
  unfold J9
  by_cases h : xW l f < l.length
  · exact qcm l f _ h hl
  · have he : xW l f = l.length := by omega
    rw [he, List.take_length, List.drop_length]
    exact qat l f hl
theorem qhp {h : Nat → HB} {n k : Nat} {l : List Fol} {f : qC} (hn : h n = .own false 4 (J9 l f)) (hk : k = l.length + 1) : Rz h (.os n 0 k) (wY (JW l f)) := by
  have hp := Vk l f
  have hlen : (J9 l f).length = l.length + 1 := by unfold J9; simp; omega
  refine Kg hn (by omega) ?_
  rw [List.drop_zero, hk, ← hlen, List.take_length]
  show qB h _ ((l.take (xW l f) ++ ([(⟨f, V4⟩ : Fol)] ++ l.drop (xW l f))).map Fol.row)
  rw [List.map_append, List.map_append]
  exact VR (wl fun _ => rfl) (VR (qax (ql (qM rfl) (ql yC (ql (qM rfl) (ql yC qT)))) qcn) (wl fun _ => rfl))
theorem QH {L : List (Nat × Nat)} {nh : Nat} : ∀ {cs : List AV}, AV.pure.pureL cs = true → q9 L nh cs cs
  | [], _ => q7
  | c :: cs, h => by
    have h2 : (c.pure && AV.pure.pureL cs) = true := h
    rw [Bool.and_eq_true] at h2
    exact qu (qw h2.1) (QH h2.2)
theorem qcA {L : List (Nat × Nat)} {σ : St} {ex ex' : Bool} {cs : List AV} {l : List (Nat × HB)} {n n' k w : Nat} (hl : x9 L 2 σ l) (hn : Maps L 2 n n' := by exact .inr (List.mem_cons_self ..)) (hx : ja σ.hs 0 = .own ex w [.os n 0 k :: cs] := by rfl) (hc : AV.pure.pureL cs = true := by rfl) (he : ex' = true → ex = true := by first | exact id | exact nofun) : x9 L 2 σ ((0, .own ex' w [.os n' 0 k :: cs]) :: l) :=
  YB (jm rfl) hx he (kH (qu (q8 hn) (QH hc)) wP) hl
theorem XR (h : Hub) (hb : HBig h) (r : Rqt) (rb : RBig r) (he : j5 h.gras r.folder r.who = 0 → h.fols.length = 8) :
    qm C2h.P 82 [.op 0 0 0] (HS h r) (xB (zP 0) (if j5 h.gras r.folder r.who = 0 then 2 else j5 h.gras r.folder r.who)) (HS h r) := by
  have hm := qfq h.gras hb.gras r.folder r.who rb.folder rb.who
  have hml : (h.fols.map Fol.row).length = h.fols.length := List.length_map ..
  generalize xO h.gras r.folder r.who 3 = L at *
  generalize j5 h.gras r.folder r.who = E at *
  by_cases h0 : E = 0
  · have h8 := he h0
    rw [if_pos h0] at hm ⊢
    subst h0
    refine qa (C := C2h) Tryz.func82 rfl _ Tryz.ntmps82 (Nat.le_of_ble_eq_true rfl) _ Tryz.results82 2 rfl rfl ?_
    repeat' (first | refine qe ?_ | (first | refine xsQ Tryz.func60 (hm ..) ?_) | ((first | refine qb ?_ ?_ | refine qc ?_ ?_ | refine xsC ?_ ?_); all_goals (intro hc; have hp := hc; try simp at hp; try (exfalso; omega))) | refine qv ?_ ?_)
    all_goals try (exfalso; omega)
    (apply jl (rs := [.cell 2 46, .tmp 3]) [] 2; (case hr => (repeat (first | exact qQ | (apply qR; rfl) | (apply qF; rfl; rfl; rfl; rfl; rfl)))); (case hL => rfl); (case hh => (repeat' (first | exact qh | refine yN ?_ | refine yS ?_ | refine Jk ?_ | refine qO ?_ ?_)); all_goals rfl); (case hi => exact rfl); (case hz => first | rfl | (simp [jB, AV.ren, AV.ren.renL, qW, qq, qS]; done) | (simp [jB, AV.ren, AV.ren.renL, qW, qq, qS, *]; done) | trace_state))
  · rw [if_neg h0] at hm ⊢
    refine qa (C := C2h) Tryz.func82 rfl _ Tryz.ntmps82 (Nat.le_of_ble_eq_true rfl) _ Tryz.results82 2 rfl rfl ?_
    repeat' (first | refine qe ?_ | (first | refine xsQ Tryz.func60 (hm ..) ?_) | ((first | refine qb ?_ ?_ | refine qc ?_ ?_ | refine xsC ?_ ?_); all_goals (intro hc; have hp := hc; try simp at hp; try (exfalso; omega))) | refine qv ?_ ?_)
    all_goals try (exfalso; omega)
    (apply jl (rs := [.cell 2 46, .tmp 3]) [] 2; (case hr => (repeat (first | exact qQ | (apply qR; rfl) | (apply qF; rfl; rfl; rfl; rfl; rfl)))); (case hL => rfl); (case hh => (repeat' (first | exact qh | refine yN ?_ | refine yS ?_ | refine Jk ?_ | refine qO ?_ ?_)); all_goals rfl); (case hi => exact rfl); (case hz => first | rfl | (simp [jB, AV.ren, AV.ren.renL, qW, qq, qS]; done) | (simp [jB, AV.ren, AV.ren.renL, qW, qq, qS, *]; done) | trace_state))
def Wh (h : Hub) (r : Rqt) : Hub := { h with fols := JW h.fols r.folder, gras := xO h.gras r.folder r.who 3 }
theorem qeW (h : Hub) (hb : HBig h) (r : Rqt) (rb : RBig r) (hr : HRight h) (h0 : j5 h.gras r.folder r.who = 0) (h8 : ¬ h.fols.length = 8) :
    qm C2h.P 82 [.op 0 0 0] (HS h r) (xB (zP 0) 0) [.own false 17 [xJ 2 (Wh h r) r], .dead, .own false 4 (J9 h.fols r.folder)] := by
  have hm := qfq h.gras hb.gras r.folder r.who rb.folder rb.who
  rw [if_pos h0, h0] at hm
  have hml : (h.fols.map Fol.row).length = h.fols.length := List.length_map ..
  have hf := Yk h r.folder (by have := hr.len; omega) hr.rise
  rw [show xy h.fols r.folder = false from by rw [hr.has]; exact (XI h0).2.2.2.1] at hf
  have hin := qfB h.fols r.folder (by have := hr.len; omega)
  have hpu : ∀ row, row ∈ J9 h.fols r.folder → AV.pure.pureL row = true := fun row hr => by
    unfold J9 at hr
    rcases List.mem_append.1 hr with hr | hr
    · obtain ⟨x, _, rfl⟩ := List.mem_map.1 hr; rfl
    · rcases List.mem_append.1 hr with hr | hr
      · rw [List.mem_singleton.1 hr]; rfl
      · obtain ⟨x, _, rfl⟩ := List.mem_map.1 hr; rfl
  have hpl := Vk h.fols r.folder
  have hsr : xJ 2 (Wh h r) r = .os 2 0 (h.fols.length + 1) :: jw (xO h.gras r.folder r.who 3) :: (xJ 2 h r).drop 2 := by
    show _ :: _ :: _ = _
    rw [show (Wh h r).fols.length = h.fols.length + 1 from Yq _ _]; rfl
  rw [hsr]
  clear hsr
  generalize xO h.gras r.folder r.who 3 = L at *
  generalize J9 h.fols r.folder = R at *
  refine qa (C := C2h) Tryz.func82 rfl _ Tryz.ntmps82 (Nat.le_of_ble_eq_true rfl) _ Tryz.results82 2 rfl rfl ?_
  repeat' (first | refine qe ?_ | (first | refine xsQ Tryz.func60 (hm ..) ?_ | (apply qj; apply yi [1]; exact jJ Tryz.func58 rfl rfl; exact hf; (case hz => exact ql (Vo rfl) (ql (qM rfl) qT)); (case hfl => rfl); (case hN => exact nle rfl)) | (refine j4 ?_) | (apply qH Tryz.func123 rfl rfl; intro hIsFn; refine v7 ([1]) 1 hIsFn (hin ..) ?_)) | ((first | refine qb ?_ ?_ | refine qc ?_ ?_ | refine xsC ?_ ?_); all_goals (intro hc; have hp := hc; try simp at hp; try (exfalso; omega))) | refine qv ?_ ?_)
  all_goals try (exfalso; omega)
  apply jl (rs := [.cell 2 46, .tmp 3]) [(3, 2)] 3
  case hr => (repeat (first | exact qQ | (apply qR; rfl) | (apply qF; rfl; rfl; rfl; rfl; rfl)))
  case hL => rfl
  case hh =>
    refine qcA ?_
    refine j6 1 (jm rfl) ?_
    refine Jk ?_
    exact qh
  case hi => exact rfl
  case hz => first | rfl | trace_state
end Go.Proofs.YtiljlcgmcmjcoaaGreatDoor
