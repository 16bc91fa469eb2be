import Derived.Test.YtiljlcgmcmjcoaaGreatDoorMz29
import Derived.Test.YtiljlcgmcmjcoaaGreatDoorMz22
import Derived.Test.YtiljlcgmcmjcoaaGreatDoorMz7
set_option linter.unusedSimpArgs false
set_option linter.unnecessarySimpa false
set_option linter.unusedVariables false
set_option maxHeartbeats 1000000
namespace Go.Proofs.YtiljlcgmcmjcoaaGreatDoor
open Go.Ab Go.RowKit
set_option maxRecDepth 10000
attribute [local irreducible] Awp jV q9 qJ Red qy Go.Ab.Fin ql Rz yQ qA qG ResOk jC q6 jH qT
theorem qgT (h : Hub) (r : Rqt) (hk : r.kind < 1 ∨ 8 < r.kind) : ql C2h.P 45 [.op 0 0 0] (HS h r) (xn (zz 0) 7) (HS h r) := by
  refine qa (C := C2h) Tryz.func45 rfl _ Tryz.ntmps45 (Nat.le_of_ble_eq_true rfl) _ Tryz.results45 2 rfl rfl ?_
  repeat' (first | refine qe ?_ | (first | fail) | ((first | refine qc ?_ ?_ | refine qb ?_ ?_ | refine xsC ?_ ?_); all_goals (intro hc; have hp := hc; try simp at hp; try (exfalso; omega))) | refine qw ?_ ?_)
  all_goals try (exfalso; first | omega | (rcases hk with hk | hk <;> simp_all <;> omega))
  all_goals ((apply je (rs := [.cell 2 46, .tmp 3]) [] 2; (case hr => (repeat (first | exact qO | (apply qP; rfl) | (apply qE; rfl; rfl; rfl; rfl; rfl)))); (case hL => rfl); (case hh => (repeat' (first | exact qg | refine yK ?_ | refine yF ?_ | refine Q9 ?_ | refine qM ?_ ?_)); all_goals rfl); (case hi => exact rfl); (case hz => first | rfl | (simp [jw, AV.ren, AV.ren.renL, qU, qp, qS]; done) | (simp [jw, AV.ren, AV.ren.renL, qU, qp, qS, *]; done) | trace_state)))
theorem qeE (h : Hub) (r : Rqt) (rb : r.who.length ≤ 1000000000) (hk : 1 ≤ r.kind ∧ r.kind ≤ 8) (hn : qo r.who = false) : ql C2h.P 45 [.op 0 0 0] (HS h r) (xn (zz 0) 1) (HS h r) := by
  have hw := xA r.who (jN rb)
  rw [hn] at hw
  refine qa (C := C2h) Tryz.func45 rfl _ Tryz.ntmps45 (Nat.le_of_ble_eq_true rfl) _ Tryz.results45 2 rfl rfl ?_
  repeat' (first | refine qe ?_ | (first | refine xsF Tryz.func37 (hw ..) ?_) | ((first | refine qc ?_ ?_ | refine qb ?_ ?_ | refine xsC ?_ ?_); all_goals (intro hc; have hp := hc; try simp at hp; try (exfalso; omega))) | refine qw ?_ ?_)
  all_goals try (exfalso; omega)
  all_goals ((apply je (rs := [.cell 2 46, .tmp 3]) [] 2; (case hr => (repeat (first | exact qO | (apply qP; rfl) | (apply qE; rfl; rfl; rfl; rfl; rfl)))); (case hL => rfl); (case hh => (repeat' (first | exact qg | refine yK ?_ | refine yF ?_ | refine Q9 ?_ | refine qM ?_ ?_)); all_goals rfl); (case hi => exact rfl); (case hz => first | rfl | (simp [jw, AV.ren, AV.ren.renL, qU, qp, qS]; done) | (simp [jw, AV.ren, AV.ren.renL, qU, qp, qS, *]; done) | trace_state)))
def wm (n : Int) (b : Bool) (x1 : Bool) (R1 : List (List AV)) (x2 : Bool) (R2 : List (List AV)) (c : Int) (m : Bool) : List AV := [.v (.int .i64 0), .v (.int .i64 n), .v (.bool b), .sl x1 R1, .sl x2 R2, .v (.int .i64 c), .v (.bool m)]
theorem qam (h h' : Hub) (r : Rqt) (rb : r.who.length ≤ 1000000000) (hn : qo r.who = true) (hk : r.kind = 8) (rows : List (List AV)) (hpu : ∀ row, row ∈ rows → AV.pure.pureL row = true) (cs : List AV) (k : Nat) (hcp : AV.pure.pureL cs = true) (hc : ql C2h.P 82 [.op 0 0 0] (HS h r) (xn (zz 0) 0) [.own false 17 [.os 2 0 k :: cs], .dead, .own false 4 rows]) :
    ql C2h.P 45 [.op 0 0 0] (HS h r) (xn (zz 0) 0) [.own false 17 [.os 2 0 k :: cs], .dead, .own false 4 rows] := by
  have hw := xA r.who (jN rb)
  rw [hn] at hw
  obtain ⟨kind, who, folder, name, key, text, number, offset, base, chs⟩ := r
  dsimp only at *
  subst hk
  refine qa (C := C2h) Tryz.func45 rfl _ Tryz.ntmps45 (Nat.le_of_ble_eq_true rfl) _ Tryz.results45 2 rfl rfl ?_
  repeat' (first | refine qe ?_ | (first | refine xsF Tryz.func37 (hw ..) ?_ | (apply qH Tryz.func82 rfl rfl; intro hIsFn; refine KW [0, 1] [4] [(0, .own false 17 [.os 4 0 k :: cs]), (1, .dead), (4, .own false 4 rows)] 5 (xn (zz 0) 0) hIsFn (hc) (by ((repeat' (first | exact jJ | apply ju | exact jK rfl | exact yi | (apply qx; apply ja; exact .inr (of_decide_eq_true rfl)) | (apply qx; apply q8; exact .inr (of_decide_eq_true rfl)) | (apply qx; apply q5; exact .inr (of_decide_eq_true rfl)) | apply jW | apply jX))) <;> fail) (by ((repeat' (first | exact jg | exact jd | refine qX _ ?_ ?_ | refine qW ?_ ?_ | exact qI | exact qf (sideM_pure _) | exact qf (jt _) | exact qf (goesM_pure _) | exact qV (fun _ => rfl) | refine qY ?_ | exact q3 | apply qt | exact qv rfl | (apply q8; exact .inr (of_decide_eq_true rfl)) | (apply q5; exact .inr (of_decide_eq_true rfl)) | (apply ja; exact .inr (of_decide_eq_true rfl)) | fail))) <;> fail) (by ((repeat' (first | exact jg | exact jd | refine qX _ ?_ ?_ | refine qW ?_ ?_ | exact qI | exact qf (sideM_pure _) | exact qf (jt _) | exact qf (goesM_pure _) | exact qV (fun _ => rfl) | refine qY ?_ | exact q3 | apply qt | exact qv rfl | (apply q8; exact .inr (of_decide_eq_true rfl)) | (apply q5; exact .inr (of_decide_eq_true rfl)) | (apply ja; exact .inr (of_decide_eq_true rfl)) | first | exact Qm hcp | exact vO hpu))) <;> fail) ?_)) | ((first | refine qc ?_ ?_ | refine qb ?_ ?_ | refine xsC ?_ ?_); all_goals (intro hc; have hp := hc; try simp at hp; try (exfalso; omega))) | refine qw ?_ ?_)
  all_goals try (exfalso; omega)
  apply je (rs := [.cell 2 46, .tmp 3]) [(4, 2)] 3
  case hr => (repeat (first | exact qO | (apply qP; rfl) | (apply qE; rfl; rfl; rfl; rfl; rfl)))
  case hL => rfl
  case hh =>
    refine qcA ?_ (hc := hcp)
    refine j4 1 (jh rfl) ?_
    refine Q9 ?_
    exact qg
  case hi => exact rfl
  case hz => first | rfl | trace_state
theorem qaH (h h' : Hub) (r : Rqt) (rb : r.who.length ≤ 1000000000) (hn : qo r.who = true) (hk : r.kind = 8) (n : Int) (b : Bool) (x1 : Bool) (R1 : List (List AV)) (x2 : Bool) (R2 : List (List AV)) (c : Int) (m : Bool) (e : Int) (hc : ql C2h.P 82 [.op 0 0 0] (HS h r) (xn (wm n b x1 R1 x2 R2 c m) e) (HS h' r)) :
    ql C2h.P 45 [.op 0 0 0] (HS h r) (xn (wm n b x1 R1 x2 R2 c m) e) (HS h' r) := by
  have hw := xA r.who (jN rb)
  rw [hn] at hw
  obtain ⟨kind, who, folder, name, key, text, number, offset, base, chs⟩ := r
  dsimp only at *
  subst hk
  refine qa (C := C2h) Tryz.func45 rfl _ Tryz.ntmps45 (Nat.le_of_ble_eq_true rfl) _ Tryz.results45 2 rfl rfl ?_
  repeat' (first | refine qe ?_ | (first | refine xsF Tryz.func37 (hw ..) ?_ | (apply qH Tryz.func82 rfl rfl; intro hIsFn; refine yN [0, 1] [(0, .own false 17 [xy 1 h' ⟨8, who, folder, name, key, text, number, offset, base, chs⟩]), (1, .own false 4 (h'.fols.map Fol.row))] (xn (wm n b x1 R1 x2 R2 c m) e) hIsFn (hc) (by ((repeat' (first | exact jJ | apply ju | exact jK rfl | exact yi | (apply qx; apply ja; exact .inr (of_decide_eq_true rfl)) | (apply qx; apply q8; exact .inr (of_decide_eq_true rfl)) | (apply qx; apply q5; exact .inr (of_decide_eq_true rfl)) | apply jW | apply jX))) <;> fail) (by ((repeat' (first | exact jg | exact jd | refine qX _ ?_ ?_ | refine qW ?_ ?_ | exact qI | exact qf (sideM_pure _) | exact qf (jt _) | exact qf (goesM_pure _) | exact qV (fun _ => rfl) | refine qY ?_ | exact q3 | apply qt | exact qv rfl | (apply q8; exact .inr (of_decide_eq_true rfl)) | (apply q5; exact .inr (of_decide_eq_true rfl)) | (apply ja; exact .inr (of_decide_eq_true rfl)) | fail))) <;> fail) (by ((repeat' (first | exact jg | exact jd | refine qX _ ?_ ?_ | refine qW ?_ ?_ | exact qI | exact qf (sideM_pure _) | exact qf (jt _) | exact qf (goesM_pure _) | exact qV (fun _ => rfl) | refine qY ?_ | exact q3 | apply qt | exact qv rfl | (apply q8; exact .inr (of_decide_eq_true rfl)) | (apply q5; exact .inr (of_decide_eq_true rfl)) | (apply ja; exact .inr (of_decide_eq_true rfl)) | skip))) <;> fail) ?_)) | ((first | refine qc ?_ ?_ | refine qb ?_ ?_ | refine xsC ?_ ?_); all_goals (intro hc; have hp := hc; try simp at hp; try (exfalso; omega))) | refine qw ?_ ?_)
  all_goals try (exfalso; omega)
  (apply je (rs := [.cell 2 46, .tmp 3]) [] 2; (case hr => (repeat (first | exact qO | (apply qP; rfl) | (apply qE; rfl; rfl; rfl; rfl; rfl)))); (case hL => rfl); (case hh => (repeat' (first | exact qg | refine yK ?_ | refine yF ?_ | refine Q9 ?_ | refine qM ?_ ?_)); all_goals rfl); (case hi => exact rfl); (case hz => first | rfl | (simp [jw, AV.ren, AV.ren.renL, qU, qp, qS]; done) | (simp [jw, AV.ren, AV.ren.renL, qU, qp, qS, *]; done) | trace_state))
theorem qe9 (h h' : Hub) (r : Rqt) (rb : r.who.length ≤ 1000000000) (hn : qo r.who = true) (hk : r.kind = 3) (n : Int) (b : Bool) (x1 : Bool) (R1 : List (List AV)) (x2 : Bool) (R2 : List (List AV)) (c : Int) (m : Bool) (e : Int) (hc : ql C2h.P 83 [.op 0 0 0] (HS h r) (xn (wm n b x1 R1 x2 R2 c m) e) (HS h' r)) :
    ql C2h.P 45 [.op 0 0 0] (HS h r) (xn (wm n b x1 R1 x2 R2 c m) e) (HS h' r) := by
  have hw := xA r.who (jN rb)
  rw [hn] at hw
  obtain ⟨kind, who, folder, name, key, text, number, offset, base, chs⟩ := r
  dsimp only at *
  subst hk
  refine qa (C := C2h) Tryz.func45 rfl _ Tryz.ntmps45 (Nat.le_of_ble_eq_true rfl) _ Tryz.results45 2 rfl rfl ?_
  repeat' (first | refine qe ?_ | (first | refine xsF Tryz.func37 (hw ..) ?_ | (apply qH Tryz.func83 rfl rfl; intro hIsFn; refine yN [0, 1] [(0, .own false 17 [xy 1 h' ⟨3, who, folder, name, key, text, number, offset, base, chs⟩]), (1, .own false 4 (h'.fols.map Fol.row))] (xn (wm n b x1 R1 x2 R2 c m) e) hIsFn (hc) (by ((repeat' (first | exact jJ | apply ju | exact jK rfl | exact yi | (apply qx; apply ja; exact .inr (of_decide_eq_true rfl)) | (apply qx; apply q8; exact .inr (of_decide_eq_true rfl)) | (apply qx; apply q5; exact .inr (of_decide_eq_true rfl)) | apply jW | apply jX))) <;> fail) (by ((repeat' (first | exact jg | exact jd | refine qX _ ?_ ?_ | refine qW ?_ ?_ | exact qI | exact qf (sideM_pure _) | exact qf (jt _) | exact qf (goesM_pure _) | exact qV (fun _ => rfl) | refine qY ?_ | exact q3 | apply qt | exact qv rfl | (apply q8; exact .inr (of_decide_eq_true rfl)) | (apply q5; exact .inr (of_decide_eq_true rfl)) | (apply ja; exact .inr (of_decide_eq_true rfl)) | fail))) <;> fail) (by ((repeat' (first | exact jg | exact jd | refine qX _ ?_ ?_ | refine qW ?_ ?_ | exact qI | exact qf (sideM_pure _) | exact qf (jt _) | exact qf (goesM_pure _) | exact qV (fun _ => rfl) | refine qY ?_ | exact q3 | apply qt | exact qv rfl | (apply q8; exact .inr (of_decide_eq_true rfl)) | (apply q5; exact .inr (of_decide_eq_true rfl)) | (apply ja; exact .inr (of_decide_eq_true rfl)) | skip))) <;> fail) ?_)) | ((first | refine qc ?_ ?_ | refine qb ?_ ?_ | refine xsC ?_ ?_); all_goals (intro hc; have hp := hc; try simp at hp; try (exfalso; omega))) | refine qw ?_ ?_)
  all_goals try (exfalso; omega)
  (apply je (rs := [.cell 2 46, .tmp 3]) [] 2; (case hr => (repeat (first | exact qO | (apply qP; rfl) | (apply qE; rfl; rfl; rfl; rfl; rfl)))); (case hL => rfl); (case hh => (repeat' (first | exact qg | refine yK ?_ | refine yF ?_ | refine Q9 ?_ | refine qM ?_ ?_)); all_goals rfl); (case hi => exact rfl); (case hz => first | rfl | (simp [jw, AV.ren, AV.ren.renL, qU, qp, qS]; done) | (simp [jw, AV.ren, AV.ren.renL, qU, qp, qS, *]; done) | trace_state))
theorem qec (h h' : Hub) (r : Rqt) (rb : r.who.length ≤ 1000000000) (hn : qo r.who = true) (hk : r.kind = 2) (n : Int) (b : Bool) (x1 : Bool) (R1 : List (List AV)) (x2 : Bool) (R2 : List (List AV)) (c : Int) (m : Bool) (e : Int) (hc : ql C2h.P 84 [.op 0 0 0] (HS h r) (xn (wm n b x1 R1 x2 R2 c m) e) (HS h' r)) :
    ql C2h.P 45 [.op 0 0 0] (HS h r) (xn (wm n b x1 R1 x2 R2 c m) e) (HS h' r) := by
  have hw := xA r.who (jN rb)
  rw [hn] at hw
  obtain ⟨kind, who, folder, name, key, text, number, offset, base, chs⟩ := r
  dsimp only at *
  subst hk
  refine qa (C := C2h) Tryz.func45 rfl _ Tryz.ntmps45 (Nat.le_of_ble_eq_true rfl) _ Tryz.results45 2 rfl rfl ?_
  repeat' (first | refine qe ?_ | (first | refine xsF Tryz.func37 (hw ..) ?_ | (apply qH Tryz.func84 rfl rfl; intro hIsFn; refine yN [0, 1] [(0, .own false 17 [xy 1 h' ⟨2, who, folder, name, key, text, number, offset, base, chs⟩]), (1, .own false 4 (h'.fols.map Fol.row))] (xn (wm n b x1 R1 x2 R2 c m) e) hIsFn (hc) (by ((repeat' (first | exact jJ | apply ju | exact jK rfl | exact yi | (apply qx; apply ja; exact .inr (of_decide_eq_true rfl)) | (apply qx; apply q8; exact .inr (of_decide_eq_true rfl)) | (apply qx; apply q5; exact .inr (of_decide_eq_true rfl)) | apply jW | apply jX))) <;> fail) (by ((repeat' (first | exact jg | exact jd | refine qX _ ?_ ?_ | refine qW ?_ ?_ | exact qI | exact qf (sideM_pure _) | exact qf (jt _) | exact qf (goesM_pure _) | exact qV (fun _ => rfl) | refine qY ?_ | exact q3 | apply qt | exact qv rfl | (apply q8; exact .inr (of_decide_eq_true rfl)) | (apply q5; exact .inr (of_decide_eq_true rfl)) | (apply ja; exact .inr (of_decide_eq_true rfl)) | fail))) <;> fail) (by ((repeat' (first | exact jg | exact jd | refine qX _ ?_ ?_ | refine qW ?_ ?_ | exact qI | exact qf (sideM_pure _) | exact qf (jt _) | exact qf (goesM_pure _) | exact qV (fun _ => rfl) | refine qY ?_ | exact q3 | apply qt | exact qv rfl | (apply q8; exact .inr (of_decide_eq_true rfl)) | (apply q5; exact .inr (of_decide_eq_true rfl)) | (apply ja; exact .inr (of_decide_eq_true rfl)) | skip))) <;> fail) ?_)) | ((first | refine qc ?_ ?_ | refine qb ?_ ?_ | refine xsC ?_ ?_); all_goals (intro hc; have hp := hc; try simp at hp; try (exfalso; omega))) | refine qw ?_ ?_)
  all_goals try (exfalso; omega)
  (apply je (rs := [.cell 2 46, .tmp 3]) [] 2; (case hr => (repeat (first | exact qO | (apply qP; rfl) | (apply qE; rfl; rfl; rfl; rfl; rfl)))); (case hL => rfl); (case hh => (repeat' (first | exact qg | refine yK ?_ | refine yF ?_ | refine Q9 ?_ | refine qM ?_ ?_)); all_goals rfl); (case hi => exact rfl); (case hz => first | rfl | (simp [jw, AV.ren, AV.ren.renL, qU, qp, qS]; done) | (simp [jw, AV.ren, AV.ren.renL, qU, qp, qS, *]; done) | trace_state))
theorem WA (h h' : Hub) (r : Rqt) (rb : r.who.length ≤ 1000000000) (hn : qo r.who = true) (hk : r.kind = 7) (n : Int) (b : Bool) (x1 : Bool) (R1 : List (List AV)) (x2 : Bool) (R2 : List (List AV)) (c : Int) (m : Bool) (e : Int) (hc : ql C2h.P 90 [.op 0 0 0] (HS h r) (xn (wm n b x1 R1 x2 R2 c m) e) (HS h' r)) (hm : ql C2h.P 89 [.op 0 0 0, .v (.int .i64 2)] (HS h r) (.v (.int .i64 0)) (HS h r)) :
    ql C2h.P 45 [.op 0 0 0] (HS h r) (xn (wm n b x1 R1 x2 R2 c m) e) (HS h' r) := by
  have hw := xA r.who (jN rb)
  rw [hn] at hw
  obtain ⟨kind, who, folder, name, key, text, number, offset, base, chs⟩ := r
  dsimp only at *
  subst hk
  refine qa (C := C2h) Tryz.func45 rfl _ Tryz.ntmps45 (Nat.le_of_ble_eq_true rfl) _ Tryz.results45 2 rfl rfl ?_
  repeat' (first | refine qe ?_ | (first | refine xsF Tryz.func37 (hw ..) ?_ | (apply qH Tryz.func90 rfl rfl; intro hIsFn; refine yN [0, 1] [(0, .own false 17 [xy 1 h' ⟨7, who, folder, name, key, text, number, offset, base, chs⟩]), (1, .own false 4 (h'.fols.map Fol.row))] (xn (wm n b x1 R1 x2 R2 c m) e) hIsFn (hc) (by ((repeat' (first | exact jJ | apply ju | exact jK rfl | exact yi | (apply qx; apply ja; exact .inr (of_decide_eq_true rfl)) | (apply qx; apply q8; exact .inr (of_decide_eq_true rfl)) | (apply qx; apply q5; exact .inr (of_decide_eq_true rfl)) | apply jW | apply jX))) <;> fail) (by ((repeat' (first | exact jg | exact jd | refine qX _ ?_ ?_ | refine qW ?_ ?_ | exact qI | exact qf (sideM_pure _) | exact qf (jt _) | exact qf (goesM_pure _) | exact qV (fun _ => rfl) | refine qY ?_ | exact q3 | apply qt | exact qv rfl | (apply q8; exact .inr (of_decide_eq_true rfl)) | (apply q5; exact .inr (of_decide_eq_true rfl)) | (apply ja; exact .inr (of_decide_eq_true rfl)) | fail))) <;> fail) (by ((repeat' (first | exact jg | exact jd | refine qX _ ?_ ?_ | refine qW ?_ ?_ | exact qI | exact qf (sideM_pure _) | exact qf (jt _) | exact qf (goesM_pure _) | exact qV (fun _ => rfl) | refine qY ?_ | exact q3 | apply qt | exact qv rfl | (apply q8; exact .inr (of_decide_eq_true rfl)) | (apply q5; exact .inr (of_decide_eq_true rfl)) | (apply ja; exact .inr (of_decide_eq_true rfl)) | skip))) <;> fail) ?_) | (apply qH Tryz.func89 rfl rfl; intro hIsFn; refine yN [0, 1] [(0, .own false 17 [xy 1 h ⟨7, who, folder, name, key, text, number, offset, base, chs⟩]), (1, .own false 4 (h.fols.map Fol.row))] (.v (.int .i64 (0))) hIsFn (hm) (by ((repeat' (first | exact jJ | apply ju | exact jK rfl | exact yi | (apply qx; apply ja; exact .inr (of_decide_eq_true rfl)) | (apply qx; apply q8; exact .inr (of_decide_eq_true rfl)) | (apply qx; apply q5; exact .inr (of_decide_eq_true rfl)) | apply jW | apply jX))) <;> fail) (by ((repeat' (first | exact jg | exact jd | refine qX _ ?_ ?_ | refine qW ?_ ?_ | exact qI | exact qf (sideM_pure _) | exact qf (jt _) | exact qf (goesM_pure _) | exact qV (fun _ => rfl) | refine qY ?_ | exact q3 | apply qt | exact qv rfl | (apply q8; exact .inr (of_decide_eq_true rfl)) | (apply q5; exact .inr (of_decide_eq_true rfl)) | (apply ja; exact .inr (of_decide_eq_true rfl)) | fail))) <;> fail) (by ((repeat' (first | exact jg | exact jd | refine qX _ ?_ ?_ | refine qW ?_ ?_ | exact qI | exact qf (sideM_pure _) | exact qf (jt _) | exact qf (goesM_pure _) | exact qV (fun _ => rfl) | refine qY ?_ | exact q3 | apply qt | exact qv rfl | (apply q8; exact .inr (of_decide_eq_true rfl)) | (apply q5; exact .inr (of_decide_eq_true rfl)) | (apply ja; exact .inr (of_decide_eq_true rfl)) | skip))) <;> fail) ?_)) | ((first | refine qc ?_ ?_ | refine qb ?_ ?_ | refine xsC ?_ ?_); all_goals (intro hc; have hp := hc; try simp at hp; try (exfalso; omega))) | refine qw ?_ ?_)
  all_goals try (exfalso; omega)
  (apply je (rs := [.cell 2 46, .tmp 3]) [] 2; (case hr => (repeat (first | exact qO | (apply qP; rfl) | (apply qE; rfl; rfl; rfl; rfl; rfl)))); (case hL => rfl); (case hh => (repeat' (first | exact qg | refine yK ?_ | refine yF ?_ | refine Q9 ?_ | refine qM ?_ ?_)); all_goals rfl); (case hi => exact rfl); (case hz => first | rfl | (simp [jw, AV.ren, AV.ren.renL, qU, qp, qS]; done) | (simp [jw, AV.ren, AV.ren.renL, qU, qp, qS, *]; done) | trace_state))
theorem qeH (h h' : Hub) (r : Rqt) (rb : r.who.length ≤ 1000000000) (hn : qo r.who = true) (hk : r.kind = 1) (n : Int) (b : Bool) (x1 : Bool) (R1 : List (List AV)) (x2 : Bool) (R2 : List (List AV)) (c : Int) (m : Bool) (e : Int) (hc : ql C2h.P 91 [.op 0 0 0, vh r.chs] (HS h r) (xn (wm n b x1 R1 x2 R2 c m) e) (HS h' r)) (hm : ql C2h.P 89 [.op 0 0 0, .v (.int .i64 2)] (HS h r) (.v (.int .i64 0)) (HS h r)) :
    ql C2h.P 45 [.op 0 0 0] (HS h r) (xn (wm n b x1 R1 x2 R2 c m) e) (HS h' r) := by
  have hw := xA r.who (jN rb)
  rw [hn] at hw
  obtain ⟨kind, who, folder, name, key, text, number, offset, base, chs⟩ := r
  dsimp only at *
  subst hk
  refine qa (C := C2h) Tryz.func45 rfl _ Tryz.ntmps45 (Nat.le_of_ble_eq_true rfl) _ Tryz.results45 2 rfl rfl ?_
  repeat' (first | refine qe ?_ | (first | refine xsF Tryz.func37 (hw ..) ?_ | (apply qH Tryz.func91 rfl rfl; intro hIsFn; refine yN [0, 1] [(0, .own false 17 [xy 1 h' ⟨1, who, folder, name, key, text, number, offset, base, chs⟩]), (1, .own false 4 (h'.fols.map Fol.row))] (xn (wm n b x1 R1 x2 R2 c m) e) hIsFn (hc) (by ((repeat' (first | exact jJ | apply ju | exact jK rfl | exact yi | (apply qx; apply ja; exact .inr (of_decide_eq_true rfl)) | (apply qx; apply q8; exact .inr (of_decide_eq_true rfl)) | (apply qx; apply q5; exact .inr (of_decide_eq_true rfl)) | apply jW | apply jX))) <;> fail) (by ((repeat' (first | exact jg | exact jd | refine qX _ ?_ ?_ | refine qW ?_ ?_ | exact qI | exact qf (sideM_pure _) | exact qf (jt _) | exact qf (goesM_pure _) | exact qV (fun _ => rfl) | refine qY ?_ | exact q3 | apply qt | exact qv rfl | (apply q8; exact .inr (of_decide_eq_true rfl)) | (apply q5; exact .inr (of_decide_eq_true rfl)) | (apply ja; exact .inr (of_decide_eq_true rfl)) | fail))) <;> fail) (by ((repeat' (first | exact jg | exact jd | refine qX _ ?_ ?_ | refine qW ?_ ?_ | exact qI | exact qf (sideM_pure _) | exact qf (jt _) | exact qf (goesM_pure _) | exact qV (fun _ => rfl) | refine qY ?_ | exact q3 | apply qt | exact qv rfl | (apply q8; exact .inr (of_decide_eq_true rfl)) | (apply q5; exact .inr (of_decide_eq_true rfl)) | (apply ja; exact .inr (of_decide_eq_true rfl)) | skip))) <;> fail) ?_) | (apply qH Tryz.func89 rfl rfl; intro hIsFn; refine yN [0, 1] [(0, .own false 17 [xy 1 h ⟨1, who, folder, name, key, text, number, offset, base, chs⟩]), (1, .own false 4 (h.fols.map Fol.row))] (.v (.int .i64 (0))) hIsFn (hm) (by ((repeat' (first | exact jJ | apply ju | exact jK rfl | exact yi | (apply qx; apply ja; exact .inr (of_decide_eq_true rfl)) | (apply qx; apply q8; exact .inr (of_decide_eq_true rfl)) | (apply qx; apply q5; exact .inr (of_decide_eq_true rfl)) | apply jW | apply jX))) <;> fail) (by ((repeat' (first | exact jg | exact jd | refine qX _ ?_ ?_ | refine qW ?_ ?_ | exact qI | exact qf (sideM_pure _) | exact qf (jt _) | exact qf (goesM_pure _) | exact qV (fun _ => rfl) | refine qY ?_ | exact q3 | apply qt | exact qv rfl | (apply q8; exact .inr (of_decide_eq_true rfl)) | (apply q5; exact .inr (of_decide_eq_true rfl)) | (apply ja; exact .inr (of_decide_eq_true rfl)) | fail))) <;> fail) (by ((repeat' (first | exact jg | exact jd | refine qX _ ?_ ?_ | refine qW ?_ ?_ | exact qI | exact qf (sideM_pure _) | exact qf (jt _) | exact qf (goesM_pure _) | exact qV (fun _ => rfl) | refine qY ?_ | exact q3 | apply qt | exact qv rfl | (apply q8; exact .inr (of_decide_eq_true rfl)) | (apply q5; exact .inr (of_decide_eq_true rfl)) | (apply ja; exact .inr (of_decide_eq_true rfl)) | skip))) <;> fail) ?_)) | ((first | refine qc ?_ ?_ | refine qb ?_ ?_ | refine xsC ?_ ?_); all_goals (intro hc; have hp := hc; try simp at hp; try (exfalso; omega))) | refine qw ?_ ?_)
  all_goals try (exfalso; omega)
  (apply je (rs := [.cell 2 46, .tmp 3]) [] 2; (case hr => (repeat (first | exact qO | (apply qP; rfl) | (apply qE; rfl; rfl; rfl; rfl; rfl)))); (case hL => rfl); (case hh => (repeat' (first | exact qg | refine yK ?_ | refine yF ?_ | refine Q9 ?_ | refine qM ?_ ?_)); all_goals rfl); (case hi => exact rfl); (case hz => first | rfl | (simp [jw, AV.ren, AV.ren.renL, qU, qp, qS]; done) | (simp [jw, AV.ren, AV.ren.renL, qU, qp, qS, *]; done) | trace_state))
theorem qgG (h : Hub) (r : Rqt) (rb : r.who.length ≤ 1000000000) (hn : qo r.who = true) (hk : r.kind = 1) (hm : ql C2h.P 89 [.op 0 0 0, .v (.int .i64 2)] (HS h r) (.v (.int .i64 9)) (HS h r)) :
    ql C2h.P 45 [.op 0 0 0] (HS h r) (xn (zz 0) 9) (HS h r) := by
  have hw := xA r.who (jN rb)
  rw [hn] at hw
  obtain ⟨kind, who, folder, name, key, text, number, offset, base, chs⟩ := r
  dsimp only at *
  subst hk
  refine qa (C := C2h) Tryz.func45 rfl _ Tryz.ntmps45 (Nat.le_of_ble_eq_true rfl) _ Tryz.results45 2 rfl rfl ?_
  repeat' (first | refine qe ?_ | (first | refine xsF Tryz.func37 (hw ..) ?_ | (apply qH Tryz.func89 rfl rfl; intro hIsFn; refine yN [0, 1] [(0, .own false 17 [xy 1 h ⟨1, who, folder, name, key, text, number, offset, base, chs⟩]), (1, .own false 4 (h.fols.map Fol.row))] (.v (.int .i64 (9))) hIsFn (hm) (by ((repeat' (first | exact jJ | apply ju | exact jK rfl | exact yi | (apply qx; apply ja; exact .inr (of_decide_eq_true rfl)) | (apply qx; apply q8; exact .inr (of_decide_eq_true rfl)) | (apply qx; apply q5; exact .inr (of_decide_eq_true rfl)) | apply jW | apply jX))) <;> fail) (by ((repeat' (first | exact jg | exact jd | refine qX _ ?_ ?_ | refine qW ?_ ?_ | exact qI | exact qf (sideM_pure _) | exact qf (jt _) | exact qf (goesM_pure _) | exact qV (fun _ => rfl) | refine qY ?_ | exact q3 | apply qt | exact qv rfl | (apply q8; exact .inr (of_decide_eq_true rfl)) | (apply q5; exact .inr (of_decide_eq_true rfl)) | (apply ja; exact .inr (of_decide_eq_true rfl)) | fail))) <;> fail) (by ((repeat' (first | exact jg | exact jd | refine qX _ ?_ ?_ | refine qW ?_ ?_ | exact qI | exact qf (sideM_pure _) | exact qf (jt _) | exact qf (goesM_pure _) | exact qV (fun _ => rfl) | refine qY ?_ | exact q3 | apply qt | exact qv rfl | (apply q8; exact .inr (of_decide_eq_true rfl)) | (apply q5; exact .inr (of_decide_eq_true rfl)) | (apply ja; exact .inr (of_decide_eq_true rfl)) | skip))) <;> fail) ?_)) | ((first | refine qc ?_ ?_ | refine qb ?_ ?_ | refine xsC ?_ ?_); all_goals (intro hc; have hp := hc; try simp at hp; try (exfalso; omega))) | refine qw ?_ ?_)
  all_goals try (exfalso; omega)
  (apply je (rs := [.cell 2 46, .tmp 3]) [] 2; (case hr => (repeat (first | exact qO | (apply qP; rfl) | (apply qE; rfl; rfl; rfl; rfl; rfl)))); (case hL => rfl); (case hh => (repeat' (first | exact qg | refine yK ?_ | refine yF ?_ | refine Q9 ?_ | refine qM ?_ ?_)); all_goals rfl); (case hi => exact rfl); (case hz => first | rfl | (simp [jw, AV.ren, AV.ren.renL, qU, qp, qS]; done) | (simp [jw, AV.ren, AV.ren.renL, qU, qp, qS, *]; done) | trace_state))
theorem qgN (h : Hub) (r : Rqt) (rb : r.who.length ≤ 1000000000) (hn : qo r.who = true) (hk : r.kind = 7) (hm : ql C2h.P 89 [.op 0 0 0, .v (.int .i64 2)] (HS h r) (.v (.int .i64 9)) (HS h r)) :
    ql C2h.P 45 [.op 0 0 0] (HS h r) (xn (zz 0) 9) (HS h r) := by
  have hw := xA r.who (jN rb)
  rw [hn] at hw
  obtain ⟨kind, who, folder, name, key, text, number, offset, base, chs⟩ := r
  dsimp only at *
  subst hk
  refine qa (C := C2h) Tryz.func45 rfl _ Tryz.ntmps45 (Nat.le_of_ble_eq_true rfl) _ Tryz.results45 2 rfl rfl ?_
  repeat' (first | refine qe ?_ | (first | refine xsF Tryz.func37 (hw ..) ?_ | (apply qH Tryz.func89 rfl rfl; intro hIsFn; refine yN [0, 1] [(0, .own false 17 [xy 1 h ⟨7, who, folder, name, key, text, number, offset, base, chs⟩]), (1, .own false 4 (h.fols.map Fol.row))] (.v (.int .i64 (9))) hIsFn (hm) (by ((repeat' (first | exact jJ | apply ju | exact jK rfl | exact yi | (apply qx; apply ja; exact .inr (of_decide_eq_true rfl)) | (apply qx; apply q8; exact .inr (of_decide_eq_true rfl)) | (apply qx; apply q5; exact .inr (of_decide_eq_true rfl)) | apply jW | apply jX))) <;> fail) (by ((repeat' (first | exact jg | exact jd | refine qX _ ?_ ?_ | refine qW ?_ ?_ | exact qI | exact qf (sideM_pure _) | exact qf (jt _) | exact qf (goesM_pure _) | exact qV (fun _ => rfl) | refine qY ?_ | exact q3 | apply qt | exact qv rfl | (apply q8; exact .inr (of_decide_eq_true rfl)) | (apply q5; exact .inr (of_decide_eq_true rfl)) | (apply ja; exact .inr (of_decide_eq_true rfl)) | fail))) <;> fail) (by ((repeat' (first | exact jg | exact jd | refine qX _ ?_ ?_ | refine qW ?_ ?_ | exact qI | exact qf (sideM_pure _) | exact qf (jt _) | exact qf (goesM_pure _) | exact qV (fun _ => rfl) | refine qY ?_ | exact q3 | apply qt | exact qv rfl | (apply q8; exact .inr (of_decide_eq_true rfl)) | (apply q5; exact .inr (of_decide_eq_true rfl)) | (apply ja; exact .inr (of_decide_eq_true rfl)) | skip))) <;> fail) ?_)) | ((first | refine qc ?_ ?_ | refine qb ?_ ?_ | refine xsC ?_ ?_); all_goals (intro hc; have hp := hc; try simp at hp; try (exfalso; omega))) | refine qw ?_ ?_)
  all_goals try (exfalso; omega)
  (apply je (rs := [.cell 2 46, .tmp 3]) [] 2; (case hr => (repeat (first | exact qO | (apply qP; rfl) | (apply qE; rfl; rfl; rfl; rfl; rfl)))); (case hL => rfl); (case hh => (repeat' (first | exact qg | refine yK ?_ | refine yF ?_ | refine Q9 ?_ | refine qM ?_ ?_)); all_goals rfl); (case hi => exact rfl); (case hz => first | rfl | (simp [jw, AV.ren, AV.ren.renL, qU, qp, qS]; done) | (simp [jw, AV.ren, AV.ren.renL, qU, qp, qS, *]; done) | trace_state))
theorem qgt (h : Hub) (hu : UBig h.ups) (r : Rqt) (rb : r.who.length ≤ 1000000000) (hn : qo r.who = true) (hk : r.kind = 4) :
    ql C2h.P 45 [.op 0 0 0] (HS h r) (xn (zz (QB h.ups r.who r.number h.now).2.1) (QB h.ups r.who r.number h.now).2.2) (HS (if (QB h.ups r.who r.number h.now).2.2 = 0 then { h with ups := (QB h.ups r.who r.number h.now).1 } else h) r) := by
  have ho := qgx h.ups hu r.who rb r.number h.now
  have hs := ZN h r (QB h.ups r.who r.number h.now).1 (QB h.ups r.who r.number h.now).2.1 (QB h.ups r.who r.number h.now).2.2
  have hw := xA r.who (jN rb)
  rw [hn] at hw
  obtain ⟨kind, who, folder, name, key, text, number, offset, base, chs⟩ := r
  dsimp only at *
  subst hk
  generalize QB h.ups who number h.now = P at *
  obtain ⟨u, n, e⟩ := P
  dsimp only at *
  generalize (if e = 0 then ({ h with ups := u } : Hub) else h) = h' at *
  refine qa (C := C2h) Tryz.func45 rfl _ Tryz.ntmps45 (Nat.le_of_ble_eq_true rfl) _ Tryz.results45 2 rfl rfl ?_
  repeat' (first | refine qe ?_ | (first | refine xsF Tryz.func37 (hw ..) ?_ | refine xsQ Tryz.func86 (ho ..) ?_ | (apply qH Tryz.func85 rfl rfl; intro hIsFn; refine yN [0, 1] [(0, .own false 17 [xy 1 h' ⟨4, who, folder, name, key, text, number, offset, base, chs⟩]), (1, .own false 4 (h'.fols.map Fol.row))] (xn (zz n) e) hIsFn (hs) (by ((repeat' (first | exact jJ | apply ju | exact jK rfl | exact yi | (apply qx; apply ja; exact .inr (of_decide_eq_true rfl)) | (apply qx; apply q8; exact .inr (of_decide_eq_true rfl)) | (apply qx; apply q5; exact .inr (of_decide_eq_true rfl)) | apply jW | apply jX))) <;> fail) (by ((repeat' (first | exact jg | exact jd | refine qX _ ?_ ?_ | refine qW ?_ ?_ | exact qI | exact qf (sideM_pure _) | exact qf (jt _) | exact qf (goesM_pure _) | exact qV (fun _ => rfl) | refine qY ?_ | exact q3 | apply qt | exact qv rfl | (apply q8; exact .inr (of_decide_eq_true rfl)) | (apply q5; exact .inr (of_decide_eq_true rfl)) | (apply ja; exact .inr (of_decide_eq_true rfl)) | fail))) <;> fail) (by ((repeat' (first | exact jg | exact jd | refine qX _ ?_ ?_ | refine qW ?_ ?_ | exact qI | exact qf (sideM_pure _) | exact qf (jt _) | exact qf (goesM_pure _) | exact qV (fun _ => rfl) | refine qY ?_ | exact q3 | apply qt | exact qv rfl | (apply q8; exact .inr (of_decide_eq_true rfl)) | (apply q5; exact .inr (of_decide_eq_true rfl)) | (apply ja; exact .inr (of_decide_eq_true rfl)) | skip))) <;> fail) ?_)) | ((first | refine qc ?_ ?_ | refine qb ?_ ?_ | refine xsC ?_ ?_); all_goals (intro hc; have hp := hc; try simp at hp; try (exfalso; omega))) | refine qw ?_ ?_)
  all_goals try (exfalso; omega)
  (apply je (rs := [.cell 2 46, .tmp 3]) [] 2; (case hr => (repeat (first | exact qO | (apply qP; rfl) | (apply qE; rfl; rfl; rfl; rfl; rfl)))); (case hL => rfl); (case hh => (repeat' (first | exact qg | refine yK ?_ | refine yF ?_ | refine Q9 ?_ | refine qM ?_ ?_)); all_goals rfl); (case hi => exact rfl); (case hz => first | rfl | (simp [jw, AV.ren, AV.ren.renL, qU, qp, qS]; done) | (simp [jw, AV.ren, AV.ren.renL, qU, qp, qS, *]; done) | trace_state))
theorem qef (h : Hub) (hu : UBig h.ups) (r : Rqt) (rb : r.who.length ≤ 1000000000) (rt : r.text.length ≤ 1000000000) (hn : qo r.who = true) (hk : r.kind = 5) :
    ql C2h.P 45 [.op 0 0 0] (HS h r) (xn (zz (Qz h.ups r.who r.number r.offset r.text h.now).2.1) (Qz h.ups r.who r.number r.offset r.text h.now).2.2) (HS (if (Qz h.ups r.who r.number r.offset r.text h.now).2.2 = 0 then { h with ups := (Qz h.ups r.who r.number r.offset r.text h.now).1 } else h) r) := by
  have ho := qeD h.ups hu r.who rb r.number r.offset r.text rt h.now
  have hs := ZN h r (Qz h.ups r.who r.number r.offset r.text h.now).1 (Qz h.ups r.who r.number r.offset r.text h.now).2.1 (Qz h.ups r.who r.number r.offset r.text h.now).2.2
  have hw := xA r.who (jN rb)
  rw [hn] at hw
  obtain ⟨kind, who, folder, name, key, text, number, offset, base, chs⟩ := r
  dsimp only at *
  subst hk
  generalize Qz h.ups who number offset text h.now = P at *
  obtain ⟨u, n, e⟩ := P
  dsimp only at *
  generalize (if e = 0 then ({ h with ups := u } : Hub) else h) = h' at *
  refine qa (C := C2h) Tryz.func45 rfl _ Tryz.ntmps45 (Nat.le_of_ble_eq_true rfl) _ Tryz.results45 2 rfl rfl ?_
  repeat' (first | refine qe ?_ | (first | refine xsF Tryz.func37 (hw ..) ?_ | refine xsQ Tryz.func87 (ho ..) ?_ | (apply qH Tryz.func85 rfl rfl; intro hIsFn; refine yN [0, 1] [(0, .own false 17 [xy 1 h' ⟨5, who, folder, name, key, text, number, offset, base, chs⟩]), (1, .own false 4 (h'.fols.map Fol.row))] (xn (zz n) e) hIsFn (hs) (by ((repeat' (first | exact jJ | apply ju | exact jK rfl | exact yi | (apply qx; apply ja; exact .inr (of_decide_eq_true rfl)) | (apply qx; apply q8; exact .inr (of_decide_eq_true rfl)) | (apply qx; apply q5; exact .inr (of_decide_eq_true rfl)) | apply jW | apply jX))) <;> fail) (by ((repeat' (first | exact jg | exact jd | refine qX _ ?_ ?_ | refine qW ?_ ?_ | exact qI | exact qf (sideM_pure _) | exact qf (jt _) | exact qf (goesM_pure _) | exact qV (fun _ => rfl) | refine qY ?_ | exact q3 | apply qt | exact qv rfl | (apply q8; exact .inr (of_decide_eq_true rfl)) | (apply q5; exact .inr (of_decide_eq_true rfl)) | (apply ja; exact .inr (of_decide_eq_true rfl)) | fail))) <;> fail) (by ((repeat' (first | exact jg | exact jd | refine qX _ ?_ ?_ | refine qW ?_ ?_ | exact qI | exact qf (sideM_pure _) | exact qf (jt _) | exact qf (goesM_pure _) | exact qV (fun _ => rfl) | refine qY ?_ | exact q3 | apply qt | exact qv rfl | (apply q8; exact .inr (of_decide_eq_true rfl)) | (apply q5; exact .inr (of_decide_eq_true rfl)) | (apply ja; exact .inr (of_decide_eq_true rfl)) | skip))) <;> fail) ?_)) | ((first | refine qc ?_ ?_ | refine qb ?_ ?_ | refine xsC ?_ ?_); all_goals (intro hc; have hp := hc; try simp at hp; try (exfalso; omega))) | refine qw ?_ ?_)
  all_goals try (exfalso; omega)
  (apply je (rs := [.cell 2 46, .tmp 3]) [] 2; (case hr => (repeat (first | exact qO | (apply qP; rfl) | (apply qE; rfl; rfl; rfl; rfl; rfl)))); (case hL => rfl); (case hh => (repeat' (first | exact qg | refine yK ?_ | refine yF ?_ | refine Q9 ?_ | refine qM ?_ ?_)); all_goals rfl); (case hi => exact rfl); (case hz => first | rfl | (simp [jw, AV.ren, AV.ren.renL, qU, qp, qS]; done) | (simp [jw, AV.ren, AV.ren.renL, qU, qp, qS, *]; done) | trace_state))
theorem qfx (h : Hub) (hu : UBig h.ups) (r : Rqt) (rb : r.who.length ≤ 1000000000) (hn : qo r.who = true) (hk : r.kind = 6) :
    ql C2h.P 45 [.op 0 0 0] (HS h r) (xn (zz (Zm h.ups r.who r.number h.now).1) (Zm h.ups r.who r.number h.now).2) (HS h r) := by
  have ho := qfz h.ups hu r.who rb r.number h.now
  have hw := xA r.who (jN rb)
  rw [hn] at hw
  obtain ⟨kind, who, folder, name, key, text, number, offset, base, chs⟩ := r
  dsimp only at *
  subst hk
  generalize Zm h.ups who number h.now = P at *
  obtain ⟨n, e⟩ := P
  dsimp only at *
  refine qa (C := C2h) Tryz.func45 rfl _ Tryz.ntmps45 (Nat.le_of_ble_eq_true rfl) _ Tryz.results45 2 rfl rfl ?_
  repeat' (first | refine qe ?_ | (first | refine xsF Tryz.func37 (hw ..) ?_ | refine xsQ Tryz.func88 (ho ..) ?_) | ((first | refine qc ?_ ?_ | refine qb ?_ ?_ | refine xsC ?_ ?_); all_goals (intro hc; have hp := hc; try simp at hp; try (exfalso; omega))) | refine qw ?_ ?_)
  all_goals try (exfalso; omega)
  (apply je (rs := [.cell 2 46, .tmp 3]) [] 2; (case hr => (repeat (first | exact qO | (apply qP; rfl) | (apply qE; rfl; rfl; rfl; rfl; rfl)))); (case hL => rfl); (case hh => (repeat' (first | exact qg | refine yK ?_ | refine yF ?_ | refine Q9 ?_ | refine qM ?_ ?_)); all_goals rfl); (case hi => exact rfl); (case hz => first | rfl | (simp [jw, AV.ren, AV.ren.renL, qU, qp, qS]; done) | (simp [jw, AV.ren, AV.ren.renL, qU, qp, qS, *]; done) | trace_state))
end Go.Proofs.YtiljlcgmcmjcoaaGreatDoor
set_option linter.unusedSimpArgs false
set_option linter.unnecessarySimpa false
set_option linter.unusedVariables false
set_option maxHeartbeats 1000000
namespace Go.Proofs.YtiljlcgmcmjcoaaGreatDoor
open Go.Ab Go.RowKit
set_option maxRecDepth 10000
attribute [local irreducible] Awp jV q9 qJ Red qy Go.Ab.Fin ql Rz yQ qA qG ResOk jC q6 jH qT
def qaC (r : Rqt) : AV := .agg r.row
def qaf (x : Hub) (a : AV) (e : Int) : AV := .tup [zB x, a, .v (.int .i64 e)]
theorem qhl (h h' : Hub) (hb : HBig h) (hr : HRight h) (r : Rqt) (n : Int) (b : Bool) (x1 : Bool) (R1 : List (List AV)) (x2 : Bool) (R2 : List (List AV)) (c : Int) (m : Bool) (p1 : ∀ row, row ∈ R1 → AV.pure.pureL row = true) (p2 : ∀ row, row ∈ R2 → AV.pure.pureL row = true) (sv : ql C2h.P 45 [.op 0 0 0] (HS h r) (xn (wm n b x1 R1 x2 R2 c m) 0) (HS h' r)) :
    jY C.P 18 [zB h, qaC r] (qaf h' (.agg (wm n b false R1 false R2 c m)) 0) := by
  have hck := Q6 h hb
  rw [wb.2 hr] at hck
  have hco := Ql h hr
  have hcp := Xk h hr
  refine qa Tryz.func18 rfl _ Tryz.ntmps18 (Nat.le_of_ble_eq_true rfl) _ Tryz.results18 0 rfl rfl ?_
  repeat' (first | refine qe ?_ | (first | refine xsF Tryz.func16 (hck ..) ?_ | (apply qH Tryz.func44 rfl rfl; intro hIsFn; refine j6 ([]) hIsFn (hco ..) ?_) | (apply qH Tryz.func45 rfl rfl; intro hIsFn; refine yN [5, 4] [(5, .own false 17 [xy 4 h' r]), (4, .own false 4 (h'.fols.map Fol.row))] (xn (wm n b x1 R1 x2 R2 c m) 0) hIsFn (sv) (by ((repeat' (first | exact jJ | apply ju | exact jK rfl | exact yi | (apply qx; apply ja; exact .inr (of_decide_eq_true rfl)) | (apply qx; apply q8; exact .inr (of_decide_eq_true rfl)) | (apply qx; apply q5; exact .inr (of_decide_eq_true rfl)) | apply jW | apply jX))) <;> fail) (by ((repeat' (first | exact jg | exact jd | refine qX _ ?_ ?_ | refine qW ?_ ?_ | exact qI | exact qf (sideM_pure _) | exact qf (jt _) | exact qf (goesM_pure _) | exact qV (fun _ => rfl) | refine qY ?_ | exact q3 | apply qt | exact qv rfl | (apply q8; exact .inr (of_decide_eq_true rfl)) | (apply q5; exact .inr (of_decide_eq_true rfl)) | (apply ja; exact .inr (of_decide_eq_true rfl)) | fail))) <;> fail) (by ((repeat' (first | exact jg | exact jd | refine qX _ ?_ ?_ | refine qW ?_ ?_ | exact qI | exact qf (sideM_pure _) | exact qf (jt _) | exact qf (goesM_pure _) | exact qV (fun _ => rfl) | refine qY ?_ | exact q3 | apply qt | exact qv rfl | (apply q8; exact .inr (of_decide_eq_true rfl)) | (apply q5; exact .inr (of_decide_eq_true rfl)) | (apply ja; exact .inr (of_decide_eq_true rfl)) | fail))) <;> fail) ?_)) | ((first | refine xsC ?_ ?_); all_goals (intro hc; have hp := hc; try simp at hp; try (exfalso; omega))) | refine qw ?_ ?_)
  all_goals try (exfalso; omega)
  (refine y6 (rs := [.cell 4 28, .cell 5 46, .tmp 6]) ?_; (repeat' (first | exact qZ | apply qm | exact qQ rfl | exact yI | exact z1 | apply yh | apply yX | apply yc | apply y2 | apply yx | apply yW | refine z8 ?_ | apply xS)); all_goals rfl)
theorem qgh (h h' : Hub) (hb : HBig h) (hr : HRight h) (r : Rqt) (n : Int) (b : Bool) (x1 : Bool) (R1 : List (List AV)) (x2 : Bool) (R2 : List (List AV)) (c : Int) (m : Bool) (e : Int) (he : ¬ e = 0) (sv : ql C2h.P 45 [.op 0 0 0] (HS h r) (xn (wm n b x1 R1 x2 R2 c m) e) (HS h' r)) :
    jY C.P 18 [zB h, qaC r] (qaf h (V2 (QT e)) 0) := by
  have hck := Q6 h hb
  rw [wb.2 hr] at hck
  have hco := Ql h hr
  have hcp := Xk h hr
  refine qa Tryz.func18 rfl _ Tryz.ntmps18 (Nat.le_of_ble_eq_true rfl) _ Tryz.results18 0 rfl rfl ?_
  repeat' (first | refine qe ?_ | (first | refine xsF Tryz.func16 (hck ..) ?_ | (apply qH Tryz.func44 rfl rfl; intro hIsFn; refine j6 ([]) hIsFn (hco ..) ?_) | (apply qH Tryz.func45 rfl rfl; intro hIsFn; refine yN [5, 4] [(5, .own false 17 [xy 4 h' r]), (4, .own false 4 (h'.fols.map Fol.row))] (xn (wm n b x1 R1 x2 R2 c m) e) hIsFn (sv) (by ((repeat' (first | exact jJ | apply ju | exact jK rfl | exact yi | (apply qx; apply ja; exact .inr (of_decide_eq_true rfl)) | (apply qx; apply q8; exact .inr (of_decide_eq_true rfl)) | (apply qx; apply q5; exact .inr (of_decide_eq_true rfl)) | apply jW | apply jX))) <;> fail) (by ((repeat' (first | exact jg | exact jd | refine qX _ ?_ ?_ | refine qW ?_ ?_ | exact qI | exact qf (sideM_pure _) | exact qf (jt _) | exact qf (goesM_pure _) | exact qV (fun _ => rfl) | refine qY ?_ | exact q3 | apply qt | exact qv rfl | (apply q8; exact .inr (of_decide_eq_true rfl)) | (apply q5; exact .inr (of_decide_eq_true rfl)) | (apply ja; exact .inr (of_decide_eq_true rfl)) | fail))) <;> fail) (by ((repeat' (first | exact jg | exact jd | refine qX _ ?_ ?_ | refine qW ?_ ?_ | exact qI | exact qf (sideM_pure _) | exact qf (jt _) | exact qf (goesM_pure _) | exact qV (fun _ => rfl) | refine qY ?_ | exact q3 | apply qt | exact qv rfl | (apply q8; exact .inr (of_decide_eq_true rfl)) | (apply q5; exact .inr (of_decide_eq_true rfl)) | (apply ja; exact .inr (of_decide_eq_true rfl)) | fail))) <;> fail) ?_)) | ((first | refine xsC ?_ ?_); all_goals (intro hc; have hp := hc; try simp at hp; try (exfalso; omega))) | refine qw ?_ ?_)
  all_goals try (exfalso; omega)
  (refine y6 (rs := [.cell 4 28, .cell 5 46, .tmp 6]) ?_; (repeat' (first | exact qZ | apply qm | exact qQ rfl | exact yI | exact z1 | apply yh | apply yX | apply yc | apply y2 | apply yx | apply yW | refine z8 ?_ | apply xS)); all_goals rfl)
theorem qdM (h h' : Hub) (hb : HBig h) (hr : HRight h) (r : Rqt) (k : Nat) (f : qB) (hk : k = h.fols.length + 1) (hh : h'.fols = JY h.fols f) (sv : ql C2h.P 45 [.op 0 0 0] (HS h r) (xn (zz 0) 0) [.own false 17 [.os 2 0 k :: (xy 2 h' r).drop 1], .dead, .own false 4 (JU h.fols f)]) :
    jY C.P 18 [zB h, qaC r] (qaf h' (V2 ZC) 0) := by
  have hck := Q6 h hb
  rw [wb.2 hr] at hck
  have hco := Ql h hr
  have hcp := Xk h hr
  have hpu : ∀ row, row ∈ JU h.fols f → AV.pure.pureL row = true := ZI _ _
  have hrz : ∀ {g : Nat → HB} {n : Nat}, g n = .own false 4 (JU h.fols f) → Rz g (.os n 0 k) (wO h'.fols) := fun hn => by rw [hh]; exact qgY hn hk
  refine qa Tryz.func18 rfl _ Tryz.ntmps18 (Nat.le_of_ble_eq_true rfl) _ Tryz.results18 0 rfl rfl ?_
  repeat' (first | refine qe ?_ | (first | refine xsF Tryz.func16 (hck ..) ?_ | (apply qH Tryz.func44 rfl rfl; intro hIsFn; refine j6 ([]) hIsFn (hco ..) ?_) | (apply qH Tryz.func45 rfl rfl; intro hIsFn; refine KW [5, 4] [6] [(5, .own false 17 [.os 6 0 k :: (xy 2 h' r).drop 1]), (4, .dead), (6, .own false 4 (JU h.fols f))] 7 (xn (zz 0) 0) hIsFn (sv) (by ((repeat' (first | exact jJ | apply ju | exact jK rfl | exact yi | (apply qx; apply ja; exact .inr (of_decide_eq_true rfl)) | (apply qx; apply q8; exact .inr (of_decide_eq_true rfl)) | (apply qx; apply q5; exact .inr (of_decide_eq_true rfl)) | apply jW | apply jX))) <;> fail) (by ((repeat' (first | exact jg | exact jd | refine qX _ ?_ ?_ | refine qW ?_ ?_ | exact qI | exact qf (sideM_pure _) | exact qf (jt _) | exact qf (goesM_pure _) | exact qV (fun _ => rfl) | refine qY ?_ | exact q3 | apply qt | exact qv rfl | (apply q8; exact .inr (of_decide_eq_true rfl)) | (apply q5; exact .inr (of_decide_eq_true rfl)) | (apply ja; exact .inr (of_decide_eq_true rfl)) | fail))) <;> fail) (by ((repeat' (first | exact jg | exact jd | refine qX _ ?_ ?_ | refine qW ?_ ?_ | exact qI | exact qf (sideM_pure _) | exact qf (jt _) | exact qf (goesM_pure _) | exact qV (fun _ => rfl) | refine qY ?_ | exact q3 | apply qt | exact qv rfl | (apply q8; exact .inr (of_decide_eq_true rfl)) | (apply q5; exact .inr (of_decide_eq_true rfl)) | (apply ja; exact .inr (of_decide_eq_true rfl)) | first | exact Qm rfl | exact vO hpu))) <;> fail) ?_)) | ((first | refine xsC ?_ ?_); all_goals (intro hc; have hp := hc; try simp at hp; try (exfalso; omega))) | refine qw ?_ ?_)
  all_goals try (exfalso; omega)
  (refine y6 (rs := [.cell 4 28, .cell 5 46, .tmp 6]) ?_; (repeat' (first | ((apply hrz; rfl)) | exact qZ | apply qm | exact qQ rfl | exact yI | exact z1 | apply yh | apply yX | apply yc | apply y2 | apply yx | apply yW | refine z8 ?_ | apply xS)); all_goals rfl)
end Go.Proofs.YtiljlcgmcmjcoaaGreatDoor
set_option linter.unusedSimpArgs false
set_option linter.unnecessarySimpa false
set_option linter.unusedVariables false
namespace Go.Proofs.YtiljlcgmcmjcoaaGreatDoor
open Go.Ab Go.RowKit
set_option maxRecDepth 10000
attribute [local irreducible] Awp jV q9 qJ Red qy Go.Ab.Fin ql Rz yQ qA qG ResOk jC q6 jH qT
theorem qd3 {h : Hub} (hr : HRight h) {f w : qB} (hw : ¬ jS h.gras f w = 0) : ∃ (k : Nat) (hk : k < h.fols.length), xP h.fols f = k ∧ xr h.fols f = true ∧ h.fols[k].name = f ∧ wa h.fols f = some h.fols[k].jou ∧ JRight h.fols[k].jou := by
  have hh : xr h.fols f = true := by rw [hr.has]; exact Zb hw
  obtain ⟨hk, h1, h2, _⟩ := qcu hr.rise hh
  refine ⟨xP h.fols f, hk, rfl, hh, h1, ?_, (hr.each _ (List.getElem_mem _)).2⟩
  unfold wa
  rw [show h.fols.find? (fun s => decide (s.name = f)) = h.fols.find? (atF f) from rfl, h2]; rfl
theorem qgI (n : Int) : zz n = wm n false true [] true [] 0 false := rfl
theorem qe2 : ∀ row, row ∈ ([] : List (List AV)) → AV.pure.pureL row = true := fun row h => by cases h
theorem qg1 (n : Int) : (.agg (wm n false false [] false [] 0 false) : AV) = V2 ⟨0, n, QI⟩ := rfl
theorem t_z (h h' : Hub) (hb : HBig h) (hr : HRight h) (r : Rqt) (n e : Int) (sv : ql C2h.P 45 [.op 0 0 0] (HS h r) (xn (zz n) e) (HS h' r)) :
    jY C.P 18 [zB h, qaC r] (qaf (if e = 0 then h' else h) (V2 (if e = 0 then ⟨0, n, QI⟩ else QT e)) 0) := by
  rw [qgI] at sv
  by_cases h0 : e = 0
  · subst h0
    rw [if_pos rfl, if_pos rfl, ← qg1]
    exact qhl h h' hb hr r _ _ _ _ _ _ _ _ qe2 qe2 sv
  · rw [if_neg h0, if_neg h0]
    exact qgh h h' hb hr r _ _ _ _ _ _ _ _ e h0 sv
theorem wd {f : FuncId} {ys : List AV} {x x' : Hub} {a a' : Ans} (h : jY C.P f ys (qaf x (V2 a) 0)) (e : (x', a') = (x, a)) : jY C.P f ys (qaf x' (V2 a') 0) := by
  injection e with e1 e2
  rw [e1, e2]; exact h
theorem qbA (h : Hub) (r : Rqt) : AV.pure.pureL ((xy 2 h r).drop 1) = true := rfl
theorem Wx (h : Hub) (hb : HBig h) (hr : HRight h) (r : Rqt) (rb : RBig r) : jY C.P 18 [zB h, qaC r] (qaf (zp h r).1 (V2 (zp h r).2) 0) := by
  obtain ⟨a1, a2, a3, a4⟩ := xF hr.gra
  have hl := hr.len
  by_cases hk : 1 ≤ r.kind ∧ r.kind ≤ 8
  case neg =>
    refine wd (t_z h h hb hr r 0 7 (qgT h r (by omega))) ?_
    unfold zp; rw [if_pos hk]; rfl
  by_cases hn : qo r.who = false
  · refine wd (t_z h h hb hr r 0 1 (qeE h r rb.who hk hn)) ?_
    unfold zp; rw [if_neg (fun e => e hk), if_pos hn]; rfl
  have hn1 : qo r.who = true := by simpa using hn
  have hW : zp h r = if r.kind = 8 then Jn h r else if r.kind = 3 then ZQ h r else if r.kind = 2 then ZO h r else if r.kind = 4 then ZA h (QB h.ups r.who r.number h.now) else if r.kind = 5 then ZA h (Qz h.ups r.who r.number r.offset r.text h.now) else if r.kind = 6 then qeI h r else WF h r := by
    unfold zp; rw [if_neg (fun e => e hk), if_neg hn]
  by_cases k8 : r.kind = 8
  · rw [if_pos k8] at hW
    rw [hW]
    unfold Jn
    by_cases h0 : j1 h.gras r.folder r.who = 0
    · rw [if_pos h0]
      by_cases h8 : h.fols.length = 8
      · rw [if_pos h8]
        have sv := qaH h h r rb.who hn1 k8 _ _ _ _ _ _ _ _ _ (XH h hb r rb fun _ => h8)
        rw [if_pos h0] at sv
        exact wd (t_z h h hb hr r 0 2 sv) rfl
      · rw [if_neg h8]
        have sc := qdU h hb r rb hr h0 h8
        have e1 : xy 2 (K6 h r) r = .os 2 0 (h.fols.length + 1) :: (xy 2 (K6 h r) r).drop 1 := by
          show AV.os 2 0 (K6 h r).fols.length :: _ = _
          rw [show (K6 h r).fols.length = h.fols.length + 1 from Yo _ _]; rfl
        rw [e1] at sc
        have sv := qam h (K6 h r) r rb.who hn1 k8 _ (ZI _ _) _ _ (qbA _ _) sc
        exact qdM h (K6 h r) hb hr r _ r.folder rfl rfl sv
    · rw [if_neg h0]
      have sv := qaH h h r rb.who hn1 k8 _ _ _ _ _ _ _ _ _ (XH h hb r rb fun e => absurd e h0)
      rw [if_neg h0] at sv
      refine wd (t_z h h hb hr r 0 _ sv) ?_
      rw [if_neg h0, if_neg h0]
  rw [if_neg k8] at hW
  by_cases k3 : r.kind = 3
  · rw [if_pos k3] at hW
    rw [hW]
    unfold ZQ
    by_cases h1 : jS h.gras r.folder r.who < 1
    · rw [if_pos h1]
      exact wd (t_z h h hb hr r 0 9 (qe9 h h r rb.who hn1 k3 _ _ _ _ _ _ _ _ _ (qcT h r hr h1))) rfl
    · rw [if_neg h1]
      refine wd (t_z h (qcf h r) hb hr r 0 _ (qe9 h _ r rb.who hn1 k3 _ _ _ _ _ _ _ _ _ (qgR h hb r rb hr h1))) ?_
      unfold qcf
      by_cases h0 : (zo h.gras r.folder r.who r.name r.number).2 = 0
      · simp only [if_pos h0]; rfl
      · simp only [if_neg h0]
  rw [if_neg k3] at hW
  by_cases k2 : r.kind = 2
  · rw [if_pos k2] at hW
    rw [hW]
    unfold ZO
    by_cases h1 : jS h.gras r.folder r.who < 1
    · rw [if_pos h1]
      exact wd (t_z h h hb hr r 0 9 (qec h h r rb.who hn1 k2 _ _ _ _ _ _ _ _ _ (qdC h r hr h1))) rfl
    · rw [if_neg h1]
      obtain ⟨k, hkl, e1, e2, e3, e4, e5⟩ := qd3 hr (f := r.folder) (w := r.who) (by omega)
      have sp := qgZ h hb r hr h1 k hkl e1 e2
      rw [e4]
      have hrw : J8 h.fols[k].jou r.number 10 = XL h.fols[k].jou r.number 10 := by unfold J8; rw [if_neg (by simp [y7.2 e5])]
      rw [hrw] at sp
      dsimp only
      generalize XL h.fols[k].jou r.number 10 = P at *
      obtain ⟨p, e⟩ := P
      dsimp only at *
      have sv := qec h h r rb.who hn1 k2 0 p.reset false (p.tree.map Ent.row) false (p.coms.map Com.row) p.cur p.more e sp
      by_cases h0 : e = 0
      · subst h0
        rw [if_pos rfl]
        exact qhl h h hb hr r _ _ _ _ _ _ _ _ (js fun _ => rfl) (js fun _ => rfl) sv
      · rw [if_neg h0]
        exact qgh h h hb hr r _ _ _ _ _ _ _ _ e h0 sv
  rw [if_neg k2] at hW
  by_cases k4 : r.kind = 4
  · rw [if_pos k4] at hW
    rw [hW]
    refine wd (t_z h _ hb hr r _ _ (qgt h hb.ups r rb.who hn1 k4)) ?_
    unfold ZA
    by_cases h0 : (QB h.ups r.who r.number h.now).2.2 = 0
    · simp only [if_pos h0]
    · simp only [if_neg h0]
  rw [if_neg k4] at hW
  by_cases k5 : r.kind = 5
  · rw [if_pos k5] at hW
    rw [hW]
    refine wd (t_z h _ hb hr r _ _ (qef h hb.ups r rb.who rb.text hn1 k5)) ?_
    unfold ZA
    by_cases h0 : (Qz h.ups r.who r.number r.offset r.text h.now).2.2 = 0
    · simp only [if_pos h0]
    · simp only [if_neg h0]
  rw [if_neg k5] at hW
  by_cases k6 : r.kind = 6
  · rw [if_pos k6] at hW
    rw [hW]
    refine wd (t_z h h hb hr r _ _ (qfx h hb.ups r rb.who hn1 k6)) ?_
    unfold qeI
    by_cases h0 : (Zm h.ups r.who r.number h.now).2 = 0
    · simp only [if_pos h0]
    · simp only [if_neg h0]
  rw [if_neg k6] at hW
  rw [hW]
  unfold WF
  have hmay := X9 h r a3 (by omega) 2
  by_cases h2 : jS h.gras r.folder r.who < 2
  · rw [if_pos h2]
    rw [if_pos h2] at hmay
    by_cases k7 : r.kind = 7
    · exact wd (t_z h h hb hr r 0 9 (qgN h r rb.who hn1 k7 hmay)) rfl
    · exact wd (t_z h h hb hr r 0 9 (qgG h r rb.who hn1 (by omega) hmay)) rfl
  rw [if_neg h2]
  rw [if_neg h2] at hmay
  obtain ⟨k, hkl, e1, e2, e3, e4, e5⟩ := qd3 hr (f := r.folder) (w := r.who) (by omega)
  have hset := fun j => qf1 hr.rise hkl e3 j
  by_cases k7 : r.kind = 7
  · rw [if_pos k7]
    unfold qdV
    by_cases h0 : (zy h.ups r.who r.number h.now).2.2 = 0
    · rw [if_pos h0]
      have hx : (zy h.ups r.who r.number h.now).2.1.length ≤ 1000 := by
        unfold zy
        by_cases q1 : yb h.ups r.who r.number h.now = 0
        · rw [if_pos q1]
          have := Jh q1
          split
          · simp
          · show (zC h.ups r.who r.number h.now).text.length ≤ 1000; omega
        · rw [if_neg q1]; simp
      have sf := qfd h hb r rb hr h0 hx k hkl e1 e2 e3
      refine wd (t_z h _ hb hr r _ _ (WA h _ r rb.who hn1 k7 _ _ _ _ _ _ _ _ _ sf hmay)) ?_
      unfold Kl qgQ qdv
      rw [e4]
      dsimp only
      rw [Qv e5]
      generalize zy h.ups r.who r.number h.now = P at *
      obtain ⟨u, x, e⟩ := P
      dsimp only at *
      generalize yO h.fols[k].jou r.key [⟨2, r.name, [], x, r.base⟩] = Q at *
      obtain ⟨j', n, e'⟩ := Q
      dsimp only at *
      by_cases q0 : e' = 0
      · simp only [if_pos q0, hset]
      · simp only [if_neg q0]
    · rw [if_neg h0]
      refine wd (t_z h h hb hr r 0 _ (WA h h r rb.who hn1 k7 _ _ _ _ _ _ _ _ _ (WG h hb r rb h0) hmay)) ?_
      simp only [if_neg h0]
  · rw [if_neg k7]
    have k1 : r.kind = 1 := by omega
    have sc := WP h hb r rb hr r.chs rb.chs k hkl e1 e2 e3
    refine wd (t_z h _ hb hr r _ _ (qeH h _ r rb.who hn1 k1 _ _ _ _ _ _ _ _ _ sc hmay)) ?_
    unfold Kl qdv
    rw [e4]
    dsimp only
    rw [Qv e5]
    generalize yO h.fols[k].jou r.key r.chs = Q at *
    obtain ⟨j', n, e'⟩ := Q
    dsimp only at *
    by_cases q0 : e' = 0
    · simp only [if_pos q0, hset]
    · simp only [if_neg q0]
end Go.Proofs.YtiljlcgmcmjcoaaGreatDoor
set_option linter.unusedSimpArgs false
set_option linter.unnecessarySimpa false
set_option linter.unusedVariables false
set_option maxHeartbeats 1000000
namespace Go.Proofs.YtiljlcgmcmjcoaaGreatDoor
open Go.Ab Go.RowKit
set_option maxRecDepth 10000
attribute [local irreducible] Awp jV q9 qJ Red qy Go.Ab.Fin ql Rz yQ qA qG ResOk jC q6 jH qT
def qda (lasts room : Int) : Hub := ⟨[], [], ⟨[], 1, lasts, room⟩, 0⟩
def qf6 (lasts room : Int) : Hub × Int := if yq ⟨[], 1, lasts, room⟩ = 0 then (qda lasts room, 0) else (qhb, yq ⟨[], 1, lasts, room⟩)
theorem qe0 (a b c : Int) : UBig ⟨[], a, b, c⟩ := ⟨nofun, nofun, by simp⟩
theorem qgW (lasts room : Int) : jY C.P 12 [.v (.int .i64 lasts), .v (.int .i64 room)] (.tup [zB (qf6 lasts room).1, .v (.int .i64 (qf6 lasts room).2)]) := by
  have hc := X5 ⟨[], 1, lasts, room⟩ (qe0 _ _ _)
  unfold qf6
  generalize yq ⟨[], 1, lasts, room⟩ = E at *
  by_cases h0 : E = 0
  · rw [if_pos h0]
    subst h0
    refine qa Tryz.func12 rfl _ Tryz.ntmps12 (Nat.le_of_ble_eq_true rfl) _ Tryz.results12 0 rfl rfl ?_
    repeat' (first | refine qe ?_ | (first | refine xsF Tryz.func31 (hc ..) ?_) | ((first | refine xsC ?_ ?_); all_goals (intro hc; have hp := hc; try simp at hp; try (exfalso; omega))) | refine qw ?_ ?_)
    all_goals try (exfalso; omega)
    (refine y6 (rs := [.cell 4 28, .tmp 5]) ?_; (repeat' (first | exact qZ | apply qm | exact qQ rfl | exact yI | exact z1 | apply yh | apply yX | apply yc | apply y2 | apply yx | apply yW | refine z8 ?_ | apply xS)); all_goals rfl)
  · rw [if_neg h0]
    refine qa Tryz.func12 rfl _ Tryz.ntmps12 (Nat.le_of_ble_eq_true rfl) _ Tryz.results12 0 rfl rfl ?_
    repeat' (first | refine qe ?_ | (first | refine xsF Tryz.func31 (hc ..) ?_) | ((first | refine xsC ?_ ?_); all_goals (intro hc; have hp := hc; try simp at hp; try (exfalso; omega))) | refine qw ?_ ?_)
    all_goals try (exfalso; omega)
    (refine y6 (rs := [.cell 4 28, .tmp 5]) ?_; (repeat' (first | exact qZ | apply qm | exact qQ rfl | exact yI | exact z1 | apply yh | apply yX | apply yc | apply y2 | apply yx | apply yW | refine z8 ?_ | apply xS)); all_goals rfl)
theorem qf2 (h : Hub) (hb : HBig h) (f : qB) : jY C.P 21 [zB h, .v (str f)] (.tup [qq (qcr h f).1, .v (.int .i64 (qcr h f).2)]) := by
  have hc := Q6 h hb
  unfold qcr
  by_cases h0 : vj h = 0
  case neg =>
    rw [if_neg h0]
    generalize vj h = E at *
    refine qa Tryz.func21 rfl _ Tryz.ntmps21 (Nat.le_of_ble_eq_true rfl) _ Tryz.results21 0 rfl rfl ?_
    repeat' (first | refine qe ?_ | (first | refine xsF Tryz.func16 (hc ..) ?_) | ((first | refine xsC ?_ ?_); all_goals (intro hc; have hp := hc; try simp at hp; try (exfalso; omega))) | refine qw ?_ ?_)
    all_goals try (exfalso; omega)
    (refine y6 (rs := [.tmp 4, .tmp 5]) ?_; (repeat' (first | exact qZ | apply qm | exact qQ rfl | exact yI | exact z1 | apply yh | apply yX | apply yc | apply y2 | apply yx | apply yW | refine z8 ?_ | apply xS)); all_goals rfl)
  rw [if_pos h0]
  have hr := wb.1 h0
  rw [h0] at hc
  have hl := hr.len
  have hf := Yy h f (by omega) hr.rise
  unfold qgl
  cases hh : xr h.fols f with
  | false =>
    rw [qaQ.2 hh]
    rw [hh] at hf
    refine qa Tryz.func21 rfl _ Tryz.ntmps21 (Nat.le_of_ble_eq_true rfl) _ Tryz.results21 0 rfl rfl ?_
    repeat' (first | refine qe ?_ | (first | refine xsF Tryz.func16 (hc ..) ?_ | refine xsQ Tryz.func58 (hf ..) ?_) | ((first | refine xsC ?_ ?_); all_goals (intro hc; have hp := hc; try simp at hp; try (exfalso; omega))) | refine qw ?_ ?_)
    all_goals try (exfalso; omega)
    (refine y6 (rs := [.tmp 4, .tmp 5]) ?_; (repeat' (first | exact qZ | apply qm | exact qQ rfl | exact yI | exact z1 | apply yh | apply yX | apply yc | apply y2 | apply yx | apply yW | refine z8 ?_ | apply xS)); all_goals rfl)
  | true =>
    obtain ⟨hk, h1, h2, _⟩ := qcu hr.rise hh
    have hj : wa h.fols f = some h.fols[xP h.fols f].jou := by
      unfold wa
      rw [show h.fols.find? (fun s => decide (s.name = f)) = h.fols.find? (atF f) from rfl, h2]; rfl
    rw [hj]
    dsimp only
    rw [hh] at hf
    have ht := qfv h.fols[xP h.fols f].jou (hb.fols.each _ (List.getElem_mem _)).jou
    have hrow := qF (f := Fol.row) hk
    have hz : Z2 h.fols[xP h.fols f].jou = (vf h.fols[xP h.fols f].jou, 0) := by
      have := y7.2 (hr.each _ (List.getElem_mem hk)).2
      unfold Z2; simp [this]
    rw [hz] at ht
    generalize vf h.fols[xP h.fols f].jou = T at *
    clear hj h1 h2 hr hz
    generalize hp : xP h.fols f = k at *
    refine qa Tryz.func21 rfl _ Tryz.ntmps21 (Nat.le_of_ble_eq_true rfl) _ Tryz.results21 0 rfl rfl ?_
    repeat' (first | refine qe ?_ | (first | refine xsF Tryz.func16 (hc ..) ?_ | refine xsQ Tryz.func58 (hf ..) ?_ | refine xsQ Tryz.func59 (ht ..) ?_) | ((first | refine xsC ?_ ?_); all_goals (intro hc; have hp := hc; try simp at hp; try (exfalso; omega))) | refine qw ?_ ?_)
    all_goals try (exfalso; omega)
    (refine y6 (rs := [.tmp 4, .tmp 5]) ?_; (repeat' (first | exact qZ | apply qm | exact qQ rfl | exact yI | exact z1 | apply yh | apply yX | apply yc | apply y2 | apply yx | apply yW | refine z8 ?_ | apply xS)); all_goals rfl)
end Go.Proofs.YtiljlcgmcmjcoaaGreatDoor
