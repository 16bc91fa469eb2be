import Derived.Test.YtiljlcgmcmjcoaaGreatDoorMz29
import Derived.Test.YtiljlcgmcmjcoaaGreatDoorMz22
import Derived.Test.YtiljlcgmcmjcoaaGreatDoorMz7
set_option linter.unusedSimpArgs false
set_option linter.unnecessarySimpa false
set_option linter.unusedVariables false
set_option maxHeartbeats 1000000
namespace Go.Proofs.YtiljlcgmcmjcoaaGreatDoor
open Go.Ab Go.RowKit
set_option maxRecDepth 10000
attribute [local irreducible] Awp jZ jg qJ Red qz Go.Ab.Fin qm Rz y0 qB qG ResOk jG q9 jK qV
theorem qhd (h : Hub) (r : Rqt) (hk : r.kind < 1 ∨ 8 < r.kind) : qm C2h.P 45 [.op 0 0 0] (HS h r) (xB (zP 0) 7) (HS h r) := by
  refine qa (C := C2h) Tryz.func45 rfl _ Tryz.ntmps45 (Nat.le_of_ble_eq_true rfl) _ Tryz.results45 2 rfl rfl ?_
  repeat' (first | refine qe ?_ | (first | fail) | ((first | refine qb ?_ ?_ | refine qc ?_ ?_ | refine xsC ?_ ?_); all_goals (intro hc; have hp := hc; try simp at hp; try (exfalso; omega))) | refine qv ?_ ?_)
  all_goals try (exfalso; first | omega | (rcases hk with hk | hk <;> simp_all <;> omega))
  all_goals ((apply jl (rs := [.cell 2 46, .tmp 3]) [] 2; (case hr => (repeat (first | exact qQ | (apply qR; rfl) | (apply qF; rfl; rfl; rfl; rfl; rfl)))); (case hL => rfl); (case hh => (repeat' (first | exact qh | refine yN ?_ | refine yS ?_ | refine Jk ?_ | refine qO ?_ ?_)); all_goals rfl); (case hi => exact rfl); (case hz => first | rfl | (simp [jB, AV.ren, AV.ren.renL, qW, qq, qS]; done) | (simp [jB, AV.ren, AV.ren.renL, qW, qq, qS, *]; done) | trace_state)))
theorem qeV (h : Hub) (r : Rqt) (rb : r.who.length ≤ 1000000000) (hk : 1 ≤ r.kind ∧ r.kind ≤ 8) (hn : qo r.who = false) : qm C2h.P 45 [.op 0 0 0] (HS h r) (xB (zP 0) 1) (HS h r) := by
  have hw := xM r.who (jQ rb)
  rw [hn] at hw
  refine qa (C := C2h) Tryz.func45 rfl _ Tryz.ntmps45 (Nat.le_of_ble_eq_true rfl) _ Tryz.results45 2 rfl rfl ?_
  repeat' (first | refine qe ?_ | (first | refine xsF Tryz.func37 (hw ..) ?_) | ((first | refine qb ?_ ?_ | refine qc ?_ ?_ | refine xsC ?_ ?_); all_goals (intro hc; have hp := hc; try simp at hp; try (exfalso; omega))) | refine qv ?_ ?_)
  all_goals try (exfalso; omega)
  all_goals ((apply jl (rs := [.cell 2 46, .tmp 3]) [] 2; (case hr => (repeat (first | exact qQ | (apply qR; rfl) | (apply qF; rfl; rfl; rfl; rfl; rfl)))); (case hL => rfl); (case hh => (repeat' (first | exact qh | refine yN ?_ | refine yS ?_ | refine Jk ?_ | refine qO ?_ ?_)); all_goals rfl); (case hi => exact rfl); (case hz => first | rfl | (simp [jB, AV.ren, AV.ren.renL, qW, qq, qS]; done) | (simp [jB, AV.ren, AV.ren.renL, qW, qq, qS, *]; done) | trace_state)))
def wC (n : Int) (b : Bool) (x1 : Bool) (R1 : List (List AV)) (x2 : Bool) (R2 : List (List AV)) (c : Int) (m : Bool) : List AV := [.v (.int .i64 0), .v (.int .i64 n), .v (.bool b), .sl x1 R1, .sl x2 R2, .v (.int .i64 c), .v (.bool m)]
theorem qaC (h h' : Hub) (r : Rqt) (rb : r.who.length ≤ 1000000000) (hn : qo r.who = true) (hk : r.kind = 8) (rows : List (List AV)) (hpu : ∀ row, row ∈ rows → AV.pure.pureL row = true) (cs : List AV) (k : Nat) (hcp : AV.pure.pureL cs = true) (hc : qm C2h.P 82 [.op 0 0 0] (HS h r) (xB (zP 0) 0) [.own false 17 [.os 2 0 k :: cs], .dead, .own false 4 rows]) :
    qm C2h.P 45 [.op 0 0 0] (HS h r) (xB (zP 0) 0) [.own false 17 [.os 2 0 k :: cs], .dead, .own false 4 rows] := by
  have hw := xM r.who (jQ rb)
  rw [hn] at hw
  obtain ⟨kind, who, folder, name, key, text, number, offset, base, chs⟩ := r
  dsimp only at *
  subst hk
  refine qa (C := C2h) Tryz.func45 rfl _ Tryz.ntmps45 (Nat.le_of_ble_eq_true rfl) _ Tryz.results45 2 rfl rfl ?_
  repeat' (first | refine qe ?_ | (first | refine xsF Tryz.func37 (hw ..) ?_ | (apply qH Tryz.func82 rfl rfl; intro hIsFn; refine KV [0, 1] [4] [(0, .own false 17 [.os 4 0 k :: cs]), (1, .dead), (4, .own false 4 rows)] 5 (xB (zP 0) 0) hIsFn (hc) (by ((repeat' (first | exact jN | apply jy | exact jM rfl | exact yo | (apply qy; apply jh; exact .inr (of_decide_eq_true rfl)) | (apply qy; apply je; exact .inr (of_decide_eq_true rfl)) | (apply qy; apply q8; exact .inr (of_decide_eq_true rfl)) | apply j0 | apply j1))) <;> fail) (by ((repeat' (first | exact ji | exact jj | refine qZ _ ?_ ?_ | refine qX ?_ ?_ | exact qI | exact qg (sideM_pure _) | exact qg (jx _) | exact qg (goesM_pure _) | exact q6 (fun _ => rfl) | refine qY ?_ | exact q7 | apply qu | exact qw rfl | (apply je; exact .inr (of_decide_eq_true rfl)) | (apply q8; exact .inr (of_decide_eq_true rfl)) | (apply jh; exact .inr (of_decide_eq_true rfl)) | fail))) <;> fail) (by ((repeat' (first | exact ji | exact jj | refine qZ _ ?_ ?_ | refine qX ?_ ?_ | exact qI | exact qg (sideM_pure _) | exact qg (jx _) | exact qg (goesM_pure _) | exact q6 (fun _ => rfl) | refine qY ?_ | exact q7 | apply qu | exact qw rfl | (apply je; exact .inr (of_decide_eq_true rfl)) | (apply q8; exact .inr (of_decide_eq_true rfl)) | (apply jh; exact .inr (of_decide_eq_true rfl)) | first | exact QH hcp | exact zg hpu))) <;> fail) ?_)) | ((first | refine qb ?_ ?_ | refine qc ?_ ?_ | refine xsC ?_ ?_); all_goals (intro hc; have hp := hc; try simp at hp; try (exfalso; omega))) | refine qv ?_ ?_)
  all_goals try (exfalso; omega)
  apply jl (rs := [.cell 2 46, .tmp 3]) [(4, 2)] 3
  case hr => (repeat (first | exact qQ | (apply qR; rfl) | (apply qF; rfl; rfl; rfl; rfl; rfl)))
  case hL => rfl
  case hh =>
    refine qcA ?_ (hc := hcp)
    refine j6 1 (jm rfl) ?_
    refine Jk ?_
    exact qh
  case hi => exact rfl
  case hz => first | rfl | trace_state
theorem W6 (h h' : Hub) (r : Rqt) (rb : r.who.length ≤ 1000000000) (hn : qo r.who = true) (hk : r.kind = 8) (n : Int) (b : Bool) (x1 : Bool) (R1 : List (List AV)) (x2 : Bool) (R2 : List (List AV)) (c : Int) (m : Bool) (e : Int) (hc : qm C2h.P 82 [.op 0 0 0] (HS h r) (xB (wC n b x1 R1 x2 R2 c m) e) (HS h' r)) :
    qm C2h.P 45 [.op 0 0 0] (HS h r) (xB (wC n b x1 R1 x2 R2 c m) e) (HS h' r) := by
  have hw := xM r.who (jQ rb)
  rw [hn] at hw
  obtain ⟨kind, who, folder, name, key, text, number, offset, base, chs⟩ := r
  dsimp only at *
  subst hk
  refine qa (C := C2h) Tryz.func45 rfl _ Tryz.ntmps45 (Nat.le_of_ble_eq_true rfl) _ Tryz.results45 2 rfl rfl ?_
  repeat' (first | refine qe ?_ | (first | refine xsF Tryz.func37 (hw ..) ?_ | (apply qH Tryz.func82 rfl rfl; intro hIsFn; refine yX [0, 1] [(0, .own false 17 [xJ 1 h' ⟨8, who, folder, name, key, text, number, offset, base, chs⟩]), (1, .own false 4 (h'.fols.map Fol.row))] (xB (wC n b x1 R1 x2 R2 c m) e) hIsFn (hc) (by ((repeat' (first | exact jN | apply jy | exact jM rfl | exact yo | (apply qy; apply jh; exact .inr (of_decide_eq_true rfl)) | (apply qy; apply je; exact .inr (of_decide_eq_true rfl)) | (apply qy; apply q8; exact .inr (of_decide_eq_true rfl)) | apply j0 | apply j1))) <;> fail) (by ((repeat' (first | exact ji | exact jj | refine qZ _ ?_ ?_ | refine qX ?_ ?_ | exact qI | exact qg (sideM_pure _) | exact qg (jx _) | exact qg (goesM_pure _) | exact q6 (fun _ => rfl) | refine qY ?_ | exact q7 | apply qu | exact qw rfl | (apply je; exact .inr (of_decide_eq_true rfl)) | (apply q8; exact .inr (of_decide_eq_true rfl)) | (apply jh; exact .inr (of_decide_eq_true rfl)) | fail))) <;> fail) (by ((repeat' (first | exact ji | exact jj | refine qZ _ ?_ ?_ | refine qX ?_ ?_ | exact qI | exact qg (sideM_pure _) | exact qg (jx _) | exact qg (goesM_pure _) | exact q6 (fun _ => rfl) | refine qY ?_ | exact q7 | apply qu | exact qw rfl | (apply je; exact .inr (of_decide_eq_true rfl)) | (apply q8; exact .inr (of_decide_eq_true rfl)) | (apply jh; exact .inr (of_decide_eq_true rfl)) | skip))) <;> fail) ?_)) | ((first | refine qb ?_ ?_ | refine qc ?_ ?_ | refine xsC ?_ ?_); all_goals (intro hc; have hp := hc; try simp at hp; try (exfalso; omega))) | refine qv ?_ ?_)
  all_goals try (exfalso; omega)
  (apply jl (rs := [.cell 2 46, .tmp 3]) [] 2; (case hr => (repeat (first | exact qQ | (apply qR; rfl) | (apply qF; rfl; rfl; rfl; rfl; rfl)))); (case hL => rfl); (case hh => (repeat' (first | exact qh | refine yN ?_ | refine yS ?_ | refine Jk ?_ | refine qO ?_ ?_)); all_goals rfl); (case hi => exact rfl); (case hz => first | rfl | (simp [jB, AV.ren, AV.ren.renL, qW, qq, qS]; done) | (simp [jB, AV.ren, AV.ren.renL, qW, qq, qS, *]; done) | trace_state))
theorem qe7 (h h' : Hub) (r : Rqt) (rb : r.who.length ≤ 1000000000) (hn : qo r.who = true) (hk : r.kind = 3) (n : Int) (b : Bool) (x1 : Bool) (R1 : List (List AV)) (x2 : Bool) (R2 : List (List AV)) (c : Int) (m : Bool) (e : Int) (hc : qm C2h.P 83 [.op 0 0 0] (HS h r) (xB (wC n b x1 R1 x2 R2 c m) e) (HS h' r)) :
    qm C2h.P 45 [.op 0 0 0] (HS h r) (xB (wC n b x1 R1 x2 R2 c m) e) (HS h' r) := by
  have hw := xM r.who (jQ rb)
  rw [hn] at hw
  obtain ⟨kind, who, folder, name, key, text, number, offset, base, chs⟩ := r
  dsimp only at *
  subst hk
  refine qa (C := C2h) Tryz.func45 rfl _ Tryz.ntmps45 (Nat.le_of_ble_eq_true rfl) _ Tryz.results45 2 rfl rfl ?_
  repeat' (first | refine qe ?_ | (first | refine xsF Tryz.func37 (hw ..) ?_ | (apply qH Tryz.func83 rfl rfl; intro hIsFn; refine yX [0, 1] [(0, .own false 17 [xJ 1 h' ⟨3, who, folder, name, key, text, number, offset, base, chs⟩]), (1, .own false 4 (h'.fols.map Fol.row))] (xB (wC n b x1 R1 x2 R2 c m) e) hIsFn (hc) (by ((repeat' (first | exact jN | apply jy | exact jM rfl | exact yo | (apply qy; apply jh; exact .inr (of_decide_eq_true rfl)) | (apply qy; apply je; exact .inr (of_decide_eq_true rfl)) | (apply qy; apply q8; exact .inr (of_decide_eq_true rfl)) | apply j0 | apply j1))) <;> fail) (by ((repeat' (first | exact ji | exact jj | refine qZ _ ?_ ?_ | refine qX ?_ ?_ | exact qI | exact qg (sideM_pure _) | exact qg (jx _) | exact qg (goesM_pure _) | exact q6 (fun _ => rfl) | refine qY ?_ | exact q7 | apply qu | exact qw rfl | (apply je; exact .inr (of_decide_eq_true rfl)) | (apply q8; exact .inr (of_decide_eq_true rfl)) | (apply jh; exact .inr (of_decide_eq_true rfl)) | fail))) <;> fail) (by ((repeat' (first | exact ji | exact jj | refine qZ _ ?_ ?_ | refine qX ?_ ?_ | exact qI | exact qg (sideM_pure _) | exact qg (jx _) | exact qg (goesM_pure _) | exact q6 (fun _ => rfl) | refine qY ?_ | exact q7 | apply qu | exact qw rfl | (apply je; exact .inr (of_decide_eq_true rfl)) | (apply q8; exact .inr (of_decide_eq_true rfl)) | (apply jh; exact .inr (of_decide_eq_true rfl)) | skip))) <;> fail) ?_)) | ((first | refine qb ?_ ?_ | refine qc ?_ ?_ | refine xsC ?_ ?_); all_goals (intro hc; have hp := hc; try simp at hp; try (exfalso; omega))) | refine qv ?_ ?_)
  all_goals try (exfalso; omega)
  (apply jl (rs := [.cell 2 46, .tmp 3]) [] 2; (case hr => (repeat (first | exact qQ | (apply qR; rfl) | (apply qF; rfl; rfl; rfl; rfl; rfl)))); (case hL => rfl); (case hh => (repeat' (first | exact qh | refine yN ?_ | refine yS ?_ | refine Jk ?_ | refine qO ?_ ?_)); all_goals rfl); (case hi => exact rfl); (case hz => first | rfl | (simp [jB, AV.ren, AV.ren.renL, qW, qq, qS]; done) | (simp [jB, AV.ren, AV.ren.renL, qW, qq, qS, *]; done) | trace_state))
theorem qfK (h h' : Hub) (r : Rqt) (rb : r.who.length ≤ 1000000000) (hn : qo r.who = true) (hk : r.kind = 2) (n : Int) (b : Bool) (x1 : Bool) (R1 : List (List AV)) (x2 : Bool) (R2 : List (List AV)) (c : Int) (m : Bool) (e : Int) (hc : qm C2h.P 84 [.op 0 0 0] (HS h r) (xB (wC n b x1 R1 x2 R2 c m) e) (HS h' r)) :
    qm C2h.P 45 [.op 0 0 0] (HS h r) (xB (wC n b x1 R1 x2 R2 c m) e) (HS h' r) := by
  have hw := xM r.who (jQ rb)
  rw [hn] at hw
  obtain ⟨kind, who, folder, name, key, text, number, offset, base, chs⟩ := r
  dsimp only at *
  subst hk
  refine qa (C := C2h) Tryz.func45 rfl _ Tryz.ntmps45 (Nat.le_of_ble_eq_true rfl) _ Tryz.results45 2 rfl rfl ?_
  repeat' (first | refine qe ?_ | (first | refine xsF Tryz.func37 (hw ..) ?_ | (apply qH Tryz.func84 rfl rfl; intro hIsFn; refine yX [0, 1] [(0, .own false 17 [xJ 1 h' ⟨2, who, folder, name, key, text, number, offset, base, chs⟩]), (1, .own false 4 (h'.fols.map Fol.row))] (xB (wC n b x1 R1 x2 R2 c m) e) hIsFn (hc) (by ((repeat' (first | exact jN | apply jy | exact jM rfl | exact yo | (apply qy; apply jh; exact .inr (of_decide_eq_true rfl)) | (apply qy; apply je; exact .inr (of_decide_eq_true rfl)) | (apply qy; apply q8; exact .inr (of_decide_eq_true rfl)) | apply j0 | apply j1))) <;> fail) (by ((repeat' (first | exact ji | exact jj | refine qZ _ ?_ ?_ | refine qX ?_ ?_ | exact qI | exact qg (sideM_pure _) | exact qg (jx _) | exact qg (goesM_pure _) | exact q6 (fun _ => rfl) | refine qY ?_ | exact q7 | apply qu | exact qw rfl | (apply je; exact .inr (of_decide_eq_true rfl)) | (apply q8; exact .inr (of_decide_eq_true rfl)) | (apply jh; exact .inr (of_decide_eq_true rfl)) | fail))) <;> fail) (by ((repeat' (first | exact ji | exact jj | refine qZ _ ?_ ?_ | refine qX ?_ ?_ | exact qI | exact qg (sideM_pure _) | exact qg (jx _) | exact qg (goesM_pure _) | exact q6 (fun _ => rfl) | refine qY ?_ | exact q7 | apply qu | exact qw rfl | (apply je; exact .inr (of_decide_eq_true rfl)) | (apply q8; exact .inr (of_decide_eq_true rfl)) | (apply jh; exact .inr (of_decide_eq_true rfl)) | skip))) <;> fail) ?_)) | ((first | refine qb ?_ ?_ | refine qc ?_ ?_ | refine xsC ?_ ?_); all_goals (intro hc; have hp := hc; try simp at hp; try (exfalso; omega))) | refine qv ?_ ?_)
  all_goals try (exfalso; omega)
  (apply jl (rs := [.cell 2 46, .tmp 3]) [] 2; (case hr => (repeat (first | exact qQ | (apply qR; rfl) | (apply qF; rfl; rfl; rfl; rfl; rfl)))); (case hL => rfl); (case hh => (repeat' (first | exact qh | refine yN ?_ | refine yS ?_ | refine Jk ?_ | refine qO ?_ ?_)); all_goals rfl); (case hi => exact rfl); (case hz => first | rfl | (simp [jB, AV.ren, AV.ren.renL, qW, qq, qS]; done) | (simp [jB, AV.ren, AV.ren.renL, qW, qq, qS, *]; done) | trace_state))
theorem WM (h h' : Hub) (r : Rqt) (rb : r.who.length ≤ 1000000000) (hn : qo r.who = true) (hk : r.kind = 7) (n : Int) (b : Bool) (x1 : Bool) (R1 : List (List AV)) (x2 : Bool) (R2 : List (List AV)) (c : Int) (m : Bool) (e : Int) (hc : qm C2h.P 90 [.op 0 0 0] (HS h r) (xB (wC n b x1 R1 x2 R2 c m) e) (HS h' r)) (hm : qm C2h.P 89 [.op 0 0 0, .v (.int .i64 2)] (HS h r) (.v (.int .i64 0)) (HS h r)) :
    qm C2h.P 45 [.op 0 0 0] (HS h r) (xB (wC n b x1 R1 x2 R2 c m) e) (HS h' r) := by
  have hw := xM r.who (jQ rb)
  rw [hn] at hw
  obtain ⟨kind, who, folder, name, key, text, number, offset, base, chs⟩ := r
  dsimp only at *
  subst hk
  refine qa (C := C2h) Tryz.func45 rfl _ Tryz.ntmps45 (Nat.le_of_ble_eq_true rfl) _ Tryz.results45 2 rfl rfl ?_
  repeat' (first | refine qe ?_ | (first | refine xsF Tryz.func37 (hw ..) ?_ | (apply qH Tryz.func90 rfl rfl; intro hIsFn; refine yX [0, 1] [(0, .own false 17 [xJ 1 h' ⟨7, who, folder, name, key, text, number, offset, base, chs⟩]), (1, .own false 4 (h'.fols.map Fol.row))] (xB (wC n b x1 R1 x2 R2 c m) e) hIsFn (hc) (by ((repeat' (first | exact jN | apply jy | exact jM rfl | exact yo | (apply qy; apply jh; exact .inr (of_decide_eq_true rfl)) | (apply qy; apply je; exact .inr (of_decide_eq_true rfl)) | (apply qy; apply q8; exact .inr (of_decide_eq_true rfl)) | apply j0 | apply j1))) <;> fail) (by ((repeat' (first | exact ji | exact jj | refine qZ _ ?_ ?_ | refine qX ?_ ?_ | exact qI | exact qg (sideM_pure _) | exact qg (jx _) | exact qg (goesM_pure _) | exact q6 (fun _ => rfl) | refine qY ?_ | exact q7 | apply qu | exact qw rfl | (apply je; exact .inr (of_decide_eq_true rfl)) | (apply q8; exact .inr (of_decide_eq_true rfl)) | (apply jh; exact .inr (of_decide_eq_true rfl)) | fail))) <;> fail) (by ((repeat' (first | exact ji | exact jj | refine qZ _ ?_ ?_ | refine qX ?_ ?_ | exact qI | exact qg (sideM_pure _) | exact qg (jx _) | exact qg (goesM_pure _) | exact q6 (fun _ => rfl) | refine qY ?_ | exact q7 | apply qu | exact qw rfl | (apply je; exact .inr (of_decide_eq_true rfl)) | (apply q8; exact .inr (of_decide_eq_true rfl)) | (apply jh; exact .inr (of_decide_eq_true rfl)) | skip))) <;> fail) ?_) | (apply qH Tryz.func89 rfl rfl; intro hIsFn; refine yX [0, 1] [(0, .own false 17 [xJ 1 h ⟨7, who, folder, name, key, text, number, offset, base, chs⟩]), (1, .own false 4 (h.fols.map Fol.row))] (.v (.int .i64 (0))) hIsFn (hm) (by ((repeat' (first | exact jN | apply jy | exact jM rfl | exact yo | (apply qy; apply jh; exact .inr (of_decide_eq_true rfl)) | (apply qy; apply je; exact .inr (of_decide_eq_true rfl)) | (apply qy; apply q8; exact .inr (of_decide_eq_true rfl)) | apply j0 | apply j1))) <;> fail) (by ((repeat' (first | exact ji | exact jj | refine qZ _ ?_ ?_ | refine qX ?_ ?_ | exact qI | exact qg (sideM_pure _) | exact qg (jx _) | exact qg (goesM_pure _) | exact q6 (fun _ => rfl) | refine qY ?_ | exact q7 | apply qu | exact qw rfl | (apply je; exact .inr (of_decide_eq_true rfl)) | (apply q8; exact .inr (of_decide_eq_true rfl)) | (apply jh; exact .inr (of_decide_eq_true rfl)) | fail))) <;> fail) (by ((repeat' (first | exact ji | exact jj | refine qZ _ ?_ ?_ | refine qX ?_ ?_ | exact qI | exact qg (sideM_pure _) | exact qg (jx _) | exact qg (goesM_pure _) | exact q6 (fun _ => rfl) | refine qY ?_ | exact q7 | apply qu | exact qw rfl | (apply je; exact .inr (of_decide_eq_true rfl)) | (apply q8; exact .inr (of_decide_eq_true rfl)) | (apply jh; exact .inr (of_decide_eq_true rfl)) | skip))) <;> fail) ?_)) | ((first | refine qb ?_ ?_ | refine qc ?_ ?_ | refine xsC ?_ ?_); all_goals (intro hc; have hp := hc; try simp at hp; try (exfalso; omega))) | refine qv ?_ ?_)
  all_goals try (exfalso; omega)
  (apply jl (rs := [.cell 2 46, .tmp 3]) [] 2; (case hr => (repeat (first | exact qQ | (apply qR; rfl) | (apply qF; rfl; rfl; rfl; rfl; rfl)))); (case hL => rfl); (case hh => (repeat' (first | exact qh | refine yN ?_ | refine yS ?_ | refine Jk ?_ | refine qO ?_ ?_)); all_goals rfl); (case hi => exact rfl); (case hz => first | rfl | (simp [jB, AV.ren, AV.ren.renL, qW, qq, qS]; done) | (simp [jB, AV.ren, AV.ren.renL, qW, qq, qS, *]; done) | trace_state))
theorem qfn (h h' : Hub) (r : Rqt) (rb : r.who.length ≤ 1000000000) (hn : qo r.who = true) (hk : r.kind = 1) (n : Int) (b : Bool) (x1 : Bool) (R1 : List (List AV)) (x2 : Bool) (R2 : List (List AV)) (c : Int) (m : Bool) (e : Int) (hc : qm C2h.P 91 [.op 0 0 0, xo r.chs] (HS h r) (xB (wC n b x1 R1 x2 R2 c m) e) (HS h' r)) (hm : qm C2h.P 89 [.op 0 0 0, .v (.int .i64 2)] (HS h r) (.v (.int .i64 0)) (HS h r)) :
    qm C2h.P 45 [.op 0 0 0] (HS h r) (xB (wC n b x1 R1 x2 R2 c m) e) (HS h' r) := by
  have hw := xM r.who (jQ rb)
  rw [hn] at hw
  obtain ⟨kind, who, folder, name, key, text, number, offset, base, chs⟩ := r
  dsimp only at *
  subst hk
  refine qa (C := C2h) Tryz.func45 rfl _ Tryz.ntmps45 (Nat.le_of_ble_eq_true rfl) _ Tryz.results45 2 rfl rfl ?_
  repeat' (first | refine qe ?_ | (first | refine xsF Tryz.func37 (hw ..) ?_ | (apply qH Tryz.func91 rfl rfl; intro hIsFn; refine yX [0, 1] [(0, .own false 17 [xJ 1 h' ⟨1, who, folder, name, key, text, number, offset, base, chs⟩]), (1, .own false 4 (h'.fols.map Fol.row))] (xB (wC n b x1 R1 x2 R2 c m) e) hIsFn (hc) (by ((repeat' (first | exact jN | apply jy | exact jM rfl | exact yo | (apply qy; apply jh; exact .inr (of_decide_eq_true rfl)) | (apply qy; apply je; exact .inr (of_decide_eq_true rfl)) | (apply qy; apply q8; exact .inr (of_decide_eq_true rfl)) | apply j0 | apply j1))) <;> fail) (by ((repeat' (first | exact ji | exact jj | refine qZ _ ?_ ?_ | refine qX ?_ ?_ | exact qI | exact qg (sideM_pure _) | exact qg (jx _) | exact qg (goesM_pure _) | exact q6 (fun _ => rfl) | refine qY ?_ | exact q7 | apply qu | exact qw rfl | (apply je; exact .inr (of_decide_eq_true rfl)) | (apply q8; exact .inr (of_decide_eq_true rfl)) | (apply jh; exact .inr (of_decide_eq_true rfl)) | fail))) <;> fail) (by ((repeat' (first | exact ji | exact jj | refine qZ _ ?_ ?_ | refine qX ?_ ?_ | exact qI | exact qg (sideM_pure _) | exact qg (jx _) | exact qg (goesM_pure _) | exact q6 (fun _ => rfl) | refine qY ?_ | exact q7 | apply qu | exact qw rfl | (apply je; exact .inr (of_decide_eq_true rfl)) | (apply q8; exact .inr (of_decide_eq_true rfl)) | (apply jh; exact .inr (of_decide_eq_true rfl)) | skip))) <;> fail) ?_) | (apply qH Tryz.func89 rfl rfl; intro hIsFn; refine yX [0, 1] [(0, .own false 17 [xJ 1 h ⟨1, who, folder, name, key, text, number, offset, base, chs⟩]), (1, .own false 4 (h.fols.map Fol.row))] (.v (.int .i64 (0))) hIsFn (hm) (by ((repeat' (first | exact jN | apply jy | exact jM rfl | exact yo | (apply qy; apply jh; exact .inr (of_decide_eq_true rfl)) | (apply qy; apply je; exact .inr (of_decide_eq_true rfl)) | (apply qy; apply q8; exact .inr (of_decide_eq_true rfl)) | apply j0 | apply j1))) <;> fail) (by ((repeat' (first | exact ji | exact jj | refine qZ _ ?_ ?_ | refine qX ?_ ?_ | exact qI | exact qg (sideM_pure _) | exact qg (jx _) | exact qg (goesM_pure _) | exact q6 (fun _ => rfl) | refine qY ?_ | exact q7 | apply qu | exact qw rfl | (apply je; exact .inr (of_decide_eq_true rfl)) | (apply q8; exact .inr (of_decide_eq_true rfl)) | (apply jh; exact .inr (of_decide_eq_true rfl)) | fail))) <;> fail) (by ((repeat' (first | exact ji | exact jj | refine qZ _ ?_ ?_ | refine qX ?_ ?_ | exact qI | exact qg (sideM_pure _) | exact qg (jx _) | exact qg (goesM_pure _) | exact q6 (fun _ => rfl) | refine qY ?_ | exact q7 | apply qu | exact qw rfl | (apply je; exact .inr (of_decide_eq_true rfl)) | (apply q8; exact .inr (of_decide_eq_true rfl)) | (apply jh; exact .inr (of_decide_eq_true rfl)) | skip))) <;> fail) ?_)) | ((first | refine qb ?_ ?_ | refine qc ?_ ?_ | refine xsC ?_ ?_); all_goals (intro hc; have hp := hc; try simp at hp; try (exfalso; omega))) | refine qv ?_ ?_)
  all_goals try (exfalso; omega)
  (apply jl (rs := [.cell 2 46, .tmp 3]) [] 2; (case hr => (repeat (first | exact qQ | (apply qR; rfl) | (apply qF; rfl; rfl; rfl; rfl; rfl)))); (case hL => rfl); (case hh => (repeat' (first | exact qh | refine yN ?_ | refine yS ?_ | refine Jk ?_ | refine qO ?_ ?_)); all_goals rfl); (case hi => exact rfl); (case hz => first | rfl | (simp [jB, AV.ren, AV.ren.renL, qW, qq, qS]; done) | (simp [jB, AV.ren, AV.ren.renL, qW, qq, qS, *]; done) | trace_state))
theorem qg9 (h : Hub) (r : Rqt) (rb : r.who.length ≤ 1000000000) (hn : qo r.who = true) (hk : r.kind = 1) (hm : qm C2h.P 89 [.op 0 0 0, .v (.int .i64 2)] (HS h r) (.v (.int .i64 9)) (HS h r)) :
    qm C2h.P 45 [.op 0 0 0] (HS h r) (xB (zP 0) 9) (HS h r) := by
  have hw := xM r.who (jQ rb)
  rw [hn] at hw
  obtain ⟨kind, who, folder, name, key, text, number, offset, base, chs⟩ := r
  dsimp only at *
  subst hk
  refine qa (C := C2h) Tryz.func45 rfl _ Tryz.ntmps45 (Nat.le_of_ble_eq_true rfl) _ Tryz.results45 2 rfl rfl ?_
  repeat' (first | refine qe ?_ | (first | refine xsF Tryz.func37 (hw ..) ?_ | (apply qH Tryz.func89 rfl rfl; intro hIsFn; refine yX [0, 1] [(0, .own false 17 [xJ 1 h ⟨1, who, folder, name, key, text, number, offset, base, chs⟩]), (1, .own false 4 (h.fols.map Fol.row))] (.v (.int .i64 (9))) hIsFn (hm) (by ((repeat' (first | exact jN | apply jy | exact jM rfl | exact yo | (apply qy; apply jh; exact .inr (of_decide_eq_true rfl)) | (apply qy; apply je; exact .inr (of_decide_eq_true rfl)) | (apply qy; apply q8; exact .inr (of_decide_eq_true rfl)) | apply j0 | apply j1))) <;> fail) (by ((repeat' (first | exact ji | exact jj | refine qZ _ ?_ ?_ | refine qX ?_ ?_ | exact qI | exact qg (sideM_pure _) | exact qg (jx _) | exact qg (goesM_pure _) | exact q6 (fun _ => rfl) | refine qY ?_ | exact q7 | apply qu | exact qw rfl | (apply je; exact .inr (of_decide_eq_true rfl)) | (apply q8; exact .inr (of_decide_eq_true rfl)) | (apply jh; exact .inr (of_decide_eq_true rfl)) | fail))) <;> fail) (by ((repeat' (first | exact ji | exact jj | refine qZ _ ?_ ?_ | refine qX ?_ ?_ | exact qI | exact qg (sideM_pure _) | exact qg (jx _) | exact qg (goesM_pure _) | exact q6 (fun _ => rfl) | refine qY ?_ | exact q7 | apply qu | exact qw rfl | (apply je; exact .inr (of_decide_eq_true rfl)) | (apply q8; exact .inr (of_decide_eq_true rfl)) | (apply jh; exact .inr (of_decide_eq_true rfl)) | skip))) <;> fail) ?_)) | ((first | refine qb ?_ ?_ | refine qc ?_ ?_ | refine xsC ?_ ?_); all_goals (intro hc; have hp := hc; try simp at hp; try (exfalso; omega))) | refine qv ?_ ?_)
  all_goals try (exfalso; omega)
  (apply jl (rs := [.cell 2 46, .tmp 3]) [] 2; (case hr => (repeat (first | exact qQ | (apply qR; rfl) | (apply qF; rfl; rfl; rfl; rfl; rfl)))); (case hL => rfl); (case hh => (repeat' (first | exact qh | refine yN ?_ | refine yS ?_ | refine Jk ?_ | refine qO ?_ ?_)); all_goals rfl); (case hi => exact rfl); (case hz => first | rfl | (simp [jB, AV.ren, AV.ren.renL, qW, qq, qS]; done) | (simp [jB, AV.ren, AV.ren.renL, qW, qq, qS, *]; done) | trace_state))
theorem qhl (h : Hub) (r : Rqt) (rb : r.who.length ≤ 1000000000) (hn : qo r.who = true) (hk : r.kind = 7) (hm : qm C2h.P 89 [.op 0 0 0, .v (.int .i64 2)] (HS h r) (.v (.int .i64 9)) (HS h r)) :
    qm C2h.P 45 [.op 0 0 0] (HS h r) (xB (zP 0) 9) (HS h r) := by
  have hw := xM r.who (jQ rb)
  rw [hn] at hw
  obtain ⟨kind, who, folder, name, key, text, number, offset, base, chs⟩ := r
  dsimp only at *
  subst hk
  refine qa (C := C2h) Tryz.func45 rfl _ Tryz.ntmps45 (Nat.le_of_ble_eq_true rfl) _ Tryz.results45 2 rfl rfl ?_
  repeat' (first | refine qe ?_ | (first | refine xsF Tryz.func37 (hw ..) ?_ | (apply qH Tryz.func89 rfl rfl; intro hIsFn; refine yX [0, 1] [(0, .own false 17 [xJ 1 h ⟨7, who, folder, name, key, text, number, offset, base, chs⟩]), (1, .own false 4 (h.fols.map Fol.row))] (.v (.int .i64 (9))) hIsFn (hm) (by ((repeat' (first | exact jN | apply jy | exact jM rfl | exact yo | (apply qy; apply jh; exact .inr (of_decide_eq_true rfl)) | (apply qy; apply je; exact .inr (of_decide_eq_true rfl)) | (apply qy; apply q8; exact .inr (of_decide_eq_true rfl)) | apply j0 | apply j1))) <;> fail) (by ((repeat' (first | exact ji | exact jj | refine qZ _ ?_ ?_ | refine qX ?_ ?_ | exact qI | exact qg (sideM_pure _) | exact qg (jx _) | exact qg (goesM_pure _) | exact q6 (fun _ => rfl) | refine qY ?_ | exact q7 | apply qu | exact qw rfl | (apply je; exact .inr (of_decide_eq_true rfl)) | (apply q8; exact .inr (of_decide_eq_true rfl)) | (apply jh; exact .inr (of_decide_eq_true rfl)) | fail))) <;> fail) (by ((repeat' (first | exact ji | exact jj | refine qZ _ ?_ ?_ | refine qX ?_ ?_ | exact qI | exact qg (sideM_pure _) | exact qg (jx _) | exact qg (goesM_pure _) | exact q6 (fun _ => rfl) | refine qY ?_ | exact q7 | apply qu | exact qw rfl | (apply je; exact .inr (of_decide_eq_true rfl)) | (apply q8; exact .inr (of_decide_eq_true rfl)) | (apply jh; exact .inr (of_decide_eq_true rfl)) | skip))) <;> fail) ?_)) | ((first | refine qb ?_ ?_ | refine qc ?_ ?_ | refine xsC ?_ ?_); all_goals (intro hc; have hp := hc; try simp at hp; try (exfalso; omega))) | refine qv ?_ ?_)
  all_goals try (exfalso; omega)
  (apply jl (rs := [.cell 2 46, .tmp 3]) [] 2; (case hr => (repeat (first | exact qQ | (apply qR; rfl) | (apply qF; rfl; rfl; rfl; rfl; rfl)))); (case hL => rfl); (case hh => (repeat' (first | exact qh | refine yN ?_ | refine yS ?_ | refine Jk ?_ | refine qO ?_ ?_)); all_goals rfl); (case hi => exact rfl); (case hz => first | rfl | (simp [jB, AV.ren, AV.ren.renL, qW, qq, qS]; done) | (simp [jB, AV.ren, AV.ren.renL, qW, qq, qS, *]; done) | trace_state))
theorem qhw (h : Hub) (hu : UBig h.ups) (r : Rqt) (rb : r.who.length ≤ 1000000000) (hn : qo r.who = true) (hk : r.kind = 4) :
    qm C2h.P 45 [.op 0 0 0] (HS h r) (xB (zP (QM h.ups r.who r.number h.now).2.1) (QM h.ups r.who r.number h.now).2.2) (HS (if (QM h.ups r.who r.number h.now).2.2 = 0 then { h with ups := (QM h.ups r.who r.number h.now).1 } else h) r) := by
  have ho := qg6 h.ups hu r.who rb r.number h.now
  have hs := Z1 h r (QM h.ups r.who r.number h.now).1 (QM h.ups r.who r.number h.now).2.1 (QM h.ups r.who r.number h.now).2.2
  have hw := xM r.who (jQ rb)
  rw [hn] at hw
  obtain ⟨kind, who, folder, name, key, text, number, offset, base, chs⟩ := r
  dsimp only at *
  subst hk
  generalize QM h.ups who number h.now = P at *
  obtain ⟨u, n, e⟩ := P
  dsimp only at *
  generalize (if e = 0 then ({ h with ups := u } : Hub) else h) = h' at *
  refine qa (C := C2h) Tryz.func45 rfl _ Tryz.ntmps45 (Nat.le_of_ble_eq_true rfl) _ Tryz.results45 2 rfl rfl ?_
  repeat' (first | refine qe ?_ | (first | refine xsF Tryz.func37 (hw ..) ?_ | refine xsQ Tryz.func86 (ho ..) ?_ | (apply qH Tryz.func85 rfl rfl; intro hIsFn; refine yX [0, 1] [(0, .own false 17 [xJ 1 h' ⟨4, who, folder, name, key, text, number, offset, base, chs⟩]), (1, .own false 4 (h'.fols.map Fol.row))] (xB (zP n) e) hIsFn (hs) (by ((repeat' (first | exact jN | apply jy | exact jM rfl | exact yo | (apply qy; apply jh; exact .inr (of_decide_eq_true rfl)) | (apply qy; apply je; exact .inr (of_decide_eq_true rfl)) | (apply qy; apply q8; exact .inr (of_decide_eq_true rfl)) | apply j0 | apply j1))) <;> fail) (by ((repeat' (first | exact ji | exact jj | refine qZ _ ?_ ?_ | refine qX ?_ ?_ | exact qI | exact qg (sideM_pure _) | exact qg (jx _) | exact qg (goesM_pure _) | exact q6 (fun _ => rfl) | refine qY ?_ | exact q7 | apply qu | exact qw rfl | (apply je; exact .inr (of_decide_eq_true rfl)) | (apply q8; exact .inr (of_decide_eq_true rfl)) | (apply jh; exact .inr (of_decide_eq_true rfl)) | fail))) <;> fail) (by ((repeat' (first | exact ji | exact jj | refine qZ _ ?_ ?_ | refine qX ?_ ?_ | exact qI | exact qg (sideM_pure _) | exact qg (jx _) | exact qg (goesM_pure _) | exact q6 (fun _ => rfl) | refine qY ?_ | exact q7 | apply qu | exact qw rfl | (apply je; exact .inr (of_decide_eq_true rfl)) | (apply q8; exact .inr (of_decide_eq_true rfl)) | (apply jh; exact .inr (of_decide_eq_true rfl)) | skip))) <;> fail) ?_)) | ((first | refine qb ?_ ?_ | refine qc ?_ ?_ | refine xsC ?_ ?_); all_goals (intro hc; have hp := hc; try simp at hp; try (exfalso; omega))) | refine qv ?_ ?_)
  all_goals try (exfalso; omega)
  (apply jl (rs := [.cell 2 46, .tmp 3]) [] 2; (case hr => (repeat (first | exact qQ | (apply qR; rfl) | (apply qF; rfl; rfl; rfl; rfl; rfl)))); (case hL => rfl); (case hh => (repeat' (first | exact qh | refine yN ?_ | refine yS ?_ | refine Jk ?_ | refine qO ?_ ?_)); all_goals rfl); (case hi => exact rfl); (case hz => first | rfl | (simp [jB, AV.ren, AV.ren.renL, qW, qq, qS]; done) | (simp [jB, AV.ren, AV.ren.renL, qW, qq, qS, *]; done) | trace_state))
theorem qfs (h : Hub) (hu : UBig h.ups) (r : Rqt) (rb : r.who.length ≤ 1000000000) (rt : r.text.length ≤ 1000000000) (hn : qo r.who = true) (hk : r.kind = 5) :
    qm C2h.P 45 [.op 0 0 0] (HS h r) (xB (zP (QN h.ups r.who r.number r.offset r.text h.now).2.1) (QN h.ups r.who r.number r.offset r.text h.now).2.2) (HS (if (QN h.ups r.who r.number r.offset r.text h.now).2.2 = 0 then { h with ups := (QN h.ups r.who r.number r.offset r.text h.now).1 } else h) r) := by
  have ho := qfA h.ups hu r.who rb r.number r.offset r.text rt h.now
  have hs := Z1 h r (QN h.ups r.who r.number r.offset r.text h.now).1 (QN h.ups r.who r.number r.offset r.text h.now).2.1 (QN h.ups r.who r.number r.offset r.text h.now).2.2
  have hw := xM r.who (jQ rb)
  rw [hn] at hw
  obtain ⟨kind, who, folder, name, key, text, number, offset, base, chs⟩ := r
  dsimp only at *
  subst hk
  generalize QN h.ups who number offset text h.now = P at *
  obtain ⟨u, n, e⟩ := P
  dsimp only at *
  generalize (if e = 0 then ({ h with ups := u } : Hub) else h) = h' at *
  refine qa (C := C2h) Tryz.func45 rfl _ Tryz.ntmps45 (Nat.le_of_ble_eq_true rfl) _ Tryz.results45 2 rfl rfl ?_
  repeat' (first | refine qe ?_ | (first | refine xsF Tryz.func37 (hw ..) ?_ | refine xsQ Tryz.func87 (ho ..) ?_ | (apply qH Tryz.func85 rfl rfl; intro hIsFn; refine yX [0, 1] [(0, .own false 17 [xJ 1 h' ⟨5, who, folder, name, key, text, number, offset, base, chs⟩]), (1, .own false 4 (h'.fols.map Fol.row))] (xB (zP n) e) hIsFn (hs) (by ((repeat' (first | exact jN | apply jy | exact jM rfl | exact yo | (apply qy; apply jh; exact .inr (of_decide_eq_true rfl)) | (apply qy; apply je; exact .inr (of_decide_eq_true rfl)) | (apply qy; apply q8; exact .inr (of_decide_eq_true rfl)) | apply j0 | apply j1))) <;> fail) (by ((repeat' (first | exact ji | exact jj | refine qZ _ ?_ ?_ | refine qX ?_ ?_ | exact qI | exact qg (sideM_pure _) | exact qg (jx _) | exact qg (goesM_pure _) | exact q6 (fun _ => rfl) | refine qY ?_ | exact q7 | apply qu | exact qw rfl | (apply je; exact .inr (of_decide_eq_true rfl)) | (apply q8; exact .inr (of_decide_eq_true rfl)) | (apply jh; exact .inr (of_decide_eq_true rfl)) | fail))) <;> fail) (by ((repeat' (first | exact ji | exact jj | refine qZ _ ?_ ?_ | refine qX ?_ ?_ | exact qI | exact qg (sideM_pure _) | exact qg (jx _) | exact qg (goesM_pure _) | exact q6 (fun _ => rfl) | refine qY ?_ | exact q7 | apply qu | exact qw rfl | (apply je; exact .inr (of_decide_eq_true rfl)) | (apply q8; exact .inr (of_decide_eq_true rfl)) | (apply jh; exact .inr (of_decide_eq_true rfl)) | skip))) <;> fail) ?_)) | ((first | refine qb ?_ ?_ | refine qc ?_ ?_ | refine xsC ?_ ?_); all_goals (intro hc; have hp := hc; try simp at hp; try (exfalso; omega))) | refine qv ?_ ?_)
  all_goals try (exfalso; omega)
  (apply jl (rs := [.cell 2 46, .tmp 3]) [] 2; (case hr => (repeat (first | exact qQ | (apply qR; rfl) | (apply qF; rfl; rfl; rfl; rfl; rfl)))); (case hL => rfl); (case hh => (repeat' (first | exact qh | refine yN ?_ | refine yS ?_ | refine Jk ?_ | refine qO ?_ ?_)); all_goals rfl); (case hi => exact rfl); (case hz => first | rfl | (simp [jB, AV.ren, AV.ren.renL, qW, qq, qS]; done) | (simp [jB, AV.ren, AV.ren.renL, qW, qq, qS, *]; done) | trace_state))
theorem qgE (h : Hub) (hu : UBig h.ups) (r : Rqt) (rb : r.who.length ≤ 1000000000) (hn : qo r.who = true) (hk : r.kind = 6) :
    qm C2h.P 45 [.op 0 0 0] (HS h r) (xB (zP (ZB h.ups r.who r.number h.now).1) (ZB h.ups r.who r.number h.now).2) (HS h r) := by
  have ho := qge h.ups hu r.who rb r.number h.now
  have hw := xM r.who (jQ rb)
  rw [hn] at hw
  obtain ⟨kind, who, folder, name, key, text, number, offset, base, chs⟩ := r
  dsimp only at *
  subst hk
  generalize ZB h.ups who number h.now = P at *
  obtain ⟨n, e⟩ := P
  dsimp only at *
  refine qa (C := C2h) Tryz.func45 rfl _ Tryz.ntmps45 (Nat.le_of_ble_eq_true rfl) _ Tryz.results45 2 rfl rfl ?_
  repeat' (first | refine qe ?_ | (first | refine xsF Tryz.func37 (hw ..) ?_ | refine xsQ Tryz.func88 (ho ..) ?_) | ((first | refine qb ?_ ?_ | refine qc ?_ ?_ | refine xsC ?_ ?_); all_goals (intro hc; have hp := hc; try simp at hp; try (exfalso; omega))) | refine qv ?_ ?_)
  all_goals try (exfalso; omega)
  (apply jl (rs := [.cell 2 46, .tmp 3]) [] 2; (case hr => (repeat (first | exact qQ | (apply qR; rfl) | (apply qF; rfl; rfl; rfl; rfl; rfl)))); (case hL => rfl); (case hh => (repeat' (first | exact qh | refine yN ?_ | refine yS ?_ | refine Jk ?_ | refine qO ?_ ?_)); all_goals rfl); (case hi => exact rfl); (case hz => first | rfl | (simp [jB, AV.ren, AV.ren.renL, qW, qq, qS]; done) | (simp [jB, AV.ren, AV.ren.renL, qW, qq, qS, *]; done) | trace_state))
end Go.Proofs.YtiljlcgmcmjcoaaGreatDoor
set_option linter.unusedSimpArgs false
set_option linter.unnecessarySimpa false
set_option linter.unusedVariables false
set_option maxHeartbeats 1000000
namespace Go.Proofs.YtiljlcgmcmjcoaaGreatDoor
open Go.Ab Go.RowKit
set_option maxRecDepth 10000
attribute [local irreducible] Awp jZ jg qJ Red qz Go.Ab.Fin qm Rz y0 qB qG ResOk jG q9 jK qV
def qaP (r : Rqt) : AV := .agg r.row
def qaA (x : Hub) (a : AV) (e : Int) : AV := .tup [vS x, a, .v (.int .i64 e)]
theorem qhM (h h' : Hub) (hb : HBig h) (hr : HRight h) (r : Rqt) (n : Int) (b : Bool) (x1 : Bool) (R1 : List (List AV)) (x2 : Bool) (R2 : List (List AV)) (c : Int) (m : Bool) (p1 : ∀ row, row ∈ R1 → AV.pure.pureL row = true) (p2 : ∀ row, row ∈ R2 → AV.pure.pureL row = true) (sv : qm C2h.P 45 [.op 0 0 0] (HS h r) (xB (wC n b x1 R1 x2 R2 c m) 0) (HS h' r)) :
    jT C.P 18 [vS h, qaP r] (qaA h' (.agg (wC n b false R1 false R2 c m)) 0) := by
  have hck := Jg h hb
  rw [zh.2 hr] at hck
  have hco := QG h hr
  have hcp := JF h hr
  refine qa Tryz.func18 rfl _ Tryz.ntmps18 (Nat.le_of_ble_eq_true rfl) _ Tryz.results18 0 rfl rfl ?_
  repeat' (first | refine qe ?_ | (first | refine xsF Tryz.func16 (hck ..) ?_ | (apply qH Tryz.func44 rfl rfl; intro hIsFn; refine yb ([]) hIsFn (hco ..) ?_) | (apply qH Tryz.func45 rfl rfl; intro hIsFn; refine yX [5, 4] [(5, .own false 17 [xJ 4 h' r]), (4, .own false 4 (h'.fols.map Fol.row))] (xB (wC n b x1 R1 x2 R2 c m) 0) hIsFn (sv) (by ((repeat' (first | exact jN | apply jy | exact jM rfl | exact yo | (apply qy; apply jh; exact .inr (of_decide_eq_true rfl)) | (apply qy; apply je; exact .inr (of_decide_eq_true rfl)) | (apply qy; apply q8; exact .inr (of_decide_eq_true rfl)) | apply j0 | apply j1))) <;> fail) (by ((repeat' (first | exact ji | exact jj | refine qZ _ ?_ ?_ | refine qX ?_ ?_ | exact qI | exact qg (sideM_pure _) | exact qg (jx _) | exact qg (goesM_pure _) | exact q6 (fun _ => rfl) | refine qY ?_ | exact q7 | apply qu | exact qw rfl | (apply je; exact .inr (of_decide_eq_true rfl)) | (apply q8; exact .inr (of_decide_eq_true rfl)) | (apply jh; exact .inr (of_decide_eq_true rfl)) | fail))) <;> fail) (by ((repeat' (first | exact ji | exact jj | refine qZ _ ?_ ?_ | refine qX ?_ ?_ | exact qI | exact qg (sideM_pure _) | exact qg (jx _) | exact qg (goesM_pure _) | exact q6 (fun _ => rfl) | refine qY ?_ | exact q7 | apply qu | exact qw rfl | (apply je; exact .inr (of_decide_eq_true rfl)) | (apply q8; exact .inr (of_decide_eq_true rfl)) | (apply jh; exact .inr (of_decide_eq_true rfl)) | fail))) <;> fail) ?_)) | ((first | refine xsC ?_ ?_); all_goals (intro hc; have hp := hc; try simp at hp; try (exfalso; omega))) | refine qv ?_ ?_)
  all_goals try (exfalso; omega)
  (refine yP (rs := [.cell 4 28, .cell 5 46, .tmp 6]) ?_; (repeat' (first | exact qT | apply ql | exact qM rfl | exact yC | exact zB | apply j8 | apply yI | apply j3 | apply yJ | apply yj | apply yK | refine zA ?_ | apply xG)); all_goals rfl)
theorem qgZ (h h' : Hub) (hb : HBig h) (hr : HRight h) (r : Rqt) (n : Int) (b : Bool) (x1 : Bool) (R1 : List (List AV)) (x2 : Bool) (R2 : List (List AV)) (c : Int) (m : Bool) (e : Int) (he : ¬ e = 0) (sv : qm C2h.P 45 [.op 0 0 0] (HS h r) (xB (wC n b x1 R1 x2 R2 c m) e) (HS h' r)) :
    jT C.P 18 [vS h, qaP r] (qaA h (VZ (Q2 e)) 0) := by
  have hck := Jg h hb
  rw [zh.2 hr] at hck
  have hco := QG h hr
  have hcp := JF h hr
  refine qa Tryz.func18 rfl _ Tryz.ntmps18 (Nat.le_of_ble_eq_true rfl) _ Tryz.results18 0 rfl rfl ?_
  repeat' (first | refine qe ?_ | (first | refine xsF Tryz.func16 (hck ..) ?_ | (apply qH Tryz.func44 rfl rfl; intro hIsFn; refine yb ([]) hIsFn (hco ..) ?_) | (apply qH Tryz.func45 rfl rfl; intro hIsFn; refine yX [5, 4] [(5, .own false 17 [xJ 4 h' r]), (4, .own false 4 (h'.fols.map Fol.row))] (xB (wC n b x1 R1 x2 R2 c m) e) hIsFn (sv) (by ((repeat' (first | exact jN | apply jy | exact jM rfl | exact yo | (apply qy; apply jh; exact .inr (of_decide_eq_true rfl)) | (apply qy; apply je; exact .inr (of_decide_eq_true rfl)) | (apply qy; apply q8; exact .inr (of_decide_eq_true rfl)) | apply j0 | apply j1))) <;> fail) (by ((repeat' (first | exact ji | exact jj | refine qZ _ ?_ ?_ | refine qX ?_ ?_ | exact qI | exact qg (sideM_pure _) | exact qg (jx _) | exact qg (goesM_pure _) | exact q6 (fun _ => rfl) | refine qY ?_ | exact q7 | apply qu | exact qw rfl | (apply je; exact .inr (of_decide_eq_true rfl)) | (apply q8; exact .inr (of_decide_eq_true rfl)) | (apply jh; exact .inr (of_decide_eq_true rfl)) | fail))) <;> fail) (by ((repeat' (first | exact ji | exact jj | refine qZ _ ?_ ?_ | refine qX ?_ ?_ | exact qI | exact qg (sideM_pure _) | exact qg (jx _) | exact qg (goesM_pure _) | exact q6 (fun _ => rfl) | refine qY ?_ | exact q7 | apply qu | exact qw rfl | (apply je; exact .inr (of_decide_eq_true rfl)) | (apply q8; exact .inr (of_decide_eq_true rfl)) | (apply jh; exact .inr (of_decide_eq_true rfl)) | fail))) <;> fail) ?_)) | ((first | refine xsC ?_ ?_); all_goals (intro hc; have hp := hc; try simp at hp; try (exfalso; omega))) | refine qv ?_ ?_)
  all_goals try (exfalso; omega)
  (refine yP (rs := [.cell 4 28, .cell 5 46, .tmp 6]) ?_; (repeat' (first | exact qT | apply ql | exact qM rfl | exact yC | exact zB | apply j8 | apply yI | apply j3 | apply yJ | apply yj | apply yK | refine zA ?_ | apply xG)); all_goals rfl)
theorem qfy (h h' : Hub) (hb : HBig h) (hr : HRight h) (r : Rqt) (k : Nat) (f : qC) (hk : k = h.fols.length + 1) (hh : h'.fols = JW h.fols f) (sv : qm C2h.P 45 [.op 0 0 0] (HS h r) (xB (zP 0) 0) [.own false 17 [.os 2 0 k :: (xJ 2 h' r).drop 1], .dead, .own false 4 (J9 h.fols f)]) :
    jT C.P 18 [vS h, qaP r] (qaA h' (VZ Ky) 0) := by
  have hck := Jg h hb
  rw [zh.2 hr] at hck
  have hco := QG h hr
  have hcp := JF h hr
  have hpu : ∀ row, row ∈ J9 h.fols f → AV.pure.pureL row = true := Kn _ _
  have hrz : ∀ {g : Nat → HB} {n : Nat}, g n = .own false 4 (J9 h.fols f) → Rz g (.os n 0 k) (wY h'.fols) := fun hn => by rw [hh]; exact qhp hn hk
  refine qa Tryz.func18 rfl _ Tryz.ntmps18 (Nat.le_of_ble_eq_true rfl) _ Tryz.results18 0 rfl rfl ?_
  repeat' (first | refine qe ?_ | (first | refine xsF Tryz.func16 (hck ..) ?_ | (apply qH Tryz.func44 rfl rfl; intro hIsFn; refine yb ([]) hIsFn (hco ..) ?_) | (apply qH Tryz.func45 rfl rfl; intro hIsFn; refine KV [5, 4] [6] [(5, .own false 17 [.os 6 0 k :: (xJ 2 h' r).drop 1]), (4, .dead), (6, .own false 4 (J9 h.fols f))] 7 (xB (zP 0) 0) hIsFn (sv) (by ((repeat' (first | exact jN | apply jy | exact jM rfl | exact yo | (apply qy; apply jh; exact .inr (of_decide_eq_true rfl)) | (apply qy; apply je; exact .inr (of_decide_eq_true rfl)) | (apply qy; apply q8; exact .inr (of_decide_eq_true rfl)) | apply j0 | apply j1))) <;> fail) (by ((repeat' (first | exact ji | exact jj | refine qZ _ ?_ ?_ | refine qX ?_ ?_ | exact qI | exact qg (sideM_pure _) | exact qg (jx _) | exact qg (goesM_pure _) | exact q6 (fun _ => rfl) | refine qY ?_ | exact q7 | apply qu | exact qw rfl | (apply je; exact .inr (of_decide_eq_true rfl)) | (apply q8; exact .inr (of_decide_eq_true rfl)) | (apply jh; exact .inr (of_decide_eq_true rfl)) | fail))) <;> fail) (by ((repeat' (first | exact ji | exact jj | refine qZ _ ?_ ?_ | refine qX ?_ ?_ | exact qI | exact qg (sideM_pure _) | exact qg (jx _) | exact qg (goesM_pure _) | exact q6 (fun _ => rfl) | refine qY ?_ | exact q7 | apply qu | exact qw rfl | (apply je; exact .inr (of_decide_eq_true rfl)) | (apply q8; exact .inr (of_decide_eq_true rfl)) | (apply jh; exact .inr (of_decide_eq_true rfl)) | first | exact QH rfl | exact zg hpu))) <;> fail) ?_)) | ((first | refine xsC ?_ ?_); all_goals (intro hc; have hp := hc; try simp at hp; try (exfalso; omega))) | refine qv ?_ ?_)
  all_goals try (exfalso; omega)
  (refine yP (rs := [.cell 4 28, .cell 5 46, .tmp 6]) ?_; (repeat' (first | ((apply hrz; rfl)) | exact qT | apply ql | exact qM rfl | exact yC | exact zB | apply j8 | apply yI | apply j3 | apply yJ | apply yj | apply yK | refine zA ?_ | apply xG)); all_goals rfl)
end Go.Proofs.YtiljlcgmcmjcoaaGreatDoor
set_option linter.unusedSimpArgs false
set_option linter.unnecessarySimpa false
set_option linter.unusedVariables false
namespace Go.Proofs.YtiljlcgmcmjcoaaGreatDoor
open Go.Ab Go.RowKit
set_option maxRecDepth 10000
attribute [local irreducible] Awp jZ jg qJ Red qz Go.Ab.Fin qm Rz y0 qB qG ResOk jG q9 jK qV
theorem qeC {h : Hub} (hr : HRight h) {f w : qC} (hw : ¬ jY h.gras f w = 0) : ∃ (k : Nat) (hk : k < h.fols.length), xW h.fols f = k ∧ xy h.fols f = true ∧ h.fols[k].name = f ∧ kt h.fols f = some h.fols[k].jou ∧ JRight h.fols[k].jou := by
  have hh : xy h.fols f = true := by rw [hr.has]; exact V3 hw
  obtain ⟨hk, h1, h2, _⟩ := KP hr.rise hh
  refine ⟨xW h.fols f, hk, rfl, hh, h1, ?_, (hr.each _ (List.getElem_mem _)).2⟩
  unfold kt
  rw [show h.fols.find? (fun s => decide (s.name = f)) = h.fols.find? (atF f) from rfl, h2]; rfl
theorem qg4 (n : Int) : zP n = wC n false true [] true [] 0 false := rfl
theorem qeD : ∀ row, row ∈ ([] : List (List AV)) → AV.pure.pureL row = true := fun row h => by cases h
theorem qhZ (n : Int) : (.agg (wC n false false [] false [] 0 false) : AV) = VZ ⟨0, n, Q3⟩ := rfl
theorem t_z (h h' : Hub) (hb : HBig h) (hr : HRight h) (r : Rqt) (n e : Int) (sv : qm C2h.P 45 [.op 0 0 0] (HS h r) (xB (zP n) e) (HS h' r)) :
    jT C.P 18 [vS h, qaP r] (qaA (if e = 0 then h' else h) (VZ (if e = 0 then ⟨0, n, Q3⟩ else Q2 e)) 0) := by
  rw [qg4] at sv
  by_cases h0 : e = 0
  · subst h0
    rw [if_pos rfl, if_pos rfl, ← qhZ]
    exact qhM h h' hb hr r _ _ _ _ _ _ _ _ qeD qeD sv
  · rw [if_neg h0, if_neg h0]
    exact qgZ h h' hb hr r _ _ _ _ _ _ _ _ e h0 sv
theorem wb {f : FuncId} {ys : List AV} {x x' : Hub} {a a' : Ans} (h : jT C.P f ys (qaA x (VZ a) 0)) (e : (x', a') = (x, a)) : jT C.P f ys (qaA x' (VZ a') 0) := by
  injection e with e1 e2
  rw [e1, e2]; exact h
theorem qca (h : Hub) (r : Rqt) : AV.pure.pureL ((xJ 2 h r).drop 1) = true := rfl
theorem qaB (h : Hub) (hb : HBig h) (hr : HRight h) (r : Rqt) (rb : RBig r) : jT C.P 18 [vS h, qaP r] (qaA (zH h r).1 (VZ (zH h r).2) 0) := by
  obtain ⟨a1, a2, a3, a4⟩ := xE hr.gra
  have hl := hr.len
  by_cases hk : 1 ≤ r.kind ∧ r.kind ≤ 8
  case neg =>
    refine wb (t_z h h hb hr r 0 7 (qhd h r (by omega))) ?_
    unfold zH; rw [if_pos hk]; rfl
  by_cases hn : qo r.who = false
  · refine wb (t_z h h hb hr r 0 1 (qeV h r rb.who hk hn)) ?_
    unfold zH; rw [if_neg (fun e => e hk), if_pos hn]; rfl
  have hn1 : qo r.who = true := by simpa using hn
  have hW : zH h r = if r.kind = 8 then JG h r else if r.kind = 3 then Kq h r else if r.kind = 2 then ZZ h r else if r.kind = 4 then ZE h (QM h.ups r.who r.number h.now) else if r.kind = 5 then ZE h (QN h.ups r.who r.number r.offset r.text h.now) else if r.kind = 6 then qfc h r else W4 h r := by
    unfold zH; rw [if_neg (fun e => e hk), if_neg hn]
  by_cases k8 : r.kind = 8
  · rw [if_pos k8] at hW
    rw [hW]
    unfold JG
    by_cases h0 : j5 h.gras r.folder r.who = 0
    · rw [if_pos h0]
      by_cases h8 : h.fols.length = 8
      · rw [if_pos h8]
        have sv := W6 h h r rb.who hn1 k8 _ _ _ _ _ _ _ _ _ (XR h hb r rb fun _ => h8)
        rw [if_pos h0] at sv
        exact wb (t_z h h hb hr r 0 2 sv) rfl
      · rw [if_neg h8]
        have sc := qeW h hb r rb hr h0 h8
        have e1 : xJ 2 (Wh h r) r = .os 2 0 (h.fols.length + 1) :: (xJ 2 (Wh h r) r).drop 1 := by
          show AV.os 2 0 (Wh h r).fols.length :: _ = _
          rw [show (Wh h r).fols.length = h.fols.length + 1 from Yq _ _]; rfl
        rw [e1] at sc
        have sv := qaC h (Wh h r) r rb.who hn1 k8 _ (Kn _ _) _ _ (qca _ _) sc
        exact qfy h (Wh h r) hb hr r _ r.folder rfl rfl sv
    · rw [if_neg h0]
      have sv := W6 h h r rb.who hn1 k8 _ _ _ _ _ _ _ _ _ (XR h hb r rb fun e => absurd e h0)
      rw [if_neg h0] at sv
      refine wb (t_z h h hb hr r 0 _ sv) ?_
      rw [if_neg h0, if_neg h0]
  rw [if_neg k8] at hW
  by_cases k3 : r.kind = 3
  · rw [if_pos k3] at hW
    rw [hW]
    unfold Kq
    by_cases h1 : jY h.gras r.folder r.who < 1
    · rw [if_pos h1]
      exact wb (t_z h h hb hr r 0 9 (qe7 h h r rb.who hn1 k3 _ _ _ _ _ _ _ _ _ (qdC h r hr h1))) rfl
    · rw [if_neg h1]
      refine wb (t_z h (qcv h r) hb hr r 0 _ (qe7 h _ r rb.who hn1 k3 _ _ _ _ _ _ _ _ _ (qhq h hb r rb hr h1))) ?_
      unfold qcv
      by_cases h0 : (zE h.gras r.folder r.who r.name r.number).2 = 0
      · simp only [if_pos h0]; rfl
      · simp only [if_neg h0]
  rw [if_neg k3] at hW
  by_cases k2 : r.kind = 2
  · rw [if_pos k2] at hW
    rw [hW]
    unfold ZZ
    by_cases h1 : jY h.gras r.folder r.who < 1
    · rw [if_pos h1]
      exact wb (t_z h h hb hr r 0 9 (qfK h h r rb.who hn1 k2 _ _ _ _ _ _ _ _ _ (qdR h r hr h1))) rfl
    · rw [if_neg h1]
      obtain ⟨k, hkl, e1, e2, e3, e4, e5⟩ := qeC hr (f := r.folder) (w := r.who) (by omega)
      have sp := qg3 h hb r hr h1 k hkl e1 e2
      rw [e4]
      have hrw : YW h.fols[k].jou r.number 10 = X4 h.fols[k].jou r.number 10 := by unfold YW; rw [if_neg (by simp [y5.2 e5])]
      rw [hrw] at sp
      dsimp only
      generalize X4 h.fols[k].jou r.number 10 = P at *
      obtain ⟨p, e⟩ := P
      dsimp only at *
      have sv := qfK h h r rb.who hn1 k2 0 p.reset false (p.tree.map Ent.row) false (p.coms.map Com.row) p.cur p.more e sp
      by_cases h0 : e = 0
      · subst h0
        rw [if_pos rfl]
        exact qhM h h hb hr r _ _ _ _ _ _ _ _ (ju fun _ => rfl) (ju fun _ => rfl) sv
      · rw [if_neg h0]
        exact qgZ h h hb hr r _ _ _ _ _ _ _ _ e h0 sv
  rw [if_neg k2] at hW
  by_cases k4 : r.kind = 4
  · rw [if_pos k4] at hW
    rw [hW]
    refine wb (t_z h _ hb hr r _ _ (qhw h hb.ups r rb.who hn1 k4)) ?_
    unfold ZE
    by_cases h0 : (QM h.ups r.who r.number h.now).2.2 = 0
    · simp only [if_pos h0]
    · simp only [if_neg h0]
  rw [if_neg k4] at hW
  by_cases k5 : r.kind = 5
  · rw [if_pos k5] at hW
    rw [hW]
    refine wb (t_z h _ hb hr r _ _ (qfs h hb.ups r rb.who rb.text hn1 k5)) ?_
    unfold ZE
    by_cases h0 : (QN h.ups r.who r.number r.offset r.text h.now).2.2 = 0
    · simp only [if_pos h0]
    · simp only [if_neg h0]
  rw [if_neg k5] at hW
  by_cases k6 : r.kind = 6
  · rw [if_pos k6] at hW
    rw [hW]
    refine wb (t_z h h hb hr r _ _ (qgE h hb.ups r rb.who hn1 k6)) ?_
    unfold qfc
    by_cases h0 : (ZB h.ups r.who r.number h.now).2 = 0
    · simp only [if_pos h0]
    · simp only [if_neg h0]
  rw [if_neg k6] at hW
  rw [hW]
  unfold W4
  have hmay := Zj h r a3 (by omega) 2
  by_cases h2 : jY h.gras r.folder r.who < 2
  · rw [if_pos h2]
    rw [if_pos h2] at hmay
    by_cases k7 : r.kind = 7
    · exact wb (t_z h h hb hr r 0 9 (qhl h r rb.who hn1 k7 hmay)) rfl
    · exact wb (t_z h h hb hr r 0 9 (qg9 h r rb.who hn1 (by omega) hmay)) rfl
  rw [if_neg h2]
  rw [if_neg h2] at hmay
  obtain ⟨k, hkl, e1, e2, e3, e4, e5⟩ := qeC hr (f := r.folder) (w := r.who) (by omega)
  have hset := fun j => qgz hr.rise hkl e3 j
  by_cases k7 : r.kind = 7
  · rw [if_pos k7]
    unfold qfv
    by_cases h0 : (zO h.ups r.who r.number h.now).2.2 = 0
    · rw [if_pos h0]
      have hx : (zO h.ups r.who r.number h.now).2.1.length ≤ 1000 := by
        unfold zO
        by_cases q1 : ye h.ups r.who r.number h.now = 0
        · rw [if_pos q1]
          have := JB q1
          split
          · simp
          · show (zT h.ups r.who r.number h.now).text.length ≤ 1000; omega
        · rw [if_neg q1]; simp
      have sf := qeL h hb r rb hr h0 hx k hkl e1 e2 e3
      refine wb (t_z h _ hb hr r _ _ (WM h _ r rb.who hn1 k7 _ _ _ _ _ _ _ _ _ sf hmay)) ?_
      unfold KL qhF qdN
      rw [e4]
      dsimp only
      rw [Qj e5]
      generalize zO h.ups r.who r.number h.now = P at *
      obtain ⟨u, x, e⟩ := P
      dsimp only at *
      generalize yV h.fols[k].jou r.key [⟨2, r.name, [], x, r.base⟩] = Q at *
      obtain ⟨j', n, e'⟩ := Q
      dsimp only at *
      by_cases q0 : e' = 0
      · simp only [if_pos q0, hset]
      · simp only [if_neg q0]
    · rw [if_neg h0]
      refine wb (t_z h h hb hr r 0 _ (WM h h r rb.who hn1 k7 _ _ _ _ _ _ _ _ _ (WH h hb r rb h0) hmay)) ?_
      simp only [if_neg h0]
  · rw [if_neg k7]
    have k1 : r.kind = 1 := by omega
    have sc := qaX h hb r rb hr r.chs rb.chs k hkl e1 e2 e3
    refine wb (t_z h _ hb hr r _ _ (qfn h _ r rb.who hn1 k1 _ _ _ _ _ _ _ _ _ sc hmay)) ?_
    unfold KL qdN
    rw [e4]
    dsimp only
    rw [Qj e5]
    generalize yV h.fols[k].jou r.key r.chs = Q at *
    obtain ⟨j', n, e'⟩ := Q
    dsimp only at *
    by_cases q0 : e' = 0
    · simp only [if_pos q0, hset]
    · simp only [if_neg q0]
end Go.Proofs.YtiljlcgmcmjcoaaGreatDoor
set_option linter.unusedSimpArgs false
set_option linter.unnecessarySimpa false
set_option linter.unusedVariables false
set_option maxHeartbeats 1000000
namespace Go.Proofs.YtiljlcgmcmjcoaaGreatDoor
open Go.Ab Go.RowKit
set_option maxRecDepth 10000
attribute [local irreducible] Awp jZ jg qJ Red qz Go.Ab.Fin qm Rz y0 qB qG ResOk jG q9 jK qV
def qdO (lasts room : Int) : Hub := ⟨[], [], ⟨[], 1, lasts, room⟩, 0⟩
def qf6 (lasts room : Int) : Hub × Int := if yu ⟨[], 1, lasts, room⟩ = 0 then (qdO lasts room, 0) else (Ks, yu ⟨[], 1, lasts, room⟩)
theorem qfe (a b c : Int) : UBig ⟨[], a, b, c⟩ := ⟨nofun, nofun, by simp⟩
theorem qhC (lasts room : Int) : jT C.P 12 [.v (.int .i64 lasts), .v (.int .i64 room)] (.tup [vS (qf6 lasts room).1, .v (.int .i64 (qf6 lasts room).2)]) := by
  have hc := Vd ⟨[], 1, lasts, room⟩ (qfe _ _ _)
  unfold qf6
  generalize yu ⟨[], 1, lasts, room⟩ = E at *
  by_cases h0 : E = 0
  · rw [if_pos h0]
    subst h0
    refine qa Tryz.func12 rfl _ Tryz.ntmps12 (Nat.le_of_ble_eq_true rfl) _ Tryz.results12 0 rfl rfl ?_
    repeat' (first | refine qe ?_ | (first | refine xsF Tryz.func31 (hc ..) ?_) | ((first | refine xsC ?_ ?_); all_goals (intro hc; have hp := hc; try simp at hp; try (exfalso; omega))) | refine qv ?_ ?_)
    all_goals try (exfalso; omega)
    (refine yP (rs := [.cell 4 28, .tmp 5]) ?_; (repeat' (first | exact qT | apply ql | exact qM rfl | exact yC | exact zB | apply j8 | apply yI | apply j3 | apply yJ | apply yj | apply yK | refine zA ?_ | apply xG)); all_goals rfl)
  · rw [if_neg h0]
    refine qa Tryz.func12 rfl _ Tryz.ntmps12 (Nat.le_of_ble_eq_true rfl) _ Tryz.results12 0 rfl rfl ?_
    repeat' (first | refine qe ?_ | (first | refine xsF Tryz.func31 (hc ..) ?_) | ((first | refine xsC ?_ ?_); all_goals (intro hc; have hp := hc; try simp at hp; try (exfalso; omega))) | refine qv ?_ ?_)
    all_goals try (exfalso; omega)
    (refine yP (rs := [.cell 4 28, .tmp 5]) ?_; (repeat' (first | exact qT | apply ql | exact qM rfl | exact yC | exact zB | apply j8 | apply yI | apply j3 | apply yJ | apply yj | apply yK | refine zA ?_ | apply xG)); all_goals rfl)
def qcu (h : Hub) (n : Int) : Hub × Int := if xA h = 0 then (if n < 0 ∨ 1099511627776 - h.now < n then (Ks, 3) else ({ h with now := h.now + n }, 0)) else (Ks, xA h)
theorem qf0 (h : Hub) (hb : HBig h) (n : Int) : jT C.P 26 [vS h, .v (.int .i64 n)] (.tup [vS (qcu h n).1, .v (.int .i64 (qcu h n).2)]) := by
  have hc := Jg h hb
  unfold qcu
  by_cases h0 : xA h = 0
  case neg =>
    rw [if_neg h0]
    generalize xA h = E at *
    refine qa Tryz.func26 rfl _ Tryz.ntmps26 (Nat.le_of_ble_eq_true rfl) _ Tryz.results26 0 rfl rfl ?_
    repeat' (first | refine qe ?_ | (first | refine xsF Tryz.func16 (hc ..) ?_) | ((first | refine qb ?_ ?_ | refine qc ?_ ?_ | refine xsC ?_ ?_); all_goals (intro hc; have hp := hc; try simp at hp; try (exfalso; omega))) | refine qv ?_ ?_)
    all_goals try (exfalso; omega)
    (refine yP (rs := [.cell 4 28, .tmp 5]) ?_; (repeat' (first | exact qT | apply ql | exact qM rfl | exact yC | exact zB | apply j8 | apply yI | apply j3 | apply yJ | apply yj | apply yK | refine zA ?_ | apply xG)); all_goals rfl)
  rw [if_pos h0]
  have hr := zh.1 h0
  rw [h0] at hc
  have hcl := JF h hr
  obtain ⟨n0, n1⟩ := vl.1 hr.now
  clear hr hb h0
  by_cases hn : n < 0 ∨ 1099511627776 - h.now < n
  · rw [if_pos hn]
    refine qa Tryz.func26 rfl _ Tryz.ntmps26 (Nat.le_of_ble_eq_true rfl) _ Tryz.results26 0 rfl rfl ?_
    repeat' (first | refine qe ?_ | (first | refine xsF Tryz.func16 (hc ..) ?_) | ((first | refine qb ?_ ?_ | refine qc ?_ ?_ | refine xsC ?_ ?_); all_goals (intro hc; have hp := hc; try simp at hp; try (exfalso; omega))) | refine qv ?_ ?_)
    all_goals try (exfalso; omega)
    all_goals ((refine yP (rs := [.cell 4 28, .tmp 5]) ?_; (repeat' (first | exact qT | apply ql | exact qM rfl | exact yC | exact zB | apply j8 | apply yI | apply j3 | apply yJ | apply yj | apply yK | refine zA ?_ | apply xG)); all_goals rfl))
  · rw [if_neg hn]
    refine qa Tryz.func26 rfl _ Tryz.ntmps26 (Nat.le_of_ble_eq_true rfl) _ Tryz.results26 0 rfl rfl ?_
    repeat' (first | refine qe ?_ | (first | refine xsF Tryz.func16 (hc ..) ?_ | refine xsQ Tryz.func44 (hcl ..) ?_) | ((first | refine qb ?_ ?_ | refine qc ?_ ?_ | refine xsC ?_ ?_); all_goals (intro hc; have hp := hc; try simp at hp; try (exfalso; omega))) | refine qv ?_ ?_)
    all_goals try (exfalso; omega)
    (refine yP (rs := [.cell 4 28, .tmp 5]) ?_; (repeat' (first | exact qT | apply ql | exact qM rfl | exact yC | exact zB | apply j8 | apply yI | apply j3 | apply yJ | apply yj | apply yK | refine zA ?_ | apply xG)); all_goals rfl)
theorem qcL (h : Hub) (hb : HBig h) (f : qC) : jT C.P 21 [vS h, .v (str f)] (.tup [qp (qaM h f).1, .v (.int .i64 (qaM h f).2)]) := by
  have hc := Jg h hb
  unfold qaM
  by_cases h0 : xA h = 0
  case neg =>
    rw [if_neg h0]
    generalize xA h = E at *
    refine qa Tryz.func21 rfl _ Tryz.ntmps21 (Nat.le_of_ble_eq_true rfl) _ Tryz.results21 0 rfl rfl ?_
    repeat' (first | refine qe ?_ | (first | refine xsF Tryz.func16 (hc ..) ?_) | ((first | refine xsC ?_ ?_); all_goals (intro hc; have hp := hc; try simp at hp; try (exfalso; omega))) | refine qv ?_ ?_)
    all_goals try (exfalso; omega)
    (refine yP (rs := [.tmp 4, .tmp 5]) ?_; (repeat' (first | exact qT | apply ql | exact qM rfl | exact yC | exact zB | apply j8 | apply yI | apply j3 | apply yJ | apply yj | apply yK | refine zA ?_ | apply xG)); all_goals rfl)
  rw [if_pos h0]
  have hr := zh.1 h0
  rw [h0] at hc
  have hl := hr.len
  have hf := Yk h f (by omega) hr.rise
  unfold qcY
  cases hh : xy h.fols f with
  | false =>
    rw [V9.2 hh]
    rw [hh] at hf
    refine qa Tryz.func21 rfl _ Tryz.ntmps21 (Nat.le_of_ble_eq_true rfl) _ Tryz.results21 0 rfl rfl ?_
    repeat' (first | refine qe ?_ | (first | refine xsF Tryz.func16 (hc ..) ?_ | refine xsQ Tryz.func58 (hf ..) ?_) | ((first | refine xsC ?_ ?_); all_goals (intro hc; have hp := hc; try simp at hp; try (exfalso; omega))) | refine qv ?_ ?_)
    all_goals try (exfalso; omega)
    (refine yP (rs := [.tmp 4, .tmp 5]) ?_; (repeat' (first | exact qT | apply ql | exact qM rfl | exact yC | exact zB | apply j8 | apply yI | apply j3 | apply yJ | apply yj | apply yK | refine zA ?_ | apply xG)); all_goals rfl)
  | true =>
    obtain ⟨hk, h1, h2, _⟩ := KP hr.rise hh
    have hj : kt h.fols f = some h.fols[xW h.fols f].jou := by
      unfold kt
      rw [show h.fols.find? (fun s => decide (s.name = f)) = h.fols.find? (atF f) from rfl, h2]; rfl
    rw [hj]
    dsimp only
    rw [hh] at hf
    have ht := qgu h.fols[xW h.fols f].jou (hb.fols.each _ (List.getElem_mem _)).jou
    have hrow := qx (f := Fol.row) hk
    have hz : ZV h.fols[xW h.fols f].jou = (xV h.fols[xW h.fols f].jou, 0) := by
      have := y5.2 (hr.each _ (List.getElem_mem hk)).2
      unfold ZV; simp [this]
    rw [hz] at ht
    generalize xV h.fols[xW h.fols f].jou = T at *
    clear hj h1 h2 hr hz
    generalize hp : xW h.fols f = k at *
    refine qa Tryz.func21 rfl _ Tryz.ntmps21 (Nat.le_of_ble_eq_true rfl) _ Tryz.results21 0 rfl rfl ?_
    repeat' (first | refine qe ?_ | (first | refine xsF Tryz.func16 (hc ..) ?_ | refine xsQ Tryz.func58 (hf ..) ?_ | refine xsQ Tryz.func59 (ht ..) ?_) | ((first | refine xsC ?_ ?_); all_goals (intro hc; have hp := hc; try simp at hp; try (exfalso; omega))) | refine qv ?_ ?_)
    all_goals try (exfalso; omega)
    (refine yP (rs := [.tmp 4, .tmp 5]) ?_; (repeat' (first | exact qT | apply ql | exact qM rfl | exact yC | exact zB | apply j8 | apply yI | apply j3 | apply yJ | apply yj | apply yK | refine zA ?_ | apply xG)); all_goals rfl)
theorem Y2 (h : Hub) (hb : HBig h) (hl : h.fols.length ≤ 1000000) (hg : h.gras.length ≤ 1000000) : jT C.P 15 [vS h, vS h] (.v (.bool true)) := by
  have h1 := qdm h.gras hg
  have h2 := qhc h.ups h.ups hb.ups.len hb.ups.len
  rw [decide_eq_true rfl] at h2
  have hj : ∀ s, s ∈ h.fols → jT C.P 36 [.agg s.jou.row, .agg s.jou.row] (.v (.bool true)) := fun s hs => by
    have := qd4 s.jou s.jou (hb.fols.each s hs).jou (hb.fols.each s hs).jou
    rwa [decide_eq_true rfl] at this
  clear hb
  obtain ⟨F, G, U, now⟩ := h
  dsimp only at *
  have e0 : (!decide (now = now)) = false := by simp
  refine qa Tryz.func15 rfl _ Tryz.ntmps15 (Nat.le_of_ble_eq_true rfl) _ Tryz.results15 0 rfl rfl ?_
  (repeat apply jP); apply jd; (repeat' (first | apply jz | refine vD ?_ | refine vB ?_ | refine vE ?_ | refine zJ ?_ | refine vC ?_ | refine kv ?_ | refine zj ?_ | refine kz ?_ | refine wc ?_ | refine vF ?_ | (first | fail) | refine yY ?_ | refine xi ?_ | refine xj ?_ | refine yE ?_ | refine yD ?_ | refine vn ?_ | refine vu ?_ | refine xh ?_ | refine xn ?_ | ((first | refine qb ?_ ?_ | refine qc ?_ ?_); all_goals (intro hc; have hp := hc; try simp at hp; try (exfalso; omega))))); show Awp _ _ _ _ _
  refine zD 2 0 ?_
  refine zD 3 1 ?_
  repeat' (first | refine qe ?_ | (first | refine xsF Tryz.func34 (h1 ..) ?_ | refine xsF Tryz.func35 (h2 ..) ?_) | ((first | refine qb ?_ ?_ | refine qc ?_ ?_ | refine xsC ?_ ?_); all_goals (intro hc; have hp := hc; try simp at hp; try (exfalso; omega))) | refine qv ?_ ?_)
  all_goals try (exfalso; first | omega | contradiction)
  (refine Awp.red (qf (ts := [(2, .fp [Hub.row ⟨F, G, U, now⟩] 0 0), (3, .fp [Hub.row ⟨F, G, U, now⟩] 0 0), (5, .v (.int .i64 ((0 : Nat) : Int)))]) ?_) ?_; ((repeat (first | exact qd | refine qi ?_ | refine qL ?_ ?_))))
  refine qr (fun n σ => ∃ i : Nat, i ≤ F.length ∧ n = F.length - i ∧ (True) ∧ σ = ⟨[(2, .fp [Hub.row ⟨F, G, U, now⟩] 0 0), (3, .fp [Hub.row ⟨F, G, U, now⟩] 0 0), (5, .v (.int .i64 (i : Int)))], [], C.nh⟩) F.length ⟨0, Nat.zero_le _, rfl, trivial, rfl⟩ ?_
  rintro n σ ⟨i, hi, rfl, -, rfl⟩
  by_cases hlt : i < F.length
  · have hr := qx (f := Fol.row) hlt
    have hji := hj F[i] (List.getElem_mem _)
    have e1 : (!decide (F[i].name = F[i].name)) = false := by simp
    clear hj h1 h2
    repeat' (first | refine qe ?_ | (first | refine xsF Tryz.func36 (hji ..) ?_) | ((first | refine qb ?_ ?_ | refine qc ?_ ?_ | refine xsC ?_ ?_); all_goals (intro hc; have hp := hc; try simp at hp; try (exfalso; omega))) | refine qv ?_ ?_)
    all_goals try (exfalso; first | omega | contradiction)
    refine ⟨F.length - (i + 1), _, by omega, qf (ts := [(2, .fp [Hub.row ⟨F, G, U, now⟩] 0 0), (3, .fp [Hub.row ⟨F, G, U, now⟩] 0 0), (5, .v (.int .i64 ((i + 1 : Nat) : Int)))]) ?_, i + 1, by omega, rfl, trivial, rfl⟩; ((repeat (first | exact qd | refine qi ?_ | refine qL ?_ ?_)))
  obtain rfl : i = F.length := by omega
  repeat' (first | refine qe ?_ | fail | ((first | refine qb ?_ ?_ | refine qc ?_ ?_ | refine xsC ?_ ?_); all_goals (intro hc; have hp := hc; try simp at hp; try (exfalso; omega))) | refine qv ?_ ?_)
  all_goals try (exfalso; omega)
  (refine yP (rs := [.tmp 4]) ?_; (repeat' (first | exact qT | apply ql | exact qM rfl | exact yC | exact zB | apply j8 | apply yI | apply j3 | apply yJ | apply yj | apply yK | refine zA ?_ | apply xG)); all_goals rfl)
end Go.Proofs.YtiljlcgmcmjcoaaGreatDoor
