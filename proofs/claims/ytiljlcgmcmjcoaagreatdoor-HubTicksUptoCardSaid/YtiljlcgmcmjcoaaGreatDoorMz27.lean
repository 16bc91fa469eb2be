import Derived.Test.YtiljlcgmcmjcoaaGreatDoorMz23
import Derived.Test.YtiljlcgmcmjcoaaGreatDoorMz14
import Derived.Test.YtiljlcgmcmjcoaaGreatDoorMz26
set_option linter.unusedSimpArgs false
set_option linter.unnecessarySimpa false
set_option linter.unusedVariables false
set_option maxHeartbeats 1000000
namespace Go.Proofs.YtiljlcgmcmjcoaaGreatDoor
open Go.Ab Go.RowKit
set_option maxRecDepth 10000
attribute [local irreducible] Awp jZ jg qJ Red qz Go.Ab.Fin qm Rz y0 qB qG ResOk jG q9 jK qV
theorem qdq (l : List Gra) (hl : l.length ≤ 1000000) : jT C.P 79 [jw l] (jw l) :=
  wa (Q8 l hl) (yf rfl (by simp) (ju fun _ => rfl))
theorem qdW (l : List Sess) (hl : l.length ≤ 1000000) : jT C.P 80 [Y3 l] (Y3 l) :=
  wa (qba l hl) (yf rfl (by simp) (ju fun _ => rfl))
theorem qci (l : List Fol) (hl : l.length ≤ 1000000) :
    qm C.P 78 [wY l] [] (.os 0 0 l.length) [.own false 4 (l.map Fol.row)] := by
  by_cases h0 : l = []
  · subst h0
    refine qa Tryz.func78 rfl _ Tryz.ntmps78 (Nat.le_of_ble_eq_true rfl) _ Tryz.results78 0 rfl rfl ?_
    repeat' (first | refine qe ?_ | (first | (refine j4 ?_) | (refine zc ?_) | (refine Ju ?_)) | ((first | refine xsC ?_ ?_); all_goals (intro hc; have hp := hc; try simp at hp; try (exfalso; omega))) | refine qv ?_ ?_)
    · (refine wM (C := C) (vN (C := C) 2 4 rfl (Nat.zero_le _)) ?_)
      (refine QB (rs := [.tmp 2]) [(0, 0)] 1 ?_; (repeat (first | exact qh | refine jU ?_ | refine qO ?_ ?_)); all_goals skip)
    · (refine QB (rs := [.tmp 2]) [(0, 0)] 1 ?_; (repeat (first | exact qh | refine jU ?_ | refine qO ?_ ?_)); all_goals skip)
  · refine qa Tryz.func78 rfl _ Tryz.ntmps78 (Nat.le_of_ble_eq_true rfl) _ Tryz.results78 0 rfl rfl ?_
    repeat' (first | refine qe ?_ | (first | (refine j4 ?_) | (refine zc ?_) | (apply qj; apply kV; rfl; exact (fun h => h0 (List.map_eq_nil_iff.1 h)); rfl; rfl; (first | exact .inl rfl | exact .inr rfl); exact nle rfl)) | ((first | refine xsC ?_ ?_); all_goals (intro hc; have hp := hc; try simp at hp; try (exfalso; omega))) | refine qv ?_ ?_)
    (refine QB (rs := [.tmp 2]) [(0, 0)] 1 ?_; (repeat (first | exact qh | refine jU ?_ | refine qO ?_ ?_)); all_goals skip)
theorem qg8 (j : Jou) (hl : j.coms.length ≤ 1000000) (hbl : j.base.length ≤ 1000000) (hc : ∀ c, c ∈ j.coms → c.chs.length ≤ 1000000) : jT C.P 81 [.agg j.row] (.agg j.row) := by
  have h1 := kP j.base hbl
  have h2 := qal j.coms hl
  obtain ⟨b, n, l⟩ := j
  dsimp only at *
  refine qa Tryz.func81 rfl _ Tryz.ntmps81 (Nat.le_of_ble_eq_true rfl) _ Tryz.results81 0 rfl rfl ?_
  repeat' (first | refine qe ?_ | (first | refine xsQ Tryz.func101 (h1 ..) ?_ | (apply qH Tryz.func121 rfl rfl; intro hIsFn; refine yb ([]) hIsFn (h2 ..) ?_)) | ((first | refine xsC ?_ ?_); all_goals (intro hc; have hp := hc; try simp at hp; try (exfalso; omega))) | refine qv ?_ ?_)
  all_goals try (exfalso; omega)
  (refine Awp.red (jt (τ := ⟨[(1, .op 0 0 0), (2, .op 1 0 0), (14, .os 2 0 l.length), (15, .v (.int .i64 l.length)), (16, .v (.int .i64 ((0 : Nat) : Int)))], [(0, .own false 3 [[qp b, .v (.int .i64 n), .os 2 0 l.length]]), (1, .own false 3 [[.sl true [], .v (.int .i64 0), .sl true []]]), (2, .own false 3 (l.map Com.row))], 3⟩) [(0, 0), (1, 1), (2, 2)] rfl ?_ ?_) ?_; rotate_left 2; rotate_left 1; (focus ((repeat (first | exact qd | refine qi ?_ | refine qct ?_ | refine KO ?_ | refine K5 ?_ ?_ | refine qcX ?_ | refine qL ?_ ?_)); all_goals trace_state)); (focus ((repeat' (first | exact qh | refine qcI ?_ ?_ ?_ | refine qgp ?_ | refine KH ?_ ?_ | refine K3 ?_ ?_ | exact q7 | apply qu | exact qw rfl | (apply je; (refine .inr ?_; (repeat (first | exact List.mem_cons_self .. | apply List.mem_cons_of_mem)))) | (apply q8; (refine .inr ?_; (repeat (first | exact List.mem_cons_self .. | apply List.mem_cons_of_mem)))))); all_goals trace_state)))
  refine qr (fun n' σ => ∃ i : Nat, i ≤ l.length ∧ n' = l.length - i ∧ True ∧ σ = ⟨[(1, .op 0 0 0), (2, .op 1 0 0), (14, .os 2 0 l.length), (15, .v (.int .i64 l.length)), (16, .v (.int .i64 (i : Int)))], [(0, .own false 3 [[qp b, .v (.int .i64 n), .os 2 0 l.length]]), (1, .own false 3 [[.sl true [], .v (.int .i64 0), .sl true []]]), (2, .own false 3 (l.map Com.row))], 3⟩) l.length ⟨0, Nat.zero_le _, rfl, trivial, rfl⟩ ?_
  rintro n' σ ⟨i, hi, rfl, -, rfl⟩
  by_cases hlt : i < l.length
  · have hr := qx (f := Com.row) hlt
    have hcc := Js l[i].chs (hc _ (List.getElem_mem _))
    have hss := VN (f := Com.row) hlt
    repeat' (first | refine qe ?_ | (first | (refine vz ?_) | refine xsQ Tryz.func122 (hcc ..) ?_) | ((first | refine xsC ?_ ?_); all_goals (intro hc; have hp := hc; try simp at hp; try (exfalso; omega))) | refine qv ?_ ?_)
    all_goals try (exfalso; omega)
    refine ⟨l.length - (i + 1), ⟨[(1, .op 0 0 0), (2, .op 1 0 0), (14, .os 2 0 l.length), (15, .v (.int .i64 l.length)), (16, .v (.int .i64 ((i + 1 : Nat) : Int)))], [(0, .own false 3 [[qp b, .v (.int .i64 n), .os 2 0 l.length]]), (1, .own false 3 [[.sl true [], .v (.int .i64 0), .sl true []]]), (2, .own false 3 (l.map Com.row))], 3⟩, by omega, ?_, i + 1, by omega, rfl, trivial, rfl⟩; (skip); refine jt [(0, 0), (1, 1), (2, 2)] rfl ?_ ?_; (focus ((repeat (first | exact qd | refine qi ?_ | refine qct ?_ | refine KO ?_ | refine K5 ?_ ?_ | refine qcX ?_ | refine qL ?_ ?_)); all_goals trace_state)); (focus ((repeat' (first | exact qh | refine qcI ?_ ?_ ?_ | refine qgp ?_ | refine KH ?_ ?_ | refine K3 ?_ ?_ | exact q7 | apply qu | exact qw rfl | (apply je; (refine .inr ?_; (repeat (first | exact List.mem_cons_self .. | apply List.mem_cons_of_mem)))) | (apply q8; (refine .inr ?_; (repeat (first | exact List.mem_cons_self .. | apply List.mem_cons_of_mem)))))); all_goals (first | exact hss | trace_state)))
  obtain rfl : i = l.length := by omega
  repeat' (first | refine qe ?_ | fail | ((first | refine xsC ?_ ?_); all_goals (intro hc; have hp := hc; try simp at hp; try (exfalso; omega))) | refine qv ?_ ?_)
  all_goals try (exfalso; omega)
  (exact yy (rs := [.cell 2 60]))
def qgY (h : Hub) (n : Nat) : AV := .agg [.os n 0 h.fols.length, jw h.gras, .sl false (h.ups.sess.map Sess.row), .v (.int .i64 h.ups.next), .v (.int .i64 h.ups.lasts), .v (.int .i64 h.ups.room), .v (.int .i64 h.now)]
theorem HRight.small {h : Hub} (hr : HRight h) : h.gras.length ≤ 60 ∧ h.ups.sess.length ≤ 20 ∧ ∀ s, s ∈ h.fols → s.jou.coms.length ≤ 30 ∧ s.jou.base.length ≤ 60 ∧ ∀ c, c ∈ s.jou.coms → c.chs.length ≤ 20 :=
  ⟨(xE hr.gra).1, (z6 hr.ups).2.1, fun s hs => by
    have hJ := (hr.each s hs).2
    exact ⟨hJ.len, hJ.base.len, fun c hc => kQ hJ.base hJ.run c hc⟩⟩
theorem QG (h : Hub) (hr : HRight h) : qm C.P 44 [vS h] [] (qgY h 0) [.own false 4 (h.fols.map Fol.row)] := by
  have hl := hr.len
  obtain ⟨s1, s2, s3⟩ := hr.small
  have h1 := qci h.fols (by omega)
  have h2 := qdq h.gras (by omega)
  have h3 := qdW h.ups.sess (by omega)
  have ho : ∀ s, s ∈ h.fols → jT C.P 81 [.agg s.jou.row] (.agg s.jou.row) := fun s hs => by
    obtain ⟨a, b, c⟩ := s3 s hs
    exact qg8 s.jou (by omega) (by omega) (fun x hx => by have := c x hx; omega)
  clear s3 hr
  obtain ⟨F, G, ⟨S, nx, la, ro⟩, now⟩ := h
  dsimp only at *
  refine qa Tryz.func44 rfl _ Tryz.ntmps44 (Nat.le_of_ble_eq_true rfl) _ Tryz.results44 0 rfl rfl ?_
  repeat' (first | refine qe ?_ | (first | (apply qH Tryz.func78 rfl rfl; intro hIsFn; refine yb ([]) hIsFn (h1 ..) ?_) | refine xsQ Tryz.func79 (h2 ..) ?_ | refine xsQ Tryz.func80 (h3 ..) ?_) | ((first | refine xsC ?_ ?_); all_goals (intro hc; have hp := hc; try simp at hp; try (exfalso; omega))) | refine qv ?_ ?_)
  all_goals try (exfalso; omega)
  (refine Awp.red (jt (τ := ⟨[(1, .op 0 0 0), (2, .op 1 0 0), (20, .os 2 0 F.length), (21, .v (.int .i64 F.length)), (22, .v (.int .i64 ((0 : Nat) : Int)))], [(0, .own false 7 [[.os 2 0 F.length, jw G, Y3 S, .v (.int .i64 nx), .v (.int .i64 la), .v (.int .i64 ro), .v (.int .i64 now)]]), (1, .own false 7 [[.sl true [], .sl true [], .sl true [], .v (.int .i64 0), .v (.int .i64 0), .v (.int .i64 0), .v (.int .i64 0)]]), (2, .own false 4 (F.map Fol.row))], 3⟩) [(0, 0), (1, 1), (2, 2)] rfl ?_ ?_) ?_; rotate_left 2; rotate_left 1; (focus ((repeat (first | exact qd | refine qi ?_ | refine qct ?_ | refine KO ?_ | refine K5 ?_ ?_ | refine qcX ?_ | refine qL ?_ ?_)); all_goals trace_state)); (focus ((repeat' (first | exact qh | refine qcI ?_ ?_ ?_ | refine qgp ?_ | refine KH ?_ ?_ | refine K3 ?_ ?_ | exact q7 | apply qu | exact qw rfl | (apply je; (refine .inr ?_; (repeat (first | exact List.mem_cons_self .. | apply List.mem_cons_of_mem)))) | (apply q8; (refine .inr ?_; (repeat (first | exact List.mem_cons_self .. | apply List.mem_cons_of_mem)))))); all_goals trace_state)))
  refine qr (fun n' σ => ∃ i : Nat, i ≤ F.length ∧ n' = F.length - i ∧ True ∧ σ = ⟨[(1, .op 0 0 0), (2, .op 1 0 0), (20, .os 2 0 F.length), (21, .v (.int .i64 F.length)), (22, .v (.int .i64 (i : Int)))], [(0, .own false 7 [[.os 2 0 F.length, jw G, Y3 S, .v (.int .i64 nx), .v (.int .i64 la), .v (.int .i64 ro), .v (.int .i64 now)]]), (1, .own false 7 [[.sl true [], .sl true [], .sl true [], .v (.int .i64 0), .v (.int .i64 0), .v (.int .i64 0), .v (.int .i64 0)]]), (2, .own false 4 (F.map Fol.row))], 3⟩) F.length ⟨0, Nat.zero_le _, rfl, trivial, rfl⟩ ?_
  rintro n' σ ⟨i, hi, rfl, -, rfl⟩
  by_cases hlt : i < F.length
  · have hr := qx (f := Fol.row) hlt
    have hoi := ho F[i] (List.getElem_mem _)
    have hss := VN (f := Fol.row) hlt
    clear ho h1 h2 h3
    repeat' (first | refine qe ?_ | (first | (refine vz ?_) | refine xsQ Tryz.func81 (hoi ..) ?_) | ((first | refine xsC ?_ ?_); all_goals (intro hc; have hp := hc; try simp at hp; try (exfalso; omega))) | refine qv ?_ ?_)
    all_goals try (exfalso; omega)
    refine ⟨F.length - (i + 1), ⟨[(1, .op 0 0 0), (2, .op 1 0 0), (20, .os 2 0 F.length), (21, .v (.int .i64 F.length)), (22, .v (.int .i64 ((i + 1 : Nat) : Int)))], [(0, .own false 7 [[.os 2 0 F.length, jw G, Y3 S, .v (.int .i64 nx), .v (.int .i64 la), .v (.int .i64 ro), .v (.int .i64 now)]]), (1, .own false 7 [[.sl true [], .sl true [], .sl true [], .v (.int .i64 0), .v (.int .i64 0), .v (.int .i64 0), .v (.int .i64 0)]]), (2, .own false 4 (F.map Fol.row))], 3⟩, by omega, ?_, i + 1, by omega, rfl, trivial, rfl⟩; (skip); refine jt [(0, 0), (1, 1), (2, 2)] rfl ?_ ?_; (focus ((repeat (first | exact qd | refine qi ?_ | refine qct ?_ | refine KO ?_ | refine K5 ?_ ?_ | refine qcX ?_ | refine qL ?_ ?_)); all_goals trace_state)); (focus ((repeat' (first | exact qh | refine qcI ?_ ?_ ?_ | refine qgp ?_ | refine KH ?_ ?_ | refine K3 ?_ ?_ | exact q7 | apply qu | exact qw rfl | (apply je; (refine .inr ?_; (repeat (first | exact List.mem_cons_self .. | apply List.mem_cons_of_mem)))) | (apply q8; (refine .inr ?_; (repeat (first | exact List.mem_cons_self .. | apply List.mem_cons_of_mem)))))); all_goals (first | exact hss | trace_state)))
  obtain rfl : i = F.length := by omega
  clear ho h1 h2 h3
  repeat' (first | refine qe ?_ | fail | ((first | refine xsC ?_ ?_); all_goals (intro hc; have hp := hc; try simp at hp; try (exfalso; omega))) | refine qv ?_ ?_)
  all_goals try (exfalso; omega)
  (refine QB (rs := [.cell 2 28]) [(2, 0)] 1 ?_; (repeat (first | exact qh | refine jU ?_ | refine qO ?_ ?_)); all_goals trace_state)
theorem Vo {h : Hub} {f : Nat → HB} {n : Nat} (hn : f n = .own false 4 (h.fols.map Fol.row)) : Rz f (qgY h n) (vS h) :=
  j8 (ql (yf hn (by simp) (ju fun _ => rfl)) (ql (qM rfl) (ql (qM rfl) (ql (qM rfl) (ql (qM rfl) (ql (qM rfl) (ql (qM rfl) qT)))))))
theorem JF (h : Hub) (hr : HRight h) : jT C.P 44 [vS h] (vS h) := wa (QG h hr) (Vo rfl)
end Go.Proofs.YtiljlcgmcmjcoaaGreatDoor
