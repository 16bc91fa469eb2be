import Derived.Test.YtiljlcgmcmjcoaaGreatDoorMz23
import Derived.Test.YtiljlcgmcmjcoaaGreatDoorMz14
import Derived.Test.YtiljlcgmcmjcoaaGreatDoorMz26
set_option linter.unusedSimpArgs false
set_option linter.unnecessarySimpa false
set_option linter.unusedVariables false
set_option maxHeartbeats 1000000
namespace Go.Proofs.YtiljlcgmcmjcoaaGreatDoor
open Go.Ab Go.RowKit
set_option maxRecDepth 10000
attribute [local irreducible] Awp jV q9 qJ Red qy Go.Ab.Fin ql Rz yQ qA qG ResOk jC q6 jH qT
theorem qc6 (l : List Gra) (hl : l.length ≤ 1000000) : jY C.P 79 [jD l] (jD l) :=
  kL (QQ l hl) (ya rfl (by simp) (js fun _ => rfl))
theorem qcO (l : List Sess) (hl : l.length ≤ 1000000) : jY C.P 80 [YY l] (YY l) :=
  kL (qap l hl) (ya rfl (by simp) (js fun _ => rfl))
theorem qbc (l : List Fol) (hl : l.length ≤ 1000000) :
    ql C.P 78 [wO l] [] (.os 0 0 l.length) [.own false 4 (l.map Fol.row)] := by
  by_cases h0 : l = []
  · subst h0
    refine qa Tryz.func78 rfl _ Tryz.ntmps78 (Nat.le_of_ble_eq_true rfl) _ Tryz.results78 0 rfl rfl ?_
    repeat' (first | refine qe ?_ | (first | (refine jZ ?_) | (refine vT ?_) | (refine Ja ?_)) | ((first | refine xsC ?_ ?_); all_goals (intro hc; have hp := hc; try simp at hp; try (exfalso; omega))) | refine qw ?_ ?_)
    · (refine wz (C := C) (vw (C := C) 2 4 rfl (Nat.zero_le _)) ?_)
      (refine w8 (rs := [.tmp 2]) [(0, 0)] 1 ?_; (repeat (first | exact qg | refine jQ ?_ | refine qM ?_ ?_)); all_goals skip)
    · (refine w8 (rs := [.tmp 2]) [(0, 0)] 1 ?_; (repeat (first | exact qg | refine jQ ?_ | refine qM ?_ ?_)); all_goals skip)
  · refine qa Tryz.func78 rfl _ Tryz.ntmps78 (Nat.le_of_ble_eq_true rfl) _ Tryz.results78 0 rfl rfl ?_
    repeat' (first | refine qe ?_ | (first | (refine jZ ?_) | (refine vT ?_) | (apply qj; apply kH; rfl; exact (fun h => h0 (List.map_eq_nil_iff.1 h)); rfl; rfl; (first | exact .inl rfl | exact .inr rfl); exact nle rfl)) | ((first | refine xsC ?_ ?_); all_goals (intro hc; have hp := hc; try simp at hp; try (exfalso; omega))) | refine qw ?_ ?_)
    (refine w8 (rs := [.tmp 2]) [(0, 0)] 1 ?_; (repeat (first | exact qg | refine jQ ?_ | refine qM ?_ ?_)); all_goals skip)
theorem qgH (j : Jou) (hl : j.coms.length ≤ 1000000) (hbl : j.base.length ≤ 1000000) (hc : ∀ c, c ∈ j.coms → c.chs.length ≤ 1000000) : jY C.P 81 [.agg j.row] (.agg j.row) := by
  have h1 := kC j.base hbl
  have h2 := W9 j.coms hl
  obtain ⟨b, n, l⟩ := j
  dsimp only at *
  refine qa Tryz.func81 rfl _ Tryz.ntmps81 (Nat.le_of_ble_eq_true rfl) _ Tryz.results81 0 rfl rfl ?_
  repeat' (first | refine qe ?_ | (first | refine xsQ Tryz.func101 (h1 ..) ?_ | (apply qH Tryz.func121 rfl rfl; intro hIsFn; refine j6 ([]) hIsFn (h2 ..) ?_)) | ((first | refine xsC ?_ ?_); all_goals (intro hc; have hp := hc; try simp at hp; try (exfalso; omega))) | refine qw ?_ ?_)
  all_goals try (exfalso; omega)
  (refine Awp.red (jq (τ := ⟨[(1, .op 0 0 0), (2, .op 1 0 0), (14, .os 2 0 l.length), (15, .v (.int .i64 l.length)), (16, .v (.int .i64 ((0 : Nat) : Int)))], [(0, .own false 3 [[qq b, .v (.int .i64 n), .os 2 0 l.length]]), (1, .own false 3 [[.sl true [], .v (.int .i64 0), .sl true []]]), (2, .own false 3 (l.map Com.row))], 3⟩) [(0, 0), (1, 1), (2, 2)] rfl ?_ ?_) ?_; rotate_left 2; rotate_left 1; (focus ((repeat (first | exact qd | refine qi ?_ | refine qb2 ?_ | refine KN ?_ | refine Wa ?_ ?_ | refine qb1 ?_ | refine qR ?_ ?_)); all_goals trace_state)); (focus ((repeat' (first | exact qg | refine qb4 ?_ ?_ ?_ | refine qfX ?_ | refine Kk ?_ ?_ | refine Kr ?_ ?_ | exact q3 | apply qt | exact qv rfl | (apply q8; (refine .inr ?_; (repeat (first | exact List.mem_cons_self .. | apply List.mem_cons_of_mem)))) | (apply q5; (refine .inr ?_; (repeat (first | exact List.mem_cons_self .. | apply List.mem_cons_of_mem)))))); all_goals trace_state)))
  refine qu (fun n' σ => ∃ i : Nat, i ≤ l.length ∧ n' = l.length - i ∧ True ∧ σ = ⟨[(1, .op 0 0 0), (2, .op 1 0 0), (14, .os 2 0 l.length), (15, .v (.int .i64 l.length)), (16, .v (.int .i64 (i : Int)))], [(0, .own false 3 [[qq b, .v (.int .i64 n), .os 2 0 l.length]]), (1, .own false 3 [[.sl true [], .v (.int .i64 0), .sl true []]]), (2, .own false 3 (l.map Com.row))], 3⟩) l.length ⟨0, Nat.zero_le _, rfl, trivial, rfl⟩ ?_
  rintro n' σ ⟨i, hi, rfl, -, rfl⟩
  by_cases hlt : i < l.length
  · have hr := qF (f := Com.row) hlt
    have hcc := Jm l[i].chs (hc _ (List.getElem_mem _))
    have hss := VR (f := Com.row) hlt
    repeat' (first | refine qe ?_ | (first | (refine vk ?_) | refine xsQ Tryz.func122 (hcc ..) ?_) | ((first | refine xsC ?_ ?_); all_goals (intro hc; have hp := hc; try simp at hp; try (exfalso; omega))) | refine qw ?_ ?_)
    all_goals try (exfalso; omega)
    refine ⟨l.length - (i + 1), ⟨[(1, .op 0 0 0), (2, .op 1 0 0), (14, .os 2 0 l.length), (15, .v (.int .i64 l.length)), (16, .v (.int .i64 ((i + 1 : Nat) : Int)))], [(0, .own false 3 [[qq b, .v (.int .i64 n), .os 2 0 l.length]]), (1, .own false 3 [[.sl true [], .v (.int .i64 0), .sl true []]]), (2, .own false 3 (l.map Com.row))], 3⟩, by omega, ?_, i + 1, by omega, rfl, trivial, rfl⟩; (skip); refine jq [(0, 0), (1, 1), (2, 2)] rfl ?_ ?_; (focus ((repeat (first | exact qd | refine qi ?_ | refine qb2 ?_ | refine KN ?_ | refine Wa ?_ ?_ | refine qb1 ?_ | refine qR ?_ ?_)); all_goals trace_state)); (focus ((repeat' (first | exact qg | refine qb4 ?_ ?_ ?_ | refine qfX ?_ | refine Kk ?_ ?_ | refine Kr ?_ ?_ | exact q3 | apply qt | exact qv rfl | (apply q8; (refine .inr ?_; (repeat (first | exact List.mem_cons_self .. | apply List.mem_cons_of_mem)))) | (apply q5; (refine .inr ?_; (repeat (first | exact List.mem_cons_self .. | apply List.mem_cons_of_mem)))))); all_goals (first | exact hss | trace_state)))
  obtain rfl : i = l.length := by omega
  repeat' (first | refine qe ?_ | fail | ((first | refine xsC ?_ ?_); all_goals (intro hc; have hp := hc; try simp at hp; try (exfalso; omega))) | refine qw ?_ ?_)
  all_goals try (exfalso; omega)
  (exact yv (rs := [.cell 2 60]))
def qgk (h : Hub) (n : Nat) : AV := .agg [.os n 0 h.fols.length, jD h.gras, .sl false (h.ups.sess.map Sess.row), .v (.int .i64 h.ups.next), .v (.int .i64 h.ups.lasts), .v (.int .i64 h.ups.room), .v (.int .i64 h.now)]
theorem HRight.small {h : Hub} (hr : HRight h) : h.gras.length ≤ 60 ∧ h.ups.sess.length ≤ 20 ∧ ∀ s, s ∈ h.fols → s.jou.coms.length ≤ 30 ∧ s.jou.base.length ≤ 60 ∧ ∀ c, c ∈ s.jou.coms → c.chs.length ≤ 20 :=
  ⟨(xF hr.gra).1, (zO hr.ups).2.1, fun s hs => by
    have hJ := (hr.each s hs).2
    exact ⟨hJ.len, hJ.base.len, fun c hc => kG hJ.base hJ.run c hc⟩⟩
theorem Ql (h : Hub) (hr : HRight h) : ql C.P 44 [zB h] [] (qgk h 0) [.own false 4 (h.fols.map Fol.row)] := by
  have hl := hr.len
  obtain ⟨s1, s2, s3⟩ := hr.small
  have h1 := qbc h.fols (by omega)
  have h2 := qc6 h.gras (by omega)
  have h3 := qcO h.ups.sess (by omega)
  have ho : ∀ s, s ∈ h.fols → jY C.P 81 [.agg s.jou.row] (.agg s.jou.row) := fun s hs => by
    obtain ⟨a, b, c⟩ := s3 s hs
    exact qgH s.jou (by omega) (by omega) (fun x hx => by have := c x hx; omega)
  clear s3 hr
  obtain ⟨F, G, ⟨S, nx, la, ro⟩, now⟩ := h
  dsimp only at *
  refine qa Tryz.func44 rfl _ Tryz.ntmps44 (Nat.le_of_ble_eq_true rfl) _ Tryz.results44 0 rfl rfl ?_
  repeat' (first | refine qe ?_ | (first | (apply qH Tryz.func78 rfl rfl; intro hIsFn; refine j6 ([]) hIsFn (h1 ..) ?_) | refine xsQ Tryz.func79 (h2 ..) ?_ | refine xsQ Tryz.func80 (h3 ..) ?_) | ((first | refine xsC ?_ ?_); all_goals (intro hc; have hp := hc; try simp at hp; try (exfalso; omega))) | refine qw ?_ ?_)
  all_goals try (exfalso; omega)
  (refine Awp.red (jq (τ := ⟨[(1, .op 0 0 0), (2, .op 1 0 0), (20, .os 2 0 F.length), (21, .v (.int .i64 F.length)), (22, .v (.int .i64 ((0 : Nat) : Int)))], [(0, .own false 7 [[.os 2 0 F.length, jD G, YY S, .v (.int .i64 nx), .v (.int .i64 la), .v (.int .i64 ro), .v (.int .i64 now)]]), (1, .own false 7 [[.sl true [], .sl true [], .sl true [], .v (.int .i64 0), .v (.int .i64 0), .v (.int .i64 0), .v (.int .i64 0)]]), (2, .own false 4 (F.map Fol.row))], 3⟩) [(0, 0), (1, 1), (2, 2)] rfl ?_ ?_) ?_; rotate_left 2; rotate_left 1; (focus ((repeat (first | exact qd | refine qi ?_ | refine qb2 ?_ | refine KN ?_ | refine Wa ?_ ?_ | refine qb1 ?_ | refine qR ?_ ?_)); all_goals trace_state)); (focus ((repeat' (first | exact qg | refine qb4 ?_ ?_ ?_ | refine qfX ?_ | refine Kk ?_ ?_ | refine Kr ?_ ?_ | exact q3 | apply qt | exact qv rfl | (apply q8; (refine .inr ?_; (repeat (first | exact List.mem_cons_self .. | apply List.mem_cons_of_mem)))) | (apply q5; (refine .inr ?_; (repeat (first | exact List.mem_cons_self .. | apply List.mem_cons_of_mem)))))); all_goals trace_state)))
  refine qu (fun n' σ => ∃ i : Nat, i ≤ F.length ∧ n' = F.length - i ∧ True ∧ σ = ⟨[(1, .op 0 0 0), (2, .op 1 0 0), (20, .os 2 0 F.length), (21, .v (.int .i64 F.length)), (22, .v (.int .i64 (i : Int)))], [(0, .own false 7 [[.os 2 0 F.length, jD G, YY S, .v (.int .i64 nx), .v (.int .i64 la), .v (.int .i64 ro), .v (.int .i64 now)]]), (1, .own false 7 [[.sl true [], .sl true [], .sl true [], .v (.int .i64 0), .v (.int .i64 0), .v (.int .i64 0), .v (.int .i64 0)]]), (2, .own false 4 (F.map Fol.row))], 3⟩) F.length ⟨0, Nat.zero_le _, rfl, trivial, rfl⟩ ?_
  rintro n' σ ⟨i, hi, rfl, -, rfl⟩
  by_cases hlt : i < F.length
  · have hr := qF (f := Fol.row) hlt
    have hoi := ho F[i] (List.getElem_mem _)
    have hss := VR (f := Fol.row) hlt
    clear ho h1 h2 h3
    repeat' (first | refine qe ?_ | (first | (refine vk ?_) | refine xsQ Tryz.func81 (hoi ..) ?_) | ((first | refine xsC ?_ ?_); all_goals (intro hc; have hp := hc; try simp at hp; try (exfalso; omega))) | refine qw ?_ ?_)
    all_goals try (exfalso; omega)
    refine ⟨F.length - (i + 1), ⟨[(1, .op 0 0 0), (2, .op 1 0 0), (20, .os 2 0 F.length), (21, .v (.int .i64 F.length)), (22, .v (.int .i64 ((i + 1 : Nat) : Int)))], [(0, .own false 7 [[.os 2 0 F.length, jD G, YY S, .v (.int .i64 nx), .v (.int .i64 la), .v (.int .i64 ro), .v (.int .i64 now)]]), (1, .own false 7 [[.sl true [], .sl true [], .sl true [], .v (.int .i64 0), .v (.int .i64 0), .v (.int .i64 0), .v (.int .i64 0)]]), (2, .own false 4 (F.map Fol.row))], 3⟩, by omega, ?_, i + 1, by omega, rfl, trivial, rfl⟩; (skip); refine jq [(0, 0), (1, 1), (2, 2)] rfl ?_ ?_; (focus ((repeat (first | exact qd | refine qi ?_ | refine qb2 ?_ | refine KN ?_ | refine Wa ?_ ?_ | refine qb1 ?_ | refine qR ?_ ?_)); all_goals trace_state)); (focus ((repeat' (first | exact qg | refine qb4 ?_ ?_ ?_ | refine qfX ?_ | refine Kk ?_ ?_ | refine Kr ?_ ?_ | exact q3 | apply qt | exact qv rfl | (apply q8; (refine .inr ?_; (repeat (first | exact List.mem_cons_self .. | apply List.mem_cons_of_mem)))) | (apply q5; (refine .inr ?_; (repeat (first | exact List.mem_cons_self .. | apply List.mem_cons_of_mem)))))); all_goals (first | exact hss | trace_state)))
  obtain rfl : i = F.length := by omega
  clear ho h1 h2 h3
  repeat' (first | refine qe ?_ | fail | ((first | refine xsC ?_ ?_); all_goals (intro hc; have hp := hc; try simp at hp; try (exfalso; omega))) | refine qw ?_ ?_)
  all_goals try (exfalso; omega)
  (refine w8 (rs := [.cell 2 28]) [(2, 0)] 1 ?_; (repeat (first | exact qg | refine jQ ?_ | refine qM ?_ ?_)); all_goals trace_state)
theorem VX {h : Hub} {f : Nat → HB} {n : Nat} (hn : f n = .own false 4 (h.fols.map Fol.row)) : Rz f (qgk h n) (zB h) :=
  yh (qm (ya hn (by simp) (js fun _ => rfl)) (qm (qQ rfl) (qm (qQ rfl) (qm (qQ rfl) (qm (qQ rfl) (qm (qQ rfl) (qm (qQ rfl) qZ)))))))
theorem Xk (h : Hub) (hr : HRight h) : jY C.P 44 [zB h] (zB h) := kL (Ql h hr) (VX rfl)
end Go.Proofs.YtiljlcgmcmjcoaaGreatDoor
