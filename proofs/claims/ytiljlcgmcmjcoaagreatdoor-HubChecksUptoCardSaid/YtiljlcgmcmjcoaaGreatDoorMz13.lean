import Derived.Test.YtiljlcgmcmjcoaaGreatDoorMz12
set_option linter.unusedSimpArgs false
set_option linter.unnecessarySimpa false
set_option linter.unusedVariables false
set_option maxHeartbeats 1000000
namespace Go.Proofs.YtiljlcgmcmjcoaaGreatDoor
open Go.Ab Go.RowKit
set_option maxRecDepth 10000
attribute [local irreducible] Awp jV q9 qJ Red qy Go.Ab.Fin ql Rz yQ qA qG ResOk jC q6 jH qT
def xL (t : List Ent) (c : Chg) : Int :=
  if ¬ ye t (qL (jI c)) = 0 then ye t (qL (jI c))
  else if ¬ vI t c = 0 then vI t c else z7 t c
theorem qfE (t : List Ent) (c : Chg) : vQ t c = if xL t c = 0 then j8 t c else xL t c := by
  unfold vQ xL
  split <;> (try split) <;> (try split) <;> simp_all
theorem qhc (t : List Ent) (c : Chg) (v : Int) (h60 : t.length ≤ 60) (hcs : c.small) (h0 : ¬ yo c = 0) : jY C.P 130 [qq t, .agg c.row, .v (.int .i64 v)] (.tup [qq [], .v (.int .i64 (yo c))]) := by
  have hform := xB c hcs
  generalize yo c = E at *
  refine qa Tryz.func130 rfl _ Tryz.ntmps130 (Nat.le_of_ble_eq_true rfl) _ Tryz.results130 0 rfl rfl ?_
  repeat' (first | refine qe ?_ | (first | refine xsF Tryz.func160 (hform ..) ?_) | ((first | refine qc ?_ ?_ | refine qb ?_ ?_ | refine xsC ?_ ?_); all_goals (intro hc; have hp := hc; try simp at hp; try (exfalso; omega))) | refine qw ?_ ?_)
  all_goals try (exfalso; omega)
  (exact yv (rs := [.tmp 6, .tmp 7]))
theorem qhh (t : List Ent) (c : Chg) (v : Int) (h60 : t.length ≤ 60) (hs : qr j5 t = true) (hcs : c.small) (h0 : yo c = 0) (h1 : ¬ xL t c = 0) : jY C.P 130 [qq t, .agg c.row, .v (.int .i64 v)] (.tup [qq [], .v (.int .i64 (xL t c))]) := by
  obtain ⟨l1, l2, l3⟩ := hcs
  have hform := xB c ⟨l1, l2, l3⟩
  have hpo1 := yu c.path (by omega)
  have hpo2 := yu c.to (by omega)
  have hfo := va t (qL (jI c)) (by omega)
  have hea := yS t c.path (by omega)
  have heb := yS t c.to (by omega)
  have hinn := xE c.to c.path (by omega) (by omega)
  have hkk := yw h0
  rw [h0] at hform
  have hE : xL t c = if ¬ ye t (qL (jI c)) = 0 then ye t (qL (jI c)) else if ¬ vI t c = 0 then vI t c else z7 t c := rfl
  have hI : vI t c = if c.kind = 1 then (if yy t c.path = true then 6 else 0) else if c.kind = 2 then (if xx t c.path = true then 4 else 0) else (if yy t c.path = true then 0 else 5) := rfl
  have hM : z7 t c = if c.kind = 3 then (if inB c.to c.path = true then 3 else if yy t c.to = true then 6 else 0) else 0 := rfl
  have hg3 : c.kind = 3 → jI c = c.to := fun h => by simp [jI, h]
  have hg0 : ¬ c.kind = 3 → jI c = c.path := fun h => by simp [jI, h]
  have hrow : yy t c.path = true → ∃ hk : y3 t c.path < t.length, xx t c.path = t[y3 t c.path].fold ∧ yj (atP c.path) t = y3 t c.path := fun h => by
    obtain ⟨hk, _, hfi, hix⟩ := zP hs h
    exact ⟨hk, by unfold xx; rw [hfi], hix⟩
  have hnorow : yy t c.path = false → xx t c.path = false ∧ yj (atP c.path) t = -1 := fun h => by
    unfold xx; rw [(xi h).1]; exact ⟨rfl, (xi h).2⟩
  have hto : (yy t c.to = true ∧ 0 ≤ yj (atP c.to) t) ∨ (yy t c.to = false ∧ yj (atP c.to) t = -1) := by
    cases h : yy t c.to with
    | true => obtain ⟨hk, _, hfi, hix⟩ := zP hs h; exact .inl ⟨rfl, by rw [hix]; omega⟩
    | false => exact .inr ⟨rfl, (xi h).2⟩
  obtain ⟨kk1, kk2, -⟩ := hkk
  generalize xL t c = E at *
  generalize vI t c = I at *
  generalize z7 t c = Mv at *
  generalize inB c.to c.path = IB at *
  generalize yy t c.to = HT at *
  generalize yj (atP c.to) t = IT at *
  generalize ye t (qL (jI c)) = FE at *
  by_cases hFE : FE = 0
  · rw [hFE] at hfo
    rw [if_neg (by simp [hFE])] at hE
    clear hFE
    cases hh : yy t c.path with
    | true =>
      obtain ⟨hk, hfa, hix⟩ := hrow hh
      rw [hix] at hea
      rw [hh, hfa] at hI
      have hr := qF (f := Ent.row) hk
      clear hrow hnorow hix
      generalize y3 t c.path = k at *
      by_cases k3 : c.kind = 3
      · rw [hg3 k3] at hfo
        clear hg3 hg0
        refine qa Tryz.func130 rfl _ Tryz.ntmps130 (Nat.le_of_ble_eq_true rfl) _ Tryz.results130 0 rfl rfl ?_
        repeat' (first | refine qe ?_ | (first | refine xsF Tryz.func160 (hform ..) ?_ | refine xsF Tryz.func139 (hpo1 ..) ?_ | refine xsF Tryz.func139 (hpo2 ..) ?_ | refine xsQ Tryz.func138 (hfo ..) ?_ | refine xsQ Tryz.func161 (hea ..) ?_ | refine xsQ Tryz.func161 (heb ..) ?_ | refine xsF Tryz.func162 (hinn ..) ?_) | ((first | refine qc ?_ ?_ | refine qb ?_ ?_ | refine xsC ?_ ?_); all_goals (intro hc; have hp := hc; try simp at hp; try (exfalso; omega))) | refine qw ?_ ?_)
        all_goals try (exfalso; omega)
        all_goals first
          | ((refine y6 (rs := [.tmp 6, .tmp 7]) ?_; (repeat' (first | exact qZ | apply qm | exact qQ rfl | exact yI | exact z1 | apply yh | apply yX | apply yc | apply y2 | apply yx | apply yW | refine z8 ?_ | apply xS)); all_goals (clear hea heb hfo hform hinn hpo1 hpo2; simp_all)))
          | (exfalso; clear hea heb hfo hform hinn hpo1 hpo2; simp_all; done)
      · rw [hg0 k3] at hfo
        clear hg3 hg0
        refine qa Tryz.func130 rfl _ Tryz.ntmps130 (Nat.le_of_ble_eq_true rfl) _ Tryz.results130 0 rfl rfl ?_
        repeat' (first | refine qe ?_ | (first | refine xsF Tryz.func160 (hform ..) ?_ | refine xsF Tryz.func139 (hpo1 ..) ?_ | refine xsF Tryz.func139 (hpo2 ..) ?_ | refine xsQ Tryz.func138 (hfo ..) ?_ | refine xsQ Tryz.func161 (hea ..) ?_ | refine xsQ Tryz.func161 (heb ..) ?_ | refine xsF Tryz.func162 (hinn ..) ?_) | ((first | refine qc ?_ ?_ | refine qb ?_ ?_ | refine xsC ?_ ?_); all_goals (intro hc; have hp := hc; try simp at hp; try (exfalso; omega))) | refine qw ?_ ?_)
        all_goals try (exfalso; omega)
        all_goals first
          | ((refine y6 (rs := [.tmp 6, .tmp 7]) ?_; (repeat' (first | exact qZ | apply qm | exact qQ rfl | exact yI | exact z1 | apply yh | apply yX | apply yc | apply y2 | apply yx | apply yW | refine z8 ?_ | apply xS)); all_goals (clear hea heb hfo hform hinn hpo1 hpo2; simp_all)))
          | (exfalso; clear hea heb hfo hform hinn hpo1 hpo2; simp_all; done)
    | false =>
      obtain ⟨hfa, hix⟩ := hnorow hh
      rw [hix] at hea
      rw [hh, hfa] at hI
      clear hrow hnorow hix
      by_cases k3 : c.kind = 3
      · rw [hg3 k3] at hfo
        clear hg3 hg0
        refine qa Tryz.func130 rfl _ Tryz.ntmps130 (Nat.le_of_ble_eq_true rfl) _ Tryz.results130 0 rfl rfl ?_
        repeat' (first | refine qe ?_ | (first | refine xsF Tryz.func160 (hform ..) ?_ | refine xsF Tryz.func139 (hpo1 ..) ?_ | refine xsF Tryz.func139 (hpo2 ..) ?_ | refine xsQ Tryz.func138 (hfo ..) ?_ | refine xsQ Tryz.func161 (hea ..) ?_ | refine xsQ Tryz.func161 (heb ..) ?_ | refine xsF Tryz.func162 (hinn ..) ?_) | ((first | refine qc ?_ ?_ | refine qb ?_ ?_ | refine xsC ?_ ?_); all_goals (intro hc; have hp := hc; try simp at hp; try (exfalso; omega))) | refine qw ?_ ?_)
        all_goals try (exfalso; omega)
        all_goals first
          | ((refine y6 (rs := [.tmp 6, .tmp 7]) ?_; (repeat' (first | exact qZ | apply qm | exact qQ rfl | exact yI | exact z1 | apply yh | apply yX | apply yc | apply y2 | apply yx | apply yW | refine z8 ?_ | apply xS)); all_goals (clear hea heb hfo hform hinn hpo1 hpo2; simp_all)))
          | (exfalso; clear hea heb hfo hform hinn hpo1 hpo2; simp_all; done)
      · rw [hg0 k3] at hfo
        clear hg3 hg0
        refine qa Tryz.func130 rfl _ Tryz.ntmps130 (Nat.le_of_ble_eq_true rfl) _ Tryz.results130 0 rfl rfl ?_
        repeat' (first | refine qe ?_ | (first | refine xsF Tryz.func160 (hform ..) ?_ | refine xsF Tryz.func139 (hpo1 ..) ?_ | refine xsF Tryz.func139 (hpo2 ..) ?_ | refine xsQ Tryz.func138 (hfo ..) ?_ | refine xsQ Tryz.func161 (hea ..) ?_ | refine xsQ Tryz.func161 (heb ..) ?_ | refine xsF Tryz.func162 (hinn ..) ?_) | ((first | refine qc ?_ ?_ | refine qb ?_ ?_ | refine xsC ?_ ?_); all_goals (intro hc; have hp := hc; try simp at hp; try (exfalso; omega))) | refine qw ?_ ?_)
        all_goals try (exfalso; omega)
        all_goals first
          | ((refine y6 (rs := [.tmp 6, .tmp 7]) ?_; (repeat' (first | exact qZ | apply qm | exact qQ rfl | exact yI | exact z1 | apply yh | apply yX | apply yc | apply y2 | apply yx | apply yW | refine z8 ?_ | apply xS)); all_goals (clear hea heb hfo hform hinn hpo1 hpo2; simp_all)))
          | (exfalso; clear hea heb hfo hform hinn hpo1 hpo2; simp_all; done)
  · rw [if_pos hFE] at hE
    subst hE
    clear hI hM hrow hnorow hto
    by_cases k3 : c.kind = 3
    · rw [hg3 k3] at hfo
      clear hg3 hg0
      refine qa Tryz.func130 rfl _ Tryz.ntmps130 (Nat.le_of_ble_eq_true rfl) _ Tryz.results130 0 rfl rfl ?_
      repeat' (first | refine qe ?_ | (first | refine xsF Tryz.func160 (hform ..) ?_ | refine xsF Tryz.func139 (hpo1 ..) ?_ | refine xsF Tryz.func139 (hpo2 ..) ?_ | refine xsQ Tryz.func138 (hfo ..) ?_ | refine xsQ Tryz.func161 (hea ..) ?_ | refine xsQ Tryz.func161 (heb ..) ?_ | refine xsF Tryz.func162 (hinn ..) ?_) | ((first | refine qc ?_ ?_ | refine qb ?_ ?_ | refine xsC ?_ ?_); all_goals (intro hc; have hp := hc; try simp at hp; try (exfalso; omega))) | refine qw ?_ ?_)
      all_goals try (exfalso; omega)
      all_goals ((exact yv (rs := [.tmp 6, .tmp 7])))
    · rw [hg0 k3] at hfo
      clear hg3 hg0
      refine qa Tryz.func130 rfl _ Tryz.ntmps130 (Nat.le_of_ble_eq_true rfl) _ Tryz.results130 0 rfl rfl ?_
      repeat' (first | refine qe ?_ | (first | refine xsF Tryz.func160 (hform ..) ?_ | refine xsF Tryz.func139 (hpo1 ..) ?_ | refine xsF Tryz.func139 (hpo2 ..) ?_ | refine xsQ Tryz.func138 (hfo ..) ?_ | refine xsQ Tryz.func161 (hea ..) ?_ | refine xsQ Tryz.func161 (heb ..) ?_ | refine xsF Tryz.func162 (hinn ..) ?_) | ((first | refine qc ?_ ?_ | refine qb ?_ ?_ | refine xsC ?_ ?_); all_goals (intro hc; have hp := hc; try simp at hp; try (exfalso; omega))) | refine qw ?_ ?_)
      all_goals try (exfalso; omega)
      all_goals ((exact yv (rs := [.tmp 6, .tmp 7])))
end Go.Proofs.YtiljlcgmcmjcoaaGreatDoor
set_option linter.unusedSimpArgs false
set_option linter.unnecessarySimpa false
set_option linter.unusedVariables false
set_option maxHeartbeats 1000000
namespace Go.Proofs.YtiljlcgmcmjcoaaGreatDoor
open Go.Ab Go.RowKit
set_option maxRecDepth 10000
attribute [local irreducible] Awp jV q9 qJ Red qy Go.Ab.Fin ql Rz yQ qA qG ResOk jC q6 jH qT
theorem wR {t : List Ent} {c : Chg} (h : xL t c = 0) : ye t (qL (jI c)) = 0 ∧ vI t c = 0 ∧ z7 t c = 0 := by
  unfold xL at h
  split at h
  · contradiction
  · split at h
    · contradiction
    · exact ⟨by omega, by omega, h⟩
theorem wX {c : Chg} (h : yo c = 0) : -1 ≤ c.base := by
  have := (yw h).2.2.2.2
  unfold zR at this
  split at this
  · exact absurd this (by decide)
  · split at this
    · exact absurd this (by decide)
    · split at this
      · exact absurd this (by decide)
      · omega
theorem qhn (t : List Ent) (c : Chg) (v : Int) (h60 : t.length ≤ 60) (hs : qr j5 t = true) (hgt : ∀ x, x ∈ t → qC x.path = 0) (hcs : c.small) (hk : c.kind = 1) (h0 : yo c = 0) (h1 : xL t c = 0) (h2 : j8 t c = 0) : jY C.P 130 [qq t, .agg c.row, .v (.int .i64 v)] (.tup [qq (if j9 t c v = 0 then jl t c v else []), .v (.int .i64 (j9 t c v))]) := by
  obtain ⟨l1, l2, l3⟩ := hcs
  have hform := xB c ⟨l1, l2, l3⟩
  have hpo1 := yu c.path (by omega)
  have hpo2 := yu c.to (by omega)
  have hfo := va t (qL (jI c)) (by omega)
  have hea := yS t c.path (by omega)
  have heb := yS t c.to (by omega)
  have hinn := xE c.to c.path (by omega) (by omega)
  have hkk := yw h0
  have hbase : -1 ≤ c.base := wX h0
  obtain ⟨hz1, hz2, hz3⟩ := wR h1
  have hst : ∀ x, x ∈ t → ¬ c.base = -1 → (decide (c.base < x.ver) && inB x.path c.path) = false := fun x hx hb => by
    unfold j8 at h2
    by_cases h3 : t.any (yZ c) = true
    · rw [if_pos ⟨hb, h3⟩] at h2; exact absurd h2 (by decide)
    · have h4 : t.any (yZ c) = false := by simpa using h3
      rw [List.any_eq_false] at h4
      have h5 := h4 x hx
      simpa [yZ] using h5
  clear h2
  have hx : yy t c.path = false := by
    unfold vI at hz2
    rw [if_pos hk] at hz2
    cases h : yy t c.path with
    | true => simp [h] at hz2
    | false => rfl
  rw [(xi hx).2] at hea
  have hg0 : jI c = c.path := by simp [jI, hk]
  rw [hz1, hg0] at hfo
  rw [h0] at hform
  have hput : jY C.P 163 [qq t, .agg [.v (str c.path), .v (.bool true), .v (str []), .v (.int .i64 v)]] (qq (jl t c v)) := by
    have h := wC t ⟨c.path, true, [], v⟩ (by omega)
    rw [Jl hs] at h
    have hD : jl t c v = yJ t ⟨c.path, true, [], v⟩ := by simp [jl, hk]
    rw [hD]; exact h
  have hE : j9 t c v = if 60 < (jl t c v).length then 2 else 0 := by simp [j9, yC, hk]
  rw [hE]
  have hlen := Jd t c v
  generalize jl t c v = L at *
  by_cases hL : 60 < L.length
  · rw [if_pos hL]
    refine qa Tryz.func130 rfl _ Tryz.ntmps130 (Nat.le_of_ble_eq_true rfl) _ Tryz.results130 0 rfl rfl ?_
    repeat' (first | refine qe ?_ | (first | refine xsF Tryz.func160 (hform ..) ?_ | refine xsF Tryz.func139 (hpo1 ..) ?_ | refine xsF Tryz.func139 (hpo2 ..) ?_ | refine xsQ Tryz.func138 (hfo ..) ?_ | refine xsQ Tryz.func161 (hea ..) ?_ | refine xsQ Tryz.func161 (heb ..) ?_ | refine xsF Tryz.func162 (hinn ..) ?_) | ((first | refine qc ?_ ?_ | refine qb ?_ ?_ | refine xsC ?_ ?_); all_goals (intro hc; have hp := hc; try simp at hp; try (exfalso; omega))) | refine qw ?_ ?_)
    all_goals try (exfalso; omega)
    refine kf 4 0 ?_
    (refine Awp.red (qh (ts := [(0, qq t), (2, .v (.int .i64 v)), (4, .fp [c.row] 0 0), (11, .v (.int .i64 ((0 : Nat) : Int)))]) ?_) ?_; ((repeat (first | exact qd | refine qi ?_ | refine qR ?_ ?_))))
    refine qu (fun n σ => ∃ i : Nat, i ≤ t.length ∧ n = t.length - i ∧ (True) ∧ σ = ⟨[(0, qq t), (2, .v (.int .i64 v)), (4, .fp [c.row] 0 0), (11, .v (.int .i64 (i : Int)))], [], C.nh⟩) t.length ⟨0, Nat.zero_le _, rfl, trivial, rfl⟩ ?_
    rintro n σ ⟨i, hi, rfl, -, rfl⟩
    by_cases hlt : i < t.length
    · have hr := qF (f := Ent.row) hlt
      have hnw := hst t[i] (List.getElem_mem _)
      have hpl := jj (hgt t[i] (List.getElem_mem _))
      have hii := xE t[i].path c.path (by omega) (by omega)
      generalize inB t[i].path c.path = IB at *
      repeat' (first | refine qe ?_ | (first | refine xsF Tryz.func162 (hii ..) ?_) | ((first | refine qc ?_ ?_ | refine qb ?_ ?_ | refine xsC ?_ ?_); all_goals (intro hc; have hp := hc; try simp at hp; try (exfalso; omega))) | refine qw ?_ ?_)
      all_goals try (exfalso; omega)
      all_goals try (
        have h9 := hnw (by omega)
        rw [Bool.and_eq_false_iff] at h9
        rcases h9 with h9 | h9
        · exact absurd (h9.symm.trans (by assumption)) Bool.false_ne_true
        · exact absurd (h9.symm.trans (by assumption)) Bool.false_ne_true)
      all_goals first
        | (refine ⟨t.length - (i + 1), _, by omega, qh (ts := [(0, qq t), (2, .v (.int .i64 v)), (4, .fp [c.row] 0 0), (11, .v (.int .i64 ((i + 1 : Nat) : Int)))]) ?_, i + 1, by omega, rfl, trivial, rfl⟩; ((repeat (first | exact qd | refine qi ?_ | refine qR ?_ ?_))))
        | ((repeat' (first | refine qe ?_ | (first | refine xsQ Tryz.func163 (hput ..) ?_) | ((first | refine qc ?_ ?_ | refine qb ?_ ?_ | refine xsC ?_ ?_); all_goals (intro hc; have hp := hc; try simp at hp; try (exfalso; omega))) | refine qw ?_ ?_)); (all_goals try (exfalso; omega)); (all_goals ((exact yv (rs := [.tmp 6, .tmp 7])))))
    · obtain rfl : i = t.length := by omega
      (repeat' (first | refine qe ?_ | (first | refine xsQ Tryz.func163 (hput ..) ?_) | ((first | refine qc ?_ ?_ | refine qb ?_ ?_ | refine xsC ?_ ?_); all_goals (intro hc; have hp := hc; try simp at hp; try (exfalso; omega))) | refine qw ?_ ?_)); (all_goals try (exfalso; omega)); (all_goals ((exact yv (rs := [.tmp 6, .tmp 7]))))
  · rw [if_neg hL]
    refine qa Tryz.func130 rfl _ Tryz.ntmps130 (Nat.le_of_ble_eq_true rfl) _ Tryz.results130 0 rfl rfl ?_
    repeat' (first | refine qe ?_ | (first | refine xsF Tryz.func160 (hform ..) ?_ | refine xsF Tryz.func139 (hpo1 ..) ?_ | refine xsF Tryz.func139 (hpo2 ..) ?_ | refine xsQ Tryz.func138 (hfo ..) ?_ | refine xsQ Tryz.func161 (hea ..) ?_ | refine xsQ Tryz.func161 (heb ..) ?_ | refine xsF Tryz.func162 (hinn ..) ?_) | ((first | refine qc ?_ ?_ | refine qb ?_ ?_ | refine xsC ?_ ?_); all_goals (intro hc; have hp := hc; try simp at hp; try (exfalso; omega))) | refine qw ?_ ?_)
    all_goals try (exfalso; omega)
    refine kf 4 0 ?_
    (refine Awp.red (qh (ts := [(0, qq t), (2, .v (.int .i64 v)), (4, .fp [c.row] 0 0), (11, .v (.int .i64 ((0 : Nat) : Int)))]) ?_) ?_; ((repeat (first | exact qd | refine qi ?_ | refine qR ?_ ?_))))
    refine qu (fun n σ => ∃ i : Nat, i ≤ t.length ∧ n = t.length - i ∧ (True) ∧ σ = ⟨[(0, qq t), (2, .v (.int .i64 v)), (4, .fp [c.row] 0 0), (11, .v (.int .i64 (i : Int)))], [], C.nh⟩) t.length ⟨0, Nat.zero_le _, rfl, trivial, rfl⟩ ?_
    rintro n σ ⟨i, hi, rfl, -, rfl⟩
    by_cases hlt : i < t.length
    · have hr := qF (f := Ent.row) hlt
      have hnw := hst t[i] (List.getElem_mem _)
      have hpl := jj (hgt t[i] (List.getElem_mem _))
      have hii := xE t[i].path c.path (by omega) (by omega)
      generalize inB t[i].path c.path = IB at *
      repeat' (first | refine qe ?_ | (first | refine xsF Tryz.func162 (hii ..) ?_) | ((first | refine qc ?_ ?_ | refine qb ?_ ?_ | refine xsC ?_ ?_); all_goals (intro hc; have hp := hc; try simp at hp; try (exfalso; omega))) | refine qw ?_ ?_)
      all_goals try (exfalso; omega)
      all_goals try (
        have h9 := hnw (by omega)
        rw [Bool.and_eq_false_iff] at h9
        rcases h9 with h9 | h9
        · exact absurd (h9.symm.trans (by assumption)) Bool.false_ne_true
        · exact absurd (h9.symm.trans (by assumption)) Bool.false_ne_true)
      all_goals first
        | (refine ⟨t.length - (i + 1), _, by omega, qh (ts := [(0, qq t), (2, .v (.int .i64 v)), (4, .fp [c.row] 0 0), (11, .v (.int .i64 ((i + 1 : Nat) : Int)))]) ?_, i + 1, by omega, rfl, trivial, rfl⟩; ((repeat (first | exact qd | refine qi ?_ | refine qR ?_ ?_))))
        | ((repeat' (first | refine qe ?_ | (first | refine xsQ Tryz.func163 (hput ..) ?_) | ((first | refine qc ?_ ?_ | refine qb ?_ ?_ | refine xsC ?_ ?_); all_goals (intro hc; have hp := hc; try simp at hp; try (exfalso; omega))) | refine qw ?_ ?_)); (all_goals try (exfalso; omega)); (all_goals ((exact yv (rs := [.tmp 6, .tmp 7])))))
    · obtain rfl : i = t.length := by omega
      (repeat' (first | refine qe ?_ | (first | refine xsQ Tryz.func163 (hput ..) ?_) | ((first | refine qc ?_ ?_ | refine qb ?_ ?_ | refine xsC ?_ ?_); all_goals (intro hc; have hp := hc; try simp at hp; try (exfalso; omega))) | refine qw ?_ ?_)); (all_goals try (exfalso; omega)); (all_goals ((exact yv (rs := [.tmp 6, .tmp 7]))))
theorem qgU (t : List Ent) (c : Chg) (v : Int) (h60 : t.length ≤ 60) (hs : qr j5 t = true) (hgt : ∀ x, x ∈ t → qC x.path = 0) (hcs : c.small) (hk : c.kind = 2) (hh : yy t c.path = true) (h0 : yo c = 0) (h1 : xL t c = 0) (h2 : j8 t c = 0) : jY C.P 130 [qq t, .agg c.row, .v (.int .i64 v)] (.tup [qq (if j9 t c v = 0 then jl t c v else []), .v (.int .i64 (j9 t c v))]) := by
  obtain ⟨l1, l2, l3⟩ := hcs
  have hform := xB c ⟨l1, l2, l3⟩
  have hpo1 := yu c.path (by omega)
  have hpo2 := yu c.to (by omega)
  have hfo := va t (qL (jI c)) (by omega)
  have hea := yS t c.path (by omega)
  have heb := yS t c.to (by omega)
  have hinn := xE c.to c.path (by omega) (by omega)
  have hkk := yw h0
  have hbase : -1 ≤ c.base := wX h0
  obtain ⟨hz1, hz2, hz3⟩ := wR h1
  have hst : ∀ x, x ∈ t → ¬ c.base = -1 → (decide (c.base < x.ver) && inB x.path c.path) = false := fun x hx hb => by
    unfold j8 at h2
    by_cases h3 : t.any (yZ c) = true
    · rw [if_pos ⟨hb, h3⟩] at h2; exact absurd h2 (by decide)
    · have h4 : t.any (yZ c) = false := by simpa using h3
      rw [List.any_eq_false] at h4
      have h5 := h4 x hx
      simpa [yZ] using h5
  clear h2
  have hk1 : ¬ c.kind = 1 := by omega
  have hfa : xx t c.path = false := by
    unfold vI at hz2
    rw [if_neg hk1, if_pos hk] at hz2
    cases h : xx t c.path with
    | true => simp [h] at hz2
    | false => rfl
  have hg0 : jI c = c.path := by simp [jI, hk]
  rw [hz1, hg0] at hfo
  rw [h0] at hform
  have hput : jY C.P 163 [qq t, .agg [.v (str c.path), .v (.bool false), .v (str c.text), .v (.int .i64 v)]] (qq (jl t c v)) := by
    have h := wC t ⟨c.path, false, c.text, v⟩ (by omega)
    rw [Jl hs] at h
    have hD : jl t c v = yJ t ⟨c.path, false, c.text, v⟩ := by simp [jl, hk]
    rw [hD]; exact h
  have hE : j9 t c v = if 60 < (jl t c v).length then 2 else 0 := by simp [j9, yC, hk]
  rw [hE]
  have hlen := Jd t c v
  generalize jl t c v = L at *
  obtain ⟨hkk2, _, hfi, hix⟩ := zP hs hh
  have hrk := qF (f := Ent.row) hkk2
  have hfold : t[y3 t c.path].fold = false := by unfold xx at hfa; rw [hfi] at hfa; exact hfa
  rw [hix] at hea
  generalize y3 t c.path = k at *
  by_cases hL : 60 < L.length
  · rw [if_pos hL]
    refine qa Tryz.func130 rfl _ Tryz.ntmps130 (Nat.le_of_ble_eq_true rfl) _ Tryz.results130 0 rfl rfl ?_
    repeat' (first | refine qe ?_ | (first | refine xsF Tryz.func160 (hform ..) ?_ | refine xsF Tryz.func139 (hpo1 ..) ?_ | refine xsF Tryz.func139 (hpo2 ..) ?_ | refine xsQ Tryz.func138 (hfo ..) ?_ | refine xsQ Tryz.func161 (hea ..) ?_ | refine xsQ Tryz.func161 (heb ..) ?_ | refine xsF Tryz.func162 (hinn ..) ?_) | ((first | refine qc ?_ ?_ | refine qb ?_ ?_ | refine xsC ?_ ?_); all_goals (intro hc; have hp := hc; try simp at hp; try (exfalso; omega))) | refine qw ?_ ?_)
    all_goals try (exfalso; omega)
    refine kf 4 0 ?_
    (refine Awp.red (qh (ts := [(0, qq t), (2, .v (.int .i64 v)), (4, .fp [c.row] 0 0), (11, .v (.int .i64 ((0 : Nat) : Int)))]) ?_) ?_; ((repeat (first | exact qd | refine qi ?_ | refine qR ?_ ?_))))
    refine qu (fun n σ => ∃ i : Nat, i ≤ t.length ∧ n = t.length - i ∧ (True) ∧ σ = ⟨[(0, qq t), (2, .v (.int .i64 v)), (4, .fp [c.row] 0 0), (11, .v (.int .i64 (i : Int)))], [], C.nh⟩) t.length ⟨0, Nat.zero_le _, rfl, trivial, rfl⟩ ?_
    rintro n σ ⟨i, hi, rfl, -, rfl⟩
    by_cases hlt : i < t.length
    · have hr := qF (f := Ent.row) hlt
      have hnw := hst t[i] (List.getElem_mem _)
      have hpl := jj (hgt t[i] (List.getElem_mem _))
      have hii := xE t[i].path c.path (by omega) (by omega)
      generalize inB t[i].path c.path = IB at *
      repeat' (first | refine qe ?_ | (first | refine xsF Tryz.func162 (hii ..) ?_) | ((first | refine qc ?_ ?_ | refine qb ?_ ?_ | refine xsC ?_ ?_); all_goals (intro hc; have hp := hc; try simp at hp; try (exfalso; omega))) | refine qw ?_ ?_)
      all_goals try (exfalso; omega)
      all_goals try (
        have h9 := hnw (by omega)
        rw [Bool.and_eq_false_iff] at h9
        rcases h9 with h9 | h9
        · exact absurd (h9.symm.trans (by assumption)) Bool.false_ne_true
        · exact absurd (h9.symm.trans (by assumption)) Bool.false_ne_true)
      all_goals first
        | (refine ⟨t.length - (i + 1), _, by omega, qh (ts := [(0, qq t), (2, .v (.int .i64 v)), (4, .fp [c.row] 0 0), (11, .v (.int .i64 ((i + 1 : Nat) : Int)))]) ?_, i + 1, by omega, rfl, trivial, rfl⟩; ((repeat (first | exact qd | refine qi ?_ | refine qR ?_ ?_))))
        | ((repeat' (first | refine qe ?_ | (first | refine xsQ Tryz.func163 (hput ..) ?_) | ((first | refine qc ?_ ?_ | refine qb ?_ ?_ | refine xsC ?_ ?_); all_goals (intro hc; have hp := hc; try simp at hp; try (exfalso; omega))) | refine qw ?_ ?_)); (all_goals try (exfalso; omega)); (all_goals ((exact yv (rs := [.tmp 6, .tmp 7])))))
    · obtain rfl : i = t.length := by omega
      (repeat' (first | refine qe ?_ | (first | refine xsQ Tryz.func163 (hput ..) ?_) | ((first | refine qc ?_ ?_ | refine qb ?_ ?_ | refine xsC ?_ ?_); all_goals (intro hc; have hp := hc; try simp at hp; try (exfalso; omega))) | refine qw ?_ ?_)); (all_goals try (exfalso; omega)); (all_goals ((exact yv (rs := [.tmp 6, .tmp 7]))))
  · rw [if_neg hL]
    refine qa Tryz.func130 rfl _ Tryz.ntmps130 (Nat.le_of_ble_eq_true rfl) _ Tryz.results130 0 rfl rfl ?_
    repeat' (first | refine qe ?_ | (first | refine xsF Tryz.func160 (hform ..) ?_ | refine xsF Tryz.func139 (hpo1 ..) ?_ | refine xsF Tryz.func139 (hpo2 ..) ?_ | refine xsQ Tryz.func138 (hfo ..) ?_ | refine xsQ Tryz.func161 (hea ..) ?_ | refine xsQ Tryz.func161 (heb ..) ?_ | refine xsF Tryz.func162 (hinn ..) ?_) | ((first | refine qc ?_ ?_ | refine qb ?_ ?_ | refine xsC ?_ ?_); all_goals (intro hc; have hp := hc; try simp at hp; try (exfalso; omega))) | refine qw ?_ ?_)
    all_goals try (exfalso; omega)
    refine kf 4 0 ?_
    (refine Awp.red (qh (ts := [(0, qq t), (2, .v (.int .i64 v)), (4, .fp [c.row] 0 0), (11, .v (.int .i64 ((0 : Nat) : Int)))]) ?_) ?_; ((repeat (first | exact qd | refine qi ?_ | refine qR ?_ ?_))))
    refine qu (fun n σ => ∃ i : Nat, i ≤ t.length ∧ n = t.length - i ∧ (True) ∧ σ = ⟨[(0, qq t), (2, .v (.int .i64 v)), (4, .fp [c.row] 0 0), (11, .v (.int .i64 (i : Int)))], [], C.nh⟩) t.length ⟨0, Nat.zero_le _, rfl, trivial, rfl⟩ ?_
    rintro n σ ⟨i, hi, rfl, -, rfl⟩
    by_cases hlt : i < t.length
    · have hr := qF (f := Ent.row) hlt
      have hnw := hst t[i] (List.getElem_mem _)
      have hpl := jj (hgt t[i] (List.getElem_mem _))
      have hii := xE t[i].path c.path (by omega) (by omega)
      generalize inB t[i].path c.path = IB at *
      repeat' (first | refine qe ?_ | (first | refine xsF Tryz.func162 (hii ..) ?_) | ((first | refine qc ?_ ?_ | refine qb ?_ ?_ | refine xsC ?_ ?_); all_goals (intro hc; have hp := hc; try simp at hp; try (exfalso; omega))) | refine qw ?_ ?_)
      all_goals try (exfalso; omega)
      all_goals try (
        have h9 := hnw (by omega)
        rw [Bool.and_eq_false_iff] at h9
        rcases h9 with h9 | h9
        · exact absurd (h9.symm.trans (by assumption)) Bool.false_ne_true
        · exact absurd (h9.symm.trans (by assumption)) Bool.false_ne_true)
      all_goals first
        | (refine ⟨t.length - (i + 1), _, by omega, qh (ts := [(0, qq t), (2, .v (.int .i64 v)), (4, .fp [c.row] 0 0), (11, .v (.int .i64 ((i + 1 : Nat) : Int)))]) ?_, i + 1, by omega, rfl, trivial, rfl⟩; ((repeat (first | exact qd | refine qi ?_ | refine qR ?_ ?_))))
        | ((repeat' (first | refine qe ?_ | (first | refine xsQ Tryz.func163 (hput ..) ?_) | ((first | refine qc ?_ ?_ | refine qb ?_ ?_ | refine xsC ?_ ?_); all_goals (intro hc; have hp := hc; try simp at hp; try (exfalso; omega))) | refine qw ?_ ?_)); (all_goals try (exfalso; omega)); (all_goals ((exact yv (rs := [.tmp 6, .tmp 7])))))
    · obtain rfl : i = t.length := by omega
      (repeat' (first | refine qe ?_ | (first | refine xsQ Tryz.func163 (hput ..) ?_) | ((first | refine qc ?_ ?_ | refine qb ?_ ?_ | refine xsC ?_ ?_); all_goals (intro hc; have hp := hc; try simp at hp; try (exfalso; omega))) | refine qw ?_ ?_)); (all_goals try (exfalso; omega)); (all_goals ((exact yv (rs := [.tmp 6, .tmp 7]))))
theorem qgL (t : List Ent) (c : Chg) (v : Int) (h60 : t.length ≤ 60) (hs : qr j5 t = true) (hgt : ∀ x, x ∈ t → qC x.path = 0) (hcs : c.small) (hk : c.kind = 2) (hh : yy t c.path = false) (h0 : yo c = 0) (h1 : xL t c = 0) (h2 : j8 t c = 0) : jY C.P 130 [qq t, .agg c.row, .v (.int .i64 v)] (.tup [qq (if j9 t c v = 0 then jl t c v else []), .v (.int .i64 (j9 t c v))]) := by
  obtain ⟨l1, l2, l3⟩ := hcs
  have hform := xB c ⟨l1, l2, l3⟩
  have hpo1 := yu c.path (by omega)
  have hpo2 := yu c.to (by omega)
  have hfo := va t (qL (jI c)) (by omega)
  have hea := yS t c.path (by omega)
  have heb := yS t c.to (by omega)
  have hinn := xE c.to c.path (by omega) (by omega)
  have hkk := yw h0
  have hbase : -1 ≤ c.base := wX h0
  obtain ⟨hz1, hz2, hz3⟩ := wR h1
  have hst : ∀ x, x ∈ t → ¬ c.base = -1 → (decide (c.base < x.ver) && inB x.path c.path) = false := fun x hx hb => by
    unfold j8 at h2
    by_cases h3 : t.any (yZ c) = true
    · rw [if_pos ⟨hb, h3⟩] at h2; exact absurd h2 (by decide)
    · have h4 : t.any (yZ c) = false := by simpa using h3
      rw [List.any_eq_false] at h4
      have h5 := h4 x hx
      simpa [yZ] using h5
  clear h2
  have hk1 : ¬ c.kind = 1 := by omega
  have hfa : xx t c.path = false := by
    unfold vI at hz2
    rw [if_neg hk1, if_pos hk] at hz2
    cases h : xx t c.path with
    | true => simp [h] at hz2
    | false => rfl
  have hg0 : jI c = c.path := by simp [jI, hk]
  rw [hz1, hg0] at hfo
  rw [h0] at hform
  have hput : jY C.P 163 [qq t, .agg [.v (str c.path), .v (.bool false), .v (str c.text), .v (.int .i64 v)]] (qq (jl t c v)) := by
    have h := wC t ⟨c.path, false, c.text, v⟩ (by omega)
    rw [Jl hs] at h
    have hD : jl t c v = yJ t ⟨c.path, false, c.text, v⟩ := by simp [jl, hk]
    rw [hD]; exact h
  have hE : j9 t c v = if 60 < (jl t c v).length then 2 else 0 := by simp [j9, yC, hk]
  rw [hE]
  have hlen := Jd t c v
  generalize jl t c v = L at *
  rw [(xi hh).2] at hea
  by_cases hL : 60 < L.length
  · rw [if_pos hL]
    refine qa Tryz.func130 rfl _ Tryz.ntmps130 (Nat.le_of_ble_eq_true rfl) _ Tryz.results130 0 rfl rfl ?_
    repeat' (first | refine qe ?_ | (first | refine xsF Tryz.func160 (hform ..) ?_ | refine xsF Tryz.func139 (hpo1 ..) ?_ | refine xsF Tryz.func139 (hpo2 ..) ?_ | refine xsQ Tryz.func138 (hfo ..) ?_ | refine xsQ Tryz.func161 (hea ..) ?_ | refine xsQ Tryz.func161 (heb ..) ?_ | refine xsF Tryz.func162 (hinn ..) ?_) | ((first | refine qc ?_ ?_ | refine qb ?_ ?_ | refine xsC ?_ ?_); all_goals (intro hc; have hp := hc; try simp at hp; try (exfalso; omega))) | refine qw ?_ ?_)
    all_goals try (exfalso; omega)
    refine kf 4 0 ?_
    (refine Awp.red (qh (ts := [(0, qq t), (2, .v (.int .i64 v)), (4, .fp [c.row] 0 0), (11, .v (.int .i64 ((0 : Nat) : Int)))]) ?_) ?_; ((repeat (first | exact qd | refine qi ?_ | refine qR ?_ ?_))))
    refine qu (fun n σ => ∃ i : Nat, i ≤ t.length ∧ n = t.length - i ∧ (True) ∧ σ = ⟨[(0, qq t), (2, .v (.int .i64 v)), (4, .fp [c.row] 0 0), (11, .v (.int .i64 (i : Int)))], [], C.nh⟩) t.length ⟨0, Nat.zero_le _, rfl, trivial, rfl⟩ ?_
    rintro n σ ⟨i, hi, rfl, -, rfl⟩
    by_cases hlt : i < t.length
    · have hr := qF (f := Ent.row) hlt
      have hnw := hst t[i] (List.getElem_mem _)
      have hpl := jj (hgt t[i] (List.getElem_mem _))
      have hii := xE t[i].path c.path (by omega) (by omega)
      generalize inB t[i].path c.path = IB at *
      repeat' (first | refine qe ?_ | (first | refine xsF Tryz.func162 (hii ..) ?_) | ((first | refine qc ?_ ?_ | refine qb ?_ ?_ | refine xsC ?_ ?_); all_goals (intro hc; have hp := hc; try simp at hp; try (exfalso; omega))) | refine qw ?_ ?_)
      all_goals try (exfalso; omega)
      all_goals try (
        have h9 := hnw (by omega)
        rw [Bool.and_eq_false_iff] at h9
        rcases h9 with h9 | h9
        · exact absurd (h9.symm.trans (by assumption)) Bool.false_ne_true
        · exact absurd (h9.symm.trans (by assumption)) Bool.false_ne_true)
      all_goals first
        | (refine ⟨t.length - (i + 1), _, by omega, qh (ts := [(0, qq t), (2, .v (.int .i64 v)), (4, .fp [c.row] 0 0), (11, .v (.int .i64 ((i + 1 : Nat) : Int)))]) ?_, i + 1, by omega, rfl, trivial, rfl⟩; ((repeat (first | exact qd | refine qi ?_ | refine qR ?_ ?_))))
        | ((repeat' (first | refine qe ?_ | (first | refine xsQ Tryz.func163 (hput ..) ?_) | ((first | refine qc ?_ ?_ | refine qb ?_ ?_ | refine xsC ?_ ?_); all_goals (intro hc; have hp := hc; try simp at hp; try (exfalso; omega))) | refine qw ?_ ?_)); (all_goals try (exfalso; omega)); (all_goals ((exact yv (rs := [.tmp 6, .tmp 7])))))
    · obtain rfl : i = t.length := by omega
      (repeat' (first | refine qe ?_ | (first | refine xsQ Tryz.func163 (hput ..) ?_) | ((first | refine qc ?_ ?_ | refine qb ?_ ?_ | refine xsC ?_ ?_); all_goals (intro hc; have hp := hc; try simp at hp; try (exfalso; omega))) | refine qw ?_ ?_)); (all_goals try (exfalso; omega)); (all_goals ((exact yv (rs := [.tmp 6, .tmp 7]))))
  · rw [if_neg hL]
    refine qa Tryz.func130 rfl _ Tryz.ntmps130 (Nat.le_of_ble_eq_true rfl) _ Tryz.results130 0 rfl rfl ?_
    repeat' (first | refine qe ?_ | (first | refine xsF Tryz.func160 (hform ..) ?_ | refine xsF Tryz.func139 (hpo1 ..) ?_ | refine xsF Tryz.func139 (hpo2 ..) ?_ | refine xsQ Tryz.func138 (hfo ..) ?_ | refine xsQ Tryz.func161 (hea ..) ?_ | refine xsQ Tryz.func161 (heb ..) ?_ | refine xsF Tryz.func162 (hinn ..) ?_) | ((first | refine qc ?_ ?_ | refine qb ?_ ?_ | refine xsC ?_ ?_); all_goals (intro hc; have hp := hc; try simp at hp; try (exfalso; omega))) | refine qw ?_ ?_)
    all_goals try (exfalso; omega)
    refine kf 4 0 ?_
    (refine Awp.red (qh (ts := [(0, qq t), (2, .v (.int .i64 v)), (4, .fp [c.row] 0 0), (11, .v (.int .i64 ((0 : Nat) : Int)))]) ?_) ?_; ((repeat (first | exact qd | refine qi ?_ | refine qR ?_ ?_))))
    refine qu (fun n σ => ∃ i : Nat, i ≤ t.length ∧ n = t.length - i ∧ (True) ∧ σ = ⟨[(0, qq t), (2, .v (.int .i64 v)), (4, .fp [c.row] 0 0), (11, .v (.int .i64 (i : Int)))], [], C.nh⟩) t.length ⟨0, Nat.zero_le _, rfl, trivial, rfl⟩ ?_
    rintro n σ ⟨i, hi, rfl, -, rfl⟩
    by_cases hlt : i < t.length
    · have hr := qF (f := Ent.row) hlt
      have hnw := hst t[i] (List.getElem_mem _)
      have hpl := jj (hgt t[i] (List.getElem_mem _))
      have hii := xE t[i].path c.path (by omega) (by omega)
      generalize inB t[i].path c.path = IB at *
      repeat' (first | refine qe ?_ | (first | refine xsF Tryz.func162 (hii ..) ?_) | ((first | refine qc ?_ ?_ | refine qb ?_ ?_ | refine xsC ?_ ?_); all_goals (intro hc; have hp := hc; try simp at hp; try (exfalso; omega))) | refine qw ?_ ?_)
      all_goals try (exfalso; omega)
      all_goals try (
        have h9 := hnw (by omega)
        rw [Bool.and_eq_false_iff] at h9
        rcases h9 with h9 | h9
        · exact absurd (h9.symm.trans (by assumption)) Bool.false_ne_true
        · exact absurd (h9.symm.trans (by assumption)) Bool.false_ne_true)
      all_goals first
        | (refine ⟨t.length - (i + 1), _, by omega, qh (ts := [(0, qq t), (2, .v (.int .i64 v)), (4, .fp [c.row] 0 0), (11, .v (.int .i64 ((i + 1 : Nat) : Int)))]) ?_, i + 1, by omega, rfl, trivial, rfl⟩; ((repeat (first | exact qd | refine qi ?_ | refine qR ?_ ?_))))
        | ((repeat' (first | refine qe ?_ | (first | refine xsQ Tryz.func163 (hput ..) ?_) | ((first | refine qc ?_ ?_ | refine qb ?_ ?_ | refine xsC ?_ ?_); all_goals (intro hc; have hp := hc; try simp at hp; try (exfalso; omega))) | refine qw ?_ ?_)); (all_goals try (exfalso; omega)); (all_goals ((exact yv (rs := [.tmp 6, .tmp 7])))))
    · obtain rfl : i = t.length := by omega
      (repeat' (first | refine qe ?_ | (first | refine xsQ Tryz.func163 (hput ..) ?_) | ((first | refine qc ?_ ?_ | refine qb ?_ ?_ | refine xsC ?_ ?_); all_goals (intro hc; have hp := hc; try simp at hp; try (exfalso; omega))) | refine qw ?_ ?_)); (all_goals try (exfalso; omega)); (all_goals ((exact yv (rs := [.tmp 6, .tmp 7]))))
theorem qhm (t : List Ent) (c : Chg) (v : Int) (h60 : t.length ≤ 60) (hs : qr j5 t = true) (hgt : ∀ x, x ∈ t → qC x.path = 0) (hcs : c.small) (hk : c.kind = 2) (h0 : yo c = 0) (h1 : xL t c = 0) (h2 : j8 t c = 0) : jY C.P 130 [qq t, .agg c.row, .v (.int .i64 v)] (.tup [qq (if j9 t c v = 0 then jl t c v else []), .v (.int .i64 (j9 t c v))]) := by
  cases hh : yy t c.path with
  | true => exact qgU t c v h60 hs hgt hcs hk hh h0 h1 h2
  | false => exact qgL t c v h60 hs hgt hcs hk hh h0 h1 h2
end Go.Proofs.YtiljlcgmcmjcoaaGreatDoor
set_option linter.unusedSimpArgs false
set_option linter.unnecessarySimpa false
set_option linter.unusedVariables false
set_option maxHeartbeats 1000000
namespace Go.Proofs.YtiljlcgmcmjcoaaGreatDoor
open Go.Ab Go.RowKit
set_option maxRecDepth 10000
attribute [local irreducible] Awp jV q9 qJ Red qy Go.Ab.Fin ql Rz yQ qA qG ResOk jC q6 jH qT
theorem Kc {t : List Ent} {c : Chg} (hk : 3 ≤ c.kind) (h : vI t c = 0) : yy t c.path = true := by
  unfold vI at h
  rw [if_neg (by omega), if_neg (by omega)] at h
  cases hh : yy t c.path with
  | true => rfl
  | false => simp [hh] at h
theorem qhj (t : List Ent) (c : Chg) (v : Int) (h60 : t.length ≤ 60) (hs : qr j5 t = true) (hgt : ∀ x, x ∈ t → qC x.path = 0) (hcs : c.small) (h0 : yo c = 0) (h1 : xL t c = 0) (h2 : ¬ j8 t c = 0) : jY C.P 130 [qq t, .agg c.row, .v (.int .i64 v)] (.tup [qq [], .v (.int .i64 8)]) := by
  obtain ⟨l1, l2, l3⟩ := hcs
  have hform := xB c ⟨l1, l2, l3⟩
  have hpo1 := yu c.path (by omega)
  have hpo2 := yu c.to (by omega)
  have hfo := va t (qL (jI c)) (by omega)
  have hea := yS t c.path (by omega)
  have heb := yS t c.to (by omega)
  have hinn := xE c.to c.path (by omega) (by omega)
  have hkk := yw h0
  have hbase : -1 ≤ c.base := wX h0
  obtain ⟨hz1, hz2, hz3⟩ := wR h1
  have hst : ¬ c.base = -1 ∧ t.any (yZ c) = true := by
    unfold j8 at h2
    split at h2
    · assumption
    · exact absurd rfl h2
  obtain ⟨hst1, hst2⟩ := hst
  clear h2
  have hI : vI t c = if c.kind = 1 then (if yy t c.path = true then 6 else 0) else if c.kind = 2 then (if xx t c.path = true then 4 else 0) else (if yy t c.path = true then 0 else 5) := rfl
  have hM : z7 t c = if c.kind = 3 then (if inB c.to c.path = true then 3 else if yy t c.to = true then 6 else 0) else 0 := rfl
  rw [hz2] at hI
  rw [hz3] at hM
  replace hI := hI.symm
  replace hM := hM.symm
  rw [h0] at hform
  have hto : (yy t c.to = true ∧ 0 ≤ yj (atP c.to) t) ∨ (yy t c.to = false ∧ yj (atP c.to) t = -1) := by
    cases h : yy t c.to with
    | true => obtain ⟨hk, _, hfi, hix⟩ := zP hs h; exact .inl ⟨rfl, by rw [hix]; omega⟩
    | false => exact .inr ⟨rfl, (xi h).2⟩
  have hrow : yy t c.path = true → ∃ hk : y3 t c.path < t.length, xx t c.path = t[y3 t c.path].fold ∧ yj (atP c.path) t = y3 t c.path := fun h => by
    obtain ⟨hk, _, hfi, hix⟩ := zP hs h
    exact ⟨hk, by unfold xx; rw [hfi], hix⟩
  have hnorow : yy t c.path = false → xx t c.path = false ∧ yj (atP c.path) t = -1 := fun h => by
    unfold xx; rw [(xi h).1]; exact ⟨rfl, (xi h).2⟩
  obtain ⟨kk1, kk2, -⟩ := hkk
  have hg3 : c.kind = 3 → jI c = c.to := fun h => by simp [jI, h]
  have hg0 : ¬ c.kind = 3 → jI c = c.path := fun h => by simp [jI, h]
  rw [hz1] at hfo
  clear hz1 hz2 hz3
  generalize hIB : inB c.to c.path = IB at *
  generalize hHT : yy t c.to = HT at *
  generalize hIT : yj (atP c.to) t = IT at *
  clear hIB hHT hIT
  cases hh : yy t c.path with
  | true =>
    obtain ⟨hk, hfa, hix⟩ := hrow hh
    rw [hix] at hea
    rw [hh, hfa] at hI
    have hrk := qF (f := Ent.row) hk
    clear hrow hnorow hix hfa
    generalize y3 t c.path = k at *
    by_cases k3 : c.kind = 3
    · rw [hg3 k3] at hfo
      clear hg3 hg0
      refine qa Tryz.func130 rfl _ Tryz.ntmps130 (Nat.le_of_ble_eq_true rfl) _ Tryz.results130 0 rfl rfl ?_
      repeat' (first | refine qe ?_ | (first | refine xsF Tryz.func160 (hform ..) ?_ | refine xsF Tryz.func139 (hpo1 ..) ?_ | refine xsF Tryz.func139 (hpo2 ..) ?_ | refine xsQ Tryz.func138 (hfo ..) ?_ | refine xsQ Tryz.func161 (hea ..) ?_ | refine xsQ Tryz.func161 (heb ..) ?_ | refine xsF Tryz.func162 (hinn ..) ?_) | ((first | refine qc ?_ ?_ | refine qb ?_ ?_ | refine xsC ?_ ?_); all_goals (intro hc; have hp := hc; try simp at hp; try (exfalso; omega))) | refine qw ?_ ?_)
      all_goals try (exfalso; omega)
      all_goals try (exfalso; clear hst2 hea heb hfo hform hinn hpo1 hpo2; simp_all; done)
      all_goals (
        refine kf 4 0 ?_
        (refine Awp.red (qh (ts := [(0, qq t), (2, .v (.int .i64 v)), (4, .fp [c.row] 0 0), (11, .v (.int .i64 ((0 : Nat) : Int)))]) ?_) ?_; ((repeat (first | exact qd | refine qi ?_ | refine qR ?_ ?_))))
        refine qu (fun n σ => ∃ i : Nat, i ≤ t.length ∧ n = t.length - i ∧ (∀ x, x ∈ t.take i → yZ c x = false) ∧ σ = ⟨[(0, qq t), (2, .v (.int .i64 v)), (4, .fp [c.row] 0 0), (11, .v (.int .i64 (i : Int)))], [], C.nh⟩) t.length ⟨0, Nat.zero_le _, rfl, (by simp), rfl⟩ ?_
        rintro n σ ⟨i, hi, rfl, hsofar, rfl⟩
        by_cases hlt : i < t.length
        · have hr := qF (f := Ent.row) hlt
          have hnx := qK (p := fun x => yZ c x = false) hlt hsofar
          have hnw : yZ c t[i] = (decide (c.base < t[i].ver) && inB t[i].path c.path) := rfl
          have hpl := jj (hgt t[i] (List.getElem_mem _))
          have hii := xE t[i].path c.path (by omega) (by omega)
          generalize inB t[i].path c.path = IB at *
          generalize yZ c t[i] = NW at *
          clear hst2 hsofar
          repeat' (first | refine qe ?_ | (first | refine xsF Tryz.func162 (hii ..) ?_) | ((first | refine qc ?_ ?_ | refine qb ?_ ?_ | refine xsC ?_ ?_); all_goals (intro hc; have hp := hc; try simp at hp; try (exfalso; omega))) | refine qw ?_ ?_)
          all_goals try (exfalso; omega)
          all_goals first
            | ((exact yv (rs := [.tmp 6, .tmp 7])))
            | (refine ⟨t.length - (i + 1), _, by omega, qh (ts := [(0, qq t), (2, .v (.int .i64 v)), (4, .fp [c.row] 0 0), (11, .v (.int .i64 ((i + 1 : Nat) : Int)))]) ?_, i + 1, by omega, rfl, (hnx (by rw [hnw]; simp_all)), rfl⟩; ((repeat (first | exact qd | refine qi ?_ | refine qR ?_ ?_))))
        · exfalso
          obtain rfl : i = t.length := by omega
          rw [List.take_length] at hsofar
          obtain ⟨x, hx, hxn⟩ := List.any_eq_true.1 hst2
          rw [hsofar x hx] at hxn; cases hxn)
    · rw [hg0 k3] at hfo
      clear hg3 hg0
      refine qa Tryz.func130 rfl _ Tryz.ntmps130 (Nat.le_of_ble_eq_true rfl) _ Tryz.results130 0 rfl rfl ?_
      repeat' (first | refine qe ?_ | (first | refine xsF Tryz.func160 (hform ..) ?_ | refine xsF Tryz.func139 (hpo1 ..) ?_ | refine xsF Tryz.func139 (hpo2 ..) ?_ | refine xsQ Tryz.func138 (hfo ..) ?_ | refine xsQ Tryz.func161 (hea ..) ?_ | refine xsQ Tryz.func161 (heb ..) ?_ | refine xsF Tryz.func162 (hinn ..) ?_) | ((first | refine qc ?_ ?_ | refine qb ?_ ?_ | refine xsC ?_ ?_); all_goals (intro hc; have hp := hc; try simp at hp; try (exfalso; omega))) | refine qw ?_ ?_)
      all_goals try (exfalso; omega)
      all_goals try (exfalso; clear hst2 hea heb hfo hform hinn hpo1 hpo2; simp_all; done)
      all_goals (
        refine kf 4 0 ?_
        (refine Awp.red (qh (ts := [(0, qq t), (2, .v (.int .i64 v)), (4, .fp [c.row] 0 0), (11, .v (.int .i64 ((0 : Nat) : Int)))]) ?_) ?_; ((repeat (first | exact qd | refine qi ?_ | refine qR ?_ ?_))))
        refine qu (fun n σ => ∃ i : Nat, i ≤ t.length ∧ n = t.length - i ∧ (∀ x, x ∈ t.take i → yZ c x = false) ∧ σ = ⟨[(0, qq t), (2, .v (.int .i64 v)), (4, .fp [c.row] 0 0), (11, .v (.int .i64 (i : Int)))], [], C.nh⟩) t.length ⟨0, Nat.zero_le _, rfl, (by simp), rfl⟩ ?_
        rintro n σ ⟨i, hi, rfl, hsofar, rfl⟩
        by_cases hlt : i < t.length
        · have hr := qF (f := Ent.row) hlt
          have hnx := qK (p := fun x => yZ c x = false) hlt hsofar
          have hnw : yZ c t[i] = (decide (c.base < t[i].ver) && inB t[i].path c.path) := rfl
          have hpl := jj (hgt t[i] (List.getElem_mem _))
          have hii := xE t[i].path c.path (by omega) (by omega)
          generalize inB t[i].path c.path = IB at *
          generalize yZ c t[i] = NW at *
          clear hst2 hsofar
          repeat' (first | refine qe ?_ | (first | refine xsF Tryz.func162 (hii ..) ?_) | ((first | refine qc ?_ ?_ | refine qb ?_ ?_ | refine xsC ?_ ?_); all_goals (intro hc; have hp := hc; try simp at hp; try (exfalso; omega))) | refine qw ?_ ?_)
          all_goals try (exfalso; omega)
          all_goals first
            | ((exact yv (rs := [.tmp 6, .tmp 7])))
            | (refine ⟨t.length - (i + 1), _, by omega, qh (ts := [(0, qq t), (2, .v (.int .i64 v)), (4, .fp [c.row] 0 0), (11, .v (.int .i64 ((i + 1 : Nat) : Int)))]) ?_, i + 1, by omega, rfl, (hnx (by rw [hnw]; simp_all)), rfl⟩; ((repeat (first | exact qd | refine qi ?_ | refine qR ?_ ?_))))
        · exfalso
          obtain rfl : i = t.length := by omega
          rw [List.take_length] at hsofar
          obtain ⟨x, hx, hxn⟩ := List.any_eq_true.1 hst2
          rw [hsofar x hx] at hxn; cases hxn)
  | false =>
    obtain ⟨hfa, hix⟩ := hnorow hh
    rw [hix] at hea
    rw [hh, hfa] at hI
    clear hrow hnorow hix hfa
    by_cases k3 : c.kind = 3
    · exfalso; clear hst2 hea heb hfo hform hinn hpo1 hpo2; simp_all; done
    · rw [hg0 k3] at hfo
      clear hg3 hg0
      refine qa Tryz.func130 rfl _ Tryz.ntmps130 (Nat.le_of_ble_eq_true rfl) _ Tryz.results130 0 rfl rfl ?_
      repeat' (first | refine qe ?_ | (first | refine xsF Tryz.func160 (hform ..) ?_ | refine xsF Tryz.func139 (hpo1 ..) ?_ | refine xsF Tryz.func139 (hpo2 ..) ?_ | refine xsQ Tryz.func138 (hfo ..) ?_ | refine xsQ Tryz.func161 (hea ..) ?_ | refine xsQ Tryz.func161 (heb ..) ?_ | refine xsF Tryz.func162 (hinn ..) ?_) | ((first | refine qc ?_ ?_ | refine qb ?_ ?_ | refine xsC ?_ ?_); all_goals (intro hc; have hp := hc; try simp at hp; try (exfalso; omega))) | refine qw ?_ ?_)
      all_goals try (exfalso; omega)
      all_goals try (exfalso; clear hst2 hea heb hfo hform hinn hpo1 hpo2; simp_all; done)
      all_goals (
        refine kf 4 0 ?_
        (refine Awp.red (qh (ts := [(0, qq t), (2, .v (.int .i64 v)), (4, .fp [c.row] 0 0), (11, .v (.int .i64 ((0 : Nat) : Int)))]) ?_) ?_; ((repeat (first | exact qd | refine qi ?_ | refine qR ?_ ?_))))
        refine qu (fun n σ => ∃ i : Nat, i ≤ t.length ∧ n = t.length - i ∧ (∀ x, x ∈ t.take i → yZ c x = false) ∧ σ = ⟨[(0, qq t), (2, .v (.int .i64 v)), (4, .fp [c.row] 0 0), (11, .v (.int .i64 (i : Int)))], [], C.nh⟩) t.length ⟨0, Nat.zero_le _, rfl, (by simp), rfl⟩ ?_
        rintro n σ ⟨i, hi, rfl, hsofar, rfl⟩
        by_cases hlt : i < t.length
        · have hr := qF (f := Ent.row) hlt
          have hnx := qK (p := fun x => yZ c x = false) hlt hsofar
          have hnw : yZ c t[i] = (decide (c.base < t[i].ver) && inB t[i].path c.path) := rfl
          have hpl := jj (hgt t[i] (List.getElem_mem _))
          have hii := xE t[i].path c.path (by omega) (by omega)
          generalize inB t[i].path c.path = IB at *
          generalize yZ c t[i] = NW at *
          clear hst2 hsofar
          repeat' (first | refine qe ?_ | (first | refine xsF Tryz.func162 (hii ..) ?_) | ((first | refine qc ?_ ?_ | refine qb ?_ ?_ | refine xsC ?_ ?_); all_goals (intro hc; have hp := hc; try simp at hp; try (exfalso; omega))) | refine qw ?_ ?_)
          all_goals try (exfalso; omega)
          all_goals first
            | ((exact yv (rs := [.tmp 6, .tmp 7])))
            | (refine ⟨t.length - (i + 1), _, by omega, qh (ts := [(0, qq t), (2, .v (.int .i64 v)), (4, .fp [c.row] 0 0), (11, .v (.int .i64 ((i + 1 : Nat) : Int)))]) ?_, i + 1, by omega, rfl, (hnx (by rw [hnw]; simp_all)), rfl⟩; ((repeat (first | exact qd | refine qi ?_ | refine qR ?_ ?_))))
        · exfalso
          obtain rfl : i = t.length := by omega
          rw [List.take_length] at hsofar
          obtain ⟨x, hx, hxn⟩ := List.any_eq_true.1 hst2
          rw [hsofar x hx] at hxn; cases hxn)
end Go.Proofs.YtiljlcgmcmjcoaaGreatDoor
set_option linter.unusedSimpArgs false
set_option linter.unnecessarySimpa false
set_option linter.unusedVariables false
set_option maxHeartbeats 1000000
namespace Go.Proofs.YtiljlcgmcmjcoaaGreatDoor
open Go.Ab Go.RowKit
set_option maxRecDepth 10000
attribute [local irreducible] Awp jV q9 qJ Red qy Go.Ab.Fin ql Rz yQ qA qG ResOk jC q6 jH qT
theorem qg6 (t : List Ent) (c : Chg) (v : Int) (h60 : t.length ≤ 60) (hs : qr j5 t = true) (hgt : ∀ x, x ∈ t → qC x.path = 0) (hcs : c.small) (hk : c.kind = 4) (h0 : yo c = 0) (h1 : xL t c = 0) (h2 : j8 t c = 0) : jY C.P 130 [qq t, .agg c.row, .v (.int .i64 v)] (.tup [qq (if j9 t c v = 0 then jl t c v else []), .v (.int .i64 (j9 t c v))]) := by
  obtain ⟨l1, l2, l3⟩ := hcs
  have hform := xB c ⟨l1, l2, l3⟩
  have hpo1 := yu c.path (by omega)
  have hpo2 := yu c.to (by omega)
  have hfo := va t (qL (jI c)) (by omega)
  have hea := yS t c.path (by omega)
  have heb := yS t c.to (by omega)
  have hinn := xE c.to c.path (by omega) (by omega)
  have hkk := yw h0
  have hbase : -1 ≤ c.base := wX h0
  obtain ⟨hz1, hz2, hz3⟩ := wR h1
  have hst : ∀ x, x ∈ t → ¬ c.base = -1 → (decide (c.base < x.ver) && inB x.path c.path) = false := fun x hx hb => by
    unfold j8 at h2
    by_cases h3 : t.any (yZ c) = true
    · rw [if_pos ⟨hb, h3⟩] at h2; exact absurd h2 (by decide)
    · have h4 : t.any (yZ c) = false := by simpa using h3
      rw [List.any_eq_false] at h4
      have h5 := h4 x hx
      simpa [yZ] using h5
  clear h2
  have hh := Kc (by omega) hz2
  obtain ⟨hkk2, _, hfi, hix⟩ := zP hs hh
  have hg0 : jI c = c.path := by simp [jI, hk]
  rw [hz1, hg0] at hfo
  rw [h0] at hform
  rw [hix] at hea
  generalize y3 t c.path = k at *
  have hD : jl t c v = jR (zg c.path) t := by simp [jl, hk]
  have hE : j9 t c v = if 60 < (jl t c v).length then 2 else 0 := by simp [j9, yC, hk]
  rw [hE, hD]
  clear hE hD hz1 hz2 hz3 h1 h0
  have hlen : (jR (zg c.path) t).length ≤ t.length := List.length_filter_le ..
  have hL : ¬ 60 < (jR (zg c.path) t).length := by omega
  rw [if_neg hL]
  refine qa Tryz.func130 rfl _ Tryz.ntmps130 (Nat.le_of_ble_eq_true rfl) _ Tryz.results130 0 rfl rfl ?_
  repeat' (first | refine qe ?_ | (first | refine xsF Tryz.func160 (hform ..) ?_ | refine xsF Tryz.func139 (hpo1 ..) ?_ | refine xsF Tryz.func139 (hpo2 ..) ?_ | refine xsQ Tryz.func138 (hfo ..) ?_ | refine xsQ Tryz.func161 (hea ..) ?_ | refine xsQ Tryz.func161 (heb ..) ?_ | refine xsF Tryz.func162 (hinn ..) ?_) | ((first | refine qc ?_ ?_ | refine qb ?_ ?_ | refine xsC ?_ ?_); all_goals (intro hc; have hp := hc; try simp at hp; try (exfalso; omega))) | refine qw ?_ ?_)
  all_goals try (exfalso; omega)
  apply qad
  case h =>
    intro key
    refine kf 4 0 ?_
    (refine Awp.red (qh (ts := [(0, qq t), (2, .v (.int .i64 v)), (4, .fp [c.row] 0 0), (11, .v (.int .i64 ((0 : Nat) : Int)))]) ?_) ?_; ((repeat (first | exact qd | refine qi ?_ | refine qR ?_ ?_))))
    refine qu (fun n σ => ∃ i : Nat, i ≤ t.length ∧ n = t.length - i ∧ (True) ∧ σ = ⟨[(0, qq t), (2, .v (.int .i64 v)), (4, .fp [c.row] 0 0), (11, .v (.int .i64 (i : Int)))], [], C.nh⟩) t.length ⟨0, Nat.zero_le _, rfl, trivial, rfl⟩ ?_
    rintro n σ ⟨i, hi, rfl, -, rfl⟩
    by_cases hlt : i < t.length
    · have hr := qF (f := Ent.row) hlt
      have hnw := hst t[i] (List.getElem_mem _)
      have hpl := jj (hgt t[i] (List.getElem_mem _))
      have hii := xE t[i].path c.path (by omega) (by omega)
      generalize inB t[i].path c.path = IB at *
      repeat' (first | refine qe ?_ | (first | refine xsF Tryz.func162 (hii ..) ?_) | ((first | refine qc ?_ ?_ | refine qb ?_ ?_ | refine xsC ?_ ?_); all_goals (intro hc; have hp := hc; try simp at hp; try (exfalso; omega))) | refine qw ?_ ?_)
      all_goals try (exfalso; omega)
      all_goals try (
        have h9 := hnw (by omega)
        rw [Bool.and_eq_false_iff] at h9
        rcases h9 with h9 | h9
        · exact absurd (h9.symm.trans (by assumption)) Bool.false_ne_true
        · exact absurd (h9.symm.trans (by assumption)) Bool.false_ne_true)
      all_goals first
        | (refine ⟨t.length - (i + 1), _, by omega, qh (ts := [(0, qq t), (2, .v (.int .i64 v)), (4, .fp [c.row] 0 0), (11, .v (.int .i64 ((i + 1 : Nat) : Int)))]) ?_, i + 1, by omega, rfl, trivial, rfl⟩; ((repeat (first | exact qd | refine qi ?_ | refine qR ?_ ?_))))
        | ((repeat' (first | refine qe ?_ | (first | fail) | ((first | refine qc ?_ ?_ | refine qb ?_ ?_ | refine xsC ?_ ?_); all_goals (intro hc; have hp := hc; try simp at hp; try (exfalso; omega))) | refine qw ?_ ?_))
           (all_goals try (exfalso; omega))
           (refine Awp.red (qh (ts := [(0, qq t), (2, .v (.int .i64 v)), (4, .fp [c.row] 0 0), (12, .sl true []), (13, .v (.int .i64 ((0 : Nat) : Int)))]) ?_) ?_; ((repeat (first | exact qd | refine qi ?_ | refine qR ?_ ?_))))
           exact key.out)
    · obtain rfl : i = t.length := by omega
      (repeat' (first | refine qe ?_ | (first | fail) | ((first | refine qc ?_ ?_ | refine qb ?_ ?_ | refine xsC ?_ ?_); all_goals (intro hc; have hp := hc; try simp at hp; try (exfalso; omega))) | refine qw ?_ ?_))
      (all_goals try (exfalso; omega))
      (refine Awp.red (qh (ts := [(0, qq t), (2, .v (.int .i64 v)), (4, .fp [c.row] 0 0), (12, .sl true []), (13, .v (.int .i64 ((0 : Nat) : Int)))]) ?_) ?_; ((repeat (first | exact qd | refine qi ?_ | refine qR ?_ ?_))))
      exact key.out
  refine Awp.red (vw 12 4 rfl (Nat.le_refl _)) ?_
  (refine Awp.red (jq (τ := ⟨[(0, qq t), (2, .v (.int .i64 v)), (4, .fp [c.row] 0 0), (12, .os 0 0 0), (13, .v (.int .i64 ((0 : Nat) : Int)))], [(0, .own false 4 [])], 1⟩) [(0, 0)] rfl ?gts ?ghs) ?gmain; (case gts => (repeat (first | exact qd | refine qi ?_ | refine xM ?_ | refine vc ?_ | refine qR ?_ ?_))); (case ghs => (repeat (first | exact qg | refine jQ ?_ | refine qM ?_ ?_))))
  refine qu (fun n σ => ∃ i : Nat, i ≤ t.length ∧ n = t.length - i ∧ (True) ∧ σ = ⟨[(0, qq t), (2, .v (.int .i64 v)), (4, .fp [c.row] 0 0), (12, .os 0 0 (jR (zg c.path) (t.take i)).length), (13, .v (.int .i64 (i : Int)))], [(0, .own false 4 ((jR (zg c.path) (t.take i)).map Ent.row))], 1⟩) t.length ⟨0, Nat.zero_le _, rfl, trivial, rfl⟩ ?_
  rintro n σ ⟨i, hi, rfl, -, rfl⟩
  by_cases hlt : i < t.length
  · have hr := qF (f := Ent.row) hlt
    have hpl := jj (hgt t[i] (List.getElem_mem _))
    have hii := xE t[i].path c.path (by omega) (by omega)
    have hks := @Qg (zg c.path) t i hlt
    have hkl := YP (zg c.path) t i (by omega)
    have hin : zg c.path t[i] = inB t[i].path c.path := rfl
    rw [hin] at hks
    generalize inB t[i].path c.path = IB at *
    clear hin hst
    generalize hGG : jR (zg c.path) (t.take i) = G at hks hkl ⊢
    clear hGG
    cases IB with
    | true =>
      rw [if_pos rfl] at hks
      repeat' (first | refine qe ?_ | (first | (refine jZ ?_) | (refine xw ?_) | refine xsF Tryz.func162 (hii ..) ?_) | ((first | refine qc ?_ ?_ | refine qb ?_ ?_ | refine xsC ?_ ?_); all_goals (intro hc; have hp := hc; try simp at hp; try (exfalso; omega))) | refine qw ?_ ?_)
      all_goals try (exfalso; omega)
      refine ⟨t.length - (i + 1), _, by omega, jq (τ := ⟨[(0, qq t), (2, .v (.int .i64 v)), (4, .fp [c.row] 0 0), (12, .os 0 0 (jR (zg c.path) (t.take (i + 1))).length), (13, .v (.int .i64 ((i + 1 : Nat) : Int)))], [(0, .own false 4 ((jR (zg c.path) (t.take (i + 1))).map Ent.row))], 1⟩) [(0, 0)] rfl ?gts ?ghs, i + 1, by omega, rfl, trivial, rfl⟩; (case gts => (repeat (first | exact qd | refine qi ?_ | refine xM ?_ | refine vc ?_ | refine qR ?_ ?_)); all_goals (rw [hks])); (case ghs => (repeat (first | exact qg | refine jQ ?_ | refine qM ?_ ?_)); all_goals (rw [hks]))
    | false =>
      rw [if_neg (by decide)] at hks
      repeat' (first | refine qe ?_ | (first | (refine jZ ?_) | (refine xw ?_) | refine xsF Tryz.func162 (hii ..) ?_) | ((first | refine qc ?_ ?_ | refine qb ?_ ?_ | refine xsC ?_ ?_); all_goals (intro hc; have hp := hc; try simp at hp; try (exfalso; omega))) | refine qw ?_ ?_)
      all_goals try (exfalso; omega)
      refine ⟨t.length - (i + 1), _, by omega, jq (τ := ⟨[(0, qq t), (2, .v (.int .i64 v)), (4, .fp [c.row] 0 0), (12, .os 0 0 (jR (zg c.path) (t.take (i + 1))).length), (13, .v (.int .i64 ((i + 1 : Nat) : Int)))], [(0, .own false 4 ((jR (zg c.path) (t.take (i + 1))).map Ent.row))], 1⟩) [(1, 0)] rfl ?gts ?ghs, i + 1, by omega, rfl, trivial, rfl⟩; (case gts => (repeat (first | exact qd | refine qi ?_ | refine xM ?_ | refine vc ?_ | refine qR ?_ ?_)); all_goals (rw [hks]; try first | (simp; done) | (rw [List.take_of_length_le (by simp)]; simp; done))); (case ghs => (repeat (first | exact qg | refine jQ ?_ | refine qM ?_ ?_)); all_goals (rw [hks]; try first | (simp; done) | (rw [List.take_of_length_le (by simp)]; simp; done)))
  · obtain rfl : i = t.length := by omega
    rw [List.take_length]
    (repeat' (first | refine qe ?_ | (first | fail) | ((first | refine qc ?_ ?_ | refine qb ?_ ?_ | refine xsC ?_ ?_); all_goals (intro hc; have hp := hc; try simp at hp; try (exfalso; omega))) | refine qw ?_ ?_))
    (all_goals try (exfalso; omega))
    refine Awp.red (kP 0 rfl (by intro row hrow; obtain ⟨x, _, rfl⟩ := List.mem_map.1 hrow; rfl)) ?_
    refine Awp.red (K5 12 0 rfl rfl (by simp)) ?_
    (refine Awp.red (qh (ts := [(0, qq t), (2, .v (.int .i64 v)), (4, .fp [c.row] 0 0), (12, qq (jR (zg c.path) t)), (14, .v (.int .i64 ((0 : Nat) : Int)))]) ?_) ?_; ((repeat (first | exact qd | refine qi ?_ | refine qR ?_ ?_))))
    all_goals try (rw [List.drop_zero, List.take_of_length_le (by simp)]; rfl)
    refine qu (fun n σ => ∃ i : Nat, i ≤ t.length ∧ n = t.length - i ∧ (True) ∧ σ = ⟨[(0, qq t), (2, .v (.int .i64 v)), (4, .fp [c.row] 0 0), (12, qq (jR (zg c.path) t)), (14, .v (.int .i64 (i : Int)))], [], C.nh⟩) t.length ⟨0, Nat.zero_le _, rfl, trivial, rfl⟩ ?_
    rintro n σ ⟨i, hi, rfl, -, rfl⟩
    have hml : (List.map Ent.row (jR (zg c.path) t)).length = (jR (zg c.path) t).length := List.length_map ..
    (repeat' (first | refine qe ?_ | (first | fail) | ((first | refine qc ?_ ?_ | refine qb ?_ ?_ | refine xsC ?_ ?_); all_goals (intro hc; have hp := hc; try simp at hp; try (exfalso; omega))) | refine qw ?_ ?_))
    (all_goals try (exfalso; omega))
    (all_goals ((exact yv (rs := [.tmp 6, .tmp 7]))))
end Go.Proofs.YtiljlcgmcmjcoaaGreatDoor
