import Derived.Test.YtiljlcgmcmjcoaaGreatDoorMz12
set_option linter.unusedSimpArgs false
set_option linter.unnecessarySimpa false
set_option linter.unusedVariables false
set_option maxHeartbeats 1000000
namespace Go.Proofs.YtiljlcgmcmjcoaaGreatDoor
open Go.Ab Go.RowKit
set_option maxRecDepth 10000
attribute [local irreducible] Awp jZ jg qJ Red qz Go.Ab.Fin qm Rz y0 qB qG ResOk jG q9 jK qV
def xY (t : List Ent) (c : Chg) : Int :=
  if ¬ yl t (qN (jL c)) = 0 then yl t (qN (jL c))
  else if ¬ vY t c = 0 then vY t c else kf t c
theorem qgO (t : List Ent) (c : Chg) : zi t c = if xY t c = 0 then yc t c else xY t c := by
  unfold zi xY
  split <;> (try split) <;> (try split) <;> simp_all
theorem qh4 (t : List Ent) (c : Chg) (v : Int) (h60 : t.length ≤ 60) (hcs : c.small) (h0 : ¬ yt c = 0) : jT C.P 130 [qp t, .agg c.row, .v (.int .i64 v)] (.tup [qp [], .v (.int .i64 (yt c))]) := by
  have hform := xQ c hcs
  generalize yt c = E at *
  refine qa Tryz.func130 rfl _ Tryz.ntmps130 (Nat.le_of_ble_eq_true rfl) _ Tryz.results130 0 rfl rfl ?_
  repeat' (first | refine qe ?_ | (first | refine xsF Tryz.func160 (hform ..) ?_) | ((first | refine qb ?_ ?_ | refine qc ?_ ?_ | refine xsC ?_ ?_); all_goals (intro hc; have hp := hc; try simp at hp; try (exfalso; omega))) | refine qv ?_ ?_)
  all_goals try (exfalso; omega)
  (exact yy (rs := [.tmp 6, .tmp 7]))
theorem qhO (t : List Ent) (c : Chg) (v : Int) (h60 : t.length ≤ 60) (hs : qt ya t = true) (hcs : c.small) (h0 : yt c = 0) (h1 : ¬ xY t c = 0) : jT C.P 130 [qp t, .agg c.row, .v (.int .i64 v)] (.tup [qp [], .v (.int .i64 (xY t c))]) := by
  obtain ⟨l1, l2, l3⟩ := hcs
  have hform := xQ c ⟨l1, l2, l3⟩
  have hpo1 := yx c.path (by omega)
  have hpo2 := yx c.to (by omega)
  have hfo := vh t (qN (jL c)) (by omega)
  have hea := y4 t c.path (by omega)
  have heb := y4 t c.to (by omega)
  have hinn := xS c.to c.path (by omega) (by omega)
  have hkk := yA h0
  rw [h0] at hform
  have hE : xY t c = if ¬ yl t (qN (jL c)) = 0 then yl t (qN (jL c)) else if ¬ vY t c = 0 then vY t c else kf t c := rfl
  have hI : vY t c = if c.kind = 1 then (if yB t c.path = true then 6 else 0) else if c.kind = 2 then (if xI t c.path = true then 4 else 0) else (if yB t c.path = true then 0 else 5) := rfl
  have hM : kf t c = if c.kind = 3 then (if inB c.to c.path = true then 3 else if yB t c.to = true then 6 else 0) else 0 := rfl
  have hg3 : c.kind = 3 → jL c = c.to := fun h => by simp [jL, h]
  have hg0 : ¬ c.kind = 3 → jL c = c.path := fun h => by simp [jL, h]
  have hrow : yB t c.path = true → ∃ hk : xe t c.path < t.length, xI t c.path = t[xe t c.path].fold ∧ yg (atP c.path) t = xe t c.path := fun h => by
    obtain ⟨hk, _, hfi, hix⟩ := ka hs h
    exact ⟨hk, by unfold xI; rw [hfi], hix⟩
  have hnorow : yB t c.path = false → xI t c.path = false ∧ yg (atP c.path) t = -1 := fun h => by
    unfold xI; rw [(xx h).1]; exact ⟨rfl, (xx h).2⟩
  have hto : (yB t c.to = true ∧ 0 ≤ yg (atP c.to) t) ∨ (yB t c.to = false ∧ yg (atP c.to) t = -1) := by
    cases h : yB t c.to with
    | true => obtain ⟨hk, _, hfi, hix⟩ := ka hs h; exact .inl ⟨rfl, by rw [hix]; omega⟩
    | false => exact .inr ⟨rfl, (xx h).2⟩
  obtain ⟨kk1, kk2, -⟩ := hkk
  generalize xY t c = E at *
  generalize vY t c = I at *
  generalize kf t c = Mv at *
  generalize inB c.to c.path = IB at *
  generalize yB t c.to = HT at *
  generalize yg (atP c.to) t = IT at *
  generalize yl t (qN (jL c)) = FE at *
  by_cases hFE : FE = 0
  · rw [hFE] at hfo
    rw [if_neg (by simp [hFE])] at hE
    clear hFE
    cases hh : yB t c.path with
    | true =>
      obtain ⟨hk, hfa, hix⟩ := hrow hh
      rw [hix] at hea
      rw [hh, hfa] at hI
      have hr := qx (f := Ent.row) hk
      clear hrow hnorow hix
      generalize xe t c.path = k at *
      by_cases k3 : c.kind = 3
      · rw [hg3 k3] at hfo
        clear hg3 hg0
        refine qa Tryz.func130 rfl _ Tryz.ntmps130 (Nat.le_of_ble_eq_true rfl) _ Tryz.results130 0 rfl rfl ?_
        repeat' (first | refine qe ?_ | (first | refine xsF Tryz.func160 (hform ..) ?_ | refine xsF Tryz.func139 (hpo1 ..) ?_ | refine xsF Tryz.func139 (hpo2 ..) ?_ | refine xsQ Tryz.func138 (hfo ..) ?_ | refine xsQ Tryz.func161 (hea ..) ?_ | refine xsQ Tryz.func161 (heb ..) ?_ | refine xsF Tryz.func162 (hinn ..) ?_) | ((first | refine qb ?_ ?_ | refine qc ?_ ?_ | refine xsC ?_ ?_); all_goals (intro hc; have hp := hc; try simp at hp; try (exfalso; omega))) | refine qv ?_ ?_)
        all_goals try (exfalso; omega)
        all_goals first
          | ((refine yP (rs := [.tmp 6, .tmp 7]) ?_; (repeat' (first | exact qT | apply ql | exact qM rfl | exact yC | exact zB | apply j8 | apply yI | apply j3 | apply yJ | apply yj | apply yK | refine zA ?_ | apply xG)); all_goals (clear hea heb hfo hform hinn hpo1 hpo2; simp_all)))
          | (exfalso; clear hea heb hfo hform hinn hpo1 hpo2; simp_all; done)
      · rw [hg0 k3] at hfo
        clear hg3 hg0
        refine qa Tryz.func130 rfl _ Tryz.ntmps130 (Nat.le_of_ble_eq_true rfl) _ Tryz.results130 0 rfl rfl ?_
        repeat' (first | refine qe ?_ | (first | refine xsF Tryz.func160 (hform ..) ?_ | refine xsF Tryz.func139 (hpo1 ..) ?_ | refine xsF Tryz.func139 (hpo2 ..) ?_ | refine xsQ Tryz.func138 (hfo ..) ?_ | refine xsQ Tryz.func161 (hea ..) ?_ | refine xsQ Tryz.func161 (heb ..) ?_ | refine xsF Tryz.func162 (hinn ..) ?_) | ((first | refine qb ?_ ?_ | refine qc ?_ ?_ | refine xsC ?_ ?_); all_goals (intro hc; have hp := hc; try simp at hp; try (exfalso; omega))) | refine qv ?_ ?_)
        all_goals try (exfalso; omega)
        all_goals first
          | ((refine yP (rs := [.tmp 6, .tmp 7]) ?_; (repeat' (first | exact qT | apply ql | exact qM rfl | exact yC | exact zB | apply j8 | apply yI | apply j3 | apply yJ | apply yj | apply yK | refine zA ?_ | apply xG)); all_goals (clear hea heb hfo hform hinn hpo1 hpo2; simp_all)))
          | (exfalso; clear hea heb hfo hform hinn hpo1 hpo2; simp_all; done)
    | false =>
      obtain ⟨hfa, hix⟩ := hnorow hh
      rw [hix] at hea
      rw [hh, hfa] at hI
      clear hrow hnorow hix
      by_cases k3 : c.kind = 3
      · rw [hg3 k3] at hfo
        clear hg3 hg0
        refine qa Tryz.func130 rfl _ Tryz.ntmps130 (Nat.le_of_ble_eq_true rfl) _ Tryz.results130 0 rfl rfl ?_
        repeat' (first | refine qe ?_ | (first | refine xsF Tryz.func160 (hform ..) ?_ | refine xsF Tryz.func139 (hpo1 ..) ?_ | refine xsF Tryz.func139 (hpo2 ..) ?_ | refine xsQ Tryz.func138 (hfo ..) ?_ | refine xsQ Tryz.func161 (hea ..) ?_ | refine xsQ Tryz.func161 (heb ..) ?_ | refine xsF Tryz.func162 (hinn ..) ?_) | ((first | refine qb ?_ ?_ | refine qc ?_ ?_ | refine xsC ?_ ?_); all_goals (intro hc; have hp := hc; try simp at hp; try (exfalso; omega))) | refine qv ?_ ?_)
        all_goals try (exfalso; omega)
        all_goals first
          | ((refine yP (rs := [.tmp 6, .tmp 7]) ?_; (repeat' (first | exact qT | apply ql | exact qM rfl | exact yC | exact zB | apply j8 | apply yI | apply j3 | apply yJ | apply yj | apply yK | refine zA ?_ | apply xG)); all_goals (clear hea heb hfo hform hinn hpo1 hpo2; simp_all)))
          | (exfalso; clear hea heb hfo hform hinn hpo1 hpo2; simp_all; done)
      · rw [hg0 k3] at hfo
        clear hg3 hg0
        refine qa Tryz.func130 rfl _ Tryz.ntmps130 (Nat.le_of_ble_eq_true rfl) _ Tryz.results130 0 rfl rfl ?_
        repeat' (first | refine qe ?_ | (first | refine xsF Tryz.func160 (hform ..) ?_ | refine xsF Tryz.func139 (hpo1 ..) ?_ | refine xsF Tryz.func139 (hpo2 ..) ?_ | refine xsQ Tryz.func138 (hfo ..) ?_ | refine xsQ Tryz.func161 (hea ..) ?_ | refine xsQ Tryz.func161 (heb ..) ?_ | refine xsF Tryz.func162 (hinn ..) ?_) | ((first | refine qb ?_ ?_ | refine qc ?_ ?_ | refine xsC ?_ ?_); all_goals (intro hc; have hp := hc; try simp at hp; try (exfalso; omega))) | refine qv ?_ ?_)
        all_goals try (exfalso; omega)
        all_goals first
          | ((refine yP (rs := [.tmp 6, .tmp 7]) ?_; (repeat' (first | exact qT | apply ql | exact qM rfl | exact yC | exact zB | apply j8 | apply yI | apply j3 | apply yJ | apply yj | apply yK | refine zA ?_ | apply xG)); all_goals (clear hea heb hfo hform hinn hpo1 hpo2; simp_all)))
          | (exfalso; clear hea heb hfo hform hinn hpo1 hpo2; simp_all; done)
  · rw [if_pos hFE] at hE
    subst hE
    clear hI hM hrow hnorow hto
    by_cases k3 : c.kind = 3
    · rw [hg3 k3] at hfo
      clear hg3 hg0
      refine qa Tryz.func130 rfl _ Tryz.ntmps130 (Nat.le_of_ble_eq_true rfl) _ Tryz.results130 0 rfl rfl ?_
      repeat' (first | refine qe ?_ | (first | refine xsF Tryz.func160 (hform ..) ?_ | refine xsF Tryz.func139 (hpo1 ..) ?_ | refine xsF Tryz.func139 (hpo2 ..) ?_ | refine xsQ Tryz.func138 (hfo ..) ?_ | refine xsQ Tryz.func161 (hea ..) ?_ | refine xsQ Tryz.func161 (heb ..) ?_ | refine xsF Tryz.func162 (hinn ..) ?_) | ((first | refine qb ?_ ?_ | refine qc ?_ ?_ | refine xsC ?_ ?_); all_goals (intro hc; have hp := hc; try simp at hp; try (exfalso; omega))) | refine qv ?_ ?_)
      all_goals try (exfalso; omega)
      all_goals ((exact yy (rs := [.tmp 6, .tmp 7])))
    · rw [hg0 k3] at hfo
      clear hg3 hg0
      refine qa Tryz.func130 rfl _ Tryz.ntmps130 (Nat.le_of_ble_eq_true rfl) _ Tryz.results130 0 rfl rfl ?_
      repeat' (first | refine qe ?_ | (first | refine xsF Tryz.func160 (hform ..) ?_ | refine xsF Tryz.func139 (hpo1 ..) ?_ | refine xsF Tryz.func139 (hpo2 ..) ?_ | refine xsQ Tryz.func138 (hfo ..) ?_ | refine xsQ Tryz.func161 (hea ..) ?_ | refine xsQ Tryz.func161 (heb ..) ?_ | refine xsF Tryz.func162 (hinn ..) ?_) | ((first | refine qb ?_ ?_ | refine qc ?_ ?_ | refine xsC ?_ ?_); all_goals (intro hc; have hp := hc; try simp at hp; try (exfalso; omega))) | refine qv ?_ ?_)
      all_goals try (exfalso; omega)
      all_goals ((exact yy (rs := [.tmp 6, .tmp 7])))
end Go.Proofs.YtiljlcgmcmjcoaaGreatDoor
set_option linter.unusedSimpArgs false
set_option linter.unnecessarySimpa false
set_option linter.unusedVariables false
set_option maxHeartbeats 1000000
namespace Go.Proofs.YtiljlcgmcmjcoaaGreatDoor
open Go.Ab Go.RowKit
set_option maxRecDepth 10000
attribute [local irreducible] Awp jZ jg qJ Red qz Go.Ab.Fin qm Rz y0 qB qG ResOk jG q9 jK qV
theorem Qd {t : List Ent} {c : Chg} (h : xY t c = 0) : yl t (qN (jL c)) = 0 ∧ vY t c = 0 ∧ kf t c = 0 := by
  unfold xY at h
  split at h
  · contradiction
  · split at h
    · contradiction
    · exact ⟨by omega, by omega, h⟩
theorem w4 {c : Chg} (h : yt c = 0) : -1 ≤ c.base := by
  have := (yA h).2.2.2.2
  unfold z8 at this
  split at this
  · exact absurd this (by decide)
  · split at this
    · exact absurd this (by decide)
    · split at this
      · exact absurd this (by decide)
      · omega
theorem qh7 (t : List Ent) (c : Chg) (v : Int) (h60 : t.length ≤ 60) (hs : qt ya t = true) (hgt : ∀ x, x ∈ t → qD x.path = 0) (hcs : c.small) (hk : c.kind = 1) (h0 : yt c = 0) (h1 : xY t c = 0) (h2 : yc t c = 0) : jT C.P 130 [qp t, .agg c.row, .v (.int .i64 v)] (.tup [qp (if yd t c v = 0 then jq t c v else []), .v (.int .i64 (yd t c v))]) := by
  obtain ⟨l1, l2, l3⟩ := hcs
  have hform := xQ c ⟨l1, l2, l3⟩
  have hpo1 := yx c.path (by omega)
  have hpo2 := yx c.to (by omega)
  have hfo := vh t (qN (jL c)) (by omega)
  have hea := y4 t c.path (by omega)
  have heb := y4 t c.to (by omega)
  have hinn := xS c.to c.path (by omega) (by omega)
  have hkk := yA h0
  have hbase : -1 ≤ c.base := w4 h0
  obtain ⟨hz1, hz2, hz3⟩ := Qd h1
  have hst : ∀ x, x ∈ t → ¬ c.base = -1 → (decide (c.base < x.ver) && inB x.path c.path) = false := fun x hx hb => by
    unfold yc at h2
    by_cases h3 : t.any (y9 c) = true
    · rw [if_pos ⟨hb, h3⟩] at h2; exact absurd h2 (by decide)
    · have h4 : t.any (y9 c) = false := by simpa using h3
      rw [List.any_eq_false] at h4
      have h5 := h4 x hx
      simpa [y9] using h5
  clear h2
  have hx : yB t c.path = false := by
    unfold vY at hz2
    rw [if_pos hk] at hz2
    cases h : yB t c.path with
    | true => simp [h] at hz2
    | false => rfl
  rw [(xx hx).2] at hea
  have hg0 : jL c = c.path := by simp [jL, hk]
  rw [hz1, hg0] at hfo
  rw [h0] at hform
  have hput : jT C.P 163 [qp t, .agg [.v (str c.path), .v (.bool true), .v (str []), .v (.int .i64 v)]] (qp (jq t c v)) := by
    have h := wJ t ⟨c.path, true, [], v⟩ (by omega)
    rw [Jw hs] at h
    have hD : jq t c v = yO t ⟨c.path, true, [], v⟩ := by simp [jq, hk]
    rw [hD]; exact h
  have hE : yd t c v = if 60 < (jq t c v).length then 2 else 0 := by simp [yd, yH, hk]
  rw [hE]
  have hlen := Jv t c v
  generalize jq t c v = L at *
  by_cases hL : 60 < L.length
  · rw [if_pos hL]
    refine qa Tryz.func130 rfl _ Tryz.ntmps130 (Nat.le_of_ble_eq_true rfl) _ Tryz.results130 0 rfl rfl ?_
    repeat' (first | refine qe ?_ | (first | refine xsF Tryz.func160 (hform ..) ?_ | refine xsF Tryz.func139 (hpo1 ..) ?_ | refine xsF Tryz.func139 (hpo2 ..) ?_ | refine xsQ Tryz.func138 (hfo ..) ?_ | refine xsQ Tryz.func161 (hea ..) ?_ | refine xsQ Tryz.func161 (heb ..) ?_ | refine xsF Tryz.func162 (hinn ..) ?_) | ((first | refine qb ?_ ?_ | refine qc ?_ ?_ | refine xsC ?_ ?_); all_goals (intro hc; have hp := hc; try simp at hp; try (exfalso; omega))) | refine qv ?_ ?_)
    all_goals try (exfalso; omega)
    refine zD 4 0 ?_
    (refine Awp.red (qf (ts := [(0, qp t), (2, .v (.int .i64 v)), (4, .fp [c.row] 0 0), (11, .v (.int .i64 ((0 : Nat) : Int)))]) ?_) ?_; ((repeat (first | exact qd | refine qi ?_ | refine qL ?_ ?_))))
    refine qr (fun n σ => ∃ i : Nat, i ≤ t.length ∧ n = t.length - i ∧ (True) ∧ σ = ⟨[(0, qp t), (2, .v (.int .i64 v)), (4, .fp [c.row] 0 0), (11, .v (.int .i64 (i : Int)))], [], C.nh⟩) t.length ⟨0, Nat.zero_le _, rfl, trivial, rfl⟩ ?_
    rintro n σ ⟨i, hi, rfl, -, rfl⟩
    by_cases hlt : i < t.length
    · have hr := qx (f := Ent.row) hlt
      have hnw := hst t[i] (List.getElem_mem _)
      have hpl := jp (hgt t[i] (List.getElem_mem _))
      have hii := xS t[i].path c.path (by omega) (by omega)
      generalize inB t[i].path c.path = IB at *
      repeat' (first | refine qe ?_ | (first | refine xsF Tryz.func162 (hii ..) ?_) | ((first | refine qb ?_ ?_ | refine qc ?_ ?_ | refine xsC ?_ ?_); all_goals (intro hc; have hp := hc; try simp at hp; try (exfalso; omega))) | refine qv ?_ ?_)
      all_goals try (exfalso; omega)
      all_goals try (
        have h9 := hnw (by omega)
        rw [Bool.and_eq_false_iff] at h9
        rcases h9 with h9 | h9
        · exact absurd (h9.symm.trans (by assumption)) Bool.false_ne_true
        · exact absurd (h9.symm.trans (by assumption)) Bool.false_ne_true)
      all_goals first
        | (refine ⟨t.length - (i + 1), _, by omega, qf (ts := [(0, qp t), (2, .v (.int .i64 v)), (4, .fp [c.row] 0 0), (11, .v (.int .i64 ((i + 1 : Nat) : Int)))]) ?_, i + 1, by omega, rfl, trivial, rfl⟩; ((repeat (first | exact qd | refine qi ?_ | refine qL ?_ ?_))))
        | ((repeat' (first | refine qe ?_ | (first | refine xsQ Tryz.func163 (hput ..) ?_) | ((first | refine qb ?_ ?_ | refine qc ?_ ?_ | refine xsC ?_ ?_); all_goals (intro hc; have hp := hc; try simp at hp; try (exfalso; omega))) | refine qv ?_ ?_)); (all_goals try (exfalso; omega)); (all_goals ((exact yy (rs := [.tmp 6, .tmp 7])))))
    · obtain rfl : i = t.length := by omega
      (repeat' (first | refine qe ?_ | (first | refine xsQ Tryz.func163 (hput ..) ?_) | ((first | refine qb ?_ ?_ | refine qc ?_ ?_ | refine xsC ?_ ?_); all_goals (intro hc; have hp := hc; try simp at hp; try (exfalso; omega))) | refine qv ?_ ?_)); (all_goals try (exfalso; omega)); (all_goals ((exact yy (rs := [.tmp 6, .tmp 7]))))
  · rw [if_neg hL]
    refine qa Tryz.func130 rfl _ Tryz.ntmps130 (Nat.le_of_ble_eq_true rfl) _ Tryz.results130 0 rfl rfl ?_
    repeat' (first | refine qe ?_ | (first | refine xsF Tryz.func160 (hform ..) ?_ | refine xsF Tryz.func139 (hpo1 ..) ?_ | refine xsF Tryz.func139 (hpo2 ..) ?_ | refine xsQ Tryz.func138 (hfo ..) ?_ | refine xsQ Tryz.func161 (hea ..) ?_ | refine xsQ Tryz.func161 (heb ..) ?_ | refine xsF Tryz.func162 (hinn ..) ?_) | ((first | refine qb ?_ ?_ | refine qc ?_ ?_ | refine xsC ?_ ?_); all_goals (intro hc; have hp := hc; try simp at hp; try (exfalso; omega))) | refine qv ?_ ?_)
    all_goals try (exfalso; omega)
    refine zD 4 0 ?_
    (refine Awp.red (qf (ts := [(0, qp t), (2, .v (.int .i64 v)), (4, .fp [c.row] 0 0), (11, .v (.int .i64 ((0 : Nat) : Int)))]) ?_) ?_; ((repeat (first | exact qd | refine qi ?_ | refine qL ?_ ?_))))
    refine qr (fun n σ => ∃ i : Nat, i ≤ t.length ∧ n = t.length - i ∧ (True) ∧ σ = ⟨[(0, qp t), (2, .v (.int .i64 v)), (4, .fp [c.row] 0 0), (11, .v (.int .i64 (i : Int)))], [], C.nh⟩) t.length ⟨0, Nat.zero_le _, rfl, trivial, rfl⟩ ?_
    rintro n σ ⟨i, hi, rfl, -, rfl⟩
    by_cases hlt : i < t.length
    · have hr := qx (f := Ent.row) hlt
      have hnw := hst t[i] (List.getElem_mem _)
      have hpl := jp (hgt t[i] (List.getElem_mem _))
      have hii := xS t[i].path c.path (by omega) (by omega)
      generalize inB t[i].path c.path = IB at *
      repeat' (first | refine qe ?_ | (first | refine xsF Tryz.func162 (hii ..) ?_) | ((first | refine qb ?_ ?_ | refine qc ?_ ?_ | refine xsC ?_ ?_); all_goals (intro hc; have hp := hc; try simp at hp; try (exfalso; omega))) | refine qv ?_ ?_)
      all_goals try (exfalso; omega)
      all_goals try (
        have h9 := hnw (by omega)
        rw [Bool.and_eq_false_iff] at h9
        rcases h9 with h9 | h9
        · exact absurd (h9.symm.trans (by assumption)) Bool.false_ne_true
        · exact absurd (h9.symm.trans (by assumption)) Bool.false_ne_true)
      all_goals first
        | (refine ⟨t.length - (i + 1), _, by omega, qf (ts := [(0, qp t), (2, .v (.int .i64 v)), (4, .fp [c.row] 0 0), (11, .v (.int .i64 ((i + 1 : Nat) : Int)))]) ?_, i + 1, by omega, rfl, trivial, rfl⟩; ((repeat (first | exact qd | refine qi ?_ | refine qL ?_ ?_))))
        | ((repeat' (first | refine qe ?_ | (first | refine xsQ Tryz.func163 (hput ..) ?_) | ((first | refine qb ?_ ?_ | refine qc ?_ ?_ | refine xsC ?_ ?_); all_goals (intro hc; have hp := hc; try simp at hp; try (exfalso; omega))) | refine qv ?_ ?_)); (all_goals try (exfalso; omega)); (all_goals ((exact yy (rs := [.tmp 6, .tmp 7])))))
    · obtain rfl : i = t.length := by omega
      (repeat' (first | refine qe ?_ | (first | refine xsQ Tryz.func163 (hput ..) ?_) | ((first | refine qb ?_ ?_ | refine qc ?_ ?_ | refine xsC ?_ ?_); all_goals (intro hc; have hp := hc; try simp at hp; try (exfalso; omega))) | refine qv ?_ ?_)); (all_goals try (exfalso; omega)); (all_goals ((exact yy (rs := [.tmp 6, .tmp 7]))))
theorem qhx (t : List Ent) (c : Chg) (v : Int) (h60 : t.length ≤ 60) (hs : qt ya t = true) (hgt : ∀ x, x ∈ t → qD x.path = 0) (hcs : c.small) (hk : c.kind = 2) (hh : yB t c.path = true) (h0 : yt c = 0) (h1 : xY t c = 0) (h2 : yc t c = 0) : jT C.P 130 [qp t, .agg c.row, .v (.int .i64 v)] (.tup [qp (if yd t c v = 0 then jq t c v else []), .v (.int .i64 (yd t c v))]) := by
  obtain ⟨l1, l2, l3⟩ := hcs
  have hform := xQ c ⟨l1, l2, l3⟩
  have hpo1 := yx c.path (by omega)
  have hpo2 := yx c.to (by omega)
  have hfo := vh t (qN (jL c)) (by omega)
  have hea := y4 t c.path (by omega)
  have heb := y4 t c.to (by omega)
  have hinn := xS c.to c.path (by omega) (by omega)
  have hkk := yA h0
  have hbase : -1 ≤ c.base := w4 h0
  obtain ⟨hz1, hz2, hz3⟩ := Qd h1
  have hst : ∀ x, x ∈ t → ¬ c.base = -1 → (decide (c.base < x.ver) && inB x.path c.path) = false := fun x hx hb => by
    unfold yc at h2
    by_cases h3 : t.any (y9 c) = true
    · rw [if_pos ⟨hb, h3⟩] at h2; exact absurd h2 (by decide)
    · have h4 : t.any (y9 c) = false := by simpa using h3
      rw [List.any_eq_false] at h4
      have h5 := h4 x hx
      simpa [y9] using h5
  clear h2
  have hk1 : ¬ c.kind = 1 := by omega
  have hfa : xI t c.path = false := by
    unfold vY at hz2
    rw [if_neg hk1, if_pos hk] at hz2
    cases h : xI t c.path with
    | true => simp [h] at hz2
    | false => rfl
  have hg0 : jL c = c.path := by simp [jL, hk]
  rw [hz1, hg0] at hfo
  rw [h0] at hform
  have hput : jT C.P 163 [qp t, .agg [.v (str c.path), .v (.bool false), .v (str c.text), .v (.int .i64 v)]] (qp (jq t c v)) := by
    have h := wJ t ⟨c.path, false, c.text, v⟩ (by omega)
    rw [Jw hs] at h
    have hD : jq t c v = yO t ⟨c.path, false, c.text, v⟩ := by simp [jq, hk]
    rw [hD]; exact h
  have hE : yd t c v = if 60 < (jq t c v).length then 2 else 0 := by simp [yd, yH, hk]
  rw [hE]
  have hlen := Jv t c v
  generalize jq t c v = L at *
  obtain ⟨hkk2, _, hfi, hix⟩ := ka hs hh
  have hrk := qx (f := Ent.row) hkk2
  have hfold : t[xe t c.path].fold = false := by unfold xI at hfa; rw [hfi] at hfa; exact hfa
  rw [hix] at hea
  generalize xe t c.path = k at *
  by_cases hL : 60 < L.length
  · rw [if_pos hL]
    refine qa Tryz.func130 rfl _ Tryz.ntmps130 (Nat.le_of_ble_eq_true rfl) _ Tryz.results130 0 rfl rfl ?_
    repeat' (first | refine qe ?_ | (first | refine xsF Tryz.func160 (hform ..) ?_ | refine xsF Tryz.func139 (hpo1 ..) ?_ | refine xsF Tryz.func139 (hpo2 ..) ?_ | refine xsQ Tryz.func138 (hfo ..) ?_ | refine xsQ Tryz.func161 (hea ..) ?_ | refine xsQ Tryz.func161 (heb ..) ?_ | refine xsF Tryz.func162 (hinn ..) ?_) | ((first | refine qb ?_ ?_ | refine qc ?_ ?_ | refine xsC ?_ ?_); all_goals (intro hc; have hp := hc; try simp at hp; try (exfalso; omega))) | refine qv ?_ ?_)
    all_goals try (exfalso; omega)
    refine zD 4 0 ?_
    (refine Awp.red (qf (ts := [(0, qp t), (2, .v (.int .i64 v)), (4, .fp [c.row] 0 0), (11, .v (.int .i64 ((0 : Nat) : Int)))]) ?_) ?_; ((repeat (first | exact qd | refine qi ?_ | refine qL ?_ ?_))))
    refine qr (fun n σ => ∃ i : Nat, i ≤ t.length ∧ n = t.length - i ∧ (True) ∧ σ = ⟨[(0, qp t), (2, .v (.int .i64 v)), (4, .fp [c.row] 0 0), (11, .v (.int .i64 (i : Int)))], [], C.nh⟩) t.length ⟨0, Nat.zero_le _, rfl, trivial, rfl⟩ ?_
    rintro n σ ⟨i, hi, rfl, -, rfl⟩
    by_cases hlt : i < t.length
    · have hr := qx (f := Ent.row) hlt
      have hnw := hst t[i] (List.getElem_mem _)
      have hpl := jp (hgt t[i] (List.getElem_mem _))
      have hii := xS t[i].path c.path (by omega) (by omega)
      generalize inB t[i].path c.path = IB at *
      repeat' (first | refine qe ?_ | (first | refine xsF Tryz.func162 (hii ..) ?_) | ((first | refine qb ?_ ?_ | refine qc ?_ ?_ | refine xsC ?_ ?_); all_goals (intro hc; have hp := hc; try simp at hp; try (exfalso; omega))) | refine qv ?_ ?_)
      all_goals try (exfalso; omega)
      all_goals try (
        have h9 := hnw (by omega)
        rw [Bool.and_eq_false_iff] at h9
        rcases h9 with h9 | h9
        · exact absurd (h9.symm.trans (by assumption)) Bool.false_ne_true
        · exact absurd (h9.symm.trans (by assumption)) Bool.false_ne_true)
      all_goals first
        | (refine ⟨t.length - (i + 1), _, by omega, qf (ts := [(0, qp t), (2, .v (.int .i64 v)), (4, .fp [c.row] 0 0), (11, .v (.int .i64 ((i + 1 : Nat) : Int)))]) ?_, i + 1, by omega, rfl, trivial, rfl⟩; ((repeat (first | exact qd | refine qi ?_ | refine qL ?_ ?_))))
        | ((repeat' (first | refine qe ?_ | (first | refine xsQ Tryz.func163 (hput ..) ?_) | ((first | refine qb ?_ ?_ | refine qc ?_ ?_ | refine xsC ?_ ?_); all_goals (intro hc; have hp := hc; try simp at hp; try (exfalso; omega))) | refine qv ?_ ?_)); (all_goals try (exfalso; omega)); (all_goals ((exact yy (rs := [.tmp 6, .tmp 7])))))
    · obtain rfl : i = t.length := by omega
      (repeat' (first | refine qe ?_ | (first | refine xsQ Tryz.func163 (hput ..) ?_) | ((first | refine qb ?_ ?_ | refine qc ?_ ?_ | refine xsC ?_ ?_); all_goals (intro hc; have hp := hc; try simp at hp; try (exfalso; omega))) | refine qv ?_ ?_)); (all_goals try (exfalso; omega)); (all_goals ((exact yy (rs := [.tmp 6, .tmp 7]))))
  · rw [if_neg hL]
    refine qa Tryz.func130 rfl _ Tryz.ntmps130 (Nat.le_of_ble_eq_true rfl) _ Tryz.results130 0 rfl rfl ?_
    repeat' (first | refine qe ?_ | (first | refine xsF Tryz.func160 (hform ..) ?_ | refine xsF Tryz.func139 (hpo1 ..) ?_ | refine xsF Tryz.func139 (hpo2 ..) ?_ | refine xsQ Tryz.func138 (hfo ..) ?_ | refine xsQ Tryz.func161 (hea ..) ?_ | refine xsQ Tryz.func161 (heb ..) ?_ | refine xsF Tryz.func162 (hinn ..) ?_) | ((first | refine qb ?_ ?_ | refine qc ?_ ?_ | refine xsC ?_ ?_); all_goals (intro hc; have hp := hc; try simp at hp; try (exfalso; omega))) | refine qv ?_ ?_)
    all_goals try (exfalso; omega)
    refine zD 4 0 ?_
    (refine Awp.red (qf (ts := [(0, qp t), (2, .v (.int .i64 v)), (4, .fp [c.row] 0 0), (11, .v (.int .i64 ((0 : Nat) : Int)))]) ?_) ?_; ((repeat (first | exact qd | refine qi ?_ | refine qL ?_ ?_))))
    refine qr (fun n σ => ∃ i : Nat, i ≤ t.length ∧ n = t.length - i ∧ (True) ∧ σ = ⟨[(0, qp t), (2, .v (.int .i64 v)), (4, .fp [c.row] 0 0), (11, .v (.int .i64 (i : Int)))], [], C.nh⟩) t.length ⟨0, Nat.zero_le _, rfl, trivial, rfl⟩ ?_
    rintro n σ ⟨i, hi, rfl, -, rfl⟩
    by_cases hlt : i < t.length
    · have hr := qx (f := Ent.row) hlt
      have hnw := hst t[i] (List.getElem_mem _)
      have hpl := jp (hgt t[i] (List.getElem_mem _))
      have hii := xS t[i].path c.path (by omega) (by omega)
      generalize inB t[i].path c.path = IB at *
      repeat' (first | refine qe ?_ | (first | refine xsF Tryz.func162 (hii ..) ?_) | ((first | refine qb ?_ ?_ | refine qc ?_ ?_ | refine xsC ?_ ?_); all_goals (intro hc; have hp := hc; try simp at hp; try (exfalso; omega))) | refine qv ?_ ?_)
      all_goals try (exfalso; omega)
      all_goals try (
        have h9 := hnw (by omega)
        rw [Bool.and_eq_false_iff] at h9
        rcases h9 with h9 | h9
        · exact absurd (h9.symm.trans (by assumption)) Bool.false_ne_true
        · exact absurd (h9.symm.trans (by assumption)) Bool.false_ne_true)
      all_goals first
        | (refine ⟨t.length - (i + 1), _, by omega, qf (ts := [(0, qp t), (2, .v (.int .i64 v)), (4, .fp [c.row] 0 0), (11, .v (.int .i64 ((i + 1 : Nat) : Int)))]) ?_, i + 1, by omega, rfl, trivial, rfl⟩; ((repeat (first | exact qd | refine qi ?_ | refine qL ?_ ?_))))
        | ((repeat' (first | refine qe ?_ | (first | refine xsQ Tryz.func163 (hput ..) ?_) | ((first | refine qb ?_ ?_ | refine qc ?_ ?_ | refine xsC ?_ ?_); all_goals (intro hc; have hp := hc; try simp at hp; try (exfalso; omega))) | refine qv ?_ ?_)); (all_goals try (exfalso; omega)); (all_goals ((exact yy (rs := [.tmp 6, .tmp 7])))))
    · obtain rfl : i = t.length := by omega
      (repeat' (first | refine qe ?_ | (first | refine xsQ Tryz.func163 (hput ..) ?_) | ((first | refine qb ?_ ?_ | refine qc ?_ ?_ | refine xsC ?_ ?_); all_goals (intro hc; have hp := hc; try simp at hp; try (exfalso; omega))) | refine qv ?_ ?_)); (all_goals try (exfalso; omega)); (all_goals ((exact yy (rs := [.tmp 6, .tmp 7]))))
theorem qhf (t : List Ent) (c : Chg) (v : Int) (h60 : t.length ≤ 60) (hs : qt ya t = true) (hgt : ∀ x, x ∈ t → qD x.path = 0) (hcs : c.small) (hk : c.kind = 2) (hh : yB t c.path = false) (h0 : yt c = 0) (h1 : xY t c = 0) (h2 : yc t c = 0) : jT C.P 130 [qp t, .agg c.row, .v (.int .i64 v)] (.tup [qp (if yd t c v = 0 then jq t c v else []), .v (.int .i64 (yd t c v))]) := by
  obtain ⟨l1, l2, l3⟩ := hcs
  have hform := xQ c ⟨l1, l2, l3⟩
  have hpo1 := yx c.path (by omega)
  have hpo2 := yx c.to (by omega)
  have hfo := vh t (qN (jL c)) (by omega)
  have hea := y4 t c.path (by omega)
  have heb := y4 t c.to (by omega)
  have hinn := xS c.to c.path (by omega) (by omega)
  have hkk := yA h0
  have hbase : -1 ≤ c.base := w4 h0
  obtain ⟨hz1, hz2, hz3⟩ := Qd h1
  have hst : ∀ x, x ∈ t → ¬ c.base = -1 → (decide (c.base < x.ver) && inB x.path c.path) = false := fun x hx hb => by
    unfold yc at h2
    by_cases h3 : t.any (y9 c) = true
    · rw [if_pos ⟨hb, h3⟩] at h2; exact absurd h2 (by decide)
    · have h4 : t.any (y9 c) = false := by simpa using h3
      rw [List.any_eq_false] at h4
      have h5 := h4 x hx
      simpa [y9] using h5
  clear h2
  have hk1 : ¬ c.kind = 1 := by omega
  have hfa : xI t c.path = false := by
    unfold vY at hz2
    rw [if_neg hk1, if_pos hk] at hz2
    cases h : xI t c.path with
    | true => simp [h] at hz2
    | false => rfl
  have hg0 : jL c = c.path := by simp [jL, hk]
  rw [hz1, hg0] at hfo
  rw [h0] at hform
  have hput : jT C.P 163 [qp t, .agg [.v (str c.path), .v (.bool false), .v (str c.text), .v (.int .i64 v)]] (qp (jq t c v)) := by
    have h := wJ t ⟨c.path, false, c.text, v⟩ (by omega)
    rw [Jw hs] at h
    have hD : jq t c v = yO t ⟨c.path, false, c.text, v⟩ := by simp [jq, hk]
    rw [hD]; exact h
  have hE : yd t c v = if 60 < (jq t c v).length then 2 else 0 := by simp [yd, yH, hk]
  rw [hE]
  have hlen := Jv t c v
  generalize jq t c v = L at *
  rw [(xx hh).2] at hea
  by_cases hL : 60 < L.length
  · rw [if_pos hL]
    refine qa Tryz.func130 rfl _ Tryz.ntmps130 (Nat.le_of_ble_eq_true rfl) _ Tryz.results130 0 rfl rfl ?_
    repeat' (first | refine qe ?_ | (first | refine xsF Tryz.func160 (hform ..) ?_ | refine xsF Tryz.func139 (hpo1 ..) ?_ | refine xsF Tryz.func139 (hpo2 ..) ?_ | refine xsQ Tryz.func138 (hfo ..) ?_ | refine xsQ Tryz.func161 (hea ..) ?_ | refine xsQ Tryz.func161 (heb ..) ?_ | refine xsF Tryz.func162 (hinn ..) ?_) | ((first | refine qb ?_ ?_ | refine qc ?_ ?_ | refine xsC ?_ ?_); all_goals (intro hc; have hp := hc; try simp at hp; try (exfalso; omega))) | refine qv ?_ ?_)
    all_goals try (exfalso; omega)
    refine zD 4 0 ?_
    (refine Awp.red (qf (ts := [(0, qp t), (2, .v (.int .i64 v)), (4, .fp [c.row] 0 0), (11, .v (.int .i64 ((0 : Nat) : Int)))]) ?_) ?_; ((repeat (first | exact qd | refine qi ?_ | refine qL ?_ ?_))))
    refine qr (fun n σ => ∃ i : Nat, i ≤ t.length ∧ n = t.length - i ∧ (True) ∧ σ = ⟨[(0, qp t), (2, .v (.int .i64 v)), (4, .fp [c.row] 0 0), (11, .v (.int .i64 (i : Int)))], [], C.nh⟩) t.length ⟨0, Nat.zero_le _, rfl, trivial, rfl⟩ ?_
    rintro n σ ⟨i, hi, rfl, -, rfl⟩
    by_cases hlt : i < t.length
    · have hr := qx (f := Ent.row) hlt
      have hnw := hst t[i] (List.getElem_mem _)
      have hpl := jp (hgt t[i] (List.getElem_mem _))
      have hii := xS t[i].path c.path (by omega) (by omega)
      generalize inB t[i].path c.path = IB at *
      repeat' (first | refine qe ?_ | (first | refine xsF Tryz.func162 (hii ..) ?_) | ((first | refine qb ?_ ?_ | refine qc ?_ ?_ | refine xsC ?_ ?_); all_goals (intro hc; have hp := hc; try simp at hp; try (exfalso; omega))) | refine qv ?_ ?_)
      all_goals try (exfalso; omega)
      all_goals try (
        have h9 := hnw (by omega)
        rw [Bool.and_eq_false_iff] at h9
        rcases h9 with h9 | h9
        · exact absurd (h9.symm.trans (by assumption)) Bool.false_ne_true
        · exact absurd (h9.symm.trans (by assumption)) Bool.false_ne_true)
      all_goals first
        | (refine ⟨t.length - (i + 1), _, by omega, qf (ts := [(0, qp t), (2, .v (.int .i64 v)), (4, .fp [c.row] 0 0), (11, .v (.int .i64 ((i + 1 : Nat) : Int)))]) ?_, i + 1, by omega, rfl, trivial, rfl⟩; ((repeat (first | exact qd | refine qi ?_ | refine qL ?_ ?_))))
        | ((repeat' (first | refine qe ?_ | (first | refine xsQ Tryz.func163 (hput ..) ?_) | ((first | refine qb ?_ ?_ | refine qc ?_ ?_ | refine xsC ?_ ?_); all_goals (intro hc; have hp := hc; try simp at hp; try (exfalso; omega))) | refine qv ?_ ?_)); (all_goals try (exfalso; omega)); (all_goals ((exact yy (rs := [.tmp 6, .tmp 7])))))
    · obtain rfl : i = t.length := by omega
      (repeat' (first | refine qe ?_ | (first | refine xsQ Tryz.func163 (hput ..) ?_) | ((first | refine qb ?_ ?_ | refine qc ?_ ?_ | refine xsC ?_ ?_); all_goals (intro hc; have hp := hc; try simp at hp; try (exfalso; omega))) | refine qv ?_ ?_)); (all_goals try (exfalso; omega)); (all_goals ((exact yy (rs := [.tmp 6, .tmp 7]))))
  · rw [if_neg hL]
    refine qa Tryz.func130 rfl _ Tryz.ntmps130 (Nat.le_of_ble_eq_true rfl) _ Tryz.results130 0 rfl rfl ?_
    repeat' (first | refine qe ?_ | (first | refine xsF Tryz.func160 (hform ..) ?_ | refine xsF Tryz.func139 (hpo1 ..) ?_ | refine xsF Tryz.func139 (hpo2 ..) ?_ | refine xsQ Tryz.func138 (hfo ..) ?_ | refine xsQ Tryz.func161 (hea ..) ?_ | refine xsQ Tryz.func161 (heb ..) ?_ | refine xsF Tryz.func162 (hinn ..) ?_) | ((first | refine qb ?_ ?_ | refine qc ?_ ?_ | refine xsC ?_ ?_); all_goals (intro hc; have hp := hc; try simp at hp; try (exfalso; omega))) | refine qv ?_ ?_)
    all_goals try (exfalso; omega)
    refine zD 4 0 ?_
    (refine Awp.red (qf (ts := [(0, qp t), (2, .v (.int .i64 v)), (4, .fp [c.row] 0 0), (11, .v (.int .i64 ((0 : Nat) : Int)))]) ?_) ?_; ((repeat (first | exact qd | refine qi ?_ | refine qL ?_ ?_))))
    refine qr (fun n σ => ∃ i : Nat, i ≤ t.length ∧ n = t.length - i ∧ (True) ∧ σ = ⟨[(0, qp t), (2, .v (.int .i64 v)), (4, .fp [c.row] 0 0), (11, .v (.int .i64 (i : Int)))], [], C.nh⟩) t.length ⟨0, Nat.zero_le _, rfl, trivial, rfl⟩ ?_
    rintro n σ ⟨i, hi, rfl, -, rfl⟩
    by_cases hlt : i < t.length
    · have hr := qx (f := Ent.row) hlt
      have hnw := hst t[i] (List.getElem_mem _)
      have hpl := jp (hgt t[i] (List.getElem_mem _))
      have hii := xS t[i].path c.path (by omega) (by omega)
      generalize inB t[i].path c.path = IB at *
      repeat' (first | refine qe ?_ | (first | refine xsF Tryz.func162 (hii ..) ?_) | ((first | refine qb ?_ ?_ | refine qc ?_ ?_ | refine xsC ?_ ?_); all_goals (intro hc; have hp := hc; try simp at hp; try (exfalso; omega))) | refine qv ?_ ?_)
      all_goals try (exfalso; omega)
      all_goals try (
        have h9 := hnw (by omega)
        rw [Bool.and_eq_false_iff] at h9
        rcases h9 with h9 | h9
        · exact absurd (h9.symm.trans (by assumption)) Bool.false_ne_true
        · exact absurd (h9.symm.trans (by assumption)) Bool.false_ne_true)
      all_goals first
        | (refine ⟨t.length - (i + 1), _, by omega, qf (ts := [(0, qp t), (2, .v (.int .i64 v)), (4, .fp [c.row] 0 0), (11, .v (.int .i64 ((i + 1 : Nat) : Int)))]) ?_, i + 1, by omega, rfl, trivial, rfl⟩; ((repeat (first | exact qd | refine qi ?_ | refine qL ?_ ?_))))
        | ((repeat' (first | refine qe ?_ | (first | refine xsQ Tryz.func163 (hput ..) ?_) | ((first | refine qb ?_ ?_ | refine qc ?_ ?_ | refine xsC ?_ ?_); all_goals (intro hc; have hp := hc; try simp at hp; try (exfalso; omega))) | refine qv ?_ ?_)); (all_goals try (exfalso; omega)); (all_goals ((exact yy (rs := [.tmp 6, .tmp 7])))))
    · obtain rfl : i = t.length := by omega
      (repeat' (first | refine qe ?_ | (first | refine xsQ Tryz.func163 (hput ..) ?_) | ((first | refine qb ?_ ?_ | refine qc ?_ ?_ | refine xsC ?_ ?_); all_goals (intro hc; have hp := hc; try simp at hp; try (exfalso; omega))) | refine qv ?_ ?_)); (all_goals try (exfalso; omega)); (all_goals ((exact yy (rs := [.tmp 6, .tmp 7]))))
theorem qh1 (t : List Ent) (c : Chg) (v : Int) (h60 : t.length ≤ 60) (hs : qt ya t = true) (hgt : ∀ x, x ∈ t → qD x.path = 0) (hcs : c.small) (hk : c.kind = 2) (h0 : yt c = 0) (h1 : xY t c = 0) (h2 : yc t c = 0) : jT C.P 130 [qp t, .agg c.row, .v (.int .i64 v)] (.tup [qp (if yd t c v = 0 then jq t c v else []), .v (.int .i64 (yd t c v))]) := by
  cases hh : yB t c.path with
  | true => exact qhx t c v h60 hs hgt hcs hk hh h0 h1 h2
  | false => exact qhf t c v h60 hs hgt hcs hk hh h0 h1 h2
end Go.Proofs.YtiljlcgmcmjcoaaGreatDoor
set_option linter.unusedSimpArgs false
set_option linter.unnecessarySimpa false
set_option linter.unusedVariables false
set_option maxHeartbeats 1000000
namespace Go.Proofs.YtiljlcgmcmjcoaaGreatDoor
open Go.Ab Go.RowKit
set_option maxRecDepth 10000
attribute [local irreducible] Awp jZ jg qJ Red qz Go.Ab.Fin qm Rz y0 qB qG ResOk jG q9 jK qV
theorem Kv {t : List Ent} {c : Chg} (hk : 3 ≤ c.kind) (h : vY t c = 0) : yB t c.path = true := by
  unfold vY at h
  rw [if_neg (by omega), if_neg (by omega)] at h
  cases hh : yB t c.path with
  | true => rfl
  | false => simp [hh] at h
theorem qhX (t : List Ent) (c : Chg) (v : Int) (h60 : t.length ≤ 60) (hs : qt ya t = true) (hgt : ∀ x, x ∈ t → qD x.path = 0) (hcs : c.small) (h0 : yt c = 0) (h1 : xY t c = 0) (h2 : ¬ yc t c = 0) : jT C.P 130 [qp t, .agg c.row, .v (.int .i64 v)] (.tup [qp [], .v (.int .i64 8)]) := by
  obtain ⟨l1, l2, l3⟩ := hcs
  have hform := xQ c ⟨l1, l2, l3⟩
  have hpo1 := yx c.path (by omega)
  have hpo2 := yx c.to (by omega)
  have hfo := vh t (qN (jL c)) (by omega)
  have hea := y4 t c.path (by omega)
  have heb := y4 t c.to (by omega)
  have hinn := xS c.to c.path (by omega) (by omega)
  have hkk := yA h0
  have hbase : -1 ≤ c.base := w4 h0
  obtain ⟨hz1, hz2, hz3⟩ := Qd h1
  have hst : ¬ c.base = -1 ∧ t.any (y9 c) = true := by
    unfold yc at h2
    split at h2
    · assumption
    · exact absurd rfl h2
  obtain ⟨hst1, hst2⟩ := hst
  clear h2
  have hI : vY t c = if c.kind = 1 then (if yB t c.path = true then 6 else 0) else if c.kind = 2 then (if xI t c.path = true then 4 else 0) else (if yB t c.path = true then 0 else 5) := rfl
  have hM : kf t c = if c.kind = 3 then (if inB c.to c.path = true then 3 else if yB t c.to = true then 6 else 0) else 0 := rfl
  rw [hz2] at hI
  rw [hz3] at hM
  replace hI := hI.symm
  replace hM := hM.symm
  rw [h0] at hform
  have hto : (yB t c.to = true ∧ 0 ≤ yg (atP c.to) t) ∨ (yB t c.to = false ∧ yg (atP c.to) t = -1) := by
    cases h : yB t c.to with
    | true => obtain ⟨hk, _, hfi, hix⟩ := ka hs h; exact .inl ⟨rfl, by rw [hix]; omega⟩
    | false => exact .inr ⟨rfl, (xx h).2⟩
  have hrow : yB t c.path = true → ∃ hk : xe t c.path < t.length, xI t c.path = t[xe t c.path].fold ∧ yg (atP c.path) t = xe t c.path := fun h => by
    obtain ⟨hk, _, hfi, hix⟩ := ka hs h
    exact ⟨hk, by unfold xI; rw [hfi], hix⟩
  have hnorow : yB t c.path = false → xI t c.path = false ∧ yg (atP c.path) t = -1 := fun h => by
    unfold xI; rw [(xx h).1]; exact ⟨rfl, (xx h).2⟩
  obtain ⟨kk1, kk2, -⟩ := hkk
  have hg3 : c.kind = 3 → jL c = c.to := fun h => by simp [jL, h]
  have hg0 : ¬ c.kind = 3 → jL c = c.path := fun h => by simp [jL, h]
  rw [hz1] at hfo
  clear hz1 hz2 hz3
  generalize hIB : inB c.to c.path = IB at *
  generalize hHT : yB t c.to = HT at *
  generalize hIT : yg (atP c.to) t = IT at *
  clear hIB hHT hIT
  cases hh : yB t c.path with
  | true =>
    obtain ⟨hk, hfa, hix⟩ := hrow hh
    rw [hix] at hea
    rw [hh, hfa] at hI
    have hrk := qx (f := Ent.row) hk
    clear hrow hnorow hix hfa
    generalize xe t c.path = k at *
    by_cases k3 : c.kind = 3
    · rw [hg3 k3] at hfo
      clear hg3 hg0
      refine qa Tryz.func130 rfl _ Tryz.ntmps130 (Nat.le_of_ble_eq_true rfl) _ Tryz.results130 0 rfl rfl ?_
      repeat' (first | refine qe ?_ | (first | refine xsF Tryz.func160 (hform ..) ?_ | refine xsF Tryz.func139 (hpo1 ..) ?_ | refine xsF Tryz.func139 (hpo2 ..) ?_ | refine xsQ Tryz.func138 (hfo ..) ?_ | refine xsQ Tryz.func161 (hea ..) ?_ | refine xsQ Tryz.func161 (heb ..) ?_ | refine xsF Tryz.func162 (hinn ..) ?_) | ((first | refine qb ?_ ?_ | refine qc ?_ ?_ | refine xsC ?_ ?_); all_goals (intro hc; have hp := hc; try simp at hp; try (exfalso; omega))) | refine qv ?_ ?_)
      all_goals try (exfalso; omega)
      all_goals try (exfalso; clear hst2 hea heb hfo hform hinn hpo1 hpo2; simp_all; done)
      all_goals (
        refine zD 4 0 ?_
        (refine Awp.red (qf (ts := [(0, qp t), (2, .v (.int .i64 v)), (4, .fp [c.row] 0 0), (11, .v (.int .i64 ((0 : Nat) : Int)))]) ?_) ?_; ((repeat (first | exact qd | refine qi ?_ | refine qL ?_ ?_))))
        refine qr (fun n σ => ∃ i : Nat, i ≤ t.length ∧ n = t.length - i ∧ (∀ x, x ∈ t.take i → y9 c x = false) ∧ σ = ⟨[(0, qp t), (2, .v (.int .i64 v)), (4, .fp [c.row] 0 0), (11, .v (.int .i64 (i : Int)))], [], C.nh⟩) t.length ⟨0, Nat.zero_le _, rfl, (by simp), rfl⟩ ?_
        rintro n σ ⟨i, hi, rfl, hsofar, rfl⟩
        by_cases hlt : i < t.length
        · have hr := qx (f := Ent.row) hlt
          have hnx := qK (p := fun x => y9 c x = false) hlt hsofar
          have hnw : y9 c t[i] = (decide (c.base < t[i].ver) && inB t[i].path c.path) := rfl
          have hpl := jp (hgt t[i] (List.getElem_mem _))
          have hii := xS t[i].path c.path (by omega) (by omega)
          generalize inB t[i].path c.path = IB at *
          generalize y9 c t[i] = NW at *
          clear hst2 hsofar
          repeat' (first | refine qe ?_ | (first | refine xsF Tryz.func162 (hii ..) ?_) | ((first | refine qb ?_ ?_ | refine qc ?_ ?_ | refine xsC ?_ ?_); all_goals (intro hc; have hp := hc; try simp at hp; try (exfalso; omega))) | refine qv ?_ ?_)
          all_goals try (exfalso; omega)
          all_goals first
            | ((exact yy (rs := [.tmp 6, .tmp 7])))
            | (refine ⟨t.length - (i + 1), _, by omega, qf (ts := [(0, qp t), (2, .v (.int .i64 v)), (4, .fp [c.row] 0 0), (11, .v (.int .i64 ((i + 1 : Nat) : Int)))]) ?_, i + 1, by omega, rfl, (hnx (by rw [hnw]; simp_all)), rfl⟩; ((repeat (first | exact qd | refine qi ?_ | refine qL ?_ ?_))))
        · exfalso
          obtain rfl : i = t.length := by omega
          rw [List.take_length] at hsofar
          obtain ⟨x, hx, hxn⟩ := List.any_eq_true.1 hst2
          rw [hsofar x hx] at hxn; cases hxn)
    · rw [hg0 k3] at hfo
      clear hg3 hg0
      refine qa Tryz.func130 rfl _ Tryz.ntmps130 (Nat.le_of_ble_eq_true rfl) _ Tryz.results130 0 rfl rfl ?_
      repeat' (first | refine qe ?_ | (first | refine xsF Tryz.func160 (hform ..) ?_ | refine xsF Tryz.func139 (hpo1 ..) ?_ | refine xsF Tryz.func139 (hpo2 ..) ?_ | refine xsQ Tryz.func138 (hfo ..) ?_ | refine xsQ Tryz.func161 (hea ..) ?_ | refine xsQ Tryz.func161 (heb ..) ?_ | refine xsF Tryz.func162 (hinn ..) ?_) | ((first | refine qb ?_ ?_ | refine qc ?_ ?_ | refine xsC ?_ ?_); all_goals (intro hc; have hp := hc; try simp at hp; try (exfalso; omega))) | refine qv ?_ ?_)
      all_goals try (exfalso; omega)
      all_goals try (exfalso; clear hst2 hea heb hfo hform hinn hpo1 hpo2; simp_all; done)
      all_goals (
        refine zD 4 0 ?_
        (refine Awp.red (qf (ts := [(0, qp t), (2, .v (.int .i64 v)), (4, .fp [c.row] 0 0), (11, .v (.int .i64 ((0 : Nat) : Int)))]) ?_) ?_; ((repeat (first | exact qd | refine qi ?_ | refine qL ?_ ?_))))
        refine qr (fun n σ => ∃ i : Nat, i ≤ t.length ∧ n = t.length - i ∧ (∀ x, x ∈ t.take i → y9 c x = false) ∧ σ = ⟨[(0, qp t), (2, .v (.int .i64 v)), (4, .fp [c.row] 0 0), (11, .v (.int .i64 (i : Int)))], [], C.nh⟩) t.length ⟨0, Nat.zero_le _, rfl, (by simp), rfl⟩ ?_
        rintro n σ ⟨i, hi, rfl, hsofar, rfl⟩
        by_cases hlt : i < t.length
        · have hr := qx (f := Ent.row) hlt
          have hnx := qK (p := fun x => y9 c x = false) hlt hsofar
          have hnw : y9 c t[i] = (decide (c.base < t[i].ver) && inB t[i].path c.path) := rfl
          have hpl := jp (hgt t[i] (List.getElem_mem _))
          have hii := xS t[i].path c.path (by omega) (by omega)
          generalize inB t[i].path c.path = IB at *
          generalize y9 c t[i] = NW at *
          clear hst2 hsofar
          repeat' (first | refine qe ?_ | (first | refine xsF Tryz.func162 (hii ..) ?_) | ((first | refine qb ?_ ?_ | refine qc ?_ ?_ | refine xsC ?_ ?_); all_goals (intro hc; have hp := hc; try simp at hp; try (exfalso; omega))) | refine qv ?_ ?_)
          all_goals try (exfalso; omega)
          all_goals first
            | ((exact yy (rs := [.tmp 6, .tmp 7])))
            | (refine ⟨t.length - (i + 1), _, by omega, qf (ts := [(0, qp t), (2, .v (.int .i64 v)), (4, .fp [c.row] 0 0), (11, .v (.int .i64 ((i + 1 : Nat) : Int)))]) ?_, i + 1, by omega, rfl, (hnx (by rw [hnw]; simp_all)), rfl⟩; ((repeat (first | exact qd | refine qi ?_ | refine qL ?_ ?_))))
        · exfalso
          obtain rfl : i = t.length := by omega
          rw [List.take_length] at hsofar
          obtain ⟨x, hx, hxn⟩ := List.any_eq_true.1 hst2
          rw [hsofar x hx] at hxn; cases hxn)
  | false =>
    obtain ⟨hfa, hix⟩ := hnorow hh
    rw [hix] at hea
    rw [hh, hfa] at hI
    clear hrow hnorow hix hfa
    by_cases k3 : c.kind = 3
    · exfalso; clear hst2 hea heb hfo hform hinn hpo1 hpo2; simp_all; done
    · rw [hg0 k3] at hfo
      clear hg3 hg0
      refine qa Tryz.func130 rfl _ Tryz.ntmps130 (Nat.le_of_ble_eq_true rfl) _ Tryz.results130 0 rfl rfl ?_
      repeat' (first | refine qe ?_ | (first | refine xsF Tryz.func160 (hform ..) ?_ | refine xsF Tryz.func139 (hpo1 ..) ?_ | refine xsF Tryz.func139 (hpo2 ..) ?_ | refine xsQ Tryz.func138 (hfo ..) ?_ | refine xsQ Tryz.func161 (hea ..) ?_ | refine xsQ Tryz.func161 (heb ..) ?_ | refine xsF Tryz.func162 (hinn ..) ?_) | ((first | refine qb ?_ ?_ | refine qc ?_ ?_ | refine xsC ?_ ?_); all_goals (intro hc; have hp := hc; try simp at hp; try (exfalso; omega))) | refine qv ?_ ?_)
      all_goals try (exfalso; omega)
      all_goals try (exfalso; clear hst2 hea heb hfo hform hinn hpo1 hpo2; simp_all; done)
      all_goals (
        refine zD 4 0 ?_
        (refine Awp.red (qf (ts := [(0, qp t), (2, .v (.int .i64 v)), (4, .fp [c.row] 0 0), (11, .v (.int .i64 ((0 : Nat) : Int)))]) ?_) ?_; ((repeat (first | exact qd | refine qi ?_ | refine qL ?_ ?_))))
        refine qr (fun n σ => ∃ i : Nat, i ≤ t.length ∧ n = t.length - i ∧ (∀ x, x ∈ t.take i → y9 c x = false) ∧ σ = ⟨[(0, qp t), (2, .v (.int .i64 v)), (4, .fp [c.row] 0 0), (11, .v (.int .i64 (i : Int)))], [], C.nh⟩) t.length ⟨0, Nat.zero_le _, rfl, (by simp), rfl⟩ ?_
        rintro n σ ⟨i, hi, rfl, hsofar, rfl⟩
        by_cases hlt : i < t.length
        · have hr := qx (f := Ent.row) hlt
          have hnx := qK (p := fun x => y9 c x = false) hlt hsofar
          have hnw : y9 c t[i] = (decide (c.base < t[i].ver) && inB t[i].path c.path) := rfl
          have hpl := jp (hgt t[i] (List.getElem_mem _))
          have hii := xS t[i].path c.path (by omega) (by omega)
          generalize inB t[i].path c.path = IB at *
          generalize y9 c t[i] = NW at *
          clear hst2 hsofar
          repeat' (first | refine qe ?_ | (first | refine xsF Tryz.func162 (hii ..) ?_) | ((first | refine qb ?_ ?_ | refine qc ?_ ?_ | refine xsC ?_ ?_); all_goals (intro hc; have hp := hc; try simp at hp; try (exfalso; omega))) | refine qv ?_ ?_)
          all_goals try (exfalso; omega)
          all_goals first
            | ((exact yy (rs := [.tmp 6, .tmp 7])))
            | (refine ⟨t.length - (i + 1), _, by omega, qf (ts := [(0, qp t), (2, .v (.int .i64 v)), (4, .fp [c.row] 0 0), (11, .v (.int .i64 ((i + 1 : Nat) : Int)))]) ?_, i + 1, by omega, rfl, (hnx (by rw [hnw]; simp_all)), rfl⟩; ((repeat (first | exact qd | refine qi ?_ | refine qL ?_ ?_))))
        · exfalso
          obtain rfl : i = t.length := by omega
          rw [List.take_length] at hsofar
          obtain ⟨x, hx, hxn⟩ := List.any_eq_true.1 hst2
          rw [hsofar x hx] at hxn; cases hxn)
end Go.Proofs.YtiljlcgmcmjcoaaGreatDoor
set_option linter.unusedSimpArgs false
set_option linter.unnecessarySimpa false
set_option linter.unusedVariables false
set_option maxHeartbeats 1000000
namespace Go.Proofs.YtiljlcgmcmjcoaaGreatDoor
open Go.Ab Go.RowKit
set_option maxRecDepth 10000
attribute [local irreducible] Awp jZ jg qJ Red qz Go.Ab.Fin qm Rz y0 qB qG ResOk jG q9 jK qV
theorem qh0 (t : List Ent) (c : Chg) (v : Int) (h60 : t.length ≤ 60) (hs : qt ya t = true) (hgt : ∀ x, x ∈ t → qD x.path = 0) (hcs : c.small) (hk : c.kind = 4) (h0 : yt c = 0) (h1 : xY t c = 0) (h2 : yc t c = 0) : jT C.P 130 [qp t, .agg c.row, .v (.int .i64 v)] (.tup [qp (if yd t c v = 0 then jq t c v else []), .v (.int .i64 (yd t c v))]) := by
  obtain ⟨l1, l2, l3⟩ := hcs
  have hform := xQ c ⟨l1, l2, l3⟩
  have hpo1 := yx c.path (by omega)
  have hpo2 := yx c.to (by omega)
  have hfo := vh t (qN (jL c)) (by omega)
  have hea := y4 t c.path (by omega)
  have heb := y4 t c.to (by omega)
  have hinn := xS c.to c.path (by omega) (by omega)
  have hkk := yA h0
  have hbase : -1 ≤ c.base := w4 h0
  obtain ⟨hz1, hz2, hz3⟩ := Qd h1
  have hst : ∀ x, x ∈ t → ¬ c.base = -1 → (decide (c.base < x.ver) && inB x.path c.path) = false := fun x hx hb => by
    unfold yc at h2
    by_cases h3 : t.any (y9 c) = true
    · rw [if_pos ⟨hb, h3⟩] at h2; exact absurd h2 (by decide)
    · have h4 : t.any (y9 c) = false := by simpa using h3
      rw [List.any_eq_false] at h4
      have h5 := h4 x hx
      simpa [y9] using h5
  clear h2
  have hh := Kv (by omega) hz2
  obtain ⟨hkk2, _, hfi, hix⟩ := ka hs hh
  have hg0 : jL c = c.path := by simp [jL, hk]
  rw [hz1, hg0] at hfo
  rw [h0] at hform
  rw [hix] at hea
  generalize xe t c.path = k at *
  have hD : jq t c v = jV (zx c.path) t := by simp [jq, hk]
  have hE : yd t c v = if 60 < (jq t c v).length then 2 else 0 := by simp [yd, yH, hk]
  rw [hE, hD]
  clear hE hD hz1 hz2 hz3 h1 h0
  have hlen : (jV (zx c.path) t).length ≤ t.length := List.length_filter_le ..
  have hL : ¬ 60 < (jV (zx c.path) t).length := by omega
  rw [if_neg hL]
  refine qa Tryz.func130 rfl _ Tryz.ntmps130 (Nat.le_of_ble_eq_true rfl) _ Tryz.results130 0 rfl rfl ?_
  repeat' (first | refine qe ?_ | (first | refine xsF Tryz.func160 (hform ..) ?_ | refine xsF Tryz.func139 (hpo1 ..) ?_ | refine xsF Tryz.func139 (hpo2 ..) ?_ | refine xsQ Tryz.func138 (hfo ..) ?_ | refine xsQ Tryz.func161 (hea ..) ?_ | refine xsQ Tryz.func161 (heb ..) ?_ | refine xsF Tryz.func162 (hinn ..) ?_) | ((first | refine qb ?_ ?_ | refine qc ?_ ?_ | refine xsC ?_ ?_); all_goals (intro hc; have hp := hc; try simp at hp; try (exfalso; omega))) | refine qv ?_ ?_)
  all_goals try (exfalso; omega)
  apply qav
  case h =>
    intro key
    refine zD 4 0 ?_
    (refine Awp.red (qf (ts := [(0, qp t), (2, .v (.int .i64 v)), (4, .fp [c.row] 0 0), (11, .v (.int .i64 ((0 : Nat) : Int)))]) ?_) ?_; ((repeat (first | exact qd | refine qi ?_ | refine qL ?_ ?_))))
    refine qr (fun n σ => ∃ i : Nat, i ≤ t.length ∧ n = t.length - i ∧ (True) ∧ σ = ⟨[(0, qp t), (2, .v (.int .i64 v)), (4, .fp [c.row] 0 0), (11, .v (.int .i64 (i : Int)))], [], C.nh⟩) t.length ⟨0, Nat.zero_le _, rfl, trivial, rfl⟩ ?_
    rintro n σ ⟨i, hi, rfl, -, rfl⟩
    by_cases hlt : i < t.length
    · have hr := qx (f := Ent.row) hlt
      have hnw := hst t[i] (List.getElem_mem _)
      have hpl := jp (hgt t[i] (List.getElem_mem _))
      have hii := xS t[i].path c.path (by omega) (by omega)
      generalize inB t[i].path c.path = IB at *
      repeat' (first | refine qe ?_ | (first | refine xsF Tryz.func162 (hii ..) ?_) | ((first | refine qb ?_ ?_ | refine qc ?_ ?_ | refine xsC ?_ ?_); all_goals (intro hc; have hp := hc; try simp at hp; try (exfalso; omega))) | refine qv ?_ ?_)
      all_goals try (exfalso; omega)
      all_goals try (
        have h9 := hnw (by omega)
        rw [Bool.and_eq_false_iff] at h9
        rcases h9 with h9 | h9
        · exact absurd (h9.symm.trans (by assumption)) Bool.false_ne_true
        · exact absurd (h9.symm.trans (by assumption)) Bool.false_ne_true)
      all_goals first
        | (refine ⟨t.length - (i + 1), _, by omega, qf (ts := [(0, qp t), (2, .v (.int .i64 v)), (4, .fp [c.row] 0 0), (11, .v (.int .i64 ((i + 1 : Nat) : Int)))]) ?_, i + 1, by omega, rfl, trivial, rfl⟩; ((repeat (first | exact qd | refine qi ?_ | refine qL ?_ ?_))))
        | ((repeat' (first | refine qe ?_ | (first | fail) | ((first | refine qb ?_ ?_ | refine qc ?_ ?_ | refine xsC ?_ ?_); all_goals (intro hc; have hp := hc; try simp at hp; try (exfalso; omega))) | refine qv ?_ ?_))
           (all_goals try (exfalso; omega))
           (refine Awp.red (qf (ts := [(0, qp t), (2, .v (.int .i64 v)), (4, .fp [c.row] 0 0), (12, .sl true []), (13, .v (.int .i64 ((0 : Nat) : Int)))]) ?_) ?_; ((repeat (first | exact qd | refine qi ?_ | refine qL ?_ ?_))))
           exact key.out)
    · obtain rfl : i = t.length := by omega
      (repeat' (first | refine qe ?_ | (first | fail) | ((first | refine qb ?_ ?_ | refine qc ?_ ?_ | refine xsC ?_ ?_); all_goals (intro hc; have hp := hc; try simp at hp; try (exfalso; omega))) | refine qv ?_ ?_))
      (all_goals try (exfalso; omega))
      (refine Awp.red (qf (ts := [(0, qp t), (2, .v (.int .i64 v)), (4, .fp [c.row] 0 0), (12, .sl true []), (13, .v (.int .i64 ((0 : Nat) : Int)))]) ?_) ?_; ((repeat (first | exact qd | refine qi ?_ | refine qL ?_ ?_))))
      exact key.out
  refine Awp.red (vN 12 4 rfl (Nat.le_refl _)) ?_
  (refine Awp.red (jt (τ := ⟨[(0, qp t), (2, .v (.int .i64 v)), (4, .fp [c.row] 0 0), (12, .os 0 0 0), (13, .v (.int .i64 ((0 : Nat) : Int)))], [(0, .own false 4 [])], 1⟩) [(0, 0)] rfl ?gts ?ghs) ?gmain; (case gts => (repeat (first | exact qd | refine qi ?_ | refine x8 ?_ | refine vo ?_ | refine qL ?_ ?_))); (case ghs => (repeat (first | exact qh | refine jU ?_ | refine qO ?_ ?_))))
  refine qr (fun n σ => ∃ i : Nat, i ≤ t.length ∧ n = t.length - i ∧ (True) ∧ σ = ⟨[(0, qp t), (2, .v (.int .i64 v)), (4, .fp [c.row] 0 0), (12, .os 0 0 (jV (zx c.path) (t.take i)).length), (13, .v (.int .i64 (i : Int)))], [(0, .own false 4 ((jV (zx c.path) (t.take i)).map Ent.row))], 1⟩) t.length ⟨0, Nat.zero_le _, rfl, trivial, rfl⟩ ?_
  rintro n σ ⟨i, hi, rfl, -, rfl⟩
  by_cases hlt : i < t.length
  · have hr := qx (f := Ent.row) hlt
    have hpl := jp (hgt t[i] (List.getElem_mem _))
    have hii := xS t[i].path c.path (by omega) (by omega)
    have hks := @Qw (zx c.path) t i hlt
    have hkl := XE (zx c.path) t i (by omega)
    have hin : zx c.path t[i] = inB t[i].path c.path := rfl
    rw [hin] at hks
    generalize inB t[i].path c.path = IB at *
    clear hin hst
    generalize hGG : jV (zx c.path) (t.take i) = G at hks hkl ⊢
    clear hGG
    cases IB with
    | true =>
      rw [if_pos rfl] at hks
      repeat' (first | refine qe ?_ | (first | (refine j4 ?_) | (refine xK ?_) | refine xsF Tryz.func162 (hii ..) ?_) | ((first | refine qb ?_ ?_ | refine qc ?_ ?_ | refine xsC ?_ ?_); all_goals (intro hc; have hp := hc; try simp at hp; try (exfalso; omega))) | refine qv ?_ ?_)
      all_goals try (exfalso; omega)
      refine ⟨t.length - (i + 1), _, by omega, jt (τ := ⟨[(0, qp t), (2, .v (.int .i64 v)), (4, .fp [c.row] 0 0), (12, .os 0 0 (jV (zx c.path) (t.take (i + 1))).length), (13, .v (.int .i64 ((i + 1 : Nat) : Int)))], [(0, .own false 4 ((jV (zx c.path) (t.take (i + 1))).map Ent.row))], 1⟩) [(0, 0)] rfl ?gts ?ghs, i + 1, by omega, rfl, trivial, rfl⟩; (case gts => (repeat (first | exact qd | refine qi ?_ | refine x8 ?_ | refine vo ?_ | refine qL ?_ ?_)); all_goals (rw [hks])); (case ghs => (repeat (first | exact qh | refine jU ?_ | refine qO ?_ ?_)); all_goals (rw [hks]))
    | false =>
      rw [if_neg (by decide)] at hks
      repeat' (first | refine qe ?_ | (first | (refine j4 ?_) | (refine xK ?_) | refine xsF Tryz.func162 (hii ..) ?_) | ((first | refine qb ?_ ?_ | refine qc ?_ ?_ | refine xsC ?_ ?_); all_goals (intro hc; have hp := hc; try simp at hp; try (exfalso; omega))) | refine qv ?_ ?_)
      all_goals try (exfalso; omega)
      refine ⟨t.length - (i + 1), _, by omega, jt (τ := ⟨[(0, qp t), (2, .v (.int .i64 v)), (4, .fp [c.row] 0 0), (12, .os 0 0 (jV (zx c.path) (t.take (i + 1))).length), (13, .v (.int .i64 ((i + 1 : Nat) : Int)))], [(0, .own false 4 ((jV (zx c.path) (t.take (i + 1))).map Ent.row))], 1⟩) [(1, 0)] rfl ?gts ?ghs, i + 1, by omega, rfl, trivial, rfl⟩; (case gts => (repeat (first | exact qd | refine qi ?_ | refine x8 ?_ | refine vo ?_ | refine qL ?_ ?_)); all_goals (rw [hks]; try first | (simp; done) | (rw [List.take_of_length_le (by simp)]; simp; done))); (case ghs => (repeat (first | exact qh | refine jU ?_ | refine qO ?_ ?_)); all_goals (rw [hks]; try first | (simp; done) | (rw [List.take_of_length_le (by simp)]; simp; done)))
  · obtain rfl : i = t.length := by omega
    rw [List.take_length]
    (repeat' (first | refine qe ?_ | (first | fail) | ((first | refine qb ?_ ?_ | refine qc ?_ ?_ | refine xsC ?_ ?_); all_goals (intro hc; have hp := hc; try simp at hp; try (exfalso; omega))) | refine qv ?_ ?_))
    (all_goals try (exfalso; omega))
    refine Awp.red (wd 0 rfl (by intro row hrow; obtain ⟨x, _, rfl⟩ := List.mem_map.1 hrow; rfl)) ?_
    refine Awp.red (Wx 12 0 rfl rfl (by simp)) ?_
    (refine Awp.red (qf (ts := [(0, qp t), (2, .v (.int .i64 v)), (4, .fp [c.row] 0 0), (12, qp (jV (zx c.path) t)), (14, .v (.int .i64 ((0 : Nat) : Int)))]) ?_) ?_; ((repeat (first | exact qd | refine qi ?_ | refine qL ?_ ?_))))
    all_goals try (rw [List.drop_zero, List.take_of_length_le (by simp)]; rfl)
    refine qr (fun n σ => ∃ i : Nat, i ≤ t.length ∧ n = t.length - i ∧ (True) ∧ σ = ⟨[(0, qp t), (2, .v (.int .i64 v)), (4, .fp [c.row] 0 0), (12, qp (jV (zx c.path) t)), (14, .v (.int .i64 (i : Int)))], [], C.nh⟩) t.length ⟨0, Nat.zero_le _, rfl, trivial, rfl⟩ ?_
    rintro n σ ⟨i, hi, rfl, -, rfl⟩
    have hml : (List.map Ent.row (jV (zx c.path) t)).length = (jV (zx c.path) t).length := List.length_map ..
    (repeat' (first | refine qe ?_ | (first | fail) | ((first | refine qb ?_ ?_ | refine qc ?_ ?_ | refine xsC ?_ ?_); all_goals (intro hc; have hp := hc; try simp at hp; try (exfalso; omega))) | refine qv ?_ ?_))
    (all_goals try (exfalso; omega))
    (all_goals ((exact yy (rs := [.tmp 6, .tmp 7]))))
end Go.Proofs.YtiljlcgmcmjcoaaGreatDoor
