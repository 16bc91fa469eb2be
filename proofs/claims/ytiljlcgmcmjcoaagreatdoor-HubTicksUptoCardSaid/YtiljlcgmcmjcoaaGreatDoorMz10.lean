import Derived.Test.YtiljlcgmcmjcoaaGreatDoorMz9
import Derived.Test.YtiljlcgmcmjcoaaGreatDoorMz2
set_option linter.unusedSimpArgs false
set_option linter.unnecessarySimpa false
set_option maxHeartbeats 1000000
namespace Go.Proofs.YtiljlcgmcmjcoaaGreatDoor
open Go.Ab Go.RowKit
set_option maxRecDepth 10000
attribute [local irreducible] Awp jZ jg qJ Red qz Go.Ab.Fin qm Rz y0 qB qG ResOk jG q9 jK qV
def kY (l : List Ent) (p : qC) : Ent := if qN p = [] then ⟨[], true, [], 0⟩ else match l.find? (atP (qN p)) with | some x => x | none => ⟨[], false, [], 0⟩
def Q5 (l : List Ent) (p : qC) : Bool := decide (qN p = []) || yB l (qN p)
theorem Vw (l : List Ent) (p : qC) : yl l (qN p) = if Q5 l p = true then (if (kY l p).fold = true then 0 else 4) else 5 := by
  unfold yl Q5 kY
  by_cases h : qN p = []
  · simp [h]
  · cases hh : yB l (qN p) with
    | true =>
      obtain ⟨x, hx, hk⟩ := List.any_eq_true.1 hh
      cases hf : l.find? (atP (qN p)) with
      | none => rw [List.find?_eq_none] at hf; exact absurd hk (hf x hx)
      | some y => simp [h]
    | false => simp [h, (xx hh).1]
theorem Ko (l : List Ent) (p : qC) (hl : l.length ≤ 1000000000) (hs : qt ya l = true) (hp : p.length ≤ 140737488355328) :
    jT C.P 141 [qp l, .v (str p)] (.tup [.agg (kY l p).row, .v (.bool (Q5 l p))]) := by
  have hsp := qgH p (by omega)
  have hat := qgg l (qN p) hl hs
  by_cases h : qN p = []
  · have e1 : kY l p = ⟨[], true, [], 0⟩ := by simp [kY, h]
    have e2 : Q5 l p = true := by simp [Q5, h]
    rw [h] at hsp hat
    rw [e1, e2]
    refine qa Tryz.func141 rfl _ Tryz.ntmps141 (Nat.le_of_ble_eq_true rfl) _ Tryz.results141 0 rfl rfl ?_
    repeat' (first | refine qe ?_ | (first | refine xsQ Tryz.func169 (hsp ..) ?_ | refine xsQ Tryz.func67 (hat ..) ?_) | ((first | refine xsC ?_ ?_); all_goals (intro hc; have hp := hc; try simp at hp; try (exfalso; omega))) | refine qv ?_ ?_)
    all_goals try (exfalso; simp_all; done)
    (exact yy (rs := [.cell 4 72, .tmp 5]))
  · cases hh : yB l (qN p) with
    | true =>
      obtain ⟨hk, hpe, hfi, -⟩ := ka hs hh
      have e1 : kY l p = l[xe l (qN p)] := by simp [kY, h, hfi]
      have e2 : Q5 l p = true := by simp [Q5, hh]
      rw [hh] at hat
      rw [e1, e2]
      generalize xe l (qN p) = k at *
      have hr := qx (f := Ent.row) hk
      refine qa Tryz.func141 rfl _ Tryz.ntmps141 (Nat.le_of_ble_eq_true rfl) _ Tryz.results141 0 rfl rfl ?_
      repeat' (first | refine qe ?_ | (first | refine xsQ Tryz.func169 (hsp ..) ?_ | refine xsQ Tryz.func67 (hat ..) ?_) | ((first | refine xsC ?_ ?_); all_goals (intro hc; have hp := hc; try simp at hp; try (exfalso; omega))) | refine qv ?_ ?_)
      all_goals try (exfalso; first | exact h (by assumption) | (simp_all; done))
      (exact yy (rs := [.cell 4 72, .tmp 5]))
    | false =>
      have e1 : kY l p = ⟨[], false, [], 0⟩ := by simp [kY, h, (xx hh).1]
      have e2 : Q5 l p = false := by simp [Q5, hh, h]
      rw [hh] at hat
      rw [e1, e2]
      refine qa Tryz.func141 rfl _ Tryz.ntmps141 (Nat.le_of_ble_eq_true rfl) _ Tryz.results141 0 rfl rfl ?_
      repeat' (first | refine qe ?_ | (first | refine xsQ Tryz.func169 (hsp ..) ?_ | refine xsQ Tryz.func67 (hat ..) ?_) | ((first | refine xsC ?_ ?_); all_goals (intro hc; have hp := hc; try simp at hp; try (exfalso; omega))) | refine qv ?_ ?_)
      all_goals try (exfalso; first | exact h (by assumption) | (simp_all; done))
      (exact yy (rs := [.cell 4 72, .tmp 5]))
end Go.Proofs.YtiljlcgmcmjcoaaGreatDoor
set_option linter.unusedSimpArgs false
set_option linter.unnecessarySimpa false
set_option maxHeartbeats 1000000
namespace Go.Proofs.YtiljlcgmcmjcoaaGreatDoor
open Go.Ab Go.RowKit
set_option maxRecDepth 10000
attribute [local irreducible] Awp jZ jg qJ Red qz Go.Ab.Fin qm Rz y0 qB qG ResOk jG q9 jK qV
theorem qcD (a b : Ent) : (Op.bytesLess b.path a.path || decide (b.path = a.path)) = !ya a b := by
  unfold ya
  rcases wg a.path b.path with ⟨h1, h2, h3⟩ | ⟨h1, h2, h3⟩ | ⟨h1, h2, h3⟩
  · have h4 : ¬ b.path = a.path := fun e => h3 e.symm
    simp [h1, h2, h4]
  · simp [h1, xH]
  · simp [h1, h2]
theorem X6 {t : List Ent} (h60 : ¬ 60 < t.length) {k : Nat} (hk : k < t.length) (hs : ∀ g, g ∈ t.take k → xa g = 0) (h0 : xa t[k] ≠ 0) : xa t[k] = jC t := by
  have h1 := zv hk hs h0
  have hz : ¬ jI xa t = 0 := by rw [h1]; exact h0
  simp only [jC, h60, hz, if_false]
  rw [h1]
theorem qaz (l : List Ent) (hl : EBig l) : jT C.P 111 [qp l] (.v (.int .i64 (jC l))) := by
  have hll := hl.len
  refine qa Tryz.func111 rfl _ Tryz.ntmps111 (Nat.le_of_ble_eq_true rfl) _ Tryz.results111 0 rfl rfl ?_
  repeat' (first | refine qe ?_ | fail | ((first | refine xsC ?_ ?_); all_goals (intro hc; have hp := hc; try simp at hp; try (exfalso; omega))) | refine qv ?_ ?_)
  · apply qE
    rfl
    have h60 : 60 < l.length := by omega
    simp [jC, h60]
  have h60 : ¬ 60 < l.length := by omega
  (refine Awp.red (qf (ts := [(0, qp l), (15, qp l), (16, .v (.int .i64 l.length)), (17, .v (.int .i64 ((0 : Nat) : Int)))]) ?_) ?_; ((repeat (first | exact qd | refine qi ?_ | refine qL ?_ ?_))))
  all_goals try (rw [List.length_map]; done)
  refine qr (fun n σ => ∃ i : Nat, i ≤ l.length ∧ n = l.length - i ∧ (∀ g, g ∈ l.take i → xa g = 0) ∧ σ = ⟨[(0, qp l), (15, qp l), (16, .v (.int .i64 l.length)), (17, .v (.int .i64 (i : Int)))], [], C.nh⟩) l.length ⟨0, Nat.zero_le _, rfl, (by simp), rfl⟩ ?_
  rintro n σ ⟨i, hi, rfl, hsofar, rfl⟩
  by_cases hlt : i < l.length
  · have hr := qx (f := Ent.row) hlt
    have hsm := hl.each l[i] (List.getElem_mem _)
    have hce := K0 l[i] hsm
    repeat' (first | refine qe ?_ | (first | refine xsF Tryz.func140 (hce ..) ?_) | ((first | refine xsC ?_ ?_); all_goals (intro hc; have hp := hc; try simp at hp; try (exfalso; omega))) | refine qv ?_ ?_)
    all_goals try (exfalso; omega)
    · apply qE
      rfl
      exact X6 h60 hlt hsofar (by assumption)
    · refine ⟨l.length - (i + 1), _, by omega, qf (ts := [(0, qp l), (15, qp l), (16, .v (.int .i64 l.length)), (17, .v (.int .i64 ((i + 1 : Nat) : Int)))]) ?_, i + 1, by omega, rfl, qK hlt hsofar (by assumption), rfl⟩; ((repeat (first | exact qd | refine qi ?_ | refine qL ?_ ?_)))
  obtain rfl : i = l.length := by omega
  have hz : jI xa l = 0 := jE.2 (fun s hs => hsofar s (by rw [List.take_length]; exact hs))
  clear hsofar
  repeat' (first | refine qe ?_ | fail | ((first | refine xsC ?_ ?_); all_goals (intro hc; have hp := hc; try simp at hp; try (exfalso; omega))) | refine qv ?_ ?_)
  all_goals try (exfalso; omega)
  (refine Awp.red (qf (ts := [(0, qp l), (6, .v (.int .i64 ((0 + 1 : Nat) : Int)))]) ?_) ?_; ((repeat (first | exact qd | refine qi ?_ | refine qL ?_ ?_))))
  refine qr (fun n σ => ∃ i : Nat, i ≤ (l.drop 1).length ∧ n = (l.drop 1).length - i ∧ (∀ (k : Nat) (h : k + 1 < l.length), k < i → ya (l[k]'(by omega)) l[k + 1] = true) ∧ σ = ⟨[(0, qp l), (6, .v (.int .i64 ((i + 1 : Nat) : Int)))], [], C.nh⟩) (l.drop 1).length ⟨0, Nat.zero_le _, rfl, (fun k h hk => absurd hk (Nat.not_lt_zero _)), rfl⟩ ?_
  have hdl : (l.drop 1).length = l.length - 1 := by simp
  rintro n σ ⟨i, hi, rfl, hsofar, rfl⟩
  by_cases hlt : i + 1 < l.length
  · have hr := qx (f := Ent.row) hlt
    have hr' := qx (f := Ent.row) (l := l) (i := i) (by omega)
    have hle := qcD l[i] l[i + 1]
    repeat' (first | refine qe ?_ | fail | ((first | refine xsC ?_ ?_); all_goals (intro hc; have hp := hc; try simp at hp; try (exfalso; omega))) | refine qv ?_ ?_)
    all_goals try (exfalso; omega)
    · have hrf : ¬ qt ya l = true := fun h => by
        have := jW.1 h i hlt
        simp_all
      apply qE
      rfl
      simp [jC, h60, hz, hrf]
    · have hok : ya l[i] l[i + 1] = true := (by simp_all)
      refine ⟨(l.drop 1).length - (i + 1), _, by omega, qf (ts := [(0, qp l), (6, .v (.int .i64 ((i + 1 + 1 : Nat) : Int)))]) ?_, i + 1, by omega, rfl, (fun k h hk => by
        by_cases e : k = i
        · subst e; exact hok
        · exact hsofar k h (by omega)), rfl⟩; ((repeat (first | exact qd | refine qi ?_ | refine qL ?_ ?_)))
  have hrise : qt ya l = true := jW.2 fun k h => hsofar k h (by simp at hi; omega)
  clear hsofar
  repeat' (first | refine qe ?_ | fail | ((first | refine xsC ?_ ?_); all_goals (intro hc; have hp := hc; try simp at hp; try (exfalso; omega))) | refine qv ?_ ?_)
  all_goals try (exfalso; omega)
  (refine Awp.red (qf (ts := [(0, qp l), (7, .v (.int .i64 (if (l.take 0).any (fun x => decide (¬ yr l x = 0)) = true then 4 else 0))), (45, qp l), (46, .v (.int .i64 l.length)), (47, .v (.int .i64 ((0 : Nat) : Int)))]) ?_) ?_; ((repeat (first | exact qd | refine qi ?_ | refine qL ?_ ?_))))
  all_goals try (rw [List.length_map]; done)
  refine qr (fun n σ => ∃ i : Nat, i ≤ l.length ∧ n = l.length - i ∧ (∀ g, g ∈ l.take i → ¬ yr l g = 5) ∧ σ = ⟨[(0, qp l), (7, .v (.int .i64 (if (l.take i).any (fun x => decide (¬ yr l x = 0)) = true then 4 else 0))), (45, qp l), (46, .v (.int .i64 l.length)), (47, .v (.int .i64 (i : Int)))], [], C.nh⟩) l.length ⟨0, Nat.zero_le _, rfl, (by simp), rfl⟩ ?_
  rintro n σ ⟨i, hi, rfl, hsofar, rfl⟩
  by_cases hlt : i < l.length
  · have hr := qx (f := Ent.row) hlt
    have hsm := hl.each l[i] (List.getElem_mem _)
    have hpa := Ko l l[i].path hl.len hrise (by have := hsm.1; omega)
    have hpe : yr l l[i] = _ := Vw l l[i].path
    have htk := List.take_succ_eq_append_getElem hlt
    generalize Q5 l l[i].path = ok at hpa hpe
    generalize kY l l[i].path = pe at hpa hpe
    repeat' (first | refine qe ?_ | (first | refine xsQ Tryz.func141 (hpa ..) ?_) | ((first | refine xsC ?_ ?_); all_goals (intro hc; have hp := hc; try simp at hp; try (exfalso; omega))) | refine qv ?_ ?_)
    all_goals try (exfalso; omega)
    · have h5 : yr l l[i] = 5 := (by rw [hpe]; simp_all)
      have hany : l.any (fun x => decide (yr l x = 5)) = true := List.any_eq_true.2 ⟨l[i], List.getElem_mem _, by simp [h5]⟩
      apply qE
      rfl
      simp [jC, h60, hz, hrise, hany]
    · have h4 : yr l l[i] = 4 := (by rw [hpe]; simp_all)
      refine ⟨l.length - (i + 1), _, by omega, qf (ts := [(0, qp l), (7, .v (.int .i64 (if (l.take (i + 1)).any (fun x => decide (¬ yr l x = 0)) = true then 4 else 0))), (45, qp l), (46, .v (.int .i64 l.length)), (47, .v (.int .i64 ((i + 1 : Nat) : Int)))]) ?_, i + 1, by omega, rfl, qK hlt hsofar (by rw [h4]; decide), rfl⟩; ((repeat (first | exact qd | refine qi ?_ | refine qL ?_ ?_)); all_goals (rw [htk, List.any_append]; simp [h4]))
    · have h4 : yr l l[i] = 0 := (by rw [hpe]; simp_all)
      refine ⟨l.length - (i + 1), _, by omega, qf (ts := [(0, qp l), (7, .v (.int .i64 (if (l.take (i + 1)).any (fun x => decide (¬ yr l x = 0)) = true then 4 else 0))), (45, qp l), (46, .v (.int .i64 l.length)), (47, .v (.int .i64 ((i + 1 : Nat) : Int)))]) ?_, i + 1, by omega, rfl, qK hlt hsofar (by rw [h4]; decide), rfl⟩; ((repeat (first | exact qd | refine qi ?_ | refine qL ?_ ?_)); all_goals (rw [htk, List.any_append]; simp [h4]))
  obtain rfl : i = l.length := by omega
  rw [List.take_length] at *
  have hno : ¬ l.any (fun x => decide (yr l x = 5)) = true := fun h => by
    obtain ⟨x, hx, hk⟩ := List.any_eq_true.1 h
    exact hsofar x hx (by simpa using hk)
  have hE : jC l = if l.any (fun x => decide (¬ yr l x = 0)) = true then 4 else 0 := by
    unfold jC
    rw [if_neg h60, if_pos hz, if_pos hrise, if_neg hno]
  repeat' (first | refine qe ?_ | fail | ((first | refine xsC ?_ ?_); all_goals (intro hc; have hp := hc; try simp at hp; try (exfalso; omega))) | refine qv ?_ ?_)
  all_goals try (exfalso; omega)
  apply qE
  rfl
  exact hE.symm
end Go.Proofs.YtiljlcgmcmjcoaaGreatDoor
set_option linter.unusedSimpArgs false
set_option linter.unnecessarySimpa false
set_option maxHeartbeats 1000000
namespace Go.Proofs.YtiljlcgmcmjcoaaGreatDoor
open Go.Ab Go.RowKit
set_option maxRecDepth 10000
attribute [local irreducible] Awp jZ jg qJ Red qz Go.Ab.Fin qm Rz y0 qB qG ResOk jG q9 jK qV
def vy (t : List Ent) : List AV := [qp t]
theorem qd9 (ts : List (List Ent)) (hn : ts.length ≤ 1000000) (hs : ∀ t, t ∈ ts → EBig t) : jT C.P 65 [.sl false (ts.map vy)] (.v (.int .i64 (jI jC ts))) := by
  refine qa Tryz.func65 rfl _ Tryz.ntmps65 (Nat.le_of_ble_eq_true rfl) _ Tryz.results65 0 rfl rfl ?_
  repeat' (first | refine qe ?_ | fail | ((first | refine xsC ?_ ?_); all_goals (intro hc; have hp := hc; try simp at hp; try (exfalso; omega))) | refine qv ?_ ?_)
  (refine Awp.red (qf (ts := [(6, .sl false (ts.map vy)), (7, .v (.int .i64 ts.length)), (8, .v (.int .i64 ((0 : Nat) : Int)))]) ?_) ?_; ((repeat (first | exact qd | refine qi ?_ | refine qL ?_ ?_))))
  all_goals try (rw [List.length_map]; done)
  refine qr (fun n σ => ∃ i : Nat, i ≤ ts.length ∧ n = ts.length - i ∧ (∀ t, t ∈ ts.take i → jC t = 0) ∧ σ = ⟨[(6, .sl false (ts.map vy)), (7, .v (.int .i64 ts.length)), (8, .v (.int .i64 (i : Int)))], [], C.nh⟩) ts.length ⟨0, Nat.zero_le _, rfl, (by simp), rfl⟩ ?_
  rintro n σ ⟨i, hi, rfl, hsofar, rfl⟩
  by_cases hlt : i < ts.length
  · have hr := qx (f := vy) hlt
    have hct := qaz ts[i] (hs _ (List.getElem_mem _))
    repeat' (first | refine qe ?_ | (first | refine xsQ Tryz.func111 (hct ..) ?_) | ((first | refine xsC ?_ ?_); all_goals (intro hc; have hp := hc; try simp at hp; try (exfalso; omega))) | refine qv ?_ ?_)
    all_goals try (exfalso; omega)
    · apply qE
      rfl
      exact (zv hlt hsofar (by assumption)).symm
    · refine ⟨ts.length - (i + 1), _, by omega, qf (ts := [(6, .sl false (ts.map vy)), (7, .v (.int .i64 ts.length)), (8, .v (.int .i64 ((i + 1 : Nat) : Int)))]) ?_, i + 1, by omega, rfl, qK hlt hsofar (by assumption), rfl⟩; ((repeat (first | exact qd | refine qi ?_ | refine qL ?_ ?_)))
  obtain rfl : i = ts.length := by omega
  have hz : jI jC ts = 0 := jE.2 (fun s hs => hsofar s (by rw [List.take_length]; exact hs))
  clear hsofar
  repeat' (first | refine qe ?_ | fail | ((first | refine xsC ?_ ?_); all_goals (intro hc; have hp := hc; try simp at hp; try (exfalso; omega))) | refine qv ?_ ?_)
  all_goals try (exfalso; omega)
  apply qE
  rfl
  exact hz.symm
theorem qaq (l : List Ent) (hl : EBig l) : jT C.P 65 [.sl false [[qp l]]] (.v (.int .i64 (jC l))) := by
  have h := qd9 [l] (by simp) (by simpa using hl)
  rw [show jI jC [l] = jC l from by simp only [jI]; split <;> simp_all] at h
  exact h
theorem qek (l : List Ent) (hl : EBig l) : jT C.P 117 [qp l] (.v (.int .i64 (jC l))) := by
  have h := qaq l hl
  refine qa Tryz.func117 rfl _ Tryz.ntmps117 (Nat.le_of_ble_eq_true rfl) _ Tryz.results117 0 rfl rfl ?_
  repeat' (first | refine qe ?_ | (first | (refine j4 ?_) | refine xsQ Tryz.func65 (h ..) ?_) | ((first | refine xsC ?_ ?_); all_goals (intro hc; have hp := hc; try simp at hp; try (exfalso; omega))) | refine qv ?_ ?_)
  all_goals (apply qE; rfl; rfl)
theorem y4 (l : List Ent) (p : qC) (hl : l.length ≤ 1000000000) : jT C.P 161 [qp l, .v (str p)] (.v (.int .i64 (yg (atP p) l))) := by
  refine qa Tryz.func161 rfl _ Tryz.ntmps161 (Nat.le_of_ble_eq_true rfl) _ Tryz.results161 0 rfl rfl ?_
  repeat' (first | refine qe ?_ | fail | ((first | refine xsC ?_ ?_); all_goals (intro hc; have hp := hc; try simp at hp; try (exfalso; omega))) | refine qv ?_ ?_)
  (refine Awp.red (qf (ts := [(0, qp l), (1, .v (str p)), (5, .v (.int .i64 ((0 : Nat) : Int)))]) ?_) ?_; ((repeat (first | exact qd | refine qi ?_ | refine qL ?_ ?_))))
  refine qr (fun n σ => ∃ i : Nat, i ≤ l.length ∧ n = l.length - i ∧ (∀ x, x ∈ l.take i → atP p x = false) ∧ σ = ⟨[(0, qp l), (1, .v (str p)), (5, .v (.int .i64 (i : Int)))], [], C.nh⟩) l.length ⟨0, Nat.zero_le _, rfl, (by simp), rfl⟩ ?_
  rintro n σ ⟨i, hi, rfl, hsofar, rfl⟩
  by_cases hlt : i < l.length
  · have hr := qx (f := Ent.row) hlt
    repeat' (first | refine qe ?_ | fail | ((first | refine xsC ?_ ?_); all_goals (intro hc; have hp := hc; try simp at hp; try (exfalso; omega))) | refine qv ?_ ?_)
    all_goals try (exfalso; omega)
    · apply qE
      rfl
      exact (vV hlt hsofar (by simp_all [atP])).symm
    · refine ⟨l.length - (i + 1), _, by omega, qf (ts := [(0, qp l), (1, .v (str p)), (5, .v (.int .i64 ((i + 1 : Nat) : Int)))]) ?_, i + 1, by omega, rfl, qK hlt hsofar (by simp_all [atP]), rfl⟩; ((repeat (first | exact qd | refine qi ?_ | refine qL ?_ ?_)))
  obtain rfl : i = l.length := by omega
  repeat' (first | refine qe ?_ | fail | ((first | refine xsC ?_ ?_); all_goals (intro hc; have hp := hc; try simp at hp; try (exfalso; omega))) | refine qv ?_ ?_)
  all_goals try (exfalso; omega)
  apply qE
  rfl
  rw [xU fun x hx => hsofar x (by rw [List.take_length]; exact hx)]
theorem vh (l : List Ent) (p : qC) (hl : l.length ≤ 1000000000) : jT C.P 138 [qp l, .v (str p)] (.v (.int .i64 (yl l p))) := by
  have hea := y4 l p hl
  have hE : yl l p = if p = [] then 0 else match l.find? (atP p) with | none => 5 | some x => if x.fold = true then 0 else 4 := rfl
  generalize yl l p = E at *
  rcases Qk (atP p) l with ⟨h1, h2⟩ | ⟨k, hk, h1, h2⟩
  · rw [h1] at hea
    rw [h2] at hE
    refine qa Tryz.func138 rfl _ Tryz.ntmps138 (Nat.le_of_ble_eq_true rfl) _ Tryz.results138 0 rfl rfl ?_
    repeat' (first | refine qe ?_ | (first | refine xsF Tryz.func161 (hea ..) ?_) | ((first | refine xsC ?_ ?_); all_goals (intro hc; have hp := hc; try simp at hp; try (exfalso; omega))) | refine qv ?_ ?_)
    all_goals try (exfalso; omega)
    all_goals (apply qE; rfl; simp_all)
  · rw [h1] at hea
    rw [h2] at hE
    have hr := qx (f := Ent.row) hk
    refine qa Tryz.func138 rfl _ Tryz.ntmps138 (Nat.le_of_ble_eq_true rfl) _ Tryz.results138 0 rfl rfl ?_
    repeat' (first | refine qe ?_ | (first | refine xsF Tryz.func161 (hea ..) ?_) | ((first | refine xsC ?_ ?_); all_goals (intro hc; have hp := hc; try simp at hp; try (exfalso; omega))) | refine qv ?_ ?_)
    all_goals try (exfalso; omega)
    all_goals (apply qE; rfl; simp_all)
end Go.Proofs.YtiljlcgmcmjcoaaGreatDoor
set_option linter.unusedSimpArgs false
set_option linter.unnecessarySimpa false
set_option maxHeartbeats 1000000
namespace Go.Proofs.YtiljlcgmcmjcoaaGreatDoor
open Go.Ab Go.RowKit
set_option maxRecDepth 10000
attribute [local irreducible] Awp jZ jg qJ Red qz Go.Ab.Fin qm Rz y0 qB qG ResOk jG q9 jK qV
theorem qas {e : Ent} (h : ¬ qD e.path = 0) : xa e = qD e.path := by simp [xa, h]
theorem qaR {e : Ent} (h : qD e.path = 0) : xa e = (if e.fold = true ∧ ¬ e.text = [] then 1 else if 300 < e.text.length then 2 else if vd e.ver = true then 0 else 3) := by simp [xa, h]
theorem Wi (l : List Ent) (hl : EBig l) : jT C.P 109 [qp l] (.v (.int .i64 (jC l))) := by
  have hll := hl.len
  refine qa Tryz.func109 rfl _ Tryz.ntmps109 (Nat.le_of_ble_eq_true rfl) _ Tryz.results109 0 rfl rfl ?_
  repeat' (first | refine qe ?_ | fail | ((first | refine qb ?_ ?_ | refine qc ?_ ?_ | refine xsC ?_ ?_); all_goals (intro hc; have hp := hc; try simp at hp; try (exfalso; omega))) | refine qv ?_ ?_)
  · apply qE
    rfl
    have h60 : 60 < l.length := by omega
    simp [jC, h60]
  have h60 : ¬ 60 < l.length := by omega
  (refine Awp.red (qf (ts := [(0, qp l), (3, .v (.int .i64 ((0 : Nat) : Int)))]) ?_) ?_; ((repeat (first | exact qd | refine qi ?_ | refine qL ?_ ?_))))
  refine qr (fun n σ => ∃ i : Nat, i ≤ l.length ∧ n = l.length - i ∧ (∀ g, g ∈ l.take i → xa g = 0) ∧ σ = ⟨[(0, qp l), (3, .v (.int .i64 (i : Int)))], [], C.nh⟩) l.length ⟨0, Nat.zero_le _, rfl, (by simp), rfl⟩ ?_
  rintro n σ ⟨i, hi, rfl, hsofar, rfl⟩
  by_cases hlt : i < l.length
  · have hr := qx (f := Ent.row) hlt
    have hsm := hl.each l[i] (List.getElem_mem _)
    have hcp := QO l[i].path (by have := hsm.1; omega)
    have hvr := Zr l[i].ver
    have hlen := hsm.2
    have hfo := @qas l[i]
    have hre := @qaR l[i]
    have hte := fun h => @X6 l h60 i hlt hsofar h
    have hnx := fun h => qK (p := fun g => xa g = 0) hlt hsofar h
    generalize xa l[i] = E at *
    generalize qD l[i].path = F at *
    generalize vd l[i].ver = V at *
    repeat' (first | refine qe ?_ | (first | refine xsF Tryz.func137 (hcp ..) ?_ | refine xsF Tryz.func110 (hvr ..) ?_) | ((first | refine qb ?_ ?_ | refine qc ?_ ?_ | refine xsC ?_ ?_); all_goals (intro hc; have hp := hc; try simp at hp; try (exfalso; omega))) | refine qv ?_ ?_)
    all_goals try (exfalso; omega)
    all_goals first
      | (apply qE
         rfl
         refine Eq.trans ?_ (hte ?_) <;> (clear hte hnx; simp_all) <;> (try omega)
         done)
      | (refine ⟨l.length - (i + 1), _, by omega, qf (ts := [(0, qp l), (3, .v (.int .i64 ((i + 1 : Nat) : Int)))]) ?_, i + 1, by omega, rfl, hnx (by clear hte; simp_all; try omega), rfl⟩; ((repeat (first | exact qd | refine qi ?_ | refine qL ?_ ?_))))
  obtain rfl : i = l.length := by omega
  have hz : jI xa l = 0 := jE.2 (fun s hs => hsofar s (by rw [List.take_length]; exact hs))
  clear hsofar
  repeat' (first | refine qe ?_ | fail | ((first | refine qb ?_ ?_ | refine qc ?_ ?_ | refine xsC ?_ ?_); all_goals (intro hc; have hp := hc; try simp at hp; try (exfalso; omega))) | refine qv ?_ ?_)
  all_goals try (exfalso; omega)
  (refine Awp.red (qf (ts := [(0, qp l), (5, .v (.int .i64 ((0 + 1 : Nat) : Int)))]) ?_) ?_; ((repeat (first | exact qd | refine qi ?_ | refine qL ?_ ?_))))
  refine qr (fun n σ => ∃ i : Nat, i ≤ (l.drop 1).length ∧ n = (l.drop 1).length - i ∧ (∀ (k : Nat) (h : k + 1 < l.length), k < i → ya (l[k]'(by omega)) l[k + 1] = true) ∧ σ = ⟨[(0, qp l), (5, .v (.int .i64 ((i + 1 : Nat) : Int)))], [], C.nh⟩) (l.drop 1).length ⟨0, Nat.zero_le _, rfl, (fun k h hk => absurd hk (Nat.not_lt_zero _)), rfl⟩ ?_
  have hdl : (l.drop 1).length = l.length - 1 := by simp
  rintro n σ ⟨i, hi, rfl, hsofar, rfl⟩
  by_cases hlt : i + 1 < l.length
  · have hr := qx (f := Ent.row) hlt
    have hr' := qx (f := Ent.row) (l := l) (i := i) (by omega)
    have hle := qcD l[i] l[i + 1]
    repeat' (first | refine qe ?_ | fail | ((first | refine qb ?_ ?_ | refine qc ?_ ?_ | refine xsC ?_ ?_); all_goals (intro hc; have hp := hc; try simp at hp; try (exfalso; omega))) | refine qv ?_ ?_)
    all_goals try (exfalso; omega)
    · have hrf : ¬ qt ya l = true := fun h => by
        have := jW.1 h i hlt
        simp_all
      apply qE
      rfl
      simp [jC, h60, hz, hrf]
    · have hok : ya l[i] l[i + 1] = true := (by simp_all)
      refine ⟨(l.drop 1).length - (i + 1), _, by omega, qf (ts := [(0, qp l), (5, .v (.int .i64 ((i + 1 + 1 : Nat) : Int)))]) ?_, i + 1, by omega, rfl, (fun k h hk => by
        by_cases e : k = i
        · subst e; exact hok
        · exact hsofar k h (by omega)), rfl⟩; ((repeat (first | exact qd | refine qi ?_ | refine qL ?_ ?_)))
  have hrise : qt ya l = true := jW.2 fun k h => hsofar k h (by simp at hi; omega)
  clear hsofar
  repeat' (first | refine qe ?_ | fail | ((first | refine qb ?_ ?_ | refine qc ?_ ?_ | refine xsC ?_ ?_); all_goals (intro hc; have hp := hc; try simp at hp; try (exfalso; omega))) | refine qv ?_ ?_)
  all_goals try (exfalso; omega)
  (refine Awp.red (qf (ts := [(0, qp l), (6, .v (.int .i64 ((0 : Nat) : Int)))]) ?_) ?_; ((repeat (first | exact qd | refine qi ?_ | refine qL ?_ ?_))))
  refine qr (fun n σ => ∃ i : Nat, i ≤ l.length ∧ n = l.length - i ∧ (∀ g, g ∈ l.take i → ¬ yr l g = 5) ∧ σ = ⟨[(0, qp l), (6, .v (.int .i64 (i : Int)))], [], C.nh⟩) l.length ⟨0, Nat.zero_le _, rfl, (by simp), rfl⟩ ?_
  rintro n σ ⟨i, hi, rfl, hsofar, rfl⟩
  by_cases hlt : i < l.length
  · have hr := qx (f := Ent.row) hlt
    have hsm := hl.each l[i] (List.getElem_mem _)
    have hpo := yx l[i].path (by have := hsm.1; omega)
    have hif : jT C.P 138 [qp l, .v (str (qN l[i].path))] (.v (.int .i64 (yr l l[i]))) := vh l (qN l[i].path) hl.len
    have hnx := fun h => qK (p := fun g => ¬ yr l g = 5) hlt hsofar h
    have hany : yr l l[i] = 5 → l.any (fun x => decide (yr l x = 5)) = true := fun h => List.any_eq_true.2 ⟨l[i], List.getElem_mem _, by simp [h]⟩
    generalize yr l l[i] = E at hif hnx hany
    repeat' (first | refine qe ?_ | (first | refine xsF Tryz.func139 (hpo ..) ?_ | refine xsF Tryz.func138 (hif ..) ?_) | ((first | refine qb ?_ ?_ | refine qc ?_ ?_ | refine xsC ?_ ?_); all_goals (intro hc; have hp := hc; try simp at hp; try (exfalso; omega))) | refine qv ?_ ?_)
    all_goals try (exfalso; omega)
    · have hany := hany (by assumption)
      apply qE
      rfl
      simp [jC, h60, hz, hrise, hany]
    · refine ⟨l.length - (i + 1), _, by omega, qf (ts := [(0, qp l), (6, .v (.int .i64 ((i + 1 : Nat) : Int)))]) ?_, i + 1, by omega, rfl, hnx (by assumption), rfl⟩; ((repeat (first | exact qd | refine qi ?_ | refine qL ?_ ?_)))
  obtain rfl : i = l.length := by omega
  rw [List.take_length] at *
  have hno : ¬ l.any (fun x => decide (yr l x = 5)) = true := fun h => by
    obtain ⟨x, hx, hk⟩ := List.any_eq_true.1 h
    exact hsofar x hx (by simpa using hk)
  have hE : jC l = if l.any (fun x => decide (¬ yr l x = 0)) = true then 4 else 0 := by
    unfold jC
    rw [if_neg h60, if_pos hz, if_pos hrise, if_neg hno]
  clear hsofar
  repeat' (first | refine qe ?_ | fail | ((first | refine qb ?_ ?_ | refine qc ?_ ?_ | refine xsC ?_ ?_); all_goals (intro hc; have hp := hc; try simp at hp; try (exfalso; omega))) | refine qv ?_ ?_)
  all_goals try (exfalso; omega)
  (refine Awp.red (qf (ts := [(0, qp l), (7, .v (.int .i64 ((0 : Nat) : Int)))]) ?_) ?_; ((repeat (first | exact qd | refine qi ?_ | refine qL ?_ ?_))))
  refine qr (fun n σ => ∃ i : Nat, i ≤ l.length ∧ n = l.length - i ∧ (∀ g, g ∈ l.take i → yr l g = 0) ∧ σ = ⟨[(0, qp l), (7, .v (.int .i64 (i : Int)))], [], C.nh⟩) l.length ⟨0, Nat.zero_le _, rfl, (by simp), rfl⟩ ?_
  rintro n σ ⟨i, hi, rfl, hsofar, rfl⟩
  by_cases hlt : i < l.length
  · have hr := qx (f := Ent.row) hlt
    have hsm := hl.each l[i] (List.getElem_mem _)
    have hpo := yx l[i].path (by have := hsm.1; omega)
    have hif : jT C.P 138 [qp l, .v (str (qN l[i].path))] (.v (.int .i64 (yr l l[i]))) := vh l (qN l[i].path) hl.len
    have hnx := fun h => qK (p := fun g => yr l g = 0) hlt hsofar h
    have hany : ¬ yr l l[i] = 0 → l.any (fun x => decide (¬ yr l x = 0)) = true := fun h => List.any_eq_true.2 ⟨l[i], List.getElem_mem _, by simp [h]⟩
    generalize yr l l[i] = E at hif hnx hany
    repeat' (first | refine qe ?_ | (first | refine xsF Tryz.func139 (hpo ..) ?_ | refine xsF Tryz.func138 (hif ..) ?_) | ((first | refine qb ?_ ?_ | refine qc ?_ ?_ | refine xsC ?_ ?_); all_goals (intro hc; have hp := hc; try simp at hp; try (exfalso; omega))) | refine qv ?_ ?_)
    all_goals try (exfalso; omega)
    · have hany := hany (by assumption)
      apply qE
      rfl
      rw [hE, if_pos hany]
    · refine ⟨l.length - (i + 1), _, by omega, qf (ts := [(0, qp l), (7, .v (.int .i64 ((i + 1 : Nat) : Int)))]) ?_, i + 1, by omega, rfl, hnx (by assumption), rfl⟩; ((repeat (first | exact qd | refine qi ?_ | refine qL ?_ ?_)))
  obtain rfl : i = l.length := by omega
  rw [List.take_length] at *
  have hno : ¬ l.any (fun x => decide (¬ yr l x = 0)) = true := fun h => by
    obtain ⟨x, hx, hk⟩ := List.any_eq_true.1 h
    simp at hk
    exact hk (hsofar x hx)
  repeat' (first | refine qe ?_ | fail | ((first | refine qb ?_ ?_ | refine qc ?_ ?_ | refine xsC ?_ ?_); all_goals (intro hc; have hp := hc; try simp at hp; try (exfalso; omega))) | refine qv ?_ ?_)
  all_goals try (exfalso; omega)
  apply qE
  rfl
  rw [hE, if_neg hno]
end Go.Proofs.YtiljlcgmcmjcoaaGreatDoor
set_option linter.unusedSimpArgs false
set_option linter.unnecessarySimpa false
set_option linter.unusedVariables false
set_option maxHeartbeats 1000000
namespace Go.Proofs.YtiljlcgmcmjcoaaGreatDoor
open Go.Ab Go.RowKit
set_option maxRecDepth 10000
attribute [local irreducible] Awp jZ jg qJ Red qz Go.Ab.Fin qm Rz y0 qB qG ResOk jG q9 jK qV
def z8 (c : Chg) : Int := if (¬ c.kind = 3 ∧ ¬ c.to = []) ∨ (¬ c.kind = 2 ∧ ¬ c.text = []) then 1 else if 300 < c.text.length then 2 else if c.base < -1 ∨ 1000000 < c.base then 3 else 0
def yt (c : Chg) : Int :=
  if c.kind < 1 ∨ 4 < c.kind then 7
  else if ¬ qD c.path = 0 then qD c.path
  else if c.kind = 3 ∧ ¬ qD c.to = 0 then qD c.to
  else z8 c
theorem qg2 (c : Chg) (hc : c.small) : jT C.P 173 [.agg c.row] (.v (.int .i64 (yt c))) := by
  obtain ⟨h1, h2, h3⟩ := hc
  have hpp := Vz c.path (by omega)
  have ht := Vz c.to (by omega)
  have hR : z8 c = if (¬ c.kind = 3 ∧ ¬ c.to = []) ∨ (¬ c.kind = 2 ∧ ¬ c.text = []) then 1 else if 300 < c.text.length then 2 else if c.base < -1 ∨ 1000000 < c.base then 3 else 0 := rfl
  have hE : yt c = if c.kind < 1 ∨ 4 < c.kind then 7 else if ¬ qD c.path = 0 then qD c.path else if c.kind = 3 ∧ ¬ qD c.to = 0 then qD c.to else z8 c := rfl
  generalize yt c = E at *
  generalize z8 c = R at *
  generalize qD c.path = F at *
  generalize qD c.to = G at *
  refine qa Tryz.func173 rfl _ Tryz.ntmps173 (Nat.le_of_ble_eq_true rfl) _ Tryz.results173 0 rfl rfl ?_
  repeat' (first | refine qe ?_ | (first | refine xsF Tryz.func66 (hpp ..) ?_ | refine xsF Tryz.func66 (ht ..) ?_) | ((first | refine qb ?_ ?_ | refine qc ?_ ?_ | refine xsC ?_ ?_); all_goals (intro hc; have hp := hc; try simp at hp; try (exfalso; omega))) | refine qv ?_ ?_)
  all_goals try (exfalso; omega)
  all_goals (apply qE; rfl)
  all_goals (rw [hE])
  all_goals first
    | (rw [if_pos (by omega)]; done)
    | (rw [if_neg (by omega)]
       first
       | (rw [if_pos (by assumption)]; done)
       | (rw [if_neg (by omega)]
          first
          | (rw [if_pos ⟨by assumption, by assumption⟩]; done)
          | (rw [if_neg (by rintro ⟨_, _⟩; simp_all), hR]
             first
             | (rw [if_pos (by simp_all)]; done)
             | (rw [if_neg (by simp_all)]
                first
                | (rw [if_pos (by omega)]; done)
                | (rw [if_neg (by omega)]
                   first
                   | (rw [if_pos (by omega)]; done)
                   | (rw [if_neg (by omega)]; done))))))
theorem xQ (c : Chg) (hc : c.small) : jT C.P 160 [.agg c.row] (.v (.int .i64 (yt c))) := by
  obtain ⟨h1, h2, h3⟩ := hc
  have hpp := QO c.path (by omega)
  have ht := QO c.to (by omega)
  have hR : z8 c = if (¬ c.kind = 3 ∧ ¬ c.to = []) ∨ (¬ c.kind = 2 ∧ ¬ c.text = []) then 1 else if 300 < c.text.length then 2 else if c.base < -1 ∨ 1000000 < c.base then 3 else 0 := rfl
  have hE : yt c = if c.kind < 1 ∨ 4 < c.kind then 7 else if ¬ qD c.path = 0 then qD c.path else if c.kind = 3 ∧ ¬ qD c.to = 0 then qD c.to else z8 c := rfl
  generalize yt c = E at *
  generalize z8 c = R at *
  generalize qD c.path = F at *
  generalize qD c.to = G at *
  refine qa Tryz.func160 rfl _ Tryz.ntmps160 (Nat.le_of_ble_eq_true rfl) _ Tryz.results160 0 rfl rfl ?_
  repeat' (first | refine qe ?_ | (first | refine xsF Tryz.func137 (hpp ..) ?_ | refine xsF Tryz.func137 (ht ..) ?_) | ((first | refine qb ?_ ?_ | refine qc ?_ ?_ | refine xsC ?_ ?_); all_goals (intro hc; have hp := hc; try simp at hp; try (exfalso; omega))) | refine qv ?_ ?_)
  all_goals try (exfalso; omega)
  all_goals (apply qE; rfl)
  all_goals (rw [hE])
  all_goals first
    | (rw [if_pos (by omega)]; done)
    | (rw [if_neg (by omega)]
       first
       | (rw [if_pos (by assumption)]; done)
       | (rw [if_neg (by omega)]
          first
          | (rw [if_pos ⟨by assumption, by assumption⟩]; done)
          | (rw [if_neg (by rintro ⟨_, _⟩; simp_all), hR]
             first
             | (rw [if_pos (by simp_all)]; done)
             | (rw [if_neg (by simp_all)]
                first
                | (rw [if_pos (by omega)]; done)
                | (rw [if_neg (by omega)]
                   first
                   | (rw [if_pos (by omega)]; done)
                   | (rw [if_neg (by omega)]; done))))))
end Go.Proofs.YtiljlcgmcmjcoaaGreatDoor
set_option linter.unusedSimpArgs false
set_option linter.unnecessarySimpa false
set_option linter.unusedVariables false
set_option maxHeartbeats 1000000
namespace Go.Proofs.YtiljlcgmcmjcoaaGreatDoor
open Go.Ab Go.RowKit
set_option maxRecDepth 10000
attribute [local irreducible] Awp jZ jg qJ Red qz Go.Ab.Fin qm Rz y0 qB qG ResOk jG q9 jK qV
theorem WN (p : Ent → Bool) (g : FuncId) (hg : IsFn C.P g) (cap : List AV) (hcap : AV.pure.pureL cap = true) (l : List (Ent)) (hl : l.length ≤ 1000000) (hc : ∀ s, s ∈ l → jT C.P g ((AV.agg (Ent.row s)) :: cap) (.v (.bool (p s)))) :
    jT C.P 198 [.sl false (l.map Ent.row), .clo (.func g) [] cap] (.v (.int .i64 (yg p l))) := by
  refine qa Tryz.func198 rfl _ Tryz.ntmps198 (Nat.le_of_ble_eq_true rfl) _ Tryz.results198 0 rfl rfl ?_
  repeat' (first | refine qe ?_ | fail | ((first | refine xsC ?_ ?_); all_goals (intro hc; have hp := hc; try simp at hp; try (exfalso; omega))) | refine qv ?_ ?_)
  (refine Awp.red (qf (ts := [(0, .sl false (l.map Ent.row)), (1, .clo (.func g) [] cap), (7, .v (.int .i64 l.length)), (8, .v (.int .i64 ((0 : Nat) : Int)))]) ?_) ?_; ((repeat (first | exact qd | refine qi ?_ | refine qL ?_ ?_))))
  all_goals try (rw [List.length_map]; done)
  refine qr (fun n σ => ∃ i : Nat, i ≤ l.length ∧ n = l.length - i ∧ (∀ s, s ∈ l.take i → p s = false) ∧ σ = ⟨[(0, .sl false (l.map Ent.row)), (1, .clo (.func g) [] cap), (7, .v (.int .i64 l.length)), (8, .v (.int .i64 (i : Int)))], [], C.nh⟩) l.length ⟨0, Nat.zero_le _, rfl, (by simp), rfl⟩ ?_
  rintro n σ ⟨i, hi, rfl, hsofar, rfl⟩
  by_cases hlt : i < l.length
  · have hr := qx (f := Ent.row) hlt
    have hci := hc l[i] (List.getElem_mem _)
    repeat' (first | refine qe ?_ | (first | (apply qj; apply zK []; rfl; exact hg; exact hci; (case hz => exact ql (qM rfl) (kj hcap)); (case hfl => rfl); (case hN => exact nle rfl))) | ((first | refine xsC ?_ ?_); all_goals (intro hc; have hp := hc; try simp at hp; try (exfalso; omega))) | refine qv ?_ ?_)
    all_goals try (exfalso; omega)
    · apply qE
      rfl
      exact (vV hlt hsofar hp).symm
    · refine ⟨l.length - (i + 1), _, by omega, qf (ts := [(0, .sl false (l.map Ent.row)), (1, .clo (.func g) [] cap), (7, .v (.int .i64 l.length)), (8, .v (.int .i64 ((i + 1 : Nat) : Int)))]) ?_, i + 1, by omega, rfl, qK hlt hsofar hp, rfl⟩; ((repeat (first | exact qd | refine qi ?_ | refine qL ?_ ?_)))
  obtain rfl : i = l.length := by omega
  repeat' (first | refine qe ?_ | fail | ((first | refine xsC ?_ ?_); all_goals (intro hc; have hp := hc; try simp at hp; try (exfalso; omega))) | refine qv ?_ ?_)
  all_goals try (exfalso; omega)
  apply qE
  rfl
  exact (xU fun s hs => hsofar s (by rw [List.take_length]; exact hs)).symm
theorem qad (p : Ent → Bool) (g : FuncId) (hg : IsFn C.P g) (cap : List AV) (hcap : AV.pure.pureL cap = true) (l : List (Ent)) (hl : l.length ≤ 1000000) (hc : ∀ s, s ∈ l → jT C.P g ((AV.agg (Ent.row s)) :: cap) (.v (.bool (p s)))) :
    jT C.P 188 [.sl false (l.map Ent.row), .clo (.func g) [] cap] (.v (.bool (l.any p))) := by
  have hidx := WN p g hg cap hcap l hl hc
  refine qa Tryz.func188 rfl _ Tryz.ntmps188 (Nat.le_of_ble_eq_true rfl) _ Tryz.results188 0 rfl rfl ?_
  repeat' (first | refine qe ?_ | (first | (apply qj; apply yi []; exact jJ Tryz.func198 rfl rfl; exact hidx; (case hz => exact ql (qM rfl) (ql (xr hcap) qT)); (case hfl => rfl); (case hN => exact nle rfl))) | ((first | refine xsC ?_ ?_); all_goals (intro hc; have hp := hc; try simp at hp; try (exfalso; omega))) | refine qv ?_ ?_)
  apply qU
  rfl
  rw [← Xn]
def jL (c : Chg) : qC := if c.kind = 3 then c.to else c.path
def y9 (c : Chg) (x : Ent) : Bool := decide (c.base < x.ver) && inB x.path c.path
def xI (t : List Ent) (p : qC) : Bool := match t.find? (atP p) with | some x => x.fold | none => false
def vY (t : List Ent) (c : Chg) : Int := if c.kind = 1 then (if yB t c.path = true then 6 else 0) else if c.kind = 2 then (if xI t c.path = true then 4 else 0) else (if yB t c.path = true then 0 else 5)
def kf (t : List Ent) (c : Chg) : Int := if c.kind = 3 then (if inB c.to c.path = true then 3 else if yB t c.to = true then 6 else 0) else 0
def yc (t : List Ent) (c : Chg) : Int := if ¬ c.base = -1 ∧ t.any (y9 c) = true then 8 else 0
def zi (t : List Ent) (c : Chg) : Int :=
  if ¬ yl t (qN (jL c)) = 0 then yl t (qN (jL c))
  else if ¬ vY t c = 0 then vY t c
  else if ¬ kf t c = 0 then kf t c else yc t c
theorem qg7 (x : Ent) (c : Chg) (hc : c.path.length ≤ 140737488355328) : jT C.P 187 [.agg x.row, .fp [c.row] 0 0] (.v (.bool (y9 c x))) := by
  have hin := qdU x.path c.path hc
  have hE : y9 c x = (decide (c.base < x.ver) && inB x.path c.path) := rfl
  generalize y9 c x = E at *
  generalize inB x.path c.path = I at *
  refine qa Tryz.func187 rfl _ Tryz.ntmps187 (Nat.le_of_ble_eq_true rfl) _ Tryz.results187 0 rfl rfl ?_
  repeat' (first | refine qe ?_ | (first | refine xsF Tryz.func186 (hin ..) ?_) | ((first | refine qb ?_ ?_ | refine qc ?_ ?_ | refine xsC ?_ ?_); all_goals (intro hc; have hp := hc; try simp at hp; try (exfalso; omega))) | refine qv ?_ ?_)
  all_goals (apply qU; rfl; rw [hE]; simp_all; try (intro _; omega))
theorem qhY (t : List Ent) (c : Chg) (hl : t.length ≤ 1000000) (hs : qt ya t = true) (hcs : c.small) : jT C.P 174 [qp t, .agg c.row] (.v (.int .i64 (zi t c))) := by
  obtain ⟨l1, l2, l3⟩ := hcs
  have hpa := Ko t (jL c) (by omega) hs (by unfold jL; split <;> omega)
  have hfe := Vw t (jL c)
  have hat := qgg t c.path (by omega) hs
  have hat2 := qgg t c.to (by omega) hs
  have hin := qdU c.to c.path (by omega)
  have hcon := qad (y9 c) 187 (jJ Tryz.func187 rfl rfl) [.fp [c.row] 0 0] rfl t hl (fun x _ => qg7 x c (by omega))
  have hE : zi t c = if ¬ yl t (qN (jL c)) = 0 then yl t (qN (jL c)) else if ¬ vY t c = 0 then vY t c else if ¬ kf t c = 0 then kf t c else yc t c := rfl
  have hI : vY t c = if c.kind = 1 then (if yB t c.path = true then 6 else 0) else if c.kind = 2 then (if xI t c.path = true then 4 else 0) else (if yB t c.path = true then 0 else 5) := rfl
  have hM : kf t c = if c.kind = 3 then (if inB c.to c.path = true then 3 else if yB t c.to = true then 6 else 0) else 0 := rfl
  have hS : yc t c = if ¬ c.base = -1 ∧ t.any (y9 c) = true then 8 else 0 := rfl
  have hrow : yB t c.path = true → ∃ hk : xe t c.path < t.length, xI t c.path = t[xe t c.path].fold := fun h => by
    obtain ⟨hk, _, hfi, _⟩ := ka hs h
    exact ⟨hk, by unfold xI; rw [hfi]⟩
  have hnorow : yB t c.path = false → xI t c.path = false := fun h => by
    unfold xI; rw [(xx h).1]
  have hg3 : c.kind = 3 → jL c = c.to := fun h => by simp [jL, h]
  have hg0 : ¬ c.kind = 3 → jL c = c.path := fun h => by simp [jL, h]
  generalize zi t c = E at *
  generalize vY t c = I at *
  generalize kf t c = Mv at *
  generalize yc t c = S at *
  generalize t.any (y9 c) = NW at *
  generalize inB c.to c.path = IB at *
  generalize yB t c.to = HT at *
  generalize xe t c.to = PT at *
  generalize yl t (qN (jL c)) = FE at *
  generalize Q5 t (jL c) = OK at *
  generalize kY t (jL c) = PE at *
  cases hh : yB t c.path with
  | true =>
    obtain ⟨hk, hfo⟩ := hrow hh
    rw [hh] at hat hI
    rw [hfo] at hI
    have hr := qx (f := Ent.row) hk
    clear hrow hnorow
    generalize xe t c.path = k at *
    by_cases k3 : c.kind = 3
    · rw [hg3 k3] at hpa
      refine qa Tryz.func174 rfl _ Tryz.ntmps174 (Nat.le_of_ble_eq_true rfl) _ Tryz.results174 0 rfl rfl ?_
      repeat' (first | refine qe ?_ | (first | refine xsQ Tryz.func141 (hpa ..) ?_ | refine xsQ Tryz.func67 (hat ..) ?_ | refine xsQ Tryz.func67 (hat2 ..) ?_ | refine xsF Tryz.func186 (hin ..) ?_ | (apply qj; apply yi ([0]); exact jJ Tryz.func188 rfl rfl; exact hcon; (case hz => (refine ql (qM rfl) (ql (j3 qT (ql (qei rfl (by simp) (vL (fun row hrow => by rw [List.mem_singleton.1 hrow]; rfl))) qT)) qT))); (case hfl => rfl); (case hN => exact nle rfl))) | ((first | refine qb ?_ ?_ | refine qc ?_ ?_ | refine xsC ?_ ?_); all_goals (intro hc; have hp := hc; try simp at hp; try (exfalso; omega))) | refine qv ?_ ?_)
      all_goals try (exfalso; omega)
      all_goals (apply qE; rfl; clear hat hat2 hcon hpa hin; simp_all)
    · rw [hg0 k3] at hpa
      refine qa Tryz.func174 rfl _ Tryz.ntmps174 (Nat.le_of_ble_eq_true rfl) _ Tryz.results174 0 rfl rfl ?_
      repeat' (first | refine qe ?_ | (first | refine xsQ Tryz.func141 (hpa ..) ?_ | refine xsQ Tryz.func67 (hat ..) ?_ | refine xsQ Tryz.func67 (hat2 ..) ?_ | refine xsF Tryz.func186 (hin ..) ?_ | (apply qj; apply yi ([0]); exact jJ Tryz.func188 rfl rfl; exact hcon; (case hz => (refine ql (qM rfl) (ql (j3 qT (ql (qei rfl (by simp) (vL (fun row hrow => by rw [List.mem_singleton.1 hrow]; rfl))) qT)) qT))); (case hfl => rfl); (case hN => exact nle rfl))) | ((first | refine qb ?_ ?_ | refine qc ?_ ?_ | refine xsC ?_ ?_); all_goals (intro hc; have hp := hc; try simp at hp; try (exfalso; omega))) | refine qv ?_ ?_)
      all_goals try (exfalso; omega)
      all_goals (apply qE; rfl; clear hat hat2 hcon hpa hin; simp_all)
  | false =>
    have hfo := hnorow hh
    rw [hh] at hat hI
    rw [hfo] at hI
    clear hrow hnorow
    generalize xe t c.path = k at *
    by_cases k3 : c.kind = 3
    · rw [hg3 k3] at hpa
      refine qa Tryz.func174 rfl _ Tryz.ntmps174 (Nat.le_of_ble_eq_true rfl) _ Tryz.results174 0 rfl rfl ?_
      repeat' (first | refine qe ?_ | (first | refine xsQ Tryz.func141 (hpa ..) ?_ | refine xsQ Tryz.func67 (hat ..) ?_ | refine xsQ Tryz.func67 (hat2 ..) ?_ | refine xsF Tryz.func186 (hin ..) ?_) | ((first | refine qb ?_ ?_ | refine qc ?_ ?_ | refine xsC ?_ ?_); all_goals (intro hc; have hp := hc; try simp at hp; try (exfalso; omega))) | refine qv ?_ ?_)
      all_goals try (exfalso; omega)
      all_goals (apply qE; rfl; clear hat hat2 hcon hpa hin; simp_all)
    · rw [hg0 k3] at hpa
      refine qa Tryz.func174 rfl _ Tryz.ntmps174 (Nat.le_of_ble_eq_true rfl) _ Tryz.results174 0 rfl rfl ?_
      repeat' (first | refine qe ?_ | (first | refine xsQ Tryz.func141 (hpa ..) ?_ | refine xsQ Tryz.func67 (hat ..) ?_ | refine xsQ Tryz.func67 (hat2 ..) ?_ | refine xsF Tryz.func186 (hin ..) ?_ | (apply qj; apply yi ([0]); exact jJ Tryz.func188 rfl rfl; exact hcon; (case hz => (refine ql (qM rfl) (ql (j3 qT (ql (qei rfl (by simp) (vL (fun row hrow => by rw [List.mem_singleton.1 hrow]; rfl))) qT)) qT))); (case hfl => rfl); (case hN => exact nle rfl))) | ((first | refine qb ?_ ?_ | refine qc ?_ ?_ | refine xsC ?_ ?_); all_goals (intro hc; have hp := hc; try simp at hp; try (exfalso; omega))) | refine qv ?_ ?_)
      all_goals try (exfalso; omega)
      all_goals (apply qE; rfl; clear hat hat2 hcon hpa hin; simp_all)
end Go.Proofs.YtiljlcgmcmjcoaaGreatDoor
set_option linter.unusedSimpArgs false
set_option linter.unnecessarySimpa false
set_option linter.unusedVariables false
set_option maxHeartbeats 1000000
namespace Go.Proofs.YtiljlcgmcmjcoaaGreatDoor
open Go.Ab Go.RowKit
set_option maxRecDepth 10000
attribute [local irreducible] Awp jZ jg qJ Red qz Go.Ab.Fin qm Rz y0 qB qG ResOk jG q9 jK qV
theorem VB (l : List Ent) (hl : l.length ≤ 1000000) :
    qm C.P 101 [qp l] [] (.os 0 0 l.length) [.own false 4 (l.map Ent.row)] := by
  by_cases h0 : l = []
  · subst h0
    refine qa Tryz.func101 rfl _ Tryz.ntmps101 (Nat.le_of_ble_eq_true rfl) _ Tryz.results101 0 rfl rfl ?_
    repeat' (first | refine qe ?_ | (first | (refine j4 ?_) | (refine zc ?_) | (refine Ju ?_)) | ((first | refine xsC ?_ ?_); all_goals (intro hc; have hp := hc; try simp at hp; try (exfalso; omega))) | refine qv ?_ ?_)
    · (refine wM (C := C) (vN (C := C) 2 4 rfl (Nat.zero_le _)) ?_)
      (refine QB (rs := [.tmp 2]) [(0, 0)] 1 ?_; (repeat (first | exact qh | refine jU ?_ | refine qO ?_ ?_)); all_goals skip)
    · (refine QB (rs := [.tmp 2]) [(0, 0)] 1 ?_; (repeat (first | exact qh | refine jU ?_ | refine qO ?_ ?_)); all_goals skip)
  · refine qa Tryz.func101 rfl _ Tryz.ntmps101 (Nat.le_of_ble_eq_true rfl) _ Tryz.results101 0 rfl rfl ?_
    repeat' (first | refine qe ?_ | (first | (refine j4 ?_) | (refine zc ?_) | (apply qj; apply kV; rfl; exact (fun h => h0 (List.map_eq_nil_iff.1 h)); rfl; rfl; (first | exact .inl rfl | exact .inr rfl); exact nle rfl)) | ((first | refine xsC ?_ ?_); all_goals (intro hc; have hp := hc; try simp at hp; try (exfalso; omega))) | refine qv ?_ ?_)
    (refine QB (rs := [.tmp 2]) [(0, 0)] 1 ?_; (repeat (first | exact qh | refine jU ?_ | refine qO ?_ ?_)); all_goals skip)
theorem qag (l : List Ent) (g : Ent) (hl : l.length ≤ 1000000) :
    qm C1.P 199 [.os 0 0 l.length, .v (.int .i64 l.length), .sl false [g.row]] [.own false 4 (l.map Ent.row)] (.os 1 0 (l.length + 1)) [.dead, .own false 4 ((l ++ [g]).map Ent.row)] := by
  refine qa (C := C1) Tryz.func199 rfl _ Tryz.ntmps199 (Nat.le_of_ble_eq_true rfl) _ Tryz.results199 1 rfl rfl ?_
  repeat' (first | refine qe ?_ | (first | (refine Ji ?_) | (refine xK ?_)) | ((first | refine qb ?_ ?_ | refine qc ?_ ?_ | refine xsC ?_ ?_); all_goals (intro hc; have hp := hc; try simp at hp; try (exfalso; omega))) | refine qv ?_ ?_)
  (refine QB (rs := [.tmp 6]) [(1, 1)] 2 ?_; (apply j6 0; exact jm rfl; (repeat (first | exact qh | refine jU ?_ | refine qO ?_ ?_))); all_goals trace_state)
theorem qcF {α : Type} (R J Z : List α) (x : α) {i a b c d : Nat} (hi : i ≤ R.length) (hJ : J.length = 1 + Z.length) (ha : a = i) (hb : b = i + 1) (hc : c = i + 1) (hd : d = i + 1 + Z.length) :
    ((R.take i ++ J).take a ++ [x] ++ (R.take i ++ J).drop b).take c ++ Z ++ ((R.take i ++ J).take a ++ [x] ++ (R.take i ++ J).drop b).drop d = R.take i ++ ([x] ++ Z) := by
  subst ha; subst hb; subst hc; subst hd
  have h1 : (R.take a ++ J).take a = R.take a := by rw [List.take_append_of_le_length (by simp; omega), List.take_of_length_le (by simp; omega)]
  have h2 : (R.take a ++ [x] ++ (R.take a ++ J).drop (a + 1)).take (a + 1) = R.take a ++ [x] := by
    rw [List.take_append_of_le_length (by simp; omega), List.take_of_length_le (by simp; omega)]
  have h3 : (R.take a ++ [x] ++ (R.take a ++ J).drop (a + 1)).drop (a + 1 + Z.length) = [] := List.drop_of_length_le (by simp; omega)
  rw [h1, h2, h3]; simp
theorem qeY {α : Type} (R Z : List α) (x : α) {i a b c d m : Nat} (hi : i + 1 ≤ R.length) (ha : a = i + 1) (hc : c = i) (hd : d = i + 1) (hm : m = i + 1 + Z.length) :
    ((R.take a ++ Z ++ R.drop b).take c ++ [x] ++ (R.take a ++ Z ++ R.drop b).drop d).take m = R.take i ++ ([x] ++ Z) := by
  subst ha; subst hc; subst hd; subst hm
  have h1 : (R.take (c + 1) ++ Z ++ R.drop b).take c = R.take c := by
    rw [List.append_assoc, List.take_append_of_le_length (by simp; omega), List.take_take, Nat.min_eq_left (by omega)]
  have h2 : (R.take (c + 1) ++ Z ++ R.drop b).drop (c + 1) = Z ++ R.drop b := by
    rw [List.append_assoc, List.drop_append_of_le_length (by simp; omega), List.drop_of_length_le (by simp; omega), List.nil_append]
  rw [h1, h2, ← List.append_assoc, List.take_append_of_le_length (by simp; omega), List.take_of_length_le (by simp; omega), List.append_assoc]
theorem qbb (l : List Ent) (g : Ent) (i : Nat) (hi : i < l.length) (hl : l.length ≤ 1000000) :
    qm C1.P 199 [.os 0 0 l.length, .v (.int .i64 (i : Int)), .sl false [g.row]] [.own false 4 (l.map Ent.row)] (.os 1 0 (l.length + 1)) [.dead, .own false 4 ((l.take i ++ ([g] ++ l.drop i)).map Ent.row)] := by
  refine qa (C := C1) Tryz.func199 rfl _ Tryz.ntmps199 (Nat.le_of_ble_eq_true rfl) _ Tryz.results199 1 rfl rfl ?_
  refine Wj 0 4 (l.map Ent.row) rfl fun cap hcap => ?_
  rw [List.length_map] at hcap
  have hRt : (l.map Ent.row ++ x7 4 (cap - (l.map Ent.row).length)).take l.length = l.map Ent.row := by
    rw [List.take_append_of_le_length (by simp), List.take_of_length_le (by simp)]
  have hRl : l.length ≤ (l.map Ent.row ++ x7 4 (cap - (l.map Ent.row).length)).length := by simp
  generalize l.map Ent.row ++ x7 4 (cap - (l.map Ent.row).length) = R at hRt hRl ⊢
  have hcut : (R.drop i).take (l.length - i) = (l.drop i).map Ent.row := by rw [← List.drop_take, hRt, List.map_drop]
  have hti : R.take i = (l.take i).map Ent.row := by rw [List.map_take, ← hRt, List.take_take, Nat.min_eq_left (by omega)]
  have hck : ∀ row, row ∈ (l.drop i).map Ent.row → row.length = 4 := fun row hr => by obtain ⟨x, _, rfl⟩ := List.mem_map.1 hr; rfl
  have hcl : ∀ row, row ∈ (l.drop i).map Ent.row → row.all jS = true := fun row hr => by obtain ⟨x, _, rfl⟩ := List.mem_map.1 hr; rfl
  repeat' (first | refine qe ?_ | (first | (refine Ji ?_) | (apply qj; apply Y1; (case hx => rfl); (case hn => rfl); (case hT => rfl); (case he => rfl); (case hN => exact nle rfl)) | (apply yZ; apply wj; (case hx => rfl); (case hT => rfl); (case he => rfl); (case hE => rfl); (case hn => rfl); (case hl => (first | omega | (simp; done) | (simp only [List.length_cons, List.length_nil, List.length_map]; omega) | (simp; omega))); (case hy => exact congrArg (fun z => AV.v (Value.int IntKind.i64 z)) (show ((l.length + 1 : Nat) : Int) - (i : Int) = ((l.length + 1 - i : Nat) : Int) from by omega)); (case hxT => rfl); (case hxk => rfl); (case hz => rfl); (case hs0 => exact Nat.ne_of_beq_eq_false rfl); (case hg => omega); (case hsz => (first | omega | (simp; done) | (simp only [List.length_cons, List.length_nil, List.length_map]; omega) | (simp; omega))); (case hlen => (first | omega | (simp; done) | (simp only [List.length_cons, List.length_nil, List.length_map]; omega) | (simp; omega))); (case hN => exact nle rfl)) | (apply qj; apply QZ; exact Tryz.func206; (case hname => rfl); (case hb => rfl); (case hnx => rfl); (case hex => rfl); (case hT => rfl); (case he => rfl); (case hE => rfl); (case hx => rfl); (case hy => rfl); (case hm => rfl); (case hk => exact Nat.ne_of_beq_eq_false rfl); (case hrw => intro row hrow; rw [List.mem_singleton.1 hrow]; exact Nat.succ_ne_zero _); (case hN => exact nle rfl)) | (apply zF; apply zY; (case hx => rfl); (case hT => rfl); (case he => rfl); (case hE => rfl); (case hn => rfl); (case hsrc => exact Wp (zb rfl rfl)); (case hmin => exact Nat.min_eq_left (by (first | omega | (simp; done) | (simp only [List.length_cons, List.length_nil, List.length_map]; omega) | (simp; omega)))); (case hfit => (first | omega | (simp; done) | (simp only [List.length_cons, List.length_nil, List.length_map]; omega) | (simp; omega))); (case hN => exact nle rfl)) | (apply zF; apply zY; (case hx => rfl); (case hT => rfl); (case he => rfl); (case hE => rfl); (case hn => rfl); (case hsrc => exact V0 (cnt := l.length - i) rfl (List.mem_singleton.2 rfl) rfl (by omega) (by omega) (by first | exact hcut | simpa using hcut) hck hcl); (case hmin => (first | exact (Nat.min_eq_left (by (first | omega | (simp; done) | (simp only [List.length_cons, List.length_nil, List.length_map]; omega) | (simp; omega)))).trans (by (first | omega | (simp; done) | (simp only [List.length_cons, List.length_nil, List.length_map]; omega) | (simp; omega))) | exact (Nat.min_eq_right (by (first | omega | (simp; done) | (simp only [List.length_cons, List.length_nil, List.length_map]; omega) | (simp; omega)))).trans (by (first | omega | (simp; done) | (simp only [List.length_cons, List.length_nil, List.length_map]; omega) | (simp; omega))))); (case hfit => (first | omega | (simp; done) | (simp only [List.length_cons, List.length_nil, List.length_map]; omega) | (simp; omega))); (case hN => exact nle rfl))) | ((first | refine qb ?_ ?_ | refine qc ?_ ?_ | refine xsC ?_ ?_); all_goals (intro hc; have hp := hc; try simp at hp; try (exfalso; omega))) | refine qv ?_ ?_)
  all_goals try (exfalso; omega)
  · have hrow := qcF R (x7 4 (l.length + 1 - i)) ((l.drop i).map Ent.row) g.row (i := i) (a := 0 + i) (b := 0 + i + 1) (c := 0 + (i + 1)) (d := 0 + (i + 1) + ((l.drop i).map Ent.row).length) (by omega) (by simp; omega) (by omega) (by omega) (by omega) (by omega)
    (apply jl (rs := [.tmp 6]) [(1, 1)] 2; (case hr => (repeat (first | exact qQ | (apply qR; rfl) | (apply qF; rfl; rfl; rfl; rfl; rfl)))); (case hL => rfl); (case hh => (apply j6 0; exact jm rfl; (repeat (first | exact qh | refine jU ?_ | refine qO ?_ ?_))); all_goals (refine hrow.trans ?_; rw [hti]; simp)); (case hi => first | exact (rfl : _ = ([] : List (Nat × Nat))) | exact (rfl : _ = [((0 : Nat), (0 : Nat))]) | exact (rfl : _ = [((0 : Nat), (0 : Nat)), (1, 1)])); (case hz => first | rfl | (simp [jB, AV.ren, AV.ren.renL, qW, qq, qS]; done) | (simp [jB, AV.ren, AV.ren.renL, qW, qq, qS, *]; done) | (simp [jB, AV.ren, AV.ren.renL, qW, qq, qS]; omega)))
  · have hrow := qeY R ((l.drop i).map Ent.row) g.row (i := i) (a := 0 + 0 + (i + 1)) (b := 0 + 0 + (i + 1) + ((l.drop i).map Ent.row).length) (c := 0 + 0 + i) (d := 0 + 0 + i + 1) (m := l.length + 1) (by omega) (by omega) (by omega) (by omega) (by simp; omega)
    have hrow := hrow.trans (show _ = (l.take i ++ ([g] ++ l.drop i)).map Ent.row from by rw [hti]; simp)
    apply w6 (C := C1) 6 0 (l.length + 1)
    case hi => rfl
    case hn => rfl
    case hr => exact hrow
    case hnn => exact Nat.ne_of_beq_eq_false rfl
    case hnx => exact Nat.le_of_ble_eq_true rfl
    (apply jl (rs := [.tmp 6]) [(1, 1)] 2; (case hr => (repeat (first | exact qQ | (apply qR; rfl) | (apply qF; rfl; rfl; rfl; rfl; rfl)))); (case hL => rfl); (case hh => (apply j6 0; exact jm rfl; (repeat (first | exact qh | refine jU ?_ | refine qO ?_ ?_))); all_goals trace_state); (case hi => first | exact (rfl : _ = ([] : List (Nat × Nat))) | exact (rfl : _ = [((0 : Nat), (0 : Nat))]) | exact (rfl : _ = [((0 : Nat), (0 : Nat)), (1, 1)])); (case hz => first | rfl | (simp [jB, AV.ren, AV.ren.renL, qW, qq, qS]; done) | (simp [jB, AV.ren, AV.ren.renL, qW, qq, qS, *]; done) | (simp [jB, AV.ren, AV.ren.renL, qW, qq, qS]; omega)))
def yO (t : List Ent) (x : Ent) : List Ent := if yB t x.path = true then t.take (xe t x.path) ++ ([x] ++ t.drop (xe t x.path + 1)) else t.take (xe t x.path) ++ ([x] ++ t.drop (xe t x.path))
theorem qfS (t : List Ent) (x : Ent) (hl : t.length ≤ 1000000) (hs : qt ya t = true) :
    qm C1.P 189 [.os 0 0 t.length, .agg x.row] [.own false 4 (t.map Ent.row)] (.os 1 0 (yO t x).length) [.dead, .own false 4 ((yO t x).map Ent.row)] := by
  have hat := qgg t x.path (by omega) hs
  cases hh : yB t x.path with
  | true =>
    obtain ⟨hp0, -, -, -⟩ := ka hs hh
    have hL : yO t x = t.take (xe t x.path) ++ ([x] ++ t.drop (xe t x.path + 1)) := by simp [yO, hh]
    rw [hh] at hat
    generalize yO t x = L at hL ⊢
    generalize xe t x.path = p at hL hp0 hat
    have hlen : L.length = t.length := by rw [hL]; simp; omega
    have hrow := qx (f := Ent.row) hp0
    refine qa (C := C1) Tryz.func189 rfl _ Tryz.ntmps189 (Nat.le_of_ble_eq_true rfl) _ Tryz.results189 1 rfl rfl ?_
    repeat' (first | refine qe ?_ | (first | (apply qj; apply yi ([0]); exact jJ Tryz.func67 rfl rfl; apply hat; (case hz => (repeat' (first | exact qT | apply ql | exact qM rfl | exact yC | (apply yf; (case hn => rfl); (case hl => first | with_reducible rfl | (simp; done) | (simp [*]; done) | omega); (case hp => (first | assumption | exact yv rfl | exact ju fun _ => rfl))) | apply j8 | apply j3))); (case hfl => rfl); (case hN => exact nle rfl)) | (refine vz ?_)) | ((first | refine qb ?_ ?_ | refine qc ?_ ?_ | refine xsC ?_ ?_); all_goals (intro hc; have hp := hc; try simp at hp; try (exfalso; omega))) | refine qv ?_ ?_)
    all_goals try (exfalso; omega)
    apply w6 (C := C1) 4 0 t.length
    case hi => rfl
    case hn => rfl
    case hr => (show ((t.map Ent.row).set p x.row).take t.length = L.map Ent.row; rw [← List.map_set, hL, List.set_eq_take_append_cons_drop, if_pos hp0, List.take_of_length_le (by simp; omega)]; rfl)
    case hnn => exact Nat.ne_of_beq_eq_false rfl
    case hnx => exact Nat.le_of_ble_eq_true rfl
    (apply jl (rs := [.tmp 4]) [(2, 1)] 2; (case hr => (repeat (first | exact qQ | (apply qR; rfl) | (apply qF; rfl; rfl; rfl; rfl; rfl)))); (case hL => rfl); (case hh => (apply j6 0; exact jm rfl; (repeat (first | exact qh | refine jU ?_ | refine qO ?_ ?_))); all_goals trace_state); (case hi => first | exact (rfl : _ = ([] : List (Nat × Nat))) | exact (rfl : _ = [((0 : Nat), (0 : Nat))]) | exact (rfl : _ = [((0 : Nat), (0 : Nat)), (1, 1)])); (case hz => first | rfl | (simp [jB, AV.ren, AV.ren.renL, qW, qq, qS]; done) | (simp [jB, AV.ren, AV.ren.renL, qW, qq, qS, *]; done) | (simp [jB, AV.ren, AV.ren.renL, qW, qq, qS]; omega)))
  | false =>
    have hL : yO t x = t.take (xe t x.path) ++ ([x] ++ t.drop (xe t x.path)) := by simp [yO, hh]
    have hple := qgo t x.path
    rw [hh] at hat
    generalize yO t x = L at hL ⊢
    generalize xe t x.path = p at hL hple hat
    have hlen : L.length = t.length + 1 := by rw [hL]; simp; omega
    by_cases hp0 : p = t.length
    · have hin := qag t x hl
      have hL2 : L = t ++ [x] := by rw [hL, hp0]; simp
      rw [hp0] at hat
      refine qa (C := C1) Tryz.func189 rfl _ Tryz.ntmps189 (Nat.le_of_ble_eq_true rfl) _ Tryz.results189 1 rfl rfl ?_
      repeat' (first | refine qe ?_ | (first | (apply qj; apply yi ([0]); exact jJ Tryz.func67 rfl rfl; apply hat; (case hz => (repeat' (first | exact qT | apply ql | exact qM rfl | exact yC | (apply yf; (case hn => rfl); (case hl => first | with_reducible rfl | (simp; done) | (simp [*]; done) | omega); (case hp => (first | assumption | exact yv rfl | exact ju fun _ => rfl))) | apply j8 | apply j3))); (case hfl => rfl); (case hN => exact nle rfl)) | (refine vz ?_) | (refine j4 ?_) | (apply qH Tryz.func199 rfl rfl; intro hIsFn; refine v7 ([0]) 0 hIsFn (hin ..) ?_)) | ((first | refine qb ?_ ?_ | refine qc ?_ ?_ | refine xsC ?_ ?_); all_goals (intro hc; have hp := hc; try simp at hp; try (exfalso; omega))) | refine qv ?_ ?_)
      all_goals try (exfalso; omega)
      (apply jl (rs := [.tmp 4]) [(2, 1)] 2; (case hr => (repeat (first | exact qQ | (apply qR; rfl) | (apply qF; rfl; rfl; rfl; rfl; rfl)))); (case hL => rfl); (case hh => (apply j6 0; exact jm rfl; (repeat (first | exact qh | refine jU ?_ | refine qO ?_ ?_))); all_goals (rw [hL2])); (case hi => first | exact (rfl : _ = ([] : List (Nat × Nat))) | exact (rfl : _ = [((0 : Nat), (0 : Nat))]) | exact (rfl : _ = [((0 : Nat), (0 : Nat)), (1, 1)])); (case hz => first | rfl | (simp [jB, AV.ren, AV.ren.renL, qW, qq, qS]; done) | (simp [jB, AV.ren, AV.ren.renL, qW, qq, qS, *]; done) | (simp [jB, AV.ren, AV.ren.renL, qW, qq, qS]; omega)))
    · have hin := qbb t x p (by omega) hl
      refine qa (C := C1) Tryz.func189 rfl _ Tryz.ntmps189 (Nat.le_of_ble_eq_true rfl) _ Tryz.results189 1 rfl rfl ?_
      repeat' (first | refine qe ?_ | (first | (apply qj; apply yi ([0]); exact jJ Tryz.func67 rfl rfl; apply hat; (case hz => (repeat' (first | exact qT | apply ql | exact qM rfl | exact yC | (apply yf; (case hn => rfl); (case hl => first | with_reducible rfl | (simp; done) | (simp [*]; done) | omega); (case hp => (first | assumption | exact yv rfl | exact ju fun _ => rfl))) | apply j8 | apply j3))); (case hfl => rfl); (case hN => exact nle rfl)) | (refine vz ?_) | (refine j4 ?_) | (apply qH Tryz.func199 rfl rfl; intro hIsFn; refine v7 ([0]) 0 hIsFn (hin ..) ?_)) | ((first | refine qb ?_ ?_ | refine qc ?_ ?_ | refine xsC ?_ ?_); all_goals (intro hc; have hp := hc; try simp at hp; try (exfalso; omega))) | refine qv ?_ ?_)
      all_goals try (exfalso; omega)
      (apply jl (rs := [.tmp 4]) [(2, 1)] 2; (case hr => (repeat (first | exact qQ | (apply qR; rfl) | (apply qF; rfl; rfl; rfl; rfl; rfl)))); (case hL => rfl); (case hh => (apply j6 0; exact jm rfl; (repeat (first | exact qh | refine jU ?_ | refine qO ?_ ?_))); all_goals (rw [hL])); (case hi => first | exact (rfl : _ = ([] : List (Nat × Nat))) | exact (rfl : _ = [((0 : Nat), (0 : Nat))]) | exact (rfl : _ = [((0 : Nat), (0 : Nat)), (1, 1)])); (case hz => first | rfl | (simp [jB, AV.ren, AV.ren.renL, qW, qq, qS]; done) | (simp [jB, AV.ren, AV.ren.renL, qW, qq, qS, *]; done) | (simp [jB, AV.ren, AV.ren.renL, qW, qq, qS]; omega)))
end Go.Proofs.YtiljlcgmcmjcoaaGreatDoor
