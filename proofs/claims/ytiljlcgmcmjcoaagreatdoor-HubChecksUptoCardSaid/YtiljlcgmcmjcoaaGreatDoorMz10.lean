import Derived.Test.YtiljlcgmcmjcoaaGreatDoorMz9
import Derived.Test.YtiljlcgmcmjcoaaGreatDoorMz2
set_option linter.unusedSimpArgs false
set_option linter.unnecessarySimpa false
set_option maxHeartbeats 1000000
namespace Go.Proofs.YtiljlcgmcmjcoaaGreatDoor
open Go.Ab Go.RowKit
set_option maxRecDepth 10000
attribute [local irreducible] Awp jV q9 qJ Red qy Go.Ab.Fin ql Rz yQ qA qG ResOk jC q6 jH qT
def kW (l : List Ent) (p : qB) : Ent := if qL p = [] then ⟨[], true, [], 0⟩ else match l.find? (atP (qL p)) with | some x => x | none => ⟨[], false, [], 0⟩
def QX (l : List Ent) (p : qB) : Bool := decide (qL p = []) || yy l (qL p)
theorem Vr (l : List Ent) (p : qB) : ye l (qL p) = if QX l p = true then (if (kW l p).fold = true then 0 else 4) else 5 := by
  unfold ye QX kW
  by_cases h : qL p = []
  · simp [h]
  · cases hh : yy l (qL p) with
    | true =>
      obtain ⟨x, hx, hk⟩ := List.any_eq_true.1 hh
      cases hf : l.find? (atP (qL p)) with
      | none => rw [List.find?_eq_none] at hf; exact absurd hk (hf x hx)
      | some y => simp [h]
    | false => simp [h, (xi hh).1]
theorem Z8 (l : List Ent) (p : qB) (hl : l.length ≤ 1000000000) (hs : qr j5 l = true) (hp : p.length ≤ 140737488355328) :
    jY C.P 141 [qq l, .v (str p)] (.tup [.agg (kW l p).row, .v (.bool (QX l p))]) := by
  have hsp := qfH p (by omega)
  have hat := qfJ l (qL p) hl hs
  by_cases h : qL p = []
  · have e1 : kW l p = ⟨[], true, [], 0⟩ := by simp [kW, h]
    have e2 : QX l p = true := by simp [QX, h]
    rw [h] at hsp hat
    rw [e1, e2]
    refine qa Tryz.func141 rfl _ Tryz.ntmps141 (Nat.le_of_ble_eq_true rfl) _ Tryz.results141 0 rfl rfl ?_
    repeat' (first | refine qe ?_ | (first | refine xsQ Tryz.func169 (hsp ..) ?_ | refine xsQ Tryz.func67 (hat ..) ?_) | ((first | refine xsC ?_ ?_); all_goals (intro hc; have hp := hc; try simp at hp; try (exfalso; omega))) | refine qw ?_ ?_)
    all_goals try (exfalso; simp_all; done)
    (exact yv (rs := [.cell 4 72, .tmp 5]))
  · cases hh : yy l (qL p) with
    | true =>
      obtain ⟨hk, hpe, hfi, -⟩ := zP hs hh
      have e1 : kW l p = l[y3 l (qL p)] := by simp [kW, h, hfi]
      have e2 : QX l p = true := by simp [QX, hh]
      rw [hh] at hat
      rw [e1, e2]
      generalize y3 l (qL p) = k at *
      have hr := qF (f := Ent.row) hk
      refine qa Tryz.func141 rfl _ Tryz.ntmps141 (Nat.le_of_ble_eq_true rfl) _ Tryz.results141 0 rfl rfl ?_
      repeat' (first | refine qe ?_ | (first | refine xsQ Tryz.func169 (hsp ..) ?_ | refine xsQ Tryz.func67 (hat ..) ?_) | ((first | refine xsC ?_ ?_); all_goals (intro hc; have hp := hc; try simp at hp; try (exfalso; omega))) | refine qw ?_ ?_)
      all_goals try (exfalso; first | exact h (by assumption) | (simp_all; done))
      (exact yv (rs := [.cell 4 72, .tmp 5]))
    | false =>
      have e1 : kW l p = ⟨[], false, [], 0⟩ := by simp [kW, h, (xi hh).1]
      have e2 : QX l p = false := by simp [QX, hh, h]
      rw [hh] at hat
      rw [e1, e2]
      refine qa Tryz.func141 rfl _ Tryz.ntmps141 (Nat.le_of_ble_eq_true rfl) _ Tryz.results141 0 rfl rfl ?_
      repeat' (first | refine qe ?_ | (first | refine xsQ Tryz.func169 (hsp ..) ?_ | refine xsQ Tryz.func67 (hat ..) ?_) | ((first | refine xsC ?_ ?_); all_goals (intro hc; have hp := hc; try simp at hp; try (exfalso; omega))) | refine qw ?_ ?_)
      all_goals try (exfalso; first | exact h (by assumption) | (simp_all; done))
      (exact yv (rs := [.cell 4 72, .tmp 5]))
end Go.Proofs.YtiljlcgmcmjcoaaGreatDoor
set_option linter.unusedSimpArgs false
set_option linter.unnecessarySimpa false
set_option maxHeartbeats 1000000
namespace Go.Proofs.YtiljlcgmcmjcoaaGreatDoor
open Go.Ab Go.RowKit
set_option maxRecDepth 10000
attribute [local irreducible] Awp jV q9 qJ Red qy Go.Ab.Fin ql Rz yQ qA qG ResOk jC q6 jH qT
theorem qb7 (a b : Ent) : (Op.bytesLess b.path a.path || decide (b.path = a.path)) = !j5 a b := by
  unfold j5
  rcases wc a.path b.path with ⟨h1, h2, h3⟩ | ⟨h1, h2, h3⟩ | ⟨h1, h2, h3⟩
  · have h4 : ¬ b.path = a.path := fun e => h3 e.symm
    simp [h1, h2, h4]
  · simp [h1, xu]
  · simp [h1, h2]
theorem XT {t : List Ent} (h60 : ¬ 60 < t.length) {k : Nat} (hk : k < t.length) (hs : ∀ g, g ∈ t.take k → yY g = 0) (h0 : yY t[k] ≠ 0) : yY t[k] = jx t := by
  have h1 := vZ hk hs h0
  have hz : ¬ jF yY t = 0 := by rw [h1]; exact h0
  simp only [jx, h60, hz, if_false]
  rw [h1]
theorem WN (l : List Ent) (hl : EBig l) : jY C.P 111 [qq l] (.v (.int .i64 (jx l))) := by
  have hll := hl.len
  refine qa Tryz.func111 rfl _ Tryz.ntmps111 (Nat.le_of_ble_eq_true rfl) _ Tryz.results111 0 rfl rfl ?_
  repeat' (first | refine qe ?_ | fail | ((first | refine xsC ?_ ?_); all_goals (intro hc; have hp := hc; try simp at hp; try (exfalso; omega))) | refine qw ?_ ?_)
  · apply qD
    rfl
    have h60 : 60 < l.length := by omega
    simp [jx, h60]
  have h60 : ¬ 60 < l.length := by omega
  (refine Awp.red (qh (ts := [(0, qq l), (15, qq l), (16, .v (.int .i64 l.length)), (17, .v (.int .i64 ((0 : Nat) : Int)))]) ?_) ?_; ((repeat (first | exact qd | refine qi ?_ | refine qR ?_ ?_))))
  all_goals try (rw [List.length_map]; done)
  refine qu (fun n σ => ∃ i : Nat, i ≤ l.length ∧ n = l.length - i ∧ (∀ g, g ∈ l.take i → yY g = 0) ∧ σ = ⟨[(0, qq l), (15, qq l), (16, .v (.int .i64 l.length)), (17, .v (.int .i64 (i : Int)))], [], C.nh⟩) l.length ⟨0, Nat.zero_le _, rfl, (by simp), rfl⟩ ?_
  rintro n σ ⟨i, hi, rfl, hsofar, rfl⟩
  by_cases hlt : i < l.length
  · have hr := qF (f := Ent.row) hlt
    have hsm := hl.each l[i] (List.getElem_mem _)
    have hce := Kn l[i] hsm
    repeat' (first | refine qe ?_ | (first | refine xsF Tryz.func140 (hce ..) ?_) | ((first | refine xsC ?_ ?_); all_goals (intro hc; have hp := hc; try simp at hp; try (exfalso; omega))) | refine qw ?_ ?_)
    all_goals try (exfalso; omega)
    · apply qD
      rfl
      exact XT h60 hlt hsofar (by assumption)
    · refine ⟨l.length - (i + 1), _, by omega, qh (ts := [(0, qq l), (15, qq l), (16, .v (.int .i64 l.length)), (17, .v (.int .i64 ((i + 1 : Nat) : Int)))]) ?_, i + 1, by omega, rfl, qK hlt hsofar (by assumption), rfl⟩; ((repeat (first | exact qd | refine qi ?_ | refine qR ?_ ?_)))
  obtain rfl : i = l.length := by omega
  have hz : jF yY l = 0 := jz.2 (fun s hs => hsofar s (by rw [List.take_length]; exact hs))
  clear hsofar
  repeat' (first | refine qe ?_ | fail | ((first | refine xsC ?_ ?_); all_goals (intro hc; have hp := hc; try simp at hp; try (exfalso; omega))) | refine qw ?_ ?_)
  all_goals try (exfalso; omega)
  (refine Awp.red (qh (ts := [(0, qq l), (6, .v (.int .i64 ((0 + 1 : Nat) : Int)))]) ?_) ?_; ((repeat (first | exact qd | refine qi ?_ | refine qR ?_ ?_))))
  refine qu (fun n σ => ∃ i : Nat, i ≤ (l.drop 1).length ∧ n = (l.drop 1).length - i ∧ (∀ (k : Nat) (h : k + 1 < l.length), k < i → j5 (l[k]'(by omega)) l[k + 1] = true) ∧ σ = ⟨[(0, qq l), (6, .v (.int .i64 ((i + 1 : Nat) : Int)))], [], C.nh⟩) (l.drop 1).length ⟨0, Nat.zero_le _, rfl, (fun k h hk => absurd hk (Nat.not_lt_zero _)), rfl⟩ ?_
  have hdl : (l.drop 1).length = l.length - 1 := by simp
  rintro n σ ⟨i, hi, rfl, hsofar, rfl⟩
  by_cases hlt : i + 1 < l.length
  · have hr := qF (f := Ent.row) hlt
    have hr' := qF (f := Ent.row) (l := l) (i := i) (by omega)
    have hle := qb7 l[i] l[i + 1]
    repeat' (first | refine qe ?_ | fail | ((first | refine xsC ?_ ?_); all_goals (intro hc; have hp := hc; try simp at hp; try (exfalso; omega))) | refine qw ?_ ?_)
    all_goals try (exfalso; omega)
    · have hrf : ¬ qr j5 l = true := fun h => by
        have := jT.1 h i hlt
        simp_all
      apply qD
      rfl
      simp [jx, h60, hz, hrf]
    · have hok : j5 l[i] l[i + 1] = true := (by simp_all)
      refine ⟨(l.drop 1).length - (i + 1), _, by omega, qh (ts := [(0, qq l), (6, .v (.int .i64 ((i + 1 + 1 : Nat) : Int)))]) ?_, i + 1, by omega, rfl, (fun k h hk => by
        by_cases e : k = i
        · subst e; exact hok
        · exact hsofar k h (by omega)), rfl⟩; ((repeat (first | exact qd | refine qi ?_ | refine qR ?_ ?_)))
  have hrise : qr j5 l = true := jT.2 fun k h => hsofar k h (by simp at hi; omega)
  clear hsofar
  repeat' (first | refine qe ?_ | fail | ((first | refine xsC ?_ ?_); all_goals (intro hc; have hp := hc; try simp at hp; try (exfalso; omega))) | refine qw ?_ ?_)
  all_goals try (exfalso; omega)
  (refine Awp.red (qh (ts := [(0, qq l), (7, .v (.int .i64 (if (l.take 0).any (fun x => decide (¬ yp l x = 0)) = true then 4 else 0))), (45, qq l), (46, .v (.int .i64 l.length)), (47, .v (.int .i64 ((0 : Nat) : Int)))]) ?_) ?_; ((repeat (first | exact qd | refine qi ?_ | refine qR ?_ ?_))))
  all_goals try (rw [List.length_map]; done)
  refine qu (fun n σ => ∃ i : Nat, i ≤ l.length ∧ n = l.length - i ∧ (∀ g, g ∈ l.take i → ¬ yp l g = 5) ∧ σ = ⟨[(0, qq l), (7, .v (.int .i64 (if (l.take i).any (fun x => decide (¬ yp l x = 0)) = true then 4 else 0))), (45, qq l), (46, .v (.int .i64 l.length)), (47, .v (.int .i64 (i : Int)))], [], C.nh⟩) l.length ⟨0, Nat.zero_le _, rfl, (by simp), rfl⟩ ?_
  rintro n σ ⟨i, hi, rfl, hsofar, rfl⟩
  by_cases hlt : i < l.length
  · have hr := qF (f := Ent.row) hlt
    have hsm := hl.each l[i] (List.getElem_mem _)
    have hpa := Z8 l l[i].path hl.len hrise (by have := hsm.1; omega)
    have hpe : yp l l[i] = _ := Vr l l[i].path
    have htk := List.take_succ_eq_append_getElem hlt
    generalize QX l l[i].path = ok at hpa hpe
    generalize kW l l[i].path = pe at hpa hpe
    repeat' (first | refine qe ?_ | (first | refine xsQ Tryz.func141 (hpa ..) ?_) | ((first | refine xsC ?_ ?_); all_goals (intro hc; have hp := hc; try simp at hp; try (exfalso; omega))) | refine qw ?_ ?_)
    all_goals try (exfalso; omega)
    · have h5 : yp l l[i] = 5 := (by rw [hpe]; simp_all)
      have hany : l.any (fun x => decide (yp l x = 5)) = true := List.any_eq_true.2 ⟨l[i], List.getElem_mem _, by simp [h5]⟩
      apply qD
      rfl
      simp [jx, h60, hz, hrise, hany]
    · have h4 : yp l l[i] = 4 := (by rw [hpe]; simp_all)
      refine ⟨l.length - (i + 1), _, by omega, qh (ts := [(0, qq l), (7, .v (.int .i64 (if (l.take (i + 1)).any (fun x => decide (¬ yp l x = 0)) = true then 4 else 0))), (45, qq l), (46, .v (.int .i64 l.length)), (47, .v (.int .i64 ((i + 1 : Nat) : Int)))]) ?_, i + 1, by omega, rfl, qK hlt hsofar (by rw [h4]; decide), rfl⟩; ((repeat (first | exact qd | refine qi ?_ | refine qR ?_ ?_)); all_goals (rw [htk, List.any_append]; simp [h4]))
    · have h4 : yp l l[i] = 0 := (by rw [hpe]; simp_all)
      refine ⟨l.length - (i + 1), _, by omega, qh (ts := [(0, qq l), (7, .v (.int .i64 (if (l.take (i + 1)).any (fun x => decide (¬ yp l x = 0)) = true then 4 else 0))), (45, qq l), (46, .v (.int .i64 l.length)), (47, .v (.int .i64 ((i + 1 : Nat) : Int)))]) ?_, i + 1, by omega, rfl, qK hlt hsofar (by rw [h4]; decide), rfl⟩; ((repeat (first | exact qd | refine qi ?_ | refine qR ?_ ?_)); all_goals (rw [htk, List.any_append]; simp [h4]))
  obtain rfl : i = l.length := by omega
  rw [List.take_length] at *
  have hno : ¬ l.any (fun x => decide (yp l x = 5)) = true := fun h => by
    obtain ⟨x, hx, hk⟩ := List.any_eq_true.1 h
    exact hsofar x hx (by simpa using hk)
  have hE : jx l = if l.any (fun x => decide (¬ yp l x = 0)) = true then 4 else 0 := by
    unfold jx
    rw [if_neg h60, if_pos hz, if_pos hrise, if_neg hno]
  repeat' (first | refine qe ?_ | fail | ((first | refine xsC ?_ ?_); all_goals (intro hc; have hp := hc; try simp at hp; try (exfalso; omega))) | refine qw ?_ ?_)
  all_goals try (exfalso; omega)
  apply qD
  rfl
  exact hE.symm
end Go.Proofs.YtiljlcgmcmjcoaaGreatDoor
set_option linter.unusedSimpArgs false
set_option linter.unnecessarySimpa false
set_option maxHeartbeats 1000000
namespace Go.Proofs.YtiljlcgmcmjcoaaGreatDoor
open Go.Ab Go.RowKit
set_option maxRecDepth 10000
attribute [local irreducible] Awp jV q9 qJ Red qy Go.Ab.Fin ql Rz yQ qA qG ResOk jC q6 jH qT
def zT (t : List Ent) : List AV := [qq t]
theorem qdz (ts : List (List Ent)) (hn : ts.length ≤ 1000000) (hs : ∀ t, t ∈ ts → EBig t) : jY C.P 65 [.sl false (ts.map zT)] (.v (.int .i64 (jF jx ts))) := by
  refine qa Tryz.func65 rfl _ Tryz.ntmps65 (Nat.le_of_ble_eq_true rfl) _ Tryz.results65 0 rfl rfl ?_
  repeat' (first | refine qe ?_ | fail | ((first | refine xsC ?_ ?_); all_goals (intro hc; have hp := hc; try simp at hp; try (exfalso; omega))) | refine qw ?_ ?_)
  (refine Awp.red (qh (ts := [(6, .sl false (ts.map zT)), (7, .v (.int .i64 ts.length)), (8, .v (.int .i64 ((0 : Nat) : Int)))]) ?_) ?_; ((repeat (first | exact qd | refine qi ?_ | refine qR ?_ ?_))))
  all_goals try (rw [List.length_map]; done)
  refine qu (fun n σ => ∃ i : Nat, i ≤ ts.length ∧ n = ts.length - i ∧ (∀ t, t ∈ ts.take i → jx t = 0) ∧ σ = ⟨[(6, .sl false (ts.map zT)), (7, .v (.int .i64 ts.length)), (8, .v (.int .i64 (i : Int)))], [], C.nh⟩) ts.length ⟨0, Nat.zero_le _, rfl, (by simp), rfl⟩ ?_
  rintro n σ ⟨i, hi, rfl, hsofar, rfl⟩
  by_cases hlt : i < ts.length
  · have hr := qF (f := zT) hlt
    have hct := WN ts[i] (hs _ (List.getElem_mem _))
    repeat' (first | refine qe ?_ | (first | refine xsQ Tryz.func111 (hct ..) ?_) | ((first | refine xsC ?_ ?_); all_goals (intro hc; have hp := hc; try simp at hp; try (exfalso; omega))) | refine qw ?_ ?_)
    all_goals try (exfalso; omega)
    · apply qD
      rfl
      exact (vZ hlt hsofar (by assumption)).symm
    · refine ⟨ts.length - (i + 1), _, by omega, qh (ts := [(6, .sl false (ts.map zT)), (7, .v (.int .i64 ts.length)), (8, .v (.int .i64 ((i + 1 : Nat) : Int)))]) ?_, i + 1, by omega, rfl, qK hlt hsofar (by assumption), rfl⟩; ((repeat (first | exact qd | refine qi ?_ | refine qR ?_ ?_)))
  obtain rfl : i = ts.length := by omega
  have hz : jF jx ts = 0 := jz.2 (fun s hs => hsofar s (by rw [List.take_length]; exact hs))
  clear hsofar
  repeat' (first | refine qe ?_ | fail | ((first | refine xsC ?_ ?_); all_goals (intro hc; have hp := hc; try simp at hp; try (exfalso; omega))) | refine qw ?_ ?_)
  all_goals try (exfalso; omega)
  apply qD
  rfl
  exact hz.symm
theorem W4 (l : List Ent) (hl : EBig l) : jY C.P 65 [.sl false [[qq l]]] (.v (.int .i64 (jx l))) := by
  have h := qdz [l] (by simp) (by simpa using hl)
  rw [show jF jx [l] = jx l from by simp only [jF]; split <;> simp_all] at h
  exact h
theorem qeT (l : List Ent) (hl : EBig l) : jY C.P 117 [qq l] (.v (.int .i64 (jx l))) := by
  have h := W4 l hl
  refine qa Tryz.func117 rfl _ Tryz.ntmps117 (Nat.le_of_ble_eq_true rfl) _ Tryz.results117 0 rfl rfl ?_
  repeat' (first | refine qe ?_ | (first | (refine jZ ?_) | refine xsQ Tryz.func65 (h ..) ?_) | ((first | refine xsC ?_ ?_); all_goals (intro hc; have hp := hc; try simp at hp; try (exfalso; omega))) | refine qw ?_ ?_)
  all_goals (apply qD; rfl; rfl)
theorem yS (l : List Ent) (p : qB) (hl : l.length ≤ 1000000000) : jY C.P 161 [qq l, .v (str p)] (.v (.int .i64 (yj (atP p) l))) := by
  refine qa Tryz.func161 rfl _ Tryz.ntmps161 (Nat.le_of_ble_eq_true rfl) _ Tryz.results161 0 rfl rfl ?_
  repeat' (first | refine qe ?_ | fail | ((first | refine xsC ?_ ?_); all_goals (intro hc; have hp := hc; try simp at hp; try (exfalso; omega))) | refine qw ?_ ?_)
  (refine Awp.red (qh (ts := [(0, qq l), (1, .v (str p)), (5, .v (.int .i64 ((0 : Nat) : Int)))]) ?_) ?_; ((repeat (first | exact qd | refine qi ?_ | refine qR ?_ ?_))))
  refine qu (fun n σ => ∃ i : Nat, i ≤ l.length ∧ n = l.length - i ∧ (∀ x, x ∈ l.take i → atP p x = false) ∧ σ = ⟨[(0, qq l), (1, .v (str p)), (5, .v (.int .i64 (i : Int)))], [], C.nh⟩) l.length ⟨0, Nat.zero_le _, rfl, (by simp), rfl⟩ ?_
  rintro n σ ⟨i, hi, rfl, hsofar, rfl⟩
  by_cases hlt : i < l.length
  · have hr := qF (f := Ent.row) hlt
    repeat' (first | refine qe ?_ | fail | ((first | refine xsC ?_ ?_); all_goals (intro hc; have hp := hc; try simp at hp; try (exfalso; omega))) | refine qw ?_ ?_)
    all_goals try (exfalso; omega)
    · apply qD
      rfl
      exact (vJ hlt hsofar (by simp_all [atP])).symm
    · refine ⟨l.length - (i + 1), _, by omega, qh (ts := [(0, qq l), (1, .v (str p)), (5, .v (.int .i64 ((i + 1 : Nat) : Int)))]) ?_, i + 1, by omega, rfl, qK hlt hsofar (by simp_all [atP]), rfl⟩; ((repeat (first | exact qd | refine qi ?_ | refine qR ?_ ?_)))
  obtain rfl : i = l.length := by omega
  repeat' (first | refine qe ?_ | fail | ((first | refine xsC ?_ ?_); all_goals (intro hc; have hp := hc; try simp at hp; try (exfalso; omega))) | refine qw ?_ ?_)
  all_goals try (exfalso; omega)
  apply qD
  rfl
  rw [xY fun x hx => hsofar x (by rw [List.take_length]; exact hx)]
theorem va (l : List Ent) (p : qB) (hl : l.length ≤ 1000000000) : jY C.P 138 [qq l, .v (str p)] (.v (.int .i64 (ye l p))) := by
  have hea := yS l p hl
  have hE : ye l p = if p = [] then 0 else match l.find? (atP p) with | none => 5 | some x => if x.fold = true then 0 else 4 := rfl
  generalize ye l p = E at *
  rcases Qo (atP p) l with ⟨h1, h2⟩ | ⟨k, hk, h1, h2⟩
  · rw [h1] at hea
    rw [h2] at hE
    refine qa Tryz.func138 rfl _ Tryz.ntmps138 (Nat.le_of_ble_eq_true rfl) _ Tryz.results138 0 rfl rfl ?_
    repeat' (first | refine qe ?_ | (first | refine xsF Tryz.func161 (hea ..) ?_) | ((first | refine xsC ?_ ?_); all_goals (intro hc; have hp := hc; try simp at hp; try (exfalso; omega))) | refine qw ?_ ?_)
    all_goals try (exfalso; omega)
    all_goals (apply qD; rfl; simp_all)
  · rw [h1] at hea
    rw [h2] at hE
    have hr := qF (f := Ent.row) hk
    refine qa Tryz.func138 rfl _ Tryz.ntmps138 (Nat.le_of_ble_eq_true rfl) _ Tryz.results138 0 rfl rfl ?_
    repeat' (first | refine qe ?_ | (first | refine xsF Tryz.func161 (hea ..) ?_) | ((first | refine xsC ?_ ?_); all_goals (intro hc; have hp := hc; try simp at hp; try (exfalso; omega))) | refine qw ?_ ?_)
    all_goals try (exfalso; omega)
    all_goals (apply qD; rfl; simp_all)
end Go.Proofs.YtiljlcgmcmjcoaaGreatDoor
set_option linter.unusedSimpArgs false
set_option linter.unnecessarySimpa false
set_option maxHeartbeats 1000000
namespace Go.Proofs.YtiljlcgmcmjcoaaGreatDoor
open Go.Ab Go.RowKit
set_option maxRecDepth 10000
attribute [local irreducible] Awp jV q9 qJ Red qy Go.Ab.Fin ql Rz yQ qA qG ResOk jC q6 jH qT
theorem qac {e : Ent} (h : ¬ qC e.path = 0) : yY e = qC e.path := by simp [yY, h]
theorem W5 {e : Ent} (h : qC e.path = 0) : yY e = (if e.fold = true ∧ ¬ e.text = [] then 1 else if 300 < e.text.length then 2 else if xW e.ver = true then 0 else 3) := by simp [yY, h]
theorem Kx (l : List Ent) (hl : EBig l) : jY C.P 109 [qq l] (.v (.int .i64 (jx l))) := by
  have hll := hl.len
  refine qa Tryz.func109 rfl _ Tryz.ntmps109 (Nat.le_of_ble_eq_true rfl) _ Tryz.results109 0 rfl rfl ?_
  repeat' (first | refine qe ?_ | fail | ((first | refine qc ?_ ?_ | refine qb ?_ ?_ | refine xsC ?_ ?_); all_goals (intro hc; have hp := hc; try simp at hp; try (exfalso; omega))) | refine qw ?_ ?_)
  · apply qD
    rfl
    have h60 : 60 < l.length := by omega
    simp [jx, h60]
  have h60 : ¬ 60 < l.length := by omega
  (refine Awp.red (qh (ts := [(0, qq l), (3, .v (.int .i64 ((0 : Nat) : Int)))]) ?_) ?_; ((repeat (first | exact qd | refine qi ?_ | refine qR ?_ ?_))))
  refine qu (fun n σ => ∃ i : Nat, i ≤ l.length ∧ n = l.length - i ∧ (∀ g, g ∈ l.take i → yY g = 0) ∧ σ = ⟨[(0, qq l), (3, .v (.int .i64 (i : Int)))], [], C.nh⟩) l.length ⟨0, Nat.zero_le _, rfl, (by simp), rfl⟩ ?_
  rintro n σ ⟨i, hi, rfl, hsofar, rfl⟩
  by_cases hlt : i < l.length
  · have hr := qF (f := Ent.row) hlt
    have hsm := hl.each l[i] (List.getElem_mem _)
    have hcp := QY l[i].path (by have := hsm.1; omega)
    have hvr := VA l[i].ver
    have hlen := hsm.2
    have hfo := @qac l[i]
    have hre := @W5 l[i]
    have hte := fun h => @XT l h60 i hlt hsofar h
    have hnx := fun h => qK (p := fun g => yY g = 0) hlt hsofar h
    generalize yY l[i] = E at *
    generalize qC l[i].path = F at *
    generalize xW l[i].ver = V at *
    repeat' (first | refine qe ?_ | (first | refine xsF Tryz.func137 (hcp ..) ?_ | refine xsF Tryz.func110 (hvr ..) ?_) | ((first | refine qc ?_ ?_ | refine qb ?_ ?_ | refine xsC ?_ ?_); all_goals (intro hc; have hp := hc; try simp at hp; try (exfalso; omega))) | refine qw ?_ ?_)
    all_goals try (exfalso; omega)
    all_goals first
      | (apply qD
         rfl
         refine Eq.trans ?_ (hte ?_) <;> (clear hte hnx; simp_all) <;> (try omega)
         done)
      | (refine ⟨l.length - (i + 1), _, by omega, qh (ts := [(0, qq l), (3, .v (.int .i64 ((i + 1 : Nat) : Int)))]) ?_, i + 1, by omega, rfl, hnx (by clear hte; simp_all; try omega), rfl⟩; ((repeat (first | exact qd | refine qi ?_ | refine qR ?_ ?_))))
  obtain rfl : i = l.length := by omega
  have hz : jF yY l = 0 := jz.2 (fun s hs => hsofar s (by rw [List.take_length]; exact hs))
  clear hsofar
  repeat' (first | refine qe ?_ | fail | ((first | refine qc ?_ ?_ | refine qb ?_ ?_ | refine xsC ?_ ?_); all_goals (intro hc; have hp := hc; try simp at hp; try (exfalso; omega))) | refine qw ?_ ?_)
  all_goals try (exfalso; omega)
  (refine Awp.red (qh (ts := [(0, qq l), (5, .v (.int .i64 ((0 + 1 : Nat) : Int)))]) ?_) ?_; ((repeat (first | exact qd | refine qi ?_ | refine qR ?_ ?_))))
  refine qu (fun n σ => ∃ i : Nat, i ≤ (l.drop 1).length ∧ n = (l.drop 1).length - i ∧ (∀ (k : Nat) (h : k + 1 < l.length), k < i → j5 (l[k]'(by omega)) l[k + 1] = true) ∧ σ = ⟨[(0, qq l), (5, .v (.int .i64 ((i + 1 : Nat) : Int)))], [], C.nh⟩) (l.drop 1).length ⟨0, Nat.zero_le _, rfl, (fun k h hk => absurd hk (Nat.not_lt_zero _)), rfl⟩ ?_
  have hdl : (l.drop 1).length = l.length - 1 := by simp
  rintro n σ ⟨i, hi, rfl, hsofar, rfl⟩
  by_cases hlt : i + 1 < l.length
  · have hr := qF (f := Ent.row) hlt
    have hr' := qF (f := Ent.row) (l := l) (i := i) (by omega)
    have hle := qb7 l[i] l[i + 1]
    repeat' (first | refine qe ?_ | fail | ((first | refine qc ?_ ?_ | refine qb ?_ ?_ | refine xsC ?_ ?_); all_goals (intro hc; have hp := hc; try simp at hp; try (exfalso; omega))) | refine qw ?_ ?_)
    all_goals try (exfalso; omega)
    · have hrf : ¬ qr j5 l = true := fun h => by
        have := jT.1 h i hlt
        simp_all
      apply qD
      rfl
      simp [jx, h60, hz, hrf]
    · have hok : j5 l[i] l[i + 1] = true := (by simp_all)
      refine ⟨(l.drop 1).length - (i + 1), _, by omega, qh (ts := [(0, qq l), (5, .v (.int .i64 ((i + 1 + 1 : Nat) : Int)))]) ?_, i + 1, by omega, rfl, (fun k h hk => by
        by_cases e : k = i
        · subst e; exact hok
        · exact hsofar k h (by omega)), rfl⟩; ((repeat (first | exact qd | refine qi ?_ | refine qR ?_ ?_)))
  have hrise : qr j5 l = true := jT.2 fun k h => hsofar k h (by simp at hi; omega)
  clear hsofar
  repeat' (first | refine qe ?_ | fail | ((first | refine qc ?_ ?_ | refine qb ?_ ?_ | refine xsC ?_ ?_); all_goals (intro hc; have hp := hc; try simp at hp; try (exfalso; omega))) | refine qw ?_ ?_)
  all_goals try (exfalso; omega)
  (refine Awp.red (qh (ts := [(0, qq l), (6, .v (.int .i64 ((0 : Nat) : Int)))]) ?_) ?_; ((repeat (first | exact qd | refine qi ?_ | refine qR ?_ ?_))))
  refine qu (fun n σ => ∃ i : Nat, i ≤ l.length ∧ n = l.length - i ∧ (∀ g, g ∈ l.take i → ¬ yp l g = 5) ∧ σ = ⟨[(0, qq l), (6, .v (.int .i64 (i : Int)))], [], C.nh⟩) l.length ⟨0, Nat.zero_le _, rfl, (by simp), rfl⟩ ?_
  rintro n σ ⟨i, hi, rfl, hsofar, rfl⟩
  by_cases hlt : i < l.length
  · have hr := qF (f := Ent.row) hlt
    have hsm := hl.each l[i] (List.getElem_mem _)
    have hpo := yu l[i].path (by have := hsm.1; omega)
    have hif : jY C.P 138 [qq l, .v (str (qL l[i].path))] (.v (.int .i64 (yp l l[i]))) := va l (qL l[i].path) hl.len
    have hnx := fun h => qK (p := fun g => ¬ yp l g = 5) hlt hsofar h
    have hany : yp l l[i] = 5 → l.any (fun x => decide (yp l x = 5)) = true := fun h => List.any_eq_true.2 ⟨l[i], List.getElem_mem _, by simp [h]⟩
    generalize yp l l[i] = E at hif hnx hany
    repeat' (first | refine qe ?_ | (first | refine xsF Tryz.func139 (hpo ..) ?_ | refine xsF Tryz.func138 (hif ..) ?_) | ((first | refine qc ?_ ?_ | refine qb ?_ ?_ | refine xsC ?_ ?_); all_goals (intro hc; have hp := hc; try simp at hp; try (exfalso; omega))) | refine qw ?_ ?_)
    all_goals try (exfalso; omega)
    · have hany := hany (by assumption)
      apply qD
      rfl
      simp [jx, h60, hz, hrise, hany]
    · refine ⟨l.length - (i + 1), _, by omega, qh (ts := [(0, qq l), (6, .v (.int .i64 ((i + 1 : Nat) : Int)))]) ?_, i + 1, by omega, rfl, hnx (by assumption), rfl⟩; ((repeat (first | exact qd | refine qi ?_ | refine qR ?_ ?_)))
  obtain rfl : i = l.length := by omega
  rw [List.take_length] at *
  have hno : ¬ l.any (fun x => decide (yp l x = 5)) = true := fun h => by
    obtain ⟨x, hx, hk⟩ := List.any_eq_true.1 h
    exact hsofar x hx (by simpa using hk)
  have hE : jx l = if l.any (fun x => decide (¬ yp l x = 0)) = true then 4 else 0 := by
    unfold jx
    rw [if_neg h60, if_pos hz, if_pos hrise, if_neg hno]
  clear hsofar
  repeat' (first | refine qe ?_ | fail | ((first | refine qc ?_ ?_ | refine qb ?_ ?_ | refine xsC ?_ ?_); all_goals (intro hc; have hp := hc; try simp at hp; try (exfalso; omega))) | refine qw ?_ ?_)
  all_goals try (exfalso; omega)
  (refine Awp.red (qh (ts := [(0, qq l), (7, .v (.int .i64 ((0 : Nat) : Int)))]) ?_) ?_; ((repeat (first | exact qd | refine qi ?_ | refine qR ?_ ?_))))
  refine qu (fun n σ => ∃ i : Nat, i ≤ l.length ∧ n = l.length - i ∧ (∀ g, g ∈ l.take i → yp l g = 0) ∧ σ = ⟨[(0, qq l), (7, .v (.int .i64 (i : Int)))], [], C.nh⟩) l.length ⟨0, Nat.zero_le _, rfl, (by simp), rfl⟩ ?_
  rintro n σ ⟨i, hi, rfl, hsofar, rfl⟩
  by_cases hlt : i < l.length
  · have hr := qF (f := Ent.row) hlt
    have hsm := hl.each l[i] (List.getElem_mem _)
    have hpo := yu l[i].path (by have := hsm.1; omega)
    have hif : jY C.P 138 [qq l, .v (str (qL l[i].path))] (.v (.int .i64 (yp l l[i]))) := va l (qL l[i].path) hl.len
    have hnx := fun h => qK (p := fun g => yp l g = 0) hlt hsofar h
    have hany : ¬ yp l l[i] = 0 → l.any (fun x => decide (¬ yp l x = 0)) = true := fun h => List.any_eq_true.2 ⟨l[i], List.getElem_mem _, by simp [h]⟩
    generalize yp l l[i] = E at hif hnx hany
    repeat' (first | refine qe ?_ | (first | refine xsF Tryz.func139 (hpo ..) ?_ | refine xsF Tryz.func138 (hif ..) ?_) | ((first | refine qc ?_ ?_ | refine qb ?_ ?_ | refine xsC ?_ ?_); all_goals (intro hc; have hp := hc; try simp at hp; try (exfalso; omega))) | refine qw ?_ ?_)
    all_goals try (exfalso; omega)
    · have hany := hany (by assumption)
      apply qD
      rfl
      rw [hE, if_pos hany]
    · refine ⟨l.length - (i + 1), _, by omega, qh (ts := [(0, qq l), (7, .v (.int .i64 ((i + 1 : Nat) : Int)))]) ?_, i + 1, by omega, rfl, hnx (by assumption), rfl⟩; ((repeat (first | exact qd | refine qi ?_ | refine qR ?_ ?_)))
  obtain rfl : i = l.length := by omega
  rw [List.take_length] at *
  have hno : ¬ l.any (fun x => decide (¬ yp l x = 0)) = true := fun h => by
    obtain ⟨x, hx, hk⟩ := List.any_eq_true.1 h
    simp at hk
    exact hk (hsofar x hx)
  repeat' (first | refine qe ?_ | fail | ((first | refine qc ?_ ?_ | refine qb ?_ ?_ | refine xsC ?_ ?_); all_goals (intro hc; have hp := hc; try simp at hp; try (exfalso; omega))) | refine qw ?_ ?_)
  all_goals try (exfalso; omega)
  apply qD
  rfl
  rw [hE, if_neg hno]
end Go.Proofs.YtiljlcgmcmjcoaaGreatDoor
set_option linter.unusedSimpArgs false
set_option linter.unnecessarySimpa false
set_option linter.unusedVariables false
set_option maxHeartbeats 1000000
namespace Go.Proofs.YtiljlcgmcmjcoaaGreatDoor
open Go.Ab Go.RowKit
set_option maxRecDepth 10000
attribute [local irreducible] Awp jV q9 qJ Red qy Go.Ab.Fin ql Rz yQ qA qG ResOk jC q6 jH qT
def zR (c : Chg) : Int := if (¬ c.kind = 3 ∧ ¬ c.to = []) ∨ (¬ c.kind = 2 ∧ ¬ c.text = []) then 1 else if 300 < c.text.length then 2 else if c.base < -1 ∨ 1000000 < c.base then 3 else 0
def yo (c : Chg) : Int :=
  if c.kind < 1 ∨ 4 < c.kind then 7
  else if ¬ qC c.path = 0 then qC c.path
  else if c.kind = 3 ∧ ¬ qC c.to = 0 then qC c.to
  else zR c
theorem qgm (c : Chg) (hc : c.small) : jY C.P 173 [.agg c.row] (.v (.int .i64 (yo c))) := by
  obtain ⟨h1, h2, h3⟩ := hc
  have hpp := Vc c.path (by omega)
  have ht := Vc c.to (by omega)
  have hR : zR c = if (¬ c.kind = 3 ∧ ¬ c.to = []) ∨ (¬ c.kind = 2 ∧ ¬ c.text = []) then 1 else if 300 < c.text.length then 2 else if c.base < -1 ∨ 1000000 < c.base then 3 else 0 := rfl
  have hE : yo c = if c.kind < 1 ∨ 4 < c.kind then 7 else if ¬ qC c.path = 0 then qC c.path else if c.kind = 3 ∧ ¬ qC c.to = 0 then qC c.to else zR c := rfl
  generalize yo c = E at *
  generalize zR c = R at *
  generalize qC c.path = F at *
  generalize qC c.to = G at *
  refine qa Tryz.func173 rfl _ Tryz.ntmps173 (Nat.le_of_ble_eq_true rfl) _ Tryz.results173 0 rfl rfl ?_
  repeat' (first | refine qe ?_ | (first | refine xsF Tryz.func66 (hpp ..) ?_ | refine xsF Tryz.func66 (ht ..) ?_) | ((first | refine qc ?_ ?_ | refine qb ?_ ?_ | refine xsC ?_ ?_); all_goals (intro hc; have hp := hc; try simp at hp; try (exfalso; omega))) | refine qw ?_ ?_)
  all_goals try (exfalso; omega)
  all_goals (apply qD; rfl)
  all_goals (rw [hE])
  all_goals first
    | (rw [if_pos (by omega)]; done)
    | (rw [if_neg (by omega)]
       first
       | (rw [if_pos (by assumption)]; done)
       | (rw [if_neg (by omega)]
          first
          | (rw [if_pos ⟨by assumption, by assumption⟩]; done)
          | (rw [if_neg (by rintro ⟨_, _⟩; simp_all), hR]
             first
             | (rw [if_pos (by simp_all)]; done)
             | (rw [if_neg (by simp_all)]
                first
                | (rw [if_pos (by omega)]; done)
                | (rw [if_neg (by omega)]
                   first
                   | (rw [if_pos (by omega)]; done)
                   | (rw [if_neg (by omega)]; done))))))
theorem xB (c : Chg) (hc : c.small) : jY C.P 160 [.agg c.row] (.v (.int .i64 (yo c))) := by
  obtain ⟨h1, h2, h3⟩ := hc
  have hpp := QY c.path (by omega)
  have ht := QY c.to (by omega)
  have hR : zR c = if (¬ c.kind = 3 ∧ ¬ c.to = []) ∨ (¬ c.kind = 2 ∧ ¬ c.text = []) then 1 else if 300 < c.text.length then 2 else if c.base < -1 ∨ 1000000 < c.base then 3 else 0 := rfl
  have hE : yo c = if c.kind < 1 ∨ 4 < c.kind then 7 else if ¬ qC c.path = 0 then qC c.path else if c.kind = 3 ∧ ¬ qC c.to = 0 then qC c.to else zR c := rfl
  generalize yo c = E at *
  generalize zR c = R at *
  generalize qC c.path = F at *
  generalize qC c.to = G at *
  refine qa Tryz.func160 rfl _ Tryz.ntmps160 (Nat.le_of_ble_eq_true rfl) _ Tryz.results160 0 rfl rfl ?_
  repeat' (first | refine qe ?_ | (first | refine xsF Tryz.func137 (hpp ..) ?_ | refine xsF Tryz.func137 (ht ..) ?_) | ((first | refine qc ?_ ?_ | refine qb ?_ ?_ | refine xsC ?_ ?_); all_goals (intro hc; have hp := hc; try simp at hp; try (exfalso; omega))) | refine qw ?_ ?_)
  all_goals try (exfalso; omega)
  all_goals (apply qD; rfl)
  all_goals (rw [hE])
  all_goals first
    | (rw [if_pos (by omega)]; done)
    | (rw [if_neg (by omega)]
       first
       | (rw [if_pos (by assumption)]; done)
       | (rw [if_neg (by omega)]
          first
          | (rw [if_pos ⟨by assumption, by assumption⟩]; done)
          | (rw [if_neg (by rintro ⟨_, _⟩; simp_all), hR]
             first
             | (rw [if_pos (by simp_all)]; done)
             | (rw [if_neg (by simp_all)]
                first
                | (rw [if_pos (by omega)]; done)
                | (rw [if_neg (by omega)]
                   first
                   | (rw [if_pos (by omega)]; done)
                   | (rw [if_neg (by omega)]; done))))))
end Go.Proofs.YtiljlcgmcmjcoaaGreatDoor
set_option linter.unusedSimpArgs false
set_option linter.unnecessarySimpa false
set_option linter.unusedVariables false
set_option maxHeartbeats 1000000
namespace Go.Proofs.YtiljlcgmcmjcoaaGreatDoor
open Go.Ab Go.RowKit
set_option maxRecDepth 10000
attribute [local irreducible] Awp jV q9 qJ Red qy Go.Ab.Fin ql Rz yQ qA qG ResOk jC q6 jH qT
theorem Wg (p : Ent → Bool) (g : FuncId) (hg : IsFn C.P g) (cap : List AV) (hcap : AV.pure.pureL cap = true) (l : List (Ent)) (hl : l.length ≤ 1000000) (hc : ∀ s, s ∈ l → jY C.P g ((AV.agg (Ent.row s)) :: cap) (.v (.bool (p s)))) :
    jY C.P 198 [.sl false (l.map Ent.row), .clo (.func g) [] cap] (.v (.int .i64 (yj p l))) := by
  refine qa Tryz.func198 rfl _ Tryz.ntmps198 (Nat.le_of_ble_eq_true rfl) _ Tryz.results198 0 rfl rfl ?_
  repeat' (first | refine qe ?_ | fail | ((first | refine xsC ?_ ?_); all_goals (intro hc; have hp := hc; try simp at hp; try (exfalso; omega))) | refine qw ?_ ?_)
  (refine Awp.red (qh (ts := [(0, .sl false (l.map Ent.row)), (1, .clo (.func g) [] cap), (7, .v (.int .i64 l.length)), (8, .v (.int .i64 ((0 : Nat) : Int)))]) ?_) ?_; ((repeat (first | exact qd | refine qi ?_ | refine qR ?_ ?_))))
  all_goals try (rw [List.length_map]; done)
  refine qu (fun n σ => ∃ i : Nat, i ≤ l.length ∧ n = l.length - i ∧ (∀ s, s ∈ l.take i → p s = false) ∧ σ = ⟨[(0, .sl false (l.map Ent.row)), (1, .clo (.func g) [] cap), (7, .v (.int .i64 l.length)), (8, .v (.int .i64 (i : Int)))], [], C.nh⟩) l.length ⟨0, Nat.zero_le _, rfl, (by simp), rfl⟩ ?_
  rintro n σ ⟨i, hi, rfl, hsofar, rfl⟩
  by_cases hlt : i < l.length
  · have hr := qF (f := Ent.row) hlt
    have hci := hc l[i] (List.getElem_mem _)
    repeat' (first | refine qe ?_ | (first | (apply qj; apply zk []; rfl; exact hg; exact hci; (case hz => exact qm (qQ rfl) (ka hcap)); (case hfl => rfl); (case hN => exact nle rfl))) | ((first | refine xsC ?_ ?_); all_goals (intro hc; have hp := hc; try simp at hp; try (exfalso; omega))) | refine qw ?_ ?_)
    all_goals try (exfalso; omega)
    · apply qD
      rfl
      exact (vJ hlt hsofar hp).symm
    · refine ⟨l.length - (i + 1), _, by omega, qh (ts := [(0, .sl false (l.map Ent.row)), (1, .clo (.func g) [] cap), (7, .v (.int .i64 l.length)), (8, .v (.int .i64 ((i + 1 : Nat) : Int)))]) ?_, i + 1, by omega, rfl, qK hlt hsofar hp, rfl⟩; ((repeat (first | exact qd | refine qi ?_ | refine qR ?_ ?_)))
  obtain rfl : i = l.length := by omega
  repeat' (first | refine qe ?_ | fail | ((first | refine xsC ?_ ?_); all_goals (intro hc; have hp := hc; try simp at hp; try (exfalso; omega))) | refine qw ?_ ?_)
  all_goals try (exfalso; omega)
  apply qD
  rfl
  exact (xY fun s hs => hsofar s (by rw [List.take_length]; exact hs)).symm
theorem qar (p : Ent → Bool) (g : FuncId) (hg : IsFn C.P g) (cap : List AV) (hcap : AV.pure.pureL cap = true) (l : List (Ent)) (hl : l.length ≤ 1000000) (hc : ∀ s, s ∈ l → jY C.P g ((AV.agg (Ent.row s)) :: cap) (.v (.bool (p s)))) :
    jY C.P 188 [.sl false (l.map Ent.row), .clo (.func g) [] cap] (.v (.bool (l.any p))) := by
  have hidx := Wg p g hg cap hcap l hl hc
  refine qa Tryz.func188 rfl _ Tryz.ntmps188 (Nat.le_of_ble_eq_true rfl) _ Tryz.results188 0 rfl rfl ?_
  repeat' (first | refine qe ?_ | (first | (apply qj; apply yd []; exact jG Tryz.func198 rfl rfl; exact hidx; (case hz => exact qm (qQ rfl) (qm (xh hcap) qZ)); (case hfl => rfl); (case hN => exact nle rfl))) | ((first | refine xsC ?_ ?_); all_goals (intro hc; have hp := hc; try simp at hp; try (exfalso; omega))) | refine qw ?_ ?_)
  apply jA
  rfl
  rw [← YV]
def jI (c : Chg) : qB := if c.kind = 3 then c.to else c.path
def yZ (c : Chg) (x : Ent) : Bool := decide (c.base < x.ver) && inB x.path c.path
def xx (t : List Ent) (p : qB) : Bool := match t.find? (atP p) with | some x => x.fold | none => false
def vI (t : List Ent) (c : Chg) : Int := if c.kind = 1 then (if yy t c.path = true then 6 else 0) else if c.kind = 2 then (if xx t c.path = true then 4 else 0) else (if yy t c.path = true then 0 else 5)
def z7 (t : List Ent) (c : Chg) : Int := if c.kind = 3 then (if inB c.to c.path = true then 3 else if yy t c.to = true then 6 else 0) else 0
def j8 (t : List Ent) (c : Chg) : Int := if ¬ c.base = -1 ∧ t.any (yZ c) = true then 8 else 0
def vQ (t : List Ent) (c : Chg) : Int :=
  if ¬ ye t (qL (jI c)) = 0 then ye t (qL (jI c))
  else if ¬ vI t c = 0 then vI t c
  else if ¬ z7 t c = 0 then z7 t c else j8 t c
theorem qgO (x : Ent) (c : Chg) (hc : c.path.length ≤ 140737488355328) : jY C.P 187 [.agg x.row, .fp [c.row] 0 0] (.v (.bool (yZ c x))) := by
  have hin := qcM x.path c.path hc
  have hE : yZ c x = (decide (c.base < x.ver) && inB x.path c.path) := rfl
  generalize yZ c x = E at *
  generalize inB x.path c.path = I at *
  refine qa Tryz.func187 rfl _ Tryz.ntmps187 (Nat.le_of_ble_eq_true rfl) _ Tryz.results187 0 rfl rfl ?_
  repeat' (first | refine qe ?_ | (first | refine xsF Tryz.func186 (hin ..) ?_) | ((first | refine qc ?_ ?_ | refine qb ?_ ?_ | refine xsC ?_ ?_); all_goals (intro hc; have hp := hc; try simp at hp; try (exfalso; omega))) | refine qw ?_ ?_)
  all_goals (apply jA; rfl; rw [hE]; simp_all; try (intro _; omega))
theorem qhg (t : List Ent) (c : Chg) (hl : t.length ≤ 1000000) (hs : qr j5 t = true) (hcs : c.small) : jY C.P 174 [qq t, .agg c.row] (.v (.int .i64 (vQ t c))) := by
  obtain ⟨l1, l2, l3⟩ := hcs
  have hpa := Z8 t (jI c) (by omega) hs (by unfold jI; split <;> omega)
  have hfe := Vr t (jI c)
  have hat := qfJ t c.path (by omega) hs
  have hat2 := qfJ t c.to (by omega) hs
  have hin := qcM c.to c.path (by omega)
  have hcon := qar (yZ c) 187 (jG Tryz.func187 rfl rfl) [.fp [c.row] 0 0] rfl t hl (fun x _ => qgO x c (by omega))
  have hE : vQ t c = if ¬ ye t (qL (jI c)) = 0 then ye t (qL (jI c)) else if ¬ vI t c = 0 then vI t c else if ¬ z7 t c = 0 then z7 t c else j8 t c := rfl
  have hI : vI t c = if c.kind = 1 then (if yy t c.path = true then 6 else 0) else if c.kind = 2 then (if xx t c.path = true then 4 else 0) else (if yy t c.path = true then 0 else 5) := rfl
  have hM : z7 t c = if c.kind = 3 then (if inB c.to c.path = true then 3 else if yy t c.to = true then 6 else 0) else 0 := rfl
  have hS : j8 t c = if ¬ c.base = -1 ∧ t.any (yZ c) = true then 8 else 0 := rfl
  have hrow : yy t c.path = true → ∃ hk : y3 t c.path < t.length, xx t c.path = t[y3 t c.path].fold := fun h => by
    obtain ⟨hk, _, hfi, _⟩ := zP hs h
    exact ⟨hk, by unfold xx; rw [hfi]⟩
  have hnorow : yy t c.path = false → xx t c.path = false := fun h => by
    unfold xx; rw [(xi h).1]
  have hg3 : c.kind = 3 → jI c = c.to := fun h => by simp [jI, h]
  have hg0 : ¬ c.kind = 3 → jI c = c.path := fun h => by simp [jI, h]
  generalize vQ t c = E at *
  generalize vI t c = I at *
  generalize z7 t c = Mv at *
  generalize j8 t c = S at *
  generalize t.any (yZ c) = NW at *
  generalize inB c.to c.path = IB at *
  generalize yy t c.to = HT at *
  generalize y3 t c.to = PT at *
  generalize ye t (qL (jI c)) = FE at *
  generalize QX t (jI c) = OK at *
  generalize kW t (jI c) = PE at *
  cases hh : yy t c.path with
  | true =>
    obtain ⟨hk, hfo⟩ := hrow hh
    rw [hh] at hat hI
    rw [hfo] at hI
    have hr := qF (f := Ent.row) hk
    clear hrow hnorow
    generalize y3 t c.path = k at *
    by_cases k3 : c.kind = 3
    · rw [hg3 k3] at hpa
      refine qa Tryz.func174 rfl _ Tryz.ntmps174 (Nat.le_of_ble_eq_true rfl) _ Tryz.results174 0 rfl rfl ?_
      repeat' (first | refine qe ?_ | (first | refine xsQ Tryz.func141 (hpa ..) ?_ | refine xsQ Tryz.func67 (hat ..) ?_ | refine xsQ Tryz.func67 (hat2 ..) ?_ | refine xsF Tryz.func186 (hin ..) ?_ | (apply qj; apply yd ([0]); exact jG Tryz.func188 rfl rfl; exact hcon; (case hz => (refine qm (qQ rfl) (qm (yc qZ (qm (qez rfl (by simp) (vr (fun row hrow => by rw [List.mem_singleton.1 hrow]; rfl))) qZ)) qZ))); (case hfl => rfl); (case hN => exact nle rfl))) | ((first | refine qc ?_ ?_ | refine qb ?_ ?_ | refine xsC ?_ ?_); all_goals (intro hc; have hp := hc; try simp at hp; try (exfalso; omega))) | refine qw ?_ ?_)
      all_goals try (exfalso; omega)
      all_goals (apply qD; rfl; clear hat hat2 hcon hpa hin; simp_all)
    · rw [hg0 k3] at hpa
      refine qa Tryz.func174 rfl _ Tryz.ntmps174 (Nat.le_of_ble_eq_true rfl) _ Tryz.results174 0 rfl rfl ?_
      repeat' (first | refine qe ?_ | (first | refine xsQ Tryz.func141 (hpa ..) ?_ | refine xsQ Tryz.func67 (hat ..) ?_ | refine xsQ Tryz.func67 (hat2 ..) ?_ | refine xsF Tryz.func186 (hin ..) ?_ | (apply qj; apply yd ([0]); exact jG Tryz.func188 rfl rfl; exact hcon; (case hz => (refine qm (qQ rfl) (qm (yc qZ (qm (qez rfl (by simp) (vr (fun row hrow => by rw [List.mem_singleton.1 hrow]; rfl))) qZ)) qZ))); (case hfl => rfl); (case hN => exact nle rfl))) | ((first | refine qc ?_ ?_ | refine qb ?_ ?_ | refine xsC ?_ ?_); all_goals (intro hc; have hp := hc; try simp at hp; try (exfalso; omega))) | refine qw ?_ ?_)
      all_goals try (exfalso; omega)
      all_goals (apply qD; rfl; clear hat hat2 hcon hpa hin; simp_all)
  | false =>
    have hfo := hnorow hh
    rw [hh] at hat hI
    rw [hfo] at hI
    clear hrow hnorow
    generalize y3 t c.path = k at *
    by_cases k3 : c.kind = 3
    · rw [hg3 k3] at hpa
      refine qa Tryz.func174 rfl _ Tryz.ntmps174 (Nat.le_of_ble_eq_true rfl) _ Tryz.results174 0 rfl rfl ?_
      repeat' (first | refine qe ?_ | (first | refine xsQ Tryz.func141 (hpa ..) ?_ | refine xsQ Tryz.func67 (hat ..) ?_ | refine xsQ Tryz.func67 (hat2 ..) ?_ | refine xsF Tryz.func186 (hin ..) ?_) | ((first | refine qc ?_ ?_ | refine qb ?_ ?_ | refine xsC ?_ ?_); all_goals (intro hc; have hp := hc; try simp at hp; try (exfalso; omega))) | refine qw ?_ ?_)
      all_goals try (exfalso; omega)
      all_goals (apply qD; rfl; clear hat hat2 hcon hpa hin; simp_all)
    · rw [hg0 k3] at hpa
      refine qa Tryz.func174 rfl _ Tryz.ntmps174 (Nat.le_of_ble_eq_true rfl) _ Tryz.results174 0 rfl rfl ?_
      repeat' (first | refine qe ?_ | (first | refine xsQ Tryz.func141 (hpa ..) ?_ | refine xsQ Tryz.func67 (hat ..) ?_ | refine xsQ Tryz.func67 (hat2 ..) ?_ | refine xsF Tryz.func186 (hin ..) ?_ | (apply qj; apply yd ([0]); exact jG Tryz.func188 rfl rfl; exact hcon; (case hz => (refine qm (qQ rfl) (qm (yc qZ (qm (qez rfl (by simp) (vr (fun row hrow => by rw [List.mem_singleton.1 hrow]; rfl))) qZ)) qZ))); (case hfl => rfl); (case hN => exact nle rfl))) | ((first | refine qc ?_ ?_ | refine qb ?_ ?_ | refine xsC ?_ ?_); all_goals (intro hc; have hp := hc; try simp at hp; try (exfalso; omega))) | refine qw ?_ ?_)
      all_goals try (exfalso; omega)
      all_goals (apply qD; rfl; clear hat hat2 hcon hpa hin; simp_all)
end Go.Proofs.YtiljlcgmcmjcoaaGreatDoor
set_option linter.unusedSimpArgs false
set_option linter.unnecessarySimpa false
set_option linter.unusedVariables false
set_option maxHeartbeats 1000000
namespace Go.Proofs.YtiljlcgmcmjcoaaGreatDoor
open Go.Ab Go.RowKit
set_option maxRecDepth 10000
attribute [local irreducible] Awp jV q9 qJ Red qy Go.Ab.Fin ql Rz yQ qA qG ResOk jC q6 jH qT
theorem Va (l : List Ent) (hl : l.length ≤ 1000000) :
    ql C.P 101 [qq l] [] (.os 0 0 l.length) [.own false 4 (l.map Ent.row)] := by
  by_cases h0 : l = []
  · subst h0
    refine qa Tryz.func101 rfl _ Tryz.ntmps101 (Nat.le_of_ble_eq_true rfl) _ Tryz.results101 0 rfl rfl ?_
    repeat' (first | refine qe ?_ | (first | (refine jZ ?_) | (refine vT ?_) | (refine Ja ?_)) | ((first | refine xsC ?_ ?_); all_goals (intro hc; have hp := hc; try simp at hp; try (exfalso; omega))) | refine qw ?_ ?_)
    · (refine wz (C := C) (vw (C := C) 2 4 rfl (Nat.zero_le _)) ?_)
      (refine w8 (rs := [.tmp 2]) [(0, 0)] 1 ?_; (repeat (first | exact qg | refine jQ ?_ | refine qM ?_ ?_)); all_goals skip)
    · (refine w8 (rs := [.tmp 2]) [(0, 0)] 1 ?_; (repeat (first | exact qg | refine jQ ?_ | refine qM ?_ ?_)); all_goals skip)
  · refine qa Tryz.func101 rfl _ Tryz.ntmps101 (Nat.le_of_ble_eq_true rfl) _ Tryz.results101 0 rfl rfl ?_
    repeat' (first | refine qe ?_ | (first | (refine jZ ?_) | (refine vT ?_) | (apply qj; apply kH; rfl; exact (fun h => h0 (List.map_eq_nil_iff.1 h)); rfl; rfl; (first | exact .inl rfl | exact .inr rfl); exact nle rfl)) | ((first | refine xsC ?_ ?_); all_goals (intro hc; have hp := hc; try simp at hp; try (exfalso; omega))) | refine qw ?_ ?_)
    (refine w8 (rs := [.tmp 2]) [(0, 0)] 1 ?_; (repeat (first | exact qg | refine jQ ?_ | refine qM ?_ ?_)); all_goals skip)
theorem Wi (l : List Ent) (g : Ent) (hl : l.length ≤ 1000000) :
    ql C1.P 199 [.os 0 0 l.length, .v (.int .i64 l.length), .sl false [g.row]] [.own false 4 (l.map Ent.row)] (.os 1 0 (l.length + 1)) [.dead, .own false 4 ((l ++ [g]).map Ent.row)] := by
  refine qa (C := C1) Tryz.func199 rfl _ Tryz.ntmps199 (Nat.le_of_ble_eq_true rfl) _ Tryz.results199 1 rfl rfl ?_
  repeat' (first | refine qe ?_ | (first | (refine Q7 ?_) | (refine xw ?_)) | ((first | refine qc ?_ ?_ | refine qb ?_ ?_ | refine xsC ?_ ?_); all_goals (intro hc; have hp := hc; try simp at hp; try (exfalso; omega))) | refine qw ?_ ?_)
  (refine w8 (rs := [.tmp 6]) [(1, 1)] 2 ?_; (apply j4 0; exact jh rfl; (repeat (first | exact qg | refine jQ ?_ | refine qM ?_ ?_))); all_goals trace_state)
theorem qco {α : Type} (R J Z : List α) (x : α) {i a b c d : Nat} (hi : i ≤ R.length) (hJ : J.length = 1 + Z.length) (ha : a = i) (hb : b = i + 1) (hc : c = i + 1) (hd : d = i + 1 + Z.length) :
    ((R.take i ++ J).take a ++ [x] ++ (R.take i ++ J).drop b).take c ++ Z ++ ((R.take i ++ J).take a ++ [x] ++ (R.take i ++ J).drop b).drop d = R.take i ++ ([x] ++ Z) := by
  subst ha; subst hb; subst hc; subst hd
  have h1 : (R.take a ++ J).take a = R.take a := by rw [List.take_append_of_le_length (by simp; omega), List.take_of_length_le (by simp; omega)]
  have h2 : (R.take a ++ [x] ++ (R.take a ++ J).drop (a + 1)).take (a + 1) = R.take a ++ [x] := by
    rw [List.take_append_of_le_length (by simp; omega), List.take_of_length_le (by simp; omega)]
  have h3 : (R.take a ++ [x] ++ (R.take a ++ J).drop (a + 1)).drop (a + 1 + Z.length) = [] := List.drop_of_length_le (by simp; omega)
  rw [h1, h2, h3]; simp
theorem qeS {α : Type} (R Z : List α) (x : α) {i a b c d m : Nat} (hi : i + 1 ≤ R.length) (ha : a = i + 1) (hc : c = i) (hd : d = i + 1) (hm : m = i + 1 + Z.length) :
    ((R.take a ++ Z ++ R.drop b).take c ++ [x] ++ (R.take a ++ Z ++ R.drop b).drop d).take m = R.take i ++ ([x] ++ Z) := by
  subst ha; subst hc; subst hd; subst hm
  have h1 : (R.take (c + 1) ++ Z ++ R.drop b).take c = R.take c := by
    rw [List.append_assoc, List.take_append_of_le_length (by simp; omega), List.take_take, Nat.min_eq_left (by omega)]
  have h2 : (R.take (c + 1) ++ Z ++ R.drop b).drop (c + 1) = Z ++ R.drop b := by
    rw [List.append_assoc, List.drop_append_of_le_length (by simp; omega), List.drop_of_length_le (by simp; omega), List.nil_append]
  rw [h1, h2, ← List.append_assoc, List.take_append_of_le_length (by simp; omega), List.take_of_length_le (by simp; omega), List.append_assoc]
theorem qaU (l : List Ent) (g : Ent) (i : Nat) (hi : i < l.length) (hl : l.length ≤ 1000000) :
    ql C1.P 199 [.os 0 0 l.length, .v (.int .i64 (i : Int)), .sl false [g.row]] [.own false 4 (l.map Ent.row)] (.os 1 0 (l.length + 1)) [.dead, .own false 4 ((l.take i ++ ([g] ++ l.drop i)).map Ent.row)] := by
  refine qa (C := C1) Tryz.func199 rfl _ Tryz.ntmps199 (Nat.le_of_ble_eq_true rfl) _ Tryz.results199 1 rfl rfl ?_
  refine KB 0 4 (l.map Ent.row) rfl fun cap hcap => ?_
  rw [List.length_map] at hcap
  have hRt : (l.map Ent.row ++ xK 4 (cap - (l.map Ent.row).length)).take l.length = l.map Ent.row := by
    rw [List.take_append_of_le_length (by simp), List.take_of_length_le (by simp)]
  have hRl : l.length ≤ (l.map Ent.row ++ xK 4 (cap - (l.map Ent.row).length)).length := by simp
  generalize l.map Ent.row ++ xK 4 (cap - (l.map Ent.row).length) = R at hRt hRl ⊢
  have hcut : (R.drop i).take (l.length - i) = (l.drop i).map Ent.row := by rw [← List.drop_take, hRt, List.map_drop]
  have hti : R.take i = (l.take i).map Ent.row := by rw [List.map_take, ← hRt, List.take_take, Nat.min_eq_left (by omega)]
  have hck : ∀ row, row ∈ (l.drop i).map Ent.row → row.length = 4 := fun row hr => by obtain ⟨x, _, rfl⟩ := List.mem_map.1 hr; rfl
  have hcl : ∀ row, row ∈ (l.drop i).map Ent.row → row.all jP = true := fun row hr => by obtain ⟨x, _, rfl⟩ := List.mem_map.1 hr; rfl
  repeat' (first | refine qe ?_ | (first | (refine Q7 ?_) | (apply qj; apply Xa; (case hx => rfl); (case hn => rfl); (case hT => rfl); (case he => rfl); (case hN => exact nle rfl)) | (apply yP; apply kK; (case hx => rfl); (case hT => rfl); (case he => rfl); (case hE => rfl); (case hn => rfl); (case hl => (first | omega | (simp; done) | (simp only [List.length_cons, List.length_nil, List.length_map]; omega) | (simp; omega))); (case hy => exact congrArg (fun z => AV.v (Value.int IntKind.i64 z)) (show ((l.length + 1 : Nat) : Int) - (i : Int) = ((l.length + 1 - i : Nat) : Int) from by omega)); (case hxT => rfl); (case hxk => rfl); (case hz => rfl); (case hs0 => exact Nat.ne_of_beq_eq_false rfl); (case hg => omega); (case hsz => (first | omega | (simp; done) | (simp only [List.length_cons, List.length_nil, List.length_map]; omega) | (simp; omega))); (case hlen => (first | omega | (simp; done) | (simp only [List.length_cons, List.length_nil, List.length_map]; omega) | (simp; omega))); (case hN => exact nle rfl)) | (apply qj; apply QK; exact Tryz.func206; (case hname => rfl); (case hb => rfl); (case hnx => rfl); (case hex => rfl); (case hT => rfl); (case he => rfl); (case hE => rfl); (case hx => rfl); (case hy => rfl); (case hm => rfl); (case hk => exact Nat.ne_of_beq_eq_false rfl); (case hrw => intro row hrow; rw [List.mem_singleton.1 hrow]; exact Nat.succ_ne_zero _); (case hN => exact nle rfl)) | (apply zt; apply zK; (case hx => rfl); (case hT => rfl); (case he => rfl); (case hE => rfl); (case hn => rfl); (case hsrc => exact K4 (vK rfl rfl)); (case hmin => exact Nat.min_eq_left (by (first | omega | (simp; done) | (simp only [List.length_cons, List.length_nil, List.length_map]; omega) | (simp; omega)))); (case hfit => (first | omega | (simp; done) | (simp only [List.length_cons, List.length_nil, List.length_map]; omega) | (simp; omega))); (case hN => exact nle rfl)) | (apply zt; apply zK; (case hx => rfl); (case hT => rfl); (case he => rfl); (case hE => rfl); (case hn => rfl); (case hsrc => exact V4 (cnt := l.length - i) rfl (List.mem_singleton.2 rfl) rfl (by omega) (by omega) (by first | exact hcut | simpa using hcut) hck hcl); (case hmin => (first | exact (Nat.min_eq_left (by (first | omega | (simp; done) | (simp only [List.length_cons, List.length_nil, List.length_map]; omega) | (simp; omega)))).trans (by (first | omega | (simp; done) | (simp only [List.length_cons, List.length_nil, List.length_map]; omega) | (simp; omega))) | exact (Nat.min_eq_right (by (first | omega | (simp; done) | (simp only [List.length_cons, List.length_nil, List.length_map]; omega) | (simp; omega)))).trans (by (first | omega | (simp; done) | (simp only [List.length_cons, List.length_nil, List.length_map]; omega) | (simp; omega))))); (case hfit => (first | omega | (simp; done) | (simp only [List.length_cons, List.length_nil, List.length_map]; omega) | (simp; omega))); (case hN => exact nle rfl))) | ((first | refine qc ?_ ?_ | refine qb ?_ ?_ | refine xsC ?_ ?_); all_goals (intro hc; have hp := hc; try simp at hp; try (exfalso; omega))) | refine qw ?_ ?_)
  all_goals try (exfalso; omega)
  · have hrow := qco R (xK 4 (l.length + 1 - i)) ((l.drop i).map Ent.row) g.row (i := i) (a := 0 + i) (b := 0 + i + 1) (c := 0 + (i + 1)) (d := 0 + (i + 1) + ((l.drop i).map Ent.row).length) (by omega) (by simp; omega) (by omega) (by omega) (by omega) (by omega)
    (apply je (rs := [.tmp 6]) [(1, 1)] 2; (case hr => (repeat (first | exact qO | (apply qP; rfl) | (apply qE; rfl; rfl; rfl; rfl; rfl)))); (case hL => rfl); (case hh => (apply j4 0; exact jh rfl; (repeat (first | exact qg | refine jQ ?_ | refine qM ?_ ?_))); all_goals (refine hrow.trans ?_; rw [hti]; simp)); (case hi => first | exact (rfl : _ = ([] : List (Nat × Nat))) | exact (rfl : _ = [((0 : Nat), (0 : Nat))]) | exact (rfl : _ = [((0 : Nat), (0 : Nat)), (1, 1)])); (case hz => first | rfl | (simp [jw, AV.ren, AV.ren.renL, qU, qp, qS]; done) | (simp [jw, AV.ren, AV.ren.renL, qU, qp, qS, *]; done) | (simp [jw, AV.ren, AV.ren.renL, qU, qp, qS]; omega)))
  · have hrow := qeS R ((l.drop i).map Ent.row) g.row (i := i) (a := 0 + 0 + (i + 1)) (b := 0 + 0 + (i + 1) + ((l.drop i).map Ent.row).length) (c := 0 + 0 + i) (d := 0 + 0 + i + 1) (m := l.length + 1) (by omega) (by omega) (by omega) (by omega) (by simp; omega)
    have hrow := hrow.trans (show _ = (l.take i ++ ([g] ++ l.drop i)).map Ent.row from by rw [hti]; simp)
    apply wL (C := C1) 6 0 (l.length + 1)
    case hi => rfl
    case hn => rfl
    case hr => exact hrow
    case hnn => exact Nat.ne_of_beq_eq_false rfl
    case hnx => exact Nat.le_of_ble_eq_true rfl
    (apply je (rs := [.tmp 6]) [(1, 1)] 2; (case hr => (repeat (first | exact qO | (apply qP; rfl) | (apply qE; rfl; rfl; rfl; rfl; rfl)))); (case hL => rfl); (case hh => (apply j4 0; exact jh rfl; (repeat (first | exact qg | refine jQ ?_ | refine qM ?_ ?_))); all_goals trace_state); (case hi => first | exact (rfl : _ = ([] : List (Nat × Nat))) | exact (rfl : _ = [((0 : Nat), (0 : Nat))]) | exact (rfl : _ = [((0 : Nat), (0 : Nat)), (1, 1)])); (case hz => first | rfl | (simp [jw, AV.ren, AV.ren.renL, qU, qp, qS]; done) | (simp [jw, AV.ren, AV.ren.renL, qU, qp, qS, *]; done) | (simp [jw, AV.ren, AV.ren.renL, qU, qp, qS]; omega)))
def yJ (t : List Ent) (x : Ent) : List Ent := if yy t x.path = true then t.take (y3 t x.path) ++ ([x] ++ t.drop (y3 t x.path + 1)) else t.take (y3 t x.path) ++ ([x] ++ t.drop (y3 t x.path))
theorem qdK (t : List Ent) (x : Ent) (hl : t.length ≤ 1000000) (hs : qr j5 t = true) :
    ql C1.P 189 [.os 0 0 t.length, .agg x.row] [.own false 4 (t.map Ent.row)] (.os 1 0 (yJ t x).length) [.dead, .own false 4 ((yJ t x).map Ent.row)] := by
  have hat := qfJ t x.path (by omega) hs
  cases hh : yy t x.path with
  | true =>
    obtain ⟨hp0, -, -, -⟩ := zP hs hh
    have hL : yJ t x = t.take (y3 t x.path) ++ ([x] ++ t.drop (y3 t x.path + 1)) := by simp [yJ, hh]
    rw [hh] at hat
    generalize yJ t x = L at hL ⊢
    generalize y3 t x.path = p at hL hp0 hat
    have hlen : L.length = t.length := by rw [hL]; simp; omega
    have hrow := qF (f := Ent.row) hp0
    refine qa (C := C1) Tryz.func189 rfl _ Tryz.ntmps189 (Nat.le_of_ble_eq_true rfl) _ Tryz.results189 1 rfl rfl ?_
    repeat' (first | refine qe ?_ | (first | (apply qj; apply yd ([0]); exact jG Tryz.func67 rfl rfl; apply hat; (case hz => (repeat' (first | exact qZ | apply qm | exact qQ rfl | exact yI | (apply ya; (case hn => rfl); (case hl => first | with_reducible rfl | (simp; done) | (simp [*]; done) | omega); (case hp => (first | assumption | exact yr rfl | exact js fun _ => rfl))) | apply yh | apply yc))); (case hfl => rfl); (case hN => exact nle rfl)) | (refine vk ?_)) | ((first | refine qc ?_ ?_ | refine qb ?_ ?_ | refine xsC ?_ ?_); all_goals (intro hc; have hp := hc; try simp at hp; try (exfalso; omega))) | refine qw ?_ ?_)
    all_goals try (exfalso; omega)
    apply wL (C := C1) 4 0 t.length
    case hi => rfl
    case hn => rfl
    case hr => (show ((t.map Ent.row).set p x.row).take t.length = L.map Ent.row; rw [← List.map_set, hL, List.set_eq_take_append_cons_drop, if_pos hp0, List.take_of_length_le (by simp; omega)]; rfl)
    case hnn => exact Nat.ne_of_beq_eq_false rfl
    case hnx => exact Nat.le_of_ble_eq_true rfl
    (apply je (rs := [.tmp 4]) [(2, 1)] 2; (case hr => (repeat (first | exact qO | (apply qP; rfl) | (apply qE; rfl; rfl; rfl; rfl; rfl)))); (case hL => rfl); (case hh => (apply j4 0; exact jh rfl; (repeat (first | exact qg | refine jQ ?_ | refine qM ?_ ?_))); all_goals trace_state); (case hi => first | exact (rfl : _ = ([] : List (Nat × Nat))) | exact (rfl : _ = [((0 : Nat), (0 : Nat))]) | exact (rfl : _ = [((0 : Nat), (0 : Nat)), (1, 1)])); (case hz => first | rfl | (simp [jw, AV.ren, AV.ren.renL, qU, qp, qS]; done) | (simp [jw, AV.ren, AV.ren.renL, qU, qp, qS, *]; done) | (simp [jw, AV.ren, AV.ren.renL, qU, qp, qS]; omega)))
  | false =>
    have hL : yJ t x = t.take (y3 t x.path) ++ ([x] ++ t.drop (y3 t x.path)) := by simp [yJ, hh]
    have hple := qfn t x.path
    rw [hh] at hat
    generalize yJ t x = L at hL ⊢
    generalize y3 t x.path = p at hL hple hat
    have hlen : L.length = t.length + 1 := by rw [hL]; simp; omega
    by_cases hp0 : p = t.length
    · have hin := Wi t x hl
      have hL2 : L = t ++ [x] := by rw [hL, hp0]; simp
      rw [hp0] at hat
      refine qa (C := C1) Tryz.func189 rfl _ Tryz.ntmps189 (Nat.le_of_ble_eq_true rfl) _ Tryz.results189 1 rfl rfl ?_
      repeat' (first | refine qe ?_ | (first | (apply qj; apply yd ([0]); exact jG Tryz.func67 rfl rfl; apply hat; (case hz => (repeat' (first | exact qZ | apply qm | exact qQ rfl | exact yI | (apply ya; (case hn => rfl); (case hl => first | with_reducible rfl | (simp; done) | (simp [*]; done) | omega); (case hp => (first | assumption | exact yr rfl | exact js fun _ => rfl))) | apply yh | apply yc))); (case hfl => rfl); (case hN => exact nle rfl)) | (refine vk ?_) | (refine jZ ?_) | (apply qH Tryz.func199 rfl rfl; intro hIsFn; refine vN ([0]) 0 hIsFn (hin ..) ?_)) | ((first | refine qc ?_ ?_ | refine qb ?_ ?_ | refine xsC ?_ ?_); all_goals (intro hc; have hp := hc; try simp at hp; try (exfalso; omega))) | refine qw ?_ ?_)
      all_goals try (exfalso; omega)
      (apply je (rs := [.tmp 4]) [(2, 1)] 2; (case hr => (repeat (first | exact qO | (apply qP; rfl) | (apply qE; rfl; rfl; rfl; rfl; rfl)))); (case hL => rfl); (case hh => (apply j4 0; exact jh rfl; (repeat (first | exact qg | refine jQ ?_ | refine qM ?_ ?_))); all_goals (rw [hL2])); (case hi => first | exact (rfl : _ = ([] : List (Nat × Nat))) | exact (rfl : _ = [((0 : Nat), (0 : Nat))]) | exact (rfl : _ = [((0 : Nat), (0 : Nat)), (1, 1)])); (case hz => first | rfl | (simp [jw, AV.ren, AV.ren.renL, qU, qp, qS]; done) | (simp [jw, AV.ren, AV.ren.renL, qU, qp, qS, *]; done) | (simp [jw, AV.ren, AV.ren.renL, qU, qp, qS]; omega)))
    · have hin := qaU t x p (by omega) hl
      refine qa (C := C1) Tryz.func189 rfl _ Tryz.ntmps189 (Nat.le_of_ble_eq_true rfl) _ Tryz.results189 1 rfl rfl ?_
      repeat' (first | refine qe ?_ | (first | (apply qj; apply yd ([0]); exact jG Tryz.func67 rfl rfl; apply hat; (case hz => (repeat' (first | exact qZ | apply qm | exact qQ rfl | exact yI | (apply ya; (case hn => rfl); (case hl => first | with_reducible rfl | (simp; done) | (simp [*]; done) | omega); (case hp => (first | assumption | exact yr rfl | exact js fun _ => rfl))) | apply yh | apply yc))); (case hfl => rfl); (case hN => exact nle rfl)) | (refine vk ?_) | (refine jZ ?_) | (apply qH Tryz.func199 rfl rfl; intro hIsFn; refine vN ([0]) 0 hIsFn (hin ..) ?_)) | ((first | refine qc ?_ ?_ | refine qb ?_ ?_ | refine xsC ?_ ?_); all_goals (intro hc; have hp := hc; try simp at hp; try (exfalso; omega))) | refine qw ?_ ?_)
      all_goals try (exfalso; omega)
      (apply je (rs := [.tmp 4]) [(2, 1)] 2; (case hr => (repeat (first | exact qO | (apply qP; rfl) | (apply qE; rfl; rfl; rfl; rfl; rfl)))); (case hL => rfl); (case hh => (apply j4 0; exact jh rfl; (repeat (first | exact qg | refine jQ ?_ | refine qM ?_ ?_))); all_goals (rw [hL])); (case hi => first | exact (rfl : _ = ([] : List (Nat × Nat))) | exact (rfl : _ = [((0 : Nat), (0 : Nat))]) | exact (rfl : _ = [((0 : Nat), (0 : Nat)), (1, 1)])); (case hz => first | rfl | (simp [jw, AV.ren, AV.ren.renL, qU, qp, qS]; done) | (simp [jw, AV.ren, AV.ren.renL, qU, qp, qS, *]; done) | (simp [jw, AV.ren, AV.ren.renL, qU, qp, qS]; omega)))
end Go.Proofs.YtiljlcgmcmjcoaaGreatDoor
