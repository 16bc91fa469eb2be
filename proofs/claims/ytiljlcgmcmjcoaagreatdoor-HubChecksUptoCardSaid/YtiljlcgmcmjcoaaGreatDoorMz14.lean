import Derived.Test.YtiljlcgmcmjcoaaGreatDoorMz13
import Derived.Test.YtiljlcgmcmjcoaaGreatDoorMz12
import Derived.Test.YtiljlcgmcmjcoaaGreatDoorMz1
import Derived.Test.YtiljlcgmcmjcoaaGreatDoorMz9
import Derived.Test.YtiljlcgmcmjcoaaGreatDoorMz7
import Derived.Test.YtiljlcgmcmjcoaaGreatDoorMz10
set_option linter.unusedSimpArgs false
set_option linter.unnecessarySimpa false
set_option linter.unusedVariables false
set_option maxHeartbeats 1000000
namespace Go.Proofs.YtiljlcgmcmjcoaaGreatDoor
open Go.Ab Go.RowKit
set_option maxRecDepth 10000
attribute [local irreducible] Awp jV q9 qJ Red qy Go.Ab.Fin ql Rz yQ qA qG ResOk jC q6 jH qT
set_option maxHeartbeats 1000000 in
theorem qg7 (t : List Ent) (c : Chg) (v : Int) (h60 : t.length ≤ 60) (hs : qr j5 t = true) (hgt : ∀ x, x ∈ t → qC x.path = 0) (hcs : c.small) (hk : c.kind = 3) (h0 : yo c = 0) (h1 : xL t c = 0) (h2 : j8 t c = 0) : jY C.P 130 [qq t, .agg c.row, .v (.int .i64 v)] (.tup [qq (if j9 t c v = 0 then jl t c v else []), .v (.int .i64 (j9 t c v))]) := by
  obtain ⟨l1, l2, l3⟩ := hcs
  have hform := xB c ⟨l1, l2, l3⟩
  have hpo1 := yu c.path (by omega)
  have hpo2 := yu c.to (by omega)
  have hfo := va t (qL (jI c)) (by omega)
  have hea := yS t c.path (by omega)
  have heb := yS t c.to (by omega)
  have hinn := xE c.to c.path (by omega) (by omega)
  have hkk := yw h0
  have hbase : -1 ≤ c.base := wX h0
  obtain ⟨hz1, hz2, hz3⟩ := wR h1
  have hst : ∀ x, x ∈ t → ¬ c.base = -1 → (decide (c.base < x.ver) && inB x.path c.path) = false := fun x hx hb => by
    unfold j8 at h2
    by_cases h3 : t.any (yZ c) = true
    · rw [if_pos ⟨hb, h3⟩] at h2; exact absurd h2 (by decide)
    · have h4 : t.any (yZ c) = false := by simpa using h3
      rw [List.any_eq_false] at h4
      have h5 := h4 x hx
      simpa [yZ] using h5
  clear h2
  have hh := Kc (by omega) hz2
  obtain ⟨hkk2, _, hfi, hix⟩ := zP hs hh
  have hg0 : jI c = c.to := by simp [jI, hk]
  rw [hz1, hg0] at hfo
  rw [h0] at hform
  rw [hix] at hea
  have hM : z7 t c = if inB c.to c.path = true then 3 else if yy t c.to = true then 6 else 0 := by unfold z7; rw [if_pos hk]
  rw [hz3] at hM
  have hin0 : inB c.to c.path = false := by
    cases h : inB c.to c.path with
    | true => rw [h] at hM; simp at hM
    | false => rfl
  rw [hin0, if_neg (by decide)] at hM
  have hhit : yy t c.to = false := by
    cases h : yy t c.to with
    | true => rw [h] at hM; simp at hM
    | false => rfl
  rw [(xi hhit).2] at heb
  rw [hin0] at hinn
  obtain ⟨-, -, hpe, hte, -⟩ := hkk
  have hpt := hte hk
  have hps := jj hpe
  have hpts := jj hpt
  generalize y3 t c.path = k at *
  have hDD : jl t c v = (jr t c v).foldl yJ (jR (zg c.path) t) := by simp [jl, hk]
  have hEE : yC t c = false → j9 t c v = if 60 < (jl t c v).length then 2 else 0 := fun h => by simp [j9, h]
  have hKl : (jR (zg c.path) t).length ≤ t.length := List.length_filter_le ..
  have hKr := zq (p := zg c.path) hs
  clear hM hz1 hz2 hz3 h1 h0 hin0 hfi hix
  refine qa Tryz.func130 rfl _ Tryz.ntmps130 (Nat.le_of_ble_eq_true rfl) _ Tryz.results130 0 rfl rfl ?_
  repeat' (first | refine qe ?_ | (first | refine xsF Tryz.func160 (hform ..) ?_ | refine xsF Tryz.func139 (hpo1 ..) ?_ | refine xsF Tryz.func139 (hpo2 ..) ?_ | refine xsQ Tryz.func138 (hfo ..) ?_ | refine xsQ Tryz.func161 (hea ..) ?_ | refine xsQ Tryz.func161 (heb ..) ?_ | refine xsF Tryz.func162 (hinn ..) ?_) | ((first | refine qc ?_ ?_ | refine qb ?_ ?_ | refine xsC ?_ ?_); all_goals (intro hc; have hp := hc; try simp at hp; try (exfalso; omega))) | refine qw ?_ ?_)
  all_goals try (exfalso; omega)
  apply qad
  case h =>
    intro key
    refine kf 4 0 ?_
    (refine Awp.red (qh (ts := [(0, qq t), (2, .v (.int .i64 v)), (4, .fp [c.row] 0 0), (11, .v (.int .i64 ((0 : Nat) : Int)))]) ?_) ?_; ((repeat (first | exact qd | refine qi ?_ | refine qR ?_ ?_))))
    refine qu (fun n σ => ∃ i : Nat, i ≤ t.length ∧ n = t.length - i ∧ (True) ∧ σ = ⟨[(0, qq t), (2, .v (.int .i64 v)), (4, .fp [c.row] 0 0), (11, .v (.int .i64 (i : Int)))], [], C.nh⟩) t.length ⟨0, Nat.zero_le _, rfl, trivial, rfl⟩ ?_
    rintro n σ ⟨i, hi, rfl, -, rfl⟩
    by_cases hlt : i < t.length
    · have hr := qF (f := Ent.row) hlt
      have hnw := hst t[i] (List.getElem_mem _)
      have hpl := jj (hgt t[i] (List.getElem_mem _))
      have hii := xE t[i].path c.path (by omega) (by omega)
      generalize inB t[i].path c.path = IB at *
      repeat' (first | refine qe ?_ | (first | refine xsF Tryz.func162 (hii ..) ?_) | ((first | refine qc ?_ ?_ | refine qb ?_ ?_ | refine xsC ?_ ?_); all_goals (intro hc; have hp := hc; try simp at hp; try (exfalso; omega))) | refine qw ?_ ?_)
      all_goals try (exfalso; omega)
      all_goals try (
        have h9 := hnw (by omega)
        rw [Bool.and_eq_false_iff] at h9
        rcases h9 with h9 | h9
        · exact absurd (h9.symm.trans (by assumption)) Bool.false_ne_true
        · exact absurd (h9.symm.trans (by assumption)) Bool.false_ne_true)
      all_goals first
        | (refine ⟨t.length - (i + 1), _, by omega, qh (ts := [(0, qq t), (2, .v (.int .i64 v)), (4, .fp [c.row] 0 0), (11, .v (.int .i64 ((i + 1 : Nat) : Int)))]) ?_, i + 1, by omega, rfl, trivial, rfl⟩; ((repeat (first | exact qd | refine qi ?_ | refine qR ?_ ?_))))
        | ((repeat' (first | refine qe ?_ | (first | fail) | ((first | refine qc ?_ ?_ | refine qb ?_ ?_ | refine xsC ?_ ?_); all_goals (intro hc; have hp := hc; try simp at hp; try (exfalso; omega))) | refine qw ?_ ?_))
           (all_goals try (exfalso; omega))
           (refine Awp.red (qh (ts := [(0, qq t), (2, .v (.int .i64 v)), (4, .fp [c.row] 0 0), (12, .sl true []), (13, .v (.int .i64 ((0 : Nat) : Int)))]) ?_) ?_; ((repeat (first | exact qd | refine qi ?_ | refine qR ?_ ?_))))
           exact key.out)
    · obtain rfl : i = t.length := by omega
      (repeat' (first | refine qe ?_ | (first | fail) | ((first | refine qc ?_ ?_ | refine qb ?_ ?_ | refine xsC ?_ ?_); all_goals (intro hc; have hp := hc; try simp at hp; try (exfalso; omega))) | refine qw ?_ ?_))
      (all_goals try (exfalso; omega))
      (refine Awp.red (qh (ts := [(0, qq t), (2, .v (.int .i64 v)), (4, .fp [c.row] 0 0), (12, .sl true []), (13, .v (.int .i64 ((0 : Nat) : Int)))]) ?_) ?_; ((repeat (first | exact qd | refine qi ?_ | refine qR ?_ ?_))))
      exact key.out
  refine Awp.red (vw 12 4 rfl (Nat.le_refl _)) ?_
  (refine Awp.red (jq (τ := ⟨[(0, qq t), (2, .v (.int .i64 v)), (4, .fp [c.row] 0 0), (12, .os 0 0 0), (13, .v (.int .i64 ((0 : Nat) : Int)))], [(0, .own false 4 [])], 1⟩) [(0, 0)] rfl ?gts ?ghs) ?gmain; (case gts => (repeat (first | exact qd | refine qi ?_ | refine xM ?_ | refine vc ?_ | refine qR ?_ ?_))); (case ghs => (repeat (first | exact qg | refine jQ ?_ | refine qM ?_ ?_))))
  refine qu (fun n σ => ∃ i : Nat, i ≤ t.length ∧ n = t.length - i ∧ (True) ∧ σ = ⟨[(0, qq t), (2, .v (.int .i64 v)), (4, .fp [c.row] 0 0), (12, .os 0 0 (jR (zg c.path) (t.take i)).length), (13, .v (.int .i64 (i : Int)))], [(0, .own false 4 ((jR (zg c.path) (t.take i)).map Ent.row))], 1⟩) t.length ⟨0, Nat.zero_le _, rfl, trivial, rfl⟩ ?_
  rintro n σ ⟨i, hi, rfl, -, rfl⟩
  by_cases hlt : i < t.length
  · have hr := qF (f := Ent.row) hlt
    have hpl := jj (hgt t[i] (List.getElem_mem _))
    have hii := xE t[i].path c.path (by omega) (by omega)
    have hks := @Qg (zg c.path) t i hlt
    have hkl := YP (zg c.path) t i (by omega)
    have hin : zg c.path t[i] = inB t[i].path c.path := rfl
    rw [hin] at hks
    generalize inB t[i].path c.path = IB at *
    clear hin hst
    generalize hGG : jR (zg c.path) (t.take i) = G at hks hkl ⊢
    clear hGG
    cases IB with
    | true =>
      rw [if_pos rfl] at hks
      repeat' (first | refine qe ?_ | (first | (refine jZ ?_) | (refine xw ?_) | refine xsF Tryz.func162 (hii ..) ?_) | ((first | refine qc ?_ ?_ | refine qb ?_ ?_ | refine xsC ?_ ?_); all_goals (intro hc; have hp := hc; try simp at hp; try (exfalso; omega))) | refine qw ?_ ?_)
      all_goals try (exfalso; omega)
      refine ⟨t.length - (i + 1), _, by omega, jq (τ := ⟨[(0, qq t), (2, .v (.int .i64 v)), (4, .fp [c.row] 0 0), (12, .os 0 0 (jR (zg c.path) (t.take (i + 1))).length), (13, .v (.int .i64 ((i + 1 : Nat) : Int)))], [(0, .own false 4 ((jR (zg c.path) (t.take (i + 1))).map Ent.row))], 1⟩) [(0, 0)] rfl ?gts ?ghs, i + 1, by omega, rfl, trivial, rfl⟩; (case gts => (repeat (first | exact qd | refine qi ?_ | refine xM ?_ | refine vc ?_ | refine qR ?_ ?_)); all_goals (rw [hks])); (case ghs => (repeat (first | exact qg | refine jQ ?_ | refine qM ?_ ?_)); all_goals (rw [hks]))
    | false =>
      rw [if_neg (by decide)] at hks
      repeat' (first | refine qe ?_ | (first | (refine jZ ?_) | (refine xw ?_) | refine xsF Tryz.func162 (hii ..) ?_) | ((first | refine qc ?_ ?_ | refine qb ?_ ?_ | refine xsC ?_ ?_); all_goals (intro hc; have hp := hc; try simp at hp; try (exfalso; omega))) | refine qw ?_ ?_)
      all_goals try (exfalso; omega)
      refine ⟨t.length - (i + 1), _, by omega, jq (τ := ⟨[(0, qq t), (2, .v (.int .i64 v)), (4, .fp [c.row] 0 0), (12, .os 0 0 (jR (zg c.path) (t.take (i + 1))).length), (13, .v (.int .i64 ((i + 1 : Nat) : Int)))], [(0, .own false 4 ((jR (zg c.path) (t.take (i + 1))).map Ent.row))], 1⟩) [(1, 0)] rfl ?gts ?ghs, i + 1, by omega, rfl, trivial, rfl⟩; (case gts => (repeat (first | exact qd | refine qi ?_ | refine xM ?_ | refine vc ?_ | refine qR ?_ ?_)); all_goals (rw [hks]; try first | (simp; done) | (rw [List.take_of_length_le (by simp)]; simp; done))); (case ghs => (repeat (first | exact qg | refine jQ ?_ | refine qM ?_ ?_)); all_goals (rw [hks]; try first | (simp; done) | (rw [List.take_of_length_le (by simp)]; simp; done)))
  · obtain rfl : i = t.length := by omega
    rw [List.take_length]
    (repeat' (first | refine qe ?_ | (first | fail) | ((first | refine qc ?_ ?_ | refine qb ?_ ?_ | refine xsC ?_ ?_); all_goals (intro hc; have hp := hc; try simp at hp; try (exfalso; omega))) | refine qw ?_ ?_))
    (all_goals try (exfalso; omega))
    refine Awp.red (kP 0 rfl (by intro row hrow; obtain ⟨x, _, rfl⟩ := List.mem_map.1 hrow; rfl)) ?_
    refine Awp.red (K5 12 0 rfl rfl (by simp)) ?_
    (refine Awp.red (qh (ts := [(0, qq t), (2, .v (.int .i64 v)), (4, .fp [c.row] 0 0), (12, qq (((jr (t.take 0) c v).foldl yJ (jR (zg c.path) t)))), (14, .v (.int .i64 ((0 : Nat) : Int)))]) ?_) ?_; ((repeat (first | exact qd | refine qi ?_ | refine qR ?_ ?_))))
    all_goals try (rw [List.drop_zero, List.take_of_length_le (by simp)]; rfl)
    generalize hKK : jR (zg c.path) t = K at *
    refine qu (fun n σ => ∃ i : Nat, i ≤ t.length ∧ n = t.length - i ∧ (zm t c i = false) ∧ σ = ⟨[(0, qq t), (2, .v (.int .i64 v)), (4, .fp [c.row] 0 0), (12, qq ((jr (t.take i) c v).foldl yJ K)), (14, .v (.int .i64 (i : Int)))], [], C.nh⟩) t.length ⟨0, Nat.zero_le _, rfl, rfl, rfl⟩ ?_
    rintro n σ ⟨i, hi, rfl, hsofar, rfl⟩
    by_cases hlt : i < t.length
    · have hr := qF (f := Ent.row) hlt
      have hxp := hgt t[i] (List.getElem_mem _)
      have hpl := jj hxp
      have hii := xE t[i].path c.path (by omega) (by omega)
      have hgs := @YW t c v i hlt
      have hbs := @WR t c i hlt
      have hgl : (jr (t.take i) c v).length ≤ i := by
        unfold jr
        rw [List.length_map]
        have h1 : ((t.take i).filter (zg c.path)).length ≤ (t.take i).length := List.length_filter_le ..
        simp at h1; omega
      have hal := Qp (jr (t.take i) c v) K
      have har := zQ (l := jr (t.take i) c v) hKr
      have hmt : ∀ w, (if t[i].path = c.path then v else t[i].ver) = w → (yD c v t[i]).row = [.v (str (c.to ++ t[i].path.drop c.path.length)), .v (.bool t[i].fold), .v (str t[i].text), .v (.int .i64 w)] := fun w hw => by simp [yD, Ent.row, hw]
      have hmr := @ZD t[i].path c.path c.to
      have hpu := wC ((jr (t.take i) c v).foldl yJ K) (yD c v t[i]) (by omega)
      rw [Jl har] at hpu
      have hbd : inB t[i].path c.path = true → yl (c.to ++ t[i].path.drop c.path.length) = true → j9 t c v = 2 := fun h3 h4 => by
        have : yC t c = true := by
          simp only [yC, hk, decide_true, Bool.true_and, List.any_eq_true]
          exact ⟨t[i], List.mem_filter.2 ⟨List.getElem_mem _, h3⟩, h4⟩
        simp [j9, this]
      rw [hsofar] at hbs
      generalize hIB : inB t[i].path c.path = IB at *
      clear hst hsofar hDD hEE hhit
      cases IB with
      | false =>
        have hgs2 : jr (t.take (i + 1)) c v = jr (t.take i) c v := by rw [hgs, if_neg (by decide)]
        have hbs2 : zm t c (i + 1) = false := hbs
        generalize hOO : (jr (t.take i) c v).foldl yJ K = O at *
        repeat' (first | refine qe ?_ | (first | refine xsF Tryz.func162 (hii ..) ?_) | ((first | refine qc ?_ ?_ | refine qb ?_ ?_ | refine xsC ?_ ?_); all_goals (intro hc; have hp := hc; try simp at hp; try (exfalso; omega))) | refine qw ?_ ?_)
        all_goals try (exfalso; omega)
        refine ⟨t.length - (i + 1), _, by omega, qh (ts := [(0, qq t), (2, .v (.int .i64 v)), (4, .fp [c.row] 0 0), (12, qq ((jr (t.take (i + 1)) c v).foldl yJ K)), (14, .v (.int .i64 ((i + 1 : Nat) : Int)))]) ?_, i + 1, by omega, rfl, hbs2, rfl⟩; ((repeat (first | exact qd | refine qi ?_ | refine qR ?_ ?_)); all_goals (rw [hgs2, hOO]; rfl))
      | true =>
        have hgs2 : jr (t.take (i + 1)) c v = jr (t.take i) c v ++ [yD c v t[i]] := by rw [hgs, if_pos rfl]
        have hO2 : (jr (t.take (i + 1)) c v).foldl yJ K = yJ ((jr (t.take i) c v).foldl yJ K) (yD c v t[i]) := by rw [hgs2, List.foldl_append]; rfl
        rw [← hO2] at hpu
        have hmr := hmr rfl
        have n1 := v8 c.to (by omega)
        have n2 := v8 t[i].path (by omega)
        have n3 := v8 c.path (by omega)
        have m1 := vx c.to
        have m2 := vx t[i].path
        have hcount : (qk c.path).length ≤ (qk t[i].path).length := by
          rw [X0, List.isPrefixOf_iff_prefix] at hIB
          exact hIB.length_le
        have hql : (c.to ++ t[i].path.drop c.path.length).length ≤ 4000000 := by simp; omega
        have hpo := Wf (qk c.to ++ (qk t[i].path).drop (qk c.path).length) (by simp; omega) (by rw [hmr]; omega)
        rw [hmr] at hpo
        have hgg := Vl (c.to ++ t[i].path.drop c.path.length) (by omega)
        have hbs2 : zm t c (i + 1) = yl (c.to ++ t[i].path.drop c.path.length) := by simpa using hbs
        have hbd := hbd rfl
        clear hgs hbs hgs2 hO2 hIB hmr hxp
        generalize hOO2 : (jr (t.take (i + 1)) c v).foldl yJ K = O2 at *
        generalize (jr (t.take i) c v).foldl yJ K = O at *
        generalize c.to ++ t[i].path.drop c.path.length = Q at *
        have hrk : ∀ row, row ∈ (qk t[i].path).map ji → row.length = 1 := fun row hr => by obtain ⟨x, _, rfl⟩ := List.mem_map.1 hr; rfl
        generalize hA : qk c.to = A at *
        generalize hB : qk t[i].path = B at *
        generalize hD : qk c.path = D at *
        have hml : (B.map ji).length = B.length := List.length_map ..
        have hmd : (D.map ji).length = D.length := List.length_map ..
        have hma : (A.map ji).length = A.length := List.length_map ..
        have hee : (A ++ B.drop D.length).map ji = A.map ji ++ ((B.map ji).take (B.map ji).length).drop (D.map ji).length := by rw [List.take_length, hmd, List.map_append, List.map_drop]
        rw [hee] at hpo
        have hrd : (((B.map ji).take (B.map ji).length).drop (D.map ji).length).all (fun row => row.length == 1 && row.all jP) = true := by
          rw [List.all_eq_true]; intro x hx
          obtain ⟨y, _, rfl⟩ := List.mem_map.1 (List.mem_of_mem_take (List.mem_of_mem_drop hx))
          rfl
        have hdl : (((B.map ji).take (B.map ji).length).drop (D.map ji).length).length ≤ 4000000 := by rw [List.length_drop, List.take_length]; omega
        clear hA hB hD hee
        cases hGT : yl Q with
        | true =>
          rw [hbd hGT, if_neg (by decide)]
          rw [hGT] at hgg
          clear hbd hbs2 hpu hmt
          repeat' (first | refine qe ?_ | (first | (refine jZ ?_) | refine xsF Tryz.func162 (hii ..) ?_ | refine xsQ Tryz.func165 (n1 ..) ?_ | refine xsQ Tryz.func165 (n2 ..) ?_ | refine xsQ Tryz.func165 (n3 ..) ?_ | (refine vT ?_) | (apply Yf; apply zU; (case hx => rfl); (case hT => rfl); (case he => rfl); (case hE => rfl); (case hn => rfl); (case hl => (first | omega | (simp; done) | (simp only [List.length_cons, List.length_nil, List.length_map]; omega) | (simp; omega))); (case hz => rfl); (case hsrc => (first | (first | (apply vK; rfl; rfl) | (apply QE; rfl; intro a; rfl) | (apply w4; rfl; rfl; first | omega | (simp; done) | (simp; omega); rfl; first | rfl | exact xG fun _ => rfl)) | (apply vK; rfl; exact hrd))); (case hsz => (first | omega | (simp; done) | (simp only [List.length_cons, List.length_nil, List.length_map]; omega) | (simp; omega))); (case hlen => (first | omega | (simp; done) | (simp only [List.length_cons, List.length_nil, List.length_map]; omega) | (simp; omega))); (case hmn => exact Nat.ne_of_beq_eq_false rfl); (case hN => exact nle rfl)) | (apply qj; apply vW (ex' := false) (a := (D.map ji).length) (b := (B.map ji).length) (m := 0); (case hx => rfl); (case hT => rfl); (case he => rfl); (case hE => rfl); (case ha => exact ⟨_, rfl⟩); (case hb => rfl); (case hm => trivial); (case hab => (first | omega | (simp; done) | (simp only [List.length_cons, List.length_nil, List.length_map]; omega) | (simp; omega))); (case hbl => (first | omega | (simp; done) | (simp only [List.length_cons, List.length_nil, List.length_map]; omega) | (simp; omega))); (case hrk => exact hrk); (case hex => exact nofun); (case hN => exact nle rfl)) | (apply qj; apply yd ([2]); exact jG Tryz.func164 rfl rfl; apply hpo; (case hz => refine qm ?_ qZ; (apply J4; (case hn => rfl); (case hl => (simp; done)); (case he => (congr 1; exact List.take_length)); (case hp => (intro row hrow; rcases List.mem_append.1 hrow with hrow | hrow; (obtain ⟨y, _, rfl⟩ := List.mem_map.1 hrow; rfl); (obtain ⟨y, _, rfl⟩ := List.mem_map.1 (List.mem_of_mem_take (List.mem_of_mem_drop hrow)); rfl))))); (case hfl => rfl); (case hN => exact nle rfl)) | refine xsF Tryz.func166 (hgg ..) ?_) | ((first | refine qc ?_ ?_ | refine qb ?_ ?_ | refine xsC ?_ ?_); all_goals (intro hc; have hp := hc; try simp at hp; try (exfalso; omega))) | refine qw ?_ ?_)
          all_goals try (exfalso; omega)
          all_goals ((exact yv (rs := [.tmp 6, .tmp 7])))
        | false =>
          rw [hGT] at hgg hbs2
          clear hbd
          by_cases hpe2 : t[i].path = c.path
          · rw [hmt v (if_pos hpe2)] at hpu
            clear hmt
            repeat' (first | refine qe ?_ | (first | (refine jZ ?_) | refine xsF Tryz.func162 (hii ..) ?_ | refine xsQ Tryz.func165 (n1 ..) ?_ | refine xsQ Tryz.func165 (n2 ..) ?_ | refine xsQ Tryz.func165 (n3 ..) ?_ | (refine vT ?_) | (apply Yf; apply zU; (case hx => rfl); (case hT => rfl); (case he => rfl); (case hE => rfl); (case hn => rfl); (case hl => (first | omega | (simp; done) | (simp only [List.length_cons, List.length_nil, List.length_map]; omega) | (simp; omega))); (case hz => rfl); (case hsrc => (first | (first | (apply vK; rfl; rfl) | (apply QE; rfl; intro a; rfl) | (apply w4; rfl; rfl; first | omega | (simp; done) | (simp; omega); rfl; first | rfl | exact xG fun _ => rfl)) | (apply vK; rfl; exact hrd))); (case hsz => (first | omega | (simp; done) | (simp only [List.length_cons, List.length_nil, List.length_map]; omega) | (simp; omega))); (case hlen => (first | omega | (simp; done) | (simp only [List.length_cons, List.length_nil, List.length_map]; omega) | (simp; omega))); (case hmn => exact Nat.ne_of_beq_eq_false rfl); (case hN => exact nle rfl)) | (apply qj; apply vW (ex' := false) (a := (D.map ji).length) (b := (B.map ji).length) (m := 0); (case hx => rfl); (case hT => rfl); (case he => rfl); (case hE => rfl); (case ha => exact ⟨_, rfl⟩); (case hb => rfl); (case hm => trivial); (case hab => (first | omega | (simp; done) | (simp only [List.length_cons, List.length_nil, List.length_map]; omega) | (simp; omega))); (case hbl => (first | omega | (simp; done) | (simp only [List.length_cons, List.length_nil, List.length_map]; omega) | (simp; omega))); (case hrk => exact hrk); (case hex => exact nofun); (case hN => exact nle rfl)) | (apply qj; apply yd ([2]); exact jG Tryz.func164 rfl rfl; apply hpo; (case hz => refine qm ?_ qZ; (apply J4; (case hn => rfl); (case hl => (simp; done)); (case he => (congr 1; exact List.take_length)); (case hp => (intro row hrow; rcases List.mem_append.1 hrow with hrow | hrow; (obtain ⟨y, _, rfl⟩ := List.mem_map.1 hrow; rfl); (obtain ⟨y, _, rfl⟩ := List.mem_map.1 (List.mem_of_mem_take (List.mem_of_mem_drop hrow)); rfl))))); (case hfl => rfl); (case hN => exact nle rfl)) | refine xsF Tryz.func166 (hgg ..) ?_ | refine xsQ Tryz.func163 (hpu ..) ?_) | ((first | refine qc ?_ ?_ | refine qb ?_ ?_ | refine xsC ?_ ?_); all_goals (intro hc; have hp := hc; try simp at hp; try (exfalso; omega))) | refine qw ?_ ?_)
            all_goals try (exfalso; omega)
            all_goals try (exfalso; contradiction)
            refine ⟨t.length - (i + 1), _, by omega, qh (ts := [(0, qq t), (2, .v (.int .i64 v)), (4, .fp [c.row] 0 0), (12, qq ((jr (t.take (i + 1)) c v).foldl yJ K)), (14, .v (.int .i64 ((i + 1 : Nat) : Int)))]) ?_, i + 1, by omega, rfl, hbs2, rfl⟩; ((repeat (first | exact qd | refine qi ?_ | refine qR ?_ ?_)); all_goals (rw [hOO2]; rfl))
          · rw [hmt t[i].ver (if_neg hpe2)] at hpu
            clear hmt
            repeat' (first | refine qe ?_ | (first | (refine jZ ?_) | refine xsF Tryz.func162 (hii ..) ?_ | refine xsQ Tryz.func165 (n1 ..) ?_ | refine xsQ Tryz.func165 (n2 ..) ?_ | refine xsQ Tryz.func165 (n3 ..) ?_ | (refine vT ?_) | (apply Yf; apply zU; (case hx => rfl); (case hT => rfl); (case he => rfl); (case hE => rfl); (case hn => rfl); (case hl => (first | omega | (simp; done) | (simp only [List.length_cons, List.length_nil, List.length_map]; omega) | (simp; omega))); (case hz => rfl); (case hsrc => (first | (first | (apply vK; rfl; rfl) | (apply QE; rfl; intro a; rfl) | (apply w4; rfl; rfl; first | omega | (simp; done) | (simp; omega); rfl; first | rfl | exact xG fun _ => rfl)) | (apply vK; rfl; exact hrd))); (case hsz => (first | omega | (simp; done) | (simp only [List.length_cons, List.length_nil, List.length_map]; omega) | (simp; omega))); (case hlen => (first | omega | (simp; done) | (simp only [List.length_cons, List.length_nil, List.length_map]; omega) | (simp; omega))); (case hmn => exact Nat.ne_of_beq_eq_false rfl); (case hN => exact nle rfl)) | (apply qj; apply vW (ex' := false) (a := (D.map ji).length) (b := (B.map ji).length) (m := 0); (case hx => rfl); (case hT => rfl); (case he => rfl); (case hE => rfl); (case ha => exact ⟨_, rfl⟩); (case hb => rfl); (case hm => trivial); (case hab => (first | omega | (simp; done) | (simp only [List.length_cons, List.length_nil, List.length_map]; omega) | (simp; omega))); (case hbl => (first | omega | (simp; done) | (simp only [List.length_cons, List.length_nil, List.length_map]; omega) | (simp; omega))); (case hrk => exact hrk); (case hex => exact nofun); (case hN => exact nle rfl)) | (apply qj; apply yd ([2]); exact jG Tryz.func164 rfl rfl; apply hpo; (case hz => refine qm ?_ qZ; (apply J4; (case hn => rfl); (case hl => (simp; done)); (case he => (congr 1; exact List.take_length)); (case hp => (intro row hrow; rcases List.mem_append.1 hrow with hrow | hrow; (obtain ⟨y, _, rfl⟩ := List.mem_map.1 hrow; rfl); (obtain ⟨y, _, rfl⟩ := List.mem_map.1 (List.mem_of_mem_take (List.mem_of_mem_drop hrow)); rfl))))); (case hfl => rfl); (case hN => exact nle rfl)) | refine xsF Tryz.func166 (hgg ..) ?_ | refine xsQ Tryz.func163 (hpu ..) ?_) | ((first | refine qc ?_ ?_ | refine qb ?_ ?_ | refine xsC ?_ ?_); all_goals (intro hc; have hp := hc; try simp at hp; try (exfalso; omega))) | refine qw ?_ ?_)
            all_goals try (exfalso; omega)
            all_goals try (exfalso; contradiction)
            refine ⟨t.length - (i + 1), _, by omega, qh (ts := [(0, qq t), (2, .v (.int .i64 v)), (4, .fp [c.row] 0 0), (12, qq ((jr (t.take (i + 1)) c v).foldl yJ K)), (14, .v (.int .i64 ((i + 1 : Nat) : Int)))]) ?_, i + 1, by omega, rfl, hbs2, rfl⟩; ((repeat (first | exact qd | refine qi ?_ | refine qR ?_ ?_)); all_goals (rw [hOO2]; rfl))
    · obtain rfl : i = t.length := by omega
      have hmb : yC t c = false := by
        unfold zm at hsofar
        rw [List.take_length] at hsofar
        simp [yC, hsofar]
      rw [hEE hmb]
      rw [List.take_length]
      rw [← hDD]
      generalize jl t c v = L at *
      have hml : (List.map Ent.row L).length = L.length := List.length_map ..
      by_cases hL : 60 < L.length
      · rw [if_pos hL]
        (repeat' (first | refine qe ?_ | (first | fail) | ((first | refine qc ?_ ?_ | refine qb ?_ ?_ | refine xsC ?_ ?_); all_goals (intro hc; have hp := hc; try simp at hp; try (exfalso; omega))) | refine qw ?_ ?_))
        (all_goals try (exfalso; omega))
        (all_goals ((exact yv (rs := [.tmp 6, .tmp 7]))))
      · rw [if_neg hL]
        (repeat' (first | refine qe ?_ | (first | fail) | ((first | refine qc ?_ ?_ | refine qb ?_ ?_ | refine xsC ?_ ?_); all_goals (intro hc; have hp := hc; try simp at hp; try (exfalso; omega))) | refine qw ?_ ?_))
        (all_goals try (exfalso; omega))
        (all_goals ((exact yv (rs := [.tmp 6, .tmp 7]))))
end Go.Proofs.YtiljlcgmcmjcoaaGreatDoor
set_option linter.unusedSimpArgs false
set_option linter.unnecessarySimpa false
set_option linter.unusedVariables false
set_option maxHeartbeats 1000000
namespace Go.Proofs.YtiljlcgmcmjcoaaGreatDoor
open Go.Ab Go.RowKit
set_option maxRecDepth 10000
attribute [local irreducible] Awp jV q9 qJ Red qy Go.Ab.Fin ql Rz yQ qA qG ResOk jC q6 jH qT
def XY (v : Int) : List Ent → List Chg → Nat → List Ent × Nat × Int
  | t, [], n => (t, n, 0)
  | t, c :: l, n => if zA t c v = 0 then XY v (jl t c v) l (n + 1) else ([], n, zA t c v)
def vb (v : Int) (t : List Ent) (l : List Chg) : List Ent × Nat × Int :=
  if ¬ jx t = 0 then ([], 0, jx t) else if 20 < l.length then ([], 0, 2) else if xW v = false ∧ 0 < l.length then ([], 0, 3) else XY v t l 0
def qes (r : List Ent × Nat × Int) : AV := .tup [qq r.1, .v (.int .i64 (r.2.1 : Nat)), .v (.int .i64 r.2.2)]
theorem ZS {v : Int} {t : List Ent} {l : List Chg} {i : Nat} (h : i < l.length) : XY v t (l.drop i) i = if zA t l[i] v = 0 then XY v (jl t l[i] v) (l.drop (i + 1)) (i + 1) else ([], i, zA t l[i] v) := by
  rw [List.drop_eq_getElem_cons h]; rfl
theorem WM (t : List Ent) (l : List Chg) (v : Int) (hb : EBig t) (hcb : CBig l) : jY C.P 119 [qq t, vh l, .v (.int .i64 v)] (qes (vb v t l)) := by
  have h1 := W4 t hb
  have h2 := WX v
  have hll := hcb.len
  have hml : (l.map Chg.row).length = l.length := List.length_map ..
  have hE : vb v t l = if ¬ jx t = 0 then ([], 0, jx t) else if 20 < l.length then ([], 0, 2) else if xW v = false ∧ 0 < l.length then ([], 0, 3) else XY v t l 0 := rfl
  by_cases hte : jx t = 0
  · rw [if_neg (by simp [hte])] at hE
    have hR := RightE.of hte
    rw [hte] at h1
    have h60 := (Qr hte).1
    have h3 := Va t (by omega)
    by_cases h20 : 20 < l.length
    · rw [if_pos h20] at hE
      rw [hE]
      refine qa Tryz.func119 rfl _ Tryz.ntmps119 (Nat.le_of_ble_eq_true rfl) _ Tryz.results119 0 rfl rfl ?_
      repeat' (first | refine qe ?_ | (first | (refine jZ ?_) | refine xsQ Tryz.func65 (h1 ..) ?_) | ((first | refine qc ?_ ?_ | refine qb ?_ ?_ | refine xsC ?_ ?_); all_goals (intro hc; have hp := hc; try simp at hp; try (exfalso; omega))) | refine qw ?_ ?_)
      all_goals try (exfalso; omega)
      all_goals try (exfalso; first | omega | (simp_all; done) | (simp_all; omega))
      all_goals ((exact yv (rs := [.tmp 6, .tmp 7, .tmp 8])))
    · rw [if_neg h20] at hE
      by_cases hv : xW v = false ∧ 0 < l.length
      · rw [if_pos hv] at hE
        rw [hE]
        rw [hv.1] at h2
        refine qa Tryz.func119 rfl _ Tryz.ntmps119 (Nat.le_of_ble_eq_true rfl) _ Tryz.results119 0 rfl rfl ?_
        repeat' (first | refine qe ?_ | (first | (refine jZ ?_) | refine xsQ Tryz.func65 (h1 ..) ?_ | refine xsF Tryz.func148 (h2 ..) ?_) | ((first | refine qc ?_ ?_ | refine qb ?_ ?_ | refine xsC ?_ ?_); all_goals (intro hc; have hp := hc; try simp at hp; try (exfalso; omega))) | refine qw ?_ ?_)
        all_goals try (exfalso; omega)
        all_goals try (exfalso; first | omega | (simp_all; done) | (simp_all; omega))
        all_goals ((exact yv (rs := [.tmp 6, .tmp 7, .tmp 8])))
      · rw [if_neg hv] at hE
        generalize hV : xW v = V at *
        have hv2 : V = false → l.length = 0 := fun h => by
          rcases Nat.eq_zero_or_pos l.length with h4 | h4
          · exact h4
          · exact absurd ⟨h, h4⟩ hv
        clear hV
        generalize hA : vb v t l = A at *
        clear hA
        refine qa Tryz.func119 rfl _ Tryz.ntmps119 (Nat.le_of_ble_eq_true rfl) _ Tryz.results119 0 rfl rfl ?_
        repeat' (first | refine qe ?_ | (first | (refine jZ ?_) | refine xsQ Tryz.func65 (h1 ..) ?_ | refine xsF Tryz.func148 (h2 ..) ?_ | (apply qH Tryz.func101 rfl rfl; intro hIsFn; refine j6 ([]) hIsFn (h3 ..) ?_)) | ((first | refine qc ?_ ?_ | refine qb ?_ ?_ | refine xsC ?_ ?_); all_goals (intro hc; have hp := hc; try simp at hp; try (exfalso; omega))) | refine qw ?_ ?_)
        all_goals try (exfalso; omega)
        all_goals try (exfalso; first | omega | (simp_all; done) | (simp_all; omega))
        all_goals (
          refine Awp.red (kP 0 rfl (by intro row hrow; obtain ⟨x, _, rfl⟩ := List.mem_map.1 hrow; rfl)) ?_
          refine Awp.red (K5 0 0 rfl rfl (by simp)) ?_
          (refine Awp.red (qh (ts := [(0, qq t), (1, vh l), (2, .v (.int .i64 v)), (33, vh l), (34, .v (.int .i64 l.length)), (35, .v (.int .i64 ((0 : Nat) : Int)))]) ?_) ?_; ((repeat (first | exact qd | refine qi ?_ | refine qR ?_ ?_))))
          all_goals try (rw [List.length_map]; done)
          all_goals try (rw [List.drop_zero, List.take_of_length_le (by simp)]; rfl)
          refine qu (fun n σ => ∃ (i : Nat) (u : List Ent), i ≤ l.length ∧ n = l.length - i ∧ (A = XY v u (l.drop i) i ∧ RightE u) ∧ σ = ⟨[(0, qq u), (1, vh l), (2, .v (.int .i64 v)), (33, vh l), (34, .v (.int .i64 l.length)), (35, .v (.int .i64 (i : Int)))], [], C.nh⟩) l.length ⟨0, t, Nat.zero_le _, rfl, ⟨by rw [hE]; rfl, hR⟩, rfl⟩ ?_
          rintro n σ ⟨i, u, hi, rfl, ⟨hA, hRu⟩, rfl⟩
          by_cases hlt : i < l.length
          · have hr := qF (f := Chg.row) hlt
            have hraw := qgz u l[i] v hRu (hcb.each _ (List.getElem_mem _))
            rw [ZS hlt] at hA
            have hL : Zo u l[i] v = if zA u l[i] v = 0 then jl u l[i] v else [] := rfl
            by_cases hz : zA u l[i] v = 0
            · have hRn := hRu.done hz
              rw [if_pos hz] at hA hL
              rw [hL, hz] at hraw
              generalize jl u l[i] v = U at *
              clear hE hL hz
              repeat' (first | refine qe ?_ | (first | refine xsQ Tryz.func149 (hraw ..) ?_) | ((first | refine qc ?_ ?_ | refine qb ?_ ?_ | refine xsC ?_ ?_); all_goals (intro hc; have hp := hc; try simp at hp; try (exfalso; omega))) | refine qw ?_ ?_)
              all_goals try (exfalso; omega)
              refine ⟨l.length - (i + 1), _, by omega, qh (ts := [(0, qq U), (1, vh l), (2, .v (.int .i64 v)), (33, vh l), (34, .v (.int .i64 l.length)), (35, .v (.int .i64 ((i + 1 : Nat) : Int)))]) ?_, i + 1, U, by omega, rfl, ⟨hA, hRn⟩, rfl⟩
              (repeat (first | exact qd | refine qi ?_ | refine qR ?_ ?_))
            · rw [if_neg hz] at hA hL
              rw [hL] at hraw
              rw [hA]
              generalize zA u l[i] v = E at *
              clear hE hL hA
              repeat' (first | refine qe ?_ | (first | refine xsQ Tryz.func149 (hraw ..) ?_) | ((first | refine qc ?_ ?_ | refine qb ?_ ?_ | refine xsC ?_ ?_); all_goals (intro hc; have hp := hc; try simp at hp; try (exfalso; omega))) | refine qw ?_ ?_)
              all_goals try (exfalso; omega)
              (exact yv (rs := [.tmp 6, .tmp 7, .tmp 8]))
          obtain rfl : i = l.length := by omega
          rw [List.drop_length] at hA
          have hA : A = (u, l.length, 0) := hA
          rw [hA]
          clear hE hA
          repeat' (first | refine qe ?_ | fail | ((first | refine qc ?_ ?_ | refine qb ?_ ?_ | refine xsC ?_ ?_); all_goals (intro hc; have hp := hc; try simp at hp; try (exfalso; omega))) | refine qw ?_ ?_)
          all_goals try (exfalso; omega)
          (refine y6 (rs := [.tmp 6, .tmp 7, .tmp 8]) ?_; (repeat' (first | exact qZ | apply qm | exact qQ rfl | exact yI | exact z1 | apply yh | apply yX | apply yc | apply y2 | apply yx | apply yW | refine z8 ?_ | apply xS)); all_goals (rw [List.length_map])))
  · rw [if_pos hte] at hE
    rw [hE]
    generalize jx t = E at *
    refine qa Tryz.func119 rfl _ Tryz.ntmps119 (Nat.le_of_ble_eq_true rfl) _ Tryz.results119 0 rfl rfl ?_
    repeat' (first | refine qe ?_ | (first | (refine jZ ?_) | refine xsQ Tryz.func65 (h1 ..) ?_) | ((first | refine qc ?_ ?_ | refine qb ?_ ?_ | refine xsC ?_ ?_); all_goals (intro hc; have hp := hc; try simp at hp; try (exfalso; omega))) | refine qw ?_ ?_)
    all_goals try (exfalso; omega)
    all_goals ((exact yv (rs := [.tmp 6, .tmp 7, .tmp 8])))
end Go.Proofs.YtiljlcgmcmjcoaaGreatDoor
set_option linter.unusedSimpArgs false
set_option linter.unnecessarySimpa false
set_option linter.unusedVariables false
set_option maxHeartbeats 1000000
namespace Go.Proofs.YtiljlcgmcmjcoaaGreatDoor
open Go.Ab Go.RowKit
set_option maxRecDepth 10000
attribute [local irreducible] Awp jV q9 qJ Red qy Go.Ab.Fin ql Rz yQ qA qG ResOk jC q6 jH qT
theorem qfT (t : List Ent) (c : Chg) (v : Int) : zA t c v = if ¬ yo c = 0 then yo c else if ¬ xL t c = 0 then xL t c else if ¬ j8 t c = 0 then j8 t c else j9 t c v := by
  unfold zA
  rw [qfE]
  by_cases h0 : yo c = 0 <;> by_cases h1 : xL t c = 0 <;> by_cases h2 : j8 t c = 0 <;> simp [h0, h1, h2]
theorem qfR {t : List Ent} {c : Chg} (h : ¬ j8 t c = 0) : j8 t c = 8 := by
  unfold j8 at *
  split at h
  · rename_i h1; rw [if_pos h1]
  · exact absurd rfl h
theorem qbN (t : List Ent) (c : Chg) (v : Int) (h60 : t.length ≤ 60) (hs : qr j5 t = true) (hgt : ∀ x, x ∈ t → qC x.path = 0) (hcs : c.small) : jY C.P 130 [qq t, .agg c.row, .v (.int .i64 v)] (.tup [qq (Zo t c v), .v (.int .i64 (zA t c v))]) := by
  have hR := qfT t c v
  by_cases h0 : yo c = 0
  · rw [if_neg (by simp [h0])] at hR
    by_cases h1 : xL t c = 0
    · rw [if_neg (by simp [h1])] at hR
      by_cases h2 : j8 t c = 0
      · rw [if_neg (by simp [h2])] at hR
        obtain ⟨k1, k2, -⟩ := yw h0
        have hL : Zo t c v = if j9 t c v = 0 then jl t c v else [] := by unfold Zo; rw [hR]
        rw [hL, hR]
        by_cases e1 : c.kind = 1
        · exact qhn t c v h60 hs hgt hcs e1 h0 h1 h2
        · by_cases e2 : c.kind = 2
          · exact qhm t c v h60 hs hgt hcs e2 h0 h1 h2
          · by_cases e3 : c.kind = 3
            · exact qg7 t c v h60 hs hgt hcs e3 h0 h1 h2
            · exact qg6 t c v h60 hs hgt hcs (by omega) h0 h1 h2
      · rw [if_pos h2] at hR
        rw [Yb (by rw [hR]; exact h2), hR, qfR h2]
        exact qhj t c v h60 hs hgt hcs h0 h1 h2
    · rw [if_pos h1] at hR
      rw [Yb (by rw [hR]; exact h1), hR]
      exact qhh t c v h60 hs hcs h0 h1
  · rw [if_pos h0] at hR
    rw [Yb (by rw [hR]; exact h0), hR]
    exact qhc t c v h60 hcs h0
theorem qf4 {t : List Ent} {c : Chg} {v : Int} (hr : zA t c v = 0) : (jl t c v).length ≤ 60 := by
  unfold zA at hr
  split at hr
  · contradiction
  · split at hr
    · contradiction
    · exact (KM hr).2
def qbG (t : List Ent) (l : List Chg) (v : Int) : List Ent × Nat × Int := if 20 < l.length then ([], 0, 2) else if xW v = false ∧ 0 < l.length then ([], 0, 3) else XY v t l 0
theorem qfl (t : List Ent) (l : List Chg) (v : Int) (h60 : t.length ≤ 60) (hR : RightE t) (hcb : CBig l) : jY C.P 97 [qq t, vh l, .v (.int .i64 v)] (qes (qbG t l v)) := by
  have h2 := VA v
  have hll := hcb.len
  have hml : (l.map Chg.row).length = l.length := List.length_map ..
  have hE : qbG t l v = if 20 < l.length then ([], 0, 2) else if xW v = false ∧ 0 < l.length then ([], 0, 3) else XY v t l 0 := rfl
  by_cases h20 : 20 < l.length
  · rw [if_pos h20] at hE
    rw [hE]
    refine qa Tryz.func97 rfl _ Tryz.ntmps97 (Nat.le_of_ble_eq_true rfl) _ Tryz.results97 0 rfl rfl ?_
    repeat' (first | refine qe ?_ | fail | ((first | refine qc ?_ ?_ | refine qb ?_ ?_ | refine xsC ?_ ?_); all_goals (intro hc; have hp := hc; try simp at hp; try (exfalso; omega))) | refine qw ?_ ?_)
    all_goals try (exfalso; first | omega | (simp_all; done) | (simp_all; omega))
    all_goals ((exact yv (rs := [.tmp 6, .tmp 7, .tmp 8])))
  · rw [if_neg h20] at hE
    by_cases hv : xW v = false ∧ 0 < l.length
    · rw [if_pos hv] at hE
      rw [hE]
      rw [hv.1] at h2
      refine qa Tryz.func97 rfl _ Tryz.ntmps97 (Nat.le_of_ble_eq_true rfl) _ Tryz.results97 0 rfl rfl ?_
      repeat' (first | refine qe ?_ | (first | refine xsF Tryz.func110 (h2 ..) ?_) | ((first | refine qc ?_ ?_ | refine qb ?_ ?_ | refine xsC ?_ ?_); all_goals (intro hc; have hp := hc; try simp at hp; try (exfalso; omega))) | refine qw ?_ ?_)
      all_goals try (exfalso; first | omega | (simp_all; done) | (simp_all; omega))
      all_goals ((exact yv (rs := [.tmp 6, .tmp 7, .tmp 8])))
    · rw [if_neg hv] at hE
      generalize hV : xW v = V at *
      have hv2 : V = false → l.length = 0 := fun h => by
        rcases Nat.eq_zero_or_pos l.length with h4 | h4
        · exact h4
        · exact absurd ⟨h, h4⟩ hv
      clear hV
      generalize hA : qbG t l v = A at *
      clear hA
      refine qa Tryz.func97 rfl _ Tryz.ntmps97 (Nat.le_of_ble_eq_true rfl) _ Tryz.results97 0 rfl rfl ?_
      repeat' (first | refine qe ?_ | (first | refine xsF Tryz.func110 (h2 ..) ?_) | ((first | refine qc ?_ ?_ | refine qb ?_ ?_ | refine xsC ?_ ?_); all_goals (intro hc; have hp := hc; try simp at hp; try (exfalso; omega))) | refine qw ?_ ?_)
      all_goals try (exfalso; first | omega | (simp_all; done) | (simp_all; omega))
      all_goals (
        (refine Awp.red (qh (ts := [(0, qq t), (1, vh l), (2, .v (.int .i64 v)), (9, .v (.int .i64 ((0 : Nat) : Int)))]) ?_) ?_; ((repeat (first | exact qd | refine qi ?_ | refine qR ?_ ?_))))
        refine qu (fun n σ => ∃ (i : Nat) (u : List Ent), i ≤ l.length ∧ n = l.length - i ∧ (A = XY v u (l.drop i) i ∧ RightE u ∧ u.length ≤ 60) ∧ σ = ⟨[(0, qq u), (1, vh l), (2, .v (.int .i64 v)), (9, .v (.int .i64 (i : Int)))], [], C.nh⟩) l.length ⟨0, t, Nat.zero_le _, rfl, ⟨by rw [hE]; rfl, hR, h60⟩, rfl⟩ ?_
        rintro n σ ⟨i, u, hi, rfl, ⟨hA, hRu, hu60⟩, rfl⟩
        by_cases hlt : i < l.length
        · have hr := qF (f := Chg.row) hlt
          have hraw := qbN u l[i] v hu60 hRu.rise hRu.paths (hcb.each _ (List.getElem_mem _))
          rw [ZS hlt] at hA
          have hL : Zo u l[i] v = if zA u l[i] v = 0 then jl u l[i] v else [] := rfl
          by_cases hz : zA u l[i] v = 0
          · have hRn := hRu.done hz
            have hRl := qf4 hz
            rw [if_pos hz] at hA hL
            rw [hL, hz] at hraw
            generalize jl u l[i] v = U at *
            clear hE hL hz
            repeat' (first | refine qe ?_ | (first | refine xsQ Tryz.func130 (hraw ..) ?_) | ((first | refine qc ?_ ?_ | refine qb ?_ ?_ | refine xsC ?_ ?_); all_goals (intro hc; have hp := hc; try simp at hp; try (exfalso; omega))) | refine qw ?_ ?_)
            all_goals try (exfalso; omega)
            refine ⟨l.length - (i + 1), _, by omega, qh (ts := [(0, qq U), (1, vh l), (2, .v (.int .i64 v)), (9, .v (.int .i64 ((i + 1 : Nat) : Int)))]) ?_, i + 1, U, by omega, rfl, ⟨hA, hRn, hRl⟩, rfl⟩
            (repeat (first | exact qd | refine qi ?_ | refine qR ?_ ?_))
          · rw [if_neg hz] at hA hL
            rw [hL] at hraw
            rw [hA]
            generalize zA u l[i] v = E at *
            clear hE hL hA
            repeat' (first | refine qe ?_ | (first | refine xsQ Tryz.func130 (hraw ..) ?_) | ((first | refine qc ?_ ?_ | refine qb ?_ ?_ | refine xsC ?_ ?_); all_goals (intro hc; have hp := hc; try simp at hp; try (exfalso; omega))) | refine qw ?_ ?_)
            all_goals try (exfalso; omega)
            (exact yv (rs := [.tmp 6, .tmp 7, .tmp 8]))
        obtain rfl : i = l.length := by omega
        rw [List.drop_length] at hA
        have hA : A = (u, l.length, 0) := hA
        rw [hA]
        clear hE hA
        repeat' (first | refine qe ?_ | fail | ((first | refine qc ?_ ?_ | refine qb ?_ ?_ | refine xsC ?_ ?_); all_goals (intro hc; have hp := hc; try simp at hp; try (exfalso; omega))) | refine qw ?_ ?_)
        all_goals try (exfalso; omega)
        (refine y6 (rs := [.tmp 6, .tmp 7, .tmp 8]) ?_; (repeat' (first | exact qZ | apply qm | exact qQ rfl | exact yI | exact z1 | apply yh | apply yX | apply yc | apply y2 | apply yx | apply yW | refine z8 ?_ | apply xS)); all_goals (rw [List.length_map])))
theorem qfP (t : List Ent) (l : List Chg) (v : Int) : vb v t l = if ¬ jx t = 0 then ([], 0, jx t) else qbG t l v := rfl
end Go.Proofs.YtiljlcgmcmjcoaaGreatDoor
set_option linter.unusedSimpArgs false
set_option linter.unnecessarySimpa false
set_option linter.unusedVariables false
set_option maxHeartbeats 1000000
namespace Go.Proofs.YtiljlcgmcmjcoaaGreatDoor
open Go.Ab Go.RowKit
set_option maxRecDepth 10000
attribute [local irreducible] Awp jV q9 qJ Red qy Go.Ab.Fin ql Rz yQ qA qG ResOk jC q6 jH qT
end Go.Proofs.YtiljlcgmcmjcoaaGreatDoor
set_option linter.unusedSimpArgs false
set_option maxHeartbeats 1000000
namespace Go.Proofs.YtiljlcgmcmjcoaaGreatDoor
open Go.Ab Go.RowKit
set_option maxRecDepth 10000
attribute [local irreducible] Awp jV q9 qJ Red qy Go.Ab.Fin ql Rz yQ qA qG ResOk jC q6 jH qT
theorem qhe (a b : Int) : jY C.P 120 [.sl false [[.v (.int .i64 a)], [.v (.int .i64 b)]]] (.v (.int .i64 (if a = 0 then b else a))) := by
  have hc : ([a, b].map fun x => [AV.v (.int .i64 x)]) = [[.v (.int .i64 a)], [.v (.int .i64 b)]] := rfl
  rw [← hc]
  refine qa Tryz.func120 rfl _ Tryz.ntmps120 (Nat.le_of_ble_eq_true rfl) _ Tryz.results120 0 rfl rfl ?_
  repeat' (first | refine qe ?_ | fail | ((first | refine xsC ?_ ?_); all_goals (intro hc; have hp := hc; try simp at hp; try (exfalso; omega))) | refine qw ?_ ?_)
  (refine Awp.red (qh (ts := [(3, .v (.int .i64 0)), (6, .sl false ([a, b].map fun x => [AV.v (.int .i64 x)])), (7, .v (.int .i64 (2 : Int))), (8, .v (.int .i64 ((0 : Nat) : Int)))]) ?_) ?_; ((repeat (first | exact qd | refine qi ?_ | refine qR ?_ ?_))))
  refine qu (fun n σ => ∃ i : Nat, i ≤ [a, b].length ∧ n = [a, b].length - i ∧ (∀ x, x ∈ [a, b].take i → x = 0) ∧ σ = ⟨[(3, .v (.int .i64 0)), (6, .sl false ([a, b].map fun x => [AV.v (.int .i64 x)])), (7, .v (.int .i64 (2 : Int))), (8, .v (.int .i64 (i : Int)))], [], C.nh⟩) [a, b].length ⟨0, Nat.zero_le _, rfl, (by simp), rfl⟩ ?_
  rintro n σ ⟨i, hi, rfl, hsofar, rfl⟩
  have hi2 : i ≤ 2 := hi
  by_cases hlt : i < [a, b].length
  · have hlt2 : i < 2 := hlt
    have hr := qF (f := fun x : Int => [AV.v (.int .i64 x)]) hlt
    repeat' (first | refine qe ?_ | fail | ((first | refine xsC ?_ ?_); all_goals (intro hc; have hp := hc; try simp at hp; try (exfalso; omega))) | refine qw ?_ ?_)
    all_goals try (exfalso; omega)
    · apply qD
      rfl
      match i, hlt, hp, hsofar with
      | 0, _, hp, _ => simp at hp ⊢; simp [hp]
      | 1, _, hp, hsofar => simp at hsofar; simp [hsofar]
    · refine ⟨[a, b].length - (i + 1), _, by omega, qh (ts := [(3, .v (.int .i64 0)), (6, .sl false ([a, b].map fun x => [AV.v (.int .i64 x)])), (7, .v (.int .i64 (2 : Int))), (8, .v (.int .i64 ((i + 1 : Nat) : Int)))]) ?_, i + 1, by omega, rfl, qK hlt hsofar hp, rfl⟩; ((repeat (first | exact qd | refine qi ?_ | refine qR ?_ ?_)))
  have hi3 : ¬ i < 2 := hlt
  repeat' (first | refine qe ?_ | fail | ((first | refine xsC ?_ ?_); all_goals (intro hc; have hp := hc; try simp at hp; try (exfalso; omega))) | refine qw ?_ ?_)
  all_goals try (exfalso; omega)
  obtain rfl : i = 2 := by omega
  apply qD
  rfl
  simp at hsofar
  simp [hsofar]
theorem X4 (a b : Gra) : jY C.P 75 [.agg a.row, .agg b.row] (.v (.int .i64 (zF a b))) := by
  refine qa Tryz.func75 rfl _ Tryz.ntmps75 (Nat.le_of_ble_eq_true rfl) _ Tryz.results75 0 rfl rfl ?_
  repeat' (first | refine qe ?_ | (first | refine xsF Tryz.func100 (YZ ..) ?_ | refine xsQ Tryz.func120 (qhe ..) ?_ | (refine jZ ?_)) | ((first | refine xsC ?_ ?_); all_goals (intro hc; have hp := hc; try simp at hp; try (exfalso; omega))) | refine qw ?_ ?_)
  all_goals (apply qD; rfl; simp [zF])
end Go.Proofs.YtiljlcgmcmjcoaaGreatDoor
set_option linter.unusedSimpArgs false
set_option maxHeartbeats 1000000
namespace Go.Proofs.YtiljlcgmcmjcoaaGreatDoor
open Go.Ab Go.RowKit
set_option maxRecDepth 10000
attribute [local irreducible] Awp jV q9 qJ Red qy Go.Ab.Fin ql Rz yQ qA qG ResOk jC q6 jH qT
theorem qa2 (p : qB → Bool) (g : FuncId) (hg : IsFn C.P g) (cap : List AV) (hcap : AV.pure.pureL cap = true) (l : List (qB)) (hl : l.length ≤ 1000000) (hc : ∀ s, s ∈ l → jY C.P g ((AV.v (str s)) :: cap) (.v (.bool (p s)))) :
    jY C.P 135 [.sl false (l.map ji), .clo (.func g) [] cap] (.v (.int .i64 (yj p l))) := by
  refine qa Tryz.func135 rfl _ Tryz.ntmps135 (Nat.le_of_ble_eq_true rfl) _ Tryz.results135 0 rfl rfl ?_
  repeat' (first | refine qe ?_ | fail | ((first | refine xsC ?_ ?_); all_goals (intro hc; have hp := hc; try simp at hp; try (exfalso; omega))) | refine qw ?_ ?_)
  (refine Awp.red (qh (ts := [(0, .sl false (l.map ji)), (1, .clo (.func g) [] cap), (7, .v (.int .i64 l.length)), (8, .v (.int .i64 ((0 : Nat) : Int)))]) ?_) ?_; ((repeat (first | exact qd | refine qi ?_ | refine qR ?_ ?_))))
  all_goals try (rw [List.length_map]; done)
  refine qu (fun n σ => ∃ i : Nat, i ≤ l.length ∧ n = l.length - i ∧ (∀ s, s ∈ l.take i → p s = false) ∧ σ = ⟨[(0, .sl false (l.map ji)), (1, .clo (.func g) [] cap), (7, .v (.int .i64 l.length)), (8, .v (.int .i64 (i : Int)))], [], C.nh⟩) l.length ⟨0, Nat.zero_le _, rfl, (by simp), rfl⟩ ?_
  rintro n σ ⟨i, hi, rfl, hsofar, rfl⟩
  by_cases hlt : i < l.length
  · have hr := qF (f := ji) hlt
    have hci := hc l[i] (List.getElem_mem _)
    repeat' (first | refine qe ?_ | (first | (apply qj; apply zk []; rfl; exact hg; exact hci; (case hz => exact qm (qQ rfl) (ka hcap)); (case hfl => rfl); (case hN => exact nle rfl))) | ((first | refine xsC ?_ ?_); all_goals (intro hc; have hp := hc; try simp at hp; try (exfalso; omega))) | refine qw ?_ ?_)
    all_goals try (exfalso; omega)
    · apply qD
      rfl
      exact (vJ hlt hsofar hp).symm
    · refine ⟨l.length - (i + 1), _, by omega, qh (ts := [(0, .sl false (l.map ji)), (1, .clo (.func g) [] cap), (7, .v (.int .i64 l.length)), (8, .v (.int .i64 ((i + 1 : Nat) : Int)))]) ?_, i + 1, by omega, rfl, qK hlt hsofar hp, rfl⟩; ((repeat (first | exact qd | refine qi ?_ | refine qR ?_ ?_)))
  obtain rfl : i = l.length := by omega
  repeat' (first | refine qe ?_ | fail | ((first | refine xsC ?_ ?_); all_goals (intro hc; have hp := hc; try simp at hp; try (exfalso; omega))) | refine qw ?_ ?_)
  all_goals try (exfalso; omega)
  apply qD
  rfl
  exact (xY fun s hs => hsofar s (by rw [List.take_length]; exact hs)).symm
theorem Zu (p : qB → Bool) (g : FuncId) (hg : IsFn C.P g) (cap : List AV) (hcap : AV.pure.pureL cap = true) (l : List (qB)) (hl : l.length ≤ 1000000) (hc : ∀ s, s ∈ l → jY C.P g ((AV.v (str s)) :: cap) (.v (.bool (p s)))) :
    jY C.P 106 [.sl false (l.map ji), .clo (.func g) [] cap] (.v (.bool (l.any p))) := by
  have hidx := qa2 p g hg cap hcap l hl hc
  refine qa Tryz.func106 rfl _ Tryz.ntmps106 (Nat.le_of_ble_eq_true rfl) _ Tryz.results106 0 rfl rfl ?_
  repeat' (first | refine qe ?_ | (first | (apply qj; apply yd []; exact jG Tryz.func135 rfl rfl; exact hidx; (case hz => exact qm (qQ rfl) (qm (xh hcap) qZ)); (case hfl => rfl); (case hN => exact nle rfl))) | ((first | refine xsC ?_ ?_); all_goals (intro hc; have hp := hc; try simp at hp; try (exfalso; omega))) | refine qw ?_ ?_)
  apply jA
  rfl
  rw [← YV]
theorem qfg (s : qB) (hs : s.length ≤ 140737488355328) : jY C.P 107 [.v (str s)] (.v (.bool (!qo s))) := by
  refine qa Tryz.func107 rfl _ Tryz.ntmps107 (Nat.le_of_ble_eq_true rfl) _ Tryz.results107 0 rfl rfl ?_
  repeat' (first | refine qe ?_ | (first | refine xsF Tryz.func37 (xA _ hs ..) ?_) | ((first | refine xsC ?_ ?_); all_goals (intro hc; have hp := hc; try simp at hp; try (exfalso; omega))) | refine qw ?_ ?_)
  all_goals (apply jA; rfl; simp_all)
theorem Ym (l : List qB) (hl : l.length ≤ 1000000) (hs : ∀ s, s ∈ l → s.length ≤ 140737488355328) : jY C.P 62 [.sl false (l.map ji)] (.v (.bool (l.all qo))) := by
  have hcon := Zu (fun s => !qo s) 107 (jG Tryz.func107 rfl rfl) [] rfl l hl (fun s h => qfg s (hs s h))
  refine qa Tryz.func62 rfl _ Tryz.ntmps62 (Nat.le_of_ble_eq_true rfl) _ Tryz.results62 0 rfl rfl ?_
  repeat' (first | refine qe ?_ | (first | refine xsF Tryz.func106 (hcon ..) ?_) | ((first | refine xsC ?_ ?_); all_goals (intro hc; have hp := hc; try simp at hp; try (exfalso; omega))) | refine qw ?_ ?_)
  all_goals (apply jA; rfl; simp_all [List.all_eq_not_any_not])
end Go.Proofs.YtiljlcgmcmjcoaaGreatDoor
set_option linter.unusedSimpArgs false
set_option linter.unnecessarySimpa false
set_option linter.unusedVariables false
set_option maxHeartbeats 1000000
namespace Go.Proofs.YtiljlcgmcmjcoaaGreatDoor
open Go.Ab Go.RowKit
set_option maxRecDepth 10000
attribute [local irreducible] Awp jV q9 qJ Red qy Go.Ab.Fin ql Rz yQ qA qG ResOk jC q6 jH qT
end Go.Proofs.YtiljlcgmcmjcoaaGreatDoor
set_option linter.unusedSimpArgs false
set_option linter.unnecessarySimpa false
set_option linter.unusedVariables false
set_option maxHeartbeats 1000000
namespace Go.Proofs.YtiljlcgmcmjcoaaGreatDoor
open Go.Ab Go.RowKit
set_option maxRecDepth 10000
attribute [local irreducible] Awp jV q9 qJ Red qy Go.Ab.Fin ql Rz yQ qA qG ResOk jC q6 jH qT
end Go.Proofs.YtiljlcgmcmjcoaaGreatDoor
set_option linter.unusedSimpArgs false
set_option linter.unnecessarySimpa false
set_option linter.unusedVariables false
set_option maxHeartbeats 1000000
namespace Go.Proofs.YtiljlcgmcmjcoaaGreatDoor
open Go.Ab Go.RowKit
set_option maxRecDepth 10000
attribute [local irreducible] Awp jV q9 qJ Red qy Go.Ab.Fin ql Rz yQ qA qG ResOk jC q6 jH qT
theorem kC (l : List Ent) (hl : l.length ≤ 1000000) : jY C.P 101 [qq l] (qq l) :=
  kL (Va l hl) (ya rfl (by simp) (js fun _ => rfl))
theorem qdY (l : List Chg) (hl : l.length ≤ 1000000) :
    ql C.P 122 [vh l] [] (.os 0 0 l.length) [.own false 5 (l.map Chg.row)] := by
  by_cases h0 : l = []
  · subst h0
    refine qa Tryz.func122 rfl _ Tryz.ntmps122 (Nat.le_of_ble_eq_true rfl) _ Tryz.results122 0 rfl rfl ?_
    repeat' (first | refine qe ?_ | (first | (refine jZ ?_) | (refine vT ?_) | (refine Ja ?_)) | ((first | refine xsC ?_ ?_); all_goals (intro hc; have hp := hc; try simp at hp; try (exfalso; omega))) | refine qw ?_ ?_)
    · (refine wz (C := C) (vw (C := C) 2 5 rfl (Nat.zero_le _)) ?_)
      (refine w8 (rs := [.tmp 2]) [(0, 0)] 1 ?_; (repeat (first | exact qg | refine jQ ?_ | refine qM ?_ ?_)); all_goals skip)
    · (refine w8 (rs := [.tmp 2]) [(0, 0)] 1 ?_; (repeat (first | exact qg | refine jQ ?_ | refine qM ?_ ?_)); all_goals skip)
  · refine qa Tryz.func122 rfl _ Tryz.ntmps122 (Nat.le_of_ble_eq_true rfl) _ Tryz.results122 0 rfl rfl ?_
    repeat' (first | refine qe ?_ | (first | (refine jZ ?_) | (refine vT ?_) | (apply qj; apply kH; rfl; exact (fun h => h0 (List.map_eq_nil_iff.1 h)); rfl; rfl; (first | exact .inl rfl | exact .inr rfl); exact nle rfl)) | ((first | refine xsC ?_ ?_); all_goals (intro hc; have hp := hc; try simp at hp; try (exfalso; omega))) | refine qw ?_ ?_)
    (refine w8 (rs := [.tmp 2]) [(0, 0)] 1 ?_; (repeat (first | exact qg | refine jQ ?_ | refine qM ?_ ?_)); all_goals skip)
theorem Jm (l : List Chg) (hl : l.length ≤ 1000000) : jY C.P 122 [vh l] (vh l) :=
  kL (qdY l hl) (ya rfl (by simp) (js fun _ => rfl))
end Go.Proofs.YtiljlcgmcmjcoaaGreatDoor
