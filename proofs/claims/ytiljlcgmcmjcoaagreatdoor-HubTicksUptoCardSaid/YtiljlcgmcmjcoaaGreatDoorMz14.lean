import Derived.Test.YtiljlcgmcmjcoaaGreatDoorMz13
import Derived.Test.YtiljlcgmcmjcoaaGreatDoorMz12
import Derived.Test.YtiljlcgmcmjcoaaGreatDoorMz1
import Derived.Test.YtiljlcgmcmjcoaaGreatDoorMz9
import Derived.Test.YtiljlcgmcmjcoaaGreatDoorMz7
import Derived.Test.YtiljlcgmcmjcoaaGreatDoorMz10
set_option linter.unusedSimpArgs false
set_option linter.unnecessarySimpa false
set_option linter.unusedVariables false
set_option maxHeartbeats 1000000
namespace Go.Proofs.YtiljlcgmcmjcoaaGreatDoor
open Go.Ab Go.RowKit
set_option maxRecDepth 10000
attribute [local irreducible] Awp jZ jg qJ Red qz Go.Ab.Fin qm Rz y0 qB qG ResOk jG q9 jK qV
set_option maxHeartbeats 1000000 in
theorem qia (t : List Ent) (c : Chg) (v : Int) (h60 : t.length ≤ 60) (hs : qt ya t = true) (hgt : ∀ x, x ∈ t → qD x.path = 0) (hcs : c.small) (hk : c.kind = 3) (h0 : yt c = 0) (h1 : xY t c = 0) (h2 : yc t c = 0) : jT C.P 130 [qp t, .agg c.row, .v (.int .i64 v)] (.tup [qp (if yd t c v = 0 then jq t c v else []), .v (.int .i64 (yd t c v))]) := by
  obtain ⟨l1, l2, l3⟩ := hcs
  have hform := xQ c ⟨l1, l2, l3⟩
  have hpo1 := yx c.path (by omega)
  have hpo2 := yx c.to (by omega)
  have hfo := vh t (qN (jL c)) (by omega)
  have hea := y4 t c.path (by omega)
  have heb := y4 t c.to (by omega)
  have hinn := xS c.to c.path (by omega) (by omega)
  have hkk := yA h0
  have hbase : -1 ≤ c.base := w4 h0
  obtain ⟨hz1, hz2, hz3⟩ := Qd h1
  have hst : ∀ x, x ∈ t → ¬ c.base = -1 → (decide (c.base < x.ver) && inB x.path c.path) = false := fun x hx hb => by
    unfold yc at h2
    by_cases h3 : t.any (y9 c) = true
    · rw [if_pos ⟨hb, h3⟩] at h2; exact absurd h2 (by decide)
    · have h4 : t.any (y9 c) = false := by simpa using h3
      rw [List.any_eq_false] at h4
      have h5 := h4 x hx
      simpa [y9] using h5
  clear h2
  have hh := Kv (by omega) hz2
  obtain ⟨hkk2, _, hfi, hix⟩ := ka hs hh
  have hg0 : jL c = c.to := by simp [jL, hk]
  rw [hz1, hg0] at hfo
  rw [h0] at hform
  rw [hix] at hea
  have hM : kf t c = if inB c.to c.path = true then 3 else if yB t c.to = true then 6 else 0 := by unfold kf; rw [if_pos hk]
  rw [hz3] at hM
  have hin0 : inB c.to c.path = false := by
    cases h : inB c.to c.path with
    | true => rw [h] at hM; simp at hM
    | false => rfl
  rw [hin0, if_neg (by decide)] at hM
  have hhit : yB t c.to = false := by
    cases h : yB t c.to with
    | true => rw [h] at hM; simp at hM
    | false => rfl
  rw [(xx hhit).2] at heb
  rw [hin0] at hinn
  obtain ⟨-, -, hpe, hte, -⟩ := hkk
  have hpt := hte hk
  have hps := jp hpe
  have hpts := jp hpt
  generalize xe t c.path = k at *
  have hDD : jq t c v = (jv t c v).foldl yO (jV (zx c.path) t) := by simp [jq, hk]
  have hEE : yH t c = false → yd t c v = if 60 < (jq t c v).length then 2 else 0 := fun h => by simp [yd, h]
  have hKl : (jV (zx c.path) t).length ≤ t.length := List.length_filter_le ..
  have hKr := zM (p := zx c.path) hs
  clear hM hz1 hz2 hz3 h1 h0 hin0 hfi hix
  refine qa Tryz.func130 rfl _ Tryz.ntmps130 (Nat.le_of_ble_eq_true rfl) _ Tryz.results130 0 rfl rfl ?_
  repeat' (first | refine qe ?_ | (first | refine xsF Tryz.func160 (hform ..) ?_ | refine xsF Tryz.func139 (hpo1 ..) ?_ | refine xsF Tryz.func139 (hpo2 ..) ?_ | refine xsQ Tryz.func138 (hfo ..) ?_ | refine xsQ Tryz.func161 (hea ..) ?_ | refine xsQ Tryz.func161 (heb ..) ?_ | refine xsF Tryz.func162 (hinn ..) ?_) | ((first | refine qb ?_ ?_ | refine qc ?_ ?_ | refine xsC ?_ ?_); all_goals (intro hc; have hp := hc; try simp at hp; try (exfalso; omega))) | refine qv ?_ ?_)
  all_goals try (exfalso; omega)
  apply qav
  case h =>
    intro key
    refine zD 4 0 ?_
    (refine Awp.red (qf (ts := [(0, qp t), (2, .v (.int .i64 v)), (4, .fp [c.row] 0 0), (11, .v (.int .i64 ((0 : Nat) : Int)))]) ?_) ?_; ((repeat (first | exact qd | refine qi ?_ | refine qL ?_ ?_))))
    refine qr (fun n σ => ∃ i : Nat, i ≤ t.length ∧ n = t.length - i ∧ (True) ∧ σ = ⟨[(0, qp t), (2, .v (.int .i64 v)), (4, .fp [c.row] 0 0), (11, .v (.int .i64 (i : Int)))], [], C.nh⟩) t.length ⟨0, Nat.zero_le _, rfl, trivial, rfl⟩ ?_
    rintro n σ ⟨i, hi, rfl, -, rfl⟩
    by_cases hlt : i < t.length
    · have hr := qx (f := Ent.row) hlt
      have hnw := hst t[i] (List.getElem_mem _)
      have hpl := jp (hgt t[i] (List.getElem_mem _))
      have hii := xS t[i].path c.path (by omega) (by omega)
      generalize inB t[i].path c.path = IB at *
      repeat' (first | refine qe ?_ | (first | refine xsF Tryz.func162 (hii ..) ?_) | ((first | refine qb ?_ ?_ | refine qc ?_ ?_ | refine xsC ?_ ?_); all_goals (intro hc; have hp := hc; try simp at hp; try (exfalso; omega))) | refine qv ?_ ?_)
      all_goals try (exfalso; omega)
      all_goals try (
        have h9 := hnw (by omega)
        rw [Bool.and_eq_false_iff] at h9
        rcases h9 with h9 | h9
        · exact absurd (h9.symm.trans (by assumption)) Bool.false_ne_true
        · exact absurd (h9.symm.trans (by assumption)) Bool.false_ne_true)
      all_goals first
        | (refine ⟨t.length - (i + 1), _, by omega, qf (ts := [(0, qp t), (2, .v (.int .i64 v)), (4, .fp [c.row] 0 0), (11, .v (.int .i64 ((i + 1 : Nat) : Int)))]) ?_, i + 1, by omega, rfl, trivial, rfl⟩; ((repeat (first | exact qd | refine qi ?_ | refine qL ?_ ?_))))
        | ((repeat' (first | refine qe ?_ | (first | fail) | ((first | refine qb ?_ ?_ | refine qc ?_ ?_ | refine xsC ?_ ?_); all_goals (intro hc; have hp := hc; try simp at hp; try (exfalso; omega))) | refine qv ?_ ?_))
           (all_goals try (exfalso; omega))
           (refine Awp.red (qf (ts := [(0, qp t), (2, .v (.int .i64 v)), (4, .fp [c.row] 0 0), (12, .sl true []), (13, .v (.int .i64 ((0 : Nat) : Int)))]) ?_) ?_; ((repeat (first | exact qd | refine qi ?_ | refine qL ?_ ?_))))
           exact key.out)
    · obtain rfl : i = t.length := by omega
      (repeat' (first | refine qe ?_ | (first | fail) | ((first | refine qb ?_ ?_ | refine qc ?_ ?_ | refine xsC ?_ ?_); all_goals (intro hc; have hp := hc; try simp at hp; try (exfalso; omega))) | refine qv ?_ ?_))
      (all_goals try (exfalso; omega))
      (refine Awp.red (qf (ts := [(0, qp t), (2, .v (.int .i64 v)), (4, .fp [c.row] 0 0), (12, .sl true []), (13, .v (.int .i64 ((0 : Nat) : Int)))]) ?_) ?_; ((repeat (first | exact qd | refine qi ?_ | refine qL ?_ ?_))))
      exact key.out
  refine Awp.red (vN 12 4 rfl (Nat.le_refl _)) ?_
  (refine Awp.red (jt (τ := ⟨[(0, qp t), (2, .v (.int .i64 v)), (4, .fp [c.row] 0 0), (12, .os 0 0 0), (13, .v (.int .i64 ((0 : Nat) : Int)))], [(0, .own false 4 [])], 1⟩) [(0, 0)] rfl ?gts ?ghs) ?gmain; (case gts => (repeat (first | exact qd | refine qi ?_ | refine x8 ?_ | refine vo ?_ | refine qL ?_ ?_))); (case ghs => (repeat (first | exact qh | refine jU ?_ | refine qO ?_ ?_))))
  refine qr (fun n σ => ∃ i : Nat, i ≤ t.length ∧ n = t.length - i ∧ (True) ∧ σ = ⟨[(0, qp t), (2, .v (.int .i64 v)), (4, .fp [c.row] 0 0), (12, .os 0 0 (jV (zx c.path) (t.take i)).length), (13, .v (.int .i64 (i : Int)))], [(0, .own false 4 ((jV (zx c.path) (t.take i)).map Ent.row))], 1⟩) t.length ⟨0, Nat.zero_le _, rfl, trivial, rfl⟩ ?_
  rintro n σ ⟨i, hi, rfl, -, rfl⟩
  by_cases hlt : i < t.length
  · have hr := qx (f := Ent.row) hlt
    have hpl := jp (hgt t[i] (List.getElem_mem _))
    have hii := xS t[i].path c.path (by omega) (by omega)
    have hks := @Qw (zx c.path) t i hlt
    have hkl := XE (zx c.path) t i (by omega)
    have hin : zx c.path t[i] = inB t[i].path c.path := rfl
    rw [hin] at hks
    generalize inB t[i].path c.path = IB at *
    clear hin hst
    generalize hGG : jV (zx c.path) (t.take i) = G at hks hkl ⊢
    clear hGG
    cases IB with
    | true =>
      rw [if_pos rfl] at hks
      repeat' (first | refine qe ?_ | (first | (refine j4 ?_) | (refine xK ?_) | refine xsF Tryz.func162 (hii ..) ?_) | ((first | refine qb ?_ ?_ | refine qc ?_ ?_ | refine xsC ?_ ?_); all_goals (intro hc; have hp := hc; try simp at hp; try (exfalso; omega))) | refine qv ?_ ?_)
      all_goals try (exfalso; omega)
      refine ⟨t.length - (i + 1), _, by omega, jt (τ := ⟨[(0, qp t), (2, .v (.int .i64 v)), (4, .fp [c.row] 0 0), (12, .os 0 0 (jV (zx c.path) (t.take (i + 1))).length), (13, .v (.int .i64 ((i + 1 : Nat) : Int)))], [(0, .own false 4 ((jV (zx c.path) (t.take (i + 1))).map Ent.row))], 1⟩) [(0, 0)] rfl ?gts ?ghs, i + 1, by omega, rfl, trivial, rfl⟩; (case gts => (repeat (first | exact qd | refine qi ?_ | refine x8 ?_ | refine vo ?_ | refine qL ?_ ?_)); all_goals (rw [hks])); (case ghs => (repeat (first | exact qh | refine jU ?_ | refine qO ?_ ?_)); all_goals (rw [hks]))
    | false =>
      rw [if_neg (by decide)] at hks
      repeat' (first | refine qe ?_ | (first | (refine j4 ?_) | (refine xK ?_) | refine xsF Tryz.func162 (hii ..) ?_) | ((first | refine qb ?_ ?_ | refine qc ?_ ?_ | refine xsC ?_ ?_); all_goals (intro hc; have hp := hc; try simp at hp; try (exfalso; omega))) | refine qv ?_ ?_)
      all_goals try (exfalso; omega)
      refine ⟨t.length - (i + 1), _, by omega, jt (τ := ⟨[(0, qp t), (2, .v (.int .i64 v)), (4, .fp [c.row] 0 0), (12, .os 0 0 (jV (zx c.path) (t.take (i + 1))).length), (13, .v (.int .i64 ((i + 1 : Nat) : Int)))], [(0, .own false 4 ((jV (zx c.path) (t.take (i + 1))).map Ent.row))], 1⟩) [(1, 0)] rfl ?gts ?ghs, i + 1, by omega, rfl, trivial, rfl⟩; (case gts => (repeat (first | exact qd | refine qi ?_ | refine x8 ?_ | refine vo ?_ | refine qL ?_ ?_)); all_goals (rw [hks]; try first | (simp; done) | (rw [List.take_of_length_le (by simp)]; simp; done))); (case ghs => (repeat (first | exact qh | refine jU ?_ | refine qO ?_ ?_)); all_goals (rw [hks]; try first | (simp; done) | (rw [List.take_of_length_le (by simp)]; simp; done)))
  · obtain rfl : i = t.length := by omega
    rw [List.take_length]
    (repeat' (first | refine qe ?_ | (first | fail) | ((first | refine qb ?_ ?_ | refine qc ?_ ?_ | refine xsC ?_ ?_); all_goals (intro hc; have hp := hc; try simp at hp; try (exfalso; omega))) | refine qv ?_ ?_))
    (all_goals try (exfalso; omega))
    refine Awp.red (wd 0 rfl (by intro row hrow; obtain ⟨x, _, rfl⟩ := List.mem_map.1 hrow; rfl)) ?_
    refine Awp.red (Wx 12 0 rfl rfl (by simp)) ?_
    (refine Awp.red (qf (ts := [(0, qp t), (2, .v (.int .i64 v)), (4, .fp [c.row] 0 0), (12, qp (((jv (t.take 0) c v).foldl yO (jV (zx c.path) t)))), (14, .v (.int .i64 ((0 : Nat) : Int)))]) ?_) ?_; ((repeat (first | exact qd | refine qi ?_ | refine qL ?_ ?_))))
    all_goals try (rw [List.drop_zero, List.take_of_length_le (by simp)]; rfl)
    generalize hKK : jV (zx c.path) t = K at *
    refine qr (fun n σ => ∃ i : Nat, i ≤ t.length ∧ n = t.length - i ∧ (zN t c i = false) ∧ σ = ⟨[(0, qp t), (2, .v (.int .i64 v)), (4, .fp [c.row] 0 0), (12, qp ((jv (t.take i) c v).foldl yO K)), (14, .v (.int .i64 (i : Int)))], [], C.nh⟩) t.length ⟨0, Nat.zero_le _, rfl, rfl, rfl⟩ ?_
    rintro n σ ⟨i, hi, rfl, hsofar, rfl⟩
    by_cases hlt : i < t.length
    · have hr := qx (f := Ent.row) hlt
      have hxp := hgt t[i] (List.getElem_mem _)
      have hpl := jp hxp
      have hii := xS t[i].path c.path (by omega) (by omega)
      have hgs := @Xv t c v i hlt
      have hbs := @qaY t c i hlt
      have hgl : (jv (t.take i) c v).length ≤ i := by
        unfold jv
        rw [List.length_map]
        have h1 : ((t.take i).filter (zx c.path)).length ≤ (t.take i).length := List.length_filter_le ..
        simp at h1; omega
      have hal := Qr (jv (t.take i) c v) K
      have har := kc (l := jv (t.take i) c v) hKr
      have hmt : ∀ w, (if t[i].path = c.path then v else t[i].ver) = w → (yL c v t[i]).row = [.v (str (c.to ++ t[i].path.drop c.path.length)), .v (.bool t[i].fold), .v (str t[i].text), .v (.int .i64 w)] := fun w hw => by simp [yL, Ent.row, hw]
      have hmr := @Kk t[i].path c.path c.to
      have hpu := wJ ((jv (t.take i) c v).foldl yO K) (yL c v t[i]) (by omega)
      rw [Jw har] at hpu
      have hbd : inB t[i].path c.path = true → yn (c.to ++ t[i].path.drop c.path.length) = true → yd t c v = 2 := fun h3 h4 => by
        have : yH t c = true := by
          simp only [yH, hk, decide_true, Bool.true_and, List.any_eq_true]
          exact ⟨t[i], List.mem_filter.2 ⟨List.getElem_mem _, h3⟩, h4⟩
        simp [yd, this]
      rw [hsofar] at hbs
      generalize hIB : inB t[i].path c.path = IB at *
      clear hst hsofar hDD hEE hhit
      cases IB with
      | false =>
        have hgs2 : jv (t.take (i + 1)) c v = jv (t.take i) c v := by rw [hgs, if_neg (by decide)]
        have hbs2 : zN t c (i + 1) = false := hbs
        generalize hOO : (jv (t.take i) c v).foldl yO K = O at *
        repeat' (first | refine qe ?_ | (first | refine xsF Tryz.func162 (hii ..) ?_) | ((first | refine qb ?_ ?_ | refine qc ?_ ?_ | refine xsC ?_ ?_); all_goals (intro hc; have hp := hc; try simp at hp; try (exfalso; omega))) | refine qv ?_ ?_)
        all_goals try (exfalso; omega)
        refine ⟨t.length - (i + 1), _, by omega, qf (ts := [(0, qp t), (2, .v (.int .i64 v)), (4, .fp [c.row] 0 0), (12, qp ((jv (t.take (i + 1)) c v).foldl yO K)), (14, .v (.int .i64 ((i + 1 : Nat) : Int)))]) ?_, i + 1, by omega, rfl, hbs2, rfl⟩; ((repeat (first | exact qd | refine qi ?_ | refine qL ?_ ?_)); all_goals (rw [hgs2, hOO]; rfl))
      | true =>
        have hgs2 : jv (t.take (i + 1)) c v = jv (t.take i) c v ++ [yL c v t[i]] := by rw [hgs, if_pos rfl]
        have hO2 : (jv (t.take (i + 1)) c v).foldl yO K = yO ((jv (t.take i) c v).foldl yO K) (yL c v t[i]) := by rw [hgs2, List.foldl_append]; rfl
        rw [← hO2] at hpu
        have hmr := hmr rfl
        have n1 := zr c.to (by omega)
        have n2 := zr t[i].path (by omega)
        have n3 := zr c.path (by omega)
        have m1 := vQ c.to
        have m2 := vQ t[i].path
        have hcount : (qk c.path).length ≤ (qk t[i].path).length := by
          rw [Vj, List.isPrefixOf_iff_prefix] at hIB
          exact hIB.length_le
        have hql : (c.to ++ t[i].path.drop c.path.length).length ≤ 4000000 := by simp; omega
        have hpo := qaU (qk c.to ++ (qk t[i].path).drop (qk c.path).length) (by simp; omega) (by rw [hmr]; omega)
        rw [hmr] at hpo
        have hgg := VM (c.to ++ t[i].path.drop c.path.length) (by omega)
        have hbs2 : zN t c (i + 1) = yn (c.to ++ t[i].path.drop c.path.length) := by simpa using hbs
        have hbd := hbd rfl
        clear hgs hbs hgs2 hO2 hIB hmr hxp
        generalize hOO2 : (jv (t.take (i + 1)) c v).foldl yO K = O2 at *
        generalize (jv (t.take i) c v).foldl yO K = O at *
        generalize c.to ++ t[i].path.drop c.path.length = Q at *
        have hrk : ∀ row, row ∈ (qk t[i].path).map jo → row.length = 1 := fun row hr => by obtain ⟨x, _, rfl⟩ := List.mem_map.1 hr; rfl
        generalize hA : qk c.to = A at *
        generalize hB : qk t[i].path = B at *
        generalize hD : qk c.path = D at *
        have hml : (B.map jo).length = B.length := List.length_map ..
        have hmd : (D.map jo).length = D.length := List.length_map ..
        have hma : (A.map jo).length = A.length := List.length_map ..
        have hee : (A ++ B.drop D.length).map jo = A.map jo ++ ((B.map jo).take (B.map jo).length).drop (D.map jo).length := by rw [List.take_length, hmd, List.map_append, List.map_drop]
        rw [hee] at hpo
        have hrd : (((B.map jo).take (B.map jo).length).drop (D.map jo).length).all (fun row => row.length == 1 && row.all jS) = true := by
          rw [List.all_eq_true]; intro x hx
          obtain ⟨y, _, rfl⟩ := List.mem_map.1 (List.mem_of_mem_take (List.mem_of_mem_drop hx))
          rfl
        have hdl : (((B.map jo).take (B.map jo).length).drop (D.map jo).length).length ≤ 4000000 := by rw [List.length_drop, List.take_length]; omega
        clear hA hB hD hee
        cases hGT : yn Q with
        | true =>
          rw [hbd hGT, if_neg (by decide)]
          rw [hGT] at hgg
          clear hbd hbs2 hpu hmt
          repeat' (first | refine qe ?_ | (first | (refine j4 ?_) | refine xsF Tryz.func162 (hii ..) ?_ | refine xsQ Tryz.func165 (n1 ..) ?_ | refine xsQ Tryz.func165 (n2 ..) ?_ | refine xsQ Tryz.func165 (n3 ..) ?_ | (refine zc ?_) | (apply Yj; apply kb; (case hx => rfl); (case hT => rfl); (case he => rfl); (case hE => rfl); (case hn => rfl); (case hl => (first | omega | (simp; done) | (simp only [List.length_cons, List.length_nil, List.length_map]; omega) | (simp; omega))); (case hz => rfl); (case hsrc => (first | (first | (apply zb; rfl; rfl) | (apply Jc; rfl; intro a; rfl) | (apply Qx; rfl; rfl; first | omega | (simp; done) | (simp; omega); rfl; first | rfl | exact xR fun _ => rfl)) | (apply zb; rfl; exact hrd))); (case hsz => (first | omega | (simp; done) | (simp only [List.length_cons, List.length_nil, List.length_map]; omega) | (simp; omega))); (case hlen => (first | omega | (simp; done) | (simp only [List.length_cons, List.length_nil, List.length_map]; omega) | (simp; omega))); (case hmn => exact Nat.ne_of_beq_eq_false rfl); (case hN => exact nle rfl)) | (apply qj; apply zn (ex' := false) (a := (D.map jo).length) (b := (B.map jo).length) (m := 0); (case hx => rfl); (case hT => rfl); (case he => rfl); (case hE => rfl); (case ha => exact ⟨_, rfl⟩); (case hb => rfl); (case hm => trivial); (case hab => (first | omega | (simp; done) | (simp only [List.length_cons, List.length_nil, List.length_map]; omega) | (simp; omega))); (case hbl => (first | omega | (simp; done) | (simp only [List.length_cons, List.length_nil, List.length_map]; omega) | (simp; omega))); (case hrk => exact hrk); (case hex => exact nofun); (case hN => exact nle rfl)) | (apply qj; apply yi ([2]); exact jJ Tryz.func164 rfl rfl; apply hpo; (case hz => refine ql ?_ qT; (apply YA; (case hn => rfl); (case hl => (simp; done)); (case he => (congr 1; exact List.take_length)); (case hp => (intro row hrow; rcases List.mem_append.1 hrow with hrow | hrow; (obtain ⟨y, _, rfl⟩ := List.mem_map.1 hrow; rfl); (obtain ⟨y, _, rfl⟩ := List.mem_map.1 (List.mem_of_mem_take (List.mem_of_mem_drop hrow)); rfl))))); (case hfl => rfl); (case hN => exact nle rfl)) | refine xsF Tryz.func166 (hgg ..) ?_) | ((first | refine qb ?_ ?_ | refine qc ?_ ?_ | refine xsC ?_ ?_); all_goals (intro hc; have hp := hc; try simp at hp; try (exfalso; omega))) | refine qv ?_ ?_)
          all_goals try (exfalso; omega)
          all_goals ((exact yy (rs := [.tmp 6, .tmp 7])))
        | false =>
          rw [hGT] at hgg hbs2
          clear hbd
          by_cases hpe2 : t[i].path = c.path
          · rw [hmt v (if_pos hpe2)] at hpu
            clear hmt
            repeat' (first | refine qe ?_ | (first | (refine j4 ?_) | refine xsF Tryz.func162 (hii ..) ?_ | refine xsQ Tryz.func165 (n1 ..) ?_ | refine xsQ Tryz.func165 (n2 ..) ?_ | refine xsQ Tryz.func165 (n3 ..) ?_ | (refine zc ?_) | (apply Yj; apply kb; (case hx => rfl); (case hT => rfl); (case he => rfl); (case hE => rfl); (case hn => rfl); (case hl => (first | omega | (simp; done) | (simp only [List.length_cons, List.length_nil, List.length_map]; omega) | (simp; omega))); (case hz => rfl); (case hsrc => (first | (first | (apply zb; rfl; rfl) | (apply Jc; rfl; intro a; rfl) | (apply Qx; rfl; rfl; first | omega | (simp; done) | (simp; omega); rfl; first | rfl | exact xR fun _ => rfl)) | (apply zb; rfl; exact hrd))); (case hsz => (first | omega | (simp; done) | (simp only [List.length_cons, List.length_nil, List.length_map]; omega) | (simp; omega))); (case hlen => (first | omega | (simp; done) | (simp only [List.length_cons, List.length_nil, List.length_map]; omega) | (simp; omega))); (case hmn => exact Nat.ne_of_beq_eq_false rfl); (case hN => exact nle rfl)) | (apply qj; apply zn (ex' := false) (a := (D.map jo).length) (b := (B.map jo).length) (m := 0); (case hx => rfl); (case hT => rfl); (case he => rfl); (case hE => rfl); (case ha => exact ⟨_, rfl⟩); (case hb => rfl); (case hm => trivial); (case hab => (first | omega | (simp; done) | (simp only [List.length_cons, List.length_nil, List.length_map]; omega) | (simp; omega))); (case hbl => (first | omega | (simp; done) | (simp only [List.length_cons, List.length_nil, List.length_map]; omega) | (simp; omega))); (case hrk => exact hrk); (case hex => exact nofun); (case hN => exact nle rfl)) | (apply qj; apply yi ([2]); exact jJ Tryz.func164 rfl rfl; apply hpo; (case hz => refine ql ?_ qT; (apply YA; (case hn => rfl); (case hl => (simp; done)); (case he => (congr 1; exact List.take_length)); (case hp => (intro row hrow; rcases List.mem_append.1 hrow with hrow | hrow; (obtain ⟨y, _, rfl⟩ := List.mem_map.1 hrow; rfl); (obtain ⟨y, _, rfl⟩ := List.mem_map.1 (List.mem_of_mem_take (List.mem_of_mem_drop hrow)); rfl))))); (case hfl => rfl); (case hN => exact nle rfl)) | refine xsF Tryz.func166 (hgg ..) ?_ | refine xsQ Tryz.func163 (hpu ..) ?_) | ((first | refine qb ?_ ?_ | refine qc ?_ ?_ | refine xsC ?_ ?_); all_goals (intro hc; have hp := hc; try simp at hp; try (exfalso; omega))) | refine qv ?_ ?_)
            all_goals try (exfalso; omega)
            all_goals try (exfalso; contradiction)
            refine ⟨t.length - (i + 1), _, by omega, qf (ts := [(0, qp t), (2, .v (.int .i64 v)), (4, .fp [c.row] 0 0), (12, qp ((jv (t.take (i + 1)) c v).foldl yO K)), (14, .v (.int .i64 ((i + 1 : Nat) : Int)))]) ?_, i + 1, by omega, rfl, hbs2, rfl⟩; ((repeat (first | exact qd | refine qi ?_ | refine qL ?_ ?_)); all_goals (rw [hOO2]; rfl))
          · rw [hmt t[i].ver (if_neg hpe2)] at hpu
            clear hmt
            repeat' (first | refine qe ?_ | (first | (refine j4 ?_) | refine xsF Tryz.func162 (hii ..) ?_ | refine xsQ Tryz.func165 (n1 ..) ?_ | refine xsQ Tryz.func165 (n2 ..) ?_ | refine xsQ Tryz.func165 (n3 ..) ?_ | (refine zc ?_) | (apply Yj; apply kb; (case hx => rfl); (case hT => rfl); (case he => rfl); (case hE => rfl); (case hn => rfl); (case hl => (first | omega | (simp; done) | (simp only [List.length_cons, List.length_nil, List.length_map]; omega) | (simp; omega))); (case hz => rfl); (case hsrc => (first | (first | (apply zb; rfl; rfl) | (apply Jc; rfl; intro a; rfl) | (apply Qx; rfl; rfl; first | omega | (simp; done) | (simp; omega); rfl; first | rfl | exact xR fun _ => rfl)) | (apply zb; rfl; exact hrd))); (case hsz => (first | omega | (simp; done) | (simp only [List.length_cons, List.length_nil, List.length_map]; omega) | (simp; omega))); (case hlen => (first | omega | (simp; done) | (simp only [List.length_cons, List.length_nil, List.length_map]; omega) | (simp; omega))); (case hmn => exact Nat.ne_of_beq_eq_false rfl); (case hN => exact nle rfl)) | (apply qj; apply zn (ex' := false) (a := (D.map jo).length) (b := (B.map jo).length) (m := 0); (case hx => rfl); (case hT => rfl); (case he => rfl); (case hE => rfl); (case ha => exact ⟨_, rfl⟩); (case hb => rfl); (case hm => trivial); (case hab => (first | omega | (simp; done) | (simp only [List.length_cons, List.length_nil, List.length_map]; omega) | (simp; omega))); (case hbl => (first | omega | (simp; done) | (simp only [List.length_cons, List.length_nil, List.length_map]; omega) | (simp; omega))); (case hrk => exact hrk); (case hex => exact nofun); (case hN => exact nle rfl)) | (apply qj; apply yi ([2]); exact jJ Tryz.func164 rfl rfl; apply hpo; (case hz => refine ql ?_ qT; (apply YA; (case hn => rfl); (case hl => (simp; done)); (case he => (congr 1; exact List.take_length)); (case hp => (intro row hrow; rcases List.mem_append.1 hrow with hrow | hrow; (obtain ⟨y, _, rfl⟩ := List.mem_map.1 hrow; rfl); (obtain ⟨y, _, rfl⟩ := List.mem_map.1 (List.mem_of_mem_take (List.mem_of_mem_drop hrow)); rfl))))); (case hfl => rfl); (case hN => exact nle rfl)) | refine xsF Tryz.func166 (hgg ..) ?_ | refine xsQ Tryz.func163 (hpu ..) ?_) | ((first | refine qb ?_ ?_ | refine qc ?_ ?_ | refine xsC ?_ ?_); all_goals (intro hc; have hp := hc; try simp at hp; try (exfalso; omega))) | refine qv ?_ ?_)
            all_goals try (exfalso; omega)
            all_goals try (exfalso; contradiction)
            refine ⟨t.length - (i + 1), _, by omega, qf (ts := [(0, qp t), (2, .v (.int .i64 v)), (4, .fp [c.row] 0 0), (12, qp ((jv (t.take (i + 1)) c v).foldl yO K)), (14, .v (.int .i64 ((i + 1 : Nat) : Int)))]) ?_, i + 1, by omega, rfl, hbs2, rfl⟩; ((repeat (first | exact qd | refine qi ?_ | refine qL ?_ ?_)); all_goals (rw [hOO2]; rfl))
    · obtain rfl : i = t.length := by omega
      have hmb : yH t c = false := by
        unfold zN at hsofar
        rw [List.take_length] at hsofar
        simp [yH, hsofar]
      rw [hEE hmb]
      rw [List.take_length]
      rw [← hDD]
      generalize jq t c v = L at *
      have hml : (List.map Ent.row L).length = L.length := List.length_map ..
      by_cases hL : 60 < L.length
      · rw [if_pos hL]
        (repeat' (first | refine qe ?_ | (first | fail) | ((first | refine qb ?_ ?_ | refine qc ?_ ?_ | refine xsC ?_ ?_); all_goals (intro hc; have hp := hc; try simp at hp; try (exfalso; omega))) | refine qv ?_ ?_))
        (all_goals try (exfalso; omega))
        (all_goals ((exact yy (rs := [.tmp 6, .tmp 7]))))
      · rw [if_neg hL]
        (repeat' (first | refine qe ?_ | (first | fail) | ((first | refine qb ?_ ?_ | refine qc ?_ ?_ | refine xsC ?_ ?_); all_goals (intro hc; have hp := hc; try simp at hp; try (exfalso; omega))) | refine qv ?_ ?_))
        (all_goals try (exfalso; omega))
        (all_goals ((exact yy (rs := [.tmp 6, .tmp 7]))))
end Go.Proofs.YtiljlcgmcmjcoaaGreatDoor
set_option linter.unusedSimpArgs false
set_option linter.unnecessarySimpa false
set_option linter.unusedVariables false
set_option maxHeartbeats 1000000
namespace Go.Proofs.YtiljlcgmcmjcoaaGreatDoor
open Go.Ab Go.RowKit
set_option maxRecDepth 10000
attribute [local irreducible] Awp jZ jg qJ Red qz Go.Ab.Fin qm Rz y0 qB qG ResOk jG q9 jK qV
def Va (v : Int) : List Ent → List Chg → Nat → List Ent × Nat × Int
  | t, [], n => (t, n, 0)
  | t, c :: l, n => if zQ t c v = 0 then Va v (jq t c v) l (n + 1) else ([], n, zQ t c v)
def vq (v : Int) (t : List Ent) (l : List Chg) : List Ent × Nat × Int :=
  if ¬ jC t = 0 then ([], 0, jC t) else if 20 < l.length then ([], 0, 2) else if vd v = false ∧ 0 < l.length then ([], 0, 3) else Va v t l 0
def qes (r : List Ent × Nat × Int) : AV := .tup [qp r.1, .v (.int .i64 (r.2.1 : Nat)), .v (.int .i64 r.2.2)]
theorem Z8 {v : Int} {t : List Ent} {l : List Chg} {i : Nat} (h : i < l.length) : Va v t (l.drop i) i = if zQ t l[i] v = 0 then Va v (jq t l[i] v) (l.drop (i + 1)) (i + 1) else ([], i, zQ t l[i] v) := by
  rw [List.drop_eq_getElem_cons h]; rfl
theorem qa8 (t : List Ent) (l : List Chg) (v : Int) (hb : EBig t) (hcb : CBig l) : jT C.P 119 [qp t, xo l, .v (.int .i64 v)] (qes (vq v t l)) := by
  have h1 := qaq t hb
  have h2 := qaL v
  have hll := hcb.len
  have hml : (l.map Chg.row).length = l.length := List.length_map ..
  have hE : vq v t l = if ¬ jC t = 0 then ([], 0, jC t) else if 20 < l.length then ([], 0, 2) else if vd v = false ∧ 0 < l.length then ([], 0, 3) else Va v t l 0 := rfl
  by_cases hte : jC t = 0
  · rw [if_neg (by simp [hte])] at hE
    have hR := RightE.of hte
    rw [hte] at h1
    have h60 := (Qq hte).1
    have h3 := VB t (by omega)
    by_cases h20 : 20 < l.length
    · rw [if_pos h20] at hE
      rw [hE]
      refine qa Tryz.func119 rfl _ Tryz.ntmps119 (Nat.le_of_ble_eq_true rfl) _ Tryz.results119 0 rfl rfl ?_
      repeat' (first | refine qe ?_ | (first | (refine j4 ?_) | refine xsQ Tryz.func65 (h1 ..) ?_) | ((first | refine qb ?_ ?_ | refine qc ?_ ?_ | refine xsC ?_ ?_); all_goals (intro hc; have hp := hc; try simp at hp; try (exfalso; omega))) | refine qv ?_ ?_)
      all_goals try (exfalso; omega)
      all_goals try (exfalso; first | omega | (simp_all; done) | (simp_all; omega))
      all_goals ((exact yy (rs := [.tmp 6, .tmp 7, .tmp 8])))
    · rw [if_neg h20] at hE
      by_cases hv : vd v = false ∧ 0 < l.length
      · rw [if_pos hv] at hE
        rw [hE]
        rw [hv.1] at h2
        refine qa Tryz.func119 rfl _ Tryz.ntmps119 (Nat.le_of_ble_eq_true rfl) _ Tryz.results119 0 rfl rfl ?_
        repeat' (first | refine qe ?_ | (first | (refine j4 ?_) | refine xsQ Tryz.func65 (h1 ..) ?_ | refine xsF Tryz.func148 (h2 ..) ?_) | ((first | refine qb ?_ ?_ | refine qc ?_ ?_ | refine xsC ?_ ?_); all_goals (intro hc; have hp := hc; try simp at hp; try (exfalso; omega))) | refine qv ?_ ?_)
        all_goals try (exfalso; omega)
        all_goals try (exfalso; first | omega | (simp_all; done) | (simp_all; omega))
        all_goals ((exact yy (rs := [.tmp 6, .tmp 7, .tmp 8])))
      · rw [if_neg hv] at hE
        generalize hV : vd v = V at *
        have hv2 : V = false → l.length = 0 := fun h => by
          rcases Nat.eq_zero_or_pos l.length with h4 | h4
          · exact h4
          · exact absurd ⟨h, h4⟩ hv
        clear hV
        generalize hA : vq v t l = A at *
        clear hA
        refine qa Tryz.func119 rfl _ Tryz.ntmps119 (Nat.le_of_ble_eq_true rfl) _ Tryz.results119 0 rfl rfl ?_
        repeat' (first | refine qe ?_ | (first | (refine j4 ?_) | refine xsQ Tryz.func65 (h1 ..) ?_ | refine xsF Tryz.func148 (h2 ..) ?_ | (apply qH Tryz.func101 rfl rfl; intro hIsFn; refine yb ([]) hIsFn (h3 ..) ?_)) | ((first | refine qb ?_ ?_ | refine qc ?_ ?_ | refine xsC ?_ ?_); all_goals (intro hc; have hp := hc; try simp at hp; try (exfalso; omega))) | refine qv ?_ ?_)
        all_goals try (exfalso; omega)
        all_goals try (exfalso; first | omega | (simp_all; done) | (simp_all; omega))
        all_goals (
          refine Awp.red (wd 0 rfl (by intro row hrow; obtain ⟨x, _, rfl⟩ := List.mem_map.1 hrow; rfl)) ?_
          refine Awp.red (Wx 0 0 rfl rfl (by simp)) ?_
          (refine Awp.red (qf (ts := [(0, qp t), (1, xo l), (2, .v (.int .i64 v)), (33, xo l), (34, .v (.int .i64 l.length)), (35, .v (.int .i64 ((0 : Nat) : Int)))]) ?_) ?_; ((repeat (first | exact qd | refine qi ?_ | refine qL ?_ ?_))))
          all_goals try (rw [List.length_map]; done)
          all_goals try (rw [List.drop_zero, List.take_of_length_le (by simp)]; rfl)
          refine qr (fun n σ => ∃ (i : Nat) (u : List Ent), i ≤ l.length ∧ n = l.length - i ∧ (A = Va v u (l.drop i) i ∧ RightE u) ∧ σ = ⟨[(0, qp u), (1, xo l), (2, .v (.int .i64 v)), (33, xo l), (34, .v (.int .i64 l.length)), (35, .v (.int .i64 (i : Int)))], [], C.nh⟩) l.length ⟨0, t, Nat.zero_le _, rfl, ⟨by rw [hE]; rfl, hR⟩, rfl⟩ ?_
          rintro n σ ⟨i, u, hi, rfl, ⟨hA, hRu⟩, rfl⟩
          by_cases hlt : i < l.length
          · have hr := qx (f := Chg.row) hlt
            have hraw := qhD u l[i] v hRu (hcb.each _ (List.getElem_mem _))
            rw [Z8 hlt] at hA
            have hL : ZS u l[i] v = if zQ u l[i] v = 0 then jq u l[i] v else [] := rfl
            by_cases hz : zQ u l[i] v = 0
            · have hRn := hRu.done hz
              rw [if_pos hz] at hA hL
              rw [hL, hz] at hraw
              generalize jq u l[i] v = U at *
              clear hE hL hz
              repeat' (first | refine qe ?_ | (first | refine xsQ Tryz.func149 (hraw ..) ?_) | ((first | refine qb ?_ ?_ | refine qc ?_ ?_ | refine xsC ?_ ?_); all_goals (intro hc; have hp := hc; try simp at hp; try (exfalso; omega))) | refine qv ?_ ?_)
              all_goals try (exfalso; omega)
              refine ⟨l.length - (i + 1), _, by omega, qf (ts := [(0, qp U), (1, xo l), (2, .v (.int .i64 v)), (33, xo l), (34, .v (.int .i64 l.length)), (35, .v (.int .i64 ((i + 1 : Nat) : Int)))]) ?_, i + 1, U, by omega, rfl, ⟨hA, hRn⟩, rfl⟩
              (repeat (first | exact qd | refine qi ?_ | refine qL ?_ ?_))
            · rw [if_neg hz] at hA hL
              rw [hL] at hraw
              rw [hA]
              generalize zQ u l[i] v = E at *
              clear hE hL hA
              repeat' (first | refine qe ?_ | (first | refine xsQ Tryz.func149 (hraw ..) ?_) | ((first | refine qb ?_ ?_ | refine qc ?_ ?_ | refine xsC ?_ ?_); all_goals (intro hc; have hp := hc; try simp at hp; try (exfalso; omega))) | refine qv ?_ ?_)
              all_goals try (exfalso; omega)
              (exact yy (rs := [.tmp 6, .tmp 7, .tmp 8]))
          obtain rfl : i = l.length := by omega
          rw [List.drop_length] at hA
          have hA : A = (u, l.length, 0) := hA
          rw [hA]
          clear hE hA
          repeat' (first | refine qe ?_ | fail | ((first | refine qb ?_ ?_ | refine qc ?_ ?_ | refine xsC ?_ ?_); all_goals (intro hc; have hp := hc; try simp at hp; try (exfalso; omega))) | refine qv ?_ ?_)
          all_goals try (exfalso; omega)
          (refine yP (rs := [.tmp 6, .tmp 7, .tmp 8]) ?_; (repeat' (first | exact qT | apply ql | exact qM rfl | exact yC | exact zB | apply j8 | apply yI | apply j3 | apply yJ | apply yj | apply yK | refine zA ?_ | apply xG)); all_goals (rw [List.length_map])))
  · rw [if_pos hte] at hE
    rw [hE]
    generalize jC t = E at *
    refine qa Tryz.func119 rfl _ Tryz.ntmps119 (Nat.le_of_ble_eq_true rfl) _ Tryz.results119 0 rfl rfl ?_
    repeat' (first | refine qe ?_ | (first | (refine j4 ?_) | refine xsQ Tryz.func65 (h1 ..) ?_) | ((first | refine qb ?_ ?_ | refine qc ?_ ?_ | refine xsC ?_ ?_); all_goals (intro hc; have hp := hc; try simp at hp; try (exfalso; omega))) | refine qv ?_ ?_)
    all_goals try (exfalso; omega)
    all_goals ((exact yy (rs := [.tmp 6, .tmp 7, .tmp 8])))
end Go.Proofs.YtiljlcgmcmjcoaaGreatDoor
set_option linter.unusedSimpArgs false
set_option linter.unnecessarySimpa false
set_option linter.unusedVariables false
set_option maxHeartbeats 1000000
namespace Go.Proofs.YtiljlcgmcmjcoaaGreatDoor
open Go.Ab Go.RowKit
set_option maxRecDepth 10000
attribute [local irreducible] Awp jZ jg qJ Red qz Go.Ab.Fin qm Rz y0 qB qG ResOk jG q9 jK qV
theorem qgv (t : List Ent) (c : Chg) (v : Int) : zQ t c v = if ¬ yt c = 0 then yt c else if ¬ xY t c = 0 then xY t c else if ¬ yc t c = 0 then yc t c else yd t c v := by
  unfold zQ
  rw [qgO]
  by_cases h0 : yt c = 0 <;> by_cases h1 : xY t c = 0 <;> by_cases h2 : yc t c = 0 <;> simp [h0, h1, h2]
theorem qgk {t : List Ent} {c : Chg} (h : ¬ yc t c = 0) : yc t c = 8 := by
  unfold yc at *
  split at h
  · rename_i h1; rw [if_pos h1]
  · exact absurd rfl h
theorem qbS (t : List Ent) (c : Chg) (v : Int) (h60 : t.length ≤ 60) (hs : qt ya t = true) (hgt : ∀ x, x ∈ t → qD x.path = 0) (hcs : c.small) : jT C.P 130 [qp t, .agg c.row, .v (.int .i64 v)] (.tup [qp (ZS t c v), .v (.int .i64 (zQ t c v))]) := by
  have hR := qgv t c v
  by_cases h0 : yt c = 0
  · rw [if_neg (by simp [h0])] at hR
    by_cases h1 : xY t c = 0
    · rw [if_neg (by simp [h1])] at hR
      by_cases h2 : yc t c = 0
      · rw [if_neg (by simp [h2])] at hR
        obtain ⟨k1, k2, -⟩ := yA h0
        have hL : ZS t c v = if yd t c v = 0 then jq t c v else [] := by unfold ZS; rw [hR]
        rw [hL, hR]
        by_cases e1 : c.kind = 1
        · exact qh7 t c v h60 hs hgt hcs e1 h0 h1 h2
        · by_cases e2 : c.kind = 2
          · exact qh1 t c v h60 hs hgt hcs e2 h0 h1 h2
          · by_cases e3 : c.kind = 3
            · exact qia t c v h60 hs hgt hcs e3 h0 h1 h2
            · exact qh0 t c v h60 hs hgt hcs (by omega) h0 h1 h2
      · rw [if_pos h2] at hR
        rw [YG (by rw [hR]; exact h2), hR, qgk h2]
        exact qhX t c v h60 hs hgt hcs h0 h1 h2
    · rw [if_pos h1] at hR
      rw [YG (by rw [hR]; exact h1), hR]
      exact qhO t c v h60 hs hcs h0 h1
  · rw [if_pos h0] at hR
    rw [YG (by rw [hR]; exact h0), hR]
    exact qh4 t c v h60 hcs h0
theorem qf3 {t : List Ent} {c : Chg} {v : Int} (hr : zQ t c v = 0) : (jq t c v).length ≤ 60 := by
  unfold zQ at hr
  split at hr
  · contradiction
  · split at hr
    · contradiction
    · exact (Wq hr).2
def qbi (t : List Ent) (l : List Chg) (v : Int) : List Ent × Nat × Int := if 20 < l.length then ([], 0, 2) else if vd v = false ∧ 0 < l.length then ([], 0, 3) else Va v t l 0
theorem qgK (t : List Ent) (l : List Chg) (v : Int) (h60 : t.length ≤ 60) (hR : RightE t) (hcb : CBig l) : jT C.P 97 [qp t, xo l, .v (.int .i64 v)] (qes (qbi t l v)) := by
  have h2 := Zr v
  have hll := hcb.len
  have hml : (l.map Chg.row).length = l.length := List.length_map ..
  have hE : qbi t l v = if 20 < l.length then ([], 0, 2) else if vd v = false ∧ 0 < l.length then ([], 0, 3) else Va v t l 0 := rfl
  by_cases h20 : 20 < l.length
  · rw [if_pos h20] at hE
    rw [hE]
    refine qa Tryz.func97 rfl _ Tryz.ntmps97 (Nat.le_of_ble_eq_true rfl) _ Tryz.results97 0 rfl rfl ?_
    repeat' (first | refine qe ?_ | fail | ((first | refine qb ?_ ?_ | refine qc ?_ ?_ | refine xsC ?_ ?_); all_goals (intro hc; have hp := hc; try simp at hp; try (exfalso; omega))) | refine qv ?_ ?_)
    all_goals try (exfalso; first | omega | (simp_all; done) | (simp_all; omega))
    all_goals ((exact yy (rs := [.tmp 6, .tmp 7, .tmp 8])))
  · rw [if_neg h20] at hE
    by_cases hv : vd v = false ∧ 0 < l.length
    · rw [if_pos hv] at hE
      rw [hE]
      rw [hv.1] at h2
      refine qa Tryz.func97 rfl _ Tryz.ntmps97 (Nat.le_of_ble_eq_true rfl) _ Tryz.results97 0 rfl rfl ?_
      repeat' (first | refine qe ?_ | (first | refine xsF Tryz.func110 (h2 ..) ?_) | ((first | refine qb ?_ ?_ | refine qc ?_ ?_ | refine xsC ?_ ?_); all_goals (intro hc; have hp := hc; try simp at hp; try (exfalso; omega))) | refine qv ?_ ?_)
      all_goals try (exfalso; first | omega | (simp_all; done) | (simp_all; omega))
      all_goals ((exact yy (rs := [.tmp 6, .tmp 7, .tmp 8])))
    · rw [if_neg hv] at hE
      generalize hV : vd v = V at *
      have hv2 : V = false → l.length = 0 := fun h => by
        rcases Nat.eq_zero_or_pos l.length with h4 | h4
        · exact h4
        · exact absurd ⟨h, h4⟩ hv
      clear hV
      generalize hA : qbi t l v = A at *
      clear hA
      refine qa Tryz.func97 rfl _ Tryz.ntmps97 (Nat.le_of_ble_eq_true rfl) _ Tryz.results97 0 rfl rfl ?_
      repeat' (first | refine qe ?_ | (first | refine xsF Tryz.func110 (h2 ..) ?_) | ((first | refine qb ?_ ?_ | refine qc ?_ ?_ | refine xsC ?_ ?_); all_goals (intro hc; have hp := hc; try simp at hp; try (exfalso; omega))) | refine qv ?_ ?_)
      all_goals try (exfalso; first | omega | (simp_all; done) | (simp_all; omega))
      all_goals (
        (refine Awp.red (qf (ts := [(0, qp t), (1, xo l), (2, .v (.int .i64 v)), (9, .v (.int .i64 ((0 : Nat) : Int)))]) ?_) ?_; ((repeat (first | exact qd | refine qi ?_ | refine qL ?_ ?_))))
        refine qr (fun n σ => ∃ (i : Nat) (u : List Ent), i ≤ l.length ∧ n = l.length - i ∧ (A = Va v u (l.drop i) i ∧ RightE u ∧ u.length ≤ 60) ∧ σ = ⟨[(0, qp u), (1, xo l), (2, .v (.int .i64 v)), (9, .v (.int .i64 (i : Int)))], [], C.nh⟩) l.length ⟨0, t, Nat.zero_le _, rfl, ⟨by rw [hE]; rfl, hR, h60⟩, rfl⟩ ?_
        rintro n σ ⟨i, u, hi, rfl, ⟨hA, hRu, hu60⟩, rfl⟩
        by_cases hlt : i < l.length
        · have hr := qx (f := Chg.row) hlt
          have hraw := qbS u l[i] v hu60 hRu.rise hRu.paths (hcb.each _ (List.getElem_mem _))
          rw [Z8 hlt] at hA
          have hL : ZS u l[i] v = if zQ u l[i] v = 0 then jq u l[i] v else [] := rfl
          by_cases hz : zQ u l[i] v = 0
          · have hRn := hRu.done hz
            have hRl := qf3 hz
            rw [if_pos hz] at hA hL
            rw [hL, hz] at hraw
            generalize jq u l[i] v = U at *
            clear hE hL hz
            repeat' (first | refine qe ?_ | (first | refine xsQ Tryz.func130 (hraw ..) ?_) | ((first | refine qb ?_ ?_ | refine qc ?_ ?_ | refine xsC ?_ ?_); all_goals (intro hc; have hp := hc; try simp at hp; try (exfalso; omega))) | refine qv ?_ ?_)
            all_goals try (exfalso; omega)
            refine ⟨l.length - (i + 1), _, by omega, qf (ts := [(0, qp U), (1, xo l), (2, .v (.int .i64 v)), (9, .v (.int .i64 ((i + 1 : Nat) : Int)))]) ?_, i + 1, U, by omega, rfl, ⟨hA, hRn, hRl⟩, rfl⟩
            (repeat (first | exact qd | refine qi ?_ | refine qL ?_ ?_))
          · rw [if_neg hz] at hA hL
            rw [hL] at hraw
            rw [hA]
            generalize zQ u l[i] v = E at *
            clear hE hL hA
            repeat' (first | refine qe ?_ | (first | refine xsQ Tryz.func130 (hraw ..) ?_) | ((first | refine qb ?_ ?_ | refine qc ?_ ?_ | refine xsC ?_ ?_); all_goals (intro hc; have hp := hc; try simp at hp; try (exfalso; omega))) | refine qv ?_ ?_)
            all_goals try (exfalso; omega)
            (exact yy (rs := [.tmp 6, .tmp 7, .tmp 8]))
        obtain rfl : i = l.length := by omega
        rw [List.drop_length] at hA
        have hA : A = (u, l.length, 0) := hA
        rw [hA]
        clear hE hA
        repeat' (first | refine qe ?_ | fail | ((first | refine qb ?_ ?_ | refine qc ?_ ?_ | refine xsC ?_ ?_); all_goals (intro hc; have hp := hc; try simp at hp; try (exfalso; omega))) | refine qv ?_ ?_)
        all_goals try (exfalso; omega)
        (refine yP (rs := [.tmp 6, .tmp 7, .tmp 8]) ?_; (repeat' (first | exact qT | apply ql | exact qM rfl | exact yC | exact zB | apply j8 | apply yI | apply j3 | apply yJ | apply yj | apply yK | refine zA ?_ | apply xG)); all_goals (rw [List.length_map])))
theorem qgW (t : List Ent) (l : List Chg) (v : Int) : vq v t l = if ¬ jC t = 0 then ([], 0, jC t) else qbi t l v := rfl
end Go.Proofs.YtiljlcgmcmjcoaaGreatDoor
set_option linter.unusedSimpArgs false
set_option linter.unnecessarySimpa false
set_option linter.unusedVariables false
set_option maxHeartbeats 1000000
namespace Go.Proofs.YtiljlcgmcmjcoaaGreatDoor
open Go.Ab Go.RowKit
set_option maxRecDepth 10000
attribute [local irreducible] Awp jZ jg qJ Red qz Go.Ab.Fin qm Rz y0 qB qG ResOk jG q9 jK qV
end Go.Proofs.YtiljlcgmcmjcoaaGreatDoor
set_option linter.unusedSimpArgs false
set_option maxHeartbeats 1000000
namespace Go.Proofs.YtiljlcgmcmjcoaaGreatDoor
open Go.Ab Go.RowKit
set_option maxRecDepth 10000
attribute [local irreducible] Awp jZ jg qJ Red qz Go.Ab.Fin qm Rz y0 qB qG ResOk jG q9 jK qV
theorem qh8 (a b : Int) : jT C.P 120 [.sl false [[.v (.int .i64 a)], [.v (.int .i64 b)]]] (.v (.int .i64 (if a = 0 then b else a))) := by
  have hc : ([a, b].map fun x => [AV.v (.int .i64 x)]) = [[.v (.int .i64 a)], [.v (.int .i64 b)]] := rfl
  rw [← hc]
  refine qa Tryz.func120 rfl _ Tryz.ntmps120 (Nat.le_of_ble_eq_true rfl) _ Tryz.results120 0 rfl rfl ?_
  repeat' (first | refine qe ?_ | fail | ((first | refine xsC ?_ ?_); all_goals (intro hc; have hp := hc; try simp at hp; try (exfalso; omega))) | refine qv ?_ ?_)
  (refine Awp.red (qf (ts := [(3, .v (.int .i64 0)), (6, .sl false ([a, b].map fun x => [AV.v (.int .i64 x)])), (7, .v (.int .i64 (2 : Int))), (8, .v (.int .i64 ((0 : Nat) : Int)))]) ?_) ?_; ((repeat (first | exact qd | refine qi ?_ | refine qL ?_ ?_))))
  refine qr (fun n σ => ∃ i : Nat, i ≤ [a, b].length ∧ n = [a, b].length - i ∧ (∀ x, x ∈ [a, b].take i → x = 0) ∧ σ = ⟨[(3, .v (.int .i64 0)), (6, .sl false ([a, b].map fun x => [AV.v (.int .i64 x)])), (7, .v (.int .i64 (2 : Int))), (8, .v (.int .i64 (i : Int)))], [], C.nh⟩) [a, b].length ⟨0, Nat.zero_le _, rfl, (by simp), rfl⟩ ?_
  rintro n σ ⟨i, hi, rfl, hsofar, rfl⟩
  have hi2 : i ≤ 2 := hi
  by_cases hlt : i < [a, b].length
  · have hlt2 : i < 2 := hlt
    have hr := qx (f := fun x : Int => [AV.v (.int .i64 x)]) hlt
    repeat' (first | refine qe ?_ | fail | ((first | refine xsC ?_ ?_); all_goals (intro hc; have hp := hc; try simp at hp; try (exfalso; omega))) | refine qv ?_ ?_)
    all_goals try (exfalso; omega)
    · apply qE
      rfl
      match i, hlt, hp, hsofar with
      | 0, _, hp, _ => simp at hp ⊢; simp [hp]
      | 1, _, hp, hsofar => simp at hsofar; simp [hsofar]
    · refine ⟨[a, b].length - (i + 1), _, by omega, qf (ts := [(3, .v (.int .i64 0)), (6, .sl false ([a, b].map fun x => [AV.v (.int .i64 x)])), (7, .v (.int .i64 (2 : Int))), (8, .v (.int .i64 ((i + 1 : Nat) : Int)))]) ?_, i + 1, by omega, rfl, qK hlt hsofar hp, rfl⟩; ((repeat (first | exact qd | refine qi ?_ | refine qL ?_ ?_)))
  have hi3 : ¬ i < 2 := hlt
  repeat' (first | refine qe ?_ | fail | ((first | refine xsC ?_ ?_); all_goals (intro hc; have hp := hc; try simp at hp; try (exfalso; omega))) | refine qv ?_ ?_)
  all_goals try (exfalso; omega)
  obtain rfl : i = 2 := by omega
  apply qE
  rfl
  simp at hsofar
  simp [hsofar]
theorem Ve (a b : Gra) : jT C.P 75 [.agg a.row, .agg b.row] (.v (.int .i64 (zX a b))) := by
  refine qa Tryz.func75 rfl _ Tryz.ntmps75 (Nat.le_of_ble_eq_true rfl) _ Tryz.results75 0 rfl rfl ?_
  repeat' (first | refine qe ?_ | (first | refine xsF Tryz.func100 (Xu ..) ?_ | refine xsQ Tryz.func120 (qh8 ..) ?_ | (refine j4 ?_)) | ((first | refine xsC ?_ ?_); all_goals (intro hc; have hp := hc; try simp at hp; try (exfalso; omega))) | refine qv ?_ ?_)
  all_goals (apply qE; rfl; simp [zX])
end Go.Proofs.YtiljlcgmcmjcoaaGreatDoor
set_option linter.unusedSimpArgs false
set_option maxHeartbeats 1000000
namespace Go.Proofs.YtiljlcgmcmjcoaaGreatDoor
open Go.Ab Go.RowKit
set_option maxRecDepth 10000
attribute [local irreducible] Awp jZ jg qJ Red qz Go.Ab.Fin qm Rz y0 qB qG ResOk jG q9 jK qV
theorem qbg (p : qC → Bool) (g : FuncId) (hg : IsFn C.P g) (cap : List AV) (hcap : AV.pure.pureL cap = true) (l : List (qC)) (hl : l.length ≤ 1000000) (hc : ∀ s, s ∈ l → jT C.P g ((AV.v (str s)) :: cap) (.v (.bool (p s)))) :
    jT C.P 135 [.sl false (l.map jo), .clo (.func g) [] cap] (.v (.int .i64 (yg p l))) := by
  refine qa Tryz.func135 rfl _ Tryz.ntmps135 (Nat.le_of_ble_eq_true rfl) _ Tryz.results135 0 rfl rfl ?_
  repeat' (first | refine qe ?_ | fail | ((first | refine xsC ?_ ?_); all_goals (intro hc; have hp := hc; try simp at hp; try (exfalso; omega))) | refine qv ?_ ?_)
  (refine Awp.red (qf (ts := [(0, .sl false (l.map jo)), (1, .clo (.func g) [] cap), (7, .v (.int .i64 l.length)), (8, .v (.int .i64 ((0 : Nat) : Int)))]) ?_) ?_; ((repeat (first | exact qd | refine qi ?_ | refine qL ?_ ?_))))
  all_goals try (rw [List.length_map]; done)
  refine qr (fun n σ => ∃ i : Nat, i ≤ l.length ∧ n = l.length - i ∧ (∀ s, s ∈ l.take i → p s = false) ∧ σ = ⟨[(0, .sl false (l.map jo)), (1, .clo (.func g) [] cap), (7, .v (.int .i64 l.length)), (8, .v (.int .i64 (i : Int)))], [], C.nh⟩) l.length ⟨0, Nat.zero_le _, rfl, (by simp), rfl⟩ ?_
  rintro n σ ⟨i, hi, rfl, hsofar, rfl⟩
  by_cases hlt : i < l.length
  · have hr := qx (f := jo) hlt
    have hci := hc l[i] (List.getElem_mem _)
    repeat' (first | refine qe ?_ | (first | (apply qj; apply zK []; rfl; exact hg; exact hci; (case hz => exact ql (qM rfl) (kj hcap)); (case hfl => rfl); (case hN => exact nle rfl))) | ((first | refine xsC ?_ ?_); all_goals (intro hc; have hp := hc; try simp at hp; try (exfalso; omega))) | refine qv ?_ ?_)
    all_goals try (exfalso; omega)
    · apply qE
      rfl
      exact (vV hlt hsofar hp).symm
    · refine ⟨l.length - (i + 1), _, by omega, qf (ts := [(0, .sl false (l.map jo)), (1, .clo (.func g) [] cap), (7, .v (.int .i64 l.length)), (8, .v (.int .i64 ((i + 1 : Nat) : Int)))]) ?_, i + 1, by omega, rfl, qK hlt hsofar hp, rfl⟩; ((repeat (first | exact qd | refine qi ?_ | refine qL ?_ ?_)))
  obtain rfl : i = l.length := by omega
  repeat' (first | refine qe ?_ | fail | ((first | refine xsC ?_ ?_); all_goals (intro hc; have hp := hc; try simp at hp; try (exfalso; omega))) | refine qv ?_ ?_)
  all_goals try (exfalso; omega)
  apply qE
  rfl
  exact (xU fun s hs => hsofar s (by rw [List.take_length]; exact hs)).symm
theorem ZH (p : qC → Bool) (g : FuncId) (hg : IsFn C.P g) (cap : List AV) (hcap : AV.pure.pureL cap = true) (l : List (qC)) (hl : l.length ≤ 1000000) (hc : ∀ s, s ∈ l → jT C.P g ((AV.v (str s)) :: cap) (.v (.bool (p s)))) :
    jT C.P 106 [.sl false (l.map jo), .clo (.func g) [] cap] (.v (.bool (l.any p))) := by
  have hidx := qbg p g hg cap hcap l hl hc
  refine qa Tryz.func106 rfl _ Tryz.ntmps106 (Nat.le_of_ble_eq_true rfl) _ Tryz.results106 0 rfl rfl ?_
  repeat' (first | refine qe ?_ | (first | (apply qj; apply yi []; exact jJ Tryz.func135 rfl rfl; exact hidx; (case hz => exact ql (qM rfl) (ql (xr hcap) qT)); (case hfl => rfl); (case hN => exact nle rfl))) | ((first | refine xsC ?_ ?_); all_goals (intro hc; have hp := hc; try simp at hp; try (exfalso; omega))) | refine qv ?_ ?_)
  apply qU
  rfl
  rw [← Xn]
theorem qfF (s : qC) (hs : s.length ≤ 140737488355328) : jT C.P 107 [.v (str s)] (.v (.bool (!qo s))) := by
  refine qa Tryz.func107 rfl _ Tryz.ntmps107 (Nat.le_of_ble_eq_true rfl) _ Tryz.results107 0 rfl rfl ?_
  repeat' (first | refine qe ?_ | (first | refine xsF Tryz.func37 (xM _ hs ..) ?_) | ((first | refine xsC ?_ ?_); all_goals (intro hc; have hp := hc; try simp at hp; try (exfalso; omega))) | refine qv ?_ ?_)
  all_goals (apply qU; rfl; simp_all)
theorem Yv (l : List qC) (hl : l.length ≤ 1000000) (hs : ∀ s, s ∈ l → s.length ≤ 140737488355328) : jT C.P 62 [.sl false (l.map jo)] (.v (.bool (l.all qo))) := by
  have hcon := ZH (fun s => !qo s) 107 (jJ Tryz.func107 rfl rfl) [] rfl l hl (fun s h => qfF s (hs s h))
  refine qa Tryz.func62 rfl _ Tryz.ntmps62 (Nat.le_of_ble_eq_true rfl) _ Tryz.results62 0 rfl rfl ?_
  repeat' (first | refine qe ?_ | (first | refine xsF Tryz.func106 (hcon ..) ?_) | ((first | refine xsC ?_ ?_); all_goals (intro hc; have hp := hc; try simp at hp; try (exfalso; omega))) | refine qv ?_ ?_)
  all_goals (apply qU; rfl; simp_all [List.all_eq_not_any_not])
end Go.Proofs.YtiljlcgmcmjcoaaGreatDoor
set_option linter.unusedSimpArgs false
set_option linter.unnecessarySimpa false
set_option linter.unusedVariables false
set_option maxHeartbeats 1000000
namespace Go.Proofs.YtiljlcgmcmjcoaaGreatDoor
open Go.Ab Go.RowKit
set_option maxRecDepth 10000
attribute [local irreducible] Awp jZ jg qJ Red qz Go.Ab.Fin qm Rz y0 qB qG ResOk jG q9 jK qV
theorem qgS : qdw C.P 81 = some [0, 1, 1, 1, 0] := by kernel_rfl
theorem qdz (a b : Chg) : w7 [0, 1, 1, 1, 0] a.row b.row = some (decide (a = b)) := by
  obtain ⟨a1, a2, a3, a4, a5⟩ := a
  obtain ⟨b1, b2, b3, b4, b5⟩ := b
  simp only [Chg.row, w7, Qh, str, Chg.mk.injEq, if_true, Option.some.injEq]
  by_cases h1 : a1 = b1 <;> by_cases h2 : a2 = b2 <;> by_cases h3 : a3 = b3 <;> by_cases h4 : a4 = b4 <;> by_cases h5 : a5 = b5 <;> simp [h1, h2, h3, h4, h5]
theorem ZM (a b : List Chg) (ha : a.length ≤ 1000000000) (hb : b.length ≤ 1000000000) : jT C.P 115 [xo a, xo b] (.v (.bool (decide (a = b)))) := by
  have hma : (a.map Chg.row).length = a.length := List.length_map ..
  have hmb : (b.map Chg.row).length = b.length := List.length_map ..
  refine qa Tryz.func115 rfl _ Tryz.ntmps115 (Nat.le_of_ble_eq_true rfl) _ Tryz.results115 0 rfl rfl ?_
  repeat' (first | refine qe ?_ | fail | ((first | refine xsC ?_ ?_); all_goals (intro hc; have hp := hc; try simp at hp; try (exfalso; omega))) | refine qv ?_ ?_)
  · apply qU
    rfl
    have hne : ¬ a = b := fun e => by subst e; simp at *
    simp [hne]
  have hab : a.length = b.length := by simp at *; omega
  (refine Awp.red (qf (ts := [(0, xo a), (1, xo b), (5, .v (.int .i64 ((0 : Nat) : Int)))]) ?_) ?_; ((repeat (first | exact qd | refine qi ?_ | refine qL ?_ ?_))))
  refine qr (fun n σ => ∃ i : Nat, i ≤ a.length ∧ n = a.length - i ∧ (a.take i = b.take i) ∧ σ = ⟨[(0, xo a), (1, xo b), (5, .v (.int .i64 (i : Int)))], [], C.nh⟩) a.length ⟨0, Nat.zero_le _, rfl, rfl, rfl⟩ ?_
  rintro n σ ⟨i, hi, rfl, hsofar, rfl⟩
  by_cases hlt : i < a.length
  · have hlt2 : i < b.length := by omega
    have hr := qx (f := Chg.row) hlt
    have hr' := qx (f := Chg.row) hlt2
    have hnx := Xj hlt hlt2 hsofar
    repeat' (first | refine qe ?_ | (first | (apply qj; apply Yx; rfl; rfl; exact qgS; exact qdz _ _; (first | exact .inl ⟨rfl, rfl⟩ | exact .inr ⟨rfl, rfl⟩); exact nle rfl)) | ((first | refine xsC ?_ ?_); all_goals (intro hc; have hp := hc; try simp at hp; try (exfalso; omega))) | refine qv ?_ ?_)
    all_goals try (exfalso; omega)
    · apply qU
      rfl
      have hne : ¬ a = b := fun e => by subst e; simp at *
      simp [hne]
    · refine ⟨a.length - (i + 1), _, by omega, qf (ts := [(0, xo a), (1, xo b), (5, .v (.int .i64 ((i + 1 : Nat) : Int)))]) ?_, i + 1, by omega, rfl, (hnx (by simp_all)), rfl⟩; ((repeat (first | exact qd | refine qi ?_ | refine qL ?_ ?_)))
  obtain rfl : i = a.length := by omega
  have he : a = b := by rw [List.take_length] at hsofar; rw [hsofar, hab, List.take_length]
  repeat' (first | refine qe ?_ | fail | ((first | refine xsC ?_ ?_); all_goals (intro hc; have hp := hc; try simp at hp; try (exfalso; omega))) | refine qv ?_ ?_)
  all_goals try (exfalso; omega)
  apply qU
  rfl
  simp [he]
end Go.Proofs.YtiljlcgmcmjcoaaGreatDoor
set_option linter.unusedSimpArgs false
set_option linter.unnecessarySimpa false
set_option linter.unusedVariables false
set_option maxHeartbeats 1000000
namespace Go.Proofs.YtiljlcgmcmjcoaaGreatDoor
open Go.Ab Go.RowKit
set_option maxRecDepth 10000
attribute [local irreducible] Awp jZ jg qJ Red qz Go.Ab.Fin qm Rz y0 qB qG ResOk jG q9 jK qV
end Go.Proofs.YtiljlcgmcmjcoaaGreatDoor
set_option linter.unusedSimpArgs false
set_option linter.unnecessarySimpa false
set_option linter.unusedVariables false
set_option maxHeartbeats 1000000
namespace Go.Proofs.YtiljlcgmcmjcoaaGreatDoor
open Go.Ab Go.RowKit
set_option maxRecDepth 10000
attribute [local irreducible] Awp jZ jg qJ Red qz Go.Ab.Fin qm Rz y0 qB qG ResOk jG q9 jK qV
theorem kP (l : List Ent) (hl : l.length ≤ 1000000) : jT C.P 101 [qp l] (qp l) :=
  wa (VB l hl) (yf rfl (by simp) (ju fun _ => rfl))
theorem qfH (l : List Chg) (hl : l.length ≤ 1000000) :
    qm C.P 122 [xo l] [] (.os 0 0 l.length) [.own false 5 (l.map Chg.row)] := by
  by_cases h0 : l = []
  · subst h0
    refine qa Tryz.func122 rfl _ Tryz.ntmps122 (Nat.le_of_ble_eq_true rfl) _ Tryz.results122 0 rfl rfl ?_
    repeat' (first | refine qe ?_ | (first | (refine j4 ?_) | (refine zc ?_) | (refine Ju ?_)) | ((first | refine xsC ?_ ?_); all_goals (intro hc; have hp := hc; try simp at hp; try (exfalso; omega))) | refine qv ?_ ?_)
    · (refine wM (C := C) (vN (C := C) 2 5 rfl (Nat.zero_le _)) ?_)
      (refine QB (rs := [.tmp 2]) [(0, 0)] 1 ?_; (repeat (first | exact qh | refine jU ?_ | refine qO ?_ ?_)); all_goals skip)
    · (refine QB (rs := [.tmp 2]) [(0, 0)] 1 ?_; (repeat (first | exact qh | refine jU ?_ | refine qO ?_ ?_)); all_goals skip)
  · refine qa Tryz.func122 rfl _ Tryz.ntmps122 (Nat.le_of_ble_eq_true rfl) _ Tryz.results122 0 rfl rfl ?_
    repeat' (first | refine qe ?_ | (first | (refine j4 ?_) | (refine zc ?_) | (apply qj; apply kV; rfl; exact (fun h => h0 (List.map_eq_nil_iff.1 h)); rfl; rfl; (first | exact .inl rfl | exact .inr rfl); exact nle rfl)) | ((first | refine xsC ?_ ?_); all_goals (intro hc; have hp := hc; try simp at hp; try (exfalso; omega))) | refine qv ?_ ?_)
    (refine QB (rs := [.tmp 2]) [(0, 0)] 1 ?_; (repeat (first | exact qh | refine jU ?_ | refine qO ?_ ?_)); all_goals skip)
theorem Js (l : List Chg) (hl : l.length ≤ 1000000) : jT C.P 122 [xo l] (xo l) :=
  wa (qfH l hl) (yf rfl (by simp) (ju fun _ => rfl))
end Go.Proofs.YtiljlcgmcmjcoaaGreatDoor
