import Derived.Test.YtpeenheeakhlgaaDoorTsB
/- Paths, plain, 2: right paths: parents, joins, moves. -/
set_option linter.unusedSimpArgs false
set_option linter.unnecessarySimpa false
namespace Go.Proofs.YtpeenheeakhlgaaDoor

theorem isName_iff {s : Str} : isName s = true ↔ s ≠ [] ∧ s.length ≤ 20 ∧ s ≠ [46] ∧ s ≠ [46, 46] ∧ s.head? ≠ some 32 ∧ s.getLast? ≠ some 32 ∧ ∀ c, c ∈ s → okB c = true := by
  simp [isName, and_assoc]
theorem isName_free {s : Str} (h : isName s = true) : (47 : UInt8) ∉ s := fun hm => by
  have := (isName_iff.1 h).2.2.2.2.2.2 47 hm
  exact absurd this (by decide)
theorem isName_nil : isName [] = false := by simp [isName]
theorem pathErr_zero {p : Str} : pathErr p = 0 ↔ (∀ n, n ∈ namesOf p → isName n = true) ∧ tooGreat p = false := by
  unfold pathErr
  constructor
  · intro h
    split at h
    · rename_i h1
      split at h
      · exact absurd h (by decide)
      · rename_i h2
        exact ⟨List.all_eq_true.1 h1, by simpa using h2⟩
    · exact absurd h (by decide)
  · rintro ⟨h1, h2⟩
    rw [if_pos (List.all_eq_true.2 h1), h2]; rfl
theorem parent_none {p : Str} (h : (47 : UInt8) ∉ p) : parentOf p = [] ∧ lastOf p = p := by
  rw [parentOf, lastOf, lastIdx_none h]
  exact ⟨rfl, rfl⟩
theorem parent_at {a b : Str} (h : (47 : UInt8) ∉ b) : parentOf (a ++ 47 :: b) = a ∧ lastOf (a ++ 47 :: b) = b := by
  rw [parentOf, lastOf, lastIdx_at h]
  refine ⟨by rw [show (a.length : Int).toNat = a.length from by omega, List.take_left], ?_⟩
  rw [show ((a.length : Int) + 1).toNat = a.length + 1 from by omega, List.drop_append, List.drop_of_length_le (by omega), List.nil_append, show a.length + 1 - a.length = 1 from by omega]; rfl
theorem parent_join {a b : Str} (h : (47 : UInt8) ∉ b) : parentOf (joinOf a b) = a ∧ namesOf (joinOf a b) = (if a = [] then [b] else namesOf a ++ [b]) := by
  unfold joinOf
  split
  · rename_i e; subst e
    exact ⟨(parent_none h).1, namesOf_one h⟩
  · refine ⟨(parent_at h).1, ?_⟩
    rw [namesOf_app, namesOf_one h]
theorem tooGreat_mono {a b : Str} (h : tooGreat b = false) (h1 : (namesOf a).length ≤ (namesOf b).length) (h2 : a.length ≤ b.length) : tooGreat a = false := by
  simp [tooGreat] at h ⊢; omega
/-- A right path: its parent is nothing or right; its name is a name; both joined are it. -/
theorem back_parts {p : Str} (h : pathErr p = 0) : (parentOf p = [] ∨ pathErr (parentOf p) = 0) ∧ isName (lastOf p) = true ∧ joinOf (parentOf p) (lastOf p) = p := by
  obtain ⟨h1, h2⟩ := pathErr_zero.1 h
  rcases split_at (c := 47) p with h3 | ⟨a, b, rfl, hb⟩
  · obtain ⟨e1, e2⟩ := parent_none h3
    rw [e1, e2]
    exact ⟨.inl rfl, h1 p (by rw [namesOf_one h3]; simp), rfl⟩
  · obtain ⟨e1, e2⟩ := parent_at (a := a) hb
    rw [e1, e2]
    have hn : namesOf (a ++ 47 :: b) = namesOf a ++ [b] := by rw [namesOf_app, namesOf_one hb]
    have ha : a ≠ [] := fun e => by
      have := h1 [] (by rw [hn, e]; simp [namesOf])
      rw [isName_nil] at this; exact absurd this (by decide)
    refine ⟨.inr (pathErr_zero.2 ⟨fun n hm => h1 n (by rw [hn]; simp [hm]), tooGreat_mono h2 (by rw [hn]; simp) (by simp)⟩), h1 b (by rw [hn]; simp), ?_⟩
    simp [joinOf, ha]
theorem back_join {p : Str} (h : pathErr p = 0) : joinErr (parentOf p) (lastOf p) = 0 ∧ joinOf (parentOf p) (lastOf p) = p := by
  obtain ⟨h1, h2, h3⟩ := back_parts h
  refine ⟨?_, h3⟩
  unfold joinErr
  rw [if_neg (by rintro ⟨a, b⟩; rcases h1 with h1 | h1 <;> contradiction), if_pos h2, h3, (pathErr_zero.1 h).2]; rfl
theorem pathsErr_zero {p : Str} {l : List Str} : pathsErr (p :: l) = 0 ↔ pathErr p = 0 ∧ pathsErr l = 0 := by
  show (if pathErr p = 0 then pathsErr l else pathErr p) = 0 ↔ _
  split
  · rename_i h; simp [h]
  · rename_i h; simp [h]
theorem back_moved {p f t : Str} (h : movedErr p f t = 0) :
    movedErr (t ++ p.drop f.length) t f = 0 ∧ pathsErr [t ++ p.drop f.length, t] = 0 ∧ inB (t ++ p.drop f.length) t = true ∧ f ++ (t ++ p.drop f.length).drop t.length = p := by
  unfold movedErr at h
  split at h
  case isFalse h' => exact absurd h h'
  rename_i h0
  split at h
  case isFalse => exact absurd h (by decide)
  rename_i hi
  split at h
  case isTrue => exact absurd h (by decide)
  rename_i hg
  obtain ⟨hp, h1⟩ := pathsErr_zero.1 h0
  obtain ⟨hf, h2⟩ := pathsErr_zero.1 h1
  obtain ⟨ht, -⟩ := pathsErr_zero.1 h2
  obtain ⟨np, gp⟩ := pathErr_zero.1 hp
  obtain ⟨nt, -⟩ := pathErr_zero.1 ht
  have hr := moved_ref (t := t) hi
  have hall : ∀ n, n ∈ namesOf t ++ (namesOf p).drop (namesOf f).length → isName n = true := fun n hm => by
    rcases List.mem_append.1 hm with hm | hm
    · exact nt n hm
    · exact np n (List.mem_of_mem_drop hm)
  have hnm : namesOf (t ++ p.drop f.length) = namesOf t ++ (namesOf p).drop (namesOf f).length := by
    rw [← hr]
    exact names_path (by simp [namesOf_ne]) fun n hm => isName_free (hall n hm)
  have hm : pathErr (t ++ p.drop f.length) = 0 := pathErr_zero.2 ⟨by rw [hnm]; exact hall, by simpa using hg⟩
  have hb : inB (t ++ p.drop f.length) t = true := by
    rw [inB_ref, hnm, List.isPrefixOf_iff_prefix]; exact List.prefix_append ..
  have hpre : f ++ p.drop f.length = p := by
    simp only [inB, Bool.or_eq_true, decide_eq_true_eq, List.isPrefixOf_iff_prefix] at hi
    rcases hi with rfl | ⟨s, rfl⟩
    · simp
    · rw [List.append_assoc, List.drop_left]
  have hback : f ++ (t ++ p.drop f.length).drop t.length = p := by rw [List.drop_left]; exact hpre
  refine ⟨?_, ?_, hb, hback⟩
  · unfold movedErr
    rw [if_pos (pathsErr_zero.2 ⟨hm, pathsErr_zero.2 ⟨ht, pathsErr_zero.2 ⟨hf, rfl⟩⟩⟩), if_pos hb, hback, gp]; rfl
  · exact pathsErr_zero.2 ⟨hm, pathsErr_zero.2 ⟨ht, rfl⟩⟩
end Go.Proofs.YtpeenheeakhlgaaDoor

/- Changes in the abstract layer, 7: what is right stays right; Raw. -/
set_option linter.unusedSimpArgs false
set_option linter.unnecessarySimpa false
set_option linter.unusedVariables false
set_option maxHeartbeats 1000000
namespace Go.Proofs.YtpeenheeakhlgaaDoor
open Go.Ab Go.RowKit
set_option maxRecDepth 10000
attribute [local irreducible] Awp Ops OpsX Wanted Red ExOk Go.Ab.Fin ACall Rz RzL RzRows Enters ResOk RenV RenVL ArgV ArgVL

structure RightE (t : List Ent) : Prop where
  rise : rising entLt t = true
  paths : ∀ x, x ∈ t → pathErr x.path = 0
  few : t.length ≤ 400000
def rawE (t : List Ent) (c : Chg) (v : Int) : Int := if ¬ chgErr c = 0 then chgErr c else if ¬ mayErr t c = 0 then mayErr t c else doneE t c v
def rawL (t : List Ent) (c : Chg) (v : Int) : List Ent := if rawE t c v = 0 then doneL t c v else []
theorem chgErr_zero {c : Chg} (h : chgErr c = 0) : 1 ≤ c.kind ∧ c.kind ≤ 4 ∧ pathErr c.path = 0 ∧ (c.kind = 3 → pathErr c.to = 0) ∧ chgRest c = 0 := by
  unfold chgErr at h
  split at h
  · exact absurd h (by decide)
  · split at h
    · contradiction
    · rename_i h1 h2
      split at h
      · rename_i h3; exact absurd h h3.2
      · rename_i h3
        refine ⟨by omega, by omega, by simpa using h2, fun h4 => ?_, h⟩
        have h5 := fun e => h3 ⟨h4, e⟩
        simpa using h5
theorem mem_putT {t : List Ent} {x y : Ent} (h : y ∈ putT t x) : y = x ∨ y ∈ t := by
  unfold putT at h
  split at h
  · rcases List.mem_append.1 h with h | h
    · exact .inr (List.mem_of_mem_take h)
    · rcases List.mem_append.1 h with h | h
      · exact .inl (List.mem_singleton.1 h)
      · exact .inr (List.mem_of_mem_drop h)
  · rcases List.mem_append.1 h with h | h
    · exact .inr (List.mem_of_mem_take h)
    · rcases List.mem_append.1 h with h | h
      · exact .inl (List.mem_singleton.1 h)
      · exact .inr (List.mem_of_mem_drop h)
theorem mem_putAll : ∀ {l t : List Ent} {y : Ent}, y ∈ l.foldl putT t → y ∈ l ∨ y ∈ t
  | [], _, _, h => .inr h
  | x :: l, t, y, h => by
    rcases mem_putAll (l := l) (t := putT t x) h with h | h
    · exact .inl (List.mem_cons_of_mem _ h)
    · rcases mem_putT h with rfl | h
      · exact .inl (List.mem_cons_self ..)
      · exact .inr h
theorem moveTo_right {c : Chg} {v : Int} {x : Ent} (hx : pathErr x.path = 0) (h1 : pathErr c.path = 0) (h2 : pathErr c.to = 0) (hi : inB x.path c.path = true) (hg : tooGreat (c.to ++ x.path.drop c.path.length) = false) : pathErr (moveTo c v x).path = 0 := by
  have hm := moved_right hx h1 h2 hi
  rw [hg, if_neg (by decide)] at hm
  have := (back_moved hm).2.1
  exact (pathsErr_zero.1 this).1
theorem done_ok {t : List Ent} {c : Chg} {v : Int} (h : doneE t c v = 0) : moveBad t c = false ∧ (doneL t c v).length ≤ 60 := by
  unfold doneE at h
  split at h
  · exact absurd h (by decide)
  · split at h
    · exact absurd h (by decide)
    · rename_i h1 h2
      exact ⟨by simpa using h1, by omega⟩
theorem doneL_paths {t : List Ent} {c : Chg} {v : Int} (ht : ∀ x, x ∈ t → pathErr x.path = 0) (hce : chgErr c = 0) (hbad : moveBad t c = false) : ∀ x, x ∈ doneL t c v → pathErr x.path = 0 := by
  obtain ⟨k1, k2, hpe, hto, -⟩ := chgErr_zero hce
  intro x hx
  unfold doneL at hx
  split at hx
  · rcases mem_putT hx with rfl | h
    · exact hpe
    · exact ht x h
  · split at hx
    · rcases mem_putT hx with rfl | h
      · exact hpe
      · exact ht x h
    · split at hx
      · exact ht x (List.mem_filter.1 hx).1
      · have k3 : c.kind = 3 := by omega
        rcases mem_putAll hx with h | h
        · obtain ⟨y, hy, rfl⟩ := List.mem_map.1 h
          obtain ⟨hy1, hy2⟩ := List.mem_filter.1 hy
          simp only [moveBad, k3, decide_true, Bool.true_and, List.any_eq_false] at hbad
          exact moveTo_right (ht y hy1) hpe (hto k3) hy2 (by simpa using hbad y hy)
        · exact ht x (List.mem_filter.1 h).1
theorem doneL_rising {t : List Ent} {c : Chg} {v : Int} (hs : rising entLt t = true) : rising entLt (doneL t c v) = true := by
  unfold doneL
  split
  · exact putT_rising hs
  · split
    · exact putT_rising hs
    · split
      · exact keepE_rising hs
      · exact putAll_rising (keepE_rising hs)
theorem doneL_len (t : List Ent) (c : Chg) (v : Int) : (doneL t c v).length ≤ 2 * t.length + 1 := by
  have h1 := fun x => putT_len t x
  have h2 : (keepE (inP c.path) t).length ≤ t.length := List.length_filter_le ..
  have h3 : (goesOf t c v).length ≤ t.length := by unfold goesOf; rw [List.length_map]; exact List.length_filter_le ..
  have h4 := putAll_len (goesOf t c v) (keepE (inP c.path) t)
  unfold doneL
  split
  · have := h1 ⟨c.path, true, [], v⟩; omega
  · split
    · have := h1 ⟨c.path, false, c.text, v⟩; omega
    · split <;> omega
theorem RightE.done {t : List Ent} {c : Chg} {v : Int} (h : RightE t) (hr : rawE t c v = 0) : RightE (doneL t c v) := by
  unfold rawE at hr
  split at hr
  · contradiction
  · split at hr
    · contradiction
    · rename_i h1 h2
      obtain ⟨h3, h4⟩ := done_ok hr
      exact ⟨doneL_rising h.rise, doneL_paths h.paths (by simpa using h1) h3, by omega⟩
theorem a_done (t : List Ent) (c : Chg) (v : Int) (h : RightE t) (hce : chgErr c = 0) (hbad : moveBad t c = false) :
    ACall C1.P 61 [.os 0 0 t.length, .agg c.row, .v (.int .i64 v)] [.own false 4 (t.map Ent.row)] (resAV (doneE t c v) (doneL t c v).length) [.dead, .own false 4 ((doneL t c v).map Ent.row)] := by
  obtain ⟨k1, k2, hpe, hto, -⟩ := chgErr_zero hce
  have hf := h.few
  have hl := doneL_len t c v
  have hps := pathErr_small hpe
  by_cases h1 : c.kind = 1
  · exact a_done1 t c v (by omega) h.rise h1 (by omega)
  · by_cases h2 : c.kind = 2
    · exact a_done2 t c v (by omega) h.rise h2 (by omega)
    · by_cases h4 : c.kind = 4
      · exact a_done4 t c v (by omega) h4 (by omega)
      · have h3 : c.kind = 3 := by omega
        exact a_done3_ok t c v hf h3 h.paths hpe (hto h3) hbad h.rise
theorem rawL_bad {t : List Ent} {c : Chg} {v : Int} (h : ¬ rawE t c v = 0) : rawL t c v = [] := by unfold rawL; rw [if_neg h]
theorem a_rawT (t : List Ent) (c : Chg) (v : Int) (h : RightE t) (hcs : c.small) : AFn C.P 43 [entAV t, .agg c.row, .v (.int .i64 v)] (.tup [entAV (rawL t c v), .v (.int .i64 (rawE t c v))]) := by
  have hf := h.few
  have h1 := a_form c hcs
  have h2 := a_may t c (by omega) h.rise hcs
  have h3 := a_cloneE t (by omega)
  have hR : rawE t c v = if ¬ chgErr c = 0 then chgErr c else if ¬ mayErr t c = 0 then mayErr t c else doneE t c v := rfl
  have hbadL := @rawL_bad t c v
  by_cases hce : chgErr c = 0
  · by_cases hme : mayErr t c = 0
    · have hR2 : rawE t c v = doneE t c v := by rw [hR, if_neg (by simp [hce]), if_neg (by simp [hme])]
      rw [hce] at h1
      rw [hme] at h2
      cases hb : moveBad t c with
      | true =>
        obtain ⟨k1, k2, hpe, hto, -⟩ := chgErr_zero hce
        have hk3 : c.kind = 3 := by
          simp [moveBad] at hb; exact hb.1
        have hE : doneE t c v = 2 := by simp [doneE, hb]
        have hd := a_done3_bad t c v (by omega) hk3 h.paths hpe (hto hk3) hb
        rw [hE] at hR2
        rw [hbadL (by rw [hR2]; decide), hR2]
        refine acall_intro Tryd.func43 rfl _ Tryd.ntmps43 (Nat.le_of_ble_eq_true rfl) _ Tryd.results43 0 rfl rfl ?_
        repeat' (first | refine walk ?_ | (first | (apply to_call Tryd.func59 rfl rfl; intro hIsFn; refine o_callf hIsFn (h1 ..) ?_; skip) | (apply to_call Tryd.func60 rfl rfl; intro hIsFn; refine o_callf hIsFn (h2 ..) ?_; skip) | (apply to_call Tryd.func51 rfl rfl; intro hIsFn; refine o_callo ([]) hIsFn (h3 ..) ?_) | (apply to_call Tryd.func61 rfl rfl; intro hIsFn; refine o_callh ([1]) 1 hIsFn (hd ..) ?_)) | ((first | (apply awp_cond; rfl)); all_goals (intro hc; have hp := hc; first | (simp at hp; done) | ((try simp at hp); first | (exfalso; omega) | skip))) | (apply awp_cond_any; rfl))
        all_goals try (exfalso; omega)
        (refine f_pure (rs := [.tmp 6, .tmp 7]) ?_; (repeat' (first | exact rzl_nil | apply rzl_cons | exact rz_pure rfl | exact rz_ex | exact z_os | apply rz_agg | apply rz_tup | apply rz_clo | apply rz_int | apply rz_bool | apply rz_str | refine z_eq ?_ | apply rz_sl)); all_goals trace_state)
      | false =>
        have hd := a_done t c v h hce hb
        by_cases hE : doneE t c v = 0
        · have hL : rawL t c v = doneL t c v := by unfold rawL; rw [if_pos (by rw [hR2, hE])]
          rw [hE] at hR2 hd
          rw [hL, hR2]
          generalize doneL t c v = L at *
          have hd : ACall C1.P 61 [.os 0 0 t.length, .agg c.row, .v (.int .i64 v)] [.own false 4 (t.map Ent.row)] (.tup [.os 1 0 L.length, .v (.int .i64 0)]) [.dead, .own false 4 (L.map Ent.row)] := hd
          refine acall_intro Tryd.func43 rfl _ Tryd.ntmps43 (Nat.le_of_ble_eq_true rfl) _ Tryd.results43 0 rfl rfl ?_
          repeat' (first | refine walk ?_ | (first | (apply to_call Tryd.func59 rfl rfl; intro hIsFn; refine o_callf hIsFn (h1 ..) ?_; skip) | (apply to_call Tryd.func60 rfl rfl; intro hIsFn; refine o_callf hIsFn (h2 ..) ?_; skip) | (apply to_call Tryd.func51 rfl rfl; intro hIsFn; refine o_callo ([]) hIsFn (h3 ..) ?_) | (apply to_call Tryd.func61 rfl rfl; intro hIsFn; refine o_callg ([1]) 1 hIsFn (hd ..) ?_)) | ((first | (apply awp_cond; rfl)); all_goals (intro hc; have hp := hc; first | (simp at hp; done) | ((try simp at hp); first | (exfalso; omega) | skip))) | (apply awp_cond_any; rfl))
          all_goals try (exfalso; omega)
          (refine f_pure (rs := [.tmp 6, .tmp 7]) ?_; (repeat' (first | exact rzl_nil | apply rzl_cons | exact rz_pure rfl | exact rz_ex | exact z_os | apply rz_agg | apply rz_tup | apply rz_clo | apply rz_int | apply rz_bool | apply rz_str | refine z_eq ?_ | apply rz_sl)); all_goals trace_state)
        · rw [hbadL (by rw [hR2]; exact hE), hR2]
          generalize doneE t c v = E at *
          generalize doneL t c v = L at *
          have hd : ACall C1.P 61 [.os 0 0 t.length, .agg c.row, .v (.int .i64 v)] [.own false 4 (t.map Ent.row)] (.tup [.sl true [], .v (.int .i64 E)]) [.dead, .own false 4 (L.map Ent.row)] := by
            rw [resAV, if_neg hE] at hd; exact hd
          refine acall_intro Tryd.func43 rfl _ Tryd.ntmps43 (Nat.le_of_ble_eq_true rfl) _ Tryd.results43 0 rfl rfl ?_
          repeat' (first | refine walk ?_ | (first | (apply to_call Tryd.func59 rfl rfl; intro hIsFn; refine o_callf hIsFn (h1 ..) ?_; skip) | (apply to_call Tryd.func60 rfl rfl; intro hIsFn; refine o_callf hIsFn (h2 ..) ?_; skip) | (apply to_call Tryd.func51 rfl rfl; intro hIsFn; refine o_callo ([]) hIsFn (h3 ..) ?_) | (apply to_call Tryd.func61 rfl rfl; intro hIsFn; refine o_callg ([1]) 1 hIsFn (hd ..) ?_)) | ((first | (apply awp_cond; rfl)); all_goals (intro hc; have hp := hc; first | (simp at hp; done) | ((try simp at hp); first | (exfalso; omega) | skip))) | (apply awp_cond_any; rfl))
          all_goals try (exfalso; omega)
          (refine f_pure (rs := [.tmp 6, .tmp 7]) ?_; (repeat' (first | exact rzl_nil | apply rzl_cons | exact rz_pure rfl | exact rz_ex | exact z_os | apply rz_agg | apply rz_tup | apply rz_clo | apply rz_int | apply rz_bool | apply rz_str | refine z_eq ?_ | apply rz_sl)); all_goals trace_state)
    · have hR2 : rawE t c v = mayErr t c := by rw [hR, if_neg (by simp [hce]), if_pos hme]
      rw [hce] at h1
      rw [hbadL (by rw [hR2]; exact hme), hR2]
      generalize mayErr t c = E at *
      refine acall_intro Tryd.func43 rfl _ Tryd.ntmps43 (Nat.le_of_ble_eq_true rfl) _ Tryd.results43 0 rfl rfl ?_
      repeat' (first | refine walk ?_ | (first | (apply to_call Tryd.func59 rfl rfl; intro hIsFn; refine o_callf hIsFn (h1 ..) ?_; skip) | (apply to_call Tryd.func60 rfl rfl; intro hIsFn; refine o_callf hIsFn (h2 ..) ?_; skip)) | ((first | (apply awp_cond; rfl)); all_goals (intro hc; have hp := hc; first | (simp at hp; done) | ((try simp at hp); first | (exfalso; omega) | skip))) | (apply awp_cond_any; rfl))
      all_goals try (exfalso; omega)
      (refine f_pure (rs := [.tmp 6, .tmp 7]) ?_; (repeat' (first | exact rzl_nil | apply rzl_cons | exact rz_pure rfl | exact rz_ex | exact z_os | apply rz_agg | apply rz_tup | apply rz_clo | apply rz_int | apply rz_bool | apply rz_str | refine z_eq ?_ | apply rz_sl)); all_goals trace_state)
  · have hR2 : rawE t c v = chgErr c := by rw [hR, if_pos hce]
    rw [hbadL (by rw [hR2]; exact hce), hR2]
    generalize chgErr c = E at *
    refine acall_intro Tryd.func43 rfl _ Tryd.ntmps43 (Nat.le_of_ble_eq_true rfl) _ Tryd.results43 0 rfl rfl ?_
    repeat' (first | refine walk ?_ | (first | (apply to_call Tryd.func59 rfl rfl; intro hIsFn; refine o_callf hIsFn (h1 ..) ?_; skip)) | ((first | (apply awp_cond; rfl)); all_goals (intro hc; have hp := hc; first | (simp at hp; done) | ((try simp at hp); first | (exfalso; omega) | skip))) | (apply awp_cond_any; rfl))
    all_goals try (exfalso; omega)
    (refine f_pure (rs := [.tmp 6, .tmp 7]) ?_; (repeat' (first | exact rzl_nil | apply rzl_cons | exact rz_pure rfl | exact rz_ex | exact z_os | apply rz_agg | apply rz_tup | apply rz_clo | apply rz_int | apply rz_bool | apply rz_str | refine z_eq ?_ | apply rz_sl)); all_goals trace_state)
end Go.Proofs.YtpeenheeakhlgaaDoor

/- Changes in the abstract layer, 8: Find, Apply, All. -/
set_option linter.unusedSimpArgs false
set_option linter.unnecessarySimpa false
set_option linter.unusedVariables false
namespace Go.Ab
/-- A slice in memory that is written no more, told by its rows. -/
theorem red_fs {C : Cx} {ts : List (Nat × AV)} {hs : List (Nat × HB)} {nx : Nat} (i n : Nat) {off len : Nat} {rows : List (List AV)} (hi : getT ts i = .os n off len) (hn : getH hs n = .fz rows) (hl : off + len ≤ rows.length) : Red C ⟨ts, hs, nx⟩ ⟨(i, .sl false ((rows.drop off).take len)) :: ts, hs, nx⟩ := by
  intro B a w hB ⟨g1, g2, F, ρ, hp, g4⟩
  refine ⟨g1, g2, F, ρ, { kept := hp.kept, agree := hp.agree, grow := hp.grow, fresh := hp.fresh, names := hp.names, dom := hp.dom, own := hp.own, new := hp.new, sep := hp.sep }, fun m => ?_⟩
  show M F ρ _ (getT ((i, _) :: ts) m)
  rw [getT_cons]
  by_cases him : i = m
  · subst him
    rw [if_pos rfl]
    have h1 : M F ρ _ (getT ts i) := g4 i
    rw [hi] at h1
    have h2 : OwnAt F ρ w n (getH hs n) := hp.own n
    exact argv_fz_os (L := []) (rh := [n]) (h := getH hs) hn (by simp) hl F ρ ρ w _ (fun m hm => by obtain rfl := List.mem_singleton.1 hm; exact h2) (fun a b hm c hc => by
      rcases hm with h | h
      · obtain rfl := h.2; exact hc
      · cases h) h1
  · rw [if_neg him]
    exact g4 m
end Go.Ab
set_option maxHeartbeats 1000000
namespace Go.Proofs.YtpeenheeakhlgaaDoor
open Go.Ab Go.RowKit
set_option maxRecDepth 10000
attribute [local irreducible] Awp Ops OpsX Wanted Red ExOk Go.Ab.Fin ACall Rz RzL RzRows Enters ResOk RenV RenVL ArgV ArgVL

theorem treeErr_zero {t : List Ent} (h : treeErr t = 0) : t.length ≤ 60 ∧ (∀ x, x ∈ t → entErr x = 0) ∧ rising entLt t = true ∧ ∀ x, x ∈ t → parErr t x = 0 := by
  unfold treeErr at h
  split at h
  · exact absurd h (by decide)
  · split at h
    · split at h
      · split at h
        · exact absurd h (by decide)
        · split at h
          · exact absurd h (by decide)
          · rename_i h1 h2 h3 h4 h5
            refine ⟨by omega, firstErr_zero.1 h2, h3, fun x hx => ?_⟩
            have h6 : (t.any fun x => decide (¬ parErr t x = 0)) = false := by simpa using h5
            rw [List.any_eq_false] at h6
            simpa using h6 x hx
      · exact absurd h (by decide)
    · contradiction
theorem entErr_zero {x : Ent} (h : entErr x = 0) : pathErr x.path = 0 ∧ ¬ (x.fold = true ∧ ¬ x.text = []) ∧ x.text.length ≤ 300 ∧ isVer x.ver = true := by
  unfold entErr at h
  split at h
  · split at h
    · exact absurd h (by decide)
    · split at h
      · exact absurd h (by decide)
      · split at h
        · exact ⟨by assumption, by assumption, by omega, by assumption⟩
        · exact absurd h (by decide)
  · contradiction
theorem RightE.of {t : List Ent} (h : treeErr t = 0) : RightE t := by
  obtain ⟨h1, h2, h3, h4⟩ := treeErr_zero h
  exact ⟨h3, fun x hx => (entErr_zero (h2 x hx)).1, by omega⟩
def applyE (t : List Ent) (c : Chg) (v : Int) : Int := if ¬ treeErr t = 0 then treeErr t else if isVer v = false then 3 else rawE t c v
def applyL (t : List Ent) (c : Chg) (v : Int) : List Ent := if applyE t c v = 0 then doneL t c v else []
theorem a_apply (t : List Ent) (c : Chg) (v : Int) (hb : EBig t) (hcs : c.small) : AFn C.P 21 [entAV t, .agg c.row, .v (.int .i64 v)] (.tup [entAV (applyL t c v), .v (.int .i64 (applyE t c v))]) := by
  have h1 := a_checkT t hb
  have h2 := a_isVerT v
  have hE : applyE t c v = if ¬ treeErr t = 0 then treeErr t else if isVer v = false then 3 else rawE t c v := rfl
  have hL : applyL t c v = if applyE t c v = 0 then doneL t c v else [] := rfl
  by_cases hte : treeErr t = 0
  · have hr := a_rawT t c v (RightE.of hte) hcs
    have hrL : rawL t c v = if rawE t c v = 0 then doneL t c v else [] := rfl
    rw [hte] at h1
    rw [if_neg (by simp [hte])] at hE
    generalize isVer v = V at *
    cases V with
    | true =>
      have hE2 : applyE t c v = rawE t c v := by rw [hE]; simp
      rw [hE2] at hL
      rw [← hL] at hrL
      rw [hrL] at hr
      rw [hE2]
      generalize applyL t c v = L at *
      generalize rawE t c v = R at *
      refine acall_intro Tryd.func21 rfl _ Tryd.ntmps21 (Nat.le_of_ble_eq_true rfl) _ Tryd.results21 0 rfl rfl ?_
      repeat' (first | refine walk ?_ | (first | (refine o_fzl ?_) | (apply to_call Tryd.func41 rfl rfl; intro hIsFn; refine o_callp hIsFn (h1 ..) ?_) | (apply to_call Tryd.func42 rfl rfl; intro hIsFn; refine o_callf hIsFn (h2 ..) ?_; skip) | (apply to_call Tryd.func43 rfl rfl; intro hIsFn; refine o_callp hIsFn (hr ..) ?_)) | ((first | (apply awp_cond; rfl)); all_goals (intro hc; have hp := hc; first | (simp at hp; done) | ((try simp at hp); first | (exfalso; omega) | skip))) | (apply awp_cond_any; rfl))
      all_goals try (exfalso; omega)
      (refine f_pure (rs := [.tmp 6, .tmp 7]) ?_; (repeat' (first | exact rzl_nil | apply rzl_cons | exact rz_pure rfl | exact rz_ex | exact z_os | apply rz_agg | apply rz_tup | apply rz_clo | apply rz_int | apply rz_bool | apply rz_str | refine z_eq ?_ | apply rz_sl)); all_goals trace_state)
    | false =>
      have hE2 : applyE t c v = 3 := by rw [hE]; simp
      rw [hE2, if_neg (by decide)] at hL
      rw [hE2, hL]
      refine acall_intro Tryd.func21 rfl _ Tryd.ntmps21 (Nat.le_of_ble_eq_true rfl) _ Tryd.results21 0 rfl rfl ?_
      repeat' (first | refine walk ?_ | (first | (refine o_fzl ?_) | (apply to_call Tryd.func41 rfl rfl; intro hIsFn; refine o_callp hIsFn (h1 ..) ?_) | (apply to_call Tryd.func42 rfl rfl; intro hIsFn; refine o_callf hIsFn (h2 ..) ?_; skip)) | ((first | (apply awp_cond; rfl)); all_goals (intro hc; have hp := hc; first | (simp at hp; done) | ((try simp at hp); first | (exfalso; omega) | skip))) | (apply awp_cond_any; rfl))
      all_goals try (exfalso; omega)
      (refine f_pure (rs := [.tmp 6, .tmp 7]) ?_; (repeat' (first | exact rzl_nil | apply rzl_cons | exact rz_pure rfl | exact rz_ex | exact z_os | apply rz_agg | apply rz_tup | apply rz_clo | apply rz_int | apply rz_bool | apply rz_str | refine z_eq ?_ | apply rz_sl)); all_goals trace_state)
  · rw [if_pos hte] at hE
    have hL2 : applyL t c v = [] := by rw [hL, if_neg (by rw [hE]; exact hte)]
    rw [hE, hL2]
    generalize treeErr t = E at *
    refine acall_intro Tryd.func21 rfl _ Tryd.ntmps21 (Nat.le_of_ble_eq_true rfl) _ Tryd.results21 0 rfl rfl ?_
    repeat' (first | refine walk ?_ | (first | (refine o_fzl ?_) | (apply to_call Tryd.func41 rfl rfl; intro hIsFn; refine o_callp hIsFn (h1 ..) ?_)) | ((first | (apply awp_cond; rfl)); all_goals (intro hc; have hp := hc; first | (simp at hp; done) | ((try simp at hp); first | (exfalso; omega) | skip))) | (apply awp_cond_any; rfl))
    all_goals try (exfalso; omega)
    (refine f_pure (rs := [.tmp 6, .tmp 7]) ?_; (repeat' (first | exact rzl_nil | apply rzl_cons | exact rz_pure rfl | exact rz_ex | exact z_os | apply rz_agg | apply rz_tup | apply rz_clo | apply rz_int | apply rz_bool | apply rz_str | refine z_eq ?_ | apply rz_sl)); all_goals trace_state)
def noEnt : Ent := ⟨[], false, [], 0⟩
def findE (t : List Ent) (p : Str) : Int := if ¬ treeErr t = 0 then treeErr t else if ¬ pathErr p = 0 then pathErr p else if hitE t p = true then 0 else 5
def findX (t : List Ent) (p : Str) : Ent := if findE t p = 0 then (match t.find? (atP p) with | some x => x | none => noEnt) else noEnt
theorem a_find (t : List Ent) (p : Str) (hb : EBig t) (hp1 : p.length ≤ 140737488355328) : AFn C.P 33 [entAV t, .v (str p)] (.tup [.agg (findX t p).row, .v (.int .i64 (findE t p))]) := by
  have h1 := a_checkT t hb
  have h2 := a_pcheck p hp1
  have hE : findE t p = if ¬ treeErr t = 0 then treeErr t else if ¬ pathErr p = 0 then pathErr p else if hitE t p = true then 0 else 5 := rfl
  have hX : findX t p = if findE t p = 0 then (match t.find? (atP p) with | some x => x | none => noEnt) else noEnt := rfl
  have hll := hb.len
  by_cases hte : treeErr t = 0
  · have hs := (RightE.of hte).rise
    have hat := a_at t p hll hs
    rw [hte] at h1
    rw [if_neg (by simp [hte])] at hE
    by_cases hpe : pathErr p = 0
    · rw [hpe] at h2
      rw [if_neg (by simp [hpe])] at hE
      cases hh : hitE t p with
      | true =>
        obtain ⟨hk, _, hfi, _⟩ := hitE_at hs hh
        rw [hh] at hat hE
        have hr := getRow (f := Ent.row) hk
        rw [if_pos rfl] at hE
        rw [hE, hfi, if_pos rfl] at hX
        have hX : findX t p = t[posE t p] := hX
        rw [hE, hX]
        generalize posE t p = k at *
        refine acall_intro Tryd.func33 rfl _ Tryd.ntmps33 (Nat.le_of_ble_eq_true rfl) _ Tryd.results33 0 rfl rfl ?_
        repeat' (first | refine walk ?_ | (first | (refine o_fzl ?_) | (apply to_call Tryd.func41 rfl rfl; intro hIsFn; refine o_callp hIsFn (h1 ..) ?_) | (apply to_call Tryd.func52 rfl rfl; intro hIsFn; refine o_callf hIsFn (h2 ..) ?_; skip) | (apply to_call Tryd.func53 rfl rfl; intro hIsFn; refine o_callp hIsFn (hat ..) ?_)) | ((first | (apply awp_cond; rfl)); all_goals (intro hc; have hp := hc; first | (simp at hp; done) | ((try simp at hp); first | (exfalso; omega) | skip))) | (apply awp_cond_any; rfl))
        all_goals try (exfalso; omega)
        all_goals ((refine f_pure (rs := [.cell 4 48, .tmp 5]) ?_; (repeat' (first | exact rzl_nil | apply rzl_cons | exact rz_pure rfl | exact rz_ex | exact z_os | apply rz_agg | apply rz_tup | apply rz_clo | apply rz_int | apply rz_bool | apply rz_str | refine z_eq ?_ | apply rz_sl)); all_goals trace_state))
      | false =>
        rw [hh] at hat hE
        have hE : findE t p = 5 := hE
        rw [hE, if_neg (by decide)] at hX
        rw [hE, hX]
        generalize posE t p = k at *
        refine acall_intro Tryd.func33 rfl _ Tryd.ntmps33 (Nat.le_of_ble_eq_true rfl) _ Tryd.results33 0 rfl rfl ?_
        repeat' (first | refine walk ?_ | (first | (refine o_fzl ?_) | (apply to_call Tryd.func41 rfl rfl; intro hIsFn; refine o_callp hIsFn (h1 ..) ?_) | (apply to_call Tryd.func52 rfl rfl; intro hIsFn; refine o_callf hIsFn (h2 ..) ?_; skip) | (apply to_call Tryd.func53 rfl rfl; intro hIsFn; refine o_callp hIsFn (hat ..) ?_)) | ((first | (apply awp_cond; rfl)); all_goals (intro hc; have hp := hc; first | (simp at hp; done) | ((try simp at hp); first | (exfalso; omega) | skip))) | (apply awp_cond_any; rfl))
        all_goals try (exfalso; omega)
        all_goals ((refine f_pure (rs := [.cell 4 48, .tmp 5]) ?_; (repeat' (first | exact rzl_nil | apply rzl_cons | exact rz_pure rfl | exact rz_ex | exact z_os | apply rz_agg | apply rz_tup | apply rz_clo | apply rz_int | apply rz_bool | apply rz_str | refine z_eq ?_ | apply rz_sl)); all_goals trace_state))
    · rw [if_pos hpe] at hE
      rw [hE, if_neg hpe] at hX
      rw [hE, hX]
      generalize pathErr p = E at *
      refine acall_intro Tryd.func33 rfl _ Tryd.ntmps33 (Nat.le_of_ble_eq_true rfl) _ Tryd.results33 0 rfl rfl ?_
      repeat' (first | refine walk ?_ | (first | (refine o_fzl ?_) | (apply to_call Tryd.func41 rfl rfl; intro hIsFn; refine o_callp hIsFn (h1 ..) ?_) | (apply to_call Tryd.func52 rfl rfl; intro hIsFn; refine o_callf hIsFn (h2 ..) ?_; skip)) | ((first | (apply awp_cond; rfl)); all_goals (intro hc; have hp := hc; first | (simp at hp; done) | ((try simp at hp); first | (exfalso; omega) | skip))) | (apply awp_cond_any; rfl))
      all_goals try (exfalso; omega)
      all_goals ((refine f_pure (rs := [.cell 4 48, .tmp 5]) ?_; (repeat' (first | exact rzl_nil | apply rzl_cons | exact rz_pure rfl | exact rz_ex | exact z_os | apply rz_agg | apply rz_tup | apply rz_clo | apply rz_int | apply rz_bool | apply rz_str | refine z_eq ?_ | apply rz_sl)); all_goals trace_state))
  · rw [if_pos hte] at hE
    rw [hE, if_neg hte] at hX
    rw [hE, hX]
    generalize treeErr t = E at *
    refine acall_intro Tryd.func33 rfl _ Tryd.ntmps33 (Nat.le_of_ble_eq_true rfl) _ Tryd.results33 0 rfl rfl ?_
    repeat' (first | refine walk ?_ | (first | (refine o_fzl ?_) | (apply to_call Tryd.func41 rfl rfl; intro hIsFn; refine o_callp hIsFn (h1 ..) ?_)) | ((first | (apply awp_cond; rfl)); all_goals (intro hc; have hp := hc; first | (simp at hp; done) | ((try simp at hp); first | (exfalso; omega) | skip))) | (apply awp_cond_any; rfl))
    all_goals try (exfalso; omega)
    all_goals ((refine f_pure (rs := [.cell 4 48, .tmp 5]) ?_; (repeat' (first | exact rzl_nil | apply rzl_cons | exact rz_pure rfl | exact rz_ex | exact z_os | apply rz_agg | apply rz_tup | apply rz_clo | apply rz_int | apply rz_bool | apply rz_str | refine z_eq ?_ | apply rz_sl)); all_goals trace_state))
end Go.Proofs.YtpeenheeakhlgaaDoor

/- Changes in the abstract layer, 9: All. -/
set_option linter.unusedSimpArgs false
set_option linter.unnecessarySimpa false
set_option linter.unusedVariables false
set_option maxHeartbeats 1000000
namespace Go.Proofs.YtpeenheeakhlgaaDoor
open Go.Ab Go.RowKit
set_option maxRecDepth 10000
attribute [local irreducible] Awp Ops OpsX Wanted Red ExOk Go.Ab.Fin ACall Rz RzL RzRows Enters ResOk RenV RenVL ArgV ArgVL

/-- All changes, one after the other: the tree, how many, the error. -/
def allR (v : Int) : List Ent → List Chg → Nat → List Ent × Nat × Int
  | t, [], n => (t, n, 0)
  | t, c :: l, n => if rawE t c v = 0 then allR v (doneL t c v) l (n + 1) else ([], n, rawE t c v)
def allT (v : Int) (t : List Ent) (l : List Chg) : List Ent × Nat × Int :=
  if ¬ treeErr t = 0 then ([], 0, treeErr t) else if 20 < l.length then ([], 0, 2) else if isVer v = false ∧ 0 < l.length then ([], 0, 3) else allR v t l 0
def resAll (r : List Ent × Nat × Int) : AV := .tup [entAV r.1, .v (.int .i64 (r.2.1 : Nat)), .v (.int .i64 r.2.2)]
theorem allR_drop {v : Int} {t : List Ent} {l : List Chg} {i : Nat} (h : i < l.length) : allR v t (l.drop i) i = if rawE t l[i] v = 0 then allR v (doneL t l[i] v) (l.drop (i + 1)) (i + 1) else ([], i, rawE t l[i] v) := by
  rw [List.drop_eq_getElem_cons h]; rfl
theorem a_all (t : List Ent) (l : List Chg) (v : Int) (hb : EBig t) (hcb : CBig l) : AFn C.P 27 [entAV t, chgAV l, .v (.int .i64 v)] (resAll (allT v t l)) := by
  have h1 := a_checkT t hb
  have h2 := a_isVerT v
  have hll := hcb.len
  have hml : (l.map Chg.row).length = l.length := List.length_map ..
  have hE : allT v t l = if ¬ treeErr t = 0 then ([], 0, treeErr t) else if 20 < l.length then ([], 0, 2) else if isVer v = false ∧ 0 < l.length then ([], 0, 3) else allR v t l 0 := rfl
  by_cases hte : treeErr t = 0
  · rw [if_neg (by simp [hte])] at hE
    have hR := RightE.of hte
    rw [hte] at h1
    have h60 := (treeErr_zero hte).1
    have h3 := a_cloneE t (by omega)
    by_cases h20 : 20 < l.length
    · rw [if_pos h20] at hE
      rw [hE]
      refine acall_intro Tryd.func27 rfl _ Tryd.ntmps27 (Nat.le_of_ble_eq_true rfl) _ Tryd.results27 0 rfl rfl ?_
      repeat' (first | refine walk ?_ | (first | (refine o_fzl ?_) | (apply to_call Tryd.func41 rfl rfl; intro hIsFn; refine o_callp hIsFn (h1 ..) ?_)) | ((first | (apply ops_split_t; rfl; rfl; exact nle rfl) | (apply ops_split_f; rfl; rfl; exact nle rfl) | (apply awp_cond; rfl)); all_goals (intro hc; have hp := hc; first | (simp at hp; done) | ((try simp at hp); first | (exfalso; omega) | skip))) | (apply awp_cond_any; rfl))
      all_goals try (exfalso; omega)
      all_goals try (exfalso; first | omega | (simp_all; done) | (simp_all; omega))
      all_goals ((refine f_pure (rs := [.tmp 6, .tmp 7, .tmp 8]) ?_; (repeat' (first | exact rzl_nil | apply rzl_cons | exact rz_pure rfl | exact rz_ex | exact z_os | apply rz_agg | apply rz_tup | apply rz_clo | apply rz_int | apply rz_bool | apply rz_str | refine z_eq ?_ | apply rz_sl)); all_goals trace_state))
    · rw [if_neg h20] at hE
      by_cases hv : isVer v = false ∧ 0 < l.length
      · rw [if_pos hv] at hE
        rw [hE]
        rw [hv.1] at h2
        refine acall_intro Tryd.func27 rfl _ Tryd.ntmps27 (Nat.le_of_ble_eq_true rfl) _ Tryd.results27 0 rfl rfl ?_
        repeat' (first | refine walk ?_ | (first | (refine o_fzl ?_) | (apply to_call Tryd.func41 rfl rfl; intro hIsFn; refine o_callp hIsFn (h1 ..) ?_) | (apply to_call Tryd.func42 rfl rfl; intro hIsFn; refine o_callf hIsFn (h2 ..) ?_; skip)) | ((first | (apply ops_split_t; rfl; rfl; exact nle rfl) | (apply ops_split_f; rfl; rfl; exact nle rfl) | (apply awp_cond; rfl)); all_goals (intro hc; have hp := hc; first | (simp at hp; done) | ((try simp at hp); first | (exfalso; omega) | skip))) | (apply awp_cond_any; rfl))
        all_goals try (exfalso; omega)
        all_goals try (exfalso; first | omega | (simp_all; done) | (simp_all; omega))
        all_goals ((refine f_pure (rs := [.tmp 6, .tmp 7, .tmp 8]) ?_; (repeat' (first | exact rzl_nil | apply rzl_cons | exact rz_pure rfl | exact rz_ex | exact z_os | apply rz_agg | apply rz_tup | apply rz_clo | apply rz_int | apply rz_bool | apply rz_str | refine z_eq ?_ | apply rz_sl)); all_goals trace_state))
      · rw [if_neg hv] at hE
        generalize hV : isVer v = V at *
        have hv2 : V = false → l.length = 0 := fun h => by
          rcases Nat.eq_zero_or_pos l.length with h4 | h4
          · exact h4
          · exact absurd ⟨h, h4⟩ hv
        clear hV
        generalize hA : allT v t l = A at *
        clear hA
        refine acall_intro Tryd.func27 rfl _ Tryd.ntmps27 (Nat.le_of_ble_eq_true rfl) _ Tryd.results27 0 rfl rfl ?_
        repeat' (first | refine walk ?_ | (first | (refine o_fzl ?_) | (apply to_call Tryd.func41 rfl rfl; intro hIsFn; refine o_callp hIsFn (h1 ..) ?_) | (apply to_call Tryd.func42 rfl rfl; intro hIsFn; refine o_callf hIsFn (h2 ..) ?_; skip) | (apply to_call Tryd.func51 rfl rfl; intro hIsFn; refine o_callo ([]) hIsFn (h3 ..) ?_)) | ((first | (apply ops_split_t; rfl; rfl; exact nle rfl) | (apply ops_split_f; rfl; rfl; exact nle rfl) | (apply awp_cond; rfl)); all_goals (intro hc; have hp := hc; first | (simp at hp; done) | ((try simp at hp); first | (exfalso; omega) | skip))) | (apply awp_cond_any; rfl))
        all_goals try (exfalso; omega)
        all_goals try (exfalso; first | omega | (simp_all; done) | (simp_all; omega))
        all_goals (
          refine Awp.red (red_freeze 0 rfl (by intro row hrow; obtain ⟨x, _, rfl⟩ := List.mem_map.1 hrow; rfl)) ?_
          refine Awp.red (red_fs 0 0 rfl rfl (by simp)) ?_
          (refine Awp.red (red_pure (ts := [(0, entAV t), (1, chgAV l), (2, .v (.int .i64 v)), (33, chgAV l), (34, .v (.int .i64 l.length)), (35, .v (.int .i64 ((0 : Nat) : Int)))]) ?_) ?_; ((repeat (first | exact tsok_nil | refine p_pure ?_ | refine p_eq ?_ ?_))))
          all_goals try (rw [List.length_map]; done)
          all_goals try (rw [List.drop_zero, List.take_of_length_le (by simp)]; rfl)
          refine awp_loop (fun n σ => ∃ (i : Nat) (u : List Ent), i ≤ l.length ∧ n = l.length - i ∧ (A = allR v u (l.drop i) i ∧ RightE u) ∧ σ = ⟨[(0, entAV u), (1, chgAV l), (2, .v (.int .i64 v)), (33, chgAV l), (34, .v (.int .i64 l.length)), (35, .v (.int .i64 (i : Int)))], [], C.nh⟩) l.length ⟨0, t, Nat.zero_le _, rfl, ⟨by rw [hE]; rfl, hR⟩, rfl⟩ ?_
          rintro n σ ⟨i, u, hi, rfl, ⟨hA, hRu⟩, rfl⟩
          by_cases hlt : i < l.length
          · have hr := getRow (f := Chg.row) hlt
            have hraw := a_rawT u l[i] v hRu (hcb.each _ (List.getElem_mem _))
            rw [allR_drop hlt] at hA
            have hL : rawL u l[i] v = if rawE u l[i] v = 0 then doneL u l[i] v else [] := rfl
            by_cases hz : rawE u l[i] v = 0
            · have hRn := hRu.done hz
              rw [if_pos hz] at hA hL
              rw [hL, hz] at hraw
              generalize doneL u l[i] v = U at *
              clear hE hL hz
              repeat' (first | refine walk ?_ | (first | (apply to_call Tryd.func43 rfl rfl; intro hIsFn; refine o_callp hIsFn (hraw ..) ?_)) | ((first | (apply ops_split_t; rfl; rfl; exact nle rfl) | (apply ops_split_f; rfl; rfl; exact nle rfl) | (apply awp_cond; rfl)); all_goals (intro hc; have hp := hc; first | (simp at hp; done) | ((try simp at hp); first | (exfalso; omega) | skip))) | (apply awp_cond_any; rfl))
              all_goals try (exfalso; omega)
              refine ⟨l.length - (i + 1), _, by omega, red_pure (ts := [(0, entAV U), (1, chgAV l), (2, .v (.int .i64 v)), (33, chgAV l), (34, .v (.int .i64 l.length)), (35, .v (.int .i64 ((i + 1 : Nat) : Int)))]) ?_, i + 1, U, by omega, rfl, ⟨hA, hRn⟩, rfl⟩
              (repeat (first | exact tsok_nil | refine p_pure ?_ | refine p_eq ?_ ?_))
            · rw [if_neg hz] at hA hL
              rw [hL] at hraw
              rw [hA]
              generalize rawE u l[i] v = E at *
              clear hE hL hA
              repeat' (first | refine walk ?_ | (first | (apply to_call Tryd.func43 rfl rfl; intro hIsFn; refine o_callp hIsFn (hraw ..) ?_)) | ((first | (apply ops_split_t; rfl; rfl; exact nle rfl) | (apply ops_split_f; rfl; rfl; exact nle rfl) | (apply awp_cond; rfl)); all_goals (intro hc; have hp := hc; first | (simp at hp; done) | ((try simp at hp); first | (exfalso; omega) | skip))) | (apply awp_cond_any; rfl))
              all_goals try (exfalso; omega)
              (refine f_pure (rs := [.tmp 6, .tmp 7, .tmp 8]) ?_; (repeat' (first | exact rzl_nil | apply rzl_cons | exact rz_pure rfl | exact rz_ex | exact z_os | apply rz_agg | apply rz_tup | apply rz_clo | apply rz_int | apply rz_bool | apply rz_str | refine z_eq ?_ | apply rz_sl)); all_goals trace_state)
          obtain rfl : i = l.length := by omega
          rw [List.drop_length] at hA
          have hA : A = (u, l.length, 0) := hA
          rw [hA]
          clear hE hA
          repeat' (first | refine walk ?_ | fail | ((first | (apply ops_split_t; rfl; rfl; exact nle rfl) | (apply ops_split_f; rfl; rfl; exact nle rfl) | (apply awp_cond; rfl)); all_goals (intro hc; have hp := hc; first | (simp at hp; done) | ((try simp at hp); first | (exfalso; omega) | skip))) | (apply awp_cond_any; rfl))
          all_goals try (exfalso; omega)
          (refine f_pure (rs := [.tmp 6, .tmp 7, .tmp 8]) ?_; (repeat' (first | exact rzl_nil | apply rzl_cons | exact rz_pure rfl | exact rz_ex | exact z_os | apply rz_agg | apply rz_tup | apply rz_clo | apply rz_int | apply rz_bool | apply rz_str | refine z_eq ?_ | apply rz_sl)); all_goals (rw [List.length_map])))
  · rw [if_pos hte] at hE
    rw [hE]
    generalize treeErr t = E at *
    refine acall_intro Tryd.func27 rfl _ Tryd.ntmps27 (Nat.le_of_ble_eq_true rfl) _ Tryd.results27 0 rfl rfl ?_
    repeat' (first | refine walk ?_ | (first | (refine o_fzl ?_) | (apply to_call Tryd.func41 rfl rfl; intro hIsFn; refine o_callp hIsFn (h1 ..) ?_)) | ((first | (apply ops_split_t; rfl; rfl; exact nle rfl) | (apply ops_split_f; rfl; rfl; exact nle rfl) | (apply awp_cond; rfl)); all_goals (intro hc; have hp := hc; first | (simp at hp; done) | ((try simp at hp); first | (exfalso; omega) | skip))) | (apply awp_cond_any; rfl))
    all_goals try (exfalso; omega)
    all_goals ((refine f_pure (rs := [.tmp 6, .tmp 7, .tmp 8]) ?_; (repeat' (first | exact rzl_nil | apply rzl_cons | exact rz_pure rfl | exact rz_ex | exact z_os | apply rz_agg | apply rz_tup | apply rz_clo | apply rz_int | apply rz_bool | apply rz_str | refine z_eq ?_ | apply rz_sl)); all_goals trace_state))
end Go.Proofs.YtpeenheeakhlgaaDoor
