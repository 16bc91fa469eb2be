/- Paths, plain, 2: what PathApart and PathBack ask. -/
import Derived.Test.YtieflafgcajhbaaDoorPa7
set_option linter.unusedSimpArgs false
set_option linter.unnecessarySimpa false
namespace Go.Proofs.YtieflafgcajhbaaDoor

theorem isName_iff {s : Str} : isName s = true ↔ s ≠ [] ∧ s.length ≤ 20 ∧ s ≠ [46] ∧ s ≠ [46, 46] ∧ s.head? ≠ some 32 ∧ s.getLast? ≠ some 32 ∧ ∀ c, c ∈ s → okB c = true := by
  simp [isName, and_assoc]
theorem isName_free {s : Str} (h : isName s = true) : (47 : UInt8) ∉ s := fun hm => by
  have := (isName_iff.1 h).2.2.2.2.2.2 47 hm
  exact absurd this (by decide)
theorem isName_nil : isName [] = false := by simp [isName]
theorem pathErr_zero {p : Str} : pathErr p = 0 ↔ (∀ n, n ∈ namesOf p → isName n = true) ∧ tooGreat p = false := by
  unfold pathErr
  constructor
  · intro h
    split at h
    · rename_i h1
      split at h
      · exact absurd h (by decide)
      · rename_i h2
        exact ⟨List.all_eq_true.1 h1, by simpa using h2⟩
    · exact absurd h (by decide)
  · rintro ⟨h1, h2⟩
    rw [if_pos (List.all_eq_true.2 h1), h2]; rfl
theorem parent_none {p : Str} (h : (47 : UInt8) ∉ p) : parentOf p = [] ∧ lastOf p = p := by
  rw [parentOf, lastOf, lastIdx_none h]
  exact ⟨rfl, rfl⟩
theorem parent_at {a b : Str} (h : (47 : UInt8) ∉ b) : parentOf (a ++ 47 :: b) = a ∧ lastOf (a ++ 47 :: b) = b := by
  rw [parentOf, lastOf, lastIdx_at h]
  refine ⟨by rw [show (a.length : Int).toNat = a.length from by omega, List.take_left], ?_⟩
  rw [show ((a.length : Int) + 1).toNat = a.length + 1 from by omega, List.drop_append, List.drop_of_length_le (by omega), List.nil_append, show a.length + 1 - a.length = 1 from by omega]; rfl
theorem parent_join {a b : Str} (h : (47 : UInt8) ∉ b) : parentOf (joinOf a b) = a ∧ namesOf (joinOf a b) = (if a = [] then [b] else namesOf a ++ [b]) := by
  unfold joinOf
  split
  · rename_i e; subst e
    exact ⟨(parent_none h).1, namesOf_one h⟩
  · refine ⟨(parent_at h).1, ?_⟩
    rw [namesOf_app, namesOf_one h]
theorem tooGreat_mono {a b : Str} (h : tooGreat b = false) (h1 : (namesOf a).length ≤ (namesOf b).length) (h2 : a.length ≤ b.length) : tooGreat a = false := by
  simp [tooGreat] at h ⊢; omega
/-- A right path: its parent is nothing or right; its name is a name; both joined are it. -/
theorem back_parts {p : Str} (h : pathErr p = 0) : (parentOf p = [] ∨ pathErr (parentOf p) = 0) ∧ isName (lastOf p) = true ∧ joinOf (parentOf p) (lastOf p) = p := by
  obtain ⟨h1, h2⟩ := pathErr_zero.1 h
  rcases split_at (c := 47) p with h3 | ⟨a, b, rfl, hb⟩
  · obtain ⟨e1, e2⟩ := parent_none h3
    rw [e1, e2]
    exact ⟨.inl rfl, h1 p (by rw [namesOf_one h3]; simp), rfl⟩
  · obtain ⟨e1, e2⟩ := parent_at (a := a) hb
    rw [e1, e2]
    have hn : namesOf (a ++ 47 :: b) = namesOf a ++ [b] := by rw [namesOf_app, namesOf_one hb]
    have ha : a ≠ [] := fun e => by
      have := h1 [] (by rw [hn, e]; simp [namesOf])
      rw [isName_nil] at this; exact absurd this (by decide)
    refine ⟨.inr (pathErr_zero.2 ⟨fun n hm => h1 n (by rw [hn]; simp [hm]), tooGreat_mono h2 (by rw [hn]; simp) (by simp)⟩), h1 b (by rw [hn]; simp), ?_⟩
    simp [joinOf, ha]
theorem back_join {p : Str} (h : pathErr p = 0) : joinErr (parentOf p) (lastOf p) = 0 ∧ joinOf (parentOf p) (lastOf p) = p := by
  obtain ⟨h1, h2, h3⟩ := back_parts h
  refine ⟨?_, h3⟩
  unfold joinErr
  rw [if_neg (by rintro ⟨a, b⟩; rcases h1 with h1 | h1 <;> contradiction), if_pos h2, h3, (pathErr_zero.1 h).2]; rfl
theorem pathsErr_zero {p : Str} {l : List Str} : pathsErr (p :: l) = 0 ↔ pathErr p = 0 ∧ pathsErr l = 0 := by
  show (if pathErr p = 0 then pathsErr l else pathErr p) = 0 ↔ _
  split
  · rename_i h; simp [h]
  · rename_i h; simp [h]
theorem back_moved {p f t : Str} (h : movedErr p f t = 0) :
    movedErr (t ++ p.drop f.length) t f = 0 ∧ pathsErr [t ++ p.drop f.length, t] = 0 ∧ inB (t ++ p.drop f.length) t = true ∧ f ++ (t ++ p.drop f.length).drop t.length = p := by
  unfold movedErr at h
  split at h
  case isFalse h' => exact absurd h h'
  rename_i h0
  split at h
  case isFalse => exact absurd h (by decide)
  rename_i hi
  split at h
  case isTrue => exact absurd h (by decide)
  rename_i hg
  obtain ⟨hp, h1⟩ := pathsErr_zero.1 h0
  obtain ⟨hf, h2⟩ := pathsErr_zero.1 h1
  obtain ⟨ht, -⟩ := pathsErr_zero.1 h2
  obtain ⟨np, gp⟩ := pathErr_zero.1 hp
  obtain ⟨nt, -⟩ := pathErr_zero.1 ht
  have hr := moved_ref (t := t) hi
  have hall : ∀ n, n ∈ namesOf t ++ (namesOf p).drop (namesOf f).length → isName n = true := fun n hm => by
    rcases List.mem_append.1 hm with hm | hm
    · exact nt n hm
    · exact np n (List.mem_of_mem_drop hm)
  have hnm : namesOf (t ++ p.drop f.length) = namesOf t ++ (namesOf p).drop (namesOf f).length := by
    rw [← hr]
    exact names_path (by simp [namesOf_ne]) fun n hm => isName_free (hall n hm)
  have hm : pathErr (t ++ p.drop f.length) = 0 := pathErr_zero.2 ⟨by rw [hnm]; exact hall, by simpa using hg⟩
  have hb : inB (t ++ p.drop f.length) t = true := by
    rw [inB_ref, hnm, List.isPrefixOf_iff_prefix]; exact List.prefix_append ..
  have hpre : f ++ p.drop f.length = p := by
    simp only [inB, Bool.or_eq_true, decide_eq_true_eq, List.isPrefixOf_iff_prefix] at hi
    rcases hi with rfl | ⟨s, rfl⟩
    · simp
    · rw [List.append_assoc, List.drop_left]
  have hback : f ++ (t ++ p.drop f.length).drop t.length = p := by rw [List.drop_left]; exact hpre
  refine ⟨?_, ?_, hb, hback⟩
  · unfold movedErr
    rw [if_pos (pathsErr_zero.2 ⟨hm, pathsErr_zero.2 ⟨ht, pathsErr_zero.2 ⟨hf, rfl⟩⟩⟩), if_pos hb, hback, gp]; rfl
  · exact pathsErr_zero.2 ⟨hm, pathsErr_zero.2 ⟨ht, rfl⟩⟩

theorem stem_end (s : Str) : stemOf s ++ endOf s = s := by
  unfold stemOf endOf
  split <;> simp
theorem trimR_pre (s : Str) : trimR s <+: s := by
  have h := List.dropWhile_suffix (l := s.reverse) (· == 32)
  rw [← List.reverse_prefix] at h
  rw [List.reverse_reverse] at h
  exact h
theorem cut_pre (s : Str) (n : Int) : cutOf s n <+: s := by
  have h : stemOf s <+: s := ⟨endOf s, stem_end s⟩
  unfold cutOf
  split
  · exact (trimR_pre _).trans ((List.take_prefix _ _).trans h)
  · exact h
theorem dig_ok : ∀ k, k < 10 → okB (UInt8.ofNat (48 + k)) = true := by decide
theorem dec2_ok {n : Int} (h0 : 1 ≤ n) (h : n ≤ 99) : ∀ c, c ∈ dec2 n → okB c = true := by
  intro c hc
  unfold dec2 at hc
  split at hc
  · rw [List.mem_singleton] at hc; subst hc
    exact dig_ok _ (by omega)
  · simp only [List.mem_cons, List.not_mem_nil, or_false] at hc
    rcases hc with rfl | rfl
    · exact dig_ok _ (by omega)
    · exact dig_ok _ (by omega)
theorem cut_room {s : Str} {n : Int} (h : cutOf s n ≠ []) : ((cutOf s n).length : Int) ≤ roomOf s n := by
  unfold cutOf at h ⊢
  split
  · rename_i hr
    rw [if_pos hr] at h
    have h1 := trimR_len ((stemOf s).take (roomOf s n).toNat)
    rw [List.length_take] at h1
    have h2 : 0 < (trimR ((stemOf s).take (roomOf s n).toNat)).length := List.length_pos_iff.2 h
    omega
  · rename_i hr; omega
theorem aside_name {s : Str} {n : Int} (hs : isName s = true) (h0 : 1 ≤ n) (h1 : n ≤ 99) (hc : cutOf s n ≠ []) : isName (cutOf s n ++ markOf n ++ endOf s) = true := by
  obtain ⟨-, -, -, -, a5, a6, a7⟩ := isName_iff.1 hs
  have hr := cut_room hc
  have hm : 0 < (dec2 n).length := by unfold dec2; split <;> simp
  have hml : (markOf n).length = (dec2 n).length + 3 := by simp [markOf]
  have hpos : 0 < (cutOf s n).length := List.length_pos_iff.2 hc
  have hlen : (cutOf s n ++ markOf n ++ endOf s).length = (cutOf s n).length + (markOf n).length + (endOf s).length := by simp; omega
  unfold roomOf at hr
  obtain ⟨t, ht⟩ := cut_pre s n
  have hse := stem_end s
  refine isName_iff.2 ⟨fun e => ?_, by omega, fun e => ?_, fun e => ?_, ?_, ?_, ?_⟩
  · rw [e] at hlen; simp at hlen; omega
  · rw [e] at hlen; simp at hlen; omega
  · rw [e] at hlen; simp at hlen; omega
  · cases h : cutOf s n with
    | nil => exact absurd h hc
    | cons c l =>
      rw [h] at ht
      rw [← ht] at a5
      simpa using a5
  · rw [List.getLast?_append]
    cases h : endOf s with
    | nil => rw [show cutOf s n ++ markOf n = (cutOf s n ++ ([32, 40] ++ dec2 n)) ++ [41] from by simp [markOf], List.getLast?_nil, Option.none_or, List.getLast?_append, List.getLast?_singleton, Option.some_or]; decide
    | cons c l =>
      rw [← hse, h, List.getLast?_append] at a6
      have hx : ∃ y, (c :: l).getLast? = some y := ⟨_, List.getLast?_eq_some_getLast (by simp)⟩
      obtain ⟨y, hy⟩ := hx
      rw [hy] at a6 ⊢
      simpa using a6
  · intro c hcm
    rcases List.mem_append.1 hcm with hcm | hcm
    · rcases List.mem_append.1 hcm with hcm | hcm
      · exact a7 c (by rw [← ht]; simp [hcm])
      · unfold markOf at hcm
        rcases List.mem_append.1 hcm with hcm | hcm
        · rcases List.mem_append.1 hcm with hcm | hcm
          · simp at hcm; rcases hcm with rfl | rfl <;> decide
          · exact dec2_ok h0 h1 c hcm
        · simp at hcm; subst hcm; decide
    · exact a7 c (by rw [← hse]; simp [hcm])
theorem aside_right {p : Str} {n : Int} (h : asideErr p n = 0) : pathErr p = 0 ∧ 1 ≤ n ∧ n ≤ 99 ∧ cutOf (lastOf p) n ≠ [] ∧ tooGreat (asideQ p n) = false := by
  unfold asideErr at h
  split at h
  case isFalse h' => exact absurd h h'
  rename_i hp
  split at h
  case isTrue => exact absurd h (by decide)
  rename_i hn
  unfold asideE at h
  split at h
  case isTrue => exact absurd h (by decide)
  rename_i hc
  split at h
  case isTrue => exact absurd h (by decide)
  rename_i hg
  exact ⟨hp, by omega, by omega, hc, by simpa using hg⟩
theorem back_aside {p : Str} {n : Int} (h : asideErr p n = 0) : pathErr (asideQ p n) = 0 ∧ parentOf (asideQ p n) = parentOf p := by
  obtain ⟨hp, h0, h1, hc, hg⟩ := aside_right h
  obtain ⟨hpa, hnm, -⟩ := back_parts hp
  have hx := aside_name hnm h0 h1 hc
  obtain ⟨e1, e2⟩ := parent_join (a := parentOf p) (isName_free hx)
  refine ⟨pathErr_zero.2 ⟨fun n hm => ?_, hg⟩, e1⟩
  unfold asideQ at hm
  rw [e2] at hm
  split at hm
  · rw [List.mem_singleton] at hm; subst hm; exact hx
  · rename_i hne
    rcases hpa with hpa | hpa
    · exact absurd hpa hne
    · rcases List.mem_append.1 hm with hm | hm
      · exact (pathErr_zero.1 hpa).1 n hm
      · rw [List.mem_singleton] at hm; subst hm; exact hx
theorem joinOf_inj {a b c : Str} (h : joinOf a b = joinOf a c) : b = c := by
  unfold joinOf at h
  split at h
  · exact h
  · have := List.append_cancel_left h
    simpa using this
theorem dig_inj : ∀ j k, j < 10 → k < 10 → UInt8.ofNat (48 + j) = UInt8.ofNat (48 + k) → j = k := by
  have : ∀ j : Fin 10, ∀ k : Fin 10, UInt8.ofNat (48 + j.val) = UInt8.ofNat (48 + k.val) → j = k := by decide
  intro j k hj hk h
  have := this ⟨j, hj⟩ ⟨k, hk⟩ h
  simpa using this
theorem dig_ne : ∀ j, j < 10 → UInt8.ofNat (48 + j) ≠ 40 := by decide
theorem mark_inj {a b : Str} {n m : Int} (hn0 : 1 ≤ n) (hn1 : n ≤ 99) (hm0 : 1 ≤ m) (hm1 : m ≤ 99) (h : a ++ markOf n = b ++ markOf m) : n = m := by
  have h1 : (a ++ markOf n).reverse = (b ++ markOf m).reverse := by rw [h]
  unfold markOf dec2 at h1
  split at h1 <;> split at h1 <;> simp only [List.reverse_append, List.reverse_cons, List.reverse_nil, List.nil_append, List.singleton_append, List.cons_append, List.append_assoc, List.cons.injEq, true_and] at h1
  · have := dig_inj _ _ (by omega) (by omega) h1.1
    omega
  · exact absurd h1.2.1.symm (dig_ne _ (by omega))
  · exact absurd h1.2.1 (dig_ne _ (by omega))
  · have e1 := dig_inj _ _ (by omega) (by omega) h1.1
    have e2 := dig_inj _ _ (by omega) (by omega) h1.2.1
    omega
theorem apart {p : Str} {n m : Int} (hn : asideErr p n = 0) (hm : asideErr p m = 0) : asideQ p n = asideQ p m ↔ n = m := by
  obtain ⟨-, a0, a1, -, -⟩ := aside_right hn
  obtain ⟨-, b0, b1, -, -⟩ := aside_right hm
  constructor
  · intro h
    have h1 := joinOf_inj h
    have h2 := List.append_cancel_right h1
    exact mark_inj a0 a1 b0 b1 h2
  · rintro rfl; rfl
end Go.Proofs.YtieflafgcajhbaaDoor
