import Derived.Test.YtkkfilkmkdnboaaDoorMz23
/- Merges, plain, 2: what only one side changed; what comes passes the check; the other way round. -/
set_option linter.unusedSimpArgs false
set_option linter.unnecessarySimpa false
set_option linter.unusedVariables false
namespace Go.Proofs.YtkkfilkmkdnboaaDoor
open Go.Op

/-! ### What a path is within -/
theorem parsOf_names {p : Str} {k : Nat} (hk : k + 1 < (namesOf p).length) : namesOf (pathOf ((namesOf p).take (k + 1))) = (namesOf p).take (k + 1) :=
  names_path (fun e => by have h2 := congrArg List.length e; rw [List.length_take, List.length_nil] at h2; omega) fun n hn => namesOf_free p n (List.mem_of_mem_take hn)
theorem mem_parsOf {p a : Str} : a ∈ parsOf p ↔ inB p a = true ∧ ¬ a = p := by
  unfold parsOf
  rw [List.mem_map]
  constructor
  · rintro ⟨k, hk, rfl⟩
    have hk := List.mem_range.1 hk
    have hn := parsOf_names (p := p) (k := k) (by omega)
    refine ⟨by rw [inB_names, hn]; exact List.take_prefix _ _, fun e => ?_⟩
    rw [e] at hn
    have := congrArg List.length hn
    rw [List.length_take] at this
    omega
  · rintro ⟨h1, h2⟩
    have h3 := inB_names.1 h1
    obtain ⟨s, hs⟩ := h3
    have hsn : s ≠ [] := fun e => h2 (by rw [e, List.append_nil] at hs; rw [← path_names a, hs, path_names])
    have hl := congrArg List.length hs
    rw [List.length_append] at hl
    have hp := List.length_pos_iff.2 hsn
    have ha := List.length_pos_iff.2 (namesOf_ne a)
    refine ⟨(namesOf a).length - 1, List.mem_range.2 (by omega), ?_⟩
    rw [show (namesOf a).length - 1 + 1 = (namesOf a).length from by omega, ← hs, List.take_left, path_names]
theorem parsOf_len (p : Str) : (parsOf p).length = (namesOf p).length - 1 := by simp [parsOf]
theorem parsOf_get {p : Str} {k : Nat} (hk : k < (parsOf p).length) : (parsOf p)[k] = pathOf ((namesOf p).take (k + 1)) := by simp [parsOf]
/-- .. of the one of those. -/
theorem parsOf_take {p : Str} {k : Nat} (hk : k < (parsOf p).length) : parsOf (parsOf p)[k] = (parsOf p).take k := by
  rw [parsOf_len] at hk
  rw [parsOf_get (by rw [parsOf_len]; exact hk)]
  have hn := parsOf_names (p := p) (k := k) (by omega)
  apply List.ext_getElem
  · rw [parsOf_len, hn, List.length_take, List.length_take, parsOf_len]; omega
  · intro i h1 h2
    rw [parsOf_get h1, List.getElem_take, parsOf_get, hn, List.take_take]
    congr 2
    rw [parsOf_len, hn, List.length_take] at h1
    omega
theorem parsOf_eq {p q : Str} (hp : pathErr p = 0) (hq : pathErr q = 0) (h : parentOf p = parentOf q) : parsOf p = parsOf q := by
  have hd : (namesOf p).dropLast = (namesOf q).dropLast := by
    have a1 := (split_ref p).2
    have a2 := (split_ref q).2
    by_cases e1 : (namesOf p).dropLast = []
    · by_cases e2 : (namesOf q).dropLast = []
      · rw [e1, e2]
      · have h3 := par_names e2
        rw [← h, ← a1, e1] at h3
        exact absurd rfl (right_names hq [] (List.dropLast_subset _ (by rw [← h3]; simp [pathOf, namesOf])))
    · have h3 := par_names e1
      by_cases e2 : (namesOf q).dropLast = []
      · rw [h, ← a2, e2] at h3
        exact absurd rfl (right_names hp [] (List.dropLast_subset _ (by rw [← h3]; simp [pathOf, namesOf])))
      · rw [← h3, h, par_names e2]
  have hl := congrArg List.length hd
  rw [List.length_dropLast, List.length_dropLast] at hl
  apply List.ext_getElem
  · rw [parsOf_len, parsOf_len, hl]
  · intro i h1 h2
    rw [parsOf_get h1, parsOf_get h2]
    rw [parsOf_len] at h1 h2
    have g : ∀ l : List Str, i < l.length - 1 → l.take (i + 1) = l.dropLast.take (i + 1) := fun l hl => by
      rw [List.dropLast_eq_take, List.take_take, Nat.min_eq_left (by omega)]
    rw [g _ h1, g _ h2, hd]
theorem pars_right {p a : Str} (hp : pathErr p = 0) (h : a ∈ parsOf p) : pathErr a = 0 := by
  obtain ⟨h1, h2⟩ := mem_parsOf.1 h
  obtain ⟨g1, g2⟩ := pathErr_zero.1 hp
  have h3 := inB_names.1 h1
  obtain ⟨r, hr, _⟩ := inB_iff.1 h1
  exact pathErr_zero.2 ⟨fun n hn => g1 n (h3.subset hn), tooGreat_mono g2 h3.length_le (by rw [hr]; simp)⟩

/-! ### What goes aside -/
theorem asideN_spec {m t o : List Ent} {p q : Str} : ∀ {k n : Nat}, asideN m t o p k n = some q → ∃ j, n ≤ j ∧ j < n + k ∧ asideE p (j : Int) = 0 ∧ q = asideQ p (j : Int) ∧ look m q = none ∧ look t q = none ∧ look o q = none
  | 0, n, h => by cases h
  | k + 1, n, h => by
    unfold asideN at h
    split at h
    · rename_i he
      split at h
      · rename_i hf
        injection h with h
        subst h
        unfold freeQ at hf
        simp only [Bool.and_eq_true, Bool.not_eq_true', look_hit] at hf
        exact ⟨n, by omega, by omega, he, rfl, by simpa using hf.1.1, by simpa using hf.1.2, by simpa using hf.2⟩
      · obtain ⟨j, h1, h2, h3⟩ := asideN_spec h
        exact ⟨j, by omega, by omega, h3⟩
    · cases h
theorem asideS_spec {m t : List Ent} {s s' : MS} {p x : Str} (hp : pathErr p = 0) (h : asideS m t s p x = some s') : ∃ q, s' = ⟨putT s.out ⟨q, false, x, 1⟩, s.cps ++ [⟨p, q⟩]⟩ ∧ pathErr q = 0 ∧ parentOf q = parentOf p ∧ look m q = none ∧ look t q = none ∧ look s.out q = none := by
  unfold asideS at h
  cases hq : asideN m t s.out p 99 1 with
  | none => rw [hq] at h; cases h
  | some q =>
    rw [hq] at h
    injection h with h
    obtain ⟨j, h1, h2, h3, h4, h5, h6, h7⟩ := asideN_spec hq
    have he : asideErr p (j : Int) = 0 := by
      unfold asideErr
      rw [if_pos hp, if_neg (by omega), h3]
    have hb := back_aside he
    exact ⟨q, h.symm, by rw [h4]; exact hb.1, by rw [h4]; exact hb.2, h5, h6, h7⟩

/-! ### What is kept -/
structure MInv (o : List Ent) : Prop where
  rise : rising entLt o = true
  ent : ∀ x, x ∈ o → entErr x = 0
def foldAtB (o : List Ent) (a : Str) : Prop := (stT o a).kind = 1
theorem mem_of_putT {t : List Ent} {x y : Ent} (hs : rising entLt t = true) (h : y ∈ putT t x) : y = x ∨ y ∈ t := ((mem_put hs y).1 h).imp id And.left
theorem inv_put {o : List Ent} {x : Ent} (h : MInv o) (hx : entErr x = 0) : MInv (putT o x) :=
  ⟨putT_rising h.rise, fun y hy => by rcases mem_of_putT h.rise hy with rfl | h1; exact hx; exact h.ent y h1⟩
theorem st_put {o : List Ent} {x : Ent} (hs : rising entLt o = true) (p : Str) : stT (putT o x) p = if p = x.path then thgOf x else stT o p := by
  unfold stT
  rw [look_put hs]
  by_cases h : p = x.path
  · rw [if_pos h, if_pos h]
  · rw [if_neg h, if_neg h]
theorem fold_text {x : Ent} (h : entErr x = 0) : x.fold = true → x.text = [] := fun hf => by
  have := (entErr_zero h).2.1
  exact Classical.byContradiction fun e => this ⟨hf, e⟩
theorem st_text {o : List Ent} (h : MInv o) {p s : Str} (hp : stT o p = ⟨2, s⟩) : s.length ≤ 300 := by
  obtain ⟨x, h1, h2, h3⟩ := st_two.1 hp
  rw [← h3]
  exact (entErr_zero (h.ent x (look_some h1).1)).2.2.1
theorem thg_two {x : Thg} (h : x.kind = 2) : x = ⟨2, x.text⟩ := thg_ext h rfl
/-- A file goes aside. -/
theorem aside_inv {m t : List Ent} {s s' : MS} {p x : Str} (hi : MInv s.out) (hp : pathErr p = 0) (hx : x.length ≤ 300) (h : asideS m t s p x = some s') :
    MInv s'.out ∧ (∀ a, foldAtB s.out a → foldAtB s'.out a) ∧ ∀ y, y ∈ s'.out → y ∈ s.out ∨ parsOf y.path = parsOf p := by
  obtain ⟨q, rfl, h1, h2, _, _, h5⟩ := asideS_spec hp h
  refine ⟨inv_put hi (ent_ok h1 (fun e => by cases e) hx (by decide)), fun a ha => ?_, fun y hy => ?_⟩
  · unfold foldAtB at *
    show (stT (putT s.out _) a).kind = 1
    rw [st_put hi.rise]
    split
    · rename_i e
      simp only at e
      subst e
      rw [st_zero.2 h5] at ha; cases ha
    · exact ha
  · rcases mem_of_putT hi.rise hy with rfl | h3
    · exact .inr (parsOf_eq h1 hp h2)
    · exact .inl h3
theorem goS_inv {m t : List Ent} : ∀ {l : List (Str × Str)} {s s' : MS}, MInv s.out → (∀ g, g ∈ l → pathErr g.1 = 0 ∧ g.2.length ≤ 300) → goS m t l s = some s' → MInv s'.out
  | [], s, s', hi, _, h => by
    injection h with h
    exact h ▸ hi
  | g :: l, s, s', hi, hg, h => by
    unfold goS at h
    cases hq : asideS m t s g.1 g.2 with
    | none => rw [hq] at h; cases h
    | some s1 =>
      rw [hq] at h
      have h1 := hg g (by simp)
      exact goS_inv (aside_inv hi h1.1 h1.2 hq).1 (fun g' hg' => hg g' (by simp [hg'])) h
theorem parS_inv {m t : List Ent} {s s' : MS} {q : Str} (hi : MInv s.out) (hq : pathErr q = 0) (ha : ∀ a, a ∈ parsOf q → foldAtB s.out a) (h : parS m t s q = some s') :
    MInv s'.out ∧ foldAtB s'.out q ∧ (∀ a, foldAtB s.out a → foldAtB s'.out a) ∧ ∀ y, y ∈ s'.out → y ∈ s.out ∨ ∀ a, a ∈ parsOf y.path → foldAtB s'.out a := by
  unfold parS at h
  have hi1 : MInv (putT s.out ⟨q, true, [], 1⟩) := inv_put hi (ent_ok hq (fun _ => rfl) (by simp) (by decide))
  have hf1 : ∀ a, foldAtB s.out a → foldAtB (putT s.out ⟨q, true, [], 1⟩) a := fun a h1 => by
    unfold foldAtB at *
    rw [st_put hi.rise]
    split
    · rfl
    · exact h1
  have hq1 : foldAtB (putT s.out ⟨q, true, [], 1⟩) q := by
    unfold foldAtB
    rw [st_put hi.rise, if_pos rfl]; rfl
  split at h
  · rename_i h1
    injection h with h
    subst h
    exact ⟨hi, h1, fun _ h => h, fun y hy => .inl hy⟩
  · split at h
    · rename_i h2
      have hx := st_text hi (thg_two h2)
      obtain ⟨g1, g2, g3⟩ := aside_inv (s := ⟨putT s.out ⟨q, true, [], 1⟩, s.cps⟩) hi1 hq hx h
      refine ⟨g1, g2 q hq1, fun a h1 => g2 a (hf1 a h1), fun y hy => ?_⟩
      rcases g3 y hy with h3 | h3
      · rcases mem_of_putT hi.rise h3 with rfl | h4
        · exact .inr fun a h5 => g2 a (hf1 a (ha a h5))
        · exact .inl h4
      · exact .inr fun a h5 => g2 a (hf1 a (ha a (h3 ▸ h5)))
    · injection h with h
      subst h
      refine ⟨hi1, hq1, hf1, fun y hy => ?_⟩
      rcases mem_of_putT hi.rise hy with rfl | h4
      · exact .inr fun a h5 => hf1 a (ha a h5)
      · exact .inl h4
/-- Each stands behind what it is within, or that is a folder already. -/
def Closed (o : List Ent) (qs : List Str) : Prop := ∀ A q B, qs = A ++ q :: B → ∀ a, a ∈ parsOf q → a ∈ A ∨ foldAtB o a
theorem closed_pars (o : List Ent) (p : Str) : Closed o (parsOf p) := fun A q B h a ha => by
  have hk : A.length < (parsOf p).length := by rw [h]; simp
  have hq : (parsOf p)[A.length] = q := by simp [h]
  have h2 := parsOf_take hk
  rw [hq] at h2
  rw [h2, h, List.take_left] at ha
  exact .inl ha
theorem closed_app {o : List Ent} {X Y : List Str} (hx : Closed o X) (hy : Closed o Y) : Closed o (X ++ Y) := fun A q B h a ha => by
  rcases List.append_eq_append_iff.1 h with ⟨xs, h1, h2⟩ | ⟨bs, h1, h2⟩
  · rcases hy xs q B h2 a ha with h3 | h3
    · exact .inl (by rw [h1]; exact List.mem_append_right _ h3)
    · exact .inr h3
  · cases bs with
    | nil =>
      rw [List.nil_append] at h2
      rcases hy [] q B h2.symm a ha with h3 | h3
      · cases h3
      · exact .inr h3
    | cons b bs =>
      rw [List.cons_append] at h2
      injection h2 with h2 h3
      subst h2
      exact hx A q bs h1 a ha
theorem closed_flat (o : List Ent) : ∀ L : List Str, Closed o (L.flatMap parsOf)
  | [] => fun A q B h => by simp at h
  | p :: L => by rw [List.flatMap_cons]; exact closed_app (closed_pars o p) (closed_flat o L)
theorem parsS_inv {m t : List Ent} : ∀ {qs : List Str} {s s' : MS}, MInv s.out → Closed s.out qs → (∀ q, q ∈ qs → pathErr q = 0) → (∀ x, x ∈ s.out → ∀ a, a ∈ parsOf x.path → foldAtB s.out a ∨ a ∈ qs) → parsS m t qs s = some s' →
    MInv s'.out ∧ ∀ x, x ∈ s'.out → ∀ a, a ∈ parsOf x.path → foldAtB s'.out a
  | [], s, s', hi, _, _, ha, h => by
    injection h with h
    subst h
    exact ⟨hi, fun x hx a h1 => (ha x hx a h1).resolve_right (by simp)⟩
  | q :: qs, s, s', hi, hc, hq, ha, h => by
    unfold parsS at h
    cases h1 : parS m t s q with
    | none => rw [h1] at h; cases h
    | some s1 =>
      rw [h1] at h
      obtain ⟨g1, g2, g3, g4⟩ := parS_inv hi (hq q (by simp)) (fun a h2 => (hc [] q qs rfl a h2).resolve_left (by simp)) h1
      refine parsS_inv g1 (fun A r B e a h2 => ?_) (fun r hr => hq r (by simp [hr])) (fun x hx a h2 => ?_) h
      · rcases hc (q :: A) r B (by rw [e]; rfl) a h2 with h3 | h3
        · rcases List.mem_cons.1 h3 with rfl | h3
          · exact .inr g2
          · exact .inl h3
        · exact .inr (g3 a h3)
      · rcases g4 x hx with h3 | h3
        · rcases ha x h3 a h2 with h4 | h4
          · exact .inl (g3 a h4)
          · rcases List.mem_cons.1 h4 with rfl | h4
            · exact .inl g2
            · exact .inr h4
        · exact .inl (h3 a h2)

/-! ### The beginning -/
theorem outL_look (b m t : List Ent) : ∀ {P : List Str} {o : List Ent}, rising entLt o = true →
    rising entLt (P.foldl (fun o p => putK o p (oneAt b m t p).1) o) = true ∧
    ∀ p, look (P.foldl (fun o p => putK o p (oneAt b m t p).1) o) p = if p ∈ P ∧ ¬ (oneAt b m t p).1.kind = 0 then some (entT p (oneAt b m t p).1) else look o p
  | [], o, hs => ⟨hs, fun p => by simp⟩
  | q :: P, o, hs => by
    have hs1 : rising entLt (putK o q (oneAt b m t q).1) = true := by
      unfold putK
      split
      · exact hs
      · exact putT_rising hs
    obtain ⟨h1, h2⟩ := outL_look b m t (P := P) hs1
    refine ⟨h1, fun p => ?_⟩
    rw [List.foldl_cons, h2]
    by_cases hk : (oneAt b m t p).1.kind = 0
    · rw [if_neg (fun h => h.2 hk), if_neg (fun h => h.2 hk)]
      unfold putK
      split
      · rfl
      · rename_i hq
        rw [look_put hs, if_neg]
        rintro e
        simp only [entT] at e
        subst e
        exact hq hk
    · by_cases hp : p ∈ P
      · rw [if_pos ⟨hp, hk⟩, if_pos ⟨by simp [hp], hk⟩]
      · rw [if_neg (fun h => hp h.1)]
        by_cases e : p = q
        · subst e
          rw [if_pos ⟨by simp, hk⟩]
          unfold putK
          rw [if_neg hk, look_put hs]; exact if_pos rfl
        · rw [if_neg (fun h => by rcases List.mem_cons.1 h.1 with h1 | h1; exact e h1; exact hp h1)]
          unfold putK
          split
          · rfl
          · rw [look_put hs, if_neg]
            exact e
theorem st_len {u : List Ent} (hu : MInv u) (p : Str) : (stT u p).text.length ≤ 300 := by
  rcases good_st u p with ⟨_, h⟩ | ⟨_, h⟩ | h
  · rw [h]; simp
  · rw [h]; simp
  · exact st_text hu (thg_two h)
theorem one_len {b x y : Thg} (hx : x.text.length ≤ 300) (hy : y.text.length ≤ 300) : (oneT b x y).1.text.length ≤ 300 ∧ (oneT b x y).2.text.length ≤ 300 := by
  have hn : noT.text.length ≤ 300 := by decide
  unfold oneT
  (repeat' split) <;> exact ⟨by assumption, by assumption⟩
theorem right_inv {t : List Ent} (h : Right t) : MInv t := ⟨h.rise, h.ent⟩
theorem allP_right {b m t : List Ent} (hb : Right b) (hm : Right m) (ht : Right t) {p : Str} (h : p ∈ allP b m t) : pathErr p = 0 := by
  have g : ∀ u : List Ent, Right u → ¬ look u p = none → pathErr p = 0 := fun u hu h1 => by
    cases h2 : look u p with
    | none => exact absurd h2 h1
    | some x =>
      obtain ⟨h3, h4⟩ := look_some h2
      have := (entErr_zero (hu.ent x h3)).1
      rw [h4] at this; exact this
  rcases mem_allP.1 h with h1 | h1 | h1
  · exact g b hb h1
  · exact g m hm h1
  · exact g t ht h1
theorem out_inv {b m t : List Ent} (hb : Right b) (hm : Right m) (ht : Right t) : MInv (outL b m t (allP b m t)) := by
  obtain ⟨h1, h2⟩ := outL_look b m t (P := allP b m t) (o := []) rfl
  refine ⟨h1, fun x hx => ?_⟩
  have h3 := look_mem h1 hx
  rw [h2] at h3
  split at h3
  · rename_i h4
    injection h3 with h3
    have hg := (one_good (b := stT b x.path) (good_st m x.path) (good_st t x.path)).1
    have hl := (one_len (b := stT b x.path) (st_len (right_inv hm) x.path) (st_len (right_inv ht) x.path)).1
    have hpe := allP_right hb hm ht h4.1
    rw [← h3]
    refine ent_ok hpe (fun e => ?_) hl (by decide)
    have e : (oneAt b m t x.path).1.kind = 1 := by simpa using e
    rcases hg with ⟨k1, k2⟩ | ⟨k1, k2⟩ | k1
    · exact k2
    · exact k2
    · exact absurd (k1.symm.trans e) (by decide)
  · cases h3
theorem goes_right {b m t : List Ent} (hb : Right b) (hm : Right m) (ht : Right t) : ∀ g, g ∈ goesL b m t (allP b m t) → pathErr g.1 = 0 ∧ g.2.length ≤ 300 := by
  intro g hg
  obtain ⟨p, h1, h2⟩ := List.mem_filterMap.1 hg
  split at h2
  · injection h2 with h2
    subst h2
    exact ⟨allP_right hb hm ht h1, (one_len (b := stT b p) (st_len (right_inv hm) p) (st_len (right_inv ht) p)).2⟩
  · cases h2
/-- What comes of three right trees. -/
theorem mergeS_right {b m t : List Ent} {s : MS} (hb : Right b) (hm : Right m) (ht : Right t) (h : mergeS b m t = some s) : MInv s.out ∧ ∀ x, x ∈ s.out → ∀ a, a ∈ parsOf x.path → foldAtB s.out a := by
  unfold mergeS at h
  cases h1 : goS m t (goesL b m t (allP b m t)) ⟨outL b m t (allP b m t), []⟩ with
  | none => rw [h1] at h; cases h
  | some s1 =>
    rw [h1] at h
    have hi := goS_inv (s := ⟨outL b m t (allP b m t), []⟩) (out_inv hb hm ht) (goes_right hb hm ht) h1
    refine parsS_inv hi (closed_flat _ _) (fun q hq => ?_) (fun x hx a ha => ?_) h
    · obtain ⟨p, h2, h3⟩ := List.mem_flatMap.1 hq
      obtain ⟨x, h4, rfl⟩ := List.mem_map.1 h2
      exact pars_right (entErr_zero (hi.ent x h4)).1 h3
    · exact .inr (List.mem_flatMap.2 ⟨x.path, List.mem_map.2 ⟨x, hx, rfl⟩, ha⟩)
theorem look_map {f : Ent → Ent} (hf : ∀ x, (f x).path = x.path) (t : List Ent) (p : Str) : look (t.map f) p = (look t p).map f := by
  unfold look
  rw [List.find?_map]
  congr 2
  funext x
  simp [atP, hf]
theorem rising_map {f : Ent → Ent} (hf : ∀ x, (f x).path = x.path) {t : List Ent} (h : rising entLt t = true) : rising entLt (t.map f) = true := by
  rw [rising_pairE] at *
  rw [List.pairwise_map]
  exact h.imp fun {a b} hab => by rw [hf, hf]; exact hab
theorem ver_ok {m t : List Ent} (hm : Right m) (ht : Right t) (e : Ent) : isVer (verOf m t e) = true := by
  have g : ∀ u : List Ent, Right u → ∀ v, verAt u e = some v → isVer v = true := fun u hu v h => by
    unfold verAt at h
    split at h
    · cases h
    · rename_i x hx
      split at h
      · injection h with h
        rw [← h]
        exact (entErr_zero (hu.ent x (look_some hx).1)).2.2.2
      · cases h
  unfold verOf
  cases h1 : verAt t e with
  | some v => exact g t ht v h1
  | none =>
    cases h2 : verAt m e with
    | some v => exact g m hm v h2
    | none => rfl
theorem mergeR_right {b m t : List Ent} (hb : Right b) (hm : Right m) (ht : Right t) (h : (mergeR b m t).2.2 = 0) : Right (mergeR b m t).1 := by
  unfold mergeR at *
  cases h1 : mergeS b m t with
  | none => rw [h1] at h; exact absurd (show (2 : Int) = 0 from h) (by decide)
  | some s =>
    rw [h1] at h
    simp only at h ⊢
    split at h
    · exact absurd (show (2 : Int) = 0 from h) (by decide)
    · rename_i h60
      rw [if_neg h60]
      show Right (s.out.map (verE m t))
      obtain ⟨hi, ha⟩ := mergeS_right hb hm ht h1
      refine right_of_look (rising_map (f := verE m t) (fun _ => rfl) hi.rise) (by rw [List.length_map]; omega) fun p x hx => ?_
      rw [look_map (f := verE m t) (fun _ => rfl)] at hx
      obtain ⟨y, hy, rfl⟩ := Option.map_eq_some_iff.1 hx
      obtain ⟨hy1, hy2⟩ := look_some hy
      have he := hi.ent y hy1
      obtain ⟨e1, e2, e3, e4⟩ := entErr_zero he
      refine ⟨ent_ok (p := y.path) e1 (fold_text he) e3 (ver_ok hm ht y), ?_⟩
      rw [← hy2]
      by_cases hp : parentOf y.path = []
      · exact .inl hp
      · right
        have hf := ha y hy1 (parentOf y.path) (mem_parsOf.2 ⟨par_in e1 hp, par_ne e1⟩)
        obtain ⟨z, hz1, hz2⟩ := st_one.1 hf
        exact ⟨verE m t z, by rw [look_map (f := verE m t) (fun _ => rfl), hz1]; rfl, hz2⟩

/-! ### What only one side changed -/
def ver1 (e : Ent) : Ent := { e with ver := 1 }
theorem thg_path {x : Ent} (h : entErr x = 0) : entT x.path (thgOf x) = ver1 x := by
  obtain ⟨p, f, s, v⟩ := x
  cases f with
  | true =>
    have := fold_text h rfl
    simp at this
    subst this
    rfl
  | false => rfl
theorem parsS_still {m t : List Ent} : ∀ {qs : List Str} {s : MS}, (∀ q, q ∈ qs → foldAtB s.out q) → parsS m t qs s = some s
  | [], s, _ => rfl
  | q :: qs, s, h => by
    unfold parsS
    have h1 : parS m t s q = some s := by
      unfold parS
      exact if_pos (h q (by simp))
    rw [h1]
    exact parsS_still fun r hr => h r (by simp [hr])
theorem merge_side {b m t u : List Ent} (hu : Right u) (hsub : ∀ p, ¬ look u p = none → p ∈ allP b m t) (h : ∀ p, oneAt b m t p = (stT u p, noT)) : mergeS b m t = some ⟨u.map ver1, []⟩ := by
  have hg : goesL b m t (allP b m t) = [] := List.filterMap_eq_nil_iff.2 fun p _ => by rw [h]; rfl
  have ho : outL b m t (allP b m t) = u.map ver1 := by
    obtain ⟨h1, h2⟩ := outL_look b m t (P := allP b m t) (o := []) rfl
    refine look_ext h1 (rising_map (f := ver1) (fun _ => rfl) hu.rise) fun p => ?_
    show look (List.foldl _ [] _) p = _
    rw [h2, look_map (f := ver1) (fun _ => rfl), h]
    cases hl : look u p with
    | none =>
      rw [if_neg (fun h => h.2 (st_zero.2 hl))]; rfl
    | some x =>
      obtain ⟨h3, h4⟩ := look_some hl
      have hst : stT u p = thgOf x := by unfold stT; rw [hl]
      rw [if_pos ⟨hsub p (by rw [hl]; simp), by rw [hst]; rcases thg_kind x with h5 | h5 <;> rw [h5] <;> decide⟩, hst, Option.map_some, ← h4, thg_path (hu.ent x h3)]
  unfold mergeS
  rw [hg, ho]
  simp only [goS]
  refine parsS_still fun q hq => ?_
  obtain ⟨p, h2, h3⟩ := List.mem_flatMap.1 hq
  obtain ⟨x', h4', rfl⟩ := List.mem_map.1 h2
  obtain ⟨x, h4, hxx⟩ := List.mem_map.1 h4'
  subst hxx
  obtain ⟨h5, h6⟩ := mem_parsOf.1 h3
  obtain ⟨y, h7, h8⟩ := anc hu _ x h4 rfl q h5 h6
  exact st_one.2 ⟨ver1 y, by show look (u.map ver1) q = _; rw [look_map (f := ver1) (fun _ => rfl), h7]; rfl, h8⟩
theorem verE_same {m u : List Ent} (hu : Right u) : (u.map ver1).map (verE m u) = u := by
  rw [List.map_map]
  conv => rhs; rw [← List.map_id u]
  refine List.map_congr_left fun x hx => ?_
  have hl := look_mem hu.rise hx
  have hv : verAt u (ver1 x) = some x.ver := by
    unfold verAt
    rw [show (ver1 x).path = x.path from rfl, hl]
    exact if_pos rfl
  have : verOf m u (ver1 x) = x.ver := by unfold verOf; rw [hv]
  show verE m u (ver1 x) = x
  unfold verE
  rw [this]; rfl
def keyE (e : Ent) : Str × Bool × Str := (e.path, e.fold, e.text)
def likeL (a b : List Ent) : Bool := decide (a.map keyE = b.map keyE)
theorem likeL_ver {f g : Ent → Ent} (hf : ∀ x, keyE (f x) = keyE x) (hg : ∀ x, keyE (g x) = keyE x) (u : List Ent) : likeL (u.map f) (u.map g) = true := by
  unfold likeL
  rw [decide_eq_true_eq, List.map_map, List.map_map]
  exact List.map_congr_left fun x _ => (hf x).trans (hg x).symm
theorem likeL_one {f : Ent → Ent} (hf : ∀ x, keyE (f x) = keyE x) (u : List Ent) : likeL (u.map f) u = true := by
  have := likeL_ver (g := id) hf (fun _ => rfl) u
  rwa [List.map_id] at this
theorem merge_one1 {b u : List Ent} (hb : Right b) (hu : Right u) : mergeR b u b = (u.map (fun x => verE u b (ver1 x)), [], 0) := by
  have h := merge_side (b := b) (m := u) (t := b) hu (fun p hp => mem_allP.2 (.inr (.inl hp))) fun p => one_left _ _
  unfold mergeR
  rw [h]
  simp only
  rw [if_neg (by rw [List.length_map]; have := hu.len; omega), List.map_map]
  rfl
theorem merge_one2 {b u : List Ent} (hb : Right b) (hu : Right u) : mergeR b b u = (u, [], 0) := by
  have h := merge_side (b := b) (m := b) (t := u) hu (fun p hp => mem_allP.2 (.inr (.inr hp))) fun p => one_right _ _
  unfold mergeR
  rw [h]
  simp only
  rw [if_neg (by rw [List.length_map]; have := hu.len; omega), verE_same hu]
theorem merge_one3 {b u : List Ent} (hb : Right b) (hu : Right u) : mergeR b u u = (u, [], 0) := by
  have h := merge_side (b := b) (m := u) (t := u) hu (fun p hp => mem_allP.2 (.inr (.inr hp))) fun p => one_same _ _
  unfold mergeR
  rw [h]
  simp only
  rw [if_neg (by rw [List.length_map]; have := hu.len; omega), verE_same hu]

/-! ### The other way round -/
theorem asideS_more {m t : List Ent} {s s' : MS} {p x : Str} (h : asideS m t s p x = some s') : s'.cps.length = s.cps.length + 1 := by
  unfold asideS at h
  split at h
  · cases h
  · injection h with h
    rw [← h]; simp
theorem parS_more {m t : List Ent} {s s' : MS} {q : Str} (h : parS m t s q = some s') : s.cps.length ≤ s'.cps.length := by
  unfold parS at h
  split at h
  · injection h with h; rw [h]; exact Nat.le_refl _
  · split at h
    · have := asideS_more h
      simp only at this
      omega
    · injection h with h; rw [← h]; exact Nat.le_refl _
theorem parsS_more {m t : List Ent} : ∀ {qs : List Str} {s s' : MS}, parsS m t qs s = some s' → s.cps.length ≤ s'.cps.length
  | [], s, s', h => by injection h with h; rw [h]; exact Nat.le_refl _
  | q :: qs, s, s', h => by
    unfold parsS at h
    cases h1 : parS m t s q with
    | none => rw [h1] at h; cases h
    | some s1 =>
      rw [h1] at h
      exact Nat.le_trans (parS_more h1) (parsS_more h)
theorem goS_more {m t : List Ent} : ∀ {l : List (Str × Str)} {s s' : MS}, goS m t l s = some s' → s'.cps.length = s.cps.length + l.length
  | [], s, s', h => by injection h with h; rw [h]; rfl
  | g :: l, s, s', h => by
    unfold goS at h
    cases h1 : asideS m t s g.1 g.2 with
    | none => rw [h1] at h; cases h
    | some s1 =>
      rw [h1] at h
      have := goS_more h
      have := asideS_more h1
      simp only [List.length_cons]
      omega
/-- Nothing goes aside: then it does not hang on the two sides. -/
theorem parsS_clean {m t m' t' : List Ent} : ∀ {qs : List Str} {s s' : MS}, parsS m t qs s = some s' → s'.cps.length = s.cps.length → parsS m' t' qs s = some s'
  | [], s, s', h, _ => h
  | q :: qs, s, s', h, hl => by
    unfold parsS at h ⊢
    cases h1 : parS m t s q with
    | none => rw [h1] at h; cases h
    | some s1 =>
      rw [h1] at h
      have h2 := parS_more h1
      have h3 := parsS_more h
      have h4 : parS m' t' s q = some s1 := by
        unfold parS at h1 ⊢
        split at h1
        · rename_i k; rw [if_pos k]; exact h1
        · rename_i k
          rw [if_neg k]
          split at h1
          · have := asideS_more h1
            simp only at this
            omega
          · rename_i k2; rw [if_neg k2]; exact h1
      rw [h4]
      exact parsS_clean h (by omega)
theorem merge_turn {b m t : List Ent} {s : MS} (h : mergeS b m t = some s) (hc : s.cps = []) : mergeS b t m = some s := by
  unfold mergeS at h
  cases h1 : goS m t (goesL b m t (allP b m t)) ⟨outL b m t (allP b m t), []⟩ with
  | none => rw [h1] at h; cases h
  | some s1 =>
    rw [h1] at h
    have h2 := goS_more h1
    have h3 := parsS_more h
    rw [hc] at h3
    simp only [List.length_nil, Nat.zero_add] at h2 h3
    have hg : goesL b m t (allP b m t) = [] := List.length_eq_zero_iff.1 (by omega)
    have hP : allP b t m = allP b m t := risS_ext (allP_ris ..) (allP_ris ..) fun x => by
      rw [mem_allP, mem_allP]
      constructor <;> (rintro (h | h | h); exact .inl h; exact .inr (.inr h); exact .inr (.inl h))
    have hno : ∀ p, p ∈ allP b m t → ¬ (oneAt b m t p).2.kind = 2 := fun p hp e => by
      have := List.filterMap_eq_nil_iff.1 hg p hp
      rw [if_pos e] at this
      cases this
    have hturn := fun p => one_turn (b := stT b p) (good_st m p) (good_st t p)
    have hg' : goesL b t m (allP b t m) = [] := by
      rw [hP]
      exact List.filterMap_eq_nil_iff.2 fun p hp => if_neg fun e => hno p hp ((hturn p).1.2 e)
    have ho : outL b t m (allP b t m) = outL b m t (allP b m t) := by
      rw [hP]
      obtain ⟨a1, a2⟩ := outL_look b m t (P := allP b m t) (o := []) rfl
      obtain ⟨b1, b2⟩ := outL_look b t m (P := allP b m t) (o := []) rfl
      refine look_ext b1 a1 fun p => ?_
      show look (List.foldl _ [] _) p = look (List.foldl _ [] _) p
      rw [a2, b2]
      by_cases hp : p ∈ allP b m t
      · have : (oneAt b t m p).1 = (oneAt b m t p).1 := ((hturn p).2 (hno p hp)).symm
        rw [this]
      · rw [if_neg (fun h => hp h.1), if_neg (fun h => hp h.1)]
    rw [hg] at h1
    injection h1 with h1
    subst h1
    unfold mergeS
    rw [hg', ho]
    exact parsS_clean h (by rw [hc])
end Go.Proofs.YtkkfilkmkdnboaaDoor
