import Derived.Test.YtpeenheeakhlgaaDoorTuA
import Derived.Test.YtpeenheeakhlgaaDoorTsC
/- Trees, plain, 4: a tree as what is at each path. -/
set_option linter.unusedSimpArgs false
set_option linter.unnecessarySimpa false
set_option linter.unusedVariables false
namespace Go.Proofs.YtpeenheeakhlgaaDoor
open Go.Op

def look (t : List Ent) (p : Str) : Option Ent := t.find? (atP p)
theorem look_some {t : List Ent} {p : Str} {x : Ent} (h : look t p = some x) : x ∈ t ∧ x.path = p := by
  have h1 := List.mem_of_find?_eq_some h
  have h2 := List.find?_some h
  exact ⟨h1, by simpa [atP] using h2⟩
theorem look_none {t : List Ent} {p : Str} : look t p = none ↔ ∀ x, x ∈ t → ¬ x.path = p := by
  unfold look
  rw [List.find?_eq_none]
  simp [atP]
theorem path_inj {t : List Ent} (hs : rising entLt t = true) {x y : Ent} (hx : x ∈ t) (hy : y ∈ t) (h : x.path = y.path) : x = y := by
  obtain ⟨i, hi, rfl⟩ := List.getElem_of_mem hx
  obtain ⟨j, hj, rfl⟩ := List.getElem_of_mem hy
  rcases Nat.lt_trichotomy i j with h1 | h1 | h1
  · have := rising_ltE hs i j hi hj h1
    rw [h, bl_irr] at this; cases this
  · subst h1; rfl
  · have := rising_ltE hs j i hj hi h1
    rw [h, bl_irr] at this; cases this
theorem look_mem {t : List Ent} (hs : rising entLt t = true) {x : Ent} (hx : x ∈ t) : look t x.path = some x := by
  cases h : look t x.path with
  | none => exact absurd rfl (look_none.1 h x hx)
  | some y =>
    obtain ⟨h1, h2⟩ := look_some h
    rw [path_inj hs h1 hx h2]
theorem look_iff {t : List Ent} (hs : rising entLt t = true) {p : Str} {x : Ent} : look t p = some x ↔ x ∈ t ∧ x.path = p :=
  ⟨look_some, fun ⟨h1, h2⟩ => h2 ▸ look_mem hs h1⟩
theorem look_hit {t : List Ent} {p : Str} : hitE t p = (look t p).isSome := by
  unfold hitE look
  rw [Bool.eq_iff_iff, List.any_eq_true, List.find?_isSome]
theorem sorted_ext : ∀ {t u : List Ent}, t.Pairwise (fun a b => bytesLess a.path b.path = true) → u.Pairwise (fun a b => bytesLess a.path b.path = true) → (∀ x, x ∈ t ↔ x ∈ u) → t = u
  | [], [], _, _, _ => rfl
  | [], y :: u, _, _, h => absurd ((h y).2 (by simp)) (by simp)
  | x :: t, [], _, _, h => absurd ((h x).1 (by simp)) (by simp)
  | x :: t, y :: u, ht, hu, h => by
    have ht1 := List.pairwise_cons.1 ht
    have hu1 := List.pairwise_cons.1 hu
    have hxy : x = y := by
      rcases List.mem_cons.1 ((h x).1 (by simp)) with h1 | h1
      · exact h1
      · rcases List.mem_cons.1 ((h y).2 (by simp)) with h2 | h2
        · exact h2.symm
        · have h3 := ht1.1 y h2
          have h4 := hu1.1 x h1
          rw [bl_asym h3] at h4; cases h4
    subst hxy
    refine congrArg _ (sorted_ext ht1.2 hu1.2 fun z => ⟨fun hz => ?_, fun hz => ?_⟩)
    · rcases List.mem_cons.1 ((h z).1 (by simp [hz])) with h1 | h1
      · subst h1
        have := ht1.1 z hz
        rw [bl_irr] at this; cases this
      · exact h1
    · rcases List.mem_cons.1 ((h z).2 (by simp [hz])) with h1 | h1
      · subst h1
        have := hu1.1 z hz
        rw [bl_irr] at this; cases this
      · exact h1
theorem look_ext {t u : List Ent} (ht : rising entLt t = true) (hu : rising entLt u = true) (h : ∀ p, look t p = look u p) : t = u :=
  sorted_ext (rising_pairE.1 ht) (rising_pairE.1 hu) fun x => by
    constructor
    · intro hx
      have := look_mem ht hx
      rw [h] at this
      exact (look_some this).1
    · intro hx
      have := look_mem hu hx
      rw [← h] at this
      exact (look_some this).1
theorem mem_put {t : List Ent} {x : Ent} (hs : rising entLt t = true) (y : Ent) : y ∈ putT t x ↔ y = x ∨ (y ∈ t ∧ ¬ y.path = x.path) := by
  obtain ⟨A, M, Z, h, hp, hA, hZ, hM⟩ := splitE x.path (rising_pairE.1 hs)
  rw [putT_split h hp hM, h]
  have hA' : ∀ a, a ∈ A → ¬ a.path = x.path := fun a ha => bl_ne (hA a ha)
  have hZ' : ∀ a, a ∈ Z → ¬ a.path = x.path := fun a ha e => bl_ne (hZ a ha) e.symm
  simp only [List.mem_append, List.mem_singleton]
  constructor
  · rintro (h1 | h1 | h1)
    · exact .inr ⟨.inl h1, hA' y h1⟩
    · exact .inl h1
    · exact .inr ⟨.inr (.inr h1), hZ' y h1⟩
  · rintro (h1 | ⟨h1 | h1 | h1, h2⟩)
    · exact .inr (.inl h1)
    · exact .inl h1
    · rcases hM with ⟨_, z, rfl, hz⟩ | ⟨_, rfl⟩
      · rw [List.mem_singleton.1 h1] at h2; exact absurd hz h2
      · cases h1
    · exact .inr (.inr h1)
theorem look_put {t : List Ent} {x : Ent} (hs : rising entLt t = true) (p : Str) : look (putT t x) p = if p = x.path then some x else look t p := by
  have hr := putT_rising (x := x) hs
  split
  · rename_i h
    rw [look_iff hr, mem_put hs]
    exact ⟨.inl rfl, h.symm⟩
  · rename_i h
    cases hl : look t p with
    | none =>
      rw [look_none] at hl ⊢
      intro y hy
      rcases (mem_put hs y).1 hy with rfl | ⟨h1, _⟩
      · exact fun e => h e.symm
      · exact hl y h1
    | some y =>
      obtain ⟨h1, h2⟩ := look_some hl
      rw [look_iff hr, mem_put hs]
      exact ⟨.inr ⟨h1, by rw [h2]; exact h⟩, h2⟩
theorem look_keep (t : List Ent) (q p : Str) : look (keepE (inP q) t) p = if inB p q = true then none else look t p := by
  split
  · rename_i h
    rw [look_none]
    intro x hx
    have := (List.mem_filter.1 hx).2
    intro e
    simp only [inP, e, h] at this
    exact absurd this (by decide)
  · rename_i h
    unfold look keepE
    rw [List.find?_filter]
    congr 1
    funext x
    by_cases hx : x.path = p
    · simp [atP, inP, hx, h]
    · simp [atP, hx]
theorem look_putAll : ∀ {l t : List Ent}, rising entLt t = true → (l.Pairwise fun a b => ¬ a.path = b.path) → ∀ p, look (l.foldl putT t) p = match look l p with | some x => some x | none => look t p
  | [], t, _, _, p => rfl
  | x :: l, t, hs, hd, p => by
    have hd1 := List.pairwise_cons.1 hd
    rw [List.foldl_cons, look_putAll (putT_rising hs) hd1.2 p, look_put hs]
    by_cases hp : p = x.path
    · subst hp
      have : look l x.path = none := look_none.2 fun y hy e => hd1.1 y hy e.symm
      rw [this]
      simp [look, atP]
    · have h2 : look (x :: l) p = look l p := by
        unfold look
        rw [List.find?_cons_of_neg]
        simp [atP]; exact fun e => hp e.symm
      rw [h2, if_neg hp]

/-- What is within a path, as a text. -/
theorem inB_iff {p q : Str} : inB p q = true ↔ ∃ r, p = q ++ r ∧ (r = [] ∨ r.head? = some 47) := by
  unfold inB
  rw [Bool.or_eq_true, decide_eq_true_eq, List.isPrefixOf_iff_prefix]
  constructor
  · rintro (rfl | ⟨s, h⟩)
    · exact ⟨[], by simp, .inl rfl⟩
    · exact ⟨47 :: s, by rw [← h]; simp, .inr rfl⟩
  · rintro ⟨r, rfl, rfl | h⟩
    · exact .inl (by simp)
    · cases r with
      | nil => exact .inl (by simp)
      | cons c r =>
        simp at h
        subst h
        exact .inr ⟨r, by simp⟩
theorem inB_refl (p : Str) : inB p p = true := inB_iff.2 ⟨[], by simp, .inl rfl⟩
theorem inB_trans {p q r : Str} (h1 : inB p q = true) (h2 : inB q r = true) : inB p r = true := by
  obtain ⟨a, rfl, ha⟩ := inB_iff.1 h1
  obtain ⟨b, rfl, hb⟩ := inB_iff.1 h2
  refine inB_iff.2 ⟨b ++ a, by simp, ?_⟩
  cases b with
  | nil => simpa using ha
  | cons c b => right; simpa using hb
/-- Two that a path is within: one is within the other. -/
theorem inB_line {p q r : Str} (h1 : inB p q = true) (h2 : inB p r = true) : inB q r = true ∨ inB r q = true := by
  rw [inB_ref, List.isPrefixOf_iff_prefix] at *
  rw [inB_ref, List.isPrefixOf_iff_prefix]
  rcases Nat.le_total (namesOf q).length (namesOf r).length with h | h
  · exact .inr (List.prefix_of_prefix_length_le h1 h2 h)
  · exact .inl (List.prefix_of_prefix_length_le h2 h1 h)
theorem inB_anti {p q : Str} (h1 : inB p q = true) (h2 : inB q p = true) : p = q := by
  obtain ⟨a, h, _⟩ := inB_iff.1 h1
  obtain ⟨b, h', _⟩ := inB_iff.1 h2
  have hl : a = [] := by
    have := congrArg List.length h
    have := congrArg List.length h'
    simp at *
    exact List.length_eq_zero_iff.1 (by omega)
  rw [h, hl]; simp
theorem inB_names {p q : Str} : inB p q = true ↔ namesOf q <+: namesOf p := by rw [inB_ref, List.isPrefixOf_iff_prefix]
end Go.Proofs.YtpeenheeakhlgaaDoor

/- Trees, plain, 5: what passes the check goes on passing it. -/
set_option linter.unusedSimpArgs false
set_option linter.unnecessarySimpa false
set_option linter.unusedVariables false
namespace Go.Proofs.YtpeenheeakhlgaaDoor
open Go.Op

structure Right (t : List Ent) : Prop where
  len : t.length ≤ 60
  ent : ∀ x, x ∈ t → entErr x = 0
  rise : rising entLt t = true
  par : ∀ x, x ∈ t → folderErr t (parentOf x.path) = 0
theorem right_iff {t : List Ent} : treeErr t = 0 ↔ Right t := by
  constructor
  · intro h
    obtain ⟨h1, h2, h3, h4⟩ := treeErr_zero h
    exact ⟨h1, h2, h3, h4⟩
  · intro h
    have h1 : ¬ 60 < t.length := by have := h.len; omega
    have h2 : t.any (fun x => decide (parErr t x = 5)) = false := by
      rw [List.any_eq_false]; intro x hx
      have : parErr t x = 0 := h.par x hx
      simp [this]
    have h3 : t.any (fun x => decide (¬ parErr t x = 0)) = false := by
      rw [List.any_eq_false]; intro x hx
      have : parErr t x = 0 := h.par x hx
      simp [this]
    unfold treeErr
    rw [if_neg h1, if_pos (firstErr_zero.2 h.ent), if_pos h.rise, h2, h3]
    rfl
theorem folder_zero {t : List Ent} {q : Str} : folderErr t q = 0 ↔ q = [] ∨ ∃ y, look t q = some y ∧ y.fold = true := by
  unfold folderErr look
  by_cases hq : q = []
  · simp [hq]
  · rw [if_neg hq]
    cases h : t.find? (atP q) with
    | none => simp [hq]
    | some x => cases hf : x.fold <;> simp [hq, hf]
theorem right_names {p : Str} (h : pathErr p = 0) : ∀ n, n ∈ namesOf p → n ≠ [] := fun n hn e => by
  have := (pathErr_zero.1 h).1 n hn
  rw [e, isName_nil] at this; cases this
/-- The parent of a path within another one. -/
theorem par_names {p : Str} (h : (namesOf p).dropLast ≠ []) : namesOf (parentOf p) = (namesOf p).dropLast := by
  obtain ⟨h1, h2⟩ := split_ref p
  rw [← h2]
  exact names_path h fun n hn => namesOf_free p n (List.dropLast_subset _ hn)
theorem par_sub {p q : Str} (hp : pathErr p = 0) (hi : inB p q = true) (hne : ¬ q = p) : ¬ parentOf p = [] ∧ inB (parentOf p) q = true ∧ (namesOf (parentOf p)).length < (namesOf p).length := by
  have hpre := inB_names.1 hi
  obtain ⟨s, hs⟩ := hpre
  have hsn : s ≠ [] := fun e => hne (by
    rw [e, List.append_nil] at hs
    rw [← path_names q, hs, path_names])
  have hdl : (namesOf p).dropLast = namesOf q ++ s.dropLast := by rw [← hs, List.dropLast_append_of_ne_nil hsn]
  have hdn : (namesOf p).dropLast ≠ [] := by
    rw [hdl]; intro e
    exact namesOf_ne q (List.append_eq_nil_iff.1 e).1
  have hpn := par_names hdn
  refine ⟨fun e => ?_, ?_, ?_⟩
  · have hm : ([] : Str) ∈ namesOf (parentOf p) := by rw [e]; simp [namesOf]
    rw [hpn] at hm
    exact right_names hp [] (List.dropLast_subset _ hm) rfl
  · rw [inB_names, hpn, hdl]
    exact List.prefix_append _ _
  · rw [hpn, List.length_dropLast]
    have := names_pos' p
    omega
where names_pos' (p : Str) : 0 < (namesOf p).length := List.length_pos_iff.2 (namesOf_ne p)
theorem par_ne {p : Str} (hp : pathErr p = 0) : ¬ parentOf p = p := fun e => by
  obtain ⟨h1, h2⟩ := split_ref p
  have h3 : (namesOf p).dropLast ≠ [] ∨ (namesOf p).dropLast = [] := (Decidable.em _).symm
  rcases h3 with h3 | h3
  · have := par_names h3
    rw [e] at this
    have hl := congrArg List.length this
    rw [List.length_dropLast] at hl
    have := List.length_pos_iff.2 (namesOf_ne p)
    omega
  · rw [h3] at h2
    have : p = [] := by rw [← e, ← h2]; rfl
    subst this
    exact right_names hp [] (by simp [namesOf]) rfl
theorem par_in {p : Str} (hp : pathErr p = 0) (hne : ¬ parentOf p = []) : inB p (parentOf p) = true := by
  obtain ⟨h1, h2⟩ := split_ref p
  have hdn : (namesOf p).dropLast ≠ [] := fun e => hne (by rw [← h2, e]; rfl)
  rw [inB_names, par_names hdn]
  exact List.dropLast_prefix _
/-- What another one is within is there, and a folder. -/
theorem anc {t : List Ent} (h : Right t) : ∀ (n : Nat) (x : Ent), x ∈ t → (namesOf x.path).length = n → ∀ q, inB x.path q = true → ¬ q = x.path → ∃ y, look t q = some y ∧ y.fold = true := by
  intro n
  induction n using Nat.strongRecOn with
  | _ n ih =>
    intro x hx hn q hi hne
    have hpe := (entErr_zero (h.ent x hx)).1
    obtain ⟨h1, h2, h3⟩ := par_sub hpe hi hne
    rcases folder_zero.1 (h.par x hx) with h4 | ⟨y, h4, h5⟩
    · exact absurd h4 h1
    · obtain ⟨h6, h7⟩ := look_some h4
      by_cases hq : q = parentOf x.path
      · subst hq; exact ⟨y, h4, h5⟩
      · exact ih (namesOf y.path).length (by rw [h7]; omega) y h6 rfl q (by rw [h7]; exact h2) (by rw [h7]; exact hq)
/-- Where nothing is, nothing is within. -/
theorem none_in {t : List Ent} (h : Right t) {q p : Str} (hq : look t q = none) (hi : inB p q = true) : look t p = none := by
  cases hl : look t p with
  | none => rfl
  | some x =>
    obtain ⟨h1, h2⟩ := look_some hl
    by_cases e : q = p
    · subst e; rw [hq] at hl; cases hl
    · obtain ⟨y, h3, _⟩ := anc h _ x h1 rfl q (by rw [h2]; exact hi) (by rw [h2]; exact e)
      rw [hq] at h3; cases h3
theorem right_of_look {u : List Ent} (hs : rising entLt u = true) (hl : u.length ≤ 60) (h : ∀ p x, look u p = some x → entErr x = 0 ∧ (parentOf p = [] ∨ ∃ y, look u (parentOf p) = some y ∧ y.fold = true)) : Right u :=
  ⟨hl, fun x hx => (h _ x (look_mem hs hx)).1, hs, fun x hx => folder_zero.2 (h _ x (look_mem hs hx)).2⟩
theorem may_zero {t : List Ent} {c : Chg} (h : mayErr t c = 0) : folderErr t (parentOf (goalOf c)) = 0 ∧ isErr t c = 0 ∧ mvErr t c = 0 ∧ staleErr t c = 0 := by
  unfold mayErr at h
  split at h
  · contradiction
  · split at h
    · contradiction
    · split at h
      · contradiction
      · exact ⟨by omega, by omega, by omega, h⟩
theorem raw_zero {t : List Ent} {c : Chg} {v : Int} (h : rawE t c v = 0) : chgErr c = 0 ∧ mayErr t c = 0 ∧ doneE t c v = 0 := by
  unfold rawE at h
  split at h
  · contradiction
  · split at h
    · contradiction
    · exact ⟨by omega, by omega, h⟩
def backP (c : Chg) (p : Str) : Str := c.path ++ p.drop c.to.length
theorem back_of {c : Chg} {p : Str} (h : inB p c.to = true) : ∃ r, p = c.to ++ r ∧ backP c p = c.path ++ r ∧ inB (backP c p) c.path = true ∧ (r = [] ∨ r.head? = some 47) := by
  obtain ⟨r, rfl, hr⟩ := inB_iff.1 h
  have hb : backP c (c.to ++ r) = c.path ++ r := by simp [backP]
  exact ⟨r, rfl, hb, by rw [hb]; exact inB_iff.2 ⟨r, rfl, hr⟩, hr⟩
theorem goes_mem {t : List Ent} {c : Chg} {v : Int} {y : Ent} (h : y ∈ goesOf t c v) : ∃ x r, x ∈ t ∧ x.path = c.path ++ r ∧ (r = [] ∨ r.head? = some 47) ∧ y = moveTo c v x ∧ y.path = c.to ++ r := by
  obtain ⟨x, hx, rfl⟩ := List.mem_map.1 h
  obtain ⟨hx1, hx2⟩ := List.mem_filter.1 hx
  obtain ⟨r, hr, hr2⟩ := inB_iff.1 hx2
  exact ⟨x, r, hx1, hr, hr2, rfl, by simp [moveTo, hr]⟩
theorem look_goes {t : List Ent} {c : Chg} {v : Int} (hs : rising entLt t = true) (p : Str) : look (goesOf t c v) p = if inB p c.to = true then (look t (backP c p)).map (moveTo c v) else none := by
  split
  · rename_i h
    obtain ⟨r, rfl, hb, hbi, hr⟩ := back_of (c := c) h
    rw [hb] at hbi ⊢
    cases hl : look t (c.path ++ r) with
    | none =>
      rw [Option.map_none, look_none]
      intro y hy e
      obtain ⟨x, r', h1, h2, _, _, h3⟩ := goes_mem hy
      rw [h3] at e
      have := List.append_cancel_left e
      subst this
      exact look_none.1 hl x h1 h2
    | some x =>
      obtain ⟨h1, h2⟩ := look_some hl
      rw [Option.map_some]
      have hm : moveTo c v x ∈ goesOf t c v := List.mem_map.2 ⟨x, List.mem_filter.2 ⟨h1, by unfold inP; rw [h2]; exact hbi⟩, rfl⟩
      have hp : (moveTo c v x).path = c.to ++ r := by simp [moveTo, h2]
      cases hf : look (goesOf t c v) (c.to ++ r) with
      | none => exact absurd hp (look_none.1 hf _ hm)
      | some y =>
        obtain ⟨h3, h4⟩ := look_some hf
        obtain ⟨x', r', h5, h6, _, h7, h8⟩ := goes_mem h3
        rw [h8] at h4
        have := List.append_cancel_left h4
        subst this
        rw [h7, path_inj hs h1 h5 (by rw [h2, h6])]
  · rename_i h
    rw [look_none]
    intro y hy e
    obtain ⟨x, r, h1, h2, h3, _, h4⟩ := goes_mem hy
    exact h (inB_iff.2 ⟨r, by rw [← e, h4], h3⟩)
theorem goes_apart {t : List Ent} {c : Chg} {v : Int} (hs : rising entLt t = true) : (goesOf t c v).Pairwise fun a b => ¬ a.path = b.path := by
  unfold goesOf
  rw [List.pairwise_map]
  have h1 : (t.filter (inP c.path)).Pairwise (fun a b => bytesLess a.path b.path = true) := (rising_pairE.1 hs).sublist List.filter_sublist
  refine h1.imp_of_mem fun {a b} ha hb hlt => ?_
  obtain ⟨r, hr, _⟩ := inB_iff.1 (List.mem_filter.1 ha).2
  obtain ⟨s, hs', _⟩ := inB_iff.1 (List.mem_filter.1 hb).2
  intro e
  simp only [moveTo, hr, hs', List.drop_left] at e
  have := List.append_cancel_left e
  rw [hr, hs', this, bl_irr] at hlt
  cases hlt
theorem look_move {t : List Ent} {c : Chg} {v : Int} (h : Right t) (hk : c.kind = 3) (hto : look t c.to = none) (p : Str) : look (doneL t c v) p = if inB p c.to = true then (look t (backP c p)).map (moveTo c v) else if inB p c.path = true then none else look t p := by
  have hD : doneL t c v = (goesOf t c v).foldl putT (keepE (inP c.path) t) := by simp [doneL, hk]
  rw [hD, look_putAll (keepE_rising h.rise) (goes_apart h.rise), look_goes h.rise, look_keep]
  by_cases hi : inB p c.to = true
  · rw [if_pos hi, if_pos hi]
    cases hl : look t (backP c p) with
    | some x => rfl
    | none =>
      rw [Option.map_none]
      have := none_in h hto hi
      simp [this]
  · rw [if_neg hi, if_neg hi]
theorem par_app {a r : Str} : ∃ s, (∀ b : Str, parentOf (b ++ 47 :: r) = b ++ s) ∧ (s = [] ∨ s.head? = some 47) := by
  rcases split_at (c := 47) r with h | ⟨r1, r2, rfl, h⟩
  · exact ⟨[], fun b => by rw [(parent_at h).1]; simp, .inl rfl⟩
  · refine ⟨47 :: r1, fun b => ?_, .inr rfl⟩
    have := (parent_at (a := b ++ 47 :: r1) h).1
    rw [← this]; simp
theorem chg_text {c : Chg} (h : chgErr c = 0) : c.text.length ≤ 300 := by
  have := (chgErr_zero h).2.2.2.2
  unfold chgRest at this
  split at this
  · exact absurd this (by decide)
  · split at this
    · exact absurd this (by decide)
    · omega
theorem ent_ok {p : Str} {f : Bool} {s : Str} {v : Int} (h1 : pathErr p = 0) (h2 : f = true → s = []) (h3 : s.length ≤ 300) (h4 : isVer v = true) : entErr ⟨p, f, s, v⟩ = 0 := by
  unfold entErr
  simp only
  rw [if_pos h1, if_neg (fun e => e.2 (h2 e.1)), if_neg (by omega), if_pos h4]
theorem done_right {t : List Ent} {c : Chg} {v : Int} (h : Right t) (hv : isVer v = true) (hr : rawE t c v = 0) : Right (doneL t c v) := by
  obtain ⟨hc0, hm0, hd0⟩ := raw_zero hr
  obtain ⟨k1, k2, hpe, hte, -⟩ := chgErr_zero hc0
  obtain ⟨hf, hi, hmv, -⟩ := may_zero hm0
  obtain ⟨hb, h60⟩ := done_ok hd0
  have hs := doneL_rising (c := c) (v := v) h.rise
  have htx := chg_text hc0
  refine right_of_look hs h60 fun p x hx => ?_
  by_cases e1 : c.kind = 1
  · have hD : doneL t c v = putT t ⟨c.path, true, [], v⟩ := by simp [doneL, e1]
    have hg : goalOf c = c.path := by simp [goalOf, e1]
    rw [hg] at hf
    rw [hD, look_put h.rise] at hx
    have key : ∀ q, (∃ y, look t q = some y ∧ y.fold = true) → ∃ y, look (doneL t c v) q = some y ∧ y.fold = true := fun q ⟨y, h1, h2⟩ => by
      rw [hD, look_put h.rise]
      split
      · exact ⟨_, rfl, rfl⟩
      · exact ⟨y, h1, h2⟩
    split at hx
    · rename_i hp
      injection hx with hx
      subst hx; subst hp
      exact ⟨ent_ok hpe (fun _ => rfl) (by simp) hv, (folder_zero.1 hf).imp id (key _)⟩
    · obtain ⟨h1, h2⟩ := look_some hx
      refine ⟨h.ent x h1, ?_⟩
      have := folder_zero.1 (h.par x h1)
      rw [h2] at this
      exact this.imp id (key _)
  · by_cases e2 : c.kind = 2
    · have hD : doneL t c v = putT t ⟨c.path, false, c.text, v⟩ := by simp [doneL, e2]
      have hg : goalOf c = c.path := by simp [goalOf, e2]
      rw [hg] at hf
      rw [hD, look_put h.rise] at hx
      have hfa : ∀ y, look t c.path = some y → y.fold = false := fun y hy => by
        unfold isErr at hi
        rw [if_neg e1, if_pos e2] at hi
        unfold foldAt at hi
        rw [show t.find? (atP c.path) = some y from hy] at hi
        cases hyf : y.fold with
        | false => rfl
        | true => simp [hyf] at hi
      have key : ∀ q, (∃ y, look t q = some y ∧ y.fold = true) → ∃ y, look (doneL t c v) q = some y ∧ y.fold = true := fun q ⟨y, h1, h2⟩ => by
        rw [hD, look_put h.rise]
        split
        · rename_i e
          simp only at e
          rw [e] at h1
          rw [hfa y h1] at h2; cases h2
        · exact ⟨y, h1, h2⟩
      split at hx
      · rename_i hp
        injection hx with hx
        subst hx; subst hp
        exact ⟨ent_ok hpe (fun e => by cases e) htx hv, (folder_zero.1 hf).imp id (key _)⟩
      · obtain ⟨h1, h2⟩ := look_some hx
        refine ⟨h.ent x h1, ?_⟩
        have := folder_zero.1 (h.par x h1)
        rw [h2] at this
        exact this.imp id (key _)
    · by_cases e4 : c.kind = 4
      · have hD : doneL t c v = keepE (inP c.path) t := by simp [doneL, e4]
        rw [hD, look_keep] at hx
        split at hx
        · cases hx
        · rename_i hin
          obtain ⟨h1, h2⟩ := look_some hx
          refine ⟨h.ent x h1, ?_⟩
          have hxe := (entErr_zero (h.ent x h1)).1
          have := folder_zero.1 (h.par x h1)
          rw [h2] at this hxe
          rcases this with h3 | ⟨y, h3, h4⟩
          · exact .inl h3
          · refine .inr ⟨y, ?_, h4⟩
            rw [hD, look_keep, if_neg]
            · exact h3
            · intro h5
              have hne : ¬ parentOf p = [] := fun e => by
                rw [e] at h3
                obtain ⟨h6, h7⟩ := look_some h3
                have := (entErr_zero (h.ent y h6)).1
                rw [h7] at this
                exact right_names this [] (by simp [namesOf]) rfl
              exact hin (inB_trans (par_in hxe hne) h5)
      · have e3 : c.kind = 3 := by omega
        have hpt := hte e3
        have hg : goalOf c = c.to := by simp [goalOf, e3]
        rw [hg] at hf
        have hM : mvErr t c = if inB c.to c.path = true then 3 else if hitE t c.to = true then 6 else 0 := by unfold mvErr; rw [if_pos e3]
        rw [hmv] at hM
        have hin0 : inB c.to c.path = false := by
          cases h0 : inB c.to c.path with
          | true => rw [h0] at hM; simp at hM
          | false => rfl
        rw [hin0, if_neg (by decide)] at hM
        have hhit : hitE t c.to = false := by
          cases h0 : hitE t c.to with
          | true => rw [h0] at hM; simp at hM
          | false => rfl
        have hto : look t c.to = none := (hitE_none hhit).1
        have hlm := look_move (v := v) h e3 hto
        rw [hlm] at hx
        have nonil : ∀ q y, look t q = some y → ¬ q = [] := fun q y hy e => by
          obtain ⟨h6, h7⟩ := look_some hy
          have := (entErr_zero (h.ent y h6)).1
          rw [h7, e] at this
          exact right_names this [] (by simp [namesOf]) rfl
        split at hx
        · rename_i hi2
          obtain ⟨r, rfl, hb2, hbi, hr2⟩ := back_of (c := c) hi2
          rw [hb2] at hx hbi
          obtain ⟨x0, hx0, rfl⟩ := Option.map_eq_some_iff.1 hx
          obtain ⟨h1, h2⟩ := look_some hx0
          have he0 := entErr_zero (h.ent x0 h1)
          refine ⟨?_, ?_⟩
          · have hpm : pathErr (moveTo c v x0).path = 0 := by
              refine moveTo_right he0.1 hpe hpt (by rw [h2]; exact hbi) ?_
              simp only [moveBad, e3, decide_true, Bool.true_and, List.any_eq_false] at hb
              simpa using hb x0 (List.mem_filter.2 ⟨h1, by unfold inP; rw [h2]; exact hbi⟩)
            refine ent_ok hpm (fun e => ?_) he0.2.2.1 ?_
            · cases hs0 : x0.text with
              | nil => rfl
              | cons a s => exact absurd ⟨e, by rw [hs0]; simp⟩ he0.2.1
            · split
              · exact hv
              · exact he0.2.2.2
          · rcases hr2 with rfl | hr2
            · rw [List.append_nil]
              rcases folder_zero.1 hf with h3 | ⟨y, h3, h4⟩
              · exact .inl h3
              · refine .inr ⟨y, ?_, h4⟩
                have hne := nonil _ y h3
                have hpi := par_in hpt hne
                rw [hlm, if_neg, if_neg]
                · exact h3
                · intro h5
                  have := inB_trans hpi h5
                  rw [hin0] at this; cases this
                · intro h5
                  exact par_ne hpt (inB_anti h5 hpi)
            · cases r with
              | nil => cases hr2
              | cons a r =>
                simp at hr2
                subst hr2
                obtain ⟨s, hs1, hs2⟩ := par_app (a := c.to) (r := r)
                have hp0 := folder_zero.1 (h.par x0 h1)
                rw [h2, hs1 c.path] at hp0
                rcases hp0 with h3 | ⟨y, h3, h4⟩
                · have : c.path = [] := (List.append_eq_nil_iff.1 h3).1
                  rw [this] at hpe
                  exact absurd rfl (right_names hpe [] (by simp [namesOf]))
                · refine .inr ⟨moveTo c v y, ?_, h4⟩
                  have hin3 : inB (c.to ++ s) c.to = true := inB_iff.2 ⟨s, rfl, hs2⟩
                  rw [hs1 c.to, hlm, if_pos hin3, show backP c (c.to ++ s) = c.path ++ s from by simp [backP], h3]
                  rfl
        · rename_i hi2
          split at hx
          · cases hx
          · rename_i hi3
            obtain ⟨h1, h2⟩ := look_some hx
            refine ⟨h.ent x h1, ?_⟩
            have hxe := (entErr_zero (h.ent x h1)).1
            have := folder_zero.1 (h.par x h1)
            rw [h2] at this hxe
            rcases this with h3 | ⟨y, h3, h4⟩
            · exact .inl h3
            · have hpi := par_in hxe (nonil _ y h3)
              refine .inr ⟨y, ?_, h4⟩
              rw [hlm, if_neg (fun h5 => hi2 (inB_trans hpi h5)), if_neg (fun h5 => hi3 (inB_trans hpi h5))]
              exact h3
theorem Right.big {t : List Ent} (h : Right t) : EBig t := ⟨fun x hx => by
  have h1 := entErr_zero (h.ent x hx)
  have h2 := pathErr_small h1.1
  exact ⟨by omega, by omega⟩, by have := h.len; omega⟩
end Go.Proofs.YtpeenheeakhlgaaDoor
