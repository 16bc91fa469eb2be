import Derived.Test.YtkkfilkmkdnboaaDoorMz22
/- Trees, plain, 5: what passes the check goes on passing it. -/
set_option linter.unusedSimpArgs false
set_option linter.unnecessarySimpa false
set_option linter.unusedVariables false
namespace Go.Proofs.YtkkfilkmkdnboaaDoor
open Go.Op

structure Right (t : List Ent) : Prop where
  len : t.length ≤ 60
  ent : ∀ x, x ∈ t → entErr x = 0
  rise : rising entLt t = true
  par : ∀ x, x ∈ t → folderErr t (parentOf x.path) = 0
theorem right_iff {t : List Ent} : treeErr t = 0 ↔ Right t := by
  constructor
  · intro h
    obtain ⟨h1, h2, h3, h4⟩ := treeErr_zero h
    exact ⟨h1, h2, h3, h4⟩
  · intro h
    have h1 : ¬ 60 < t.length := by have := h.len; omega
    have h2 : t.any (fun x => decide (parErr t x = 5)) = false := by
      rw [List.any_eq_false]; intro x hx
      have : parErr t x = 0 := h.par x hx
      simp [this]
    have h3 : t.any (fun x => decide (¬ parErr t x = 0)) = false := by
      rw [List.any_eq_false]; intro x hx
      have : parErr t x = 0 := h.par x hx
      simp [this]
    unfold treeErr
    rw [if_neg h1, if_pos (firstErr_zero.2 h.ent), if_pos h.rise, h2, h3]
    rfl
theorem folder_zero {t : List Ent} {q : Str} : folderErr t q = 0 ↔ q = [] ∨ ∃ y, look t q = some y ∧ y.fold = true := by
  unfold folderErr look
  by_cases hq : q = []
  · simp [hq]
  · rw [if_neg hq]
    cases h : t.find? (atP q) with
    | none => simp [hq]
    | some x => cases hf : x.fold <;> simp [hq, hf]
theorem right_names {p : Str} (h : pathErr p = 0) : ∀ n, n ∈ namesOf p → n ≠ [] := fun n hn e => by
  have := (pathErr_zero.1 h).1 n hn
  rw [e, isName_nil] at this; cases this
/-- The parent of a path within another one. -/
theorem par_names {p : Str} (h : (namesOf p).dropLast ≠ []) : namesOf (parentOf p) = (namesOf p).dropLast := by
  obtain ⟨h1, h2⟩ := split_ref p
  rw [← h2]
  exact names_path h fun n hn => namesOf_free p n (List.dropLast_subset _ hn)
theorem par_sub {p q : Str} (hp : pathErr p = 0) (hi : inB p q = true) (hne : ¬ q = p) : ¬ parentOf p = [] ∧ inB (parentOf p) q = true ∧ (namesOf (parentOf p)).length < (namesOf p).length := by
  have hpre := inB_names.1 hi
  obtain ⟨s, hs⟩ := hpre
  have hsn : s ≠ [] := fun e => hne (by
    rw [e, List.append_nil] at hs
    rw [← path_names q, hs, path_names])
  have hdl : (namesOf p).dropLast = namesOf q ++ s.dropLast := by rw [← hs, List.dropLast_append_of_ne_nil hsn]
  have hdn : (namesOf p).dropLast ≠ [] := by
    rw [hdl]; intro e
    exact namesOf_ne q (List.append_eq_nil_iff.1 e).1
  have hpn := par_names hdn
  refine ⟨fun e => ?_, ?_, ?_⟩
  · have hm : ([] : Str) ∈ namesOf (parentOf p) := by rw [e]; simp [namesOf]
    rw [hpn] at hm
    exact right_names hp [] (List.dropLast_subset _ hm) rfl
  · rw [inB_names, hpn, hdl]
    exact List.prefix_append _ _
  · rw [hpn, List.length_dropLast]
    have := names_pos' p
    omega
where names_pos' (p : Str) : 0 < (namesOf p).length := List.length_pos_iff.2 (namesOf_ne p)
theorem par_ne {p : Str} (hp : pathErr p = 0) : ¬ parentOf p = p := fun e => by
  obtain ⟨h1, h2⟩ := split_ref p
  have h3 : (namesOf p).dropLast ≠ [] ∨ (namesOf p).dropLast = [] := (Decidable.em _).symm
  rcases h3 with h3 | h3
  · have := par_names h3
    rw [e] at this
    have hl := congrArg List.length this
    rw [List.length_dropLast] at hl
    have := List.length_pos_iff.2 (namesOf_ne p)
    omega
  · rw [h3] at h2
    have : p = [] := by rw [← e, ← h2]; rfl
    subst this
    exact right_names hp [] (by simp [namesOf]) rfl
theorem par_in {p : Str} (hp : pathErr p = 0) (hne : ¬ parentOf p = []) : inB p (parentOf p) = true := by
  obtain ⟨h1, h2⟩ := split_ref p
  have hdn : (namesOf p).dropLast ≠ [] := fun e => hne (by rw [← h2, e]; rfl)
  rw [inB_names, par_names hdn]
  exact List.dropLast_prefix _
/-- What another one is within is there, and a folder. -/
theorem anc {t : List Ent} (h : Right t) : ∀ (n : Nat) (x : Ent), x ∈ t → (namesOf x.path).length = n → ∀ q, inB x.path q = true → ¬ q = x.path → ∃ y, look t q = some y ∧ y.fold = true := by
  intro n
  induction n using Nat.strongRecOn with
  | _ n ih =>
    intro x hx hn q hi hne
    have hpe := (entErr_zero (h.ent x hx)).1
    obtain ⟨h1, h2, h3⟩ := par_sub hpe hi hne
    rcases folder_zero.1 (h.par x hx) with h4 | ⟨y, h4, h5⟩
    · exact absurd h4 h1
    · obtain ⟨h6, h7⟩ := look_some h4
      by_cases hq : q = parentOf x.path
      · subst hq; exact ⟨y, h4, h5⟩
      · exact ih (namesOf y.path).length (by rw [h7]; omega) y h6 rfl q (by rw [h7]; exact h2) (by rw [h7]; exact hq)
/-- Where nothing is, nothing is within. -/
theorem none_in {t : List Ent} (h : Right t) {q p : Str} (hq : look t q = none) (hi : inB p q = true) : look t p = none := by
  cases hl : look t p with
  | none => rfl
  | some x =>
    obtain ⟨h1, h2⟩ := look_some hl
    by_cases e : q = p
    · subst e; rw [hq] at hl; cases hl
    · obtain ⟨y, h3, _⟩ := anc h _ x h1 rfl q (by rw [h2]; exact hi) (by rw [h2]; exact e)
      rw [hq] at h3; cases h3
theorem right_of_look {u : List Ent} (hs : rising entLt u = true) (hl : u.length ≤ 60) (h : ∀ p x, look u p = some x → entErr x = 0 ∧ (parentOf p = [] ∨ ∃ y, look u (parentOf p) = some y ∧ y.fold = true)) : Right u :=
  ⟨hl, fun x hx => (h _ x (look_mem hs hx)).1, hs, fun x hx => folder_zero.2 (h _ x (look_mem hs hx)).2⟩
theorem may_zero {t : List Ent} {c : Chg} (h : mayErr t c = 0) : folderErr t (parentOf (goalOf c)) = 0 ∧ isErr t c = 0 ∧ mvErr t c = 0 ∧ staleErr t c = 0 := by
  unfold mayErr at h
  split at h
  · contradiction
  · split at h
    · contradiction
    · split at h
      · contradiction
      · exact ⟨by omega, by omega, by omega, h⟩
theorem raw_zero {t : List Ent} {c : Chg} {v : Int} (h : rawE t c v = 0) : chgErr c = 0 ∧ mayErr t c = 0 ∧ doneE t c v = 0 := by
  unfold rawE at h
  split at h
  · contradiction
  · split at h
    · contradiction
    · exact ⟨by omega, by omega, h⟩
def backP (c : Chg) (p : Str) : Str := c.path ++ p.drop c.to.length
theorem back_of {c : Chg} {p : Str} (h : inB p c.to = true) : ∃ r, p = c.to ++ r ∧ backP c p = c.path ++ r ∧ inB (backP c p) c.path = true ∧ (r = [] ∨ r.head? = some 47) := by
  obtain ⟨r, rfl, hr⟩ := inB_iff.1 h
  have hb : backP c (c.to ++ r) = c.path ++ r := by simp [backP]
  exact ⟨r, rfl, hb, by rw [hb]; exact inB_iff.2 ⟨r, rfl, hr⟩, hr⟩
theorem goes_mem {t : List Ent} {c : Chg} {v : Int} {y : Ent} (h : y ∈ goesOf t c v) : ∃ x r, x ∈ t ∧ x.path = c.path ++ r ∧ (r = [] ∨ r.head? = some 47) ∧ y = moveTo c v x ∧ y.path = c.to ++ r := by
  obtain ⟨x, hx, rfl⟩ := List.mem_map.1 h
  obtain ⟨hx1, hx2⟩ := List.mem_filter.1 hx
  obtain ⟨r, hr, hr2⟩ := inB_iff.1 hx2
  exact ⟨x, r, hx1, hr, hr2, rfl, by simp [moveTo, hr]⟩
theorem look_goes {t : List Ent} {c : Chg} {v : Int} (hs : rising entLt t = true) (p : Str) : look (goesOf t c v) p = if inB p c.to = true then (look t (backP c p)).map (moveTo c v) else none := by
  split
  · rename_i h
    obtain ⟨r, rfl, hb, hbi, hr⟩ := back_of (c := c) h
    rw [hb] at hbi ⊢
    cases hl : look t (c.path ++ r) with
    | none =>
      rw [Option.map_none, look_none]
      intro y hy e
      obtain ⟨x, r', h1, h2, _, _, h3⟩ := goes_mem hy
      rw [h3] at e
      have := List.append_cancel_left e
      subst this
      exact look_none.1 hl x h1 h2
    | some x =>
      obtain ⟨h1, h2⟩ := look_some hl
      rw [Option.map_some]
      have hm : moveTo c v x ∈ goesOf t c v := List.mem_map.2 ⟨x, List.mem_filter.2 ⟨h1, by unfold inP; rw [h2]; exact hbi⟩, rfl⟩
      have hp : (moveTo c v x).path = c.to ++ r := by simp [moveTo, h2]
      cases hf : look (goesOf t c v) (c.to ++ r) with
      | none => exact absurd hp (look_none.1 hf _ hm)
      | some y =>
        obtain ⟨h3, h4⟩ := look_some hf
        obtain ⟨x', r', h5, h6, _, h7, h8⟩ := goes_mem h3
        rw [h8] at h4
        have := List.append_cancel_left h4
        subst this
        rw [h7, path_inj hs h1 h5 (by rw [h2, h6])]
  · rename_i h
    rw [look_none]
    intro y hy e
    obtain ⟨x, r, h1, h2, h3, _, h4⟩ := goes_mem hy
    exact h (inB_iff.2 ⟨r, by rw [← e, h4], h3⟩)
theorem goes_apart {t : List Ent} {c : Chg} {v : Int} (hs : rising entLt t = true) : (goesOf t c v).Pairwise fun a b => ¬ a.path = b.path := by
  unfold goesOf
  rw [List.pairwise_map]
  have h1 : (t.filter (inP c.path)).Pairwise (fun a b => bytesLess a.path b.path = true) := (rising_pairE.1 hs).sublist List.filter_sublist
  refine h1.imp_of_mem fun {a b} ha hb hlt => ?_
  obtain ⟨r, hr, _⟩ := inB_iff.1 (List.mem_filter.1 ha).2
  obtain ⟨s, hs', _⟩ := inB_iff.1 (List.mem_filter.1 hb).2
  intro e
  simp only [moveTo, hr, hs', List.drop_left] at e
  have := List.append_cancel_left e
  rw [hr, hs', this, bl_irr] at hlt
  cases hlt
theorem look_move {t : List Ent} {c : Chg} {v : Int} (h : Right t) (hk : c.kind = 3) (hto : look t c.to = none) (p : Str) : look (doneL t c v) p = if inB p c.to = true then (look t (backP c p)).map (moveTo c v) else if inB p c.path = true then none else look t p := by
  have hD : doneL t c v = (goesOf t c v).foldl putT (keepE (inP c.path) t) := by simp [doneL, hk]
  rw [hD, look_putAll (keepE_rising h.rise) (goes_apart h.rise), look_goes h.rise, look_keep]
  by_cases hi : inB p c.to = true
  · rw [if_pos hi, if_pos hi]
    cases hl : look t (backP c p) with
    | some x => rfl
    | none =>
      rw [Option.map_none]
      have := none_in h hto hi
      simp [this]
  · rw [if_neg hi, if_neg hi]
theorem par_app {a r : Str} : ∃ s, (∀ b : Str, parentOf (b ++ 47 :: r) = b ++ s) ∧ (s = [] ∨ s.head? = some 47) := by
  rcases split_at (c := 47) r with h | ⟨r1, r2, rfl, h⟩
  · exact ⟨[], fun b => by rw [(parent_at h).1]; simp, .inl rfl⟩
  · refine ⟨47 :: r1, fun b => ?_, .inr rfl⟩
    have := (parent_at (a := b ++ 47 :: r1) h).1
    rw [← this]; simp
theorem chg_text {c : Chg} (h : chgErr c = 0) : c.text.length ≤ 300 := by
  have := (chgErr_zero h).2.2.2.2
  unfold chgRest at this
  split at this
  · exact absurd this (by decide)
  · split at this
    · exact absurd this (by decide)
    · omega
theorem ent_ok {p : Str} {f : Bool} {s : Str} {v : Int} (h1 : pathErr p = 0) (h2 : f = true → s = []) (h3 : s.length ≤ 300) (h4 : isVer v = true) : entErr ⟨p, f, s, v⟩ = 0 := by
  unfold entErr
  simp only
  rw [if_pos h1, if_neg (fun e => e.2 (h2 e.1)), if_neg (by omega), if_pos h4]
theorem done_right {t : List Ent} {c : Chg} {v : Int} (h : Right t) (hv : isVer v = true) (hr : rawE t c v = 0) : Right (doneL t c v) := by
  obtain ⟨hc0, hm0, hd0⟩ := raw_zero hr
  obtain ⟨k1, k2, hpe, hte, -⟩ := chgErr_zero hc0
  obtain ⟨hf, hi, hmv, -⟩ := may_zero hm0
  obtain ⟨hb, h60⟩ := done_ok hd0
  have hs := doneL_rising (c := c) (v := v) h.rise
  have htx := chg_text hc0
  refine right_of_look hs h60 fun p x hx => ?_
  by_cases e1 : c.kind = 1
  · have hD : doneL t c v = putT t ⟨c.path, true, [], v⟩ := by simp [doneL, e1]
    have hg : goalOf c = c.path := by simp [goalOf, e1]
    rw [hg] at hf
    rw [hD, look_put h.rise] at hx
    have key : ∀ q, (∃ y, look t q = some y ∧ y.fold = true) → ∃ y, look (doneL t c v) q = some y ∧ y.fold = true := fun q ⟨y, h1, h2⟩ => by
      rw [hD, look_put h.rise]
      split
      · exact ⟨_, rfl, rfl⟩
      · exact ⟨y, h1, h2⟩
    split at hx
    · rename_i hp
      injection hx with hx
      subst hx; subst hp
      exact ⟨ent_ok hpe (fun _ => rfl) (by simp) hv, (folder_zero.1 hf).imp id (key _)⟩
    · obtain ⟨h1, h2⟩ := look_some hx
      refine ⟨h.ent x h1, ?_⟩
      have := folder_zero.1 (h.par x h1)
      rw [h2] at this
      exact this.imp id (key _)
  · by_cases e2 : c.kind = 2
    · have hD : doneL t c v = putT t ⟨c.path, false, c.text, v⟩ := by simp [doneL, e2]
      have hg : goalOf c = c.path := by simp [goalOf, e2]
      rw [hg] at hf
      rw [hD, look_put h.rise] at hx
      have hfa : ∀ y, look t c.path = some y → y.fold = false := fun y hy => by
        unfold isErr at hi
        rw [if_neg e1, if_pos e2] at hi
        unfold foldAt at hi
        rw [show t.find? (atP c.path) = some y from hy] at hi
        cases hyf : y.fold with
        | false => rfl
        | true => simp [hyf] at hi
      have key : ∀ q, (∃ y, look t q = some y ∧ y.fold = true) → ∃ y, look (doneL t c v) q = some y ∧ y.fold = true := fun q ⟨y, h1, h2⟩ => by
        rw [hD, look_put h.rise]
        split
        · rename_i e
          simp only at e
          rw [e] at h1
          rw [hfa y h1] at h2; cases h2
        · exact ⟨y, h1, h2⟩
      split at hx
      · rename_i hp
        injection hx with hx
        subst hx; subst hp
        exact ⟨ent_ok hpe (fun e => by cases e) htx hv, (folder_zero.1 hf).imp id (key _)⟩
      · obtain ⟨h1, h2⟩ := look_some hx
        refine ⟨h.ent x h1, ?_⟩
        have := folder_zero.1 (h.par x h1)
        rw [h2] at this
        exact this.imp id (key _)
    · by_cases e4 : c.kind = 4
      · have hD : doneL t c v = keepE (inP c.path) t := by simp [doneL, e4]
        rw [hD, look_keep] at hx
        split at hx
        · cases hx
        · rename_i hin
          obtain ⟨h1, h2⟩ := look_some hx
          refine ⟨h.ent x h1, ?_⟩
          have hxe := (entErr_zero (h.ent x h1)).1
          have := folder_zero.1 (h.par x h1)
          rw [h2] at this hxe
          rcases this with h3 | ⟨y, h3, h4⟩
          · exact .inl h3
          · refine .inr ⟨y, ?_, h4⟩
            rw [hD, look_keep, if_neg]
            · exact h3
            · intro h5
              have hne : ¬ parentOf p = [] := fun e => by
                rw [e] at h3
                obtain ⟨h6, h7⟩ := look_some h3
                have := (entErr_zero (h.ent y h6)).1
                rw [h7] at this
                exact right_names this [] (by simp [namesOf]) rfl
              exact hin (inB_trans (par_in hxe hne) h5)
      · have e3 : c.kind = 3 := by omega
        have hpt := hte e3
        have hg : goalOf c = c.to := by simp [goalOf, e3]
        rw [hg] at hf
        have hM : mvErr t c = if inB c.to c.path = true then 3 else if hitE t c.to = true then 6 else 0 := by unfold mvErr; rw [if_pos e3]
        rw [hmv] at hM
        have hin0 : inB c.to c.path = false := by
          cases h0 : inB c.to c.path with
          | true => rw [h0] at hM; simp at hM
          | false => rfl
        rw [hin0, if_neg (by decide)] at hM
        have hhit : hitE t c.to = false := by
          cases h0 : hitE t c.to with
          | true => rw [h0] at hM; simp at hM
          | false => rfl
        have hto : look t c.to = none := (hitE_none hhit).1
        have hlm := look_move (v := v) h e3 hto
        rw [hlm] at hx
        have nonil : ∀ q y, look t q = some y → ¬ q = [] := fun q y hy e => by
          obtain ⟨h6, h7⟩ := look_some hy
          have := (entErr_zero (h.ent y h6)).1
          rw [h7, e] at this
          exact right_names this [] (by simp [namesOf]) rfl
        split at hx
        · rename_i hi2
          obtain ⟨r, rfl, hb2, hbi, hr2⟩ := back_of (c := c) hi2
          rw [hb2] at hx hbi
          obtain ⟨x0, hx0, rfl⟩ := Option.map_eq_some_iff.1 hx
          obtain ⟨h1, h2⟩ := look_some hx0
          have he0 := entErr_zero (h.ent x0 h1)
          refine ⟨?_, ?_⟩
          · have hpm : pathErr (moveTo c v x0).path = 0 := by
              refine moveTo_right he0.1 hpe hpt (by rw [h2]; exact hbi) ?_
              simp only [moveBad, e3, decide_true, Bool.true_and, List.any_eq_false] at hb
              simpa using hb x0 (List.mem_filter.2 ⟨h1, by unfold inP; rw [h2]; exact hbi⟩)
            refine ent_ok hpm (fun e => ?_) he0.2.2.1 ?_
            · cases hs0 : x0.text with
              | nil => rfl
              | cons a s => exact absurd ⟨e, by rw [hs0]; simp⟩ he0.2.1
            · split
              · exact hv
              · exact he0.2.2.2
          · rcases hr2 with rfl | hr2
            · rw [List.append_nil]
              rcases folder_zero.1 hf with h3 | ⟨y, h3, h4⟩
              · exact .inl h3
              · refine .inr ⟨y, ?_, h4⟩
                have hne := nonil _ y h3
                have hpi := par_in hpt hne
                rw [hlm, if_neg, if_neg]
                · exact h3
                · intro h5
                  have := inB_trans hpi h5
                  rw [hin0] at this; cases this
                · intro h5
                  exact par_ne hpt (inB_anti h5 hpi)
            · cases r with
              | nil => cases hr2
              | cons a r =>
                simp at hr2
                subst hr2
                obtain ⟨s, hs1, hs2⟩ := par_app (a := c.to) (r := r)
                have hp0 := folder_zero.1 (h.par x0 h1)
                rw [h2, hs1 c.path] at hp0
                rcases hp0 with h3 | ⟨y, h3, h4⟩
                · have : c.path = [] := (List.append_eq_nil_iff.1 h3).1
                  rw [this] at hpe
                  exact absurd rfl (right_names hpe [] (by simp [namesOf]))
                · refine .inr ⟨moveTo c v y, ?_, h4⟩
                  have hin3 : inB (c.to ++ s) c.to = true := inB_iff.2 ⟨s, rfl, hs2⟩
                  rw [hs1 c.to, hlm, if_pos hin3, show backP c (c.to ++ s) = c.path ++ s from by simp [backP], h3]
                  rfl
        · rename_i hi2
          split at hx
          · cases hx
          · rename_i hi3
            obtain ⟨h1, h2⟩ := look_some hx
            refine ⟨h.ent x h1, ?_⟩
            have hxe := (entErr_zero (h.ent x h1)).1
            have := folder_zero.1 (h.par x h1)
            rw [h2] at this hxe
            rcases this with h3 | ⟨y, h3, h4⟩
            · exact .inl h3
            · have hpi := par_in hxe (nonil _ y h3)
              refine .inr ⟨y, ?_, h4⟩
              rw [hlm, if_neg (fun h5 => hi2 (inB_trans hpi h5)), if_neg (fun h5 => hi3 (inB_trans hpi h5))]
              exact h3
theorem Right.big {t : List Ent} (h : Right t) : EBig t := ⟨fun x hx => by
  have h1 := entErr_zero (h.ent x hx)
  have h2 := pathErr_small h1.1
  exact ⟨by omega, by omega⟩, by have := h.len; omega⟩
end Go.Proofs.YtkkfilkmkdnboaaDoor

/- Merges, plain, 1: what the document says of two sides. -/
set_option linter.unusedSimpArgs false
set_option linter.unnecessarySimpa false
set_option linter.unusedVariables false
namespace Go.Proofs.YtkkfilkmkdnboaaDoor
open Go.Op

/-- What is at a path: 0 nothing, 1 a folder, 2 a file; and its text. -/
structure Thg where
  kind : Int
  text : Str
  deriving DecidableEq
def noT : Thg := ⟨0, []⟩
def thgOf (x : Ent) : Thg := if x.fold = true then ⟨1, []⟩ else ⟨2, x.text⟩
def stT (t : List Ent) (p : Str) : Thg := match look t p with | none => noT | some x => thgOf x
structure Cpy where
  path : Str
  at_ : Str
  deriving DecidableEq
def entT (p : Str) (x : Thg) : Ent := ⟨p, decide (x.kind = 1), x.text, 1⟩
/-- One path: what is there then, and what goes aside. -/
def oneT (b x y : Thg) : Thg × Thg :=
  if x = y then (x, noT) else if x = b then (y, noT) else if y = b then (x, noT)
  else if x.kind = 1 then (x, y) else if y.kind = 1 then (y, x)
  else if x.kind = 2 ∧ y.kind = 2 then (y, x) else if x.kind = 2 then (x, noT) else (y, noT)
def putK (o : List Ent) (p : Str) (x : Thg) : List Ent := if x.kind = 0 then o else putT o (entT p x)
/-- A text put where it belongs. -/
def putS (l : List Str) (s : Str) : List Str := if s ∈ l then l else l.takeWhile (fun x => bytesLess x s) ++ s :: l.dropWhile (fun x => bytesLess x s)
def allP (b m t : List Ent) : List Str := ((b ++ (m ++ t)).map Ent.path).foldl putS []
def oneAt (b m t : List Ent) (p : Str) : Thg × Thg := oneT (stT b p) (stT m p) (stT t p)
def outL (b m t : List Ent) (P : List Str) : List Ent := P.foldl (fun o p => putK o p (oneAt b m t p).1) []
def goesL (b m t : List Ent) (P : List Str) : List (Str × Str) := P.filterMap fun p => if (oneAt b m t p).2.kind = 2 then some (p, (oneAt b m t p).2.text) else none
def freeQ (m t o : List Ent) (q : Str) : Bool := !hitE m q && !hitE t q && !hitE o q
def asideN (m t o : List Ent) (p : Str) : Nat → Nat → Option Str
  | 0, _ => none
  | k + 1, n => if asideE p (n : Int) = 0 then (if freeQ m t o (asideQ p (n : Int)) = true then some (asideQ p (n : Int)) else asideN m t o p k (n + 1)) else none
structure MS where
  out : List Ent
  cps : List Cpy
def asideS (m t : List Ent) (s : MS) (p x : Str) : Option MS :=
  match asideN m t s.out p 99 1 with
  | none => none
  | some q => some ⟨putT s.out ⟨q, false, x, 1⟩, s.cps ++ [⟨p, q⟩]⟩
def goS (m t : List Ent) : List (Str × Str) → MS → Option MS
  | [], s => some s
  | g :: l, s => match asideS m t s g.1 g.2 with | none => none | some s' => goS m t l s'
/-- A path within which something is. -/
def parS (m t : List Ent) (s : MS) (q : Str) : Option MS :=
  if (stT s.out q).kind = 1 then some s
  else if (stT s.out q).kind = 2 then asideS m t ⟨putT s.out ⟨q, true, [], 1⟩, s.cps⟩ q (stT s.out q).text
  else some ⟨putT s.out ⟨q, true, [], 1⟩, s.cps⟩
def parsS (m t : List Ent) : List Str → MS → Option MS
  | [], s => some s
  | q :: l, s => match parS m t s q with | none => none | some s' => parsS m t l s'
/-- What a path is within, the uppermost first. -/
def parsOf (p : Str) : List Str := (List.range ((namesOf p).length - 1)).map fun k => pathOf ((namesOf p).take (k + 1))
def mergeS (b m t : List Ent) : Option MS :=
  match goS m t (goesL b m t (allP b m t)) ⟨outL b m t (allP b m t), []⟩ with
  | none => none
  | some s => parsS m t ((s.out.map Ent.path).flatMap parsOf) s
def verAt (t : List Ent) (e : Ent) : Option Int := match look t e.path with | none => none | some x => if thgOf x = thgOf e then some x.ver else none
def verOf (m t : List Ent) (e : Ent) : Int := match verAt t e with | some v => v | none => match verAt m e with | some v => v | none => 1
def verE (m t : List Ent) (e : Ent) : Ent := { e with ver := verOf m t e }
/-- Of trees that are right. -/
def mergeR (b m t : List Ent) : List Ent × List Cpy × Int :=
  match mergeS b m t with
  | none => ([], [], 2)
  | some s => if 60 < s.out.length then ([], [], 2) else (s.out.map (verE m t), s.cps, 0)
def mergeA (b m t : List Ent) : List Ent × List Cpy × Int := if firstErr treeErr [b, m, t] = 0 then mergeR b m t else ([], [], firstErr treeErr [b, m, t])

def GoodT (x : Thg) : Prop := (x.kind = 0 ∧ x.text = []) ∨ (x.kind = 1 ∧ x.text = []) ∨ x.kind = 2
theorem thg_ext {x y : Thg} (h1 : x.kind = y.kind) (h2 : x.text = y.text) : x = y := by
  obtain ⟨a, b⟩ := x
  obtain ⟨c, d⟩ := y
  simp at h1 h2
  rw [h1, h2]
theorem good_of (x : Ent) : GoodT (thgOf x) := by
  unfold thgOf
  split
  · exact .inr (.inl ⟨rfl, rfl⟩)
  · exact .inr (.inr rfl)
theorem good_st (t : List Ent) (p : Str) : GoodT (stT t p) := by
  unfold stT
  split
  · exact .inl ⟨rfl, rfl⟩
  · exact good_of _
theorem thg_kind (x : Ent) : (thgOf x).kind = 1 ∨ (thgOf x).kind = 2 := by
  unfold thgOf
  split
  · exact .inl rfl
  · exact .inr rfl
theorem st_zero {t : List Ent} {p : Str} : (stT t p).kind = 0 ↔ look t p = none := by
  unfold stT
  cases h : look t p with
  | none => simp [noT]
  | some x => rcases thg_kind x with h1 | h1 <;> simp [h1]
theorem st_one {t : List Ent} {p : Str} : (stT t p).kind = 1 ↔ ∃ x, look t p = some x ∧ x.fold = true := by
  unfold stT
  cases h : look t p with
  | none => simp [noT]
  | some x =>
    unfold thgOf
    cases hf : x.fold <;> simp [hf]
theorem st_two {t : List Ent} {p s : Str} : stT t p = ⟨2, s⟩ ↔ ∃ x, look t p = some x ∧ x.fold = false ∧ x.text = s := by
  unfold stT
  cases h : look t p with
  | none => simp [noT]
  | some x =>
    unfold thgOf
    cases hf : x.fold <;> simp [hf]
theorem thg_ent {p : Str} {x : Thg} (h : GoodT x) (h0 : ¬ x.kind = 0) : thgOf (entT p x) = x := by
  obtain ⟨k, s⟩ := x
  unfold thgOf entT
  rcases h with ⟨h, _⟩ | ⟨h, h2⟩ | h
  · exact absurd h h0
  · simp at h h2; subst h; subst h2; rfl
  · simp at h; subst h; rfl
theorem one_good {b x y : Thg} (hx : GoodT x) (hy : GoodT y) : GoodT (oneT b x y).1 ∧ GoodT (oneT b x y).2 := by
  have hn : GoodT noT := .inl ⟨rfl, rfl⟩
  unfold oneT
  (repeat' split) <;> exact ⟨by assumption, by assumption⟩
theorem one_same (b x : Thg) : oneT b x x = (x, noT) := by simp [oneT]
theorem one_left (b x : Thg) : oneT b x b = (x, noT) := by
  unfold oneT
  by_cases h : x = b
  · subst h; simp
  · simp [h]
theorem one_right (b y : Thg) : oneT b b y = (y, noT) := by
  unfold oneT
  by_cases h : b = y
  · subst h; simp
  · simp [h]
/-- The other way round. -/
theorem one_turn {b x y : Thg} (hx : GoodT x) (hy : GoodT y) : ((oneT b x y).2.kind = 2 ↔ (oneT b y x).2.kind = 2) ∧ (¬ (oneT b x y).2.kind = 2 → (oneT b x y).1 = (oneT b y x).1) := by
  by_cases h1 : x = y
  · subst h1; exact ⟨Iff.rfl, fun _ => rfl⟩
  by_cases h2 : x = b
  · subst h2; rw [one_right, one_left]; exact ⟨Iff.rfl, fun _ => rfl⟩
  by_cases h3 : y = b
  · subst h3; rw [one_right, one_left]; exact ⟨Iff.rfl, fun _ => rfl⟩
  have h1' : ¬ y = x := fun e => h1 e.symm
  unfold oneT
  simp only [h1, h1', h2, h3, if_false]
  rcases hx with ⟨k1, k2⟩ | ⟨k1, k2⟩ | k1 <;> rcases hy with ⟨l1, l2⟩ | ⟨l1, l2⟩ | l1
  · exact absurd (thg_ext (k1.trans l1.symm) (k2.trans l2.symm)) h1
  · simp [k1, l1, noT]
  · simp [k1, l1, noT]
  · simp [k1, l1, noT]
  · exact absurd (thg_ext (k1.trans l1.symm) (k2.trans l2.symm)) h1
  · simp [k1, l1, noT]
  · simp [k1, l1, noT]
  · simp [k1, l1, noT]
  · simp [k1, l1, noT]

/-! ### Lists of texts in order -/
def risS (l : List Str) : Prop := l.Pairwise fun a b => bytesLess a b = true
theorem risS_ext : ∀ {t u : List Str}, risS t → risS u → (∀ x, x ∈ t ↔ x ∈ u) → t = u
  | [], [], _, _, _ => rfl
  | [], y :: u, _, _, h => absurd ((h y).2 (by simp)) (by simp)
  | x :: t, [], _, _, h => absurd ((h x).1 (by simp)) (by simp)
  | x :: t, y :: u, ht, hu, h => by
    have ht1 := List.pairwise_cons.1 ht
    have hu1 := List.pairwise_cons.1 hu
    have hxy : x = y := by
      rcases List.mem_cons.1 ((h x).1 (by simp)) with h1 | h1
      · exact h1
      · rcases List.mem_cons.1 ((h y).2 (by simp)) with h2 | h2
        · exact h2.symm
        · have h3 := ht1.1 y h2
          have h4 := hu1.1 x h1
          rw [bl_asym h3] at h4; cases h4
    subst hxy
    refine congrArg _ (risS_ext ht1.2 hu1.2 fun z => ⟨fun hz => ?_, fun hz => ?_⟩)
    · rcases List.mem_cons.1 ((h z).1 (by simp [hz])) with h1 | h1
      · subst h1
        have := ht1.1 z hz
        rw [bl_irr] at this; cases this
      · exact h1
    · rcases List.mem_cons.1 ((h z).2 (by simp [hz])) with h1 | h1
      · subst h1
        have := hu1.1 z hz
        rw [bl_irr] at this; cases this
      · exact h1
theorem mem_putS {l : List Str} {s x : Str} : x ∈ putS l s ↔ x = s ∨ x ∈ l := by
  unfold putS
  split
  · rename_i h
    constructor
    · exact .inr
    · rintro (rfl | h1)
      · exact h
      · exact h1
  · have : l = l.takeWhile (fun x => bytesLess x s) ++ l.dropWhile (fun x => bytesLess x s) := List.takeWhile_append_dropWhile.symm
    constructor
    · intro h
      rcases List.mem_append.1 h with h1 | h1
      · right; rw [this]; exact List.mem_append_left _ h1
      · rcases List.mem_cons.1 h1 with h2 | h2
        · exact .inl h2
        · right; rw [this]; exact List.mem_append_right _ h2
    · rintro (rfl | h)
      · exact List.mem_append_right _ (List.mem_cons_self ..)
      · rw [this] at h
        rcases List.mem_append.1 h with h1 | h1
        · exact List.mem_append_left _ h1
        · exact List.mem_append_right _ (List.mem_cons_of_mem _ h1)
theorem putS_ris : ∀ {l : List Str} {s : Str}, risS l → risS (putS l s) := by
  intro l s h
  unfold putS
  split
  · exact h
  · rename_i hs
    have key : ∀ {l : List Str}, risS l → s ∉ l → risS (l.takeWhile (fun x => bytesLess x s) ++ s :: l.dropWhile (fun x => bytesLess x s)) := by
      intro l
      induction l with
      | nil => intro _ _; exact List.pairwise_singleton _ _
      | cons a l ih =>
        intro h hs
        have h1 := List.pairwise_cons.1 h
        simp only [List.mem_cons, not_or] at hs
        by_cases ha : bytesLess a s = true
        · simp only [List.takeWhile_cons, List.dropWhile_cons, ha, if_true, List.cons_append]
          refine List.pairwise_cons.2 ⟨fun y hy => ?_, ih h1.2 hs.2⟩
          rcases List.mem_append.1 hy with h2 | h2
          · exact h1.1 y ((List.takeWhile_sublist _).subset h2)
          · rcases List.mem_cons.1 h2 with rfl | h2
            · exact ha
            · exact h1.1 y ((List.dropWhile_sublist _).subset h2)
        · have ha' : bytesLess a s = false := by simpa using ha
          simp only [List.takeWhile_cons, List.dropWhile_cons, ha', Bool.false_eq_true, if_false, List.nil_append]
          have hsa : bytesLess s a = true := by
            rcases bl_tri s a with h2 | h2 | h2
            · exact h2.1
            · exact absurd h2.1 hs.1
            · exact absurd h2.1 ha
          refine List.pairwise_cons.2 ⟨fun y hy => ?_, h⟩
          rcases List.mem_cons.1 hy with rfl | h2
          · exact hsa
          · exact bl_trans hsa (h1.1 y h2)
    exact key h hs
theorem putS_all {L : List Str} : ∀ {l : List Str}, risS l → risS (L.foldl putS l) ∧ ∀ x, x ∈ L.foldl putS l ↔ x ∈ L ∨ x ∈ l := by
  induction L with
  | nil => intro l h; exact ⟨h, fun x => by simp⟩
  | cons a L ih =>
    intro l h
    obtain ⟨h1, h2⟩ := ih (putS_ris (s := a) h)
    refine ⟨h1, fun x => ?_⟩
    rw [List.foldl_cons, h2, mem_putS, List.mem_cons]
    constructor
    · rintro (h | h | h)
      · exact .inl (.inr h)
      · exact .inl (.inl h)
      · exact .inr h
    · rintro ((h | h) | h)
      · exact .inr (.inl h)
      · exact .inl h
      · exact .inr (.inr h)
theorem allP_ris (b m t : List Ent) : risS (allP b m t) := (putS_all List.Pairwise.nil).1
theorem mem_allP {b m t : List Ent} {p : Str} : p ∈ allP b m t ↔ ¬ look b p = none ∨ ¬ look m p = none ∨ ¬ look t p = none := by
  have h1 : ∀ u : List Ent, p ∈ u.map Ent.path ↔ ¬ look u p = none := fun u => by
    rw [look_none, List.mem_map]
    constructor
    · rintro ⟨x, h1, h2⟩ h3; exact h3 x h1 h2
    · intro h
      exact Classical.byContradiction fun h2 => h fun x hx e => h2 ⟨x, hx, e⟩
  unfold allP
  rw [(putS_all List.Pairwise.nil).2, List.map_append, List.map_append, List.mem_append, List.mem_append, h1, h1, h1]
  simp
end Go.Proofs.YtkkfilkmkdnboaaDoor
