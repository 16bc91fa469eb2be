import Derived.Test.YtkkfilkmkdnboaaDoorMz16
import Derived.Test.YtkkfilkmkdnboaaDoorMz15
import Derived.Test.YtkkfilkmkdnboaaDoorMz10
import Derived.Test.YtkkfilkmkdnboaaDoorMz14
/- Trees, plain, 5: what passes the check goes on passing it. -/
set_option linter.unusedSimpArgs false
set_option linter.unnecessarySimpa false
set_option linter.unusedVariables false
namespace Go.Proofs.YtkkfilkmkdnboaaDoor
open Go.Op

structure Right (t : List Ent) : Prop where
  len : t.length ≤ 60
  ent : ∀ x, x ∈ t → entErr x = 0
  rise : rising entLt t = true
  par : ∀ x, x ∈ t → folderErr t (parentOf x.path) = 0
theorem right_iff {t : List Ent} : treeErr t = 0 ↔ Right t := by
  constructor
  · intro h
    obtain ⟨h1, h2, h3, h4⟩ := treeErr_zero h
    exact ⟨h1, h2, h3, h4⟩
  · intro h
    have h1 : ¬ 60 < t.length := by have := h.len; omega
    have h2 : t.any (fun x => decide (parErr t x = 5)) = false := by
      rw [List.any_eq_false]; intro x hx
      have : parErr t x = 0 := h.par x hx
      simp [this]
    have h3 : t.any (fun x => decide (¬ parErr t x = 0)) = false := by
      rw [List.any_eq_false]; intro x hx
      have : parErr t x = 0 := h.par x hx
      simp [this]
    unfold treeErr
    rw [if_neg h1, if_pos (firstErr_zero.2 h.ent), if_pos h.rise, h2, h3]
    rfl
theorem folder_zero {t : List Ent} {q : Str} : folderErr t q = 0 ↔ q = [] ∨ ∃ y, look t q = some y ∧ y.fold = true := by
  unfold folderErr look
  by_cases hq : q = []
  · simp [hq]
  · rw [if_neg hq]
    cases h : t.find? (atP q) with
    | none => simp [hq]
    | some x => cases hf : x.fold <;> simp [hq, hf]
theorem right_names {p : Str} (h : pathErr p = 0) : ∀ n, n ∈ namesOf p → n ≠ [] := fun n hn e => by
  have := (pathErr_zero.1 h).1 n hn
  rw [e, isName_nil] at this; cases this
/-- The parent of a path within another one. -/
theorem par_names {p : Str} (h : (namesOf p).dropLast ≠ []) : namesOf (parentOf p) = (namesOf p).dropLast := by
  obtain ⟨h1, h2⟩ := split_ref p
  rw [← h2]
  exact names_path h fun n hn => namesOf_free p n (List.dropLast_subset _ hn)
theorem par_sub {p q : Str} (hp : pathErr p = 0) (hi : inB p q = true) (hne : ¬ q = p) : ¬ parentOf p = [] ∧ inB (parentOf p) q = true ∧ (namesOf (parentOf p)).length < (namesOf p).length := by
  have hpre := inB_names.1 hi
  obtain ⟨s, hs⟩ := hpre
  have hsn : s ≠ [] := fun e => hne (by
    rw [e, List.append_nil] at hs
    rw [← path_names q, hs, path_names])
  have hdl : (namesOf p).dropLast = namesOf q ++ s.dropLast := by rw [← hs, List.dropLast_append_of_ne_nil hsn]
  have hdn : (namesOf p).dropLast ≠ [] := by
    rw [hdl]; intro e
    exact namesOf_ne q (List.append_eq_nil_iff.1 e).1
  have hpn := par_names hdn
  refine ⟨fun e => ?_, ?_, ?_⟩
  · have hm : ([] : Str) ∈ namesOf (parentOf p) := by rw [e]; simp [namesOf]
    rw [hpn] at hm
    exact right_names hp [] (List.dropLast_subset _ hm) rfl
  · rw [inB_names, hpn, hdl]
    exact List.prefix_append _ _
  · rw [hpn, List.length_dropLast]
    have := names_pos' p
    omega
where names_pos' (p : Str) : 0 < (namesOf p).length := List.length_pos_iff.2 (namesOf_ne p)
theorem par_ne {p : Str} (hp : pathErr p = 0) : ¬ parentOf p = p := fun e => by
  obtain ⟨h1, h2⟩ := split_ref p
  have h3 : (namesOf p).dropLast ≠ [] ∨ (namesOf p).dropLast = [] := (Decidable.em _).symm
  rcases h3 with h3 | h3
  · have := par_names h3
    rw [e] at this
    have hl := congrArg List.length this
    rw [List.length_dropLast] at hl
    have := List.length_pos_iff.2 (namesOf_ne p)
    omega
  · rw [h3] at h2
    have : p = [] := by rw [← e, ← h2]; rfl
    subst this
    exact right_names hp [] (by simp [namesOf]) rfl
theorem par_in {p : Str} (hp : pathErr p = 0) (hne : ¬ parentOf p = []) : inB p (parentOf p) = true := by
  obtain ⟨h1, h2⟩ := split_ref p
  have hdn : (namesOf p).dropLast ≠ [] := fun e => hne (by rw [← h2, e]; rfl)
  rw [inB_names, par_names hdn]
  exact List.dropLast_prefix _
/-- What another one is within is there, and a folder. -/
theorem anc {t : List Ent} (h : Right t) : ∀ (n : Nat) (x : Ent), x ∈ t → (namesOf x.path).length = n → ∀ q, inB x.path q = true → ¬ q = x.path → ∃ y, look t q = some y ∧ y.fold = true := by
  intro n
  induction n using Nat.strongRecOn with
  | _ n ih =>
    intro x hx hn q hi hne
    have hpe := (entErr_zero (h.ent x hx)).1
    obtain ⟨h1, h2, h3⟩ := par_sub hpe hi hne
    rcases folder_zero.1 (h.par x hx) with h4 | ⟨y, h4, h5⟩
    · exact absurd h4 h1
    · obtain ⟨h6, h7⟩ := look_some h4
      by_cases hq : q = parentOf x.path
      · subst hq; exact ⟨y, h4, h5⟩
      · exact ih (namesOf y.path).length (by rw [h7]; omega) y h6 rfl q (by rw [h7]; exact h2) (by rw [h7]; exact hq)
/-- Where nothing is, nothing is within. -/
theorem none_in {t : List Ent} (h : Right t) {q p : Str} (hq : look t q = none) (hi : inB p q = true) : look t p = none := by
  cases hl : look t p with
  | none => rfl
  | some x =>
    obtain ⟨h1, h2⟩ := look_some hl
    by_cases e : q = p
    · subst e; rw [hq] at hl; cases hl
    · obtain ⟨y, h3, _⟩ := anc h _ x h1 rfl q (by rw [h2]; exact hi) (by rw [h2]; exact e)
      rw [hq] at h3; cases h3
theorem right_of_look {u : List Ent} (hs : rising entLt u = true) (hl : u.length ≤ 60) (h : ∀ p x, look u p = some x → entErr x = 0 ∧ (parentOf p = [] ∨ ∃ y, look u (parentOf p) = some y ∧ y.fold = true)) : Right u :=
  ⟨hl, fun x hx => (h _ x (look_mem hs hx)).1, hs, fun x hx => folder_zero.2 (h _ x (look_mem hs hx)).2⟩
theorem may_zero {t : List Ent} {c : Chg} (h : mayErr t c = 0) : folderErr t (parentOf (goalOf c)) = 0 ∧ isErr t c = 0 ∧ mvErr t c = 0 ∧ staleErr t c = 0 := by
  unfold mayErr at h
  split at h
  · contradiction
  · split at h
    · contradiction
    · split at h
      · contradiction
      · exact ⟨by omega, by omega, by omega, h⟩
theorem raw_zero {t : List Ent} {c : Chg} {v : Int} (h : rawE t c v = 0) : chgErr c = 0 ∧ mayErr t c = 0 ∧ doneE t c v = 0 := by
  unfold rawE at h
  split at h
  · contradiction
  · split at h
    · contradiction
    · exact ⟨by omega, by omega, h⟩
def backP (c : Chg) (p : Str) : Str := c.path ++ p.drop c.to.length
theorem back_of {c : Chg} {p : Str} (h : inB p c.to = true) : ∃ r, p = c.to ++ r ∧ backP c p = c.path ++ r ∧ inB (backP c p) c.path = true ∧ (r = [] ∨ r.head? = some 47) := by
  obtain ⟨r, rfl, hr⟩ := inB_iff.1 h
  have hb : backP c (c.to ++ r) = c.path ++ r := by simp [backP]
  exact ⟨r, rfl, hb, by rw [hb]; exact inB_iff.2 ⟨r, rfl, hr⟩, hr⟩
theorem goes_mem {t : List Ent} {c : Chg} {v : Int} {y : Ent} (h : y ∈ goesOf t c v) : ∃ x r, x ∈ t ∧ x.path = c.path ++ r ∧ (r = [] ∨ r.head? = some 47) ∧ y = moveTo c v x ∧ y.path = c.to ++ r := by
  obtain ⟨x, hx, rfl⟩ := List.mem_map.1 h
  obtain ⟨hx1, hx2⟩ := List.mem_filter.1 hx
  obtain ⟨r, hr, hr2⟩ := inB_iff.1 hx2
  exact ⟨x, r, hx1, hr, hr2, rfl, by simp [moveTo, hr]⟩
theorem look_goes {t : List Ent} {c : Chg} {v : Int} (hs : rising entLt t = true) (p : Str) : look (goesOf t c v) p = if inB p c.to = true then (look t (backP c p)).map (moveTo c v) else none := by
  split
  · rename_i h
    obtain ⟨r, rfl, hb, hbi, hr⟩ := back_of (c := c) h
    rw [hb] at hbi ⊢
    cases hl : look t (c.path ++ r) with
    | none =>
      rw [Option.map_none, look_none]
      intro y hy e
      obtain ⟨x, r', h1, h2, _, _, h3⟩ := goes_mem hy
      rw [h3] at e
      have := List.append_cancel_left e
      subst this
      exact look_none.1 hl x h1 h2
    | some x =>
      obtain ⟨h1, h2⟩ := look_some hl
      rw [Option.map_some]
      have hm : moveTo c v x ∈ goesOf t c v := List.mem_map.2 ⟨x, List.mem_filter.2 ⟨h1, by unfold inP; rw [h2]; exact hbi⟩, rfl⟩
      have hp : (moveTo c v x).path = c.to ++ r := by simp [moveTo, h2]
      cases hf : look (goesOf t c v) (c.to ++ r) with
      | none => exact absurd hp (look_none.1 hf _ hm)
      | some y =>
        obtain ⟨h3, h4⟩ := look_some hf
        obtain ⟨x', r', h5, h6, _, h7, h8⟩ := goes_mem h3
        rw [h8] at h4
        have := List.append_cancel_left h4
        subst this
        rw [h7, path_inj hs h1 h5 (by rw [h2, h6])]
  · rename_i h
    rw [look_none]
    intro y hy e
    obtain ⟨x, r, h1, h2, h3, _, h4⟩ := goes_mem hy
    exact h (inB_iff.2 ⟨r, by rw [← e, h4], h3⟩)
theorem goes_apart {t : List Ent} {c : Chg} {v : Int} (hs : rising entLt t = true) : (goesOf t c v).Pairwise fun a b => ¬ a.path = b.path := by
  unfold goesOf
  rw [List.pairwise_map]
  have h1 : (t.filter (inP c.path)).Pairwise (fun a b => bytesLess a.path b.path = true) := (rising_pairE.1 hs).sublist List.filter_sublist
  refine h1.imp_of_mem fun {a b} ha hb hlt => ?_
  obtain ⟨r, hr, _⟩ := inB_iff.1 (List.mem_filter.1 ha).2
  obtain ⟨s, hs', _⟩ := inB_iff.1 (List.mem_filter.1 hb).2
  intro e
  simp only [moveTo, hr, hs', List.drop_left] at e
  have := List.append_cancel_left e
  rw [hr, hs', this, bl_irr] at hlt
  cases hlt
theorem look_move {t : List Ent} {c : Chg} {v : Int} (h : Right t) (hk : c.kind = 3) (hto : look t c.to = none) (p : Str) : look (doneL t c v) p = if inB p c.to = true then (look t (backP c p)).map (moveTo c v) else if inB p c.path = true then none else look t p := by
  have hD : doneL t c v = (goesOf t c v).foldl putT (keepE (inP c.path) t) := by simp [doneL, hk]
  rw [hD, look_putAll (keepE_rising h.rise) (goes_apart h.rise), look_goes h.rise, look_keep]
  by_cases hi : inB p c.to = true
  · rw [if_pos hi, if_pos hi]
    cases hl : look t (backP c p) with
    | some x => rfl
    | none =>
      rw [Option.map_none]
      have := none_in h hto hi
      simp [this]
  · rw [if_neg hi, if_neg hi]
theorem par_app {a r : Str} : ∃ s, (∀ b : Str, parentOf (b ++ 47 :: r) = b ++ s) ∧ (s = [] ∨ s.head? = some 47) := by
  rcases split_at (c := 47) r with h | ⟨r1, r2, rfl, h⟩
  · exact ⟨[], fun b => by rw [(parent_at h).1]; simp, .inl rfl⟩
  · refine ⟨47 :: r1, fun b => ?_, .inr rfl⟩
    have := (parent_at (a := b ++ 47 :: r1) h).1
    rw [← this]; simp
theorem chg_text {c : Chg} (h : chgErr c = 0) : c.text.length ≤ 300 := by
  have := (chgErr_zero h).2.2.2.2
  unfold chgRest at this
  split at this
  · exact absurd this (by decide)
  · split at this
    · exact absurd this (by decide)
    · omega
theorem ent_ok {p : Str} {f : Bool} {s : Str} {v : Int} (h1 : pathErr p = 0) (h2 : f = true → s = []) (h3 : s.length ≤ 300) (h4 : isVer v = true) : entErr ⟨p, f, s, v⟩ = 0 := by
  unfold entErr
  simp only
  rw [if_pos h1, if_neg (fun e => e.2 (h2 e.1)), if_neg (by omega), if_pos h4]
theorem done_right {t : List Ent} {c : Chg} {v : Int} (h : Right t) (hv : isVer v = true) (hr : rawE t c v = 0) : Right (doneL t c v) := by
  obtain ⟨hc0, hm0, hd0⟩ := raw_zero hr
  obtain ⟨k1, k2, hpe, hte, -⟩ := chgErr_zero hc0
  obtain ⟨hf, hi, hmv, -⟩ := may_zero hm0
  obtain ⟨hb, h60⟩ := done_ok hd0
  have hs := doneL_rising (c := c) (v := v) h.rise
  have htx := chg_text hc0
  refine right_of_look hs h60 fun p x hx => ?_
  by_cases e1 : c.kind = 1
  · have hD : doneL t c v = putT t ⟨c.path, true, [], v⟩ := by simp [doneL, e1]
    have hg : goalOf c = c.path := by simp [goalOf, e1]
    rw [hg] at hf
    rw [hD, look_put h.rise] at hx
    have key : ∀ q, (∃ y, look t q = some y ∧ y.fold = true) → ∃ y, look (doneL t c v) q = some y ∧ y.fold = true := fun q ⟨y, h1, h2⟩ => by
      rw [hD, look_put h.rise]
      split
      · exact ⟨_, rfl, rfl⟩
      · exact ⟨y, h1, h2⟩
    split at hx
    · rename_i hp
      injection hx with hx
      subst hx; subst hp
      exact ⟨ent_ok hpe (fun _ => rfl) (by simp) hv, (folder_zero.1 hf).imp id (key _)⟩
    · obtain ⟨h1, h2⟩ := look_some hx
      refine ⟨h.ent x h1, ?_⟩
      have := folder_zero.1 (h.par x h1)
      rw [h2] at this
      exact this.imp id (key _)
  · by_cases e2 : c.kind = 2
    · have hD : doneL t c v = putT t ⟨c.path, false, c.text, v⟩ := by simp [doneL, e2]
      have hg : goalOf c = c.path := by simp [goalOf, e2]
      rw [hg] at hf
      rw [hD, look_put h.rise] at hx
      have hfa : ∀ y, look t c.path = some y → y.fold = false := fun y hy => by
        unfold isErr at hi
        rw [if_neg e1, if_pos e2] at hi
        unfold foldAt at hi
        rw [show t.find? (atP c.path) = some y from hy] at hi
        cases hyf : y.fold with
        | false => rfl
        | true => simp [hyf] at hi
      have key : ∀ q, (∃ y, look t q = some y ∧ y.fold = true) → ∃ y, look (doneL t c v) q = some y ∧ y.fold = true := fun q ⟨y, h1, h2⟩ => by
        rw [hD, look_put h.rise]
        split
        · rename_i e
          simp only at e
          rw [e] at h1
          rw [hfa y h1] at h2; cases h2
        · exact ⟨y, h1, h2⟩
      split at hx
      · rename_i hp
        injection hx with hx
        subst hx; subst hp
        exact ⟨ent_ok hpe (fun e => by cases e) htx hv, (folder_zero.1 hf).imp id (key _)⟩
      · obtain ⟨h1, h2⟩ := look_some hx
        refine ⟨h.ent x h1, ?_⟩
        have := folder_zero.1 (h.par x h1)
        rw [h2] at this
        exact this.imp id (key _)
    · by_cases e4 : c.kind = 4
      · have hD : doneL t c v = keepE (inP c.path) t := by simp [doneL, e4]
        rw [hD, look_keep] at hx
        split at hx
        · cases hx
        · rename_i hin
          obtain ⟨h1, h2⟩ := look_some hx
          refine ⟨h.ent x h1, ?_⟩
          have hxe := (entErr_zero (h.ent x h1)).1
          have := folder_zero.1 (h.par x h1)
          rw [h2] at this hxe
          rcases this with h3 | ⟨y, h3, h4⟩
          · exact .inl h3
          · refine .inr ⟨y, ?_, h4⟩
            rw [hD, look_keep, if_neg]
            · exact h3
            · intro h5
              have hne : ¬ parentOf p = [] := fun e => by
                rw [e] at h3
                obtain ⟨h6, h7⟩ := look_some h3
                have := (entErr_zero (h.ent y h6)).1
                rw [h7] at this
                exact right_names this [] (by simp [namesOf]) rfl
              exact hin (inB_trans (par_in hxe hne) h5)
      · have e3 : c.kind = 3 := by omega
        have hpt := hte e3
        have hg : goalOf c = c.to := by simp [goalOf, e3]
        rw [hg] at hf
        have hM : mvErr t c = if inB c.to c.path = true then 3 else if hitE t c.to = true then 6 else 0 := by unfold mvErr; rw [if_pos e3]
        rw [hmv] at hM
        have hin0 : inB c.to c.path = false := by
          cases h0 : inB c.to c.path with
          | true => rw [h0] at hM; simp at hM
          | false => rfl
        rw [hin0, if_neg (by decide)] at hM
        have hhit : hitE t c.to = false := by
          cases h0 : hitE t c.to with
          | true => rw [h0] at hM; simp at hM
          | false => rfl
        have hto : look t c.to = none := (hitE_none hhit).1
        have hlm := look_move (v := v) h e3 hto
        rw [hlm] at hx
        have nonil : ∀ q y, look t q = some y → ¬ q = [] := fun q y hy e => by
          obtain ⟨h6, h7⟩ := look_some hy
          have := (entErr_zero (h.ent y h6)).1
          rw [h7, e] at this
          exact right_names this [] (by simp [namesOf]) rfl
        split at hx
        · rename_i hi2
          obtain ⟨r, rfl, hb2, hbi, hr2⟩ := back_of (c := c) hi2
          rw [hb2] at hx hbi
          obtain ⟨x0, hx0, rfl⟩ := Option.map_eq_some_iff.1 hx
          obtain ⟨h1, h2⟩ := look_some hx0
          have he0 := entErr_zero (h.ent x0 h1)
          refine ⟨?_, ?_⟩
          · have hpm : pathErr (moveTo c v x0).path = 0 := by
              refine moveTo_right he0.1 hpe hpt (by rw [h2]; exact hbi) ?_
              simp only [moveBad, e3, decide_true, Bool.true_and, List.any_eq_false] at hb
              simpa using hb x0 (List.mem_filter.2 ⟨h1, by unfold inP; rw [h2]; exact hbi⟩)
            refine ent_ok hpm (fun e => ?_) he0.2.2.1 ?_
            · cases hs0 : x0.text with
              | nil => rfl
              | cons a s => exact absurd ⟨e, by rw [hs0]; simp⟩ he0.2.1
            · split
              · exact hv
              · exact he0.2.2.2
          · rcases hr2 with rfl | hr2
            · rw [List.append_nil]
              rcases folder_zero.1 hf with h3 | ⟨y, h3, h4⟩
              · exact .inl h3
              · refine .inr ⟨y, ?_, h4⟩
                have hne := nonil _ y h3
                have hpi := par_in hpt hne
                rw [hlm, if_neg, if_neg]
                · exact h3
                · intro h5
                  have := inB_trans hpi h5
                  rw [hin0] at this; cases this
                · intro h5
                  exact par_ne hpt (inB_anti h5 hpi)
            · cases r with
              | nil => cases hr2
              | cons a r =>
                simp at hr2
                subst hr2
                obtain ⟨s, hs1, hs2⟩ := par_app (a := c.to) (r := r)
                have hp0 := folder_zero.1 (h.par x0 h1)
                rw [h2, hs1 c.path] at hp0
                rcases hp0 with h3 | ⟨y, h3, h4⟩
                · have : c.path = [] := (List.append_eq_nil_iff.1 h3).1
                  rw [this] at hpe
                  exact absurd rfl (right_names hpe [] (by simp [namesOf]))
                · refine .inr ⟨moveTo c v y, ?_, h4⟩
                  have hin3 : inB (c.to ++ s) c.to = true := inB_iff.2 ⟨s, rfl, hs2⟩
                  rw [hs1 c.to, hlm, if_pos hin3, show backP c (c.to ++ s) = c.path ++ s from by simp [backP], h3]
                  rfl
        · rename_i hi2
          split at hx
          · cases hx
          · rename_i hi3
            obtain ⟨h1, h2⟩ := look_some hx
            refine ⟨h.ent x h1, ?_⟩
            have hxe := (entErr_zero (h.ent x h1)).1
            have := folder_zero.1 (h.par x h1)
            rw [h2] at this hxe
            rcases this with h3 | ⟨y, h3, h4⟩
            · exact .inl h3
            · have hpi := par_in hxe (nonil _ y h3)
              refine .inr ⟨y, ?_, h4⟩
              rw [hlm, if_neg (fun h5 => hi2 (inB_trans hpi h5)), if_neg (fun h5 => hi3 (inB_trans hpi h5))]
              exact h3
theorem Right.big {t : List Ent} (h : Right t) : EBig t := ⟨fun x hx => by
  have h1 := entErr_zero (h.ent x hx)
  have h2 := pathErr_small h1.1
  exact ⟨by omega, by omega⟩, by have := h.len; omega⟩
end Go.Proofs.YtkkfilkmkdnboaaDoor

/- The reference's trees, 1: PutEntry, SameEntries, treeIs. -/
set_option linter.unusedSimpArgs false
set_option linter.unnecessarySimpa false
set_option linter.unusedVariables false
set_option maxHeartbeats 1000000
namespace Go.Proofs.YtkkfilkmkdnboaaDoor
open Go.Ab Go.RowKit
set_option maxRecDepth 10000
attribute [local irreducible] Awp Ops OpsX Wanted Red ExOk Go.Ab.Fin ACall Rz RzL RzRows Enters ResOk RenV RenVL ArgV ArgVL

theorem take_two (o : List Ent) (r s : List AV) {y z : Ent} (hr : r = y.row := by rfl) (hs : s = z.row := by rfl) : (((o.map Ent.row).take o.length ++ [r]).take (o.length + 1)) ++ [s] = (o ++ ([y] ++ [z])).map Ent.row := by
  subst hr; subst hs
  have e1 : (o.map Ent.row).take o.length = o.map Ent.row := List.take_of_length_le (by simp)
  rw [e1, List.take_of_length_le (by simp)]
  simp
theorem a_putEntryR (t : List Ent) (x : Ent) (hl : t.length ≤ 400000) : AFn C.P 105 [entAV t, .agg x.row] (entAV (putR t x)) := by
  refine acall_intro Tryd.func105 rfl _ Tryd.ntmps105 (Nat.le_of_ble_eq_true rfl) _ Tryd.results105 0 rfl rfl ?_
  repeat' (first | refine walk ?_ | fail | ((first | (apply ops_split_t; rfl; rfl; exact nle rfl) | (apply ops_split_f; rfl; rfl; exact nle rfl) | (apply awp_cond; rfl)); all_goals (intro hc; have hp := hc; first | (simp at hp; done) | ((try simp at hp); first | (exfalso; omega) | skip))) | (apply awp_cond_any; rfl))
  refine Awp.red (red_nil 5 4 rfl (Nat.zero_le _)) ?_
  (refine Awp.red (red_ren (τ := ⟨[(0, entAV t), (3, .op 0 0 0), (5, .os 1 0 0), (6, .v (.bool false)), (7, .v (.int .i64 ((0 : Nat) : Int)))], [(0, .own false 4 [x.row]), (1, .own false 4 [])], 2⟩) [(0, 0), (1, 1)] rfl ?gts ?ghs) ?gmain; (case gts => (repeat (first | exact tsok_nil | refine p_pure ?_ | refine p_op ?_ | refine p_os ?_ | refine p_eq ?_ ?_)); all_goals skip); (case ghs => (repeat (first | exact hsok_nil | refine q_id ?_ | refine q_idx ?_ ?_))))
  refine awp_loop (fun n σ => ∃ i : Nat, i ≤ t.length ∧ n = t.length - i ∧ (True) ∧ σ = ⟨[(0, entAV t), (3, .op 0 0 0), (5, .os 1 0 (putF (t.take i) x).1.length), (6, .v (.bool (putF (t.take i) x).2)), (7, .v (.int .i64 (i : Int)))], [(0, .own false 4 [x.row]), (1, .own false 4 ((putF (t.take i) x).1.map Ent.row))], 2⟩) t.length ⟨0, Nat.zero_le _, rfl, trivial, rfl⟩ ?_
  rintro n σ ⟨i, hi, rfl, -, rfl⟩
  have hgl := putF_len (t.take i) x
  have htl : (t.take i).length ≤ t.length := by simp; omega
  by_cases hlt : i < t.length
  · have hr := getRow (f := Ent.row) hlt
    have hgs := @putF_succ t x i hlt
    generalize putF (t.take i) x = G at *
    obtain ⟨o, b⟩ := G
    simp only [putStep] at hgs
    have hgl : o.length ≤ 2 * (t.take i).length := hgl
    cases b <;> cases hless : Op.bytesLess t[i].path x.path <;> by_cases hpe : t[i].path = x.path
    all_goals try (exfalso; rw [hpe, bl_irr] at hless; exact absurd hless (by decide))
    all_goals simp only [hless, hpe, bl_irr, if_true, if_false, and_true, and_false, and_self, Bool.false_or, Bool.true_or, Bool.not_true, Bool.not_false, List.append_nil, Bool.true_eq_false, Bool.false_eq_true, List.append_assoc] at hgs
    all_goals (
      repeat' (first | refine walk ?_ | (first | (refine o_fzl ?_) | (refine o_appo ?_)) | ((first | (apply ops_split_t; rfl; rfl; exact nle rfl) | (apply ops_split_f; rfl; rfl; exact nle rfl) | (apply awp_cond; rfl)); all_goals (intro hc; have hp := hc; first | (simp at hp; done) | ((try simp at hp); first | (exfalso; omega) | skip))) | (apply awp_cond_any; rfl)))
    all_goals try (exfalso; first | omega | contradiction | (simp_all; done))
    · refine ⟨t.length - (i + 1), _, by omega, red_ren (τ := ⟨[(0, entAV t), (3, .op 0 0 0), (5, .os 1 0 (putF (t.take (i + 1)) x).1.length), (6, .v (.bool (putF (t.take (i + 1)) x).2)), (7, .v (.int .i64 ((i + 1 : Nat) : Int)))], [(0, .own false 4 [x.row]), (1, .own false 4 ((putF (t.take (i + 1)) x).1.map Ent.row))], 2⟩) [(0, 0), (2, 1)] rfl ?gts ?ghs, i + 1, by omega, rfl, trivial, rfl⟩; (case gts => (repeat (first | exact tsok_nil | refine p_pure ?_ | refine p_op ?_ | refine p_os ?_ | refine p_eq ?_ ?_)); all_goals (rw [hgs]; try first | (simp only [List.length_append, List.length_cons, List.length_nil, List.map_append, List.map_cons, List.map_nil, List.append_assoc, List.cons_append, List.nil_append]; done) | (rw [List.take_of_length_le (by simp)]; simp; done) | (simp; done) | exact take_two o x.row _)); (case ghs => (repeat (first | exact hsok_nil | refine q_id ?_ | refine q_idx ?_ ?_)); all_goals (rw [hgs]; try first | (simp only [List.length_append, List.length_cons, List.length_nil, List.map_append, List.map_cons, List.map_nil, List.append_assoc, List.cons_append, List.nil_append]; done) | (rw [List.take_of_length_le (by simp)]; simp; done) | (simp; done) | exact take_two o x.row _))
    · refine ⟨t.length - (i + 1), _, by omega, red_ren (τ := ⟨[(0, entAV t), (3, .op 0 0 0), (5, .os 1 0 (putF (t.take (i + 1)) x).1.length), (6, .v (.bool (putF (t.take (i + 1)) x).2)), (7, .v (.int .i64 ((i + 1 : Nat) : Int)))], [(0, .own false 4 [x.row]), (1, .own false 4 ((putF (t.take (i + 1)) x).1.map Ent.row))], 2⟩) [(0, 0), (3, 1)] rfl ?gts ?ghs, i + 1, by omega, rfl, trivial, rfl⟩; (case gts => (repeat (first | exact tsok_nil | refine p_pure ?_ | refine p_op ?_ | refine p_os ?_ | refine p_eq ?_ ?_)); all_goals (rw [hgs]; try first | (simp only [List.length_append, List.length_cons, List.length_nil, List.map_append, List.map_cons, List.map_nil, List.append_assoc, List.cons_append, List.nil_append]; done) | (rw [List.take_of_length_le (by simp)]; simp; done) | (simp; done) | exact take_two o x.row _)); (case ghs => (repeat (first | exact hsok_nil | refine q_id ?_ | refine q_idx ?_ ?_)); all_goals (rw [hgs]; try first | (simp only [List.length_append, List.length_cons, List.length_nil, List.map_append, List.map_cons, List.map_nil, List.append_assoc, List.cons_append, List.nil_append]; done) | (rw [List.take_of_length_le (by simp)]; simp; done) | (simp; done) | exact take_two o x.row _))
    · refine ⟨t.length - (i + 1), _, by omega, red_ren (τ := ⟨[(0, entAV t), (3, .op 0 0 0), (5, .os 1 0 (putF (t.take (i + 1)) x).1.length), (6, .v (.bool (putF (t.take (i + 1)) x).2)), (7, .v (.int .i64 ((i + 1 : Nat) : Int)))], [(0, .own false 4 [x.row]), (1, .own false 4 ((putF (t.take (i + 1)) x).1.map Ent.row))], 2⟩) [(0, 0), (2, 1)] rfl ?gts ?ghs, i + 1, by omega, rfl, trivial, rfl⟩; (case gts => (repeat (first | exact tsok_nil | refine p_pure ?_ | refine p_op ?_ | refine p_os ?_ | refine p_eq ?_ ?_)); all_goals (rw [hgs]; try first | (simp only [List.length_append, List.length_cons, List.length_nil, List.map_append, List.map_cons, List.map_nil, List.append_assoc, List.cons_append, List.nil_append]; done) | (rw [List.take_of_length_le (by simp)]; simp; done) | (simp; done) | exact take_two o x.row _)); (case ghs => (repeat (first | exact hsok_nil | refine q_id ?_ | refine q_idx ?_ ?_)); all_goals (rw [hgs]; try first | (simp only [List.length_append, List.length_cons, List.length_nil, List.map_append, List.map_cons, List.map_nil, List.append_assoc, List.cons_append, List.nil_append]; done) | (rw [List.take_of_length_le (by simp)]; simp; done) | (simp; done) | exact take_two o x.row _))
    · refine ⟨t.length - (i + 1), _, by omega, red_ren (τ := ⟨[(0, entAV t), (3, .op 0 0 0), (5, .os 1 0 (putF (t.take (i + 1)) x).1.length), (6, .v (.bool (putF (t.take (i + 1)) x).2)), (7, .v (.int .i64 ((i + 1 : Nat) : Int)))], [(0, .own false 4 [x.row]), (1, .own false 4 ((putF (t.take (i + 1)) x).1.map Ent.row))], 2⟩) [(0, 0), (1, 1)] rfl ?gts ?ghs, i + 1, by omega, rfl, trivial, rfl⟩; (case gts => (repeat (first | exact tsok_nil | refine p_pure ?_ | refine p_op ?_ | refine p_os ?_ | refine p_eq ?_ ?_)); all_goals (rw [hgs]; try first | (simp only [List.length_append, List.length_cons, List.length_nil, List.map_append, List.map_cons, List.map_nil, List.append_assoc, List.cons_append, List.nil_append]; done) | (rw [List.take_of_length_le (by simp)]; simp; done) | (simp; done) | exact take_two o x.row _)); (case ghs => (repeat (first | exact hsok_nil | refine q_id ?_ | refine q_idx ?_ ?_)); all_goals (rw [hgs]; try first | (simp only [List.length_append, List.length_cons, List.length_nil, List.map_append, List.map_cons, List.map_nil, List.append_assoc, List.cons_append, List.nil_append]; done) | (rw [List.take_of_length_le (by simp)]; simp; done) | (simp; done) | exact take_two o x.row _))
    · refine ⟨t.length - (i + 1), _, by omega, red_ren (τ := ⟨[(0, entAV t), (3, .op 0 0 0), (5, .os 1 0 (putF (t.take (i + 1)) x).1.length), (6, .v (.bool (putF (t.take (i + 1)) x).2)), (7, .v (.int .i64 ((i + 1 : Nat) : Int)))], [(0, .own false 4 [x.row]), (1, .own false 4 ((putF (t.take (i + 1)) x).1.map Ent.row))], 2⟩) [(0, 0), (2, 1)] rfl ?gts ?ghs, i + 1, by omega, rfl, trivial, rfl⟩; (case gts => (repeat (first | exact tsok_nil | refine p_pure ?_ | refine p_op ?_ | refine p_os ?_ | refine p_eq ?_ ?_)); all_goals (rw [hgs]; try first | (simp only [List.length_append, List.length_cons, List.length_nil, List.map_append, List.map_cons, List.map_nil, List.append_assoc, List.cons_append, List.nil_append]; done) | (rw [List.take_of_length_le (by simp)]; simp; done) | (simp; done) | exact take_two o x.row _)); (case ghs => (repeat (first | exact hsok_nil | refine q_id ?_ | refine q_idx ?_ ?_)); all_goals (rw [hgs]; try first | (simp only [List.length_append, List.length_cons, List.length_nil, List.map_append, List.map_cons, List.map_nil, List.append_assoc, List.cons_append, List.nil_append]; done) | (rw [List.take_of_length_le (by simp)]; simp; done) | (simp; done) | exact take_two o x.row _))
    · refine ⟨t.length - (i + 1), _, by omega, red_ren (τ := ⟨[(0, entAV t), (3, .op 0 0 0), (5, .os 1 0 (putF (t.take (i + 1)) x).1.length), (6, .v (.bool (putF (t.take (i + 1)) x).2)), (7, .v (.int .i64 ((i + 1 : Nat) : Int)))], [(0, .own false 4 [x.row]), (1, .own false 4 ((putF (t.take (i + 1)) x).1.map Ent.row))], 2⟩) [(0, 0), (2, 1)] rfl ?gts ?ghs, i + 1, by omega, rfl, trivial, rfl⟩; (case gts => (repeat (first | exact tsok_nil | refine p_pure ?_ | refine p_op ?_ | refine p_os ?_ | refine p_eq ?_ ?_)); all_goals (rw [hgs]; try first | (simp only [List.length_append, List.length_cons, List.length_nil, List.map_append, List.map_cons, List.map_nil, List.append_assoc, List.cons_append, List.nil_append]; done) | (rw [List.take_of_length_le (by simp)]; simp; done) | (simp; done) | exact take_two o x.row _)); (case ghs => (repeat (first | exact hsok_nil | refine q_id ?_ | refine q_idx ?_ ?_)); all_goals (rw [hgs]; try first | (simp only [List.length_append, List.length_cons, List.length_nil, List.map_append, List.map_cons, List.map_nil, List.append_assoc, List.cons_append, List.nil_append]; done) | (rw [List.take_of_length_le (by simp)]; simp; done) | (simp; done) | exact take_two o x.row _))
  obtain rfl : i = t.length := by omega
  rw [List.take_length] at *
  have hR : putR t x = if (putF t x).2 = true then (putF t x).1 else (putF t x).1 ++ [x] := rfl
  generalize putF t x = G at *
  obtain ⟨o, b⟩ := G
  have hgl : o.length ≤ 2 * t.length := hgl
  cases b
  · have hR : putR t x = o ++ [x] := hR
    rw [hR]
    repeat' (first | refine walk ?_ | (first | (refine o_fzl ?_) | (refine o_appo ?_)) | ((first | (apply ops_split_t; rfl; rfl; exact nle rfl) | (apply ops_split_f; rfl; rfl; exact nle rfl) | (apply awp_cond; rfl)); all_goals (intro hc; have hp := hc; first | (simp at hp; done) | ((try simp at hp); first | (exfalso; omega) | skip))) | (apply awp_cond_any; rfl))
    all_goals try (exfalso; omega)
    (refine f_pure (rs := [.tmp 4]) ?_; (repeat' (first | exact rzl_nil | apply rzl_cons | exact rz_pure rfl | exact rz_ex | exact z_os | apply rz_agg | apply rz_tup | apply rz_clo | apply rz_int | apply rz_bool | apply rz_str | refine z_eq ?_ | apply rz_sl)); all_goals (show (o.map Ent.row).take o.length ++ [x.row] = _; rw [List.take_of_length_le (by simp)]; simp))
  · have hR : putR t x = o := hR
    rw [hR]
    repeat' (first | refine walk ?_ | (first | (refine o_fzl ?_) | (refine o_appo ?_)) | ((first | (apply ops_split_t; rfl; rfl; exact nle rfl) | (apply ops_split_f; rfl; rfl; exact nle rfl) | (apply awp_cond; rfl)); all_goals (intro hc; have hp := hc; first | (simp at hp; done) | ((try simp at hp); first | (exfalso; omega) | skip))) | (apply awp_cond_any; rfl))
    all_goals try (exfalso; omega)
    (refine f_pure (rs := [.tmp 4]) ?_; (repeat' (first | exact rzl_nil | apply rzl_cons | exact rz_pure rfl | exact rz_ex | exact z_os | apply rz_agg | apply rz_tup | apply rz_clo | apply rz_int | apply rz_bool | apply rz_str | refine z_eq ?_ | apply rz_sl)); all_goals trace_state)
theorem eqK_ent : eqKs C.P 65 = some [1, 2, 1, 0] := by kernel_rfl
theorem rowEq_ent (a b : Ent) : rowEq [1, 2, 1, 0] a.row b.row = some (decide (a = b)) := by
  obtain ⟨a1, a2, a3, a4⟩ := a
  obtain ⟨b1, b2, b3, b4⟩ := b
  simp only [Ent.row, rowEq, cellEq, str, Ent.mk.injEq, if_true, Option.some.injEq]
  by_cases h1 : a1 = b1 <;> by_cases h2 : a2 = b2 <;> by_cases h3 : a3 = b3 <;> by_cases h4 : a4 = b4 <;> simp [h1, h2, h3, h4]
theorem take_same {α : Type} {a b : List α} {i : Nat} (h1 : i < a.length) (h2 : i < b.length) (h : a.take i = b.take i) (h3 : a[i] = b[i]) : a.take (i + 1) = b.take (i + 1) := by
  rw [List.take_succ_eq_append_getElem h1, List.take_succ_eq_append_getElem h2, h, h3]
theorem a_sameEntries (a b : List Ent) (ha : a.length ≤ 140737488355328) (hb : b.length ≤ 140737488355328) : AFn C.P 29 [entAV a, entAV b] (.v (.bool (decide (a = b)))) := by
  have hma : (a.map Ent.row).length = a.length := List.length_map ..
  have hmb : (b.map Ent.row).length = b.length := List.length_map ..
  refine acall_intro Tryd.func29 rfl _ Tryd.ntmps29 (Nat.le_of_ble_eq_true rfl) _ Tryd.results29 0 rfl rfl ?_
  repeat' (first | refine walk ?_ | fail | ((first | (apply awp_cond; rfl)); all_goals (intro hc; have hp := hc; first | (simp at hp; done) | ((try simp at hp); first | (exfalso; omega) | skip))) | (apply awp_cond_any; rfl))
  · apply fin_bool
    rfl
    have hne : ¬ a = b := fun e => by subst e; simp at *
    simp [hne]
  have hab : a.length = b.length := by simp at *; omega
  (refine Awp.red (red_pure (ts := [(0, entAV a), (1, entAV b), (5, .v (.int .i64 ((0 : Nat) : Int)))]) ?_) ?_; ((repeat (first | exact tsok_nil | refine p_pure ?_ | refine p_eq ?_ ?_))))
  refine awp_loop (fun n σ => ∃ i : Nat, i ≤ a.length ∧ n = a.length - i ∧ (a.take i = b.take i) ∧ σ = ⟨[(0, entAV a), (1, entAV b), (5, .v (.int .i64 (i : Int)))], [], C.nh⟩) a.length ⟨0, Nat.zero_le _, rfl, rfl, rfl⟩ ?_
  rintro n σ ⟨i, hi, rfl, hsofar, rfl⟩
  by_cases hlt : i < a.length
  · have hlt2 : i < b.length := by omega
    have hr := getRow (f := Ent.row) hlt
    have hr' := getRow (f := Ent.row) hlt2
    have hnx := take_same hlt hlt2 hsofar
    repeat' (first | refine walk ?_ | (first | (apply opsx_val; apply ex_rowEq; rfl; rfl; exact eqK_ent; exact rowEq_ent _ _; (first | exact .inl ⟨rfl, rfl⟩ | exact .inr ⟨rfl, rfl⟩); exact nle rfl)) | ((first | (apply awp_cond; rfl)); all_goals (intro hc; have hp := hc; first | (simp at hp; done) | ((try simp at hp); first | (exfalso; omega) | skip))) | (apply awp_cond_any; rfl))
    all_goals try (exfalso; omega)
    · apply fin_bool
      rfl
      have hne : ¬ a = b := fun e => by subst e; simp at *
      simp [hne]
    · refine ⟨a.length - (i + 1), _, by omega, red_pure (ts := [(0, entAV a), (1, entAV b), (5, .v (.int .i64 ((i + 1 : Nat) : Int)))]) ?_, i + 1, by omega, rfl, (hnx (by simp_all)), rfl⟩; ((repeat (first | exact tsok_nil | refine p_pure ?_ | refine p_eq ?_ ?_)))
  obtain rfl : i = a.length := by omega
  have he : a = b := by rw [List.take_length] at hsofar; rw [hsofar, hab, List.take_length]
  repeat' (first | refine walk ?_ | fail | ((first | (apply awp_cond; rfl)); all_goals (intro hc; have hp := hc; first | (simp at hp; done) | ((try simp at hp); first | (exfalso; omega) | skip))) | (apply awp_cond_any; rfl))
  all_goals try (exfalso; omega)
  apply fin_bool
  rfl
  simp [he]
def treeIsB (t : List Ent) (e w : Int) (want : List Ent) : Bool := decide (e = w) && decide (t = (if w = 0 then want else []))
theorem a_treeIs (t : List Ent) (e w : Int) (want : List Ent) (ht : t.length ≤ 140737488355328) (hw : want.length ≤ 140737488355328) : AFn C.P 24 [entAV t, .v (.int .i64 e), .v (.int .i64 w), entAV want] (.v (.bool (treeIsB t e w want))) := by
  have hE : treeIsB t e w want = (decide (e = w) && decide (t = (if w = 0 then want else []))) := rfl
  have h1 := a_sameEntries t want ht hw
  have h2 := a_sameEntries t [] ht (by simp)
  generalize treeIsB t e w want = E at *
  by_cases hz : w = 0
  · rw [if_pos hz] at hE
    generalize decide (t = want) = D at *
    refine acall_intro Tryd.func24 rfl _ Tryd.ntmps24 (Nat.le_of_ble_eq_true rfl) _ Tryd.results24 0 rfl rfl ?_
    repeat' (first | refine walk ?_ | (first | (apply to_call Tryd.func29 rfl rfl; intro hIsFn; refine o_callf hIsFn (h1 ..) ?_; skip)) | ((first | (apply ops_split_t; rfl; rfl; exact nle rfl) | (apply ops_split_f; rfl; rfl; exact nle rfl) | (apply awp_cond; rfl)); all_goals (intro hc; have hp := hc; first | (simp at hp; done) | ((try simp at hp); first | (exfalso; omega) | skip))) | (apply awp_cond_any; rfl))
    all_goals try (exfalso; omega)
    all_goals (apply fin_bool; rfl; simp_all)
  · rw [if_neg hz] at hE
    generalize decide (t = []) = D at *
    refine acall_intro Tryd.func24 rfl _ Tryd.ntmps24 (Nat.le_of_ble_eq_true rfl) _ Tryd.results24 0 rfl rfl ?_
    repeat' (first | refine walk ?_ | (first | (apply to_call Tryd.func29 rfl rfl; intro hIsFn; refine o_callf hIsFn (h2 ..) ?_; skip)) | ((first | (apply ops_split_t; rfl; rfl; exact nle rfl) | (apply ops_split_f; rfl; rfl; exact nle rfl) | (apply awp_cond; rfl)); all_goals (intro hc; have hp := hc; first | (simp at hp; done) | ((try simp at hp); first | (exfalso; omega) | skip))) | (apply awp_cond_any; rfl))
    all_goals try (exfalso; omega)
    all_goals (apply fin_bool; rfl; simp_all)
end Go.Proofs.YtkkfilkmkdnboaaDoor

/- The reference's trees, 2: ChangeOf: what is wrong ahead of the versions. -/
set_option linter.unusedSimpArgs false
set_option linter.unnecessarySimpa false
set_option linter.unusedVariables false
set_option maxHeartbeats 1000000
namespace Go.Proofs.YtkkfilkmkdnboaaDoor
open Go.Ab Go.RowKit
set_option maxRecDepth 10000
attribute [local irreducible] Awp Ops OpsX Wanted Red ExOk Go.Ab.Fin ACall Rz RzL RzRows Enters ResOk RenV RenVL ArgV ArgVL

def preErr (t : List Ent) (c : Chg) : Int :=
  if ¬ folderErr t (parentOf (goalOf c)) = 0 then folderErr t (parentOf (goalOf c))
  else if ¬ isErr t c = 0 then isErr t c else mvErr t c
theorem may_pre (t : List Ent) (c : Chg) : mayErr t c = if preErr t c = 0 then staleErr t c else preErr t c := by
  unfold mayErr preErr
  split <;> (try split) <;> (try split) <;> simp_all
end Go.Proofs.YtkkfilkmkdnboaaDoor

/- The reference's trees, 3: ChangeOf: folders and files. -/
set_option linter.unusedSimpArgs false
set_option linter.unnecessarySimpa false
set_option linter.unusedVariables false
set_option maxHeartbeats 1000000
namespace Go.Proofs.YtkkfilkmkdnboaaDoor
open Go.Ab Go.RowKit
set_option maxRecDepth 10000
attribute [local irreducible] Awp Ops OpsX Wanted Red ExOk Go.Ab.Fin ACall Rz RzL RzRows Enters ResOk RenV RenVL ArgV ArgVL

theorem pre_zero {t : List Ent} {c : Chg} (h : preErr t c = 0) : folderErr t (parentOf (goalOf c)) = 0 ∧ isErr t c = 0 ∧ mvErr t c = 0 := by
  unfold preErr at h
  split at h
  · contradiction
  · split at h
    · contradiction
    · exact ⟨by omega, by omega, h⟩
theorem chg_base {c : Chg} (h : chgErr c = 0) : -1 ≤ c.base := by
  have := (chgErr_zero h).2.2.2.2
  unfold chgRest at this
  split at this
  · exact absurd this (by decide)
  · split at this
    · exact absurd this (by decide)
    · split at this
      · exact absurd this (by decide)
      · omega
end Go.Proofs.YtkkfilkmkdnboaaDoor

/- The reference's trees, 4: ChangeOf: deletions; versions that are too old. -/
set_option linter.unusedSimpArgs false
set_option linter.unnecessarySimpa false
set_option linter.unusedVariables false
set_option maxHeartbeats 1000000
namespace Go.Proofs.YtkkfilkmkdnboaaDoor
open Go.Ab Go.RowKit
set_option maxRecDepth 10000
attribute [local irreducible] Awp Ops OpsX Wanted Red ExOk Go.Ab.Fin ACall Rz RzL RzRows Enters ResOk RenV RenVL ArgV ArgVL

theorem isErr_hit {t : List Ent} {c : Chg} (hk : 3 ≤ c.kind) (h : isErr t c = 0) : hitE t c.path = true := by
  unfold isErr at h
  rw [if_neg (by omega), if_neg (by omega)] at h
  cases hh : hitE t c.path with
  | true => rfl
  | false => simp [hh] at h
end Go.Proofs.YtkkfilkmkdnboaaDoor

/- The reference's trees, 5: ChangeOf: deletions. -/
set_option linter.unusedSimpArgs false
set_option linter.unnecessarySimpa false
set_option linter.unusedVariables false
set_option maxHeartbeats 1000000
namespace Go.Proofs.YtkkfilkmkdnboaaDoor
open Go.Ab Go.RowKit
set_option maxRecDepth 10000
attribute [local irreducible] Awp Ops OpsX Wanted Red ExOk Go.Ab.Fin ACall Rz RzL RzRows Enters ResOk RenV RenVL ArgV ArgVL

end Go.Proofs.YtkkfilkmkdnboaaDoor

/- The reference's trees, 6: ChangeOf: moves. -/
set_option linter.unusedSimpArgs false
set_option linter.unnecessarySimpa false
set_option linter.unusedVariables false
set_option maxHeartbeats 1000000
namespace Go.Proofs.YtkkfilkmkdnboaaDoor
open Go.Ab Go.RowKit
set_option maxRecDepth 10000
attribute [local irreducible] Awp Ops OpsX Wanted Red ExOk Go.Ab.Fin ACall Rz RzL RzRows Enters ResOk RenV RenVL ArgV ArgVL

end Go.Proofs.YtkkfilkmkdnboaaDoor

/- Changes in the abstract layer, 9: All. -/
set_option linter.unusedSimpArgs false
set_option linter.unnecessarySimpa false
set_option linter.unusedVariables false
set_option maxHeartbeats 1000000
namespace Go.Proofs.YtkkfilkmkdnboaaDoor
open Go.Ab Go.RowKit
set_option maxRecDepth 10000
attribute [local irreducible] Awp Ops OpsX Wanted Red ExOk Go.Ab.Fin ACall Rz RzL RzRows Enters ResOk RenV RenVL ArgV ArgVL

/-- All changes, one after the other: the tree, how many, the error. -/
def allR (v : Int) : List Ent → List Chg → Nat → List Ent × Nat × Int
  | t, [], n => (t, n, 0)
  | t, c :: l, n => if rawE t c v = 0 then allR v (doneL t c v) l (n + 1) else ([], n, rawE t c v)
def allT (v : Int) (t : List Ent) (l : List Chg) : List Ent × Nat × Int :=
  if ¬ treeErr t = 0 then ([], 0, treeErr t) else if 20 < l.length then ([], 0, 2) else if isVer v = false ∧ 0 < l.length then ([], 0, 3) else allR v t l 0
def resAll (r : List Ent × Nat × Int) : AV := .tup [entAV r.1, .v (.int .i64 (r.2.1 : Nat)), .v (.int .i64 r.2.2)]
theorem allR_drop {v : Int} {t : List Ent} {l : List Chg} {i : Nat} (h : i < l.length) : allR v t (l.drop i) i = if rawE t l[i] v = 0 then allR v (doneL t l[i] v) (l.drop (i + 1)) (i + 1) else ([], i, rawE t l[i] v) := by
  rw [List.drop_eq_getElem_cons h]; rfl
theorem a_all (t : List Ent) (l : List Chg) (v : Int) (hb : EBig t) (hcb : CBig l) : AFn C.P 48 [entAV t, chgAV l, .v (.int .i64 v)] (resAll (allT v t l)) := by
  have h1 := a_checkT t hb
  have h2 := a_isVerT v
  have hll := hcb.len
  have hml : (l.map Chg.row).length = l.length := List.length_map ..
  have hE : allT v t l = if ¬ treeErr t = 0 then ([], 0, treeErr t) else if 20 < l.length then ([], 0, 2) else if isVer v = false ∧ 0 < l.length then ([], 0, 3) else allR v t l 0 := rfl
  by_cases hte : treeErr t = 0
  · rw [if_neg (by simp [hte])] at hE
    have hR := RightE.of hte
    rw [hte] at h1
    have h60 := (treeErr_zero hte).1
    have h3 := a_cloneE t (by omega)
    by_cases h20 : 20 < l.length
    · rw [if_pos h20] at hE
      rw [hE]
      refine acall_intro Tryd.func48 rfl _ Tryd.ntmps48 (Nat.le_of_ble_eq_true rfl) _ Tryd.results48 0 rfl rfl ?_
      repeat' (first | refine walk ?_ | (first | (refine o_fzl ?_) | (apply to_call Tryd.func58 rfl rfl; intro hIsFn; refine o_callp hIsFn (h1 ..) ?_)) | ((first | (apply ops_split_t; rfl; rfl; exact nle rfl) | (apply ops_split_f; rfl; rfl; exact nle rfl) | (apply awp_cond; rfl)); all_goals (intro hc; have hp := hc; first | (simp at hp; done) | ((try simp at hp); first | (exfalso; omega) | skip))) | (apply awp_cond_any; rfl))
      all_goals try (exfalso; omega)
      all_goals try (exfalso; first | omega | (simp_all; done) | (simp_all; omega))
      all_goals ((refine f_pure (rs := [.tmp 6, .tmp 7, .tmp 8]) ?_; (repeat' (first | exact rzl_nil | apply rzl_cons | exact rz_pure rfl | exact rz_ex | exact z_os | apply rz_agg | apply rz_tup | apply rz_clo | apply rz_int | apply rz_bool | apply rz_str | refine z_eq ?_ | apply rz_sl)); all_goals trace_state))
    · rw [if_neg h20] at hE
      by_cases hv : isVer v = false ∧ 0 < l.length
      · rw [if_pos hv] at hE
        rw [hE]
        rw [hv.1] at h2
        refine acall_intro Tryd.func48 rfl _ Tryd.ntmps48 (Nat.le_of_ble_eq_true rfl) _ Tryd.results48 0 rfl rfl ?_
        repeat' (first | refine walk ?_ | (first | (refine o_fzl ?_) | (apply to_call Tryd.func58 rfl rfl; intro hIsFn; refine o_callp hIsFn (h1 ..) ?_) | (apply to_call Tryd.func78 rfl rfl; intro hIsFn; refine o_callf hIsFn (h2 ..) ?_; skip)) | ((first | (apply ops_split_t; rfl; rfl; exact nle rfl) | (apply ops_split_f; rfl; rfl; exact nle rfl) | (apply awp_cond; rfl)); all_goals (intro hc; have hp := hc; first | (simp at hp; done) | ((try simp at hp); first | (exfalso; omega) | skip))) | (apply awp_cond_any; rfl))
        all_goals try (exfalso; omega)
        all_goals try (exfalso; first | omega | (simp_all; done) | (simp_all; omega))
        all_goals ((refine f_pure (rs := [.tmp 6, .tmp 7, .tmp 8]) ?_; (repeat' (first | exact rzl_nil | apply rzl_cons | exact rz_pure rfl | exact rz_ex | exact z_os | apply rz_agg | apply rz_tup | apply rz_clo | apply rz_int | apply rz_bool | apply rz_str | refine z_eq ?_ | apply rz_sl)); all_goals trace_state))
      · rw [if_neg hv] at hE
        generalize hV : isVer v = V at *
        have hv2 : V = false → l.length = 0 := fun h => by
          rcases Nat.eq_zero_or_pos l.length with h4 | h4
          · exact h4
          · exact absurd ⟨h, h4⟩ hv
        clear hV
        generalize hA : allT v t l = A at *
        clear hA
        refine acall_intro Tryd.func48 rfl _ Tryd.ntmps48 (Nat.le_of_ble_eq_true rfl) _ Tryd.results48 0 rfl rfl ?_
        repeat' (first | refine walk ?_ | (first | (refine o_fzl ?_) | (apply to_call Tryd.func58 rfl rfl; intro hIsFn; refine o_callp hIsFn (h1 ..) ?_) | (apply to_call Tryd.func78 rfl rfl; intro hIsFn; refine o_callf hIsFn (h2 ..) ?_; skip) | (apply to_call Tryd.func43 rfl rfl; intro hIsFn; refine o_callo ([]) hIsFn (h3 ..) ?_)) | ((first | (apply ops_split_t; rfl; rfl; exact nle rfl) | (apply ops_split_f; rfl; rfl; exact nle rfl) | (apply awp_cond; rfl)); all_goals (intro hc; have hp := hc; first | (simp at hp; done) | ((try simp at hp); first | (exfalso; omega) | skip))) | (apply awp_cond_any; rfl))
        all_goals try (exfalso; omega)
        all_goals try (exfalso; first | omega | (simp_all; done) | (simp_all; omega))
        all_goals (
          refine Awp.red (red_freeze 0 rfl (by intro row hrow; obtain ⟨x, _, rfl⟩ := List.mem_map.1 hrow; rfl)) ?_
          refine Awp.red (red_fs 0 0 rfl rfl (by simp)) ?_
          (refine Awp.red (red_pure (ts := [(0, entAV t), (1, chgAV l), (2, .v (.int .i64 v)), (33, chgAV l), (34, .v (.int .i64 l.length)), (35, .v (.int .i64 ((0 : Nat) : Int)))]) ?_) ?_; ((repeat (first | exact tsok_nil | refine p_pure ?_ | refine p_eq ?_ ?_))))
          all_goals try (rw [List.length_map]; done)
          all_goals try (rw [List.drop_zero, List.take_of_length_le (by simp)]; rfl)
          refine awp_loop (fun n σ => ∃ (i : Nat) (u : List Ent), i ≤ l.length ∧ n = l.length - i ∧ (A = allR v u (l.drop i) i ∧ RightE u) ∧ σ = ⟨[(0, entAV u), (1, chgAV l), (2, .v (.int .i64 v)), (33, chgAV l), (34, .v (.int .i64 l.length)), (35, .v (.int .i64 (i : Int)))], [], C.nh⟩) l.length ⟨0, t, Nat.zero_le _, rfl, ⟨by rw [hE]; rfl, hR⟩, rfl⟩ ?_
          rintro n σ ⟨i, u, hi, rfl, ⟨hA, hRu⟩, rfl⟩
          by_cases hlt : i < l.length
          · have hr := getRow (f := Chg.row) hlt
            have hraw := a_rawT u l[i] v hRu (hcb.each _ (List.getElem_mem _))
            rw [allR_drop hlt] at hA
            have hL : rawL u l[i] v = if rawE u l[i] v = 0 then doneL u l[i] v else [] := rfl
            by_cases hz : rawE u l[i] v = 0
            · have hRn := hRu.done hz
              rw [if_pos hz] at hA hL
              rw [hL, hz] at hraw
              generalize doneL u l[i] v = U at *
              clear hE hL hz
              repeat' (first | refine walk ?_ | (first | (apply to_call Tryd.func79 rfl rfl; intro hIsFn; refine o_callp hIsFn (hraw ..) ?_)) | ((first | (apply ops_split_t; rfl; rfl; exact nle rfl) | (apply ops_split_f; rfl; rfl; exact nle rfl) | (apply awp_cond; rfl)); all_goals (intro hc; have hp := hc; first | (simp at hp; done) | ((try simp at hp); first | (exfalso; omega) | skip))) | (apply awp_cond_any; rfl))
              all_goals try (exfalso; omega)
              refine ⟨l.length - (i + 1), _, by omega, red_pure (ts := [(0, entAV U), (1, chgAV l), (2, .v (.int .i64 v)), (33, chgAV l), (34, .v (.int .i64 l.length)), (35, .v (.int .i64 ((i + 1 : Nat) : Int)))]) ?_, i + 1, U, by omega, rfl, ⟨hA, hRn⟩, rfl⟩
              (repeat (first | exact tsok_nil | refine p_pure ?_ | refine p_eq ?_ ?_))
            · rw [if_neg hz] at hA hL
              rw [hL] at hraw
              rw [hA]
              generalize rawE u l[i] v = E at *
              clear hE hL hA
              repeat' (first | refine walk ?_ | (first | (apply to_call Tryd.func79 rfl rfl; intro hIsFn; refine o_callp hIsFn (hraw ..) ?_)) | ((first | (apply ops_split_t; rfl; rfl; exact nle rfl) | (apply ops_split_f; rfl; rfl; exact nle rfl) | (apply awp_cond; rfl)); all_goals (intro hc; have hp := hc; first | (simp at hp; done) | ((try simp at hp); first | (exfalso; omega) | skip))) | (apply awp_cond_any; rfl))
              all_goals try (exfalso; omega)
              (refine f_pure (rs := [.tmp 6, .tmp 7, .tmp 8]) ?_; (repeat' (first | exact rzl_nil | apply rzl_cons | exact rz_pure rfl | exact rz_ex | exact z_os | apply rz_agg | apply rz_tup | apply rz_clo | apply rz_int | apply rz_bool | apply rz_str | refine z_eq ?_ | apply rz_sl)); all_goals trace_state)
          obtain rfl : i = l.length := by omega
          rw [List.drop_length] at hA
          have hA : A = (u, l.length, 0) := hA
          rw [hA]
          clear hE hA
          repeat' (first | refine walk ?_ | fail | ((first | (apply ops_split_t; rfl; rfl; exact nle rfl) | (apply ops_split_f; rfl; rfl; exact nle rfl) | (apply awp_cond; rfl)); all_goals (intro hc; have hp := hc; first | (simp at hp; done) | ((try simp at hp); first | (exfalso; omega) | skip))) | (apply awp_cond_any; rfl))
          all_goals try (exfalso; omega)
          (refine f_pure (rs := [.tmp 6, .tmp 7, .tmp 8]) ?_; (repeat' (first | exact rzl_nil | apply rzl_cons | exact rz_pure rfl | exact rz_ex | exact z_os | apply rz_agg | apply rz_tup | apply rz_clo | apply rz_int | apply rz_bool | apply rz_str | refine z_eq ?_ | apply rz_sl)); all_goals (rw [List.length_map])))
  · rw [if_pos hte] at hE
    rw [hE]
    generalize treeErr t = E at *
    refine acall_intro Tryd.func48 rfl _ Tryd.ntmps48 (Nat.le_of_ble_eq_true rfl) _ Tryd.results48 0 rfl rfl ?_
    repeat' (first | refine walk ?_ | (first | (refine o_fzl ?_) | (apply to_call Tryd.func58 rfl rfl; intro hIsFn; refine o_callp hIsFn (h1 ..) ?_)) | ((first | (apply ops_split_t; rfl; rfl; exact nle rfl) | (apply ops_split_f; rfl; rfl; exact nle rfl) | (apply awp_cond; rfl)); all_goals (intro hc; have hp := hc; first | (simp at hp; done) | ((try simp at hp); first | (exfalso; omega) | skip))) | (apply awp_cond_any; rfl))
    all_goals try (exfalso; omega)
    all_goals ((refine f_pure (rs := [.tmp 6, .tmp 7, .tmp 8]) ?_; (repeat' (first | exact rzl_nil | apply rzl_cons | exact rz_pure rfl | exact rz_ex | exact z_os | apply rz_agg | apply rz_tup | apply rz_clo | apply rz_int | apply rz_bool | apply rz_str | refine z_eq ?_ | apply rz_sl)); all_goals trace_state))
end Go.Proofs.YtkkfilkmkdnboaaDoor

/- The reference's trees, 7: ChangeOf, AllOf; the laws TreeApplies, TreeAlls, TreeFinds, TreeChecks. -/
set_option linter.unusedSimpArgs false
set_option linter.unnecessarySimpa false
set_option linter.unusedVariables false
set_option maxHeartbeats 1000000
namespace Go.Proofs.YtkkfilkmkdnboaaDoor
open Go.Ab Go.RowKit
set_option maxRecDepth 10000
attribute [local irreducible] Awp Ops OpsX Wanted Red ExOk Go.Ab.Fin ACall Rz RzL RzRows Enters ResOk RenV RenVL ArgV ArgVL

theorem raw_pre (t : List Ent) (c : Chg) (v : Int) : rawE t c v = if ¬ chgErr c = 0 then chgErr c else if ¬ preErr t c = 0 then preErr t c else if ¬ staleErr t c = 0 then staleErr t c else doneE t c v := by
  unfold rawE
  rw [may_pre]
  by_cases h0 : chgErr c = 0 <;> by_cases h1 : preErr t c = 0 <;> by_cases h2 : staleErr t c = 0 <;> simp [h0, h1, h2]
theorem stale_8 {t : List Ent} {c : Chg} (h : ¬ staleErr t c = 0) : staleErr t c = 8 := by
  unfold staleErr at *
  split at h
  · rename_i h1; rw [if_pos h1]
  · exact absurd rfl h
theorem done_60 {t : List Ent} {c : Chg} {v : Int} (hr : rawE t c v = 0) : (doneL t c v).length ≤ 60 := by
  unfold rawE at hr
  split at hr
  · contradiction
  · split at hr
    · contradiction
    · exact (done_ok hr).2
def allW (t : List Ent) (l : List Chg) (v : Int) : List Ent × Nat × Int := if 20 < l.length then ([], 0, 2) else if isVer v = false ∧ 0 < l.length then ([], 0, 3) else allR v t l 0
theorem allT_eq (t : List Ent) (l : List Chg) (v : Int) : allT v t l = if ¬ treeErr t = 0 then ([], 0, treeErr t) else allW t l v := rfl

theorem a_treeBegun : AFn C.P 36 [] (.v (.bool true)) := by
  have h1 : AFn C.P 69 [.sl false [], .agg [.v (.int .i64 1), .v (str [97]), .v (str []), .v (str []), .v (.int .i64 0)], .v (.int .i64 5)] (.tup [entAV [⟨[97], true, [], 5⟩], .v (.int .i64 0)]) := by
    have h := a_apply [] ⟨1, [97], [], [], 0⟩ 5 ⟨by simp, by simp⟩ ⟨by simp, by simp, by simp⟩
    rw [show applyL [] ⟨1, [97], [], [], 0⟩ 5 = [⟨[97], true, [], 5⟩] from by decide +kernel, show applyE [] ⟨1, [97], [], [], 0⟩ 5 = 0 from by decide +kernel] at h
    exact h
  have h2 : AFn C.P 48 [entAV [⟨[97], true, [], 5⟩], .sl false [[.v (.int .i64 2), .v (str [97, 47, 98]), .v (str []), .v (str [120]), .v (.int .i64 (-1))]], .v (.int .i64 6)] (.tup [entAV [⟨[97], true, [], 5⟩, ⟨[97, 47, 98], false, [120], 6⟩], .v (.int .i64 1), .v (.int .i64 0)]) := by
    have h := a_all [⟨[97], true, [], 5⟩] [⟨2, [97, 47, 98], [], [120], -1⟩] 6 ⟨by simp [Ent.small], by simp⟩ ⟨by simp [Chg.small], by simp⟩
    rw [show allT 6 [⟨[97], true, [], 5⟩] [⟨2, [97, 47, 98], [], [120], -1⟩] = ([⟨[97], true, [], 5⟩, ⟨[97, 47, 98], false, [120], 6⟩], 1, 0) from by decide +kernel] at h
    exact h
  refine acall_intro Tryd.func36 rfl _ Tryd.ntmps36 (Nat.le_of_ble_eq_true rfl) _ Tryd.results36 0 rfl rfl ?_
  repeat' (first | refine walk ?_ | (first | (refine o_fzl ?_) | (apply to_call Tryd.func69 rfl rfl; intro hIsFn; refine o_callp hIsFn (h1 ..) ?_) | (apply to_call Tryd.func48 rfl rfl; intro hIsFn; refine o_callp hIsFn (h2 ..) ?_)) | ((first | (apply ops_split_t; rfl; rfl; exact nle rfl) | (apply ops_split_f; rfl; rfl; exact nle rfl) | (apply awp_cond; rfl)); all_goals (intro hc; have hp := hc; first | (simp at hp; done) | ((try simp at hp); first | (exfalso; omega) | skip))) | (apply awp_cond_any; rfl))
  all_goals try (exfalso; simp_all; done)
  all_goals (apply fin_bool; rfl; simp; done)
end Go.Proofs.YtkkfilkmkdnboaaDoor

/- The laws TreeChecks, TreeFinds, TreeApplies, TreeAlls, walked. -/
set_option linter.unusedSimpArgs false
set_option linter.unnecessarySimpa false
set_option linter.unusedVariables false
set_option maxHeartbeats 1000000
namespace Go.Proofs.YtkkfilkmkdnboaaDoor
open Go.Ab Go.RowKit
set_option maxRecDepth 10000
attribute [local irreducible] Awp Ops OpsX Wanted Red ExOk Go.Ab.Fin ACall Rz RzL RzRows Enters ResOk RenV RenVL ArgV ArgVL

theorem allR_bad (v : Int) : ∀ (l : List Chg) (t : List Ent) (n : Nat), ¬ (allR v t l n).2.2 = 0 → (allR v t l n).1 = []
  | [], t, n, h => absurd rfl h
  | c :: l, t, n, h => by
    unfold allR at *
    split
    · rename_i h1; rw [if_pos h1] at h; exact allR_bad v l _ _ h
    · rfl
theorem allR_len (v : Int) : ∀ (l : List Chg) (t : List Ent) (n : Nat), t.length ≤ 60 → (allR v t l n).1.length ≤ 60
  | [], t, n, h => h
  | c :: l, t, n, h => by
    unfold allR
    split
    · rename_i h1; exact allR_len v l _ _ (done_60 h1)
    · simp
end Go.Proofs.YtkkfilkmkdnboaaDoor

/- Paths: Pa8, under the name that the trees know it by. -/
