import Derived.Test.YtiljlcgmcmjcoaaGreatDoorMz11
import Derived.Test.YtiljlcgmcmjcoaaGreatDoorMz1
import Derived.Test.YtiljlcgmcmjcoaaGreatDoorMz9
import Derived.Test.YtiljlcgmcmjcoaaGreatDoorMz7
import Derived.Test.YtiljlcgmcmjcoaaGreatDoorMz10
/- Trees, plain, 5: what passes the check goes on passing it. -/
set_option linter.unusedSimpArgs false
set_option linter.unnecessarySimpa false
set_option linter.unusedVariables false
namespace Go.Proofs.YtiljlcgmcmjcoaaGreatDoor
open Go.Op

structure Right (t : List Ent) : Prop where
  len : t.length ≤ 60
  ent : ∀ x, x ∈ t → entErr x = 0
  rise : rising entLt t = true
  par : ∀ x, x ∈ t → folderErr t (parentOf x.path) = 0
theorem right_iff {t : List Ent} : treeErr t = 0 ↔ Right t := by
  constructor
  · intro h
    obtain ⟨h1, h2, h3, h4⟩ := treeErr_zero h
    exact ⟨h1, h2, h3, h4⟩
  · intro h
    have h1 : ¬ 60 < t.length := by have := h.len; omega
    have h2 : t.any (fun x => decide (parErr t x = 5)) = false := by
      rw [List.any_eq_false]; intro x hx
      have : parErr t x = 0 := h.par x hx
      simp [this]
    have h3 : t.any (fun x => decide (¬ parErr t x = 0)) = false := by
      rw [List.any_eq_false]; intro x hx
      have : parErr t x = 0 := h.par x hx
      simp [this]
    unfold treeErr
    rw [if_neg h1, if_pos (firstErr_zero.2 h.ent), if_pos h.rise, h2, h3]
    rfl
theorem folder_zero {t : List Ent} {q : Str} : folderErr t q = 0 ↔ q = [] ∨ ∃ y, look t q = some y ∧ y.fold = true := by
  unfold folderErr look
  by_cases hq : q = []
  · simp [hq]
  · rw [if_neg hq]
    cases h : t.find? (atP q) with
    | none => simp [hq]
    | some x => cases hf : x.fold <;> simp [hq, hf]
theorem right_names {p : Str} (h : pathErr p = 0) : ∀ n, n ∈ namesOf p → n ≠ [] := fun n hn e => by
  have := (pathErr_zero.1 h).1 n hn
  rw [e, isName_nil] at this; cases this
/-- The parent of a path within another one. -/
theorem par_names {p : Str} (h : (namesOf p).dropLast ≠ []) : namesOf (parentOf p) = (namesOf p).dropLast := by
  obtain ⟨h1, h2⟩ := split_ref p
  rw [← h2]
  exact names_path h fun n hn => namesOf_free p n (List.dropLast_subset _ hn)
theorem par_sub {p q : Str} (hp : pathErr p = 0) (hi : inB p q = true) (hne : ¬ q = p) : ¬ parentOf p = [] ∧ inB (parentOf p) q = true ∧ (namesOf (parentOf p)).length < (namesOf p).length := by
  have hpre := inB_names.1 hi
  obtain ⟨s, hs⟩ := hpre
  have hsn : s ≠ [] := fun e => hne (by
    rw [e, List.append_nil] at hs
    rw [← path_names q, hs, path_names])
  have hdl : (namesOf p).dropLast = namesOf q ++ s.dropLast := by rw [← hs, List.dropLast_append_of_ne_nil hsn]
  have hdn : (namesOf p).dropLast ≠ [] := by
    rw [hdl]; intro e
    exact namesOf_ne q (List.append_eq_nil_iff.1 e).1
  have hpn := par_names hdn
  refine ⟨fun e => ?_, ?_, ?_⟩
  · have hm : ([] : Str) ∈ namesOf (parentOf p) := by rw [e]; simp [namesOf]
    rw [hpn] at hm
    exact right_names hp [] (List.dropLast_subset _ hm) rfl
  · rw [inB_names, hpn, hdl]
    exact List.prefix_append _ _
  · rw [hpn, List.length_dropLast]
    have := names_pos' p
    omega
where names_pos' (p : Str) : 0 < (namesOf p).length := List.length_pos_iff.2 (namesOf_ne p)
theorem par_ne {p : Str} (hp : pathErr p = 0) : ¬ parentOf p = p := fun e => by
  obtain ⟨h1, h2⟩ := split_ref p
  have h3 : (namesOf p).dropLast ≠ [] ∨ (namesOf p).dropLast = [] := (Decidable.em _).symm
  rcases h3 with h3 | h3
  · have := par_names h3
    rw [e] at this
    have hl := congrArg List.length this
    rw [List.length_dropLast] at hl
    have := List.length_pos_iff.2 (namesOf_ne p)
    omega
  · rw [h3] at h2
    have : p = [] := by rw [← e, ← h2]; rfl
    subst this
    exact right_names hp [] (by simp [namesOf]) rfl
theorem par_in {p : Str} (hp : pathErr p = 0) (hne : ¬ parentOf p = []) : inB p (parentOf p) = true := by
  obtain ⟨h1, h2⟩ := split_ref p
  have hdn : (namesOf p).dropLast ≠ [] := fun e => hne (by rw [← h2, e]; rfl)
  rw [inB_names, par_names hdn]
  exact List.dropLast_prefix _
/-- What another one is within is there, and a folder. -/
theorem anc {t : List Ent} (h : Right t) : ∀ (n : Nat) (x : Ent), x ∈ t → (namesOf x.path).length = n → ∀ q, inB x.path q = true → ¬ q = x.path → ∃ y, look t q = some y ∧ y.fold = true := by
  intro n
  induction n using Nat.strongRecOn with
  | _ n ih =>
    intro x hx hn q hi hne
    have hpe := (entErr_zero (h.ent x hx)).1
    obtain ⟨h1, h2, h3⟩ := par_sub hpe hi hne
    rcases folder_zero.1 (h.par x hx) with h4 | ⟨y, h4, h5⟩
    · exact absurd h4 h1
    · obtain ⟨h6, h7⟩ := look_some h4
      by_cases hq : q = parentOf x.path
      · subst hq; exact ⟨y, h4, h5⟩
      · exact ih (namesOf y.path).length (by rw [h7]; omega) y h6 rfl q (by rw [h7]; exact h2) (by rw [h7]; exact hq)
/-- Where nothing is, nothing is within. -/
theorem none_in {t : List Ent} (h : Right t) {q p : Str} (hq : look t q = none) (hi : inB p q = true) : look t p = none := by
  cases hl : look t p with
  | none => rfl
  | some x =>
    obtain ⟨h1, h2⟩ := look_some hl
    by_cases e : q = p
    · subst e; rw [hq] at hl; cases hl
    · obtain ⟨y, h3, _⟩ := anc h _ x h1 rfl q (by rw [h2]; exact hi) (by rw [h2]; exact e)
      rw [hq] at h3; cases h3
theorem right_of_look {u : List Ent} (hs : rising entLt u = true) (hl : u.length ≤ 60) (h : ∀ p x, look u p = some x → entErr x = 0 ∧ (parentOf p = [] ∨ ∃ y, look u (parentOf p) = some y ∧ y.fold = true)) : Right u :=
  ⟨hl, fun x hx => (h _ x (look_mem hs hx)).1, hs, fun x hx => folder_zero.2 (h _ x (look_mem hs hx)).2⟩
theorem may_zero {t : List Ent} {c : Chg} (h : mayErr t c = 0) : folderErr t (parentOf (goalOf c)) = 0 ∧ isErr t c = 0 ∧ mvErr t c = 0 ∧ staleErr t c = 0 := by
  unfold mayErr at h
  split at h
  · contradiction
  · split at h
    · contradiction
    · split at h
      · contradiction
      · exact ⟨by omega, by omega, by omega, h⟩
theorem raw_zero {t : List Ent} {c : Chg} {v : Int} (h : rawE t c v = 0) : chgErr c = 0 ∧ mayErr t c = 0 ∧ doneE t c v = 0 := by
  unfold rawE at h
  split at h
  · contradiction
  · split at h
    · contradiction
    · exact ⟨by omega, by omega, h⟩
def backP (c : Chg) (p : Str) : Str := c.path ++ p.drop c.to.length
theorem back_of {c : Chg} {p : Str} (h : inB p c.to = true) : ∃ r, p = c.to ++ r ∧ backP c p = c.path ++ r ∧ inB (backP c p) c.path = true ∧ (r = [] ∨ r.head? = some 47) := by
  obtain ⟨r, rfl, hr⟩ := inB_iff.1 h
  have hb : backP c (c.to ++ r) = c.path ++ r := by simp [backP]
  exact ⟨r, rfl, hb, by rw [hb]; exact inB_iff.2 ⟨r, rfl, hr⟩, hr⟩
theorem goes_mem {t : List Ent} {c : Chg} {v : Int} {y : Ent} (h : y ∈ goesOf t c v) : ∃ x r, x ∈ t ∧ x.path = c.path ++ r ∧ (r = [] ∨ r.head? = some 47) ∧ y = moveTo c v x ∧ y.path = c.to ++ r := by
  obtain ⟨x, hx, rfl⟩ := List.mem_map.1 h
  obtain ⟨hx1, hx2⟩ := List.mem_filter.1 hx
  obtain ⟨r, hr, hr2⟩ := inB_iff.1 hx2
  exact ⟨x, r, hx1, hr, hr2, rfl, by simp [moveTo, hr]⟩
theorem look_goes {t : List Ent} {c : Chg} {v : Int} (hs : rising entLt t = true) (p : Str) : look (goesOf t c v) p = if inB p c.to = true then (look t (backP c p)).map (moveTo c v) else none := by
  split
  · rename_i h
    obtain ⟨r, rfl, hb, hbi, hr⟩ := back_of (c := c) h
    rw [hb] at hbi ⊢
    cases hl : look t (c.path ++ r) with
    | none =>
      rw [Option.map_none, look_none]
      intro y hy e
      obtain ⟨x, r', h1, h2, _, _, h3⟩ := goes_mem hy
      rw [h3] at e
      have := List.append_cancel_left e
      subst this
      exact look_none.1 hl x h1 h2
    | some x =>
      obtain ⟨h1, h2⟩ := look_some hl
      rw [Option.map_some]
      have hm : moveTo c v x ∈ goesOf t c v := List.mem_map.2 ⟨x, List.mem_filter.2 ⟨h1, by unfold inP; rw [h2]; exact hbi⟩, rfl⟩
      have hp : (moveTo c v x).path = c.to ++ r := by simp [moveTo, h2]
      cases hf : look (goesOf t c v) (c.to ++ r) with
      | none => exact absurd hp (look_none.1 hf _ hm)
      | some y =>
        obtain ⟨h3, h4⟩ := look_some hf
        obtain ⟨x', r', h5, h6, _, h7, h8⟩ := goes_mem h3
        rw [h8] at h4
        have := List.append_cancel_left h4
        subst this
        rw [h7, path_inj hs h1 h5 (by rw [h2, h6])]
  · rename_i h
    rw [look_none]
    intro y hy e
    obtain ⟨x, r, h1, h2, h3, _, h4⟩ := goes_mem hy
    exact h (inB_iff.2 ⟨r, by rw [← e, h4], h3⟩)
theorem goes_apart {t : List Ent} {c : Chg} {v : Int} (hs : rising entLt t = true) : (goesOf t c v).Pairwise fun a b => ¬ a.path = b.path := by
  unfold goesOf
  rw [List.pairwise_map]
  have h1 : (t.filter (inP c.path)).Pairwise (fun a b => bytesLess a.path b.path = true) := (rising_pairE.1 hs).sublist List.filter_sublist
  refine h1.imp_of_mem fun {a b} ha hb hlt => ?_
  obtain ⟨r, hr, _⟩ := inB_iff.1 (List.mem_filter.1 ha).2
  obtain ⟨s, hs', _⟩ := inB_iff.1 (List.mem_filter.1 hb).2
  intro e
  simp only [moveTo, hr, hs', List.drop_left] at e
  have := List.append_cancel_left e
  rw [hr, hs', this, bl_irr] at hlt
  cases hlt
theorem look_move {t : List Ent} {c : Chg} {v : Int} (h : Right t) (hk : c.kind = 3) (hto : look t c.to = none) (p : Str) : look (doneL t c v) p = if inB p c.to = true then (look t (backP c p)).map (moveTo c v) else if inB p c.path = true then none else look t p := by
  have hD : doneL t c v = (goesOf t c v).foldl putT (keepE (inP c.path) t) := by simp [doneL, hk]
  rw [hD, look_putAll (keepE_rising h.rise) (goes_apart h.rise), look_goes h.rise, look_keep]
  by_cases hi : inB p c.to = true
  · rw [if_pos hi, if_pos hi]
    cases hl : look t (backP c p) with
    | some x => rfl
    | none =>
      rw [Option.map_none]
      have := none_in h hto hi
      simp [this]
  · rw [if_neg hi, if_neg hi]
theorem par_app {a r : Str} : ∃ s, (∀ b : Str, parentOf (b ++ 47 :: r) = b ++ s) ∧ (s = [] ∨ s.head? = some 47) := by
  rcases split_at (c := 47) r with h | ⟨r1, r2, rfl, h⟩
  · exact ⟨[], fun b => by rw [(parent_at h).1]; simp, .inl rfl⟩
  · refine ⟨47 :: r1, fun b => ?_, .inr rfl⟩
    have := (parent_at (a := b ++ 47 :: r1) h).1
    rw [← this]; simp
theorem chg_text {c : Chg} (h : chgErr c = 0) : c.text.length ≤ 300 := by
  have := (chgErr_zero h).2.2.2.2
  unfold chgRest at this
  split at this
  · exact absurd this (by decide)
  · split at this
    · exact absurd this (by decide)
    · omega
theorem ent_ok {p : Str} {f : Bool} {s : Str} {v : Int} (h1 : pathErr p = 0) (h2 : f = true → s = []) (h3 : s.length ≤ 300) (h4 : isVer v = true) : entErr ⟨p, f, s, v⟩ = 0 := by
  unfold entErr
  simp only
  rw [if_pos h1, if_neg (fun e => e.2 (h2 e.1)), if_neg (by omega), if_pos h4]
theorem done_right {t : List Ent} {c : Chg} {v : Int} (h : Right t) (hv : isVer v = true) (hr : rawE t c v = 0) : Right (doneL t c v) := by
  obtain ⟨hc0, hm0, hd0⟩ := raw_zero hr
  obtain ⟨k1, k2, hpe, hte, -⟩ := chgErr_zero hc0
  obtain ⟨hf, hi, hmv, -⟩ := may_zero hm0
  obtain ⟨hb, h60⟩ := done_ok hd0
  have hs := doneL_rising (c := c) (v := v) h.rise
  have htx := chg_text hc0
  refine right_of_look hs h60 fun p x hx => ?_
  by_cases e1 : c.kind = 1
  · have hD : doneL t c v = putT t ⟨c.path, true, [], v⟩ := by simp [doneL, e1]
    have hg : goalOf c = c.path := by simp [goalOf, e1]
    rw [hg] at hf
    rw [hD, look_put h.rise] at hx
    have key : ∀ q, (∃ y, look t q = some y ∧ y.fold = true) → ∃ y, look (doneL t c v) q = some y ∧ y.fold = true := fun q ⟨y, h1, h2⟩ => by
      rw [hD, look_put h.rise]
      split
      · exact ⟨_, rfl, rfl⟩
      · exact ⟨y, h1, h2⟩
    split at hx
    · rename_i hp
      injection hx with hx
      subst hx; subst hp
      exact ⟨ent_ok hpe (fun _ => rfl) (by simp) hv, (folder_zero.1 hf).imp id (key _)⟩
    · obtain ⟨h1, h2⟩ := look_some hx
      refine ⟨h.ent x h1, ?_⟩
      have := folder_zero.1 (h.par x h1)
      rw [h2] at this
      exact this.imp id (key _)
  · by_cases e2 : c.kind = 2
    · have hD : doneL t c v = putT t ⟨c.path, false, c.text, v⟩ := by simp [doneL, e2]
      have hg : goalOf c = c.path := by simp [goalOf, e2]
      rw [hg] at hf
      rw [hD, look_put h.rise] at hx
      have hfa : ∀ y, look t c.path = some y → y.fold = false := fun y hy => by
        unfold isErr at hi
        rw [if_neg e1, if_pos e2] at hi
        unfold foldAt at hi
        rw [show t.find? (atP c.path) = some y from hy] at hi
        cases hyf : y.fold with
        | false => rfl
        | true => simp [hyf] at hi
      have key : ∀ q, (∃ y, look t q = some y ∧ y.fold = true) → ∃ y, look (doneL t c v) q = some y ∧ y.fold = true := fun q ⟨y, h1, h2⟩ => by
        rw [hD, look_put h.rise]
        split
        · rename_i e
          simp only at e
          rw [e] at h1
          rw [hfa y h1] at h2; cases h2
        · exact ⟨y, h1, h2⟩
      split at hx
      · rename_i hp
        injection hx with hx
        subst hx; subst hp
        exact ⟨ent_ok hpe (fun e => by cases e) htx hv, (folder_zero.1 hf).imp id (key _)⟩
      · obtain ⟨h1, h2⟩ := look_some hx
        refine ⟨h.ent x h1, ?_⟩
        have := folder_zero.1 (h.par x h1)
        rw [h2] at this
        exact this.imp id (key _)
    · by_cases e4 : c.kind = 4
      · have hD : doneL t c v = keepE (inP c.path) t := by simp [doneL, e4]
        rw [hD, look_keep] at hx
        split at hx
        · cases hx
        · rename_i hin
          obtain ⟨h1, h2⟩ := look_some hx
          refine ⟨h.ent x h1, ?_⟩
          have hxe := (entErr_zero (h.ent x h1)).1
          have := folder_zero.1 (h.par x h1)
          rw [h2] at this hxe
          rcases this with h3 | ⟨y, h3, h4⟩
          · exact .inl h3
          · refine .inr ⟨y, ?_, h4⟩
            rw [hD, look_keep, if_neg]
            · exact h3
            · intro h5
              have hne : ¬ parentOf p = [] := fun e => by
                rw [e] at h3
                obtain ⟨h6, h7⟩ := look_some h3
                have := (entErr_zero (h.ent y h6)).1
                rw [h7] at this
                exact right_names this [] (by simp [namesOf]) rfl
              exact hin (inB_trans (par_in hxe hne) h5)
      · have e3 : c.kind = 3 := by omega
        have hpt := hte e3
        have hg : goalOf c = c.to := by simp [goalOf, e3]
        rw [hg] at hf
        have hM : mvErr t c = if inB c.to c.path = true then 3 else if hitE t c.to = true then 6 else 0 := by unfold mvErr; rw [if_pos e3]
        rw [hmv] at hM
        have hin0 : inB c.to c.path = false := by
          cases h0 : inB c.to c.path with
          | true => rw [h0] at hM; simp at hM
          | false => rfl
        rw [hin0, if_neg (by decide)] at hM
        have hhit : hitE t c.to = false := by
          cases h0 : hitE t c.to with
          | true => rw [h0] at hM; simp at hM
          | false => rfl
        have hto : look t c.to = none := (hitE_none hhit).1
        have hlm := look_move (v := v) h e3 hto
        rw [hlm] at hx
        have nonil : ∀ q y, look t q = some y → ¬ q = [] := fun q y hy e => by
          obtain ⟨h6, h7⟩ := look_some hy
          have := (entErr_zero (h.ent y h6)).1
          rw [h7, e] at this
          exact right_names this [] (by simp [namesOf]) rfl
        split at hx
        · rename_i hi2
          obtain ⟨r, rfl, hb2, hbi, hr2⟩ := back_of (c := c) hi2
          rw [hb2] at hx hbi
          obtain ⟨x0, hx0, rfl⟩ := Option.map_eq_some_iff.1 hx
          obtain ⟨h1, h2⟩ := look_some hx0
          have he0 := entErr_zero (h.ent x0 h1)
          refine ⟨?_, ?_⟩
          · have hpm : pathErr (moveTo c v x0).path = 0 := by
              refine moveTo_right he0.1 hpe hpt (by rw [h2]; exact hbi) ?_
              simp only [moveBad, e3, decide_true, Bool.true_and, List.any_eq_false] at hb
              simpa using hb x0 (List.mem_filter.2 ⟨h1, by unfold inP; rw [h2]; exact hbi⟩)
            refine ent_ok hpm (fun e => ?_) he0.2.2.1 ?_
            · cases hs0 : x0.text with
              | nil => rfl
              | cons a s => exact absurd ⟨e, by rw [hs0]; simp⟩ he0.2.1
            · split
              · exact hv
              · exact he0.2.2.2
          · rcases hr2 with rfl | hr2
            · rw [List.append_nil]
              rcases folder_zero.1 hf with h3 | ⟨y, h3, h4⟩
              · exact .inl h3
              · refine .inr ⟨y, ?_, h4⟩
                have hne := nonil _ y h3
                have hpi := par_in hpt hne
                rw [hlm, if_neg, if_neg]
                · exact h3
                · intro h5
                  have := inB_trans hpi h5
                  rw [hin0] at this; cases this
                · intro h5
                  exact par_ne hpt (inB_anti h5 hpi)
            · cases r with
              | nil => cases hr2
              | cons a r =>
                simp at hr2
                subst hr2
                obtain ⟨s, hs1, hs2⟩ := par_app (a := c.to) (r := r)
                have hp0 := folder_zero.1 (h.par x0 h1)
                rw [h2, hs1 c.path] at hp0
                rcases hp0 with h3 | ⟨y, h3, h4⟩
                · have : c.path = [] := (List.append_eq_nil_iff.1 h3).1
                  rw [this] at hpe
                  exact absurd rfl (right_names hpe [] (by simp [namesOf]))
                · refine .inr ⟨moveTo c v y, ?_, h4⟩
                  have hin3 : inB (c.to ++ s) c.to = true := inB_iff.2 ⟨s, rfl, hs2⟩
                  rw [hs1 c.to, hlm, if_pos hin3, show backP c (c.to ++ s) = c.path ++ s from by simp [backP], h3]
                  rfl
        · rename_i hi2
          split at hx
          · cases hx
          · rename_i hi3
            obtain ⟨h1, h2⟩ := look_some hx
            refine ⟨h.ent x h1, ?_⟩
            have hxe := (entErr_zero (h.ent x h1)).1
            have := folder_zero.1 (h.par x h1)
            rw [h2] at this hxe
            rcases this with h3 | ⟨y, h3, h4⟩
            · exact .inl h3
            · have hpi := par_in hxe (nonil _ y h3)
              refine .inr ⟨y, ?_, h4⟩
              rw [hlm, if_neg (fun h5 => hi2 (inB_trans hpi h5)), if_neg (fun h5 => hi3 (inB_trans hpi h5))]
              exact h3
theorem Right.big {t : List Ent} (h : Right t) : EBig t := ⟨fun x hx => by
  have h1 := entErr_zero (h.ent x hx)
  have h2 := pathErr_small h1.1
  exact ⟨by omega, by omega⟩, by have := h.len; omega⟩
end Go.Proofs.YtiljlcgmcmjcoaaGreatDoor

/- The reference's trees, 1: PutEntry, SameEntries, treeIs. -/
set_option linter.unusedSimpArgs false
set_option linter.unnecessarySimpa false
set_option linter.unusedVariables false
set_option maxHeartbeats 1000000
namespace Go.Proofs.YtiljlcgmcmjcoaaGreatDoor
open Go.Ab Go.RowKit
set_option maxRecDepth 10000
attribute [local irreducible] Awp Ops OpsX Wanted Red ExOk Go.Ab.Fin ACall Rz RzL RzRows Enters ResOk RenV RenVL ArgV ArgVL

theorem eqK_ent : eqKs C.P 72 = some [1, 2, 1, 0] := by kernel_rfl
theorem rowEq_ent (a b : Ent) : rowEq [1, 2, 1, 0] a.row b.row = some (decide (a = b)) := by
  obtain ⟨a1, a2, a3, a4⟩ := a
  obtain ⟨b1, b2, b3, b4⟩ := b
  simp only [Ent.row, rowEq, cellEq, str, Ent.mk.injEq, if_true, Option.some.injEq]
  by_cases h1 : a1 = b1 <;> by_cases h2 : a2 = b2 <;> by_cases h3 : a3 = b3 <;> by_cases h4 : a4 = b4 <;> simp [h1, h2, h3, h4]
theorem take_same {α : Type} {a b : List α} {i : Nat} (h1 : i < a.length) (h2 : i < b.length) (h : a.take i = b.take i) (h3 : a[i] = b[i]) : a.take (i + 1) = b.take (i + 1) := by
  rw [List.take_succ_eq_append_getElem h1, List.take_succ_eq_append_getElem h2, h, h3]
theorem a_sameEntries (a b : List Ent) (ha : a.length ≤ 140737488355328) (hb : b.length ≤ 140737488355328) : AFn C.P 22 [entAV a, entAV b] (.v (.bool (decide (a = b)))) := by
  have hma : (a.map Ent.row).length = a.length := List.length_map ..
  have hmb : (b.map Ent.row).length = b.length := List.length_map ..
  refine acall_intro Tryz.func22 rfl _ Tryz.ntmps22 (Nat.le_of_ble_eq_true rfl) _ Tryz.results22 0 rfl rfl ?_
  repeat' (first | refine walk ?_ | fail | ((first | (apply awp_cond; rfl)); all_goals (intro hc; have hp := hc; first | (simp at hp; done) | ((try simp at hp); first | (exfalso; omega) | skip))) | (apply awp_cond_any; rfl))
  · apply fin_bool
    rfl
    have hne : ¬ a = b := fun e => by subst e; simp at *
    simp [hne]
  have hab : a.length = b.length := by simp at *; omega
  (refine Awp.red (red_pure (ts := [(0, entAV a), (1, entAV b), (5, .v (.int .i64 ((0 : Nat) : Int)))]) ?_) ?_; ((repeat (first | exact tsok_nil | refine p_pure ?_ | refine p_eq ?_ ?_))))
  refine awp_loop (fun n σ => ∃ i : Nat, i ≤ a.length ∧ n = a.length - i ∧ (a.take i = b.take i) ∧ σ = ⟨[(0, entAV a), (1, entAV b), (5, .v (.int .i64 (i : Int)))], [], C.nh⟩) a.length ⟨0, Nat.zero_le _, rfl, rfl, rfl⟩ ?_
  rintro n σ ⟨i, hi, rfl, hsofar, rfl⟩
  by_cases hlt : i < a.length
  · have hlt2 : i < b.length := by omega
    have hr := getRow (f := Ent.row) hlt
    have hr' := getRow (f := Ent.row) hlt2
    have hnx := take_same hlt hlt2 hsofar
    repeat' (first | refine walk ?_ | (first | (apply opsx_val; apply ex_rowEq; rfl; rfl; exact eqK_ent; exact rowEq_ent _ _; (first | exact .inl ⟨rfl, rfl⟩ | exact .inr ⟨rfl, rfl⟩); exact nle rfl)) | ((first | (apply awp_cond; rfl)); all_goals (intro hc; have hp := hc; first | (simp at hp; done) | ((try simp at hp); first | (exfalso; omega) | skip))) | (apply awp_cond_any; rfl))
    all_goals try (exfalso; omega)
    · apply fin_bool
      rfl
      have hne : ¬ a = b := fun e => by subst e; simp at *
      simp [hne]
    · refine ⟨a.length - (i + 1), _, by omega, red_pure (ts := [(0, entAV a), (1, entAV b), (5, .v (.int .i64 ((i + 1 : Nat) : Int)))]) ?_, i + 1, by omega, rfl, (hnx (by simp_all)), rfl⟩; ((repeat (first | exact tsok_nil | refine p_pure ?_ | refine p_eq ?_ ?_)))
  obtain rfl : i = a.length := by omega
  have he : a = b := by rw [List.take_length] at hsofar; rw [hsofar, hab, List.take_length]
  repeat' (first | refine walk ?_ | fail | ((first | (apply awp_cond; rfl)); all_goals (intro hc; have hp := hc; first | (simp at hp; done) | ((try simp at hp); first | (exfalso; omega) | skip))) | (apply awp_cond_any; rfl))
  all_goals try (exfalso; omega)
  apply fin_bool
  rfl
  simp [he]
end Go.Proofs.YtiljlcgmcmjcoaaGreatDoor

/- The reference's trees, 2: ChangeOf: what is wrong ahead of the versions. -/
set_option linter.unusedSimpArgs false
set_option linter.unnecessarySimpa false
set_option linter.unusedVariables false
set_option maxHeartbeats 1000000
namespace Go.Proofs.YtiljlcgmcmjcoaaGreatDoor
open Go.Ab Go.RowKit
set_option maxRecDepth 10000
attribute [local irreducible] Awp Ops OpsX Wanted Red ExOk Go.Ab.Fin ACall Rz RzL RzRows Enters ResOk RenV RenVL ArgV ArgVL

end Go.Proofs.YtiljlcgmcmjcoaaGreatDoor

/- The reference's trees, 3: ChangeOf: folders and files. -/
set_option linter.unusedSimpArgs false
set_option linter.unnecessarySimpa false
set_option linter.unusedVariables false
set_option maxHeartbeats 1000000
namespace Go.Proofs.YtiljlcgmcmjcoaaGreatDoor
open Go.Ab Go.RowKit
set_option maxRecDepth 10000
attribute [local irreducible] Awp Ops OpsX Wanted Red ExOk Go.Ab.Fin ACall Rz RzL RzRows Enters ResOk RenV RenVL ArgV ArgVL

end Go.Proofs.YtiljlcgmcmjcoaaGreatDoor

/- The reference's trees, 4: ChangeOf: deletions; versions that are too old. -/
set_option linter.unusedSimpArgs false
set_option linter.unnecessarySimpa false
set_option linter.unusedVariables false
set_option maxHeartbeats 1000000
namespace Go.Proofs.YtiljlcgmcmjcoaaGreatDoor
open Go.Ab Go.RowKit
set_option maxRecDepth 10000
attribute [local irreducible] Awp Ops OpsX Wanted Red ExOk Go.Ab.Fin ACall Rz RzL RzRows Enters ResOk RenV RenVL ArgV ArgVL

end Go.Proofs.YtiljlcgmcmjcoaaGreatDoor

/- The reference's trees, 5: ChangeOf: deletions. -/
set_option linter.unusedSimpArgs false
set_option linter.unnecessarySimpa false
set_option linter.unusedVariables false
set_option maxHeartbeats 1000000
namespace Go.Proofs.YtiljlcgmcmjcoaaGreatDoor
open Go.Ab Go.RowKit
set_option maxRecDepth 10000
attribute [local irreducible] Awp Ops OpsX Wanted Red ExOk Go.Ab.Fin ACall Rz RzL RzRows Enters ResOk RenV RenVL ArgV ArgVL

end Go.Proofs.YtiljlcgmcmjcoaaGreatDoor

/- The reference's trees, 6: ChangeOf: moves. -/
set_option linter.unusedSimpArgs false
set_option linter.unnecessarySimpa false
set_option linter.unusedVariables false
set_option maxHeartbeats 1000000
namespace Go.Proofs.YtiljlcgmcmjcoaaGreatDoor
open Go.Ab Go.RowKit
set_option maxRecDepth 10000
attribute [local irreducible] Awp Ops OpsX Wanted Red ExOk Go.Ab.Fin ACall Rz RzL RzRows Enters ResOk RenV RenVL ArgV ArgVL

end Go.Proofs.YtiljlcgmcmjcoaaGreatDoor

/- Changes in the abstract layer, 9: All. -/
set_option linter.unusedSimpArgs false
set_option linter.unnecessarySimpa false
set_option linter.unusedVariables false
set_option maxHeartbeats 1000000
namespace Go.Proofs.YtiljlcgmcmjcoaaGreatDoor
open Go.Ab Go.RowKit
set_option maxRecDepth 10000
attribute [local irreducible] Awp Ops OpsX Wanted Red ExOk Go.Ab.Fin ACall Rz RzL RzRows Enters ResOk RenV RenVL ArgV ArgVL

/-- All changes, one after the other: the tree, how many, the error. -/
def allR (v : Int) : List Ent → List Chg → Nat → List Ent × Nat × Int
  | t, [], n => (t, n, 0)
  | t, c :: l, n => if rawE t c v = 0 then allR v (doneL t c v) l (n + 1) else ([], n, rawE t c v)
def allT (v : Int) (t : List Ent) (l : List Chg) : List Ent × Nat × Int :=
  if ¬ treeErr t = 0 then ([], 0, treeErr t) else if 20 < l.length then ([], 0, 2) else if isVer v = false ∧ 0 < l.length then ([], 0, 3) else allR v t l 0
def resAll (r : List Ent × Nat × Int) : AV := .tup [entAV r.1, .v (.int .i64 (r.2.1 : Nat)), .v (.int .i64 r.2.2)]
theorem allR_drop {v : Int} {t : List Ent} {l : List Chg} {i : Nat} (h : i < l.length) : allR v t (l.drop i) i = if rawE t l[i] v = 0 then allR v (doneL t l[i] v) (l.drop (i + 1)) (i + 1) else ([], i, rawE t l[i] v) := by
  rw [List.drop_eq_getElem_cons h]; rfl
theorem a_all (t : List Ent) (l : List Chg) (v : Int) (hb : EBig t) (hcb : CBig l) : AFn C.P 119 [entAV t, chgAV l, .v (.int .i64 v)] (resAll (allT v t l)) := by
  have h1 := a_checkT t hb
  have h2 := a_isVerT v
  have hll := hcb.len
  have hml : (l.map Chg.row).length = l.length := List.length_map ..
  have hE : allT v t l = if ¬ treeErr t = 0 then ([], 0, treeErr t) else if 20 < l.length then ([], 0, 2) else if isVer v = false ∧ 0 < l.length then ([], 0, 3) else allR v t l 0 := rfl
  by_cases hte : treeErr t = 0
  · rw [if_neg (by simp [hte])] at hE
    have hR := RightE.of hte
    rw [hte] at h1
    have h60 := (treeErr_zero hte).1
    have h3 := a_cloneE t (by omega)
    by_cases h20 : 20 < l.length
    · rw [if_pos h20] at hE
      rw [hE]
      refine acall_intro Tryz.func119 rfl _ Tryz.ntmps119 (Nat.le_of_ble_eq_true rfl) _ Tryz.results119 0 rfl rfl ?_
      repeat' (first | refine walk ?_ | (first | (refine o_fzl ?_) | (apply to_call Tryz.func65 rfl rfl; intro hIsFn; refine o_callp hIsFn (h1 ..) ?_)) | ((first | (apply ops_split_t; rfl; rfl; exact nle rfl) | (apply ops_split_f; rfl; rfl; exact nle rfl) | (apply awp_cond; rfl)); all_goals (intro hc; have hp := hc; first | (simp at hp; done) | ((try simp at hp); first | (exfalso; omega) | skip))) | (apply awp_cond_any; rfl))
      all_goals try (exfalso; omega)
      all_goals try (exfalso; first | omega | (simp_all; done) | (simp_all; omega))
      all_goals ((refine f_pure (rs := [.tmp 6, .tmp 7, .tmp 8]) ?_; (repeat' (first | exact rzl_nil | apply rzl_cons | exact rz_pure rfl | exact rz_ex | exact z_os | apply rz_agg | apply rz_tup | apply rz_clo | apply rz_int | apply rz_bool | apply rz_str | refine z_eq ?_ | apply rz_sl)); all_goals trace_state))
    · rw [if_neg h20] at hE
      by_cases hv : isVer v = false ∧ 0 < l.length
      · rw [if_pos hv] at hE
        rw [hE]
        rw [hv.1] at h2
        refine acall_intro Tryz.func119 rfl _ Tryz.ntmps119 (Nat.le_of_ble_eq_true rfl) _ Tryz.results119 0 rfl rfl ?_
        repeat' (first | refine walk ?_ | (first | (refine o_fzl ?_) | (apply to_call Tryz.func65 rfl rfl; intro hIsFn; refine o_callp hIsFn (h1 ..) ?_) | (apply to_call Tryz.func148 rfl rfl; intro hIsFn; refine o_callf hIsFn (h2 ..) ?_; skip)) | ((first | (apply ops_split_t; rfl; rfl; exact nle rfl) | (apply ops_split_f; rfl; rfl; exact nle rfl) | (apply awp_cond; rfl)); all_goals (intro hc; have hp := hc; first | (simp at hp; done) | ((try simp at hp); first | (exfalso; omega) | skip))) | (apply awp_cond_any; rfl))
        all_goals try (exfalso; omega)
        all_goals try (exfalso; first | omega | (simp_all; done) | (simp_all; omega))
        all_goals ((refine f_pure (rs := [.tmp 6, .tmp 7, .tmp 8]) ?_; (repeat' (first | exact rzl_nil | apply rzl_cons | exact rz_pure rfl | exact rz_ex | exact z_os | apply rz_agg | apply rz_tup | apply rz_clo | apply rz_int | apply rz_bool | apply rz_str | refine z_eq ?_ | apply rz_sl)); all_goals trace_state))
      · rw [if_neg hv] at hE
        generalize hV : isVer v = V at *
        have hv2 : V = false → l.length = 0 := fun h => by
          rcases Nat.eq_zero_or_pos l.length with h4 | h4
          · exact h4
          · exact absurd ⟨h, h4⟩ hv
        clear hV
        generalize hA : allT v t l = A at *
        clear hA
        refine acall_intro Tryz.func119 rfl _ Tryz.ntmps119 (Nat.le_of_ble_eq_true rfl) _ Tryz.results119 0 rfl rfl ?_
        repeat' (first | refine walk ?_ | (first | (refine o_fzl ?_) | (apply to_call Tryz.func65 rfl rfl; intro hIsFn; refine o_callp hIsFn (h1 ..) ?_) | (apply to_call Tryz.func148 rfl rfl; intro hIsFn; refine o_callf hIsFn (h2 ..) ?_; skip) | (apply to_call Tryz.func101 rfl rfl; intro hIsFn; refine o_callo ([]) hIsFn (h3 ..) ?_)) | ((first | (apply ops_split_t; rfl; rfl; exact nle rfl) | (apply ops_split_f; rfl; rfl; exact nle rfl) | (apply awp_cond; rfl)); all_goals (intro hc; have hp := hc; first | (simp at hp; done) | ((try simp at hp); first | (exfalso; omega) | skip))) | (apply awp_cond_any; rfl))
        all_goals try (exfalso; omega)
        all_goals try (exfalso; first | omega | (simp_all; done) | (simp_all; omega))
        all_goals (
          refine Awp.red (red_freeze 0 rfl (by intro row hrow; obtain ⟨x, _, rfl⟩ := List.mem_map.1 hrow; rfl)) ?_
          refine Awp.red (red_fs 0 0 rfl rfl (by simp)) ?_
          (refine Awp.red (red_pure (ts := [(0, entAV t), (1, chgAV l), (2, .v (.int .i64 v)), (33, chgAV l), (34, .v (.int .i64 l.length)), (35, .v (.int .i64 ((0 : Nat) : Int)))]) ?_) ?_; ((repeat (first | exact tsok_nil | refine p_pure ?_ | refine p_eq ?_ ?_))))
          all_goals try (rw [List.length_map]; done)
          all_goals try (rw [List.drop_zero, List.take_of_length_le (by simp)]; rfl)
          refine awp_loop (fun n σ => ∃ (i : Nat) (u : List Ent), i ≤ l.length ∧ n = l.length - i ∧ (A = allR v u (l.drop i) i ∧ RightE u) ∧ σ = ⟨[(0, entAV u), (1, chgAV l), (2, .v (.int .i64 v)), (33, chgAV l), (34, .v (.int .i64 l.length)), (35, .v (.int .i64 (i : Int)))], [], C.nh⟩) l.length ⟨0, t, Nat.zero_le _, rfl, ⟨by rw [hE]; rfl, hR⟩, rfl⟩ ?_
          rintro n σ ⟨i, u, hi, rfl, ⟨hA, hRu⟩, rfl⟩
          by_cases hlt : i < l.length
          · have hr := getRow (f := Chg.row) hlt
            have hraw := a_rawT u l[i] v hRu (hcb.each _ (List.getElem_mem _))
            rw [allR_drop hlt] at hA
            have hL : rawL u l[i] v = if rawE u l[i] v = 0 then doneL u l[i] v else [] := rfl
            by_cases hz : rawE u l[i] v = 0
            · have hRn := hRu.done hz
              rw [if_pos hz] at hA hL
              rw [hL, hz] at hraw
              generalize doneL u l[i] v = U at *
              clear hE hL hz
              repeat' (first | refine walk ?_ | (first | (apply to_call Tryz.func149 rfl rfl; intro hIsFn; refine o_callp hIsFn (hraw ..) ?_)) | ((first | (apply ops_split_t; rfl; rfl; exact nle rfl) | (apply ops_split_f; rfl; rfl; exact nle rfl) | (apply awp_cond; rfl)); all_goals (intro hc; have hp := hc; first | (simp at hp; done) | ((try simp at hp); first | (exfalso; omega) | skip))) | (apply awp_cond_any; rfl))
              all_goals try (exfalso; omega)
              refine ⟨l.length - (i + 1), _, by omega, red_pure (ts := [(0, entAV U), (1, chgAV l), (2, .v (.int .i64 v)), (33, chgAV l), (34, .v (.int .i64 l.length)), (35, .v (.int .i64 ((i + 1 : Nat) : Int)))]) ?_, i + 1, U, by omega, rfl, ⟨hA, hRn⟩, rfl⟩
              (repeat (first | exact tsok_nil | refine p_pure ?_ | refine p_eq ?_ ?_))
            · rw [if_neg hz] at hA hL
              rw [hL] at hraw
              rw [hA]
              generalize rawE u l[i] v = E at *
              clear hE hL hA
              repeat' (first | refine walk ?_ | (first | (apply to_call Tryz.func149 rfl rfl; intro hIsFn; refine o_callp hIsFn (hraw ..) ?_)) | ((first | (apply ops_split_t; rfl; rfl; exact nle rfl) | (apply ops_split_f; rfl; rfl; exact nle rfl) | (apply awp_cond; rfl)); all_goals (intro hc; have hp := hc; first | (simp at hp; done) | ((try simp at hp); first | (exfalso; omega) | skip))) | (apply awp_cond_any; rfl))
              all_goals try (exfalso; omega)
              (refine f_pure (rs := [.tmp 6, .tmp 7, .tmp 8]) ?_; (repeat' (first | exact rzl_nil | apply rzl_cons | exact rz_pure rfl | exact rz_ex | exact z_os | apply rz_agg | apply rz_tup | apply rz_clo | apply rz_int | apply rz_bool | apply rz_str | refine z_eq ?_ | apply rz_sl)); all_goals trace_state)
          obtain rfl : i = l.length := by omega
          rw [List.drop_length] at hA
          have hA : A = (u, l.length, 0) := hA
          rw [hA]
          clear hE hA
          repeat' (first | refine walk ?_ | fail | ((first | (apply ops_split_t; rfl; rfl; exact nle rfl) | (apply ops_split_f; rfl; rfl; exact nle rfl) | (apply awp_cond; rfl)); all_goals (intro hc; have hp := hc; first | (simp at hp; done) | ((try simp at hp); first | (exfalso; omega) | skip))) | (apply awp_cond_any; rfl))
          all_goals try (exfalso; omega)
          (refine f_pure (rs := [.tmp 6, .tmp 7, .tmp 8]) ?_; (repeat' (first | exact rzl_nil | apply rzl_cons | exact rz_pure rfl | exact rz_ex | exact z_os | apply rz_agg | apply rz_tup | apply rz_clo | apply rz_int | apply rz_bool | apply rz_str | refine z_eq ?_ | apply rz_sl)); all_goals (rw [List.length_map])))
  · rw [if_pos hte] at hE
    rw [hE]
    generalize treeErr t = E at *
    refine acall_intro Tryz.func119 rfl _ Tryz.ntmps119 (Nat.le_of_ble_eq_true rfl) _ Tryz.results119 0 rfl rfl ?_
    repeat' (first | refine walk ?_ | (first | (refine o_fzl ?_) | (apply to_call Tryz.func65 rfl rfl; intro hIsFn; refine o_callp hIsFn (h1 ..) ?_)) | ((first | (apply ops_split_t; rfl; rfl; exact nle rfl) | (apply ops_split_f; rfl; rfl; exact nle rfl) | (apply awp_cond; rfl)); all_goals (intro hc; have hp := hc; first | (simp at hp; done) | ((try simp at hp); first | (exfalso; omega) | skip))) | (apply awp_cond_any; rfl))
    all_goals try (exfalso; omega)
    all_goals ((refine f_pure (rs := [.tmp 6, .tmp 7, .tmp 8]) ?_; (repeat' (first | exact rzl_nil | apply rzl_cons | exact rz_pure rfl | exact rz_ex | exact z_os | apply rz_agg | apply rz_tup | apply rz_clo | apply rz_int | apply rz_bool | apply rz_str | refine z_eq ?_ | apply rz_sl)); all_goals trace_state))
end Go.Proofs.YtiljlcgmcmjcoaaGreatDoor

/- The reference's trees, 7: ChangeOf, AllOf; the laws TreeApplies, TreeAlls, TreeFinds, TreeChecks. -/
set_option linter.unusedSimpArgs false
set_option linter.unnecessarySimpa false
set_option linter.unusedVariables false
set_option maxHeartbeats 1000000
namespace Go.Proofs.YtiljlcgmcmjcoaaGreatDoor
open Go.Ab Go.RowKit
set_option maxRecDepth 10000
attribute [local irreducible] Awp Ops OpsX Wanted Red ExOk Go.Ab.Fin ACall Rz RzL RzRows Enters ResOk RenV RenVL ArgV ArgVL

def allW (t : List Ent) (l : List Chg) (v : Int) : List Ent × Nat × Int := if 20 < l.length then ([], 0, 2) else if isVer v = false ∧ 0 < l.length then ([], 0, 3) else allR v t l 0
theorem allT_eq (t : List Ent) (l : List Chg) (v : Int) : allT v t l = if ¬ treeErr t = 0 then ([], 0, treeErr t) else allW t l v := rfl

end Go.Proofs.YtiljlcgmcmjcoaaGreatDoor

/- The laws TreeChecks, TreeFinds, TreeApplies, TreeAlls, walked. -/
set_option linter.unusedSimpArgs false
set_option linter.unnecessarySimpa false
set_option linter.unusedVariables false
set_option maxHeartbeats 1000000
namespace Go.Proofs.YtiljlcgmcmjcoaaGreatDoor
open Go.Ab Go.RowKit
set_option maxRecDepth 10000
attribute [local irreducible] Awp Ops OpsX Wanted Red ExOk Go.Ab.Fin ACall Rz RzL RzRows Enters ResOk RenV RenVL ArgV ArgVL

end Go.Proofs.YtiljlcgmcmjcoaaGreatDoor

/- Paths: Pa8, under the name that the trees know it by. -/

/- Grants in the abstract layer, 1: names, order. -/
set_option linter.unusedSimpArgs false
set_option maxHeartbeats 1000000
namespace Go.Proofs.YtiljlcgmcmjcoaaGreatDoor
open Go.Ab Go.RowKit
set_option maxRecDepth 10000
attribute [local irreducible] Awp Ops OpsX Wanted Red ExOk Go.Ab.Fin ACall Rz RzL RzRows Enters ResOk RenV RenVL ArgV ArgVL

theorem a_or2 (a b : Int) : AFn C.P 120 [.sl false [[.v (.int .i64 a)], [.v (.int .i64 b)]]] (.v (.int .i64 (if a = 0 then b else a))) := by
  have hc : ([a, b].map fun x => [AV.v (.int .i64 x)]) = [[.v (.int .i64 a)], [.v (.int .i64 b)]] := rfl
  rw [← hc]
  refine acall_intro Tryz.func120 rfl _ Tryz.ntmps120 (Nat.le_of_ble_eq_true rfl) _ Tryz.results120 0 rfl rfl ?_
  repeat' (first | refine walk ?_ | fail | ((first | (apply awp_cond; rfl)); all_goals (intro hc; have hp := hc; first | (simp at hp; done) | ((try simp at hp); first | (exfalso; omega) | skip))) | (apply awp_cond_any; rfl))
  (refine Awp.red (red_pure (ts := [(3, .v (.int .i64 0)), (6, .sl false ([a, b].map fun x => [AV.v (.int .i64 x)])), (7, .v (.int .i64 (2 : Int))), (8, .v (.int .i64 ((0 : Nat) : Int)))]) ?_) ?_; ((repeat (first | exact tsok_nil | refine p_pure ?_ | refine p_eq ?_ ?_))))
  refine awp_loop (fun n σ => ∃ i : Nat, i ≤ [a, b].length ∧ n = [a, b].length - i ∧ (∀ x, x ∈ [a, b].take i → x = 0) ∧ σ = ⟨[(3, .v (.int .i64 0)), (6, .sl false ([a, b].map fun x => [AV.v (.int .i64 x)])), (7, .v (.int .i64 (2 : Int))), (8, .v (.int .i64 (i : Int)))], [], C.nh⟩) [a, b].length ⟨0, Nat.zero_le _, rfl, (by simp), rfl⟩ ?_
  rintro n σ ⟨i, hi, rfl, hsofar, rfl⟩
  have hi2 : i ≤ 2 := hi
  by_cases hlt : i < [a, b].length
  · have hlt2 : i < 2 := hlt
    have hr := getRow (f := fun x : Int => [AV.v (.int .i64 x)]) hlt
    repeat' (first | refine walk ?_ | fail | ((first | (apply awp_cond; rfl)); all_goals (intro hc; have hp := hc; first | (simp at hp; done) | ((try simp at hp); first | (exfalso; omega) | skip))) | (apply awp_cond_any; rfl))
    all_goals try (exfalso; omega)
    · apply fin_int
      rfl
      match i, hlt, hp, hsofar with
      | 0, _, hp, _ => simp at hp ⊢; simp [hp]
      | 1, _, hp, hsofar => simp at hsofar; simp [hsofar]
    · refine ⟨[a, b].length - (i + 1), _, by omega, red_pure (ts := [(3, .v (.int .i64 0)), (6, .sl false ([a, b].map fun x => [AV.v (.int .i64 x)])), (7, .v (.int .i64 (2 : Int))), (8, .v (.int .i64 ((i + 1 : Nat) : Int)))]) ?_, i + 1, by omega, rfl, mem_take_succ hlt hsofar hp, rfl⟩; ((repeat (first | exact tsok_nil | refine p_pure ?_ | refine p_eq ?_ ?_)))
  have hi3 : ¬ i < 2 := hlt
  repeat' (first | refine walk ?_ | fail | ((first | (apply awp_cond; rfl)); all_goals (intro hc; have hp := hc; first | (simp at hp; done) | ((try simp at hp); first | (exfalso; omega) | skip))) | (apply awp_cond_any; rfl))
  all_goals try (exfalso; omega)
  obtain rfl : i = 2 := by omega
  apply fin_int
  rfl
  simp at hsofar
  simp [hsofar]
theorem a_order (a b : Gra) : AFn C.P 75 [.agg a.row, .agg b.row] (.v (.int .i64 (graCmp a b))) := by
  refine acall_intro Tryz.func75 rfl _ Tryz.ntmps75 (Nat.le_of_ble_eq_true rfl) _ Tryz.results75 0 rfl rfl ?_
  repeat' (first | refine walk ?_ | (first | (apply to_call Tryz.func100 rfl rfl; intro hIsFn; refine o_callf hIsFn (a_compare ..) ?_; skip) | (apply to_call Tryz.func120 rfl rfl; intro hIsFn; refine o_callp hIsFn (a_or2 ..) ?_) | (refine o_fzl ?_)) | ((first | (apply awp_cond; rfl)); all_goals (intro hc; have hp := hc; first | (simp at hp; done) | ((try simp at hp); first | (exfalso; omega) | skip))) | (apply awp_cond_any; rfl))
  all_goals (apply fin_int; rfl; simp [graCmp])
end Go.Proofs.YtiljlcgmcmjcoaaGreatDoor

/- Grants in the abstract layer, 2: names, owned. -/
set_option linter.unusedSimpArgs false
set_option maxHeartbeats 1000000
namespace Go.Proofs.YtiljlcgmcmjcoaaGreatDoor
open Go.Ab Go.RowKit
set_option maxRecDepth 10000
attribute [local irreducible] Awp Ops OpsX Wanted Red ExOk Go.Ab.Fin ACall Rz RzL RzRows Enters ResOk RenV RenVL ArgV ArgVL

theorem a_indexStr (p : Str → Bool) (g : FuncId) (hg : IsFn C.P g) (cap : List AV) (hcap : AV.pure.pureL cap = true) (l : List (Str)) (hl : l.length ≤ 1000000) (hc : ∀ s, s ∈ l → AFn C.P g ((AV.v (str s)) :: cap) (.v (.bool (p s)))) :
    AFn C.P 135 [.sl false (l.map strRow), .clo (.func g) [] cap] (.v (.int .i64 (idxOf p l))) := by
  refine acall_intro Tryz.func135 rfl _ Tryz.ntmps135 (Nat.le_of_ble_eq_true rfl) _ Tryz.results135 0 rfl rfl ?_
  repeat' (first | refine walk ?_ | fail | ((first | (apply awp_cond; rfl)); all_goals (intro hc; have hp := hc; first | (simp at hp; done) | ((try simp at hp); first | (exfalso; omega) | skip))) | (apply awp_cond_any; rfl))
  (refine Awp.red (red_pure (ts := [(0, .sl false (l.map strRow)), (1, .clo (.func g) [] cap), (7, .v (.int .i64 l.length)), (8, .v (.int .i64 ((0 : Nat) : Int)))]) ?_) ?_; ((repeat (first | exact tsok_nil | refine p_pure ?_ | refine p_eq ?_ ?_))))
  all_goals try (rw [List.length_map]; done)
  refine awp_loop (fun n σ => ∃ i : Nat, i ≤ l.length ∧ n = l.length - i ∧ (∀ s, s ∈ l.take i → p s = false) ∧ σ = ⟨[(0, .sl false (l.map strRow)), (1, .clo (.func g) [] cap), (7, .v (.int .i64 l.length)), (8, .v (.int .i64 (i : Int)))], [], C.nh⟩) l.length ⟨0, Nat.zero_le _, rfl, (by simp), rfl⟩ ?_
  rintro n σ ⟨i, hi, rfl, hsofar, rfl⟩
  by_cases hlt : i < l.length
  · have hr := getRow (f := strRow) hlt
    have hci := hc l[i] (List.getElem_mem _)
    repeat' (first | refine walk ?_ | (first | (apply opsx_val; apply ex_callv []; rfl; exact hg; exact hci; (case hz => exact rzl_cons (rz_pure rfl) (rzl_self hcap)); (case hfl => rfl); (case hN => exact nle rfl))) | ((first | (apply awp_cond; rfl)); all_goals (intro hc; have hp := hc; first | (simp at hp; done) | ((try simp at hp); first | (exfalso; omega) | skip))) | (apply awp_cond_any; rfl))
    all_goals try (exfalso; omega)
    · apply fin_int
      rfl
      exact (idxOf_at hlt hsofar hp).symm
    · refine ⟨l.length - (i + 1), _, by omega, red_pure (ts := [(0, .sl false (l.map strRow)), (1, .clo (.func g) [] cap), (7, .v (.int .i64 l.length)), (8, .v (.int .i64 ((i + 1 : Nat) : Int)))]) ?_, i + 1, by omega, rfl, mem_take_succ hlt hsofar hp, rfl⟩; ((repeat (first | exact tsok_nil | refine p_pure ?_ | refine p_eq ?_ ?_)))
  obtain rfl : i = l.length := by omega
  repeat' (first | refine walk ?_ | fail | ((first | (apply awp_cond; rfl)); all_goals (intro hc; have hp := hc; first | (simp at hp; done) | ((try simp at hp); first | (exfalso; omega) | skip))) | (apply awp_cond_any; rfl))
  all_goals try (exfalso; omega)
  apply fin_int
  rfl
  exact (idxOf_none fun s hs => hsofar s (by rw [List.take_length]; exact hs)).symm
theorem a_containsStr (p : Str → Bool) (g : FuncId) (hg : IsFn C.P g) (cap : List AV) (hcap : AV.pure.pureL cap = true) (l : List (Str)) (hl : l.length ≤ 1000000) (hc : ∀ s, s ∈ l → AFn C.P g ((AV.v (str s)) :: cap) (.v (.bool (p s)))) :
    AFn C.P 106 [.sl false (l.map strRow), .clo (.func g) [] cap] (.v (.bool (l.any p))) := by
  have hidx := a_indexStr p g hg cap hcap l hl hc
  refine acall_intro Tryz.func106 rfl _ Tryz.ntmps106 (Nat.le_of_ble_eq_true rfl) _ Tryz.results106 0 rfl rfl ?_
  repeat' (first | refine walk ?_ | (first | (apply opsx_val; apply ex_call []; exact isFn_of Tryz.func135 rfl rfl; exact hidx; (case hz => exact rzl_cons (rz_pure rfl) (rzl_cons (rz_clo_pure hcap) rzl_nil)); (case hfl => rfl); (case hN => exact nle rfl))) | ((first | (apply awp_cond; rfl)); all_goals (intro hc; have hp := hc; first | (simp at hp; done) | ((try simp at hp); first | (exfalso; omega) | skip))) | (apply awp_cond_any; rfl))
  apply fin_bool
  rfl
  rw [← idxOf_any]
theorem a_namesC (s : Str) (hs : s.length ≤ 140737488355328) : AFn C.P 107 [.v (str s)] (.v (.bool (!isName s))) := by
  refine acall_intro Tryz.func107 rfl _ Tryz.ntmps107 (Nat.le_of_ble_eq_true rfl) _ Tryz.results107 0 rfl rfl ?_
  repeat' (first | refine walk ?_ | (first | (apply to_call Tryz.func37 rfl rfl; intro hIsFn; refine o_callf hIsFn (g_isName _ hs ..) ?_; skip)) | ((first | (apply awp_cond; rfl)); all_goals (intro hc; have hp := hc; first | (simp at hp; done) | ((try simp at hp); first | (exfalso; omega) | skip))) | (apply awp_cond_any; rfl))
  all_goals (apply fin_bool; rfl; simp_all)
theorem a_names (l : List Str) (hl : l.length ≤ 1000000) (hs : ∀ s, s ∈ l → s.length ≤ 140737488355328) : AFn C.P 62 [.sl false (l.map strRow)] (.v (.bool (l.all isName))) := by
  have hcon := a_containsStr (fun s => !isName s) 107 (isFn_of Tryz.func107 rfl rfl) [] rfl l hl (fun s h => a_namesC s (hs s h))
  refine acall_intro Tryz.func62 rfl _ Tryz.ntmps62 (Nat.le_of_ble_eq_true rfl) _ Tryz.results62 0 rfl rfl ?_
  repeat' (first | refine walk ?_ | (first | (apply to_call Tryz.func106 rfl rfl; intro hIsFn; refine o_callf hIsFn (hcon ..) ?_; skip)) | ((first | (apply awp_cond; rfl)); all_goals (intro hc; have hp := hc; first | (simp at hp; done) | ((try simp at hp); first | (exfalso; omega) | skip))) | (apply awp_cond_any; rfl))
  all_goals (apply fin_bool; rfl; simp_all [List.all_eq_not_any_not])
end Go.Proofs.YtiljlcgmcmjcoaaGreatDoor

/- The reference's SameChanges. -/
set_option linter.unusedSimpArgs false
set_option linter.unnecessarySimpa false
set_option linter.unusedVariables false
set_option maxHeartbeats 1000000
namespace Go.Proofs.YtiljlcgmcmjcoaaGreatDoor
open Go.Ab Go.RowKit
set_option maxRecDepth 10000
attribute [local irreducible] Awp Ops OpsX Wanted Red ExOk Go.Ab.Fin ACall Rz RzL RzRows Enters ResOk RenV RenVL ArgV ArgVL

end Go.Proofs.YtiljlcgmcmjcoaaGreatDoor

/- Deltas in the abstract layer, 1: like, EqualFunc, check, Same; the reference's LikeTrees. -/
set_option linter.unusedSimpArgs false
set_option linter.unnecessarySimpa false
set_option linter.unusedVariables false
set_option maxHeartbeats 1000000
namespace Go.Proofs.YtiljlcgmcmjcoaaGreatDoor
open Go.Ab Go.RowKit
set_option maxRecDepth 10000
attribute [local irreducible] Awp Ops OpsX Wanted Red ExOk Go.Ab.Fin ACall Rz RzL RzRows Enters ResOk RenV RenVL ArgV ArgVL

end Go.Proofs.YtiljlcgmcmjcoaaGreatDoor

/- Copies of slices of entries and of changes. -/
set_option linter.unusedSimpArgs false
set_option linter.unnecessarySimpa false
set_option linter.unusedVariables false
set_option maxHeartbeats 1000000
namespace Go.Proofs.YtiljlcgmcmjcoaaGreatDoor
open Go.Ab Go.RowKit
set_option maxRecDepth 10000
attribute [local irreducible] Awp Ops OpsX Wanted Red ExOk Go.Ab.Fin ACall Rz RzL RzRows Enters ResOk RenV RenVL ArgV ArgVL

theorem a_cloneEF (l : List Ent) (hl : l.length ≤ 1000000) : AFn C.P 101 [entAV l] (entAV l) :=
  afn_of_own (a_cloneE l hl) (rz_os_pure rfl (by simp) (pures_map fun _ => rfl))
theorem a_cloneC (l : List Chg) (hl : l.length ≤ 1000000) :
    ACall C.P 122 [chgAV l] [] (.os 0 0 l.length) [.own false 5 (l.map Chg.row)] := by
  by_cases h0 : l = []
  · subst h0
    refine acall_intro Tryz.func122 rfl _ Tryz.ntmps122 (Nat.le_of_ble_eq_true rfl) _ Tryz.results122 0 rfl rfl ?_
    repeat' (first | refine walk ?_ | (first | (refine o_fzl ?_) | (refine o_appn ?_) | (refine o_isnil ?_)) | ((first | (apply awp_cond; rfl)); all_goals (intro hc; have hp := hc; first | (simp at hp; done) | ((try simp at hp); first | (exfalso; omega) | skip))) | (apply awp_cond_any; rfl))
    · (refine fin_red (C := C) (red_nil (C := C) 2 5 rfl (Nat.zero_le _)) ?_)
      (apply fin_ownr (rs := [.tmp 2]) [(0, 0)] 1; (case hr => (repeat (first | exact resok_nil | (apply resok_tmp; rfl) | (apply resok_cell; rfl; rfl; rfl; rfl; rfl)))); (case hL => rfl); (case hh => (repeat (first | exact hsok_nil | refine q_id ?_ | refine q_idx ?_ ?_)); all_goals skip); (case hi => first | exact (rfl : _ = ([] : List (Nat × Nat))) | exact (rfl : _ = [((0 : Nat), (0 : Nat))]) | exact (rfl : _ = [((0 : Nat), (0 : Nat)), (1, 1)])); (case hz => first | rfl | (simp [pack, AV.ren, AV.ren.renL, lookN, getT, enumT]; done) | (simp [pack, AV.ren, AV.ren.renL, lookN, getT, enumT, *]; done) | skip))
    · (apply fin_ownr (rs := [.tmp 2]) [(0, 0)] 1; (case hr => (repeat (first | exact resok_nil | (apply resok_tmp; rfl) | (apply resok_cell; rfl; rfl; rfl; rfl; rfl)))); (case hL => rfl); (case hh => (repeat (first | exact hsok_nil | refine q_id ?_ | refine q_idx ?_ ?_)); all_goals skip); (case hi => first | exact (rfl : _ = ([] : List (Nat × Nat))) | exact (rfl : _ = [((0 : Nat), (0 : Nat))]) | exact (rfl : _ = [((0 : Nat), (0 : Nat)), (1, 1)])); (case hz => first | rfl | (simp [pack, AV.ren, AV.ren.renL, lookN, getT, enumT]; done) | (simp [pack, AV.ren, AV.ren.renL, lookN, getT, enumT, *]; done) | skip))
  · refine acall_intro Tryz.func122 rfl _ Tryz.ntmps122 (Nat.le_of_ble_eq_true rfl) _ Tryz.results122 0 rfl rfl ?_
    repeat' (first | refine walk ?_ | (first | (refine o_fzl ?_) | (refine o_appn ?_) | (apply opsx_val; apply ex_notnil; rfl; exact (fun h => h0 (List.map_eq_nil_iff.1 h)); rfl; rfl; (first | exact .inl rfl | exact .inr rfl); exact nle rfl)) | ((first | (apply awp_cond; rfl)); all_goals (intro hc; have hp := hc; first | (simp at hp; done) | ((try simp at hp); first | (exfalso; omega) | skip))) | (apply awp_cond_any; rfl))
    (apply fin_ownr (rs := [.tmp 2]) [(0, 0)] 1; (case hr => (repeat (first | exact resok_nil | (apply resok_tmp; rfl) | (apply resok_cell; rfl; rfl; rfl; rfl; rfl)))); (case hL => rfl); (case hh => (repeat (first | exact hsok_nil | refine q_id ?_ | refine q_idx ?_ ?_)); all_goals skip); (case hi => first | exact (rfl : _ = ([] : List (Nat × Nat))) | exact (rfl : _ = [((0 : Nat), (0 : Nat))]) | exact (rfl : _ = [((0 : Nat), (0 : Nat)), (1, 1)])); (case hz => first | rfl | (simp [pack, AV.ren, AV.ren.renL, lookN, getT, enumT]; done) | (simp [pack, AV.ren, AV.ren.renL, lookN, getT, enumT, *]; done) | skip))
theorem a_cloneCF (l : List Chg) (hl : l.length ≤ 1000000) : AFn C.P 122 [chgAV l] (chgAV l) :=
  afn_of_own (a_cloneC l hl) (rz_os_pure rfl (by simp) (pures_map fun _ => rfl))
end Go.Proofs.YtiljlcgmcmjcoaaGreatDoor
