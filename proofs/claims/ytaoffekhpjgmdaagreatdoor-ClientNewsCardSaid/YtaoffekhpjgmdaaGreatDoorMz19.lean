import Derived.Test.YtaoffekhpjgmdaaGreatDoorMz18
import Derived.Test.YtaoffekhpjgmdaaGreatDoorMz16
/- Trees, plain, 5: what passes the check goes on passing it. -/
set_option linter.unusedSimpArgs false
set_option linter.unnecessarySimpa false
set_option linter.unusedVariables false
namespace Go.Proofs.YtaoffekhpjgmdaaGreatDoor
open Go.Op

structure Right (t : List Ent) : Prop where
  len : t.length ≤ 60
  ent : ∀ x, x ∈ t → entErr x = 0
  rise : rising entLt t = true
  par : ∀ x, x ∈ t → folderErr t (parentOf x.path) = 0
theorem right_iff {t : List Ent} : treeErr t = 0 ↔ Right t := by
  constructor
  · intro h
    obtain ⟨h1, h2, h3, h4⟩ := treeErr_zero h
    exact ⟨h1, h2, h3, h4⟩
  · intro h
    have h1 : ¬ 60 < t.length := by have := h.len; omega
    have h2 : t.any (fun x => decide (parErr t x = 5)) = false := by
      rw [List.any_eq_false]; intro x hx
      have : parErr t x = 0 := h.par x hx
      simp [this]
    have h3 : t.any (fun x => decide (¬ parErr t x = 0)) = false := by
      rw [List.any_eq_false]; intro x hx
      have : parErr t x = 0 := h.par x hx
      simp [this]
    unfold treeErr
    rw [if_neg h1, if_pos (firstErr_zero.2 h.ent), if_pos h.rise, h2, h3]
    rfl
theorem folder_zero {t : List Ent} {q : Str} : folderErr t q = 0 ↔ q = [] ∨ ∃ y, look t q = some y ∧ y.fold = true := by
  unfold folderErr look
  by_cases hq : q = []
  · simp [hq]
  · rw [if_neg hq]
    cases h : t.find? (atP q) with
    | none => simp [hq]
    | some x => cases hf : x.fold <;> simp [hq, hf]
theorem right_names {p : Str} (h : pathErr p = 0) : ∀ n, n ∈ namesOf p → n ≠ [] := fun n hn e => by
  have := (pathErr_zero.1 h).1 n hn
  rw [e, isName_nil] at this; cases this
/-- The parent of a path within another one. -/
theorem par_names {p : Str} (h : (namesOf p).dropLast ≠ []) : namesOf (parentOf p) = (namesOf p).dropLast := by
  obtain ⟨h1, h2⟩ := split_ref p
  rw [← h2]
  exact names_path h fun n hn => namesOf_free p n (List.dropLast_subset _ hn)
theorem par_sub {p q : Str} (hp : pathErr p = 0) (hi : inB p q = true) (hne : ¬ q = p) : ¬ parentOf p = [] ∧ inB (parentOf p) q = true ∧ (namesOf (parentOf p)).length < (namesOf p).length := by
  have hpre := inB_names.1 hi
  obtain ⟨s, hs⟩ := hpre
  have hsn : s ≠ [] := fun e => hne (by
    rw [e, List.append_nil] at hs
    rw [← path_names q, hs, path_names])
  have hdl : (namesOf p).dropLast = namesOf q ++ s.dropLast := by rw [← hs, List.dropLast_append_of_ne_nil hsn]
  have hdn : (namesOf p).dropLast ≠ [] := by
    rw [hdl]; intro e
    exact namesOf_ne q (List.append_eq_nil_iff.1 e).1
  have hpn := par_names hdn
  refine ⟨fun e => ?_, ?_, ?_⟩
  · have hm : ([] : Str) ∈ namesOf (parentOf p) := by rw [e]; simp [namesOf]
    rw [hpn] at hm
    exact right_names hp [] (List.dropLast_subset _ hm) rfl
  · rw [inB_names, hpn, hdl]
    exact List.prefix_append _ _
  · rw [hpn, List.length_dropLast]
    have := names_pos' p
    omega
where names_pos' (p : Str) : 0 < (namesOf p).length := List.length_pos_iff.2 (namesOf_ne p)
theorem par_ne {p : Str} (hp : pathErr p = 0) : ¬ parentOf p = p := fun e => by
  obtain ⟨h1, h2⟩ := split_ref p
  have h3 : (namesOf p).dropLast ≠ [] ∨ (namesOf p).dropLast = [] := (Decidable.em _).symm
  rcases h3 with h3 | h3
  · have := par_names h3
    rw [e] at this
    have hl := congrArg List.length this
    rw [List.length_dropLast] at hl
    have := List.length_pos_iff.2 (namesOf_ne p)
    omega
  · rw [h3] at h2
    have : p = [] := by rw [← e, ← h2]; rfl
    subst this
    exact right_names hp [] (by simp [namesOf]) rfl
theorem par_in {p : Str} (hp : pathErr p = 0) (hne : ¬ parentOf p = []) : inB p (parentOf p) = true := by
  obtain ⟨h1, h2⟩ := split_ref p
  have hdn : (namesOf p).dropLast ≠ [] := fun e => hne (by rw [← h2, e]; rfl)
  rw [inB_names, par_names hdn]
  exact List.dropLast_prefix _
/-- What another one is within is there, and a folder. -/
theorem anc {t : List Ent} (h : Right t) : ∀ (n : Nat) (x : Ent), x ∈ t → (namesOf x.path).length = n → ∀ q, inB x.path q = true → ¬ q = x.path → ∃ y, look t q = some y ∧ y.fold = true := by
  intro n
  induction n using Nat.strongRecOn with
  | _ n ih =>
    intro x hx hn q hi hne
    have hpe := (entErr_zero (h.ent x hx)).1
    obtain ⟨h1, h2, h3⟩ := par_sub hpe hi hne
    rcases folder_zero.1 (h.par x hx) with h4 | ⟨y, h4, h5⟩
    · exact absurd h4 h1
    · obtain ⟨h6, h7⟩ := look_some h4
      by_cases hq : q = parentOf x.path
      · subst hq; exact ⟨y, h4, h5⟩
      · exact ih (namesOf y.path).length (by rw [h7]; omega) y h6 rfl q (by rw [h7]; exact h2) (by rw [h7]; exact hq)
/-- Where nothing is, nothing is within. -/
theorem none_in {t : List Ent} (h : Right t) {q p : Str} (hq : look t q = none) (hi : inB p q = true) : look t p = none := by
  cases hl : look t p with
  | none => rfl
  | some x =>
    obtain ⟨h1, h2⟩ := look_some hl
    by_cases e : q = p
    · subst e; rw [hq] at hl; cases hl
    · obtain ⟨y, h3, _⟩ := anc h _ x h1 rfl q (by rw [h2]; exact hi) (by rw [h2]; exact e)
      rw [hq] at h3; cases h3
theorem right_of_look {u : List Ent} (hs : rising entLt u = true) (hl : u.length ≤ 60) (h : ∀ p x, look u p = some x → entErr x = 0 ∧ (parentOf p = [] ∨ ∃ y, look u (parentOf p) = some y ∧ y.fold = true)) : Right u :=
  ⟨hl, fun x hx => (h _ x (look_mem hs hx)).1, hs, fun x hx => folder_zero.2 (h _ x (look_mem hs hx)).2⟩
theorem may_zero {t : List Ent} {c : Chg} (h : mayErr t c = 0) : folderErr t (parentOf (goalOf c)) = 0 ∧ isErr t c = 0 ∧ mvErr t c = 0 ∧ staleErr t c = 0 := by
  unfold mayErr at h
  split at h
  · contradiction
  · split at h
    · contradiction
    · split at h
      · contradiction
      · exact ⟨by omega, by omega, by omega, h⟩
theorem raw_zero {t : List Ent} {c : Chg} {v : Int} (h : rawE t c v = 0) : chgErr c = 0 ∧ mayErr t c = 0 ∧ doneE t c v = 0 := by
  unfold rawE at h
  split at h
  · contradiction
  · split at h
    · contradiction
    · exact ⟨by omega, by omega, h⟩
def backP (c : Chg) (p : Str) : Str := c.path ++ p.drop c.to.length
theorem back_of {c : Chg} {p : Str} (h : inB p c.to = true) : ∃ r, p = c.to ++ r ∧ backP c p = c.path ++ r ∧ inB (backP c p) c.path = true ∧ (r = [] ∨ r.head? = some 47) := by
  obtain ⟨r, rfl, hr⟩ := inB_iff.1 h
  have hb : backP c (c.to ++ r) = c.path ++ r := by simp [backP]
  exact ⟨r, rfl, hb, by rw [hb]; exact inB_iff.2 ⟨r, rfl, hr⟩, hr⟩
theorem goes_mem {t : List Ent} {c : Chg} {v : Int} {y : Ent} (h : y ∈ goesOf t c v) : ∃ x r, x ∈ t ∧ x.path = c.path ++ r ∧ (r = [] ∨ r.head? = some 47) ∧ y = moveTo c v x ∧ y.path = c.to ++ r := by
  obtain ⟨x, hx, rfl⟩ := List.mem_map.1 h
  obtain ⟨hx1, hx2⟩ := List.mem_filter.1 hx
  obtain ⟨r, hr, hr2⟩ := inB_iff.1 hx2
  exact ⟨x, r, hx1, hr, hr2, rfl, by simp [moveTo, hr]⟩
theorem look_goes {t : List Ent} {c : Chg} {v : Int} (hs : rising entLt t = true) (p : Str) : look (goesOf t c v) p = if inB p c.to = true then (look t (backP c p)).map (moveTo c v) else none := by
  split
  · rename_i h
    obtain ⟨r, rfl, hb, hbi, hr⟩ := back_of (c := c) h
    rw [hb] at hbi ⊢
    cases hl : look t (c.path ++ r) with
    | none =>
      rw [Option.map_none, look_none]
      intro y hy e
      obtain ⟨x, r', h1, h2, _, _, h3⟩ := goes_mem hy
      rw [h3] at e
      have := List.append_cancel_left e
      subst this
      exact look_none.1 hl x h1 h2
    | some x =>
      obtain ⟨h1, h2⟩ := look_some hl
      rw [Option.map_some]
      have hm : moveTo c v x ∈ goesOf t c v := List.mem_map.2 ⟨x, List.mem_filter.2 ⟨h1, by unfold inP; rw [h2]; exact hbi⟩, rfl⟩
      have hp : (moveTo c v x).path = c.to ++ r := by simp [moveTo, h2]
      cases hf : look (goesOf t c v) (c.to ++ r) with
      | none => exact absurd hp (look_none.1 hf _ hm)
      | some y =>
        obtain ⟨h3, h4⟩ := look_some hf
        obtain ⟨x', r', h5, h6, _, h7, h8⟩ := goes_mem h3
        rw [h8] at h4
        have := List.append_cancel_left h4
        subst this
        rw [h7, path_inj hs h1 h5 (by rw [h2, h6])]
  · rename_i h
    rw [look_none]
    intro y hy e
    obtain ⟨x, r, h1, h2, h3, _, h4⟩ := goes_mem hy
    exact h (inB_iff.2 ⟨r, by rw [← e, h4], h3⟩)
theorem goes_apart {t : List Ent} {c : Chg} {v : Int} (hs : rising entLt t = true) : (goesOf t c v).Pairwise fun a b => ¬ a.path = b.path := by
  unfold goesOf
  rw [List.pairwise_map]
  have h1 : (t.filter (inP c.path)).Pairwise (fun a b => bytesLess a.path b.path = true) := (rising_pairE.1 hs).sublist List.filter_sublist
  refine h1.imp_of_mem fun {a b} ha hb hlt => ?_
  obtain ⟨r, hr, _⟩ := inB_iff.1 (List.mem_filter.1 ha).2
  obtain ⟨s, hs', _⟩ := inB_iff.1 (List.mem_filter.1 hb).2
  intro e
  simp only [moveTo, hr, hs', List.drop_left] at e
  have := List.append_cancel_left e
  rw [hr, hs', this, bl_irr] at hlt
  cases hlt
theorem look_move {t : List Ent} {c : Chg} {v : Int} (h : Right t) (hk : c.kind = 3) (hto : look t c.to = none) (p : Str) : look (doneL t c v) p = if inB p c.to = true then (look t (backP c p)).map (moveTo c v) else if inB p c.path = true then none else look t p := by
  have hD : doneL t c v = (goesOf t c v).foldl putT (keepE (inP c.path) t) := by simp [doneL, hk]
  rw [hD, look_putAll (keepE_rising h.rise) (goes_apart h.rise), look_goes h.rise, look_keep]
  by_cases hi : inB p c.to = true
  · rw [if_pos hi, if_pos hi]
    cases hl : look t (backP c p) with
    | some x => rfl
    | none =>
      rw [Option.map_none]
      have := none_in h hto hi
      simp [this]
  · rw [if_neg hi, if_neg hi]
theorem par_app {a r : Str} : ∃ s, (∀ b : Str, parentOf (b ++ 47 :: r) = b ++ s) ∧ (s = [] ∨ s.head? = some 47) := by
  rcases split_at (c := 47) r with h | ⟨r1, r2, rfl, h⟩
  · exact ⟨[], fun b => by rw [(parent_at h).1]; simp, .inl rfl⟩
  · refine ⟨47 :: r1, fun b => ?_, .inr rfl⟩
    have := (parent_at (a := b ++ 47 :: r1) h).1
    rw [← this]; simp
theorem chg_text {c : Chg} (h : chgErr c = 0) : c.text.length ≤ 300 := by
  have := (chgErr_zero h).2.2.2.2
  unfold chgRest at this
  split at this
  · exact absurd this (by decide)
  · split at this
    · exact absurd this (by decide)
    · omega
theorem ent_ok {p : Str} {f : Bool} {s : Str} {v : Int} (h1 : pathErr p = 0) (h2 : f = true → s = []) (h3 : s.length ≤ 300) (h4 : isVer v = true) : entErr ⟨p, f, s, v⟩ = 0 := by
  unfold entErr
  simp only
  rw [if_pos h1, if_neg (fun e => e.2 (h2 e.1)), if_neg (by omega), if_pos h4]
theorem done_right {t : List Ent} {c : Chg} {v : Int} (h : Right t) (hv : isVer v = true) (hr : rawE t c v = 0) : Right (doneL t c v) := by
  obtain ⟨hc0, hm0, hd0⟩ := raw_zero hr
  obtain ⟨k1, k2, hpe, hte, -⟩ := chgErr_zero hc0
  obtain ⟨hf, hi, hmv, -⟩ := may_zero hm0
  obtain ⟨hb, h60⟩ := done_ok hd0
  have hs := doneL_rising (c := c) (v := v) h.rise
  have htx := chg_text hc0
  refine right_of_look hs h60 fun p x hx => ?_
  by_cases e1 : c.kind = 1
  · have hD : doneL t c v = putT t ⟨c.path, true, [], v⟩ := by simp [doneL, e1]
    have hg : goalOf c = c.path := by simp [goalOf, e1]
    rw [hg] at hf
    rw [hD, look_put h.rise] at hx
    have key : ∀ q, (∃ y, look t q = some y ∧ y.fold = true) → ∃ y, look (doneL t c v) q = some y ∧ y.fold = true := fun q ⟨y, h1, h2⟩ => by
      rw [hD, look_put h.rise]
      split
      · exact ⟨_, rfl, rfl⟩
      · exact ⟨y, h1, h2⟩
    split at hx
    · rename_i hp
      injection hx with hx
      subst hx; subst hp
      exact ⟨ent_ok hpe (fun _ => rfl) (by simp) hv, (folder_zero.1 hf).imp id (key _)⟩
    · obtain ⟨h1, h2⟩ := look_some hx
      refine ⟨h.ent x h1, ?_⟩
      have := folder_zero.1 (h.par x h1)
      rw [h2] at this
      exact this.imp id (key _)
  · by_cases e2 : c.kind = 2
    · have hD : doneL t c v = putT t ⟨c.path, false, c.text, v⟩ := by simp [doneL, e2]
      have hg : goalOf c = c.path := by simp [goalOf, e2]
      rw [hg] at hf
      rw [hD, look_put h.rise] at hx
      have hfa : ∀ y, look t c.path = some y → y.fold = false := fun y hy => by
        unfold isErr at hi
        rw [if_neg e1, if_pos e2] at hi
        unfold foldAt at hi
        rw [show t.find? (atP c.path) = some y from hy] at hi
        cases hyf : y.fold with
        | false => rfl
        | true => simp [hyf] at hi
      have key : ∀ q, (∃ y, look t q = some y ∧ y.fold = true) → ∃ y, look (doneL t c v) q = some y ∧ y.fold = true := fun q ⟨y, h1, h2⟩ => by
        rw [hD, look_put h.rise]
        split
        · rename_i e
          simp only at e
          rw [e] at h1
          rw [hfa y h1] at h2; cases h2
        · exact ⟨y, h1, h2⟩
      split at hx
      · rename_i hp
        injection hx with hx
        subst hx; subst hp
        exact ⟨ent_ok hpe (fun e => by cases e) htx hv, (folder_zero.1 hf).imp id (key _)⟩
      · obtain ⟨h1, h2⟩ := look_some hx
        refine ⟨h.ent x h1, ?_⟩
        have := folder_zero.1 (h.par x h1)
        rw [h2] at this
        exact this.imp id (key _)
    · by_cases e4 : c.kind = 4
      · have hD : doneL t c v = keepE (inP c.path) t := by simp [doneL, e4]
        rw [hD, look_keep] at hx
        split at hx
        · cases hx
        · rename_i hin
          obtain ⟨h1, h2⟩ := look_some hx
          refine ⟨h.ent x h1, ?_⟩
          have hxe := (entErr_zero (h.ent x h1)).1
          have := folder_zero.1 (h.par x h1)
          rw [h2] at this hxe
          rcases this with h3 | ⟨y, h3, h4⟩
          · exact .inl h3
          · refine .inr ⟨y, ?_, h4⟩
            rw [hD, look_keep, if_neg]
            · exact h3
            · intro h5
              have hne : ¬ parentOf p = [] := fun e => by
                rw [e] at h3
                obtain ⟨h6, h7⟩ := look_some h3
                have := (entErr_zero (h.ent y h6)).1
                rw [h7] at this
                exact right_names this [] (by simp [namesOf]) rfl
              exact hin (inB_trans (par_in hxe hne) h5)
      · have e3 : c.kind = 3 := by omega
        have hpt := hte e3
        have hg : goalOf c = c.to := by simp [goalOf, e3]
        rw [hg] at hf
        have hM : mvErr t c = if inB c.to c.path = true then 3 else if hitE t c.to = true then 6 else 0 := by unfold mvErr; rw [if_pos e3]
        rw [hmv] at hM
        have hin0 : inB c.to c.path = false := by
          cases h0 : inB c.to c.path with
          | true => rw [h0] at hM; simp at hM
          | false => rfl
        rw [hin0, if_neg (by decide)] at hM
        have hhit : hitE t c.to = false := by
          cases h0 : hitE t c.to with
          | true => rw [h0] at hM; simp at hM
          | false => rfl
        have hto : look t c.to = none := (hitE_none hhit).1
        have hlm := look_move (v := v) h e3 hto
        rw [hlm] at hx
        have nonil : ∀ q y, look t q = some y → ¬ q = [] := fun q y hy e => by
          obtain ⟨h6, h7⟩ := look_some hy
          have := (entErr_zero (h.ent y h6)).1
          rw [h7, e] at this
          exact right_names this [] (by simp [namesOf]) rfl
        split at hx
        · rename_i hi2
          obtain ⟨r, rfl, hb2, hbi, hr2⟩ := back_of (c := c) hi2
          rw [hb2] at hx hbi
          obtain ⟨x0, hx0, rfl⟩ := Option.map_eq_some_iff.1 hx
          obtain ⟨h1, h2⟩ := look_some hx0
          have he0 := entErr_zero (h.ent x0 h1)
          refine ⟨?_, ?_⟩
          · have hpm : pathErr (moveTo c v x0).path = 0 := by
              refine moveTo_right he0.1 hpe hpt (by rw [h2]; exact hbi) ?_
              simp only [moveBad, e3, decide_true, Bool.true_and, List.any_eq_false] at hb
              simpa using hb x0 (List.mem_filter.2 ⟨h1, by unfold inP; rw [h2]; exact hbi⟩)
            refine ent_ok hpm (fun e => ?_) he0.2.2.1 ?_
            · cases hs0 : x0.text with
              | nil => rfl
              | cons a s => exact absurd ⟨e, by rw [hs0]; simp⟩ he0.2.1
            · split
              · exact hv
              · exact he0.2.2.2
          · rcases hr2 with rfl | hr2
            · rw [List.append_nil]
              rcases folder_zero.1 hf with h3 | ⟨y, h3, h4⟩
              · exact .inl h3
              · refine .inr ⟨y, ?_, h4⟩
                have hne := nonil _ y h3
                have hpi := par_in hpt hne
                rw [hlm, if_neg, if_neg]
                · exact h3
                · intro h5
                  have := inB_trans hpi h5
                  rw [hin0] at this; cases this
                · intro h5
                  exact par_ne hpt (inB_anti h5 hpi)
            · cases r with
              | nil => cases hr2
              | cons a r =>
                simp at hr2
                subst hr2
                obtain ⟨s, hs1, hs2⟩ := par_app (a := c.to) (r := r)
                have hp0 := folder_zero.1 (h.par x0 h1)
                rw [h2, hs1 c.path] at hp0
                rcases hp0 with h3 | ⟨y, h3, h4⟩
                · have : c.path = [] := (List.append_eq_nil_iff.1 h3).1
                  rw [this] at hpe
                  exact absurd rfl (right_names hpe [] (by simp [namesOf]))
                · refine .inr ⟨moveTo c v y, ?_, h4⟩
                  have hin3 : inB (c.to ++ s) c.to = true := inB_iff.2 ⟨s, rfl, hs2⟩
                  rw [hs1 c.to, hlm, if_pos hin3, show backP c (c.to ++ s) = c.path ++ s from by simp [backP], h3]
                  rfl
        · rename_i hi2
          split at hx
          · cases hx
          · rename_i hi3
            obtain ⟨h1, h2⟩ := look_some hx
            refine ⟨h.ent x h1, ?_⟩
            have hxe := (entErr_zero (h.ent x h1)).1
            have := folder_zero.1 (h.par x h1)
            rw [h2] at this hxe
            rcases this with h3 | ⟨y, h3, h4⟩
            · exact .inl h3
            · have hpi := par_in hxe (nonil _ y h3)
              refine .inr ⟨y, ?_, h4⟩
              rw [hlm, if_neg (fun h5 => hi2 (inB_trans hpi h5)), if_neg (fun h5 => hi3 (inB_trans hpi h5))]
              exact h3
theorem Right.big {t : List Ent} (h : Right t) : EBig t := ⟨fun x hx => by
  have h1 := entErr_zero (h.ent x hx)
  have h2 := pathErr_small h1.1
  exact ⟨by omega, by omega⟩, by have := h.len; omega⟩
end Go.Proofs.YtaoffekhpjgmdaaGreatDoor

/- Deltas in the abstract layer, 1: like, EqualFunc, check, Same; the reference's LikeTrees. -/
set_option linter.unusedSimpArgs false
set_option linter.unnecessarySimpa false
set_option linter.unusedVariables false
set_option maxHeartbeats 1000000
namespace Go.Proofs.YtaoffekhpjgmdaaGreatDoor
open Go.Ab Go.RowKit
set_option maxRecDepth 10000
attribute [local irreducible] Awp Ops OpsX Wanted Red ExOk Go.Ab.Fin ACall Rz RzL RzRows Enters ResOk RenV RenVL ArgV ArgVL

def likeE (a b : Ent) : Bool := decide (a.path = b.path) && decide (a.fold = b.fold) && decide (a.text = b.text)
/-- Are they the same, but for versions? -/
def likeT : List Ent → List Ent → Bool
  | [], [] => true
  | a :: s, b :: t => likeE a b && likeT s t
  | _, _ => false
theorem likeT_len : ∀ {a b : List Ent}, likeT a b = true → a.length = b.length
  | [], [], _ => rfl
  | a :: s, b :: t, h => by
    simp only [likeT, Bool.and_eq_true] at h
    simp [likeT_len h.2]
  | [], _ :: _, h => by simp [likeT] at h
  | _ :: _, [], h => by simp [likeT] at h
theorem likeT_all : ∀ {a b : List Ent}, a.length = b.length → (∀ i (h1 : i < a.length) (h2 : i < b.length), likeE a[i] b[i] = true) → likeT a b = true
  | [], [], _, _ => rfl
  | a :: s, b :: t, hl, h => by
    simp only [likeT, Bool.and_eq_true]
    exact ⟨h 0 (by simp) (by simp), likeT_all (by simpa using hl) fun i h1 h2 => h (i + 1) (by simpa using h1) (by simpa using h2)⟩
  | [], _ :: _, h, _ => by simp at h
  | _ :: _, [], h, _ => by simp at h
theorem likeT_at : ∀ {a b : List Ent}, likeT a b = true → ∀ i (h1 : i < a.length) (h2 : i < b.length), likeE a[i] b[i] = true
  | a :: s, b :: t, h, i, h1, h2 => by
    simp only [likeT, Bool.and_eq_true] at h
    cases i with
    | zero => exact h.1
    | succ i => exact likeT_at h.2 i (by simpa using h1) (by simpa using h2)
  | [], _, h, i, h1, h2 => by simp at h1
  | _ :: _, [], h, i, h1, h2 => by simp at h2
theorem likeT_bad {a b : List Ent} {i : Nat} (h1 : i < a.length) (h2 : i < b.length) (h : ¬ likeE a[i] b[i] = true) : likeT a b = false := by
  cases e : likeT a b
  · rfl
  · exact absurd (likeT_at e i h1 h2) h
theorem likeT_short {a b : List Ent} (h : ¬ a.length = b.length) : likeT a b = false := by
  cases e : likeT a b
  · rfl
  · exact absurd (likeT_len e) h

theorem a_like (a b : Ent) : AFn C.P 52 [.agg a.row, .agg b.row] (.v (.bool (likeE a b))) := by
  have hE : likeE a b = (decide (a.path = b.path) && decide (a.fold = b.fold) && decide (a.text = b.text)) := rfl
  generalize likeE a b = E at *
  refine acall_intro Tryz.func52 rfl _ Tryz.ntmps52 (Nat.le_of_ble_eq_true rfl) _ Tryz.results52 0 rfl rfl ?_
  repeat' (first | refine walk ?_ | (first | (refine o_beq ?_)) | ((first | (apply ops_split_t; rfl; rfl; exact nle rfl) | (apply ops_split_f; rfl; rfl; exact nle rfl) | (apply awp_cond; rfl)); all_goals (intro hc; have hp := hc; first | (simp at hp; done) | ((try simp at hp); first | (exfalso; omega) | skip))) | (apply awp_cond_any; rfl))
  all_goals (apply fin_bool; rfl; rw [hE]; simp_all)
def twoErr (a b : List Ent) : Int := firstErr treeErr [a, b]
theorem twoErr_eq (a b : List Ent) : twoErr a b = if treeErr a = 0 then treeErr b else treeErr a := by simp only [twoErr, firstErr]; split <;> (try split) <;> simp_all
end Go.Proofs.YtaoffekhpjgmdaaGreatDoor

/- Deltas in the abstract layer, 2: Raw, Diff. -/
set_option linter.unusedSimpArgs false
set_option linter.unnecessarySimpa false
set_option linter.unusedVariables false
set_option maxHeartbeats 1000000
namespace Go.Proofs.YtaoffekhpjgmdaaGreatDoor
open Go.Ab Go.RowKit
set_option maxRecDepth 10000
attribute [local irreducible] Awp Ops OpsX Wanted Red ExOk Go.Ab.Fin ACall Rz RzL RzRows Enters ResOk RenV RenVL ArgV ArgVL

theorem a_indexS (p : Str → Bool) (g : FuncId) (hg : IsFn C.P g) (cap : List AV) (hcap : AV.pure.pureL cap = true) (l : List (Str)) (hl : l.length ≤ 1000000) (hc : ∀ s, s ∈ l → AFn C.P g ((AV.v (str s)) :: cap) (.v (.bool (p s)))) :
    AFn C.P 66 [.sl false (l.map strRow), .clo (.func g) [] cap] (.v (.int .i64 (idxOf p l))) := by
  refine acall_intro Tryz.func66 rfl _ Tryz.ntmps66 (Nat.le_of_ble_eq_true rfl) _ Tryz.results66 0 rfl rfl ?_
  repeat' (first | refine walk ?_ | fail | ((first | (apply awp_cond; rfl)); all_goals (intro hc; have hp := hc; first | (simp at hp; done) | ((try simp at hp); first | (exfalso; omega) | skip))) | (apply awp_cond_any; rfl))
  (refine Awp.red (red_pure (ts := [(0, .sl false (l.map strRow)), (1, .clo (.func g) [] cap), (7, .v (.int .i64 l.length)), (8, .v (.int .i64 ((0 : Nat) : Int)))]) ?_) ?_; ((repeat (first | exact tsok_nil | refine p_pure ?_ | refine p_eq ?_ ?_))))
  all_goals try (rw [List.length_map]; done)
  refine awp_loop (fun n σ => ∃ i : Nat, i ≤ l.length ∧ n = l.length - i ∧ (∀ s, s ∈ l.take i → p s = false) ∧ σ = ⟨[(0, .sl false (l.map strRow)), (1, .clo (.func g) [] cap), (7, .v (.int .i64 l.length)), (8, .v (.int .i64 (i : Int)))], [], C.nh⟩) l.length ⟨0, Nat.zero_le _, rfl, (by simp), rfl⟩ ?_
  rintro n σ ⟨i, hi, rfl, hsofar, rfl⟩
  by_cases hlt : i < l.length
  · have hr := getRow (f := strRow) hlt
    have hci := hc l[i] (List.getElem_mem _)
    repeat' (first | refine walk ?_ | (first | (apply opsx_val; apply ex_callv []; rfl; exact hg; exact hci; (case hz => exact rzl_cons (rz_pure rfl) (rzl_self hcap)); (case hfl => rfl); (case hN => exact nle rfl))) | ((first | (apply awp_cond; rfl)); all_goals (intro hc; have hp := hc; first | (simp at hp; done) | ((try simp at hp); first | (exfalso; omega) | skip))) | (apply awp_cond_any; rfl))
    all_goals try (exfalso; omega)
    · apply fin_int
      rfl
      exact (idxOf_at hlt hsofar hp).symm
    · refine ⟨l.length - (i + 1), _, by omega, red_pure (ts := [(0, .sl false (l.map strRow)), (1, .clo (.func g) [] cap), (7, .v (.int .i64 l.length)), (8, .v (.int .i64 ((i + 1 : Nat) : Int)))]) ?_, i + 1, by omega, rfl, mem_take_succ hlt hsofar hp, rfl⟩; ((repeat (first | exact tsok_nil | refine p_pure ?_ | refine p_eq ?_ ?_)))
  obtain rfl : i = l.length := by omega
  repeat' (first | refine walk ?_ | fail | ((first | (apply awp_cond; rfl)); all_goals (intro hc; have hp := hc; first | (simp at hp; done) | ((try simp at hp); first | (exfalso; omega) | skip))) | (apply awp_cond_any; rfl))
  all_goals try (exfalso; omega)
  apply fin_int
  rfl
  exact (idxOf_none fun s hs => hsofar s (by rw [List.take_length]; exact hs)).symm
theorem a_containsS (p : Str → Bool) (g : FuncId) (hg : IsFn C.P g) (cap : List AV) (hcap : AV.pure.pureL cap = true) (l : List (Str)) (hl : l.length ≤ 1000000) (hc : ∀ s, s ∈ l → AFn C.P g ((AV.v (str s)) :: cap) (.v (.bool (p s)))) :
    AFn C.P 48 [.sl false (l.map strRow), .clo (.func g) [] cap] (.v (.bool (l.any p))) := by
  have hidx := a_indexS p g hg cap hcap l hl hc
  refine acall_intro Tryz.func48 rfl _ Tryz.ntmps48 (Nat.le_of_ble_eq_true rfl) _ Tryz.results48 0 rfl rfl ?_
  repeat' (first | refine walk ?_ | (first | (apply opsx_val; apply ex_call []; exact isFn_of Tryz.func66 rfl rfl; exact hidx; (case hz => exact rzl_cons (rz_pure rfl) (rzl_cons (rz_clo_pure hcap) rzl_nil)); (case hfl => rfl); (case hN => exact nle rfl))) | ((first | (apply awp_cond; rfl)); all_goals (intro hc; have hp := hc; first | (simp at hp; done) | ((try simp at hp); first | (exfalso; omega) | skip))) | (apply awp_cond_any; rfl))
  apply fin_bool
  rfl
  rw [← idxOf_any]
def differs (b : List Ent) (x : Ent) : Bool := match b.find? (atP x.path) with | none => true | some y => decide (¬ y.fold = x.fold)
def goneStep (b : List Ent) (g : List Str) (x : Ent) : List Str := if (g.any fun p => inB x.path p) = true then g else if differs b x = true then g ++ [x.path] else g
def gonesOf (a b : List Ent) : List Str := a.foldl (goneStep b) []
def delChg (p : Str) : Chg := ⟨4, p, [], [], -1⟩
def mkChg (x : Ent) : Chg := ⟨if x.fold = true then 1 else 2, x.path, [], x.text, -1⟩
def stays (a : List Ent) (x : Ent) : Bool := match a.find? (atP x.path) with | some y => likeE y x | none => false
def rawD (a b : List Ent) : List Chg := (gonesOf a b).map delChg ++ (b.filter fun x => !stays a x).map mkChg

theorem gones_succ {a b : List Ent} {i : Nat} (h : i < a.length) : gonesOf (a.take (i + 1)) b = goneStep b (gonesOf (a.take i) b) a[i] := by
  unfold gonesOf
  rw [List.take_succ_eq_append_getElem h, List.foldl_append]; rfl
theorem gones_len (a b : List Ent) : (gonesOf a b).length ≤ a.length := by
  have : ∀ (l : List Ent) (g : List Str), (l.foldl (goneStep b) g).length ≤ g.length + l.length := by
    intro l
    induction l with
    | nil => intro g; simp
    | cons x l ih =>
      intro g
      have h1 := ih (goneStep b g x)
      have h2 : (goneStep b g x).length ≤ g.length + 1 := by unfold goneStep; split <;> (try split) <;> simp
      simp only [List.foldl_cons, List.length_cons]; omega
  have := this a []
  simpa [gonesOf] using this
def rawTo (a b : List Ent) (i : Nat) : List Chg := (gonesOf a b).map delChg ++ ((b.take i).filter fun x => !stays a x).map mkChg
theorem raw_succ {a b : List Ent} {i : Nat} (h : i < b.length) : rawTo a b (i + 1) = if stays a b[i] = true then rawTo a b i else rawTo a b i ++ [mkChg b[i]] := by
  unfold rawTo
  rw [List.take_succ_eq_append_getElem h, List.filter_append]
  cases hs : stays a b[i] <;> simp [hs]
theorem a_rawC (x : Ent) (p : Str) (hp : p.length ≤ 140737488355328) : AFn C.P 49 [.v (str p), .fp [x.row] 0 0] (.v (.bool (inB x.path p))) := by
  have hin := a_in x.path p hp
  refine acall_intro Tryz.func49 rfl _ Tryz.ntmps49 (Nat.le_of_ble_eq_true rfl) _ Tryz.results49 0 rfl rfl ?_
  repeat' (first | refine walk ?_ | (first | (apply to_call Tryz.func50 rfl rfl; intro hIsFn; refine o_callf hIsFn (hin ..) ?_; skip)) | ((first | (apply awp_cond; rfl)); all_goals (intro hc; have hp := hc; first | (simp at hp; done) | ((try simp at hp); first | (exfalso; omega) | skip))) | (apply awp_cond_any; rfl))
  all_goals (apply fin_bool; rfl; rfl)
set_option maxHeartbeats 1600000 in
theorem a_rawO (a b : List Ent) (hla : a.length ≤ 1000000) (hlb : b.length ≤ 1000000) (hea : ∀ x, x ∈ a → x.small) (hsa : rising entLt a = true) (hsb : rising entLt b = true) :
    ACall C.P 28 [entAV a, entAV b] [] (.os 0 0 (rawD a b).length) [.own false 5 ((rawD a b).map Chg.row)] := by
  refine acall_intro Tryz.func28 rfl _ Tryz.ntmps28 (Nat.le_of_ble_eq_true rfl) _ Tryz.results28 0 rfl rfl ?_
  repeat' (first | refine walk ?_ | fail | ((first | (apply ops_split_t; rfl; rfl; exact nle rfl) | (apply ops_split_f; rfl; rfl; exact nle rfl) | (apply awp_cond; rfl)); all_goals (intro hc; have hp := hc; first | (simp at hp; done) | ((try simp at hp); first | (exfalso; omega) | skip))) | (apply awp_cond_any; rfl))
  refine Awp.red (red_nil 5 5 rfl (Nat.zero_le _)) ?_
  refine Awp.red (red_nil 6 1 rfl (Nat.zero_le _)) ?_
  (refine Awp.red (red_ren (τ := ⟨[(0, entAV a), (1, entAV b), (5, .os 0 0 0), (6, .os 1 0 0), (16, entAV a), (17, .v (.int .i64 a.length)), (18, .v (.int .i64 ((0 : Nat) : Int)))], [(0, .own false 5 []), (1, .own false 1 [])], 2⟩) [(0, 0), (1, 1)] rfl ?gts ?ghs) ?gmain; (case gts => (repeat (first | exact tsok_nil | refine p_pure ?_ | refine p_op ?_ | refine p_os ?_ | refine p_eq ?_ ?_)); all_goals (rw [List.length_map])); (case ghs => (repeat (first | exact hsok_nil | refine q_id ?_ | refine q_idx ?_ ?_))))
  refine awp_loop (fun n σ => ∃ i : Nat, i ≤ a.length ∧ n = a.length - i ∧ (∀ p, p ∈ gonesOf (a.take i) b → p.length ≤ 140737488355328) ∧ σ = ⟨[(0, entAV a), (1, entAV b), (5, .os 0 0 (gonesOf (a.take i) b).length), (6, .os 1 0 (gonesOf (a.take i) b).length), (16, entAV a), (17, .v (.int .i64 a.length)), (18, .v (.int .i64 (i : Int)))], [(0, .own false 5 ((gonesOf (a.take i) b).map fun p => (delChg p).row)), (1, .own false 1 ((gonesOf (a.take i) b).map strRow))], 2⟩) a.length ⟨0, Nat.zero_le _, rfl, (by simp [gonesOf]), rfl⟩ ?_
  rintro n σ ⟨i, hi, rfl, hsofar, rfl⟩
  have hgl := gones_len (a.take i) b
  have htl : (a.take i).length ≤ a.length := by simp; omega
  by_cases hlt : i < a.length
  · have hr := getRow (f := Ent.row) hlt
    have hsm := hea a[i] (List.getElem_mem _)
    have hgs := @gones_succ a b i hlt
    have hgg : goneStep b (gonesOf (a.take i) b) a[i] = if ((gonesOf (a.take i) b).any fun p => inB a[i].path p) = true then gonesOf (a.take i) b else if differs b a[i] = true then gonesOf (a.take i) b ++ [a[i].path] else gonesOf (a.take i) b := rfl
    rw [hgg] at hgs
    generalize gonesOf (a.take i) b = G at *
    have hcon := a_containsS (fun p => inB a[i].path p) 49 (isFn_of Tryz.func49 rfl rfl) [.fp [a[i].row] 0 0] rfl G (by omega) (fun p hp => a_rawC a[i] p (by have := hsofar p hp; omega))
    have hat := a_at b a[i].path (by omega) hsb
    have hdf : differs b a[i] = match b.find? (atP a[i].path) with | none => true | some y => decide (¬ y.fold = a[i].fold) := rfl
    have hng : ∀ p, p ∈ G ++ [a[i].path] → p.length ≤ 140737488355328 := fun p hp => by
      rcases List.mem_append.1 hp with hp | hp
      · exact hsofar p hp
      · rw [List.mem_singleton.1 hp]; exact hsm.1
    generalize differs b a[i] = D at *
    generalize (G.any fun p => inB a[i].path p) = A at *
    cases hh : hitE b a[i].path with
    | true =>
      obtain ⟨hk, hpe, hfi, -⟩ := hitE_at hsb hh
      rw [hh] at hat
      rw [hfi] at hdf
      have hrb := getRow (f := Ent.row) hk
      generalize posE b a[i].path = k at *
      repeat' (first | refine walk ?_ | (first | (refine o_fzl ?_) | (refine o_appo ?_) | (apply to_call Tryz.func51 rfl rfl; intro hIsFn; refine o_callp hIsFn (hat ..) ?_) | (apply opsx_val; apply ex_call ([1, 2]); exact isFn_of Tryz.func48 rfl rfl; exact hcon; (case hz => (refine rzl_cons (rz_os_pure rfl (by simp) (pures_map fun _ => rfl)) (rzl_cons (rz_clo rzl_nil (rzl_cons (rz_op rfl (by simp) (rzrows_pure (fun row hrow => by rw [List.mem_singleton.1 hrow]; rfl))) rzl_nil)) rzl_nil))); (case hfl => rfl); (case hN => exact nle rfl)) | (refine o_beq ?_)) | ((first | (apply ops_split_t; rfl; rfl; exact nle rfl) | (apply ops_split_f; rfl; rfl; exact nle rfl) | (apply awp_cond; rfl)); all_goals (intro hc; have hp := hc; first | (simp at hp; done) | ((try simp at hp); first | (exfalso; omega) | skip))) | (apply awp_cond_any; rfl))
      all_goals try (exfalso; omega)
      all_goals first
        | (have hg2 : gonesOf (a.take (i + 1)) b = G := (by rw [hgs]; simp_all); refine ⟨a.length - (i + 1), _, by omega, red_ren (τ := ⟨[(0, entAV a), (1, entAV b), (5, .os 0 0 (gonesOf (a.take (i + 1)) b).length), (6, .os 1 0 (gonesOf (a.take (i + 1)) b).length), (16, entAV a), (17, .v (.int .i64 a.length)), (18, .v (.int .i64 ((i + 1 : Nat) : Int)))], [(0, .own false 5 ((gonesOf (a.take (i + 1)) b).map fun p => (delChg p).row)), (1, .own false 1 ((gonesOf (a.take (i + 1)) b).map strRow))], 2⟩) [(0, 0), (1, 1)] rfl ?gts ?ghs, i + 1, by omega, rfl, (by rw [hg2]; exact hsofar), rfl⟩; (case gts => (repeat (first | exact tsok_nil | refine p_pure ?_ | refine p_op ?_ | refine p_os ?_ | refine p_eq ?_ ?_)); all_goals (rw [hg2])); (case ghs => (repeat (first | exact hsok_nil | refine q_id ?_ | refine q_idx ?_ ?_)); all_goals (rw [hg2])))
        | (have hg2 : gonesOf (a.take (i + 1)) b = G ++ [a[i].path] := (by rw [hgs]; simp_all); refine ⟨a.length - (i + 1), _, by omega, red_ren (τ := ⟨[(0, entAV a), (1, entAV b), (5, .os 0 0 (gonesOf (a.take (i + 1)) b).length), (6, .os 1 0 (gonesOf (a.take (i + 1)) b).length), (16, entAV a), (17, .v (.int .i64 a.length)), (18, .v (.int .i64 ((i + 1 : Nat) : Int)))], [(0, .own false 5 ((gonesOf (a.take (i + 1)) b).map fun p => (delChg p).row)), (1, .own false 1 ((gonesOf (a.take (i + 1)) b).map strRow))], 2⟩) [(3, 0), (4, 1)] rfl ?gts ?ghs, i + 1, by omega, rfl, (by rw [hg2]; exact hng), rfl⟩; (case gts => (repeat (first | exact tsok_nil | refine p_pure ?_ | refine p_op ?_ | refine p_os ?_ | refine p_eq ?_ ?_)); all_goals (rw [hg2]; first | (rw [List.take_of_length_le (by simp), List.map_append]; rfl) | (simp; done))); (case ghs => (repeat (first | exact hsok_nil | refine q_id ?_ | refine q_idx ?_ ?_)); all_goals (rw [hg2]; first | (rw [List.take_of_length_le (by simp), List.map_append]; rfl) | (simp; done))))
    | false =>
      rw [hh] at hat
      rw [(hitE_none hh).1] at hdf
      repeat' (first | refine walk ?_ | (first | (refine o_fzl ?_) | (refine o_appo ?_) | (apply to_call Tryz.func51 rfl rfl; intro hIsFn; refine o_callp hIsFn (hat ..) ?_) | (apply opsx_val; apply ex_call ([1, 2]); exact isFn_of Tryz.func48 rfl rfl; exact hcon; (case hz => (refine rzl_cons (rz_os_pure rfl (by simp) (pures_map fun _ => rfl)) (rzl_cons (rz_clo rzl_nil (rzl_cons (rz_op rfl (by simp) (rzrows_pure (fun row hrow => by rw [List.mem_singleton.1 hrow]; rfl))) rzl_nil)) rzl_nil))); (case hfl => rfl); (case hN => exact nle rfl)) | (refine o_beq ?_)) | ((first | (apply ops_split_t; rfl; rfl; exact nle rfl) | (apply ops_split_f; rfl; rfl; exact nle rfl) | (apply awp_cond; rfl)); all_goals (intro hc; have hp := hc; first | (simp at hp; done) | ((try simp at hp); first | (exfalso; omega) | skip))) | (apply awp_cond_any; rfl))
      all_goals try (exfalso; omega)
      all_goals first
        | (have hg2 : gonesOf (a.take (i + 1)) b = G := (by rw [hgs]; simp_all); refine ⟨a.length - (i + 1), _, by omega, red_ren (τ := ⟨[(0, entAV a), (1, entAV b), (5, .os 0 0 (gonesOf (a.take (i + 1)) b).length), (6, .os 1 0 (gonesOf (a.take (i + 1)) b).length), (16, entAV a), (17, .v (.int .i64 a.length)), (18, .v (.int .i64 ((i + 1 : Nat) : Int)))], [(0, .own false 5 ((gonesOf (a.take (i + 1)) b).map fun p => (delChg p).row)), (1, .own false 1 ((gonesOf (a.take (i + 1)) b).map strRow))], 2⟩) [(0, 0), (1, 1)] rfl ?gts ?ghs, i + 1, by omega, rfl, (by rw [hg2]; exact hsofar), rfl⟩; (case gts => (repeat (first | exact tsok_nil | refine p_pure ?_ | refine p_op ?_ | refine p_os ?_ | refine p_eq ?_ ?_)); all_goals (rw [hg2])); (case ghs => (repeat (first | exact hsok_nil | refine q_id ?_ | refine q_idx ?_ ?_)); all_goals (rw [hg2])))
        | (have hg2 : gonesOf (a.take (i + 1)) b = G ++ [a[i].path] := (by rw [hgs]; simp_all); refine ⟨a.length - (i + 1), _, by omega, red_ren (τ := ⟨[(0, entAV a), (1, entAV b), (5, .os 0 0 (gonesOf (a.take (i + 1)) b).length), (6, .os 1 0 (gonesOf (a.take (i + 1)) b).length), (16, entAV a), (17, .v (.int .i64 a.length)), (18, .v (.int .i64 ((i + 1 : Nat) : Int)))], [(0, .own false 5 ((gonesOf (a.take (i + 1)) b).map fun p => (delChg p).row)), (1, .own false 1 ((gonesOf (a.take (i + 1)) b).map strRow))], 2⟩) [(3, 0), (4, 1)] rfl ?gts ?ghs, i + 1, by omega, rfl, (by rw [hg2]; exact hng), rfl⟩; (case gts => (repeat (first | exact tsok_nil | refine p_pure ?_ | refine p_op ?_ | refine p_os ?_ | refine p_eq ?_ ?_)); all_goals (rw [hg2]; first | (rw [List.take_of_length_le (by simp), List.map_append]; rfl) | (simp; done))); (case ghs => (repeat (first | exact hsok_nil | refine q_id ?_ | refine q_idx ?_ ?_)); all_goals (rw [hg2]; first | (rw [List.take_of_length_le (by simp), List.map_append]; rfl) | (simp; done))))
  obtain rfl : i = a.length := by omega
  rw [List.take_length] at *
  repeat' (first | refine walk ?_ | fail | ((first | (apply ops_split_t; rfl; rfl; exact nle rfl) | (apply ops_split_f; rfl; rfl; exact nle rfl) | (apply awp_cond; rfl)); all_goals (intro hc; have hp := hc; first | (simp at hp; done) | ((try simp at hp); first | (exfalso; omega) | skip))) | (apply awp_cond_any; rfl))
  all_goals try (exfalso; omega)
  have hR0 : (gonesOf a b).map (fun p => (delChg p).row) = (rawTo a b 0).map Chg.row := by simp [rawTo]
  have hL0 : (gonesOf a b).length = (rawTo a b 0).length := by simp [rawTo]
  rw [hR0, hL0]
  (refine Awp.red (red_ren (τ := ⟨[(0, entAV a), (5, .os 0 0 (rawTo a b 0).length), (56, entAV b), (57, .v (.int .i64 b.length)), (58, .v (.int .i64 ((0 : Nat) : Int)))], [(0, .own false 5 ((rawTo a b 0).map Chg.row))], 1⟩) [(0, 0)] rfl ?gts2 ?ghs2) ?gmain2; (case gts2 => (repeat (first | exact tsok_nil | refine p_pure ?_ | refine p_op ?_ | refine p_os ?_ | refine p_eq ?_ ?_)); all_goals (rw [List.length_map])); (case ghs2 => (repeat (first | exact hsok_nil | refine q_id ?_ | refine q_idx ?_ ?_))))
  refine awp_loop (fun n σ => ∃ i : Nat, i ≤ b.length ∧ n = b.length - i ∧ (True) ∧ σ = ⟨[(0, entAV a), (5, .os 0 0 (rawTo a b i).length), (56, entAV b), (57, .v (.int .i64 b.length)), (58, .v (.int .i64 (i : Int)))], [(0, .own false 5 ((rawTo a b i).map Chg.row))], 1⟩) b.length ⟨0, Nat.zero_le _, rfl, trivial, rfl⟩ ?_
  rintro n σ ⟨i, hi, rfl, -, rfl⟩
  have hgl : (rawTo a b i).length ≤ 2000000 := by
    have h1 := gones_len a b
    have h2 : ((b.take i).filter fun x => !stays a x).length ≤ (b.take i).length := List.length_filter_le ..
    have h3 : (b.take i).length ≤ b.length := by simp; omega
    simp only [rawTo, List.length_append, List.length_map]; omega
  by_cases hlt : i < b.length
  · have hr := getRow (f := Ent.row) hlt
    have hgs := @raw_succ a b i hlt
    have hmk1 : b[i].fold = true → (mkChg b[i]).row = [.v (.int .i64 1), .v (str b[i].path), .v (str []), .v (str b[i].text), .v (.int .i64 (-1))] := fun h => by simp [mkChg, Chg.row, h]
    have hmk2 : b[i].fold = false → (mkChg b[i]).row = [.v (.int .i64 2), .v (str b[i].path), .v (str []), .v (str b[i].text), .v (.int .i64 (-1))] := fun h => by simp [mkChg, Chg.row, h]
    have hat := a_at a b[i].path (by omega) hsa
    have hst : stays a b[i] = match a.find? (atP b[i].path) with | some y => likeE y b[i] | none => false := rfl
    generalize rawTo a b i = G at *
    cases hh : hitE a b[i].path with
    | true =>
      obtain ⟨hk, hpe, hfi, -⟩ := hitE_at hsa hh
      rw [hh] at hat
      rw [hfi] at hst
      have hra := getRow (f := Ent.row) hk
      generalize posE a b[i].path = k at *
      have hlk := a_like a[k] b[i]
      have hst2 : stays a b[i] = likeE a[k] b[i] := hst
      obtain ⟨LK, hLK⟩ : ∃ LK, likeE a[k] b[i] = LK := ⟨_, rfl⟩
      rw [hLK] at hst2 hlk
      rw [hst2] at hgs
      clear hst hfi hh hsofar
      repeat' (first | refine walk ?_ | (first | (refine o_fzl ?_) | (refine o_appo ?_) | (apply to_call Tryz.func51 rfl rfl; intro hIsFn; refine o_callp hIsFn (hat ..) ?_) | (apply to_call Tryz.func52 rfl rfl; intro hIsFn; refine o_callf hIsFn (hlk ..) ?_; skip)) | ((first | (apply ops_split_t; rfl; rfl; exact nle rfl) | (apply ops_split_f; rfl; rfl; exact nle rfl) | (apply awp_cond; rfl)); all_goals (intro hc; have hp := hc; first | (simp at hp; done) | ((try simp at hp); first | (exfalso; omega) | skip))) | (apply awp_cond_any; rfl))
      all_goals try (exfalso; omega)
      all_goals first
        | (have hg2 : rawTo a b (i + 1) = G := (by rw [hgs, if_pos (by assumption)]); refine ⟨b.length - (i + 1), _, by omega, red_ren (τ := ⟨[(0, entAV a), (5, .os 0 0 (rawTo a b (i + 1)).length), (56, entAV b), (57, .v (.int .i64 b.length)), (58, .v (.int .i64 ((i + 1 : Nat) : Int)))], [(0, .own false 5 ((rawTo a b (i + 1)).map Chg.row))], 1⟩) [(0, 0)] rfl ?gts ?ghs, i + 1, by omega, rfl, trivial, rfl⟩; (case gts => (repeat (first | exact tsok_nil | refine p_pure ?_ | refine p_op ?_ | refine p_os ?_ | refine p_eq ?_ ?_)); all_goals (rw [hg2])); (case ghs => (repeat (first | exact hsok_nil | refine q_id ?_ | refine q_idx ?_ ?_)); all_goals (rw [hg2])))
        | (have hg2 : rawTo a b (i + 1) = G ++ [mkChg b[i]] := (by rw [hgs, if_neg (Bool.eq_false_iff.1 (by assumption))]); refine ⟨b.length - (i + 1), _, by omega, red_ren (τ := ⟨[(0, entAV a), (5, .os 0 0 (rawTo a b (i + 1)).length), (56, entAV b), (57, .v (.int .i64 b.length)), (58, .v (.int .i64 ((i + 1 : Nat) : Int)))], [(0, .own false 5 ((rawTo a b (i + 1)).map Chg.row))], 1⟩) [(3, 0)] rfl ?gts ?ghs, i + 1, by omega, rfl, trivial, rfl⟩; (case gts => (repeat (first | exact tsok_nil | refine p_pure ?_ | refine p_op ?_ | refine p_os ?_ | refine p_eq ?_ ?_)); all_goals (rw [hg2]; first | (rw [List.take_of_length_le (by simp), List.map_append]; show _ = _ ++ [(mkChg b[i]).row]; first | (rw [hmk1 (by assumption)]; rfl) | (rw [hmk2 (by assumption)]; rfl)) | (simp; done))); (case ghs => (repeat (first | exact hsok_nil | refine q_id ?_ | refine q_idx ?_ ?_)); all_goals (rw [hg2]; first | (rw [List.take_of_length_le (by simp), List.map_append]; show _ = _ ++ [(mkChg b[i]).row]; first | (rw [hmk1 (by assumption)]; rfl) | (rw [hmk2 (by assumption)]; rfl)) | (simp; done))))
    | false =>
      rw [hh] at hat
      rw [(hitE_none hh).1] at hst
      have hst : stays a b[i] = false := hst
      clear hh hsofar
      repeat' (first | refine walk ?_ | (first | (refine o_fzl ?_) | (refine o_appo ?_) | (apply to_call Tryz.func51 rfl rfl; intro hIsFn; refine o_callp hIsFn (hat ..) ?_)) | ((first | (apply ops_split_t; rfl; rfl; exact nle rfl) | (apply ops_split_f; rfl; rfl; exact nle rfl) | (apply awp_cond; rfl)); all_goals (intro hc; have hp := hc; first | (simp at hp; done) | ((try simp at hp); first | (exfalso; omega) | skip))) | (apply awp_cond_any; rfl))
      all_goals try (exfalso; omega)
      all_goals (have hg2 : rawTo a b (i + 1) = G ++ [mkChg b[i]] := (by rw [hgs, if_neg (Bool.eq_false_iff.1 (by assumption))]); refine ⟨b.length - (i + 1), _, by omega, red_ren (τ := ⟨[(0, entAV a), (5, .os 0 0 (rawTo a b (i + 1)).length), (56, entAV b), (57, .v (.int .i64 b.length)), (58, .v (.int .i64 ((i + 1 : Nat) : Int)))], [(0, .own false 5 ((rawTo a b (i + 1)).map Chg.row))], 1⟩) [(3, 0)] rfl ?gts ?ghs, i + 1, by omega, rfl, trivial, rfl⟩; (case gts => (repeat (first | exact tsok_nil | refine p_pure ?_ | refine p_op ?_ | refine p_os ?_ | refine p_eq ?_ ?_)); all_goals (rw [hg2]; first | (rw [List.take_of_length_le (by simp), List.map_append]; show _ = _ ++ [(mkChg b[i]).row]; first | (rw [hmk1 (by assumption)]; rfl) | (rw [hmk2 (by assumption)]; rfl)) | (simp; done))); (case ghs => (repeat (first | exact hsok_nil | refine q_id ?_ | refine q_idx ?_ ?_)); all_goals (rw [hg2]; first | (rw [List.take_of_length_le (by simp), List.map_append]; show _ = _ ++ [(mkChg b[i]).row]; first | (rw [hmk1 (by assumption)]; rfl) | (rw [hmk2 (by assumption)]; rfl)) | (simp; done))))
  obtain rfl : i = b.length := by omega
  repeat' (first | refine walk ?_ | fail | ((first | (apply ops_split_t; rfl; rfl; exact nle rfl) | (apply ops_split_f; rfl; rfl; exact nle rfl) | (apply awp_cond; rfl)); all_goals (intro hc; have hp := hc; first | (simp at hp; done) | ((try simp at hp); first | (exfalso; omega) | skip))) | (apply awp_cond_any; rfl))
  all_goals try (exfalso; omega)
  have hall : rawTo a b b.length = rawD a b := by simp [rawTo, rawD]
  rw [hall]
  (apply fin_ownr (rs := [.tmp 4]) [(0, 0)] 1; (case hr => (repeat (first | exact resok_nil | (apply resok_tmp; rfl) | (apply resok_cell; rfl; rfl; rfl; rfl; rfl)))); (case hL => rfl); (case hh => (repeat (first | exact hsok_nil | refine q_id ?_ | refine q_idx ?_ ?_)); all_goals trace_state); (case hi => first | exact (rfl : _ = ([] : List (Nat × Nat))) | exact (rfl : _ = [((0 : Nat), (0 : Nat))]) | exact (rfl : _ = [((0 : Nat), (0 : Nat)), (1, 1)])); (case hz => first | rfl | (simp [pack, AV.ren, AV.ren.renL, lookN, getT, enumT]; done) | (simp [pack, AV.ren, AV.ren.renL, lookN, getT, enumT, *]; done) | trace_state))
theorem a_raw (a b : List Ent) (hla : a.length ≤ 1000000) (hlb : b.length ≤ 1000000) (hea : ∀ x, x ∈ a → x.small) (hsa : rising entLt a = true) (hsb : rising entLt b = true) :
    AFn C.P 28 [entAV a, entAV b] (chgAV (rawD a b)) :=
  afn_of_own (a_rawO a b hla hlb hea hsa hsb) (rz_os_pure rfl (by simp) (pures_map fun _ => rfl))
end Go.Proofs.YtaoffekhpjgmdaaGreatDoor

/- Deltas in the abstract layer, 3: Diff; what must be in any case. -/
set_option linter.unusedSimpArgs false
set_option linter.unnecessarySimpa false
set_option linter.unusedVariables false
set_option maxHeartbeats 1000000
namespace Go.Proofs.YtaoffekhpjgmdaaGreatDoor
open Go.Ab Go.RowKit
set_option maxRecDepth 10000
attribute [local irreducible] Awp Ops OpsX Wanted Red ExOk Go.Ab.Fin ACall Rz RzL RzRows Enters ResOk RenV RenVL ArgV ArgVL

theorem treeErr_iff0 {t : List Ent} : treeErr t = 0 ↔ t.length ≤ 60 ∧ (∀ x, x ∈ t → entErr x = 0) ∧ rising entLt t = true ∧ ∀ x, x ∈ t → parErr t x = 0 := by
  unfold treeErr
  constructor
  · intro h
    split at h
    · exact absurd h (by decide)
    split at h
    case isFalse h' => exact absurd h h'
    rename_i h1 h2
    split at h
    case isFalse => exact absurd h (by decide)
    rename_i h3
    split at h
    case isTrue => exact absurd h (by decide)
    split at h
    case isTrue => exact absurd h (by decide)
    rename_i h4 h5
    refine ⟨by omega, firstErr_zero.1 h2, h3, fun x hx => ?_⟩
    cases e : decide (parErr t x = 0)
    · exact absurd (List.any_eq_true.2 ⟨x, hx, by simpa using e⟩) h5
    · simpa using e
  · rintro ⟨h1, h2, h3, h4⟩
    rw [if_neg (by omega), if_pos (firstErr_zero.2 h2), if_pos h3, if_neg, if_neg]
    · intro h
      obtain ⟨x, hx, hk⟩ := List.any_eq_true.1 h
      simp [h4 x hx] at hk
    · intro h
      obtain ⟨x, hx, hk⟩ := List.any_eq_true.1 h
      simp [h4 x hx] at hk
theorem twoErr_zero {a b : List Ent} : twoErr a b = 0 ↔ treeErr a = 0 ∧ treeErr b = 0 := by
  rw [twoErr_eq]
  by_cases h : treeErr a = 0 <;> simp [h]
def diffL (a b : List Ent) : List Chg := if twoErr a b = 0 then rawD a b else []
def eA : Ent := ⟨[97], false, [120], 1⟩
end Go.Proofs.YtaoffekhpjgmdaaGreatDoor

/- Deltas: the reference's DiffOf, plain. -/
set_option linter.unusedSimpArgs false
set_option linter.unnecessarySimpa false
set_option linter.unusedVariables false
namespace Go.Proofs.YtaoffekhpjgmdaaGreatDoor
open Go.Op

/-- What is left of a tree behind deletions. -/
def leftOf (a : List Ent) (g : List Str) : List Ent := a.filter fun x => !(g.any fun p => inB x.path p)
theorem left_nil (a : List Ent) : leftOf a [] = a := by simp [leftOf]
theorem left_snoc (a : List Ent) (g : List Str) (q : Str) : leftOf a (g ++ [q]) = keepE (inP q) (leftOf a g) := by
  unfold leftOf keepE inP
  rw [List.filter_filter]
  congr 1
  funext x
  simp [Bool.and_comm]
theorem left_rising {a : List Ent} {g : List Str} (h : rising entLt a = true) : rising entLt (leftOf a g) = true := rising_pairE.2 ((rising_pairE.1 h).sublist List.filter_sublist)
theorem left_len (a : List Ent) (g : List Str) : (leftOf a g).length ≤ a.length := List.length_filter_le ..
theorem left_mem {a : List Ent} {g : List Str} {x : Ent} (h : x ∈ leftOf a g) : x ∈ a := (List.mem_filter.1 h).1
theorem look_left (a : List Ent) (g : List Str) (p : Str) : look (leftOf a g) p = if (g.any fun q => inB p q) = true then none else look a p := by
  split
  · rename_i h
    rw [look_none]
    intro x hx
    have := (List.mem_filter.1 hx).2
    intro e
    rw [e, h] at this
    exact absurd this (by decide)
  · rename_i h
    unfold look leftOf
    rw [List.find?_filter]
    congr 1
    funext x
    by_cases hx : x.path = p
    · have h : (g.any fun q => inB p q) = false := by simpa using h
      simp [atP, hx, h]
    · simp [atP, hx]
theorem not_nil' {t : List Ent} (h : Right t) {q : Str} {y : Ent} (hy : look t q = some y) : ¬ q = [] := fun e => by
  obtain ⟨h6, h7⟩ := look_some hy
  have := (entErr_zero (h.ent y h6)).1
  rw [h7, e] at this
  exact right_names this [] (by simp [namesOf]) rfl
theorem del_ok {a : List Ent} (h : Right a) {g : List Str} {x : Ent} (hx : x ∈ a) (hg : (g.any fun q => inB x.path q) = false) : rawE (leftOf a g) (delChg x.path) 1 = 0 ∧ rawL (leftOf a g) (delChg x.path) 1 = leftOf a (g ++ [x.path]) := by
  have hxe := entErr_zero (h.ent x hx)
  have hpe := hxe.1
  have hce : chgErr (delChg x.path) = 0 := by
    unfold chgErr chgRest delChg
    simp only
    rw [if_neg (by omega), if_neg (by simp [hpe]), if_neg (fun e => by exact absurd e.1 (by decide)), if_neg (by simp), if_neg (by simp), if_neg (by omega)]
  have hD : doneL (leftOf a g) (delChg x.path) 1 = leftOf a (g ++ [x.path]) := by
    rw [left_snoc]
    simp [doneL, delChg]
  have hl : look (leftOf a g) x.path = some x := by rw [look_left, hg, if_neg (by decide)]; exact look_mem h.rise hx
  have hpf : folderErr (leftOf a g) (parentOf x.path) = 0 := by
    rcases folder_zero.1 (h.par x hx) with h2 | ⟨y, h2, h3⟩
    · exact folder_zero.2 (.inl h2)
    · have hpi := par_in hpe (not_nil' h h2)
      refine folder_zero.2 (.inr ⟨y, ?_, h3⟩)
      rw [look_left, if_neg]
      · exact h2
      · intro h5
        obtain ⟨q, hq, hq2⟩ := List.any_eq_true.1 h5
        rw [List.any_eq_false] at hg
        exact hg q hq (inB_trans hpi hq2)
  have hmay : mayErr (leftOf a g) (delChg x.path) = 0 := by
    unfold mayErr
    have h0 : folderErr (leftOf a g) (parentOf (goalOf (delChg x.path))) = 0 := hpf
    rw [if_neg (by simp [h0])]
    have h1 : isErr (leftOf a g) (delChg x.path) = 0 := by
      show (if hitE (leftOf a g) x.path = true then (0 : Int) else 5) = 0
      rw [look_hit, hl]; rfl
    have h2 : mvErr (leftOf a g) (delChg x.path) = 0 := rfl
    have h3 : staleErr (leftOf a g) (delChg x.path) = 0 := by
      unfold staleErr
      rw [if_neg]; simp [delChg]
    rw [if_neg (by simp [h1]), if_neg (by simp [h2]), h3]
  have hdn : doneE (leftOf a g) (delChg x.path) 1 = 0 := by
    unfold doneE
    rw [show moveBad (leftOf a g) (delChg x.path) = false from rfl, if_neg (by decide), hD, if_neg]
    have := left_len a (g ++ [x.path])
    have := h.len
    omega
  have hr : rawE (leftOf a g) (delChg x.path) 1 = 0 := by
    unfold rawE
    rw [if_neg (by simp [hce]), if_neg (by simp [hmay]), hdn]
  exact ⟨hr, by unfold rawL; rw [if_pos hr, hD]⟩
theorem gones_sub (b : List Ent) : ∀ (l : List Ent) (g : List Str) (p : Str), p ∈ l.foldl (goneStep b) g → p ∈ g ∨ ∃ z, z ∈ l ∧ z.path = p ∧ differs b z = true
  | [], g, p, h => .inl h
  | x :: l, g, p, h => by
    rcases gones_sub b l _ p h with h1 | ⟨z, h1, h2⟩
    · unfold goneStep at h1
      split at h1
      · exact .inl h1
      · split at h1
        · rename_i hd
          rcases List.mem_append.1 h1 with h1 | h1
          · exact .inl h1
          · exact .inr ⟨x, by simp, (List.mem_singleton.1 h1).symm, hd⟩
        · exact .inl h1
    · exact .inr ⟨z, by simp [h1], h2⟩
theorem gones_keep (b : List Ent) : ∀ (l : List Ent) (g : List Str) (p : Str), p ∈ g → p ∈ l.foldl (goneStep b) g
  | [], g, p, h => h
  | x :: l, g, p, h => gones_keep b l _ p (by
    unfold goneStep
    split
    · exact h
    · split
      · exact List.mem_append_left _ h
      · exact h)
theorem gones_all (b : List Ent) : ∀ (l : List Ent) (g : List Str) (z : Ent), z ∈ l → differs b z = true → ∃ p, p ∈ l.foldl (goneStep b) g ∧ inB z.path p = true
  | x :: l, g, z, hz, hd => by
    rcases List.mem_cons.1 hz with rfl | hz
    · by_cases h1 : (g.any fun p => inB z.path p) = true
      · obtain ⟨p, hp, hp2⟩ := List.any_eq_true.1 h1
        refine ⟨p, gones_keep b l _ p ?_, hp2⟩
        unfold goneStep; rw [if_pos h1]; exact hp
      · refine ⟨z.path, gones_keep b l _ z.path ?_, inB_refl _⟩
        unfold goneStep; rw [if_neg h1, if_pos hd]; simp
    · exact gones_all b l _ z hz hd
theorem stays_left {a b : List Ent} (ha : Right a) (hb : Right b) {x : Ent} (hx : x ∈ b) :
    (match look (leftOf a (gonesOf a b)) x.path with | some y => x.fold || decide (y.text = x.text) | none => false) = stays a x := by
  have hbx := look_mem hb.rise hx
  have hst : stays a x = match look a x.path with | some y => likeE y x | none => false := rfl
  rw [hst, look_left]
  cases hl : look a x.path with
  | none => simp
  | some y =>
    obtain ⟨hy, hyp⟩ := look_some hl
    have hdf : differs b y = decide (¬ x.fold = y.fold) := by
      unfold differs
      rw [hyp, show b.find? (atP x.path) = some x from hbx]
    by_cases hf : x.fold = y.fold
    · have hno : ((gonesOf a b).any fun q => inB x.path q) = false := by
        rw [List.any_eq_false]
        intro p hp hip
        rcases gones_sub b a [] p hp with h0 | ⟨z, hz, hzp, hzd⟩
        · cases h0
        · by_cases e : p = x.path
          · have : z = y := path_inj ha.rise hz hy (by rw [hzp, e, hyp])
            rw [this, hdf] at hzd
            simp [hf] at hzd
          · obtain ⟨w1, h1, h2⟩ := anc ha _ y hy rfl p (by rw [hyp]; exact hip) (by rw [hyp]; exact e)
            obtain ⟨w2, h3, h4⟩ := anc hb _ x hx rfl p hip e
            obtain ⟨h5, h6⟩ := look_some h1
            have : z = w1 := path_inj ha.rise hz h5 (by rw [hzp, h6])
            unfold differs at hzd
            rw [hzp, show b.find? (atP p) = some w2 from h3, this, h2] at hzd
            simp [h4] at hzd
      rw [hno, if_neg (by decide)]
      have hex := entErr_zero (hb.ent x hx)
      have hey := entErr_zero (ha.ent y hy)
      simp only [likeE, hyp, hf, decide_true, Bool.true_and]
      cases hyf : y.fold with
      | false => simp
      | true =>
        have t1 : x.text = [] := by
          cases h : x.text with
          | nil => rfl
          | cons c s => exact absurd ⟨by rw [hf, hyf], by simp [h]⟩ hex.2.1
        have t2 : y.text = [] := by
          cases h : y.text with
          | nil => rfl
          | cons c s => exact absurd ⟨hyf, by simp [h]⟩ hey.2.1
        simp [t1, t2]
    · have hd : differs b y = true := by rw [hdf]; simp [hf]
      obtain ⟨p, hp, hp2⟩ := gones_all b a [] y hy hd
      rw [hyp] at hp2
      have : ((gonesOf a b).any fun q => inB x.path q) = true := List.any_eq_true.2 ⟨p, hp, hp2⟩
      rw [this, if_pos rfl]
      have hf2 : ¬ y.fold = x.fold := fun e => hf e.symm
      simp [likeE, hf2]
end Go.Proofs.YtaoffekhpjgmdaaGreatDoor
