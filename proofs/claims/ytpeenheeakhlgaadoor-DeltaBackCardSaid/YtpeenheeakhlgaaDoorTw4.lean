/- Deltas, plain: who patches a tree by what parts it from another one has that one. -/
import Derived.Test.YtpeenheeakhlgaaDoorTw3
import Derived.Test.YtpeenheeakhlgaaDoorTv2
set_option linter.unusedSimpArgs false
set_option linter.unnecessarySimpa false
set_option linter.unusedVariables false
namespace Go.Proofs.YtpeenheeakhlgaaDoor
open Go.Op

theorem patch_app (v : Int) : ∀ (l m : List Chg) (t u : List Ent), patchR v t l = (u, 0) → patchR v t (l ++ m) = patchR v u m
  | [], m, t, u, h => by
    obtain ⟨rfl, _⟩ := Prod.mk.inj (show (t, (0 : Int)) = (u, 0) from h)
    rfl
  | c :: l, m, t, u, h => by
    have h : (if applyE t c v = 0 then patchR v (doneL t c v) l else ([], applyE t c v)) = (u, 0) := h
    show (if applyE t c v = 0 then patchR v (doneL t c v) (l ++ m) else ([], applyE t c v)) = patchR v u m
    by_cases h1 : applyE t c v = 0
    · rw [if_pos h1] at h ⊢
      exact patch_app v l m _ u h
    · rw [if_neg h1] at h
      exact absurd (Prod.mk.inj h).2 h1
theorem patch_one {v : Int} {t : List Ent} {c : Chg} (h : Right t) (hv : isVer v = true) (hr : rawE t c v = 0) : patchR v t [c] = (doneL t c v, 0) := by
  obtain ⟨h1, _⟩ := apply_of h hv hr
  show (if applyE t c v = 0 then patchR v (doneL t c v) [] else ([], applyE t c v)) = _
  rw [if_pos h1]; rfl
theorem patch_right (v : Int) : ∀ (l : List Chg) (t : List Ent), Right t → (patchR v t l).2 = 0 → Right (patchR v t l).1
  | [], t, h, _ => h
  | c :: l, t, h, h0 => by
    have hE : patchR v t (c :: l) = if applyE t c v = 0 then patchR v (doneL t c v) l else ([], applyE t c v) := rfl
    rw [hE] at h0 ⊢
    by_cases h1 : applyE t c v = 0
    · rw [if_pos h1] at h0 ⊢
      exact patch_right v l _ (apply_zero h1).2.2.2.2 h0
    · rw [if_neg h1] at h0
      exact absurd h0 h1
theorem del_okV {a : List Ent} (h : Right a) {g : List Str} {x : Ent} (v : Int) (hx : x ∈ a) (hg : (g.any fun q => inB x.path q) = false) : rawE (leftOf a g) (delChg x.path) v = 0 ∧ doneL (leftOf a g) (delChg x.path) v = leftOf a (g ++ [x.path]) := by
  have h1 := (del_ok h hx hg).1
  have h2 : ∀ w, doneL (leftOf a g) (delChg x.path) w = leftOf a (g ++ [x.path]) := fun w => by
    rw [left_snoc]
    simp [doneL, delChg]
  have h3 : rawE (leftOf a g) (delChg x.path) v = rawE (leftOf a g) (delChg x.path) 1 := by
    unfold rawE doneE
    rw [h2, h2]
  exact ⟨by rw [h3]; exact h1, h2 v⟩
theorem left_right {a : List Ent} (h : Right a) (g : List Str) : Right (leftOf a g) := by
  refine right_of_look (left_rising h.rise) (Nat.le_trans (left_len a g) h.len) fun p x hx => ?_
  rw [look_left] at hx
  split at hx
  · cases hx
  · rename_i hno
    obtain ⟨h1, h2⟩ := look_some hx
    refine ⟨h.ent x h1, ?_⟩
    have hxe := (entErr_zero (h.ent x h1)).1
    have := folder_zero.1 (h.par x h1)
    rw [h2] at this hxe
    rcases this with h3 | ⟨y, h3, h4⟩
    · exact .inl h3
    · refine .inr ⟨y, ?_, h4⟩
      have hpi := par_in hxe (not_nil h h3)
      rw [look_left, if_neg]
      · exact h3
      · intro h5
        obtain ⟨q, hq, hq2⟩ := List.any_eq_true.1 h5
        exact hno (List.any_eq_true.2 ⟨q, hq, inB_trans hpi hq2⟩)
theorem patch_dels {a b : List Ent} (h : Right a) {v : Int} (hv : isVer v = true) : ∀ i, i ≤ a.length → patchR v a ((gonesOf (a.take i) b).map delChg) = (leftOf a (gonesOf (a.take i) b), 0) := by
  intro i
  induction i with
  | zero => intro _; rw [show gonesOf (a.take 0) b = [] from rfl, left_nil]; rfl
  | succ i ih =>
    intro hi
    have hp := ih (by omega)
    have hlt : i < a.length := by omega
    have hgs : gonesOf (a.take (i + 1)) b = if ((gonesOf (a.take i) b).any fun p => inB a[i].path p) = true then gonesOf (a.take i) b else if differs b a[i] = true then gonesOf (a.take i) b ++ [a[i].path] else gonesOf (a.take i) b := gones_succ hlt
    rw [hgs]
    split
    · exact hp
    · split
      · rename_i h1 h2
        have h1 : ((gonesOf (a.take i) b).any fun p => inB a[i].path p) = false := by simpa using h1
        obtain ⟨h3, h4⟩ := del_okV h v (List.getElem_mem hlt) h1
        rw [List.map_append, patch_app v _ _ _ _ hp, List.map_cons, List.map_nil, patch_one (left_right h _) hv h3, h4]
      · exact hp
def setV (v : Int) (x : Ent) : Ent := ⟨x.path, x.fold, x.text, v⟩
def newsOf (a b : List Ent) : List Ent := b.filter fun x => !stays a x
/-- A tree, and what is put into it. -/
def withNews (v : Int) (T : List Ent) (l : List Ent) : List Ent := (l.map (setV v)).foldl putT T
theorem news_apart {b : List Ent} (h : rising entLt b = true) {l : List Ent} (hl : l.Sublist b) (v : Int) : (l.map (setV v)).Pairwise fun a b => ¬ a.path = b.path := by
  rw [List.pairwise_map]
  exact ((rising_pairE.1 h).sublist hl).imp fun hlt => bl_ne hlt
theorem look_setV (v : Int) (l : List Ent) (p : Str) : look (l.map (setV v)) p = (look l p).map (setV v) := by
  unfold look
  rw [List.find?_map]
  rfl
theorem look_with {b T : List Ent} (hb : rising entLt b = true) (hT : rising entLt T = true) {l : List Ent} (hl : l.Sublist b) (v : Int) (p : Str) : look (withNews v T l) p = match look l p with | some x => some (setV v x) | none => look T p := by
  unfold withNews
  rw [look_putAll hT (news_apart hb hl v), look_setV]
  cases look l p <;> rfl
/-- What is at paths of another one is not longer. -/
theorem short_of : ∀ {t u : List Ent}, t.Pairwise (fun a b => bytesLess a.path b.path = true) → u.Pairwise (fun a b => bytesLess a.path b.path = true) → (∀ x, x ∈ t → ∃ y, y ∈ u ∧ y.path = x.path) → t.length ≤ u.length
  | [], u, _, _, _ => Nat.zero_le _
  | x :: t, u, ht, hu, h => by
    obtain ⟨y, hy, hyp⟩ := h x (by simp)
    obtain ⟨A, B, rfl⟩ := List.append_of_mem hy
    have ht1 := List.pairwise_cons.1 ht
    have hu1 := List.pairwise_append.1 hu
    have hu2 := List.pairwise_cons.1 hu1.2.1
    have := short_of (t := t) (u := B) ht1.2 hu2.2 fun z hz => by
      obtain ⟨w, hw, hwp⟩ := h z (by simp [hz])
      have hlt := ht1.1 z hz
      rcases List.mem_append.1 hw with h1 | h1
      · have h2 := hu1.2.2 w h1 y (by simp)
        rw [hwp, hyp] at h2
        rw [bl_asym hlt] at h2; cases h2
      · rcases List.mem_cons.1 h1 with rfl | h1
        · rw [← hwp, hyp, bl_irr] at hlt; cases hlt
        · exact ⟨w, h1, hwp⟩
    simp only [List.length_append, List.length_cons]; omega
theorem bl_prefix : ∀ (p : Str) (c : UInt8) (r : Str), bytesLess p (p ++ c :: r) = true
  | [], c, r => rfl
  | x :: p, c, r => by
    have ih := bl_prefix p c r
    simp only [List.cons_append, bytesLess, ih]
    simp
theorem par_less {p : Str} (hp : pathErr p = 0) (hne : ¬ parentOf p = []) : bytesLess (parentOf p) p = true := by
  obtain ⟨r, h1, h2⟩ := inB_iff.1 (par_in hp hne)
  rcases h2 with rfl | h2
  · rw [List.append_nil] at h1
    exact absurd h1.symm (par_ne hp)
  · cases r with
    | nil => cases h2
    | cons c r =>
      have := bl_prefix (parentOf p) c r
      rw [← h1] at this
      exact this
section news
variable {a b : List Ent} {v : Int}
theorem left_in (ha : Right a) (hb : Right b) {y : Ent} (hy : y ∈ leftOf a (gonesOf a b)) : ∃ x, x ∈ b ∧ x.path = y.path ∧ x.fold = y.fold := by
  obtain ⟨h1, h2⟩ := List.mem_filter.1 hy
  have h2 : ((gonesOf a b).any fun p => inB y.path p) = false := by simpa using h2
  have hd : differs b y = false := by
    cases hd : differs b y with
    | false => rfl
    | true =>
      obtain ⟨p, hp, hp2⟩ := gones_all b a [] y h1 hd
      rw [List.any_eq_false] at h2
      exact absurd hp2 (h2 p hp)
  unfold differs at hd
  cases hl : b.find? (atP y.path) with
  | none => rw [hl] at hd; cases hd
  | some x =>
    rw [hl] at hd
    obtain ⟨h3, h4⟩ := look_some (t := b) (p := y.path) hl
    exact ⟨x, h3, h4, by simpa using hd⟩
theorem news_look (ha : Right a) (hb : Right b) {x : Ent} (hx : x ∈ b) (hs : stays a x = false) : look (leftOf a (gonesOf a b)) x.path = none ∨ (x.fold = false ∧ ∃ y, look (leftOf a (gonesOf a b)) x.path = some y ∧ y.fold = false) := by
  have h1 := stays_left ha hb hx
  cases hl : look (leftOf a (gonesOf a b)) x.path with
  | none => exact .inl rfl
  | some y =>
    right
    rw [hl, hs] at h1
    have h1 : (x.fold || decide (y.text = x.text)) = false := h1
    rw [Bool.or_eq_false_iff] at h1
    refine ⟨h1.1, y, rfl, ?_⟩
    obtain ⟨h2, h3⟩ := look_some hl
    obtain ⟨z, hz, hzp, hzf⟩ := left_in ha hb h2
    have : z = x := path_inj hb.rise hz hx (by rw [hzp, h3])
    rw [← hzf, this, h1.1]
theorem with_len (ha : Right a) (hb : Right b) {l : List Ent} (hl : l.Sublist b) : (withNews v (leftOf a (gonesOf a b)) l).length ≤ 60 := by
  have hr : rising entLt (withNews v (leftOf a (gonesOf a b)) l) = true := putAll_rising (left_rising ha.rise)
  refine Nat.le_trans (short_of (rising_pairE.1 hr) (rising_pairE.1 hb.rise) fun z hz => ?_) hb.len
  have h1 := look_mem hr hz
  rw [look_with hb.rise (left_rising ha.rise) hl] at h1
  cases h2 : look l z.path with
  | some x =>
    obtain ⟨h3, h4⟩ := look_some h2
    exact ⟨x, hl.subset h3, h4⟩
  | none =>
    rw [h2] at h1
    obtain ⟨x, h3, h4, _⟩ := left_in ha hb (look_some h1).1
    exact ⟨x, h3, h4⟩
theorem mk_done {x : Ent} {T : List Ent} (hx : entErr x = 0) : doneL T (mkChg x) v = putT T (setV v x) := by
  have hxe := entErr_zero hx
  unfold doneL mkChg setV
  cases hf : x.fold with
  | true =>
    have ht : x.text = [] := by
      cases h : x.text with
      | nil => rfl
      | cons c s => exact absurd ⟨hf, by simp [h]⟩ hxe.2.1
    simp [ht]
  | false => simp
/-- One more is put in. -/
theorem news_step (ha : Right a) (hb : Right b) (hv : isVer v = true) {i : Nat} (hi : i < b.length) (hs : stays a b[i] = false)
    (hR : Right (withNews v (leftOf a (gonesOf a b)) ((b.take i).filter fun x => !stays a x))) :
    rawE (withNews v (leftOf a (gonesOf a b)) ((b.take i).filter fun x => !stays a x)) (mkChg b[i]) v = 0 ∧
    doneL (withNews v (leftOf a (gonesOf a b)) ((b.take i).filter fun x => !stays a x)) (mkChg b[i]) v = withNews v (leftOf a (gonesOf a b)) ((b.take (i + 1)).filter fun x => !stays a x) := by
  have hx : b[i] ∈ b := List.getElem_mem hi
  have hxe := entErr_zero (hb.ent _ hx)
  have hsub : ∀ j, ((b.take j).filter fun x => !stays a x).Sublist b := fun j => List.filter_sublist.trans (List.take_sublist _ _)
  have hT := left_rising (g := gonesOf a b) ha.rise
  have hlw := fun p => look_with (v := v) hb.rise hT (hsub i) p
  have hD : doneL (withNews v (leftOf a (gonesOf a b)) ((b.take i).filter fun x => !stays a x)) (mkChg b[i]) v = withNews v (leftOf a (gonesOf a b)) ((b.take (i + 1)).filter fun x => !stays a x) := by
    rw [mk_done (hb.ent _ hx)]
    unfold withNews
    rw [List.take_succ_eq_append_getElem hi, List.filter_append]
    simp [hs]
  refine ⟨?_, hD⟩
  have hno : look ((b.take i).filter fun x => !stays a x) b[i].path = none := by
    rw [look_none]
    intro z hz e
    obtain ⟨j, hj, rfl⟩ := List.getElem_of_mem (List.mem_filter.1 hz).1
    rw [List.getElem_take] at e
    have hj2 : j < i := by simp at hj; omega
    have := rising_ltE hb.rise j i (by omega) hi hj2
    rw [e, bl_irr] at this; cases this
  have hlk : look (withNews v (leftOf a (gonesOf a b)) ((b.take i).filter fun x => !stays a x)) b[i].path = look (leftOf a (gonesOf a b)) b[i].path := by rw [hlw, hno]
  have hnl := news_look ha hb hx hs
  have htx : b[i].fold = true → b[i].text = [] := fun hf => by
    cases h : b[i].text with
    | nil => rfl
    | cons c s => exact absurd ⟨hf, by simp [h]⟩ hxe.2.1
  have hk : (mkChg b[i]).kind = if b[i].fold = true then 1 else 2 := rfl
  have hce : chgErr (mkChg b[i]) = 0 := by
    unfold mkChg
    refine chg_ok ?_ hxe.1 (fun e => ?_) (fun _ => rfl) (fun e => ?_) hxe.2.2.1 (by omega)
    · split <;> omega
    · split at e <;> exact absurd e (by decide)
    · cases hf : b[i].fold with
      | true => exact htx hf
      | false => rw [hf] at e; exact absurd rfl e
  have hg : goalOf (mkChg b[i]) = b[i].path := by
    unfold goalOf
    rw [if_neg]
    · rfl
    · rw [hk]; split <;> decide
  have hpf : folderErr (withNews v (leftOf a (gonesOf a b)) ((b.take i).filter fun x => !stays a x)) (parentOf b[i].path) = 0 := by
    rcases folder_zero.1 (hb.par _ hx) with h1 | ⟨w, h1, h2⟩
    · exact folder_zero.2 (.inl h1)
    · have hne := not_nil hb h1
      obtain ⟨h3, h4⟩ := look_some h1
      have hlt := par_less hxe.1 hne
      obtain ⟨j, hj, rfl⟩ := List.getElem_of_mem h3
      have hji : j < i := by
        rcases Nat.lt_trichotomy j i with h5 | h5 | h5
        · exact h5
        · subst h5
          exact absurd h4.symm (par_ne hxe.1)
        · have := rising_ltE hb.rise i j hi hj h5
          rw [h4, bl_asym hlt] at this; cases this
      refine folder_zero.2 (.inr ?_)
      rw [hlw]
      cases hst : stays a b[j] with
      | true =>
        have hnone : look ((b.take i).filter fun x => !stays a x) (parentOf b[i].path) = none := by
          rw [look_none]
          intro z hz e
          obtain ⟨hz1, hz2⟩ := List.mem_filter.1 hz
          have : z = b[j] := path_inj hb.rise (List.mem_of_mem_take hz1) h3 (by rw [e, h4])
          rw [this, hst] at hz2; cases hz2
        rw [hnone]
        have h5 := stays_left ha hb h3
        rw [hst, h4] at h5
        cases hl : look (leftOf a (gonesOf a b)) (parentOf b[i].path) with
        | none => rw [hl] at h5; cases h5
        | some y =>
          obtain ⟨h6, h7⟩ := look_some hl
          obtain ⟨z, hz, hzp, hzf⟩ := left_in ha hb h6
          have : z = b[j] := path_inj hb.rise hz h3 (by rw [hzp, h7, h4])
          exact ⟨y, rfl, by rw [← hzf, this, h2]⟩
      | false =>
        have hm : b[j] ∈ (b.take i).filter fun x => !stays a x := List.mem_filter.2 ⟨by
          rw [List.mem_take_iff_getElem]
          exact ⟨j, by omega, rfl⟩, by simp [hst]⟩
        have hrl : rising entLt ((b.take i).filter fun x => !stays a x) = true := rising_pairE.2 ((rising_pairE.1 hb.rise).sublist (hsub i))
        have := look_mem hrl hm
        rw [h4] at this
        rw [this]
        exact ⟨_, rfl, h2⟩
  have hmay : mayErr (withNews v (leftOf a (gonesOf a b)) ((b.take i).filter fun x => !stays a x)) (mkChg b[i]) = 0 := by
    unfold mayErr
    rw [if_neg (by rw [hg]; simp [hpf])]
    have h1 : isErr (withNews v (leftOf a (gonesOf a b)) ((b.take i).filter fun x => !stays a x)) (mkChg b[i]) = 0 := by
      unfold isErr
      rw [hk]
      have hpp : (mkChg b[i]).path = b[i].path := rfl
      rw [hpp]
      cases hf : b[i].fold with
      | true =>
        rw [if_pos rfl, if_pos rfl, look_hit, hlk]
        rcases hnl with h2 | ⟨h2, _⟩
        · rw [h2]; rfl
        · rw [hf] at h2; cases h2
      | false =>
        rw [show (if (false = true) then (1 : Int) else 2) = 2 from rfl, if_neg (by decide), if_pos rfl]
        unfold foldAt
        rw [show (withNews v (leftOf a (gonesOf a b)) ((b.take i).filter fun x => !stays a x)).find? (atP b[i].path) = look (leftOf a (gonesOf a b)) b[i].path from hlk]
        rcases hnl with h2 | ⟨_, y, h2, h3⟩
        · rw [h2]; rfl
        · rw [h2]; simp [h3]
    have h2 : mvErr (withNews v (leftOf a (gonesOf a b)) ((b.take i).filter fun x => !stays a x)) (mkChg b[i]) = 0 := by
      unfold mvErr
      rw [if_neg]; rw [hk]; split <;> decide
    have h3 : staleErr (withNews v (leftOf a (gonesOf a b)) ((b.take i).filter fun x => !stays a x)) (mkChg b[i]) = 0 := by
      unfold staleErr
      rw [if_neg]; simp [mkChg]
    rw [if_neg (by simp [h1]), if_neg (by simp [h2]), h3]
  have hdn : doneE (withNews v (leftOf a (gonesOf a b)) ((b.take i).filter fun x => !stays a x)) (mkChg b[i]) v = 0 := by
    unfold doneE
    have hbad : moveBad (withNews v (leftOf a (gonesOf a b)) ((b.take i).filter fun x => !stays a x)) (mkChg b[i]) = false := by
      unfold moveBad
      have : ¬ (mkChg b[i]).kind = 3 := by rw [hk]; split <;> decide
      simp [this]
    rw [hbad, if_neg (by decide), hD, if_neg]
    have := with_len (v := v) ha hb (hsub (i + 1))
    omega
  unfold rawE
  rw [if_neg (by simp [hce]), if_neg (by simp [hmay]), hdn]
theorem patch_news (ha : Right a) (hb : Right b) (hv : isVer v = true) : ∀ i, i ≤ b.length → patchR v (leftOf a (gonesOf a b)) (((b.take i).filter fun x => !stays a x).map mkChg) = (withNews v (leftOf a (gonesOf a b)) ((b.take i).filter fun x => !stays a x), 0) ∧ Right (withNews v (leftOf a (gonesOf a b)) ((b.take i).filter fun x => !stays a x)) := by
  intro i
  induction i with
  | zero => intro _; exact ⟨rfl, left_right ha _⟩
  | succ i ih =>
    intro hi
    obtain ⟨hp, hR⟩ := ih (by omega)
    have hlt : i < b.length := by omega
    cases hs : stays a b[i] with
    | true =>
      have : (b.take (i + 1)).filter (fun x => !stays a x) = (b.take i).filter (fun x => !stays a x) := by
        rw [List.take_succ_eq_append_getElem hlt, List.filter_append]; simp [hs]
      rw [this]; exact ⟨hp, hR⟩
    | false =>
      obtain ⟨h3, h4⟩ := news_step ha hb hv hlt hs hR
      have : (b.take (i + 1)).filter (fun x => !stays a x) = (b.take i).filter (fun x => !stays a x) ++ [b[i]] := by
        rw [List.take_succ_eq_append_getElem hlt, List.filter_append]; simp [hs]
      refine ⟨?_, ?_⟩
      · rw [← h4, this, List.map_append, patch_app v _ _ _ _ hp, List.map_cons, List.map_nil, patch_one hR hv h3]
      · rw [← h4]; exact done_right hR hv h3
theorem patch_back (ha : Right a) (hb : Right b) (hv : isVer v = true) : ∃ t, patchR v a (rawD a b) = (t, 0) ∧ Right t ∧ likeT t b = true := by
  have h1 := patch_dels (b := b) ha hv a.length (Nat.le_refl _)
  rw [List.take_length] at h1
  obtain ⟨h2, h3⟩ := patch_news ha hb hv b.length (Nat.le_refl _)
  rw [List.take_length] at h2 h3
  refine ⟨_, ?_, h3, ?_⟩
  · unfold rawD
    rw [patch_app v _ _ _ _ h1, h2]
  · refine (like_of_look h3.rise hb.rise fun p => ?_).1
    have hsub : (b.filter fun x => !stays a x).Sublist b := List.filter_sublist
    have hrl : rising entLt (b.filter fun x => !stays a x) = true := rising_pairE.2 ((rising_pairE.1 hb.rise).sublist hsub)
    rw [look_with hb.rise (left_rising ha.rise) hsub]
    cases hl : look b p with
    | none =>
      have hno : look (b.filter fun x => !stays a x) p = none := by
        rw [look_none] at hl ⊢
        exact fun x hx => hl x (List.mem_filter.1 hx).1
      rw [hno]
      cases hq : look (leftOf a (gonesOf a b)) p with
      | none => rfl
      | some y =>
        obtain ⟨h6, h7⟩ := look_some hq
        obtain ⟨z, hz, hzp, _⟩ := left_in ha hb h6
        exact absurd (by rw [hzp, h7]) (look_none.1 hl z hz)
    | some x =>
      obtain ⟨hx, hxp⟩ := look_some hl
      subst hxp
      cases hs : stays a x with
      | true =>
        have hno : look (b.filter fun x => !stays a x) x.path = none := by
          rw [look_none]
          intro z hz e
          obtain ⟨hz1, hz2⟩ := List.mem_filter.1 hz
          have : z = x := path_inj hb.rise hz1 hx e
          rw [this, hs] at hz2; cases hz2
        rw [hno]
        have h5 := stays_left ha hb hx
        rw [hs] at h5
        have hst : stays a x = match look a x.path with | some y => likeE y x | none => false := rfl
        rw [hs] at hst
        cases hq : look (leftOf a (gonesOf a b)) x.path with
        | none => rw [hq] at h5; cases h5
        | some y =>
          rw [look_left] at hq
          split at hq
          · cases hq
          · rw [hq] at hst
            have hst : true = likeE y x := hst
            have hst := hst.symm
            simp only [likeE, Bool.and_eq_true, decide_eq_true_eq] at hst
            simp [nrm, hst.1.1, hst.1.2, hst.2]
      | false =>
        have hm : x ∈ b.filter fun x => !stays a x := List.mem_filter.2 ⟨hx, by simp [hs]⟩
        rw [look_mem hrl hm]
        rfl
theorem nrm_like : ∀ {a b : List Ent}, likeT a b = true → a.map nrm = b.map nrm
  | [], [], _ => rfl
  | [], _ :: _, h => by simp [likeT] at h
  | _ :: _, [], h => by simp [likeT] at h
  | a :: s, b :: t, h => by
    simp only [likeT, likeE, Bool.and_eq_true, decide_eq_true_eq] at h
    obtain ⟨⟨⟨h1, h2⟩, h3⟩, h4⟩ := h
    simp only [List.map_cons, nrm, h1, h2, h3, nrm_like h4]
theorem raw_none (ha : Right a) (hb : Right b) : likeT a b = decide (rawD a b = []) := by
  cases h : likeT a b with
  | true =>
    have hn := nrm_like h
    have hlk : ∀ p, (look a p).map nrm = (look b p).map nrm := fun p => by rw [← look_nrm, ← look_nrm, hn]
    have hg : gonesOf a b = [] := by
      cases hg : gonesOf a b with
      | nil => rfl
      | cons p g =>
        rcases gones_sub b a [] p (by rw [show a.foldl (goneStep b) [] = gonesOf a b from rfl, hg]; simp) with h0 | ⟨z, hz, hzp, hzd⟩
        · cases h0
        · have h1 := hlk z.path
          rw [look_mem ha.rise hz] at h1
          unfold differs at hzd
          cases hl : look b z.path with
          | none => rw [hl] at h1; cases h1
          | some y =>
            rw [hl] at h1
            simp only [Option.map_some, Option.some.injEq, nrm, Ent.mk.injEq] at h1
            rw [show b.find? (atP z.path) = some y from hl] at hzd
            simp [h1.2.1] at hzd
    have hf : b.filter (fun x => !stays a x) = [] := by
      rw [List.filter_eq_nil_iff]
      intro x hx
      have h1 := hlk x.path
      rw [look_mem hb.rise hx] at h1
      have hst : stays a x = match look a x.path with | some y => likeE y x | none => false := rfl
      cases hl : look a x.path with
      | none => rw [hl] at h1; cases h1
      | some y =>
        rw [hl] at h1 hst
        simp only [Option.map_some, Option.some.injEq, nrm, Ent.mk.injEq] at h1
        have : stays a x = true := by rw [hst]; simp [likeE, h1.1, h1.2.1, h1.2.2]
        simp [this]
    simp [rawD, hg, hf]
  | false =>
    symm
    rw [decide_eq_false_iff_not]
    intro h0
    obtain ⟨t, h1, _, h2⟩ := patch_back (v := 1) ha hb (by decide)
    rw [h0] at h1
    obtain ⟨rfl, _⟩ := Prod.mk.inj (show (a, (0 : Int)) = (t, 0) from h1)
    rw [h] at h2; cases h2
end news
end Go.Proofs.YtpeenheeakhlgaaDoor
