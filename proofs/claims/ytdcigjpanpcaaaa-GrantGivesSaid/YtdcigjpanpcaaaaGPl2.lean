/- Grants, plain: what set makes; its laws. -/
import Derived.Test.YtdcigjpanpcaaaaGab11
import Derived.Test.YtdcigjpanpcaaaaGab12
set_option linter.unusedSimpArgs false
namespace Go.Proofs.Ytdcigjpanpcaaaa
open Go.Ab Go.RowKit

/-- What set makes of grants that are right. -/
def setG (l : List Gra) (f w : Str) (r : Int) : List Gra :=
  l.take (posG l ⟨f, w, 0⟩) ++ ((if r = 0 then [] else [⟨f, w, r⟩]) ++ l.drop (posG l ⟨f, w, 0⟩ + if hitG l ⟨f, w, 0⟩ = true then 1 else 0))
/-- As the document puts a right. -/
def putG (f w : Str) (r : Int) : List Gra → Bool → List Gra
  | [], put => if put = true then [] else [⟨f, w, r⟩]
  | x :: l, put => (if put = false ∧ graLt x ⟨f, w, 0⟩ = false then [⟨f, w, r⟩] else []) ++ ((if sameKey ⟨f, w, 0⟩ x = true then [] else [x]) ++ putG f w r l (put || !graLt x ⟨f, w, 0⟩))

theorem sameKey_iff {k x : Gra} : sameKey k x = true ↔ x.folder = k.folder ∧ x.who = k.who := by simp [sameKey]
theorem sameKey_lt {k x : Gra} (h : graLt x k = true) : sameKey k x = false := by
  cases e : sameKey k x
  · rfl
  · have := (graLt_key (c := x) (sameKey_iff.1 e)).1
    rw [← this, graLt_irr] at h; cases h
theorem sameKey_gt {k x : Gra} (h : graLt k x = true) : sameKey k x = false := by
  cases e : sameKey k x
  · rfl
  · have := (graLt_key (c := x) (sameKey_iff.1 e)).2
    rw [← this, graLt_irr] at h; cases h
theorem graLt_asym {a b : Gra} (h : graLt a b = true) : graLt b a = false := by
  cases e : graLt b a
  · rfl
  · have := graLt_trans h e
    rw [graLt_irr] at this; cases this
theorem graLt_tri {a b : Gra} (h1 : graLt a b = false) (h2 : sameKey b a = false) : graLt b a = true := by
  by_cases h : graCmp a b = 0
  · have := (graCmp_zero a b).1 h
    rw [sameKey_iff.2 ⟨this.1, this.2⟩] at h2; cases h2
  · by_cases h' : graCmp a b < 0
    · rw [(graCmp_neg a b).1 h'] at h1; cases h1
    · exact (graCmp_pos a b).1 (by omega)
theorem rising_pairG : ∀ {l : List Gra}, rising graLt l = true ↔ l.Pairwise (fun a b => graLt a b = true) := by
  intro l
  rw [List.pairwise_iff_getElem]
  constructor
  · intro h i j hi hj hij
    exact rising_lt h i j hi hj hij
  · intro h
    exact rising_iff.2 fun k hk => h k (k + 1) (by omega) hk (by omega)

/-- Grants that are right, parted at a place. -/
theorem splitG (k : Gra) : ∀ {l : List Gra}, l.Pairwise (fun a b => graLt a b = true) → ∃ A M Z, l = A ++ (M ++ Z) ∧ posG l k = A.length ∧ (∀ a, a ∈ A → graLt a k = true) ∧ (∀ z, z ∈ Z → graLt k z = true) ∧
    ((hitG l k = true ∧ ∃ x, M = [x] ∧ sameKey k x = true) ∨ (hitG l k = false ∧ M = []))
  | [], _ => ⟨[], [], [], rfl, rfl, nofun, nofun, .inr ⟨rfl, rfl⟩⟩
  | x :: l, h => by
    obtain ⟨h1, h2⟩ := List.pairwise_cons.1 h
    by_cases hx : graLt x k = true
    · obtain ⟨A, M, Z, rfl, hp, hA, hZ, hM⟩ := splitG k h2
      have hp' : posG (x :: (A ++ (M ++ Z))) k = A.length + 1 := by
        simp only [posG, List.takeWhile_cons, hx, if_true, List.length_cons] at hp ⊢; omega
      refine ⟨x :: A, M, Z, rfl, hp', fun a ha => ?_, hZ, ?_⟩
      · rcases List.mem_cons.1 ha with rfl | ha
        · exact hx
        · exact hA a ha
      · have : hitG (x :: (A ++ (M ++ Z))) k = hitG (A ++ (M ++ Z)) k := by
          unfold hitG
          rw [hp', hp, List.getElem?_cons_succ]
        rw [this]; exact hM
    · have hx : graLt x k = false := by simpa using hx
      have hp : posG (x :: l) k = 0 := by simp [posG, List.takeWhile_cons, hx]
      have hh : hitG (x :: l) k = decide (graCmp x k = 0) := by
        unfold hitG; rw [hp]; rfl
      cases hk : sameKey k x with
      | true =>
        refine ⟨[], [x], l, rfl, hp, nofun, fun z hz => ?_, .inl ⟨?_, x, rfl, hk⟩⟩
        · rw [← (graLt_key (c := z) (sameKey_iff.1 hk)).2]; exact h1 z hz
        · rw [hh, decide_eq_true_iff, graCmp_zero]; exact sameKey_iff.1 hk
      | false =>
        have hg := graLt_tri hx hk
        refine ⟨[], [], x :: l, rfl, hp, nofun, fun z hz => ?_, .inr ⟨?_, rfl⟩⟩
        · rcases List.mem_cons.1 hz with rfl | hz
          · exact hg
          · exact graLt_trans hg (h1 z hz)
        · rw [hh, decide_eq_false_iff_not, graCmp_zero]
          intro e
          rw [sameKey_iff.2 e] at hk; cases hk

theorem setG_split {l A M Z : List Gra} {f w : Str} {r : Int} (h : l = A ++ (M ++ Z)) (hp : posG l ⟨f, w, 0⟩ = A.length) (hM : (hitG l ⟨f, w, 0⟩ = true ∧ ∃ x, M = [x] ∧ sameKey ⟨f, w, 0⟩ x = true) ∨ (hitG l ⟨f, w, 0⟩ = false ∧ M = [])) :
    setG l f w r = A ++ ((if r = 0 then [] else [⟨f, w, r⟩]) ++ Z) := by
  unfold setG
  rw [hp]
  have h1 : l.take A.length = A := by rw [h]; simp
  rw [h1]
  rcases hM with ⟨hh, x, rfl, _⟩ | ⟨hh, rfl⟩
  · simp only [hh, if_true]; rw [h]; simp
  · simp only [hh, Bool.false_eq_true, if_false]; rw [h]; simp

theorem putG_low {f w : Str} {r : Int} {put : Bool} : ∀ {A R : List Gra}, (∀ a, a ∈ A → graLt a ⟨f, w, 0⟩ = true) → putG f w r (A ++ R) put = A ++ putG f w r R put
  | [], R, _ => rfl
  | a :: A, R, h => by
    have h1 := h a (by simp)
    have ih := putG_low (r := r) (put := put) (A := A) (R := R) fun x hx => h x (by simp [hx])
    simp [putG, h1, sameKey_lt h1, ih]
theorem putG_high {f w : Str} {r : Int} : ∀ {Z : List Gra}, (∀ z, z ∈ Z → graLt ⟨f, w, 0⟩ z = true) → putG f w r Z true = Z
  | [], _ => rfl
  | z :: Z, h => by
    have h1 := h z (by simp)
    have ih := putG_high (r := r) (Z := Z) fun x hx => h x (by simp [hx])
    simp [putG, sameKey_gt h1, ih]
theorem putG_set {l : List Gra} {f w : Str} {r : Int} (hs : rising graLt l = true) : putG f w r l (decide (r = 0)) = setG l f w r := by
  obtain ⟨A, M, Z, h, hp, hA, hZ, hM⟩ := splitG ⟨f, w, 0⟩ (rising_pairG.1 hs)
  rw [setG_split h hp hM, h, putG_low hA]
  congr 1
  rcases hM with ⟨_, x, rfl, hx⟩ | ⟨_, rfl⟩
  · have h1 : graLt x ⟨f, w, 0⟩ = false := by rw [(graLt_key (c := ⟨f, w, 0⟩) (sameKey_iff.1 hx)).2]; exact graLt_irr _
    by_cases h0 : r = 0 <;> simp [putG, h1, hx, h0, putG_high hZ]
  · cases Z with
    | nil => by_cases h0 : r = 0 <;> simp [putG, h0]
    | cons z Z =>
      have hz := hZ z (by simp)
      have h1 : graLt z ⟨f, w, 0⟩ = false := graLt_asym hz
      have h2 := sameKey_gt hz
      have ih := putG_high (r := r) (Z := Z) fun x hx => hZ x (by simp [hx])
      by_cases h0 : r = 0
      · subst h0; simp [putG, h1, h2, ih]
      · simp [putG, h1, h2, h0, ih]
theorem setG_rising {l : List Gra} {f w : Str} {r : Int} (hs : rising graLt l = true) : rising graLt (setG l f w r) = true := by
  have hl := rising_pairG.1 hs
  obtain ⟨A, M, Z, h, hp, hA, hZ, hM⟩ := splitG ⟨f, w, 0⟩ hl
  rw [setG_split h hp hM]
  refine rising_pairG.2 ?_
  have hsub : (A ++ Z).Sublist l := by
    rw [h]; exact List.Sublist.append_left (List.sublist_append_right _ _) _
  have hAZ := List.Pairwise.sublist hsub hl
  rw [List.pairwise_append] at hAZ
  have hkey : ∀ c, graLt c ⟨f, w, r⟩ = graLt c ⟨f, w, 0⟩ ∧ graLt ⟨f, w, r⟩ c = graLt ⟨f, w, 0⟩ c := fun c => graLt_key ⟨rfl, rfl⟩
  by_cases h0 : r = 0
  · simp only [h0, if_true, List.nil_append]
    rw [List.pairwise_append]; exact hAZ
  · simp only [h0, if_false]
    rw [List.pairwise_append]
    refine ⟨hAZ.1, ?_, fun a ha b hb => ?_⟩
    · rw [List.cons_append, List.nil_append, List.pairwise_cons]
      exact ⟨fun z hz => by rw [(hkey z).2]; exact hZ z hz, hAZ.2.1⟩
    · rw [List.cons_append, List.nil_append, List.mem_cons] at hb
      rcases hb with rfl | hb
      · rw [(hkey a).1]; exact hA a ha
      · exact hAZ.2.2 a ha b hb
theorem rightG_app (A B : List Gra) (f w : Str) (hA : ∀ a, a ∈ A → sameKey ⟨f, w, 0⟩ a = false) : rightG (A ++ B) f w = rightG B f w := by
  have : A.find? (sameKey ⟨f, w, 0⟩) = none := List.find?_eq_none.2 fun a ha => by rw [hA a ha]; simp
  unfold rightG
  rw [List.find?_append, this, Option.none_or]
theorem rightG_none {A : List Gra} {f w : Str} (hA : ∀ a, a ∈ A → sameKey ⟨f, w, 0⟩ a = false) : rightG A f w = 0 := by
  have : A.find? (sameKey ⟨f, w, 0⟩) = none := List.find?_eq_none.2 fun a ha => by rw [hA a ha]; simp
  unfold rightG
  rw [this]
/-- Who is given a right has it. -/
theorem rightG_set {l : List Gra} {f w : Str} {r : Int} (hs : rising graLt l = true) : rightG (setG l f w r) f w = r := by
  obtain ⟨A, M, Z, h, hp, hA, hZ, hM⟩ := splitG ⟨f, w, 0⟩ (rising_pairG.1 hs)
  rw [setG_split h hp hM, rightG_app _ _ _ _ fun a ha => sameKey_lt (hA a ha)]
  by_cases h0 : r = 0
  · simp only [h0, if_true, List.nil_append]
    exact rightG_none fun z hz => sameKey_gt (hZ z hz)
  · simp [h0, rightG, sameKey]
/-- Others have what they had. -/
theorem rightG_other {l : List Gra} {f w f' w' : Str} {r : Int} (hs : rising graLt l = true) (hne : ¬ (f' = f ∧ w' = w)) : rightG (setG l f w r) f' w' = rightG l f' w' := by
  obtain ⟨A, M, Z, h, hp, hA, hZ, hM⟩ := splitG ⟨f, w, 0⟩ (rising_pairG.1 hs)
  rw [setG_split h hp hM, h]
  have hG : ∀ a, a ∈ (if r = 0 then ([] : List Gra) else [⟨f, w, r⟩]) → sameKey ⟨f', w', 0⟩ a = false := by
    intro a ha
    split at ha
    · cases ha
    · rw [List.mem_singleton.1 ha]
      cases e : sameKey ⟨f', w', 0⟩ ⟨f, w, r⟩
      · rfl
      · exact absurd (sameKey_iff.1 e) fun e => hne ⟨e.1.symm, e.2.symm⟩
  have hM' : ∀ a, a ∈ M → sameKey ⟨f', w', 0⟩ a = false := by
    intro a ha
    rcases hM with ⟨_, x, rfl, hx⟩ | ⟨_, rfl⟩
    · rw [List.mem_singleton.1 ha]
      cases e : sameKey ⟨f', w', 0⟩ x
      · rfl
      · have h1 := sameKey_iff.1 e; have h2 := sameKey_iff.1 hx
        exact absurd ⟨h1.1.symm.trans h2.1, h1.2.symm.trans h2.2⟩ hne
    · cases ha
  have e1 : ∀ X : List Gra, (∀ a, a ∈ X → sameKey ⟨f', w', 0⟩ a = false) → rightG (A ++ (X ++ Z)) f' w' = rightG (A ++ Z) f' w' := by
    intro X hX
    have : X.find? (sameKey ⟨f', w', 0⟩) = none := List.find?_eq_none.2 fun a ha => by rw [hX a ha]; simp
    unfold rightG
    rw [List.find?_append, List.find?_append, List.find?_append, this, Option.none_or]
  rw [e1 _ hG, e1 _ hM']
theorem setG_mem {l : List Gra} {f w : Str} {r : Int} (hs : rising graLt l = true) {x : Gra} (hx : x ∈ setG l f w r) : x ∈ l ∨ (r ≠ 0 ∧ x = ⟨f, w, r⟩) := by
  obtain ⟨A, M, Z, h, hp, hA, hZ, hM⟩ := splitG ⟨f, w, 0⟩ (rising_pairG.1 hs)
  rw [setG_split h hp hM] at hx
  rw [h]
  by_cases h0 : r = 0
  · simp only [h0, if_true, List.nil_append, List.mem_append] at hx ⊢
    rcases hx with hx | hx
    · exact .inl (.inl hx)
    · exact .inl (.inr (.inr hx))
  · simp only [h0, if_false, List.mem_append, List.mem_singleton, List.mem_cons, List.not_mem_nil, or_false] at hx ⊢
    rcases hx with hx | hx | hx
    · exact .inl (.inl hx)
    · exact .inr ⟨h0, hx⟩
    · exact .inl (.inr (.inr hx))
theorem mem_setG {l : List Gra} {f w : Str} {r : Int} (hs : rising graLt l = true) {x : Gra} (hx : x ∈ l) (hk : sameKey ⟨f, w, 0⟩ x = false) : x ∈ setG l f w r := by
  obtain ⟨A, M, Z, h, hp, hA, hZ, hM⟩ := splitG ⟨f, w, 0⟩ (rising_pairG.1 hs)
  rw [setG_split h hp hM]
  rw [h] at hx
  simp only [List.mem_append] at hx ⊢
  rcases hx with hx | hx | hx
  · exact .inl hx
  · rcases hM with ⟨_, y, rfl, hy⟩ | ⟨_, rfl⟩
    · rw [List.mem_singleton.1 hx, hy] at hk; cases hk
    · cases hx
  · exact .inr (.inr hx)
theorem ownIn_iff {f : Str} {x : Gra} : ownIn f x = true ↔ x.folder = f ∧ x.right = 3 := by simp [ownIn]
theorem setG_owned {l : List Gra} {f w : Str} {r : Int} (hs : rising graLt l = true) (ho : ownedB l = true) (hf : (setG l f w r).any (ownIn f) = true) : ownedB (setG l f w r) = true := by
  refine List.all_eq_true.2 fun x hx => ?_
  by_cases e : x.folder = f
  · obtain ⟨y, hy, h1⟩ := List.any_eq_true.1 hf
    have h1 := ownIn_iff.1 h1
    exact List.any_eq_true.2 ⟨y, hy, by simp [h1.1, h1.2, e]⟩
  · rcases setG_mem hs hx with h | ⟨_, rfl⟩
    · obtain ⟨y, hy, h1⟩ := List.any_eq_true.1 (List.all_eq_true.1 ho x h)
      simp only [Bool.and_eq_true, decide_eq_true_eq] at h1
      have hk : sameKey ⟨f, w, 0⟩ y = false := by
        cases e' : sameKey ⟨f, w, 0⟩ y
        · rfl
        · exact absurd (h1.1.symm.trans (sameKey_iff.1 e').1) e
      exact List.any_eq_true.2 ⟨y, mem_setG hs hy hk, by simp [h1.1, h1.2]⟩
    · exact absurd rfl e
theorem setG_len {l : List Gra} {f w : Str} {r : Int} : (setG l f w r).length ≤ l.length + 1 := by
  unfold setG
  have := posG_le l ⟨f, w, 0⟩
  by_cases h0 : r = 0
  · simp [h0]; omega
  · simp [h0]; omega
theorem graErr_all {l : List Gra} (h : graErr l = 0) : l.length ≤ 60 ∧ (∀ x, x ∈ l → oneGra x = 0) ∧ rising graLt l = true ∧ ownedB l = true := by
  unfold graErr at h
  split at h
  · omega
  · rename_i h60
    split at h
    · rename_i h1
      split at h
      · split at h
        · exact ⟨by omega, firstErr_zero.1 h1, by assumption, by assumption⟩
        · omega
      · omega
    · exact absurd h (by assumption)
theorem graErr_of {l : List Gra} (h1 : l.length ≤ 60) (h2 : ∀ x, x ∈ l → oneGra x = 0) (h3 : rising graLt l = true) (h4 : ownedB l = true) : graErr l = 0 := by
  unfold graErr
  rw [if_neg (by omega), if_pos (firstErr_zero.2 h2), if_pos h3, if_pos h4]
/-- What is given keeps grants right. -/
theorem graErr_set {l : List Gra} {f w : Str} {r : Int} (h : graErr l = 0) (hf : isName f = true) (hw : isName w = true) (hr : 0 ≤ r ∧ r ≤ 3) (ho : (setG l f w r).any (ownIn f) = true) (hlen : (setG l f w r).length ≤ 60) : graErr (setG l f w r) = 0 := by
  obtain ⟨h1, h2, h3, h4⟩ := graErr_all h
  refine graErr_of hlen (fun x hx => ?_) (setG_rising h3) (setG_owned h3 h4 ho)
  rcases setG_mem h3 hx with h | ⟨h0, rfl⟩
  · exact h2 x h
  · exact oneGra_ok ⟨hf, hw⟩ ⟨by show 1 ≤ r; omega, hr.2⟩
theorem setG_big {l : List Gra} {f w : Str} {r : Int} (hl : GBig l) (hs : rising graLt l = true) (hlen : l.length ≤ 1000000) (hf : f.length ≤ 140737488355328) (hw : w.length ≤ 140737488355328) : GBig (setG l f w r) := by
  refine ⟨fun x hx => ?_, by have := setG_len (l := l) (f := f) (w := w) (r := r); omega⟩
  rcases setG_mem hs hx with h | ⟨_, rfl⟩
  · exact hl.each x h
  · exact ⟨hf, hw⟩
end Go.Proofs.Ytdcigjpanpcaaaa
