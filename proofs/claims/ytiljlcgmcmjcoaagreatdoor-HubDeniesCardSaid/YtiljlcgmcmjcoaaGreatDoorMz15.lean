import Derived.Test.YtiljlcgmcmjcoaaGreatDoorMz14
import Derived.Test.YtiljlcgmcmjcoaaGreatDoorMz7
import Derived.Test.YtiljlcgmcmjcoaaGreatDoorMz0
/- Keys of a map into which texts were put, plain. -/
set_option linter.unusedSimpArgs false
namespace Go.Proofs.YtiljlcgmcmjcoaaGreatDoor
open Go.Ab

def ownsIn (l : List Gra) (f : Str) : Bool := l.any fun h => decide (h.folder = f) && decide (h.right = 3)
def ownedB (l : List Gra) : Bool := l.all fun g => ownsIn l g.folder
def allM (l : List Gra) : List (List UInt8 × AV) := keyM (l.map (·.folder))
def ownM (l : List Gra) : List (List UInt8 × AV) := keyM ((l.filter (fun g => decide (g.right = 3))).map (·.folder))
theorem ownedB_len (l : List Gra) : decide ((ownM l).length = (allM l).length) = ownedB l := by
  have hsub : (l.filter (fun g => decide (g.right = 3))).map (·.folder) ⊆ l.map (·.folder) := by
    intro s hs
    obtain ⟨g, hg, rfl⟩ := List.mem_map.1 hs
    exact List.mem_map.2 ⟨g, (List.mem_filter.1 hg).1, rfl⟩
  rw [Bool.eq_iff_iff, decide_eq_true_iff, ownM, allM, keyM_len hsub, ownedB, List.all_eq_true]
  constructor
  · intro h g hg
    obtain ⟨g', hg', he⟩ := List.mem_map.1 (h (List.mem_map.2 ⟨g, hg, rfl⟩))
    have := List.mem_filter.1 hg'
    exact List.any_eq_true.2 ⟨g', this.1, by simp [he, of_decide_eq_true this.2]⟩
  · intro h s hs
    obtain ⟨g, hg, rfl⟩ := List.mem_map.1 hs
    obtain ⟨g', hg', he⟩ := List.any_eq_true.1 (h g hg)
    simp only [Bool.and_eq_true, decide_eq_true_eq] at he
    exact List.mem_map.2 ⟨g', List.mem_filter.2 ⟨hg', by simp [he.2]⟩, he.1⟩
theorem allM_succ {l : List Gra} {i : Nat} (h : i < l.length) : allM (l.take (i + 1)) = mapPut (allM (l.take i)) l[i].folder yes := by
  rw [allM, List.take_succ_eq_append_getElem h, List.map_append]; exact keyM_snoc _ _
theorem ownM_yes {l : List Gra} {i : Nat} (h : i < l.length) (h3 : l[i].right = 3) : ownM (l.take (i + 1)) = mapPut (ownM (l.take i)) l[i].folder yes := by
  rw [ownM, List.take_succ_eq_append_getElem h, List.filter_append, List.map_append, List.filter_cons_of_pos (by simp [h3])]; exact keyM_snoc _ _
theorem ownM_no {l : List Gra} {i : Nat} (h : i < l.length) (h3 : ¬ l[i].right = 3) : ownM (l.take (i + 1)) = ownM (l.take i) := by
  rw [ownM, List.take_succ_eq_append_getElem h, List.filter_append, List.map_append, List.filter_cons_of_neg (by simp [h3])]; simp [ownM]
end Go.Proofs.YtiljlcgmcmjcoaaGreatDoor

/- Grants, plain: the order of texts, of grants; what Check answers. -/
set_option linter.unusedSimpArgs false
namespace Go.Proofs.YtiljlcgmcmjcoaaGreatDoor
open Go.Op

/-- Does one grant stand ahead of another? -/
def graLt (a b : Gra) : Bool := bytesLess a.folder b.folder || (decide (a.folder = b.folder) && bytesLess a.who b.who)
theorem graCmp_neg (a b : Gra) : graCmp a b < 0 ↔ graLt a b = true := by
  unfold graCmp graLt
  by_cases h : a.folder = b.folder
  · rw [if_pos ((strCmp_zero _ _).2 h), strCmp_neg, h]; simp [bl_irr]
  · rw [if_neg (fun e => h ((strCmp_zero _ _).1 e)), strCmp_neg]; simp [h]
theorem graCmp_zero (a b : Gra) : graCmp a b = 0 ↔ a.folder = b.folder ∧ a.who = b.who := by
  unfold graCmp
  by_cases h : a.folder = b.folder
  · rw [if_pos ((strCmp_zero _ _).2 h), strCmp_zero]; simp [h]
  · rw [if_neg (fun e => h ((strCmp_zero _ _).1 e)), strCmp_zero]; simp [h]
theorem graCmp_pos (a b : Gra) : 0 < graCmp a b ↔ graLt b a = true := by
  unfold graCmp graLt
  by_cases h : a.folder = b.folder
  · rw [if_pos ((strCmp_zero _ _).2 h), strCmp_pos, h]; simp [bl_irr]
  · rw [if_neg (fun e => h ((strCmp_zero _ _).1 e)), strCmp_pos]; simp [show ¬ b.folder = a.folder from fun e => h e.symm]
theorem graLt_trans {a b c : Gra} (h1 : graLt a b = true) (h2 : graLt b c = true) : graLt a c = true := by
  simp only [graLt, Bool.or_eq_true, Bool.and_eq_true, decide_eq_true_eq] at *
  rcases h1 with h1 | ⟨e1, h1⟩
  · rcases h2 with h2 | ⟨e2, h2⟩
    · exact .inl (bl_trans h1 h2)
    · exact .inl (e2 ▸ h1)
  · rcases h2 with h2 | ⟨e2, h2⟩
    · exact .inl (e1 ▸ h2)
    · exact .inr ⟨e1.trans e2, bl_trans h1 h2⟩
theorem graLt_irr (a : Gra) : graLt a a = false := by simp [graLt, bl_irr]
def oneGra (g : Gra) : Int := if isName g.folder && isName g.who then (if withinB g.right 1 3 then 0 else 3) else 1
def graErr (l : List Gra) : Int :=
  if 60 < l.length then 2
  else if firstErr oneGra l = 0 then
    if rising graLt l then
      if ownedB l then 0 else 5
    else 4
  else firstErr oneGra l
/-- Where a grant stands, or would stand. -/
def posG (l : List Gra) (g : Gra) : Nat := (l.takeWhile (fun x => graLt x g)).length
theorem posG_is {g : Gra} : ∀ {l : List Gra} {p : Nat}, p ≤ l.length → (∀ (k : Nat) (h : k < l.length), k < p → graLt l[k] g = true) → (∀ (h : p < l.length), graLt l[p] g = false) → posG l g = p
  | [], p, hp, _, _ => by simp at hp; simp [posG, hp]
  | x :: l, 0, _, _, h2 => by
    have := h2 (by simp)
    simp only [List.getElem_cons_zero] at this
    simp [posG, List.takeWhile_cons, this]
  | x :: l, p + 1, hp, h1, h2 => by
    have hx : graLt x g = true := h1 0 (by simp) (by omega)
    have := posG_is (l := l) (p := p) (by simpa using hp) (fun k h hk => h1 (k + 1) (by simpa using h) (by omega)) (fun h => h2 (by simpa using h))
    simp only [posG] at this
    simp [posG, List.takeWhile_cons, hx, this]
theorem posG_le (l : List Gra) (g : Gra) : posG l g ≤ l.length := by
  induction l with
  | nil => simp [posG]
  | cons x l ih => simp only [posG, List.takeWhile_cons] at *; split <;> simp <;> omega
def sameKey (g x : Gra) : Bool := decide (x.folder = g.folder) && decide (x.who = g.who)
def hitG (l : List Gra) (g : Gra) : Bool := match l[posG l g]? with | some x => decide (graCmp x g = 0) | none => false
theorem rising_lt : ∀ {l : List Gra}, rising graLt l = true → ∀ (j k : Nat) (hj : j < l.length) (hk : k < l.length), j < k → graLt l[j] l[k] = true := by
  intro l h j k hj hk hjk
  induction k with
  | zero => omega
  | succ k ih =>
    have h1 := rising_iff.1 h k hk
    by_cases e : j = k
    · subst e; exact h1
    · exact graLt_trans (ih (by omega) (by omega)) h1
theorem graLt_key {a b c : Gra} (h : a.folder = b.folder ∧ a.who = b.who) : graLt c a = graLt c b ∧ graLt a c = graLt b c := by simp [graLt, h.1, h.2]
theorem posG_at {l : List Gra} {g : Gra} (hs : rising graLt l = true) {k : Nat} (hk : k < l.length) (he : sameKey g l[k] = true) : posG l g = k := by
  simp only [sameKey, Bool.and_eq_true, decide_eq_true_eq] at he
  refine posG_is (by omega) (fun j hj hjk => ?_) (fun _ => ?_)
  · rw [← (graLt_key he).1]; exact rising_lt hs j k hj hk hjk
  · rw [← (graLt_key he).1]; exact graLt_irr _
theorem hitG_any {l : List Gra} (hs : rising graLt l = true) (g : Gra) : hitG l g = l.any (sameKey g) := by
  rcases idxOf_cases (sameKey g) l with ⟨_, h2⟩ | ⟨k, hk, _, _, h3⟩
  · have : l.any (sameKey g) = false := List.any_eq_false.2 (fun x hx => by rw [h2 x hx]; simp)
    rw [this]
    unfold hitG
    split
    · rename_i x hx
      have hm := List.mem_of_getElem? hx
      rw [decide_eq_false_iff_not, graCmp_zero]
      intro h
      have := h2 x hm
      simp [sameKey, h.1, h.2] at this
    · rfl
  · have : l.any (sameKey g) = true := List.any_eq_true.2 ⟨l[k], List.getElem_mem _, h3⟩
    rw [this]
    unfold hitG
    rw [posG_at hs hk h3, List.getElem?_eq_getElem hk]
    simp only [decide_eq_true_eq, graCmp_zero]
    simp only [sameKey, Bool.and_eq_true, decide_eq_true_eq] at h3
    exact h3
theorem oneGra_form {g : Gra} (h : isName g.folder = false ∨ isName g.who = false) : oneGra g = 1 := by
  unfold oneGra; rcases h with h | h <;> simp [h]
theorem oneGra_range {g : Gra} (h : isName g.folder = true ∧ isName g.who = true) (hr : ¬ (1 ≤ g.right ∧ g.right ≤ 3)) : oneGra g = 3 := by
  have : withinB g.right 1 3 = false := by simp [withinB]; omega
  unfold oneGra; simp [h.1, h.2, this]
theorem oneGra_ok {g : Gra} (h : isName g.folder = true ∧ isName g.who = true) (hr : 1 ≤ g.right ∧ g.right ≤ 3) : oneGra g = 0 := by
  have : withinB g.right 1 3 = true := by simp [withinB]; omega
  unfold oneGra; simp [h.1, h.2, this]
theorem graErr_first {l : List Gra} (h60 : ¬ 60 < l.length) {k : Nat} (hk : k < l.length) (hs : ∀ g, g ∈ l.take k → oneGra g = 0) {e : Int} (he : oneGra l[k] = e) (h0 : e ≠ 0) : e = graErr l := by
  have h1 := firstErr_at hk hs (by rw [he]; exact h0)
  have hz : ¬ firstErr oneGra l = 0 := by rw [h1, he]; exact h0
  simp only [graErr, h60, hz, if_false]
  rw [h1, he]
end Go.Proofs.YtiljlcgmcmjcoaaGreatDoor
