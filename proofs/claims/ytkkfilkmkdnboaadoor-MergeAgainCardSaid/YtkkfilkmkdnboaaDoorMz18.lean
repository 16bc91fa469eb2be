import Derived.Test.YtkkfilkmkdnboaaDoorMz11
import Derived.Test.YtkkfilkmkdnboaaDoorMz15
/- Trees, plain: the order of texts, of entries; what Check answers. -/
set_option linter.unusedSimpArgs false
set_option linter.unnecessarySimpa false
namespace Go.Proofs.YtkkfilkmkdnboaaDoor
open Go.Op

/-- Strings compared: -1, 0, 1. -/
def strCmp (a b : Str) : Int := if Op.bytesLess a b = true then -1 else if (!(Op.bytesLess a b || decide (a = b))) = true then 1 else 0
theorem bl_tri : ∀ (a b : List UInt8), (bytesLess a b = true ∧ bytesLess b a = false ∧ a ≠ b) ∨ (a = b ∧ bytesLess a b = false ∧ bytesLess b a = false) ∨ (bytesLess b a = true ∧ bytesLess a b = false ∧ a ≠ b)
  | [], [] => .inr (.inl ⟨rfl, rfl, rfl⟩)
  | [], b :: y => .inl ⟨rfl, rfl, by simp⟩
  | a :: x, [] => .inr (.inr ⟨rfl, rfl, by simp⟩)
  | a :: x, b :: y => by
    simp only [bytesLess]
    by_cases h1 : a < b
    · have h2 : ¬ b < a := by rw [UInt8.lt_iff_toNat_lt] at *; omega
      have h3 : a ≠ b := by rintro rfl; exact h2 h1
      have h4 : b ≠ a := fun h => h3 h.symm
      exact .inl (by simp [h1, h2, h3, h4])
    · by_cases h2 : b < a
      · have h3 : a ≠ b := by rintro rfl; exact h1 h2
        have h4 : b ≠ a := fun h => h3 h.symm
        exact .inr (.inr (by simp [h1, h2, h3, h4]))
      · have h3 : a = b := by
          have : a.toNat = b.toNat := by rw [UInt8.lt_iff_toNat_lt] at *; omega
          exact UInt8.toNat.inj this
        subst h3
        simp only [h1, decide_false, Bool.false_or, beq_self_eq_true, Bool.true_and, List.cons.injEq, true_and, ne_eq]
        exact bl_tri x y
theorem bl_trans : ∀ {a b c : List UInt8}, bytesLess a b = true → bytesLess b c = true → bytesLess a c = true
  | _, _, [], _, h => by cases ‹List UInt8› <;> simp [bytesLess] at h
  | a, [], _ :: _, h, _ => by cases a <;> simp [bytesLess] at h
  | [], _ :: _, _ :: _, _, _ => rfl
  | a :: x, b :: y, c :: z, h1, h2 => by
    simp only [bytesLess, Bool.or_eq_true, Bool.and_eq_true, decide_eq_true_eq, beq_iff_eq, UInt8.lt_iff_toNat_lt] at *
    rcases h1 with h1 | ⟨rfl, h1⟩
    · rcases h2 with h2 | ⟨rfl, h2⟩
      · exact .inl (by omega)
      · exact .inl h1
    · rcases h2 with h2 | ⟨rfl, h2⟩
      · exact .inl h2
      · exact .inr ⟨rfl, bl_trans h1 h2⟩
theorem bl_irr (a : List UInt8) : bytesLess a a = false := by
  rcases bl_tri a a with h | h | h
  · exact absurd rfl h.2.2
  · exact h.2.1
  · exact absurd rfl h.2.2
theorem strCmp_neg (a b : Str) : strCmp a b < 0 ↔ bytesLess a b = true := by
  unfold strCmp; rcases bl_tri a b with ⟨h1, h2, h3⟩ | ⟨rfl, h2, h3⟩ | ⟨h1, h2, h3⟩ <;> simp [*]
theorem strCmp_zero (a b : Str) : strCmp a b = 0 ↔ a = b := by
  unfold strCmp; rcases bl_tri a b with ⟨h1, h2, h3⟩ | ⟨rfl, h2, h3⟩ | ⟨h1, h2, h3⟩ <;> simp [*]
theorem strCmp_pos (a b : Str) : 0 < strCmp a b ↔ bytesLess b a = true := by
  unfold strCmp; rcases bl_tri a b with ⟨h1, h2, h3⟩ | ⟨rfl, h2, h3⟩ | ⟨h1, h2, h3⟩ <;> simp [*]
theorem strCmp_bd (a b : Str) : -1 ≤ strCmp a b ∧ strCmp a b ≤ 1 := by
  unfold strCmp
  split
  · omega
  · split <;> omega
theorem strCmp_self (a : Str) : strCmp a a = 0 := (strCmp_zero a a).2 rfl
/-- The first error of a list. -/
def firstErr {α : Type} (f : α → Int) : List α → Int
  | [] => 0
  | x :: l => if f x = 0 then firstErr f l else f x
/-- Does each stand behind the one ahead of it? -/
def rising {α : Type} (lt : α → α → Bool) : List α → Bool
  | [] => true
  | x :: l => (match l with | [] => true | y :: _ => lt x y) && rising lt l
theorem firstErr_zero {α : Type} {f : α → Int} : ∀ {l : List α}, firstErr f l = 0 ↔ ∀ x, x ∈ l → f x = 0
  | [] => by simp [firstErr]
  | x :: l => by
    simp only [firstErr, List.mem_cons, forall_eq_or_imp]
    by_cases h : f x = 0
    · simp [h, firstErr_zero (l := l)]
    · simp [h]
/-- A search for the first error has come to k. -/
theorem firstErr_at {α : Type} {f : α → Int} {l : List α} {k : Nat} (hk : k < l.length) (h : ∀ x, x ∈ l.take k → f x = 0) (he : f l[k] ≠ 0) : firstErr f l = f l[k] := by
  induction l generalizing k with
  | nil => simp at hk
  | cons x l ih =>
    cases k with
    | zero => simp only [firstErr, List.getElem_cons_zero] at he ⊢; rw [if_neg he]
    | succ k =>
      have hx : f x = 0 := h x (by simp)
      simp only [firstErr, hx, if_true, List.getElem_cons_succ]
      exact ih (by simpa using hk) (fun y hy => h y (by simp [hy])) (by simpa using he)
theorem rising_iff {α : Type} {lt : α → α → Bool} : ∀ {l : List α}, rising lt l = true ↔ ∀ (k : Nat) (h : k + 1 < l.length), lt (l[k]'(by omega)) l[k + 1] = true
  | [] => by simp [rising]
  | [x] => by simp [rising]
  | x :: y :: l => by
    have ih := rising_iff (lt := lt) (l := y :: l)
    simp only [rising, Bool.and_eq_true] at ih ⊢
    constructor
    · rintro ⟨h1, h2⟩ k hk
      cases k with
      | zero => exact h1
      | succ k => exact ih.1 h2 k (by simpa using hk)
    · intro h
      exact ⟨h 0 (by simp), ih.2 fun k hk => h (k + 1) (by simpa using hk)⟩

structure Ent where
  path : Str
  fold : Bool
  text : Str
  ver : Int
  deriving DecidableEq
structure Chg where
  kind : Int
  path : Str
  to : Str
  text : Str
  base : Int
  deriving DecidableEq
def entLt (a b : Ent) : Bool := bytesLess a.path b.path
def atP (p : Str) (x : Ent) : Bool := decide (x.path = p)
/-- Where an entry stands, or would stand. -/
def posE (t : List Ent) (p : Str) : Nat := (t.takeWhile (fun x => bytesLess x.path p)).length
def hitE (t : List Ent) (p : Str) : Bool := t.any (atP p)
def isVer (n : Int) : Bool := decide (1 ≤ n) && decide (n ≤ 1000000)
def entErr (e : Ent) : Int := if pathErr e.path = 0 then (if e.fold = true ∧ ¬ e.text = [] then 1 else if 300 < e.text.length then 2 else if isVer e.ver = true then 0 else 3) else pathErr e.path
/-- May something be just in this path? -/
def folderErr (t : List Ent) (q : Str) : Int := if q = [] then 0 else match t.find? (atP q) with | none => 5 | some x => if x.fold = true then 0 else 4
def parErr (t : List Ent) (x : Ent) : Int := folderErr t (parentOf x.path)
def treeErr (t : List Ent) : Int :=
  if 60 < t.length then 2
  else if firstErr entErr t = 0 then
    if rising entLt t = true then
      if t.any (fun x => decide (parErr t x = 5)) = true then 5
      else if t.any (fun x => decide (¬ parErr t x = 0)) = true then 4 else 0
    else 4
  else firstErr entErr t
def treesErr : List (List Ent) → Int := firstErr treeErr

theorem folderErr_bd (t : List Ent) (q : Str) : folderErr t q = 0 ∨ folderErr t q = 4 ∨ folderErr t q = 5 := by
  unfold folderErr
  split
  · exact .inl rfl
  · split
    · exact .inr (.inr rfl)
    · split
      · exact .inl rfl
      · exact .inr (.inl rfl)
theorem rising_ltE {t : List Ent} (h : rising entLt t = true) : ∀ (j k : Nat) (hj : j < t.length) (hk : k < t.length), j < k → bytesLess t[j].path t[k].path = true := by
  intro j k hj hk hjk
  induction k with
  | zero => omega
  | succ k ih =>
    have h1 : bytesLess t[k].path t[k + 1].path = true := rising_iff.1 h k hk
    by_cases e : j = k
    · subst e; exact h1
    · exact bl_trans (ih (by omega) (by omega)) h1
theorem rising_pairE {t : List Ent} : rising entLt t = true ↔ t.Pairwise (fun a b => bytesLess a.path b.path = true) := by
  rw [List.pairwise_iff_getElem]
  constructor
  · intro h i j hi hj hij
    exact rising_ltE h i j hi hj hij
  · intro h
    exact rising_iff.2 fun k hk => h k (k + 1) (by omega) hk (by omega)
theorem posE_is {p : Str} : ∀ {t : List Ent} {k : Nat}, k ≤ t.length → (∀ (j : Nat) (h : j < t.length), j < k → bytesLess t[j].path p = true) → (∀ (h : k < t.length), bytesLess t[k].path p = false) → posE t p = k
  | [], k, hk, _, _ => by simp at hk; simp [posE, hk]
  | x :: l, 0, hk, _, h2 => by
    have := h2 (by simp)
    simp only [List.getElem_cons_zero] at this
    simp [posE, List.takeWhile_cons, this]
  | x :: l, k + 1, hk, h1, h2 => by
    have hx : bytesLess x.path p = true := h1 0 (by simp) (by omega)
    have := posE_is (t := l) (k := k) (by simpa using hk) (fun j h hj => h1 (j + 1) (by simpa using h) (by omega)) (fun h => h2 (by simpa using h))
    simp only [posE] at this
    simp [posE, List.takeWhile_cons, hx, this]
theorem posE_le (t : List Ent) (p : Str) : posE t p ≤ t.length := by
  induction t with
  | nil => simp [posE]
  | cons x l ih => simp only [posE, List.takeWhile_cons] at *; split <;> simp <;> omega
theorem posE_at {t : List Ent} {p : Str} (hs : rising entLt t = true) {k : Nat} (hk : k < t.length) (he : t[k].path = p) : posE t p = k := by
  refine posE_is (by omega) (fun j hj hjk => ?_) (fun _ => ?_)
  · rw [← he]; exact rising_ltE hs j k hj hk hjk
  · rw [← he]; exact bl_irr _
theorem hitE_pos {t : List Ent} {p : Str} (hs : rising entLt t = true) : hitE t p = (match t[posE t p]? with | some x => decide (strCmp x.path p = 0) | none => false) := by
  rcases idxOf_cases (atP p) t with ⟨_, h2⟩ | ⟨k, hk, _, _, h3⟩
  · have : hitE t p = false := List.any_eq_false.2 (fun x hx => by rw [h2 x hx]; simp)
    rw [this]
    split
    · rename_i x hx
      have hm := List.mem_of_getElem? hx
      have := h2 x hm
      rw [eq_comm, decide_eq_false_iff_not, strCmp_zero]
      simpa [atP] using this
    · rfl
  · have he : t[k].path = p := by simpa [atP] using h3
    have : hitE t p = true := List.any_eq_true.2 ⟨t[k], List.getElem_mem _, h3⟩
    rw [this, posE_at hs hk he, List.getElem?_eq_getElem hk]
    simp [he, strCmp_self]
/-- What is hit stands there. -/
theorem hitE_at {t : List Ent} {p : Str} (hs : rising entLt t = true) (h : hitE t p = true) : ∃ hk : posE t p < t.length, t[posE t p].path = p ∧ t.find? (atP p) = some t[posE t p] ∧ idxOf (atP p) t = posE t p := by
  obtain ⟨x, hx, hk⟩ := List.any_eq_true.1 h
  obtain ⟨k, hkl, rfl⟩ := List.getElem_of_mem hx
  have he : t[k].path = p := by simpa [atP] using hk
  have hp := posE_at hs hkl he
  have hbef : ∀ j (hj : j < k), atP p (t[j]'(by omega)) = false := fun j hj => by
    have h1 := rising_ltE hs j k (by omega) hkl hj
    have : ¬ t[j].path = p := fun e => by rw [e, he, bl_irr] at h1; cases h1
    simp [atP, this]
  refine ⟨by omega, by simp only [hp]; exact he, ?_, ?_⟩
  · simp only [hp]
    rw [List.find?_eq_some_iff_getElem]
    exact ⟨hk, k, hkl, rfl, fun j hj => by rw [hbef j hj]; rfl⟩
  · rw [hp]
    refine idxOf_at hkl (fun x hx => ?_) hk
    obtain ⟨j, hj, rfl⟩ := List.getElem_of_mem hx
    rw [List.getElem_take]
    exact hbef j (by simp at hj; omega)
theorem hitE_none {t : List Ent} {p : Str} (h : hitE t p = false) : t.find? (atP p) = none ∧ idxOf (atP p) t = -1 := by
  have h1 := List.any_eq_false.1 h
  exact ⟨List.find?_eq_none.2 h1, idxOf_none fun x hx => by simpa using h1 x hx⟩
theorem idxOf_find {α : Type} (p : α → Bool) (l : List α) : (idxOf p l = -1 ∧ l.find? p = none) ∨ ∃ (k : Nat) (h : k < l.length), idxOf p l = k ∧ l.find? p = some l[k] := by
  rcases idxOf_cases p l with ⟨h1, h2⟩ | ⟨k, hk, h1, h2, h3⟩
  · exact .inl ⟨h1, List.find?_eq_none.2 fun x hx => by rw [h2 x hx]; simp⟩
  · refine .inr ⟨k, hk, h1, ?_⟩
    rw [List.find?_eq_some_iff_getElem]
    refine ⟨h3, k, hk, rfl, fun j hj => ?_⟩
    rw [h2 _ (List.mem_take_iff_getElem.2 ⟨j, by omega, rfl⟩)]; rfl
end Go.Proofs.YtkkfilkmkdnboaaDoor
