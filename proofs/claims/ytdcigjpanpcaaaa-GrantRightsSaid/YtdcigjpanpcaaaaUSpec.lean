/- Uploads: what the functions answer, as plain functions. No program in sight. -/
import Derived.Test.YtdcigjpanpcaaaaData
import Derived.Test.YtdcigjpanpcaaaaIdx
namespace Go.Proofs.Ytdcigjpanpcaaaa

def withinB (n a b : Int) : Bool := decide (a ≤ n) && decide (n ≤ b)
/-- How many bytes all sessions of somebody are to have. -/
def openOf (l : List Sess) (who : Str) : Int := (l.map fun s => if s.who = who then s.size else 0).sum
def sessErr (next : Int) (s : Sess) : Int :=
  if withinB s.number 1 (next - 1) && withinB s.size 0 300 && withinB s.till 0 2199023255552 then
    if isName s.who then if s.size < s.text.length then 2 else 0 else 1
  else 3
/-- The first error of a list. -/
def firstErr {α : Type} (f : α → Int) : List α → Int
  | [] => 0
  | x :: l => if f x = 0 then firstErr f l else f x
/-- Does each stand behind the one ahead of it? -/
def rising {α : Type} (lt : α → α → Bool) : List α → Bool
  | [] => true
  | x :: l => (match l with | [] => true | y :: _ => lt x y) && rising lt l
def upHead (u : Upl) : Bool := withinB u.lasts 1 1000000 && withinB u.room 0 100000 && withinB u.next 1 1099511627776
def roomy (u : Upl) : Bool := u.sess.all fun s => decide (openOf u.sess s.who ≤ u.room)
def upErr (u : Upl) : Int :=
  if upHead u then
    if 20 < u.sess.length then 2
    else if firstErr (sessErr u.next) u.sess = 0 then
      if rising (fun a b => decide (a.number < b.number)) u.sess then
        if roomy u then 0 else 10
      else 4
    else firstErr (sessErr u.next) u.sess
  else 3

theorem firstErr_zero {α : Type} {f : α → Int} : ∀ {l : List α}, firstErr f l = 0 ↔ ∀ x, x ∈ l → f x = 0
  | [] => by simp [firstErr]
  | x :: l => by
    simp only [firstErr, List.mem_cons, forall_eq_or_imp]
    by_cases h : f x = 0
    · simp [h, firstErr_zero (l := l)]
    · simp [h]
/-- A search for the first error has come to k. -/
theorem firstErr_at {α : Type} {f : α → Int} {l : List α} {k : Nat} (hk : k < l.length) (h : ∀ x, x ∈ l.take k → f x = 0) (he : f l[k] ≠ 0) : firstErr f l = f l[k] := by
  induction l generalizing k with
  | nil => simp at hk
  | cons x l ih =>
    cases k with
    | zero => simp only [firstErr, List.getElem_cons_zero] at he ⊢; rw [if_neg he]
    | succ k =>
      have hx : f x = 0 := h x (by simp)
      simp only [firstErr, hx, if_true, List.getElem_cons_succ]
      exact ih (by simpa using hk) (fun y hy => h y (by simp [hy])) (by simpa using he)
theorem mem_take_succ {α : Type} {l : List α} {k : Nat} (hk : k < l.length) {p : α → Prop} (h : ∀ x, x ∈ l.take k → p x) (hx : p l[k]) : ∀ x, x ∈ l.take (k + 1) → p x := by
  intro x hm
  rw [List.take_succ_eq_append_getElem hk] at hm
  rcases List.mem_append.1 hm with hm | hm
  · exact h x hm
  · simp at hm; exact hm ▸ hx
theorem rising_iff {α : Type} {lt : α → α → Bool} : ∀ {l : List α}, rising lt l = true ↔ ∀ (k : Nat) (h : k + 1 < l.length), lt (l[k]'(by omega)) l[k + 1] = true
  | [] => by simp [rising]
  | [x] => by simp [rising]
  | x :: y :: l => by
    have ih := rising_iff (lt := lt) (l := y :: l)
    simp only [rising, Bool.and_eq_true] at ih ⊢
    constructor
    · rintro ⟨h1, h2⟩ k hk
      cases k with
      | zero => exact h1
      | succ k => exact ih.1 h2 k (by simpa using hk)
    · intro h
      exact ⟨h 0 (by simp), ih.2 fun k hk => h (k + 1) (by simpa using hk)⟩
theorem sessErr_size {next : Int} {s : Sess} (h : sessErr next s = 0) : 0 ≤ s.size ∧ s.size ≤ 300 := by
  unfold sessErr at h
  split at h
  · rename_i h1
    simp [withinB] at h1; omega
  · cases h
theorem openOf_nil (who : Str) : openOf [] who = 0 := rfl
theorem openOf_snoc (l : List Sess) (s : Sess) (who : Str) : openOf (l ++ [s]) who = openOf l who + (if s.who = who then s.size else 0) := by simp [openOf]
theorem openOf_succ {l : List Sess} {k : Nat} (h : k < l.length) (who : Str) : openOf (l.take (k + 1)) who = openOf (l.take k) who + (if l[k].who = who then l[k].size else 0) := by
  rw [List.take_succ_eq_append_getElem h, openOf_snoc]
theorem openOf_bd {l : List Sess} (who : Str) (h : ∀ s, s ∈ l → 0 ≤ s.size ∧ s.size ≤ 300) : 0 ≤ openOf l who ∧ openOf l who ≤ 300 * l.length := by
  induction l with
  | nil => simp [openOf]
  | cons s l ih =>
    obtain ⟨h1, h2⟩ := ih fun s hs => h s (List.mem_cons_of_mem _ hs)
    obtain ⟨h3, h4⟩ := h s (List.mem_cons_self ..)
    have : openOf (s :: l) who = (if s.who = who then s.size else 0) + openOf l who := by simp [openOf]
    rw [this]
    split <;> simp <;> omega
theorem openOf_take {l : List Sess} (who : Str) (h : ∀ s, s ∈ l → 0 ≤ s.size ∧ s.size ≤ 300) (k : Nat) : 0 ≤ openOf (l.take k) who ∧ openOf (l.take k) who ≤ 300 * k := by
  obtain ⟨h1, h2⟩ := openOf_bd (l := l.take k) who (fun s hs => h s (List.mem_of_mem_take hs))
  exact ⟨h1, by have : (l.take k).length ≤ k := List.length_take_le _ _; omega⟩
theorem filter_hit {α : Type} {p : α → Bool} {l : List α} {k : Nat} (hk : k < l.length) (hp : p l[k] = true) : (l.take (k + 1)).filter p = (l.take k).filter p ++ [l[k]] := by
  rw [List.take_succ_eq_append_getElem hk, List.filter_append]; simp [hp]
theorem filter_miss {α : Type} {p : α → Bool} {l : List α} {k : Nat} (hk : k < l.length) (hp : p l[k] = false) : (l.take (k + 1)).filter p = (l.take k).filter p := by
  rw [List.take_succ_eq_append_getElem hk, List.filter_append]; simp [hp]
/-- The row after j of its elements have been looked at, i of them kept. -/
structure Del {α : Type} (p : α → Bool) (l : List α) (i j : Nat) (R : List α) : Prop where
  len : R.length = l.length
  le : i ≤ j
  jn : j ≤ l.length
  head : R.take i = (l.take j).filter p
  tail : R.drop j = l.drop j

theorem Del.start {α : Type} {p : α → Bool} {l : List α} {i : Nat} (hi : i < l.length) (ha : (l.take i).all p = true) (hp : p l[i] = false) : Del p l i (i + 1) l where
  len := rfl
  le := by omega
  jn := by omega
  head := by
    rw [filter_miss hi hp]
    symm
    rw [List.filter_eq_self]
    intro a hm
    rw [List.all_eq_true] at ha
    exact ha a hm
  tail := rfl

theorem Del.at {α : Type} {p : α → Bool} {l : List α} {i j : Nat} {R : List α} (h : Del p l i j R) (hj : j < l.length) : R[j]'(by rw [h.len]; exact hj) = l[j] := by
  have h1 := congrArg (fun x => x[0]?) h.tail
  simp only [List.getElem?_drop, Nat.add_zero] at h1
  rw [List.getElem?_eq_getElem (by rw [h.len]; exact hj), List.getElem?_eq_getElem hj] at h1
  injection h1

theorem Del.drop {α : Type} {p : α → Bool} {l : List α} {i j : Nat} {R : List α} (h : Del p l i j R) (hj : j < l.length) (hp : p l[j] = false) : Del p l i (j + 1) R where
  len := h.len
  le := by have := h.le; omega
  jn := by omega
  head := by rw [filter_miss hj hp, h.head]
  tail := by
    have := congrArg (List.drop 1) h.tail
    rwa [List.drop_drop, List.drop_drop] at this

theorem Del.keep {α : Type} {p : α → Bool} {l : List α} {i j : Nat} {R : List α} (h : Del p l i j R) (hj : j < l.length) (hp : p l[j] = true) : Del p l (i + 1) (j + 1) (R.set i l[j]) where
  len := by rw [List.length_set, h.len]
  le := by have := h.le; omega
  jn := by omega
  head := by
    have hi : i < R.length := by have := h.le; rw [h.len]; omega
    rw [filter_hit hj hp, ← h.head, List.take_succ_eq_append_getElem (by simpa using hi), List.take_set_of_le (Nat.le_refl _)]
    simp
  tail := by
    have := congrArg (List.drop 1) h.tail
    rw [List.drop_drop, List.drop_drop] at this
    rw [List.drop_set_of_lt (by have := h.le; omega)]
    exact this

theorem Del.end_ {α : Type} {p : α → Bool} {l : List α} {i j : Nat} {R : List α} (h : Del p l i j R) (hj : ¬ j < l.length) : R.take i = l.filter p := by
  have := h.head
  rwa [List.take_of_length_le (l := l) (by omega)] at this

end Go.Proofs.Ytdcigjpanpcaaaa
