import Derived.Test.YtkkfilkmkdnboaaDoorMz7
/- Searches of a list, plain. -/
set_option linter.unusedSimpArgs false
namespace Go.Proofs.YtkkfilkmkdnboaaDoor

/-- The place of the first that p holds of, or -1. -/
def idxOf {α : Type} (p : α → Bool) : List α → Int
  | [] => -1
  | x :: l => if p x then 0 else if idxOf p l < 0 then -1 else idxOf p l + 1
theorem idxOf_at {α : Type} {p : α → Bool} : ∀ {l : List α} {k : Nat} (hk : k < l.length), (∀ x, x ∈ l.take k → p x = false) → p l[k] = true → idxOf p l = k
  | x :: l, 0, hk, _, hp => by simp only [List.getElem_cons_zero] at hp; simp [idxOf, hp]
  | x :: l, k + 1, hk, h, hp => by
    have hx : p x = false := h x (by simp)
    have := idxOf_at (l := l) (k := k) (by simpa using hk) (fun y hy => h y (by simp [hy])) (by simpa using hp)
    simp only [idxOf, hx, Bool.false_eq_true, if_false, this]
    rw [if_neg (by omega)]; omega
theorem idxOf_none {α : Type} {p : α → Bool} : ∀ {l : List α}, (∀ x, x ∈ l → p x = false) → idxOf p l = -1
  | [], _ => rfl
  | x :: l, h => by
    have := idxOf_none (l := l) fun y hy => h y (by simp [hy])
    simp [idxOf, h x (by simp), this]

theorem idxOf_cases {α : Type} (p : α → Bool) : ∀ (l : List α), (idxOf p l = -1 ∧ ∀ x, x ∈ l → p x = false) ∨ ∃ (k : Nat) (h : k < l.length), idxOf p l = k ∧ (∀ x, x ∈ l.take k → p x = false) ∧ p l[k] = true
  | [] => .inl ⟨rfl, by simp⟩
  | x :: l => by
    by_cases hx : p x = true
    · exact .inr ⟨0, by simp, by simp [idxOf, hx], by simp, by simpa using hx⟩
    · have hx : p x = false := by simpa using hx
      rcases idxOf_cases p l with ⟨h1, h2⟩ | ⟨k, hk, h1, h2, h3⟩
      · exact .inl ⟨by simp [idxOf, hx, h1], by simpa [hx] using h2⟩
      · refine .inr ⟨k + 1, by simpa using hk, ?_, ?_, by simpa using h3⟩
        · simp only [idxOf, hx, Bool.false_eq_true, if_false, h1]
          rw [if_neg (by omega)]; omega
        · intro y hy
          simp only [List.take_succ_cons, List.mem_cons] at hy
          rcases hy with rfl | hy
          · exact hx
          · exact h2 y hy

theorem idxOf_any {α : Type} (p : α → Bool) (l : List α) : decide (0 ≤ idxOf p l) = l.any p := by
  rcases idxOf_cases p l with ⟨h1, h2⟩ | ⟨k, hk, h1, h2, h3⟩
  · rw [h1, eq_comm, show decide ((0 : Int) ≤ -1) = false from rfl, List.any_eq_false]
    intro x hx
    simp [h2 x hx]
  · rw [h1, eq_comm, show decide ((0 : Int) ≤ (k : Int)) = true from decide_eq_true (by omega), List.any_eq_true]
    exact ⟨l[k], List.getElem_mem _, h3⟩
theorem mem_take_succ {α : Type} {l : List α} {k : Nat} (hk : k < l.length) {p : α → Prop} (h : ∀ x, x ∈ l.take k → p x) (hx : p l[k]) : ∀ x, x ∈ l.take (k + 1) → p x := by
  intro x hm
  rw [List.take_succ_eq_append_getElem hk] at hm
  rcases List.mem_append.1 hm with hm | hm
  · exact h x hm
  · simp at hm; exact hm ▸ hx
end Go.Proofs.YtkkfilkmkdnboaaDoor
