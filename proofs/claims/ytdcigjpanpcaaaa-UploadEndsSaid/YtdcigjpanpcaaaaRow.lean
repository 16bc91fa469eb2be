/- A row that the call owns, written in place: one element, a tail that is cleared, a prefix. -/
import Derived.Test.YtdcigjpanpcaaaaApp
import Derived.Lib.SliceRun
namespace Go.Proofs.Ytdcigjpanpcaaaa
open Go.RowKit

section
variable {w : World} {base E sz g n cap : Nat} {xs : List Value}

theorem own_prefix (h : w.ownsRow base E sz (.slice (some ⟨g, 0, none⟩) n cap) n xs) {i : Nat} (hi : i ≤ n) : w.ownsRow base E sz (.slice (some ⟨g, 0, none⟩) i cap) i (xs.take (i * sz)) := by
  obtain ⟨h1, h2⟩ := h
  rcases h2 with ⟨hv, _⟩ | ⟨g', cap', cur, hv, hg, hh, hnc, hcm, hcs, ht⟩
  · cases hv
  · simp only [Value.slice.injEq, Option.some.injEq, Addr.mk.injEq, and_true, true_and] at hv
    obtain ⟨rfl, rfl⟩ := hv
    have hm : i * sz ≤ n * sz := Nat.mul_le_mul_right _ hi
    refine ⟨by rw [List.length_take, h1]; omega, .inr ⟨g, cap, cur, rfl, hg, hh, by omega, hcm, hcs, ?_⟩⟩
    rw [← ht, List.take_take]
    congr 1
    omega

theorem own_setCells_out : ∀ (vs : List Value) (o : Nat) (w : World), w.ownsRow base E sz (.slice (some ⟨g, 0, none⟩) n cap) n xs → n * sz ≤ o → (w.setCells g o vs).ownsRow base E sz (.slice (some ⟨g, 0, none⟩) n cap) n xs
  | [], _, _, h, _ => h
  | u :: r, o, w, h, ho => by
    have h1 := (h.stored o u).1
    rw [List.set_eq_of_length_le (by rw [h.1]; exact ho)] at h1
    exact own_setCells_out r (o + 1) _ h1 (by omega)

theorem own_setCells : ∀ (vs : List Value) (o : Nat) (w : World) (xs : List Value), w.ownsRow base E sz (.slice (some ⟨g, 0, none⟩) n cap) n xs → o + vs.length ≤ xs.length →
    (w.setCells g o vs).ownsRow base E sz (.slice (some ⟨g, 0, none⟩) n cap) n (xs.take o ++ vs ++ xs.drop (o + vs.length))
  | [], o, w, xs, h, _ => by simpa [World.setCells] using h
  | u :: r, o, w, xs, h, ho => by
    have h1 := (h.stored o u).1
    have hl : o < xs.length := by simp at ho; omega
    have := own_setCells r (o + 1) _ _ h1 (by simp at ho ⊢; omega)
    have e : (xs.set o u).take (o + 1) ++ r ++ (xs.set o u).drop (o + 1 + r.length) = xs.take o ++ (u :: r) ++ xs.drop (o + (u :: r).length) := by
      have e1 : (xs.set o u).take (o + 1) = xs.take o ++ [u] := by
        rw [List.take_succ_eq_append_getElem (by simpa using hl), List.take_set_of_le (Nat.le_refl _)]
        simp
      rw [e1, List.drop_set_of_lt (by omega)]
      simp [Nat.add_assoc, Nat.add_comm 1]
    rw [e] at this
    exact this

theorem below_setCells {B : Nat} {a : World} (hB : B ≤ g) : ∀ (vs : List Value) (o : Nat) (w : World), Below B a w → Below B a (w.setCells g o vs)
  | [], _, _, h => h
  | u :: r, o, _, h => below_setCells hB r (o + 1) _ (h.setCell hB u)

theorem flat_set {α : Type} {c : α → List Value} {sz : Nat} (hc : ∀ a, (c a).length = sz) {l : List α} {k : Nat} (hk : k < l.length) (a : α) :
    (l.flatMap c).take (k * sz) ++ c a ++ (l.flatMap c).drop (k * sz + (c a).length) = (l.set k a).flatMap c := by
  induction l generalizing k with
  | nil => simp at hk
  | cons b t ih =>
    cases k with
    | zero => simp [hc]
    | succ k =>
      have hk' : k < t.length := by simpa using hk
      have := ih hk'
      simp only [List.set_cons_succ, List.flatMap_cons]
      rw [← this, List.take_append, List.drop_append]
      simp only [hc, Nat.succ_mul]
      rw [List.take_of_length_le (by rw [hc]; omega), List.drop_eq_nil_of_le (as := c b) (by rw [hc]; omega)]
      rw [show k * sz + sz - sz = k * sz from by omega, show k * sz + sz + sz - sz = k * sz + sz from by omega]
      simp

/-- One element of the row is written. -/
theorem Own.set {α : Type} {c : α → List Value} (hc : ∀ a, (c a).length = sz) {l : List α} (h : Own c E sz w base (.slice (some ⟨g, 0, none⟩) n cap) l) {k : Nat} (hk : k < l.length) (a : α) :
    Own c E sz (w.setCells g (k * sz) (c a)) base (.slice (some ⟨g, 0, none⟩) n cap) (l.set k a) := by
  have hn : n = l.length := by
    rcases h.2 with ⟨hv, _⟩ | ⟨_, _, _, hv, _⟩
    · cases hv
    · injection hv
  subst hn
  unfold Own at h ⊢
  rw [List.length_set, ← flat_set hc hk a]
  refine own_setCells (c a) (k * sz) w _ h ?_
  rw [flat_len hc, hc]
  calc k * sz + sz = (k + 1) * sz := (Nat.succ_mul k sz).symm
    _ ≤ l.length * sz := Nat.mul_le_mul_right _ hk

theorem Own.prefix' {α : Type} {c : α → List Value} (hc : ∀ a, (c a).length = sz) {l : List α} (h : Own c E sz w base (.slice (some ⟨g, 0, none⟩) n cap) l) {i : Nat} (hi : i ≤ l.length) :
    Own c E sz w base (.slice (some ⟨g, 0, none⟩) i cap) (l.take i) := by
  have hn : n = l.length := by
    rcases h.2 with ⟨hv, _⟩ | ⟨_, _, _, hv, _⟩
    · cases hv
    · injection hv
  subst hn
  have := own_prefix h hi
  unfold Own
  rw [List.length_take, Nat.min_eq_left hi]
  have e : (l.flatMap c).take (i * sz) = (l.take i).flatMap c := by
    clear this h
    induction l generalizing i with
    | nil => simp
    | cons b t ih =>
      cases i with
      | zero => simp
      | succ i =>
        have := ih (i := i) (by simpa using hi)
        rw [List.take_succ_cons, List.flatMap_cons, List.flatMap_cons, List.take_append, hc, Nat.succ_mul, List.take_of_length_le (by rw [hc]; omega), ← this, Nat.add_sub_cancel]
  rw [← e]
  exact this

theorem Own.form {α : Type} {c : α → List Value} {v : Value} {l : List α} (h : Own c E sz w base v l) (hl : 0 < l.length) : ∃ g cap, v = .slice (some ⟨g, 0, none⟩) l.length cap ∧ base ≤ g ∧ g < w.heap.size ∧ l.length ≤ cap ∧ cap ≤ 9223372036854775807 ∧ (∀ j, j < cap * sz → (w.cell? ⟨g, j, none⟩).isSome = true) ∧ (∀ j, w.frozen? ⟨g, j, none⟩ = false) := by
  rcases h.2 with ⟨hv, h0⟩ | ⟨g, cap, cur, hv, hg, hh, hnc, hcm, hcs, ht⟩
  · omega
  · refine ⟨g, cap, hv, hg, ?_, hnc, by unfold maxLen at hcm; exact hcm, ?_, ?_⟩
    · rcases Nat.lt_or_ge g w.heap.size with h | h
      · exact h
      · rw [Array.getElem?_eq_none h] at hh; cases hh
    · intro j hj
      rw [cell_of_row w g j cur E (0, 0) hh, Array.getElem?_eq_getElem (by omega)]
      rfl
    · intro j
      simp [World.frozen?, hh]
end

theorem run_clear_rows {P : Program} {w : World} {t E ty sz : Nat} {z : Value} (ht : P.underlying t = some (.slice E)) (hv : ∀ w, (zeroValue E).run P w = .ok z w) (hz : z.cells.size = sz) (h1 : ∀ u ∈ z.cells, u.oneCell' = true)
    {g o n c : Nat} (hc : ∀ j, j < n * sz → (w.cell? ⟨g, o + j, none⟩).isSome = true) (hf : ∀ j, j < n * sz → w.frozen? ⟨g, o + j, none⟩ = false) :
    (Builtin.clear_ #[t] ty #[.slice (some ⟨g, o, none⟩) n c]).run P w = .ok (.tuple #[]) (w.setCells g o (Builtin.zeroCells z.cells n).toList) := by
  have hl : (Builtin.zeroCells z.cells n).toList.length = n * sz := by simp [Builtin.zeroCells, hz]
  have ho : ∀ v ∈ (Builtin.zeroCells z.cells n).toList, v.oneCell' = true := by
    intro v hvm
    simp only [Builtin.zeroCells, Array.toList_map, List.mem_map, Array.mem_toList_iff, Array.mem_range] at hvm
    obtain ⟨i, hi, rfl⟩ := hvm
    have hp : 0 < z.cells.size := Nat.pos_of_mul_pos_left (Nat.lt_of_le_of_lt (Nat.zero_le _) hi)
    have hm : i % z.cells.size < z.cells.size := Nat.mod_lt _ hp
    rw [getElem!_pos z.cells _ hm]
    exact h1 _ (Array.getElem_mem hm)
  have hst := run_storeCells_cells (P := P) g o (Builtin.zeroCells z.cells n).toList 0 w (by rw [hl]; simpa using hc) (by rw [hl]; simpa using hf) ho
  simp only [Nat.add_zero] at hst
  cases n with
  | zero =>
    have : (Builtin.zeroCells z.cells 0).toList = [] := List.eq_nil_of_length_eq_zero (by rw [hl, Nat.zero_mul])
    rw [this]
    simp [Builtin.clear_, run_underlying ht, World.setCells]
  | succ m => simp [Builtin.clear_, run_underlying ht, hv, hst]
end Go.Proofs.Ytdcigjpanpcaaaa
