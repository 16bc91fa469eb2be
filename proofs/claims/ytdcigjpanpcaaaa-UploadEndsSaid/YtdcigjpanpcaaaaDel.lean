/- One element of a row that the call owns is taken out of it. -/
import Derived.Test.YtdcigjpanpcaaaaBox
namespace Go.Proofs.Ytdcigjpanpcaaaa
open Go.RowKit

theorem flat_take {α : Type} {c : α → List Value} {sz : Nat} (hc : ∀ a, (c a).length = sz) {l : List α} {i : Nat} (hi : i ≤ l.length) : (l.flatMap c).take (i * sz) = (l.take i).flatMap c := by
  induction l generalizing i with
  | nil => simp
  | cons b t ih =>
    cases i with
    | zero => simp
    | succ i =>
      have := ih (i := i) (by simpa using hi)
      rw [List.take_succ_cons, List.flatMap_cons, List.flatMap_cons, List.take_append, hc, Nat.succ_mul, List.take_of_length_le (by rw [hc]; omega), ← this, Nat.add_sub_cancel]

section
variable {α : Type} {c : α → List Value} {E sz base g n cap : Nat} {w : World} {l : List α}

theorem Own.len (h : Own c E sz w base (.slice (some ⟨g, 0, none⟩) n cap) l) : n = l.length := by
  rcases h.2 with ⟨hv, _⟩ | ⟨_, _, _, hv, _⟩
  · cases hv
  · injection hv

theorem Own.del (hc : ∀ a, (c a).length = sz) (h : Own c E sz w base (.slice (some ⟨g, 0, none⟩) n cap) l) {i : Nat} (hi : i < l.length) :
    Own c E sz (w.setCells g (i * sz) ((l.drop (i + 1)).flatMap c)) base (.slice (some ⟨g, 0, none⟩) (l.length - 1) cap) (l.take i ++ l.drop (i + 1)) := by
  have hn := h.len
  subst hn
  have hl : ((l.drop (i + 1)).flatMap c).length = (l.length - 1 - i) * sz := by rw [flat_len hc, List.length_drop]; congr 1; omega
  have hle : i * sz + (l.length - 1 - i) * sz = (l.length - 1) * sz := by rw [← Nat.add_mul]; congr 1; omega
  have hle2 : (l.length - 1) * sz ≤ l.length * sz := Nat.mul_le_mul_right _ (by omega)
  have h1 := own_setCells ((l.drop (i + 1)).flatMap c) (i * sz) w _ h (by rw [hl, flat_len hc]; omega)
  have h2 := own_prefix h1 (i := l.length - 1) (by omega)
  have e : (List.take (i * sz) (l.flatMap c) ++ (l.drop (i + 1)).flatMap c ++ List.drop (i * sz + ((l.drop (i + 1)).flatMap c).length) (l.flatMap c)).take ((l.length - 1) * sz) = (l.take i ++ l.drop (i + 1)).flatMap c := by
    have hA : (List.take (i * sz) (l.flatMap c) ++ (l.drop (i + 1)).flatMap c).length = (l.length - 1) * sz := by
      rw [List.length_append, hl, List.length_take, flat_len hc, Nat.min_eq_left (Nat.mul_le_mul_right _ (by omega)), hle]
    rw [List.take_left' hA, flat_take hc (by omega), List.flatMap_append]
  rw [e] at h2
  unfold Own
  rw [show (l.take i ++ l.drop (i + 1)).length = l.length - 1 from by rw [List.length_append, List.length_take, List.length_drop]; omega]
  exact h2

/-- What the elements behind i hold, as append reads them. -/
theorem Own.rest (hc : ∀ a, (c a).length = sz) (hp : 0 < sz) (h : Own c E sz w base (.slice (some ⟨g, 0, none⟩) n cap) l) (i : Nat) {A : Addr} (hA : i < l.length → A = ⟨g, i * sz, none⟩) :
    ∀ j u, ((l.drop i).flatMap c)[j]? = some u → w.cell? (A.add j) = some u := by
  intro j u hu
  have hlt : i < l.length := by
    have := (List.getElem?_eq_some_iff.1 hu).1
    rw [flat_len hc, List.length_drop] at this
    rcases Nat.lt_or_ge i l.length with h | h
    · exact h
    · rw [Nat.sub_eq_zero_of_le h, Nat.zero_mul] at this; omega
  have hj := (List.getElem?_eq_some_iff.1 hu).1
  rw [flat_len hc] at hj
  have hk : j / sz < (l.drop i).length := Nat.div_lt_of_lt_mul (by rw [Nat.mul_comm]; exact hj)
  have hr : j % sz < sz := Nat.mod_lt _ hp
  have hjj : j / sz * sz + j % sz = j := by rw [Nat.mul_comm]; exact Nat.div_add_mod j sz
  rw [← hjj, flat_get hc hk hr] at hu
  have hk' : i + j / sz < l.length := by rw [List.length_drop] at hk; omega
  rw [List.getElem_drop] at hu
  obtain ⟨b, off, hbo, _, hcell⟩ := (h.sl hc).at rfl hk'
  simp only [Option.some.injEq, Addr.mk.injEq, and_true] at hbo
  obtain ⟨rfl, rfl⟩ := hbo
  have := hcell _ _ hu
  rw [hA hlt]
  unfold Addr.add
  split
  · rename_i h0
    subst h0
    rw [show 0 + (i + 0 / sz) * sz + 0 % sz = i * sz from by simp] at this
    exact this
  · rw [show 0 + (i + j / sz) * sz + j % sz = i * sz + j from by rw [Nat.add_mul]; omega] at this
    exact this
end
end Go.Proofs.Ytdcigjpanpcaaaa
