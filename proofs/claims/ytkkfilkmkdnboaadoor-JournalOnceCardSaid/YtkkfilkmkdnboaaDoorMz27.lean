import Derived.Test.YtkkfilkmkdnboaaDoorMz19
/- Journals, 12: plain: reading on, page by page. -/
set_option linter.unusedSimpArgs false
set_option linter.unnecessarySimpa false
set_option linter.unusedVariables false
namespace Go.Proofs.YtkkfilkmkdnboaaDoor

def treeAt (j : Jou) (a : Nat) : List Ent := (comsR j.first j.base (j.coms.take a)).1
theorem comsT_at : ∀ {l : List Com} {n : Int} {t : List Ent}, (comsR n t l).2 = 0 → ∀ a, a ≤ l.length → (t :: comsT t l)[a]? = some (comsR n t (l.take a)).1
  | l, n, t, _, 0, _ => by simp [comsR]
  | [], n, t, _, a + 1, h => by simp at h
  | c :: l, n, t, hz, a + 1, h => by
    obtain ⟨h1, h2, h3⟩ := comsR_cons hz
    rw [h3] at hz
    rw [List.take_succ_cons, comsR, if_neg (by simp [h1]), if_neg (by simp [h2])]
    have := comsT_at hz a (by simpa using h)
    rw [← this]
    simp [comsT]
theorem treeAt_now {j : Jou} : treeAt j j.coms.length = nowT j := by unfold treeAt nowT; rw [List.take_length]
theorem treeAt_right {j : Jou} (h : JRight j) (a : Nat) : Right (treeAt j a) := comsR_right h.base (comsR_take h.run a)
theorem last_cur {j : Jou} (h : JRight j) : isCur (lastN j) = true := by
  have hlo := h.lo
  have hhi := h.hi
  unfold isCur lastN
  by_cases h0 : j.coms.length = 0
  · simp [h0]; omega
  · have := comsR_num h.run (j.coms.length - 1) (by omega)
    simp; omega
theorem page_run {j : Jou} (h : JRight j) {a m : Nat} (ha : a ≤ j.coms.length) : (comsR (j.first + a) (treeAt j a) ((j.coms.drop a).take m)).2 = 0 ∧ (comsR (j.first + a) (treeAt j a) ((j.coms.drop a).take m)).1 = treeAt j (a + ((j.coms.drop a).take m).length) := by
  have h1 : j.coms.take (a + ((j.coms.drop a).take m).length) = j.coms.take a ++ (j.coms.drop a).take m := by
    rw [List.take_add]
    congr 1
    rw [List.length_take, List.take_eq_take_min]
    simp [Nat.min_comm]
  have h2 := comsR_take h.run (a + ((j.coms.drop a).take m).length)
  have h3 := comsR_take h.run a
  have hl : (j.coms.take a).length = a := by simp; omega
  unfold treeAt
  rw [h1] at h2 ⊢
  rw [comsR_app h3, hl] at h2 ⊢
  exact ⟨h2, rfl⟩
/-- A page, and what following it comes to. -/
theorem page_comes {j : Jou} (h : JRight j) {a m : Nat} (ha : a ≤ j.coms.length) (hm : 1 ≤ m) (hm10 : m ≤ 10) : ∃ c : Nat, a + c ≤ j.coms.length ∧ c ≤ m ∧ (a + c < j.coms.length → 1 ≤ c) ∧ ((j.coms.drop a).take m).length = c ∧
    readR j (j.first - 1 + a) m = (⟨false, [], (j.coms.drop a).take m, j.first - 1 + ((a + c : Nat) : Int), decide (a + c < j.coms.length)⟩, 0) ∧
    followR (treeAt j a) (j.first - 1 + a) ⟨false, [], (j.coms.drop a).take m, j.first - 1 + ((a + c : Nat) : Int), decide (a + c < j.coms.length)⟩ = (treeAt j (a + c), j.first - 1 + ((a + c : Nat) : Int), 0) := by
  have hlo := h.lo
  have hhi := h.hi
  have hlc := last_cur h
  have hL : lastN j = j.first + j.coms.length - 1 := rfl
  have hcl : ((j.coms.drop a).take m).length = min m (j.coms.length - a) := by simp
  obtain ⟨hr1, hr2⟩ := page_run h (m := m) ha
  refine ⟨((j.coms.drop a).take m).length, by rw [hcl]; omega, by rw [hcl]; omega, by rw [hcl]; omega, rfl, ?_, ?_⟩
  · have hp : partC j (j.first - 1 + a) m = (j.coms.drop a).take m := by
      unfold partC
      rw [show (j.first - 1 + (a : Int) - j.first + 1).toNat = a by omega]
      simp
    unfold readR
    rw [if_neg (by simp [jright_iff.2 h])]
    unfold readW
    rw [if_neg (by omega), if_neg (by rw [hL]; omega), if_neg (by omega), hp, hL]
    simp only [Prod.mk.injEq, Pag.mk.injEq, true_and, and_true, decide_eq_decide]
    constructor <;> omega
  · have hc : isCur (j.first - 1 + a) = true := by
      rw [hL] at hlc
      simp [isCur] at hlc ⊢; omega
    unfold followR
    have hfr := folR_run hr1
    rw [if_neg (by simp [right_iff.2 (treeAt_right h a)]), if_neg (by simp [hc]), if_neg (by simp), if_neg (by simp), if_neg (by rw [hcl]; omega),
      if_neg (by rw [show j.first - 1 + (a : Int) + 1 = j.first + a by omega, numsOk_run hr1]; simp), if_neg (by simp; omega), hfr, if_neg (by simp [hr1]), hr2]
theorem resets {j : Jou} (h : JRight j) {k : Int} (hk0 : 0 ≤ k) (hk : k < j.first - 1) (t : List Ent) : readR j k 3 = (⟨true, nowT j, [], lastN j, false⟩, 0) ∧ followR t 0 ⟨true, nowT j, [], lastN j, false⟩ = if treeErr t = 0 then (nowT j, lastN j, 0) else ([], 0, treeErr t) := by
  have hlo := h.lo
  constructor
  · unfold readR
    rw [if_neg (by simp [jright_iff.2 h])]
    unfold readW
    rw [if_neg (by omega), if_neg (by unfold lastN; omega), if_pos hk]
  · by_cases ht : treeErr t = 0
    · rw [if_pos ht]
      unfold followR
      rw [if_neg (by simp [ht]), if_neg (by decide), if_pos rfl, if_neg (by simp [right_iff.2 h.now]), if_neg (by simp [last_cur h]), if_neg (by simp)]
    · rw [if_neg ht]
      unfold followR
      rw [if_pos ht]
end Go.Proofs.YtkkfilkmkdnboaaDoor
