/- The abstract layer, 20: a row of our memory under a new name, its last rows told no more. -/
import Derived.Test.YtieflafgcajhbaaDoorAbX4
set_option linter.unusedSimpArgs false
set_option linter.unusedVariables false
namespace Go.Ab
open Go.RowKit

theorem rowsAt_take {F : Still} {ρ : Places} {c : Array Value} {k m : Nat} {rows : List (List AV)} (h : RowsAt F ρ c k rows) : RowsAt F ρ c k (rows.take m) := by
  refine ⟨fun row hr => h.1 row (List.mem_of_mem_take hr), fun i j row x v hi hj hv => ?_⟩
  rw [List.getElem?_take] at hi
  split at hi
  · exact h.2 i j row x v hi hj hv
  · cases hi
theorem ownAt_take {F : Still} {ρ : Places} {w : World} {n k m : Nat} {ex : Bool} {rows : List (List AV)} (h : OwnAt F ρ w n (.own ex k rows)) : OwnAt F ρ w n (.own false k (rows.take m)) := by
  rcases h with ⟨h1, h2⟩ | ⟨b, cap, c, e, h1, h2, h3, h4, h5, h6⟩
  · subst h2; exact .inl ⟨h1, by simp⟩
  · exact .inr ⟨b, cap, c, e, h1, h2, h3, by simp; omega, (fun h => by cases h), rowsAt_take h6⟩

/-- The last rows are told no more. -/
theorem red_cut {C : Cx} {ts : List (Nat × AV)} {hs : List (Nat × HB)} {nx : Nat} (n m : Nat) {ex : Bool} {k : Nat} {rows rows' : List (List AV)} (hn : getH hs n = .own ex k rows) (hr : rows.take m = rows') : Red C ⟨ts, hs, nx⟩ ⟨ts, (n, .own false k rows') :: hs, nx⟩ := by
  intro B a w hB ⟨g1, g2, F, ρ, hp, g4⟩
  have hiso : ∀ m, (getH ((n, .own false k rows') :: hs) m).isOwn = true → (getH hs m).isOwn = true := by
    intro m hm
    rw [getH_cons] at hm
    by_cases e : n = m
    · subst e; rw [hn]; rfl
    · rw [if_neg e] at hm; exact hm
  refine ⟨g1, g2, F, ρ, ?_, g4⟩
  refine { kept := hp.kept, agree := hp.agree, grow := hp.grow, fresh := hp.fresh, names := hp.names, dom := hp.dom, own := fun m => ?_, new := fun m b c ho hm => hp.new m b c (hiso m ho) hm, sep := fun m m' b c c' hne ho ho' => hp.sep m m' b c c' hne (hiso m ho) (hiso m' ho') }
  show OwnAt F ρ w m (getH ((n, _) :: hs) m)
  rw [getH_cons]
  by_cases e : n = m
  · subst e
    rw [if_pos rfl, ← hr]
    have := hp.own n
    rw [show getH (⟨ts, hs, nx⟩ : St).hs n = .own ex k rows from hn] at this
    exact ownAt_take this
  · rw [if_neg e]; exact hp.own m

/-- A row of our memory under a new name; its last rows are told no more. -/
theorem red_move {C : Cx} {ts : List (Nat × AV)} {hs : List (Nat × HB)} {nx : Nat} (i n m : Nat) {off len : Nat} {ex : Bool} {k : Nat} {rows rows' : List (List AV)} (hi : getT ts i = .os n off len) (hn : getH hs n = .own ex k rows) (hr : rows.take m = rows') (hnn : n ≠ nx) (hnx : C.nh ≤ nx) :
    Red C ⟨ts, hs, nx⟩ ⟨(i, .os nx off len) :: ts, (nx, .own false k rows') :: (n, .dead) :: hs, nx + 1⟩ := by
  intro B a w hB ⟨g1, g2, F, ρ, hp, g4⟩
  let ρ' : Places := fun n' => if n' = nx then ρ n else ρ n'
  have hnone : ρ nx = none := by
    cases h : ρ nx with
    | none => rfl
    | some c => exact absurd (hp.dom nx (by rw [h]; simp)) (Nat.lt_irrefl _)
  have hle : ρ.le ρ' := fun n' c hn => by
    simp only [ρ']
    by_cases e : n' = nx
    · subst e; rw [hnone] at hn; cases hn
    · rw [if_neg e]; exact hn
  have hown0 : OwnAt F ρ w n (.own ex k rows) := by
    have := hp.own n
    rw [show getH (⟨ts, hs, nx⟩ : St).hs n = .own ex k rows from hn] at this
    exact this
  have hnr : ρ' nx = ρ n := by simp [ρ']
  have hget : ∀ x, getH ((nx, .own false k rows') :: (n, .dead) :: hs) x = if nx = x then .own false k rows' else if n = x then .dead else getH hs x := fun x => by rw [getH_cons, getH_cons]
  have hwas : ∀ x, (getH ((nx, .own false k rows') :: (n, .dead) :: hs) x).isOwn = true → ∃ y, (getH hs y).isOwn = true ∧ ρ' x = ρ y ∧ ((x = nx ∧ y = n) ∨ (x ≠ nx ∧ x ≠ n ∧ y = x)) := by
    intro x hx
    rw [hget] at hx
    by_cases e : nx = x
    · subst e; exact ⟨n, by rw [hn]; rfl, hnr, .inl ⟨rfl, rfl⟩⟩
    · rw [if_neg e] at hx
      by_cases e2 : n = x
      · rw [if_pos e2] at hx; cases hx
      · rw [if_neg e2] at hx
        exact ⟨x, hx, by simp only [ρ']; rw [if_neg (fun h => e h.symm)], .inr ⟨fun h => e h.symm, fun h => e2 h.symm, rfl⟩⟩
  refine ⟨g1, g2, F, ρ', ?_, fun j => ?_⟩
  · refine { kept := hp.kept, agree := hp.agree, grow := hp.grow, fresh := hp.fresh, names := fun n' c hn' => hle n' c (hp.names n' c hn'), dom := fun n' hn' => ?_, own := fun x => ?_, new := fun x b c ho hx => ?_, sep := fun x z b c c' hne ho ho' hx hz => ?_ }
    · simp only [ρ'] at hn'
      show n' < nx + 1
      by_cases e : n' = nx
      · omega
      · rw [if_neg e] at hn'; have : n' < nx := hp.dom n' hn'; omega
    · show OwnAt F ρ' w x (getH ((nx, .own false k rows') :: (n, .dead) :: hs) x)
      rw [hget]
      by_cases e : nx = x
      · subst e
        rw [if_pos rfl]
        have h1 := ownAt_take (m := m) hown0
        rw [hr] at h1
        rcases h1 with ⟨h1, h2⟩ | ⟨b, cap, c, e', h1, h2, h3, h4, h5, h6⟩
        · exact .inl ⟨hnr.trans h1, h2⟩
        · exact .inr ⟨b, cap, c, e', hnr.trans h1, h2, h3, h4, h5, h6.mono (Still.le_refl _) hle⟩
      · rw [if_neg e]
        by_cases e2 : n = x
        · rw [if_pos e2]; trivial
        · rw [if_neg e2]
          have h0 : OwnAt F ρ w x (getH hs x) := hp.own x
          cases e1 : getH hs x with
          | dead => trivial
          | fz rows' =>
            rw [e1] at h0
            rcases h0 with ⟨h1, h2⟩ | ⟨b, k', cap, c, e', fr, h1, h2, h3⟩
            · exact .inl ⟨hle _ _ h1, h2⟩
            · exact .inr ⟨b, k', cap, c, e', fr, hle _ _ h1, h2, h3⟩
          | mp l =>
            rw [e1] at h0
            obtain ⟨b, es, clock, h1, h2, h3⟩ := h0
            exact ⟨b, es, clock, hle _ _ h1, h2, h3.mono (Still.le_refl _) hle⟩
          | own ex' k' rows' =>
            rw [e1] at h0
            rcases h0 with ⟨h1, h2⟩ | ⟨b, cap, c, e', h1, h2, h3, h4, h5, h6⟩
            · exact .inl ⟨hle _ _ h1, h2⟩
            · exact .inr ⟨b, cap, c, e', hle _ _ h1, h2, h3, h4, h5, h6.mono (Still.le_refl _) hle⟩
    · obtain ⟨y, h1, h2, _⟩ := hwas x ho
      rw [h2] at hx
      exact hp.new y b c h1 hx
    · obtain ⟨y, h1, h2, h3⟩ := hwas x ho
      obtain ⟨u, h4, h5, h6⟩ := hwas z ho'
      rw [h2] at hx; rw [h5] at hz
      refine hp.sep y u b c c' ?_ h1 h4 hx hz
      rcases h3 with ⟨rfl, rfl⟩ | ⟨a1, a2, rfl⟩ <;> rcases h6 with ⟨rfl, rfl⟩ | ⟨b1, b2, rfl⟩
      · exact absurd rfl hne
      · exact fun h => b2 h.symm
      · exact a2
      · exact hne
  · show M F ρ' _ (getT ((i, _) :: ts) j)
    rw [getT_cons]
    by_cases e : i = j
    · subst e
      rw [if_pos rfl]
      have h1 : M F ρ _ (getT ts i) := g4 i
      rw [hi] at h1
      exact (ren_os (L := [(n, nx)]) (nh := 0) (.inr (by simp))) F ρ ρ' _ (fun a b hm c hc => by
        rcases hm with ⟨h, _⟩ | h
        · exact absurd h (Nat.not_lt_zero _)
        · simp only [List.mem_singleton, Prod.mk.injEq] at h
          rw [h.2, hnr, ← h.1]; exact hc) h1
    · rw [if_neg e]; exact (g4 j).mono (Still.le_refl _) hle
theorem fin_move {C : Cx} {rs : Array ResultVar} {r : AV} {H' : List HB} {ts : List (Nat × AV)} {hs : List (Nat × HB)} {nx : Nat} (i n m : Nat) {off len : Nat} {ex : Bool} {k : Nat} {rows rows' : List (List AV)} (hi : getT ts i = .os n off len) (hn : getH hs n = .own ex k rows) (hr : rows.take m = rows') (hnn : n ≠ nx) (hnx : C.nh ≤ nx)
    (h : Fin C rs C.nh r H' ⟨(i, .os nx off len) :: ts, (nx, .own false k rows') :: (n, .dead) :: hs, nx + 1⟩) : Fin C rs C.nh r H' ⟨ts, hs, nx⟩ := fin_red (red_move i n m hi hn hr hnn hnx) h
theorem fin_cut {C : Cx} {rs : Array ResultVar} {r : AV} {H' : List HB} {ts : List (Nat × AV)} {hs : List (Nat × HB)} {nx : Nat} (n m : Nat) {ex : Bool} {k : Nat} {rows rows' : List (List AV)} (hn : getH hs n = .own ex k rows) (hr : rows.take m = rows')
    (h : Fin C rs C.nh r H' ⟨ts, (n, .own false k rows') :: hs, nx⟩) : Fin C rs C.nh r H' ⟨ts, hs, nx⟩ := fin_red (red_cut n m hn hr) h
end Go.Ab
