/- Keys of a map into which texts were put, plain. -/
import Derived.Test.YtdcigjpanpcaaaaAbMap
import Derived.Test.YtdcigjpanpcaaaaTyG
set_option linter.unusedSimpArgs false
namespace Go.Proofs.Ytdcigjpanpcaaaa
open Go.Ab

def yes : AV := .v (.bool true)
def putAll (l : List Str) : List (List UInt8 × AV) := l.foldl (fun m s => mapPut m s yes) []
theorem putAll_snoc (l : List Str) (s : Str) : putAll (l ++ [s]) = mapPut (putAll l) s yes := by simp [putAll]
theorem putAll_pure (l : List Str) : ∀ e, e ∈ putAll l → e.2.pure = true := by
  have : ∀ (l : List Str) m, (∀ e, e ∈ m → e.2.pure = true) → ∀ e, e ∈ l.foldl (fun m s => mapPut m s yes) m → e.2.pure = true := by
    intro l
    induction l with
    | nil => exact fun m h => h
    | cons s l ih =>
      intro m h
      refine ih _ ?_
      intro e he
      simp only [mapPut] at he
      split at he
      · rcases List.mem_or_eq_of_mem_set he with h1 | rfl
        · exact h e h1
        · rfl
      · rcases List.mem_append.1 he with h1 | h1
        · exact h e h1
        · obtain rfl := List.mem_singleton.1 h1
          rfl
  exact this l [] (by simp)
theorem mapPut_keys (m : List (List UInt8 × AV)) (s : Str) (x : AV) : (mapPut m s x).map (·.1) = if s ∈ m.map (·.1) then m.map (·.1) else m.map (·.1) ++ [s] := by
  unfold mapPut
  cases h : m.findIdx? (fun e => e.1 == s) with
  | none =>
    rw [List.findIdx?_eq_none_iff] at h
    rw [if_neg]
    · simp
    · intro hs
      obtain ⟨e, he, rfl⟩ := List.mem_map.1 hs
      have := h e he
      simp at this
  | some j =>
    obtain ⟨hj, h1, _⟩ := List.findIdx?_eq_some_iff_getElem.1 h
    have h1 : m[j].1 = s := by simpa using h1
    rw [if_pos (List.mem_map.2 ⟨m[j], List.getElem_mem _, h1⟩)]
    simp only [List.map_set]
    rw [← h1]
    have : m[j].1 = (m.map (·.1))[j]'(by simpa using hj) := by simp
    rw [this, List.set_getElem_self]
theorem putAll_keys (l : List Str) : ((putAll l).map (·.1)).Nodup ∧ ∀ s, s ∈ (putAll l).map (·.1) ↔ s ∈ l := by
  have : ∀ (l : List Str) m, (m.map (·.1)).Nodup → ((l.foldl (fun m s => mapPut m s yes) m).map (·.1)).Nodup ∧ ∀ s, s ∈ (l.foldl (fun m s => mapPut m s yes) m).map (·.1) ↔ s ∈ m.map (·.1) ∨ s ∈ l := by
    intro l
    induction l with
    | nil => intro m h; exact ⟨h, fun s => by simp⟩
    | cons a l ih =>
      intro m h
      have hk := mapPut_keys m a yes
      have hn : ((mapPut m a yes).map (·.1)).Nodup := by
        rw [hk]
        split
        · exact h
        · rename_i hna
          rw [List.nodup_append]
          exact ⟨h, by simp, fun x hx y hy => by rw [List.mem_singleton.1 hy]; rintro rfl; exact hna hx⟩
      refine ⟨(ih _ hn).1, fun s => ?_⟩
      rw [List.foldl_cons, (ih _ hn).2 s, hk]
      split
      · rename_i ha
        constructor
        · rintro (h | h)
          · exact .inl h
          · exact .inr (by simp [h])
        · rintro (h | h)
          · exact .inl h
          · rcases List.mem_cons.1 h with rfl | h
            · exact .inl ha
            · exact .inr h
      · simp only [List.mem_append, List.mem_singleton, List.mem_cons, or_assoc, List.not_mem_nil, false_or]
  have h := this l [] (by simp)
  exact ⟨h.1, fun s => by rw [show putAll l = l.foldl (fun m s => mapPut m s yes) [] from rfl, h.2 s]; simp⟩
theorem nodup_sub {α : Type} [DecidableEq α] : ∀ (a b : List α), a.Nodup → a ⊆ b → a.length ≤ b.length ∧ (a.length = b.length → b.Nodup → b ⊆ a)
  | [], b, _, _ => ⟨by simp, fun h _ => by rw [List.length_nil] at h; rw [List.eq_nil_of_length_eq_zero h.symm]; simp⟩
  | x :: a, b, hn, hs => by
    have hx : x ∈ b := hs (by simp)
    rw [List.nodup_cons] at hn
    have hs' : a ⊆ b.erase x := fun y hy => by
      have hyx : y ≠ x := by rintro rfl; exact hn.1 hy
      exact (List.mem_erase_of_ne hyx).2 (hs (by simp [hy]))
    have hl := List.length_erase_of_mem hx
    have hp := List.length_pos_of_mem hx
    obtain ⟨h1, h2⟩ := nodup_sub a (b.erase x) hn.2 hs'
    refine ⟨by simp; omega, fun he hb y hy => ?_⟩
    by_cases hyx : y = x
    · simp [hyx]
    · have := h2 (by simp at he; omega) (hb.erase x) ((List.mem_erase_of_ne hyx).2 hy)
      simp [this]
/-- As many owned folders as folders: each has an owner. -/
theorem putAll_len {a b : List Str} (h : a ⊆ b) : (putAll a).length = (putAll b).length ↔ b ⊆ a := by
  have ha := putAll_keys a
  have hb := putAll_keys b
  have hsub : (putAll a).map (·.1) ⊆ (putAll b).map (·.1) := fun s hs => (hb.2 s).2 (h ((ha.2 s).1 hs))
  have h1 := nodup_sub _ _ ha.1 hsub
  constructor
  · intro he s hs
    exact (ha.2 s).1 (h1.2 (by simpa using he) hb.1 ((hb.2 s).2 hs))
  · intro hba
    have hsub' : (putAll b).map (·.1) ⊆ (putAll a).map (·.1) := fun s hs => (ha.2 s).2 (hba ((hb.2 s).1 hs))
    have h2 := nodup_sub _ _ hb.1 hsub'
    have := h1.1; have := h2.1
    simp at *; omega

def ownsIn (l : List Gra) (f : Str) : Bool := l.any fun h => decide (h.folder = f) && decide (h.right = 3)
def ownedB (l : List Gra) : Bool := l.all fun g => ownsIn l g.folder
def allM (l : List Gra) : List (List UInt8 × AV) := putAll (l.map (·.folder))
def ownM (l : List Gra) : List (List UInt8 × AV) := putAll ((l.filter (fun g => decide (g.right = 3))).map (·.folder))
theorem ownedB_len (l : List Gra) : decide ((ownM l).length = (allM l).length) = ownedB l := by
  have hsub : (l.filter (fun g => decide (g.right = 3))).map (·.folder) ⊆ l.map (·.folder) := by
    intro s hs
    obtain ⟨g, hg, rfl⟩ := List.mem_map.1 hs
    exact List.mem_map.2 ⟨g, (List.mem_filter.1 hg).1, rfl⟩
  rw [Bool.eq_iff_iff, decide_eq_true_iff, ownM, allM, putAll_len hsub, ownedB, List.all_eq_true]
  constructor
  · intro h g hg
    obtain ⟨g', hg', he⟩ := List.mem_map.1 (h (List.mem_map.2 ⟨g, hg, rfl⟩))
    have := List.mem_filter.1 hg'
    exact List.any_eq_true.2 ⟨g', this.1, by simp [he, of_decide_eq_true this.2]⟩
  · intro h s hs
    obtain ⟨g, hg, rfl⟩ := List.mem_map.1 hs
    obtain ⟨g', hg', he⟩ := List.any_eq_true.1 (h g hg)
    simp only [Bool.and_eq_true, decide_eq_true_eq] at he
    exact List.mem_map.2 ⟨g', List.mem_filter.2 ⟨hg', by simp [he.2]⟩, he.1⟩
theorem allM_succ {l : List Gra} {i : Nat} (h : i < l.length) : allM (l.take (i + 1)) = mapPut (allM (l.take i)) l[i].folder yes := by
  rw [allM, List.take_succ_eq_append_getElem h, List.map_append]; exact putAll_snoc _ _
theorem ownM_yes {l : List Gra} {i : Nat} (h : i < l.length) (h3 : l[i].right = 3) : ownM (l.take (i + 1)) = mapPut (ownM (l.take i)) l[i].folder yes := by
  rw [ownM, List.take_succ_eq_append_getElem h, List.filter_append, List.map_append, List.filter_cons_of_pos (by simp [h3])]; exact putAll_snoc _ _
theorem ownM_no {l : List Gra} {i : Nat} (h : i < l.length) (h3 : ¬ l[i].right = 3) : ownM (l.take (i + 1)) = ownM (l.take i) := by
  rw [ownM, List.take_succ_eq_append_getElem h, List.filter_append, List.map_append, List.filter_cons_of_neg (by simp [h3])]; simp [ownM]
end Go.Proofs.Ytdcigjpanpcaaaa
