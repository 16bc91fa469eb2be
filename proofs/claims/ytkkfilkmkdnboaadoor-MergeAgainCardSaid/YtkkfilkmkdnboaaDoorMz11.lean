import Derived.Test.YtkkfilkmkdnboaaDoorMz7
/- Paths, plain: names, what is split off, what is within, what goes aside. -/
set_option linter.unusedSimpArgs false
set_option linter.unnecessarySimpa false
namespace Go.Proofs.YtkkfilkmkdnboaaDoor

/-- The names of a path: what stands between its signs. -/
def namesOf : Str → List Str
  | [] => [[]]
  | c :: s => if c = 47 then [] :: namesOf s else match namesOf s with | [] => [[c]] | n :: l => (c :: n) :: l
/-- Names, and a sign between each two. -/
def pathOf : List Str → Str
  | [] => []
  | [n] => n
  | n :: l => n ++ 47 :: pathOf l

theorem namesOf_ne (p : Str) : namesOf p ≠ [] := by
  cases p with
  | nil => simp [namesOf]
  | cons c s => simp only [namesOf]; split <;> (try split) <;> simp
/-- A path of one name. -/
theorem namesOf_one : ∀ {a : Str}, (47 : UInt8) ∉ a → namesOf a = [a]
  | [], _ => rfl
  | c :: s, h => by
    have hc : c ≠ 47 := fun e => h (by simp [e])
    have hs : (47 : UInt8) ∉ s := fun e => h (by simp [e])
    simp [namesOf, hc, namesOf_one hs]
/-- The first name, and the others. -/
theorem namesOf_cons : ∀ {a : Str} (b : Str), (47 : UInt8) ∉ a → namesOf (a ++ 47 :: b) = a :: namesOf b
  | [], b, _ => by simp [namesOf]
  | c :: s, b, h => by
    have hc : c ≠ 47 := fun e => h (by simp [e])
    have hs : (47 : UInt8) ∉ s := fun e => h (by simp [e])
    simp [namesOf, hc, namesOf_cons b hs]
theorem namesOf_free : ∀ (p : Str), ∀ n, n ∈ namesOf p → (47 : UInt8) ∉ n
  | [], n, h => by simp [namesOf] at h; subst h; simp
  | c :: s, n, h => by
    have ih := namesOf_free s
    simp only [namesOf] at h
    split at h
    · rcases List.mem_cons.1 h with rfl | h
      · simp
      · exact ih n h
    · rename_i hc
      split at h
      · simp at h; subst h; simpa using fun e => hc e.symm
      · rename_i m l hm
        rcases List.mem_cons.1 h with rfl | h
        · have := ih m (by rw [hm]; simp)
          simp only [List.mem_cons, not_or]; exact ⟨fun e => hc e.symm, this⟩
        · exact ih n (by rw [hm]; simp [h])
theorem pathOf_cons {n : Str} {l : List Str} (h : l ≠ []) : pathOf (n :: l) = n ++ 47 :: pathOf l := by
  cases l with
  | nil => exact absurd rfl h
  | cons m l => rfl
theorem path_names : ∀ (p : Str), pathOf (namesOf p) = p
  | [] => rfl
  | c :: s => by
    have ih := path_names s
    have hne := namesOf_ne s
    simp only [namesOf]
    split
    · rename_i hc; subst hc
      rw [pathOf_cons hne, ih]; rfl
    · split
      · rename_i h; exact absurd h hne
      · rename_i n l h
        rw [h] at ih
        cases l with
        | nil => simp only [pathOf] at ih ⊢; rw [ih]
        | cons m l => rw [pathOf_cons (by simp)] at ih ⊢; rw [← ih]; rfl
theorem names_path : ∀ {l : List Str}, l ≠ [] → (∀ n, n ∈ l → (47 : UInt8) ∉ n) → namesOf (pathOf l) = l
  | [], h, _ => absurd rfl h
  | [n], _, hf => namesOf_one (hf n (by simp))
  | n :: m :: l, _, hf => by
    rw [pathOf_cons (by simp), namesOf_cons _ (hf n (by simp)), names_path (by simp) fun x hx => hf x (by simp [hx])]
theorem namesOf_len (p : Str) : (namesOf p).length = p.count 47 + 1 := by
  induction p with
  | nil => rfl
  | cons c s ih =>
    have hne := namesOf_ne s
    simp only [namesOf]
    split
    · rename_i hc; subst hc; simp [ih]
    · rename_i hc
      rw [List.count_cons_of_ne (fun e => hc e)]
      split
      · rename_i h; exact absurd h hne
      · rename_i n l h; rw [h] at ih; exact ih
theorem namesOf_app (a b : Str) : namesOf (a ++ 47 :: b) = namesOf a ++ namesOf b := by
  induction a with
  | nil => simp [namesOf]
  | cons c s ih =>
    have hne := namesOf_ne s
    simp only [List.cons_append, namesOf, ih]
    split
    · rfl
    · split
      · rename_i h; exact absurd (List.append_eq_nil_iff.1 h).1 hne
      · rename_i n l h
        split
        · rename_i h'; exact absurd h' hne
        · rename_i n' l' h'
          rw [h'] at h
          simp only [List.cons_append, List.cons.injEq] at h
          obtain ⟨rfl, rfl⟩ := h; rfl
theorem pathOf_app {a b : List Str} (ha : a ≠ []) (hb : b ≠ []) : pathOf (a ++ b) = pathOf a ++ 47 :: pathOf b := by
  induction a with
  | nil => exact absurd rfl ha
  | cons n l ih =>
    cases l with
    | nil => rw [List.singleton_append, pathOf_cons hb]; rfl
    | cons m l => rw [List.cons_append, pathOf_cons (l := m :: l ++ b) (by simp), ih (by simp), pathOf_cons (n := n) (l := m :: l) (by simp)]; simp
/-- Within: a path's names begin with another one's. -/
theorem names_prefix (p q : Str) : namesOf q <+: namesOf p ↔ p = q ∨ (q ++ [47]) <+: p := by
  constructor
  · rintro ⟨t, ht⟩
    cases t with
    | nil =>
      left
      rw [List.append_nil] at ht
      rw [← path_names p, ← ht, path_names]
    | cons n t =>
      right
      have h := path_names p
      rw [← ht, pathOf_app (namesOf_ne q) (by simp), path_names] at h
      exact ⟨pathOf (n :: t), by rw [List.append_assoc]; exact h⟩
  · rintro (rfl | ⟨t, ht⟩)
    · exact List.prefix_refl _
    · rw [← ht, List.append_assoc]
      exact ⟨namesOf t, by rw [← namesOf_app]; rfl⟩
/-- The place of the last such byte, or -1. -/
def lastIdx (c : UInt8) : Str → Int
  | [] => -1
  | x :: l => if 0 ≤ lastIdx c l then lastIdx c l + 1 else if x = c then 0 else -1
theorem lastIdx_none {c : UInt8} : ∀ {p : Str}, c ∉ p → lastIdx c p = -1
  | [], _ => rfl
  | x :: l, h => by
    have h1 : ¬ x = c := fun e => h (by simp [e])
    have h2 := lastIdx_none (c := c) (p := l) fun e => h (by simp [e])
    simp [lastIdx, h2, h1]
theorem lastIdx_at {c : UInt8} : ∀ {a b : Str}, c ∉ b → lastIdx c (a ++ c :: b) = a.length
  | [], b, h => by simp [lastIdx, lastIdx_none h]
  | x :: a, b, h => by
    have h2 := lastIdx_at (a := a) h
    simp only [List.cons_append, lastIdx, h2, List.length_cons]
    rw [if_pos (by omega)]; omega
theorem split_at {c : UInt8} : ∀ (p : Str), c ∉ p ∨ ∃ a b, p = a ++ c :: b ∧ c ∉ b
  | [] => .inl (by simp)
  | x :: l => by
    rcases split_at (c := c) l with h | ⟨a, b, h1, h2⟩
    · by_cases e : x = c
      · exact .inr ⟨[], l, by simp [e], h⟩
      · exact .inl (by simp only [List.mem_cons, not_or]; exact ⟨fun h => e h.symm, h⟩)
    · exact .inr ⟨x :: a, b, by simp [h1], h2⟩
/-- A search from behind has found the last one. -/
theorem lastIdx_is {c : UInt8} {p : Str} {k : Nat} (hk : k < p.length) (he : p[k] = c) (h : c ∉ p.drop (k + 1)) : lastIdx c p = k := by
  have h1 : p = p.take k ++ c :: p.drop (k + 1) := by rw [← he, ← List.drop_eq_getElem_cons hk, List.take_append_drop]
  rw [h1, lastIdx_at h, List.length_take, Nat.min_eq_left (by omega)]
theorem lastIdx_bd (c : UInt8) (p : Str) : -1 ≤ lastIdx c p ∧ lastIdx c p < p.length := by
  rcases split_at (c := c) p with h | ⟨a, b, h1, h2⟩
  · rw [lastIdx_none h]; omega
  · rw [h1, lastIdx_at h2]; simp; omega

def parentOf (p : Str) : Str := p.take (lastIdx 47 p).toNat
def lastOf (p : Str) : Str := p.drop (lastIdx 47 p + 1).toNat
theorem split_ref (p : Str) : namesOf p = (namesOf p).dropLast ++ [lastOf p] ∧ pathOf (namesOf p).dropLast = parentOf p := by
  rcases split_at (c := 47) p with h | ⟨a, b, h1, h2⟩
  · rw [namesOf_one h, lastOf, parentOf, lastIdx_none h]
    exact ⟨by simp, rfl⟩
  · have h3 := lastIdx_at (a := a) h2
    have h4 : lastOf p = b := by
      rw [lastOf, h1, h3, show ((a.length : Int) + 1).toNat = a.length + 1 from by omega]
      rw [List.drop_append, List.drop_of_length_le (by omega), List.nil_append, show a.length + 1 - a.length = 1 from by omega]; rfl
    have h5 : parentOf p = a := by
      rw [parentOf, h1, h3, show (a.length : Int).toNat = a.length from by omega, List.take_left]
    have h6 : namesOf p = namesOf a ++ [b] := by rw [h1, namesOf_app, namesOf_one h2]
    rw [h4, h5, h6]
    exact ⟨by simp, by simp [path_names]⟩

def tooGreat (p : Str) : Bool := decide (6 < (namesOf p).length) || decide (80 < p.length)
def pathErr (p : Str) : Int := if (namesOf p).all isName then (if tooGreat p then 2 else 0) else 1
theorem tooGreat_count (p : Str) : tooGreat p = (decide (6 ≤ p.count 47) || decide (80 < p.length)) := by
  unfold tooGreat
  rw [namesOf_len]
  congr 1
  simp only [decide_eq_decide]; omega
/-- The first error of some paths. -/
def pathsErr : List Str → Int
  | [] => 0
  | p :: l => if pathErr p = 0 then pathsErr l else pathErr p
def joinOf (p n : Str) : Str := if p = [] then n else p ++ 47 :: n
def inB (p q : Str) : Bool := decide (p = q) || (q ++ [47]).isPrefixOf p
theorem inB_ref (p q : Str) : inB p q = (namesOf q).isPrefixOf (namesOf p) := by
  rw [Bool.eq_iff_iff, List.isPrefixOf_iff_prefix, names_prefix]
  simp [inB]
/-- The path moved, as the document puts it. -/
theorem moved_ref {p f t : Str} (h : inB p f = true) : pathOf (namesOf t ++ (namesOf p).drop (namesOf f).length) = t ++ p.drop f.length := by
  simp only [inB, Bool.or_eq_true, decide_eq_true_eq, List.isPrefixOf_iff_prefix] at h
  rcases h with rfl | ⟨s, rfl⟩
  · rw [List.drop_of_length_le (Nat.le_refl _), List.drop_of_length_le (Nat.le_refl _), List.append_nil, List.append_nil, path_names]
  · rw [List.append_assoc]
    show pathOf (namesOf t ++ (namesOf (f ++ 47 :: s)).drop (namesOf f).length) = _
    rw [namesOf_app, List.drop_left, pathOf_app (namesOf_ne _) (namesOf_ne _), path_names, path_names]
    congr 1
    rw [List.drop_left]; rfl
/-- Blanks behind, struck. -/
def trimR (s : Str) : Str := (s.reverse.dropWhile (· == 32)).reverse
theorem trimR_snoc (s : Str) (c : UInt8) : trimR (s ++ [c]) = if c = 32 then trimR s else s ++ [c] := by
  unfold trimR
  rw [List.reverse_append]
  by_cases h : c = 32
  · simp [h]
  · simp [h, List.dropWhile_cons]
/-- Two digits at the most. -/
def dec2 (n : Int) : Str := if n < 10 then [UInt8.ofNat (48 + n.toNat)] else [UInt8.ofNat (48 + n.toNat / 10), UInt8.ofNat (48 + n.toNat % 10)]
def markOf (n : Int) : Str := [32, 40] ++ dec2 n ++ [41]
/-- What stands behind the last dot of a name, the dot too; what stands ahead of it. -/
def stemOf (s : Str) : Str := if 0 < lastIdx 46 s then s.take (lastIdx 46 s).toNat else s
def endOf (s : Str) : Str := if 0 < lastIdx 46 s then s.drop (lastIdx 46 s).toNat else []
def roomOf (s : Str) (n : Int) : Int := 20 - (markOf n).length - (endOf s).length
def cutOf (s : Str) (n : Int) : Str := if roomOf s n < (stemOf s).length then trimR ((stemOf s).take (roomOf s n).toNat) else stemOf s
def asideQ (p : Str) (n : Int) : Str := joinOf (parentOf p) (cutOf (lastOf p) n ++ markOf n ++ endOf (lastOf p))
/-- Of a path and a number that are right. -/
def asideE (p : Str) (n : Int) : Int := if cutOf (lastOf p) n = [] then 2 else if tooGreat (asideQ p n) then 2 else 0
theorem namesOf_slash (s : Str) : namesOf (s ++ [47]) = namesOf s ++ [[]] := namesOf_app s []
theorem namesOf_snoc {c : UInt8} (h : ¬ c = 47) (s : Str) : namesOf (s ++ [c]) = (namesOf s).dropLast ++ [lastOf s ++ [c]] := by
  rcases split_at (c := 47) s with hs | ⟨a, b, h1, h2⟩
  · have h3 : (47 : UInt8) ∉ s ++ [c] := by simp only [List.mem_append, List.mem_singleton, not_or]; exact ⟨hs, fun e => h e.symm⟩
    rw [namesOf_one h3, namesOf_one hs, lastOf, lastIdx_none hs]; rfl
  · have h3 : (47 : UInt8) ∉ b ++ [c] := by simp only [List.mem_append, List.mem_singleton, not_or]; exact ⟨h2, fun e => h e.symm⟩
    have h4 := (split_ref s).1
    have h5 : namesOf s = namesOf a ++ [b] := by rw [h1, namesOf_app, namesOf_one h2]
    have h6 : lastOf s = b := by
      rw [h5] at h4
      simp only [List.dropLast_concat] at h4
      have := List.append_cancel_left h4
      simpa using this.symm
    rw [h6, h5, h1, List.append_assoc]
    show namesOf (a ++ 47 :: (b ++ [c])) = _
    rw [namesOf_app, namesOf_one h3, List.dropLast_concat]
theorem lastOf_suffix (s : Str) : (lastOf s).length ≤ s.length ∧ s.drop (s.length - (lastOf s).length) = lastOf s := by
  unfold lastOf
  refine ⟨by simp, ?_⟩
  rw [List.length_drop]
  by_cases h : (lastIdx 47 s + 1).toNat ≤ s.length
  · congr 1; omega
  · have := lastIdx_bd 47 s; omega
theorem pathOf_succ {l : List Str} {i : Nat} (h : i < l.length) (h0 : 0 < i) : pathOf (l.take (i + 1)) = pathOf (l.take i) ++ [47] ++ l[i] := by
  rw [List.take_succ_eq_append_getElem h, pathOf_app (by intro e; rw [List.take_eq_nil_iff] at e; rcases e with e | e <;> simp_all) (by simp)]
  simp [pathOf]
theorem pathOf_first {l : List Str} (h : 0 < l.length) : pathOf (l.take 1) = l[0] := by
  cases l with
  | nil => simp at h
  | cons x l => simp [pathOf]
theorem prefix_all {a b : List Str} (hl : b.length ≤ a.length) (h : ∀ k (hk : k < b.length), a[k] = b[k]) : b.isPrefixOf a = true := by
  rw [List.isPrefixOf_iff_prefix, List.prefix_iff_eq_take]
  refine List.ext_getElem (by simp; omega) fun i h1 h2 => ?_
  rw [List.getElem_take]; exact (h i h1).symm
theorem prefix_len {a b : List Str} (hl : ¬ b.length ≤ a.length) : b.isPrefixOf a = false := by
  cases h : b.isPrefixOf a
  · rfl
  · exact absurd (List.isPrefixOf_iff_prefix.1 h).length_le hl
theorem prefix_bad {a b : List Str} {k : Nat} (hl : b.length ≤ a.length) (hk : k < b.length) (h : ¬ a[k] = b[k]) : b.isPrefixOf a = false := by
  cases e : b.isPrefixOf a
  · rfl
  · obtain ⟨t, rfl⟩ := List.isPrefixOf_iff_prefix.1 e
    exact absurd (List.getElem_append_left hk) h
end Go.Proofs.YtkkfilkmkdnboaaDoor
