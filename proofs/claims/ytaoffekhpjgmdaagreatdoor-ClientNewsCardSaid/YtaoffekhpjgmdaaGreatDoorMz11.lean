import Derived.Test.YtaoffekhpjgmdaaGreatDoorMz0
/- Paths, plain: names, what is split off, what is within, what goes aside. -/
set_option linter.unusedSimpArgs false
set_option linter.unnecessarySimpa false
namespace Go.Proofs.YtaoffekhpjgmdaaGreatDoor

/-- The names of a path: what stands between its signs. -/
def namesOf : Str → List Str
  | [] => [[]]
  | c :: s => if c = 47 then [] :: namesOf s else match namesOf s with | [] => [[c]] | n :: l => (c :: n) :: l
/-- Names, and a sign between each two. -/
def pathOf : List Str → Str
  | [] => []
  | [n] => n
  | n :: l => n ++ 47 :: pathOf l

theorem namesOf_ne (p : Str) : namesOf p ≠ [] := by
  cases p with
  | nil => simp [namesOf]
  | cons c s => simp only [namesOf]; split <;> (try split) <;> simp
/-- A path of one name. -/
theorem namesOf_one : ∀ {a : Str}, (47 : UInt8) ∉ a → namesOf a = [a]
  | [], _ => rfl
  | c :: s, h => by
    have hc : c ≠ 47 := fun e => h (by simp [e])
    have hs : (47 : UInt8) ∉ s := fun e => h (by simp [e])
    simp [namesOf, hc, namesOf_one hs]
/-- The first name, and the others. -/
theorem namesOf_cons : ∀ {a : Str} (b : Str), (47 : UInt8) ∉ a → namesOf (a ++ 47 :: b) = a :: namesOf b
  | [], b, _ => by simp [namesOf]
  | c :: s, b, h => by
    have hc : c ≠ 47 := fun e => h (by simp [e])
    have hs : (47 : UInt8) ∉ s := fun e => h (by simp [e])
    simp [namesOf, hc, namesOf_cons b hs]
theorem namesOf_free : ∀ (p : Str), ∀ n, n ∈ namesOf p → (47 : UInt8) ∉ n
  | [], n, h => by simp [namesOf] at h; subst h; simp
  | c :: s, n, h => by
    have ih := namesOf_free s
    simp only [namesOf] at h
    split at h
    · rcases List.mem_cons.1 h with rfl | h
      · simp
      · exact ih n h
    · rename_i hc
      split at h
      · simp at h; subst h; simpa using fun e => hc e.symm
      · rename_i m l hm
        rcases List.mem_cons.1 h with rfl | h
        · have := ih m (by rw [hm]; simp)
          simp only [List.mem_cons, not_or]; exact ⟨fun e => hc e.symm, this⟩
        · exact ih n (by rw [hm]; simp [h])
theorem pathOf_cons {n : Str} {l : List Str} (h : l ≠ []) : pathOf (n :: l) = n ++ 47 :: pathOf l := by
  cases l with
  | nil => exact absurd rfl h
  | cons m l => rfl
theorem path_names : ∀ (p : Str), pathOf (namesOf p) = p
  | [] => rfl
  | c :: s => by
    have ih := path_names s
    have hne := namesOf_ne s
    simp only [namesOf]
    split
    · rename_i hc; subst hc
      rw [pathOf_cons hne, ih]; rfl
    · split
      · rename_i h; exact absurd h hne
      · rename_i n l h
        rw [h] at ih
        cases l with
        | nil => simp only [pathOf] at ih ⊢; rw [ih]
        | cons m l => rw [pathOf_cons (by simp)] at ih ⊢; rw [← ih]; rfl
theorem names_path : ∀ {l : List Str}, l ≠ [] → (∀ n, n ∈ l → (47 : UInt8) ∉ n) → namesOf (pathOf l) = l
  | [], h, _ => absurd rfl h
  | [n], _, hf => namesOf_one (hf n (by simp))
  | n :: m :: l, _, hf => by
    rw [pathOf_cons (by simp), namesOf_cons _ (hf n (by simp)), names_path (by simp) fun x hx => hf x (by simp [hx])]
theorem namesOf_len (p : Str) : (namesOf p).length = p.count 47 + 1 := by
  induction p with
  | nil => rfl
  | cons c s ih =>
    have hne := namesOf_ne s
    simp only [namesOf]
    split
    · rename_i hc; subst hc; simp [ih]
    · rename_i hc
      rw [List.count_cons_of_ne (fun e => hc e)]
      split
      · rename_i h; exact absurd h hne
      · rename_i n l h; rw [h] at ih; exact ih
theorem namesOf_app (a b : Str) : namesOf (a ++ 47 :: b) = namesOf a ++ namesOf b := by
  induction a with
  | nil => simp [namesOf]
  | cons c s ih =>
    have hne := namesOf_ne s
    simp only [List.cons_append, namesOf, ih]
    split
    · rfl
    · split
      · rename_i h; exact absurd (List.append_eq_nil_iff.1 h).1 hne
      · rename_i n l h
        split
        · rename_i h'; exact absurd h' hne
        · rename_i n' l' h'
          rw [h'] at h
          simp only [List.cons_append, List.cons.injEq] at h
          obtain ⟨rfl, rfl⟩ := h; rfl
theorem pathOf_app {a b : List Str} (ha : a ≠ []) (hb : b ≠ []) : pathOf (a ++ b) = pathOf a ++ 47 :: pathOf b := by
  induction a with
  | nil => exact absurd rfl ha
  | cons n l ih =>
    cases l with
    | nil => rw [List.singleton_append, pathOf_cons hb]; rfl
    | cons m l => rw [List.cons_append, pathOf_cons (l := m :: l ++ b) (by simp), ih (by simp), pathOf_cons (n := n) (l := m :: l) (by simp)]; simp
/-- Within: a path's names begin with another one's. -/
theorem names_prefix (p q : Str) : namesOf q <+: namesOf p ↔ p = q ∨ (q ++ [47]) <+: p := by
  constructor
  · rintro ⟨t, ht⟩
    cases t with
    | nil =>
      left
      rw [List.append_nil] at ht
      rw [← path_names p, ← ht, path_names]
    | cons n t =>
      right
      have h := path_names p
      rw [← ht, pathOf_app (namesOf_ne q) (by simp), path_names] at h
      exact ⟨pathOf (n :: t), by rw [List.append_assoc]; exact h⟩
  · rintro (rfl | ⟨t, ht⟩)
    · exact List.prefix_refl _
    · rw [← ht, List.append_assoc]
      exact ⟨namesOf t, by rw [← namesOf_app]; rfl⟩
/-- The place of the last such byte, or -1. -/
def lastIdx (c : UInt8) : Str → Int
  | [] => -1
  | x :: l => if 0 ≤ lastIdx c l then lastIdx c l + 1 else if x = c then 0 else -1
theorem lastIdx_none {c : UInt8} : ∀ {p : Str}, c ∉ p → lastIdx c p = -1
  | [], _ => rfl
  | x :: l, h => by
    have h1 : ¬ x = c := fun e => h (by simp [e])
    have h2 := lastIdx_none (c := c) (p := l) fun e => h (by simp [e])
    simp [lastIdx, h2, h1]
theorem lastIdx_at {c : UInt8} : ∀ {a b : Str}, c ∉ b → lastIdx c (a ++ c :: b) = a.length
  | [], b, h => by simp [lastIdx, lastIdx_none h]
  | x :: a, b, h => by
    have h2 := lastIdx_at (a := a) h
    simp only [List.cons_append, lastIdx, h2, List.length_cons]
    rw [if_pos (by omega)]; omega
theorem split_at {c : UInt8} : ∀ (p : Str), c ∉ p ∨ ∃ a b, p = a ++ c :: b ∧ c ∉ b
  | [] => .inl (by simp)
  | x :: l => by
    rcases split_at (c := c) l with h | ⟨a, b, h1, h2⟩
    · by_cases e : x = c
      · exact .inr ⟨[], l, by simp [e], h⟩
      · exact .inl (by simp only [List.mem_cons, not_or]; exact ⟨fun h => e h.symm, h⟩)
    · exact .inr ⟨x :: a, b, by simp [h1], h2⟩
/-- A search from behind has found the last one. -/
theorem lastIdx_is {c : UInt8} {p : Str} {k : Nat} (hk : k < p.length) (he : p[k] = c) (h : c ∉ p.drop (k + 1)) : lastIdx c p = k := by
  have h1 : p = p.take k ++ c :: p.drop (k + 1) := by rw [← he, ← List.drop_eq_getElem_cons hk, List.take_append_drop]
  rw [h1, lastIdx_at h, List.length_take, Nat.min_eq_left (by omega)]
theorem lastIdx_bd (c : UInt8) (p : Str) : -1 ≤ lastIdx c p ∧ lastIdx c p < p.length := by
  rcases split_at (c := c) p with h | ⟨a, b, h1, h2⟩
  · rw [lastIdx_none h]; omega
  · rw [h1, lastIdx_at h2]; simp; omega

def parentOf (p : Str) : Str := p.take (lastIdx 47 p).toNat
def lastOf (p : Str) : Str := p.drop (lastIdx 47 p + 1).toNat
theorem split_ref (p : Str) : namesOf p = (namesOf p).dropLast ++ [lastOf p] ∧ pathOf (namesOf p).dropLast = parentOf p := by
  rcases split_at (c := 47) p with h | ⟨a, b, h1, h2⟩
  · rw [namesOf_one h, lastOf, parentOf, lastIdx_none h]
    exact ⟨by simp, rfl⟩
  · have h3 := lastIdx_at (a := a) h2
    have h4 : lastOf p = b := by
      rw [lastOf, h1, h3, show ((a.length : Int) + 1).toNat = a.length + 1 from by omega]
      rw [List.drop_append, List.drop_of_length_le (by omega), List.nil_append, show a.length + 1 - a.length = 1 from by omega]; rfl
    have h5 : parentOf p = a := by
      rw [parentOf, h1, h3, show (a.length : Int).toNat = a.length from by omega, List.take_left]
    have h6 : namesOf p = namesOf a ++ [b] := by rw [h1, namesOf_app, namesOf_one h2]
    rw [h4, h5, h6]
    exact ⟨by simp, by simp [path_names]⟩

def tooGreat (p : Str) : Bool := decide (6 < (namesOf p).length) || decide (80 < p.length)
def pathErr (p : Str) : Int := if (namesOf p).all isName then (if tooGreat p then 2 else 0) else 1
theorem tooGreat_count (p : Str) : tooGreat p = (decide (6 ≤ p.count 47) || decide (80 < p.length)) := by
  unfold tooGreat
  rw [namesOf_len]
  congr 1
  simp only [decide_eq_decide]; omega
/-- The first error of some paths. -/
def pathsErr : List Str → Int
  | [] => 0
  | p :: l => if pathErr p = 0 then pathsErr l else pathErr p
def joinOf (p n : Str) : Str := if p = [] then n else p ++ 47 :: n
def inB (p q : Str) : Bool := decide (p = q) || (q ++ [47]).isPrefixOf p
theorem inB_ref (p q : Str) : inB p q = (namesOf q).isPrefixOf (namesOf p) := by
  rw [Bool.eq_iff_iff, List.isPrefixOf_iff_prefix, names_prefix]
  simp [inB]
/-- The path moved, as the document puts it. -/
theorem moved_ref {p f t : Str} (h : inB p f = true) : pathOf (namesOf t ++ (namesOf p).drop (namesOf f).length) = t ++ p.drop f.length := by
  simp only [inB, Bool.or_eq_true, decide_eq_true_eq, List.isPrefixOf_iff_prefix] at h
  rcases h with rfl | ⟨s, rfl⟩
  · rw [List.drop_of_length_le (Nat.le_refl _), List.drop_of_length_le (Nat.le_refl _), List.append_nil, List.append_nil, path_names]
  · rw [List.append_assoc]
    show pathOf (namesOf t ++ (namesOf (f ++ 47 :: s)).drop (namesOf f).length) = _
    rw [namesOf_app, List.drop_left, pathOf_app (namesOf_ne _) (namesOf_ne _), path_names, path_names]
    congr 1
    rw [List.drop_left]; rfl
/-- Blanks behind, struck. -/
def trimR (s : Str) : Str := (s.reverse.dropWhile (· == 32)).reverse
theorem trimR_snoc (s : Str) (c : UInt8) : trimR (s ++ [c]) = if c = 32 then trimR s else s ++ [c] := by
  unfold trimR
  rw [List.reverse_append]
  by_cases h : c = 32
  · simp [h]
  · simp [h, List.dropWhile_cons]
/-- Two digits at the most. -/
def dec2 (n : Int) : Str := if n < 10 then [UInt8.ofNat (48 + n.toNat)] else [UInt8.ofNat (48 + n.toNat / 10), UInt8.ofNat (48 + n.toNat % 10)]
def markOf (n : Int) : Str := [32, 40] ++ dec2 n ++ [41]
/-- What stands behind the last dot of a name, the dot too; what stands ahead of it. -/
def stemOf (s : Str) : Str := if 0 < lastIdx 46 s then s.take (lastIdx 46 s).toNat else s
def endOf (s : Str) : Str := if 0 < lastIdx 46 s then s.drop (lastIdx 46 s).toNat else []
def roomOf (s : Str) (n : Int) : Int := 20 - (markOf n).length - (endOf s).length
def cutOf (s : Str) (n : Int) : Str := if roomOf s n < (stemOf s).length then trimR ((stemOf s).take (roomOf s n).toNat) else stemOf s
def asideQ (p : Str) (n : Int) : Str := joinOf (parentOf p) (cutOf (lastOf p) n ++ markOf n ++ endOf (lastOf p))
/-- Of a path and a number that are right. -/
def asideE (p : Str) (n : Int) : Int := if cutOf (lastOf p) n = [] then 2 else if tooGreat (asideQ p n) then 2 else 0
theorem namesOf_slash (s : Str) : namesOf (s ++ [47]) = namesOf s ++ [[]] := namesOf_app s []
theorem namesOf_snoc {c : UInt8} (h : ¬ c = 47) (s : Str) : namesOf (s ++ [c]) = (namesOf s).dropLast ++ [lastOf s ++ [c]] := by
  rcases split_at (c := 47) s with hs | ⟨a, b, h1, h2⟩
  · have h3 : (47 : UInt8) ∉ s ++ [c] := by simp only [List.mem_append, List.mem_singleton, not_or]; exact ⟨hs, fun e => h e.symm⟩
    rw [namesOf_one h3, namesOf_one hs, lastOf, lastIdx_none hs]; rfl
  · have h3 : (47 : UInt8) ∉ b ++ [c] := by simp only [List.mem_append, List.mem_singleton, not_or]; exact ⟨h2, fun e => h e.symm⟩
    have h4 := (split_ref s).1
    have h5 : namesOf s = namesOf a ++ [b] := by rw [h1, namesOf_app, namesOf_one h2]
    have h6 : lastOf s = b := by
      rw [h5] at h4
      simp only [List.dropLast_concat] at h4
      have := List.append_cancel_left h4
      simpa using this.symm
    rw [h6, h5, h1, List.append_assoc]
    show namesOf (a ++ 47 :: (b ++ [c])) = _
    rw [namesOf_app, namesOf_one h3, List.dropLast_concat]
theorem lastOf_suffix (s : Str) : (lastOf s).length ≤ s.length ∧ s.drop (s.length - (lastOf s).length) = lastOf s := by
  unfold lastOf
  refine ⟨by simp, ?_⟩
  rw [List.length_drop]
  by_cases h : (lastIdx 47 s + 1).toNat ≤ s.length
  · congr 1; omega
  · have := lastIdx_bd 47 s; omega
theorem pathOf_succ {l : List Str} {i : Nat} (h : i < l.length) (h0 : 0 < i) : pathOf (l.take (i + 1)) = pathOf (l.take i) ++ [47] ++ l[i] := by
  rw [List.take_succ_eq_append_getElem h, pathOf_app (by intro e; rw [List.take_eq_nil_iff] at e; rcases e with e | e <;> simp_all) (by simp)]
  simp [pathOf]
theorem pathOf_first {l : List Str} (h : 0 < l.length) : pathOf (l.take 1) = l[0] := by
  cases l with
  | nil => simp at h
  | cons x l => simp [pathOf]
theorem prefix_all {a b : List Str} (hl : b.length ≤ a.length) (h : ∀ k (hk : k < b.length), a[k] = b[k]) : b.isPrefixOf a = true := by
  rw [List.isPrefixOf_iff_prefix, List.prefix_iff_eq_take]
  refine List.ext_getElem (by simp; omega) fun i h1 h2 => ?_
  rw [List.getElem_take]; exact (h i h1).symm
theorem prefix_len {a b : List Str} (hl : ¬ b.length ≤ a.length) : b.isPrefixOf a = false := by
  cases h : b.isPrefixOf a
  · rfl
  · exact absurd (List.isPrefixOf_iff_prefix.1 h).length_le hl
theorem prefix_bad {a b : List Str} {k : Nat} (hl : b.length ≤ a.length) (hk : k < b.length) (h : ¬ a[k] = b[k]) : b.isPrefixOf a = false := by
  cases e : b.isPrefixOf a
  · rfl
  · obtain ⟨t, rfl⟩ := List.isPrefixOf_iff_prefix.1 e
    exact absurd (List.getElem_append_left hk) h
end Go.Proofs.YtaoffekhpjgmdaaGreatDoor

/- Searches of a list, plain. -/
set_option linter.unusedSimpArgs false
namespace Go.Proofs.YtaoffekhpjgmdaaGreatDoor

/-- The place of the first that p holds of, or -1. -/
def idxOf {α : Type} (p : α → Bool) : List α → Int
  | [] => -1
  | x :: l => if p x then 0 else if idxOf p l < 0 then -1 else idxOf p l + 1
theorem idxOf_at {α : Type} {p : α → Bool} : ∀ {l : List α} {k : Nat} (hk : k < l.length), (∀ x, x ∈ l.take k → p x = false) → p l[k] = true → idxOf p l = k
  | x :: l, 0, hk, _, hp => by simp only [List.getElem_cons_zero] at hp; simp [idxOf, hp]
  | x :: l, k + 1, hk, h, hp => by
    have hx : p x = false := h x (by simp)
    have := idxOf_at (l := l) (k := k) (by simpa using hk) (fun y hy => h y (by simp [hy])) (by simpa using hp)
    simp only [idxOf, hx, Bool.false_eq_true, if_false, this]
    rw [if_neg (by omega)]; omega
theorem idxOf_none {α : Type} {p : α → Bool} : ∀ {l : List α}, (∀ x, x ∈ l → p x = false) → idxOf p l = -1
  | [], _ => rfl
  | x :: l, h => by
    have := idxOf_none (l := l) fun y hy => h y (by simp [hy])
    simp [idxOf, h x (by simp), this]

theorem idxOf_cases {α : Type} (p : α → Bool) : ∀ (l : List α), (idxOf p l = -1 ∧ ∀ x, x ∈ l → p x = false) ∨ ∃ (k : Nat) (h : k < l.length), idxOf p l = k ∧ (∀ x, x ∈ l.take k → p x = false) ∧ p l[k] = true
  | [] => .inl ⟨rfl, by simp⟩
  | x :: l => by
    by_cases hx : p x = true
    · exact .inr ⟨0, by simp, by simp [idxOf, hx], by simp, by simpa using hx⟩
    · have hx : p x = false := by simpa using hx
      rcases idxOf_cases p l with ⟨h1, h2⟩ | ⟨k, hk, h1, h2, h3⟩
      · exact .inl ⟨by simp [idxOf, hx, h1], by simpa [hx] using h2⟩
      · refine .inr ⟨k + 1, by simpa using hk, ?_, ?_, by simpa using h3⟩
        · simp only [idxOf, hx, Bool.false_eq_true, if_false, h1]
          rw [if_neg (by omega)]; omega
        · intro y hy
          simp only [List.take_succ_cons, List.mem_cons] at hy
          rcases hy with rfl | hy
          · exact hx
          · exact h2 y hy

theorem idxOf_any {α : Type} (p : α → Bool) (l : List α) : decide (0 ≤ idxOf p l) = l.any p := by
  rcases idxOf_cases p l with ⟨h1, h2⟩ | ⟨k, hk, h1, h2, h3⟩
  · rw [h1, eq_comm, show decide ((0 : Int) ≤ -1) = false from rfl, List.any_eq_false]
    intro x hx
    simp [h2 x hx]
  · rw [h1, eq_comm, show decide ((0 : Int) ≤ (k : Int)) = true from decide_eq_true (by omega), List.any_eq_true]
    exact ⟨l[k], List.getElem_mem _, h3⟩
end Go.Proofs.YtaoffekhpjgmdaaGreatDoor

/- Trees, plain: the order of texts, of entries; what Check answers. -/
set_option linter.unusedSimpArgs false
set_option linter.unnecessarySimpa false
namespace Go.Proofs.YtaoffekhpjgmdaaGreatDoor
open Go.Op

/-- Strings compared: -1, 0, 1. -/
def strCmp (a b : Str) : Int := if Op.bytesLess a b = true then -1 else if (!(Op.bytesLess a b || decide (a = b))) = true then 1 else 0
theorem bl_tri : ∀ (a b : List UInt8), (bytesLess a b = true ∧ bytesLess b a = false ∧ a ≠ b) ∨ (a = b ∧ bytesLess a b = false ∧ bytesLess b a = false) ∨ (bytesLess b a = true ∧ bytesLess a b = false ∧ a ≠ b)
  | [], [] => .inr (.inl ⟨rfl, rfl, rfl⟩)
  | [], b :: y => .inl ⟨rfl, rfl, by simp⟩
  | a :: x, [] => .inr (.inr ⟨rfl, rfl, by simp⟩)
  | a :: x, b :: y => by
    simp only [bytesLess]
    by_cases h1 : a < b
    · have h2 : ¬ b < a := by rw [UInt8.lt_iff_toNat_lt] at *; omega
      have h3 : a ≠ b := by rintro rfl; exact h2 h1
      have h4 : b ≠ a := fun h => h3 h.symm
      exact .inl (by simp [h1, h2, h3, h4])
    · by_cases h2 : b < a
      · have h3 : a ≠ b := by rintro rfl; exact h1 h2
        have h4 : b ≠ a := fun h => h3 h.symm
        exact .inr (.inr (by simp [h1, h2, h3, h4]))
      · have h3 : a = b := by
          have : a.toNat = b.toNat := by rw [UInt8.lt_iff_toNat_lt] at *; omega
          exact UInt8.toNat.inj this
        subst h3
        simp only [h1, decide_false, Bool.false_or, beq_self_eq_true, Bool.true_and, List.cons.injEq, true_and, ne_eq]
        exact bl_tri x y
theorem bl_trans : ∀ {a b c : List UInt8}, bytesLess a b = true → bytesLess b c = true → bytesLess a c = true
  | _, _, [], _, h => by cases ‹List UInt8› <;> simp [bytesLess] at h
  | a, [], _ :: _, h, _ => by cases a <;> simp [bytesLess] at h
  | [], _ :: _, _ :: _, _, _ => rfl
  | a :: x, b :: y, c :: z, h1, h2 => by
    simp only [bytesLess, Bool.or_eq_true, Bool.and_eq_true, decide_eq_true_eq, beq_iff_eq, UInt8.lt_iff_toNat_lt] at *
    rcases h1 with h1 | ⟨rfl, h1⟩
    · rcases h2 with h2 | ⟨rfl, h2⟩
      · exact .inl (by omega)
      · exact .inl h1
    · rcases h2 with h2 | ⟨rfl, h2⟩
      · exact .inl h2
      · exact .inr ⟨rfl, bl_trans h1 h2⟩
theorem bl_irr (a : List UInt8) : bytesLess a a = false := by
  rcases bl_tri a a with h | h | h
  · exact absurd rfl h.2.2
  · exact h.2.1
  · exact absurd rfl h.2.2
theorem strCmp_neg (a b : Str) : strCmp a b < 0 ↔ bytesLess a b = true := by
  unfold strCmp; rcases bl_tri a b with ⟨h1, h2, h3⟩ | ⟨rfl, h2, h3⟩ | ⟨h1, h2, h3⟩ <;> simp [*]
theorem strCmp_zero (a b : Str) : strCmp a b = 0 ↔ a = b := by
  unfold strCmp; rcases bl_tri a b with ⟨h1, h2, h3⟩ | ⟨rfl, h2, h3⟩ | ⟨h1, h2, h3⟩ <;> simp [*]
theorem strCmp_pos (a b : Str) : 0 < strCmp a b ↔ bytesLess b a = true := by
  unfold strCmp; rcases bl_tri a b with ⟨h1, h2, h3⟩ | ⟨rfl, h2, h3⟩ | ⟨h1, h2, h3⟩ <;> simp [*]
theorem strCmp_bd (a b : Str) : -1 ≤ strCmp a b ∧ strCmp a b ≤ 1 := by
  unfold strCmp
  split
  · omega
  · split <;> omega
theorem strCmp_self (a : Str) : strCmp a a = 0 := (strCmp_zero a a).2 rfl
/-- The first error of a list. -/
def firstErr {α : Type} (f : α → Int) : List α → Int
  | [] => 0
  | x :: l => if f x = 0 then firstErr f l else f x
/-- Does each stand behind the one ahead of it? -/
def rising {α : Type} (lt : α → α → Bool) : List α → Bool
  | [] => true
  | x :: l => (match l with | [] => true | y :: _ => lt x y) && rising lt l
theorem firstErr_zero {α : Type} {f : α → Int} : ∀ {l : List α}, firstErr f l = 0 ↔ ∀ x, x ∈ l → f x = 0
  | [] => by simp [firstErr]
  | x :: l => by
    simp only [firstErr, List.mem_cons, forall_eq_or_imp]
    by_cases h : f x = 0
    · simp [h, firstErr_zero (l := l)]
    · simp [h]
/-- A search for the first error has come to k. -/
theorem firstErr_at {α : Type} {f : α → Int} {l : List α} {k : Nat} (hk : k < l.length) (h : ∀ x, x ∈ l.take k → f x = 0) (he : f l[k] ≠ 0) : firstErr f l = f l[k] := by
  induction l generalizing k with
  | nil => simp at hk
  | cons x l ih =>
    cases k with
    | zero => simp only [firstErr, List.getElem_cons_zero] at he ⊢; rw [if_neg he]
    | succ k =>
      have hx : f x = 0 := h x (by simp)
      simp only [firstErr, hx, if_true, List.getElem_cons_succ]
      exact ih (by simpa using hk) (fun y hy => h y (by simp [hy])) (by simpa using he)
theorem rising_iff {α : Type} {lt : α → α → Bool} : ∀ {l : List α}, rising lt l = true ↔ ∀ (k : Nat) (h : k + 1 < l.length), lt (l[k]'(by omega)) l[k + 1] = true
  | [] => by simp [rising]
  | [x] => by simp [rising]
  | x :: y :: l => by
    have ih := rising_iff (lt := lt) (l := y :: l)
    simp only [rising, Bool.and_eq_true] at ih ⊢
    constructor
    · rintro ⟨h1, h2⟩ k hk
      cases k with
      | zero => exact h1
      | succ k => exact ih.1 h2 k (by simpa using hk)
    · intro h
      exact ⟨h 0 (by simp), ih.2 fun k hk => h (k + 1) (by simpa using hk)⟩

structure Ent where
  path : Str
  fold : Bool
  text : Str
  ver : Int
  deriving DecidableEq
structure Chg where
  kind : Int
  path : Str
  to : Str
  text : Str
  base : Int
  deriving DecidableEq
def entLt (a b : Ent) : Bool := bytesLess a.path b.path
def atP (p : Str) (x : Ent) : Bool := decide (x.path = p)
/-- Where an entry stands, or would stand. -/
def posE (t : List Ent) (p : Str) : Nat := (t.takeWhile (fun x => bytesLess x.path p)).length
def hitE (t : List Ent) (p : Str) : Bool := t.any (atP p)
def isVer (n : Int) : Bool := decide (1 ≤ n) && decide (n ≤ 1000000)
def entErr (e : Ent) : Int := if pathErr e.path = 0 then (if e.fold = true ∧ ¬ e.text = [] then 1 else if 300 < e.text.length then 2 else if isVer e.ver = true then 0 else 3) else pathErr e.path
/-- May something be just in this path? -/
def folderErr (t : List Ent) (q : Str) : Int := if q = [] then 0 else match t.find? (atP q) with | none => 5 | some x => if x.fold = true then 0 else 4
def parErr (t : List Ent) (x : Ent) : Int := folderErr t (parentOf x.path)
def treeErr (t : List Ent) : Int :=
  if 60 < t.length then 2
  else if firstErr entErr t = 0 then
    if rising entLt t = true then
      if t.any (fun x => decide (parErr t x = 5)) = true then 5
      else if t.any (fun x => decide (¬ parErr t x = 0)) = true then 4 else 0
    else 4
  else firstErr entErr t
def treesErr : List (List Ent) → Int := firstErr treeErr

theorem folderErr_bd (t : List Ent) (q : Str) : folderErr t q = 0 ∨ folderErr t q = 4 ∨ folderErr t q = 5 := by
  unfold folderErr
  split
  · exact .inl rfl
  · split
    · exact .inr (.inr rfl)
    · split
      · exact .inl rfl
      · exact .inr (.inl rfl)
theorem rising_ltE {t : List Ent} (h : rising entLt t = true) : ∀ (j k : Nat) (hj : j < t.length) (hk : k < t.length), j < k → bytesLess t[j].path t[k].path = true := by
  intro j k hj hk hjk
  induction k with
  | zero => omega
  | succ k ih =>
    have h1 : bytesLess t[k].path t[k + 1].path = true := rising_iff.1 h k hk
    by_cases e : j = k
    · subst e; exact h1
    · exact bl_trans (ih (by omega) (by omega)) h1
theorem rising_pairE {t : List Ent} : rising entLt t = true ↔ t.Pairwise (fun a b => bytesLess a.path b.path = true) := by
  rw [List.pairwise_iff_getElem]
  constructor
  · intro h i j hi hj hij
    exact rising_ltE h i j hi hj hij
  · intro h
    exact rising_iff.2 fun k hk => h k (k + 1) (by omega) hk (by omega)
theorem posE_is {p : Str} : ∀ {t : List Ent} {k : Nat}, k ≤ t.length → (∀ (j : Nat) (h : j < t.length), j < k → bytesLess t[j].path p = true) → (∀ (h : k < t.length), bytesLess t[k].path p = false) → posE t p = k
  | [], k, hk, _, _ => by simp at hk; simp [posE, hk]
  | x :: l, 0, hk, _, h2 => by
    have := h2 (by simp)
    simp only [List.getElem_cons_zero] at this
    simp [posE, List.takeWhile_cons, this]
  | x :: l, k + 1, hk, h1, h2 => by
    have hx : bytesLess x.path p = true := h1 0 (by simp) (by omega)
    have := posE_is (t := l) (k := k) (by simpa using hk) (fun j h hj => h1 (j + 1) (by simpa using h) (by omega)) (fun h => h2 (by simpa using h))
    simp only [posE] at this
    simp [posE, List.takeWhile_cons, hx, this]
theorem posE_le (t : List Ent) (p : Str) : posE t p ≤ t.length := by
  induction t with
  | nil => simp [posE]
  | cons x l ih => simp only [posE, List.takeWhile_cons] at *; split <;> simp <;> omega
theorem posE_at {t : List Ent} {p : Str} (hs : rising entLt t = true) {k : Nat} (hk : k < t.length) (he : t[k].path = p) : posE t p = k := by
  refine posE_is (by omega) (fun j hj hjk => ?_) (fun _ => ?_)
  · rw [← he]; exact rising_ltE hs j k hj hk hjk
  · rw [← he]; exact bl_irr _
theorem hitE_pos {t : List Ent} {p : Str} (hs : rising entLt t = true) : hitE t p = (match t[posE t p]? with | some x => decide (strCmp x.path p = 0) | none => false) := by
  rcases idxOf_cases (atP p) t with ⟨_, h2⟩ | ⟨k, hk, _, _, h3⟩
  · have : hitE t p = false := List.any_eq_false.2 (fun x hx => by rw [h2 x hx]; simp)
    rw [this]
    split
    · rename_i x hx
      have hm := List.mem_of_getElem? hx
      have := h2 x hm
      rw [eq_comm, decide_eq_false_iff_not, strCmp_zero]
      simpa [atP] using this
    · rfl
  · have he : t[k].path = p := by simpa [atP] using h3
    have : hitE t p = true := List.any_eq_true.2 ⟨t[k], List.getElem_mem _, h3⟩
    rw [this, posE_at hs hk he, List.getElem?_eq_getElem hk]
    simp [he, strCmp_self]
/-- What is hit stands there. -/
theorem hitE_at {t : List Ent} {p : Str} (hs : rising entLt t = true) (h : hitE t p = true) : ∃ hk : posE t p < t.length, t[posE t p].path = p ∧ t.find? (atP p) = some t[posE t p] ∧ idxOf (atP p) t = posE t p := by
  obtain ⟨x, hx, hk⟩ := List.any_eq_true.1 h
  obtain ⟨k, hkl, rfl⟩ := List.getElem_of_mem hx
  have he : t[k].path = p := by simpa [atP] using hk
  have hp := posE_at hs hkl he
  have hbef : ∀ j (hj : j < k), atP p (t[j]'(by omega)) = false := fun j hj => by
    have h1 := rising_ltE hs j k (by omega) hkl hj
    have : ¬ t[j].path = p := fun e => by rw [e, he, bl_irr] at h1; cases h1
    simp [atP, this]
  refine ⟨by omega, by simp only [hp]; exact he, ?_, ?_⟩
  · simp only [hp]
    rw [List.find?_eq_some_iff_getElem]
    exact ⟨hk, k, hkl, rfl, fun j hj => by rw [hbef j hj]; rfl⟩
  · rw [hp]
    refine idxOf_at hkl (fun x hx => ?_) hk
    obtain ⟨j, hj, rfl⟩ := List.getElem_of_mem hx
    rw [List.getElem_take]
    exact hbef j (by simp at hj; omega)
theorem hitE_none {t : List Ent} {p : Str} (h : hitE t p = false) : t.find? (atP p) = none ∧ idxOf (atP p) t = -1 := by
  have h1 := List.any_eq_false.1 h
  exact ⟨List.find?_eq_none.2 h1, idxOf_none fun x hx => by simpa using h1 x hx⟩
theorem idxOf_find {α : Type} (p : α → Bool) (l : List α) : (idxOf p l = -1 ∧ l.find? p = none) ∨ ∃ (k : Nat) (h : k < l.length), idxOf p l = k ∧ l.find? p = some l[k] := by
  rcases idxOf_cases p l with ⟨h1, h2⟩ | ⟨k, hk, h1, h2, h3⟩
  · exact .inl ⟨h1, List.find?_eq_none.2 fun x hx => by rw [h2 x hx]; simp⟩
  · refine .inr ⟨k, hk, h1, ?_⟩
    rw [List.find?_eq_some_iff_getElem]
    refine ⟨h3, k, hk, rfl, fun j hj => ?_⟩
    rw [h2 _ (List.mem_take_iff_getElem.2 ⟨j, by omega, rfl⟩)]; rfl
end Go.Proofs.YtaoffekhpjgmdaaGreatDoor
