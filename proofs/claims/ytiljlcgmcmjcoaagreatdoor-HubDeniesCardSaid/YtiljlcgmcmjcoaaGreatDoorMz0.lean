import Derived.WalkKit
/- The data of the program as plain Lean data, and what it means that a slice in memory reads as a list of such data. -/
namespace Go.Proofs.YtiljlcgmcmjcoaaGreatDoor
open Go.RowKit

abbrev Str := List UInt8

structure Sess where
  number : Int
  who : Str
  text : Str
  size : Int
  till : Int
  deriving DecidableEq

def Sess.cells (s : Sess) : List Value := [.int .i64 s.number, .string ⟨s.who.toArray⟩, .string ⟨s.text.toArray⟩, .int .i64 s.size, .int .i64 s.till]

structure Upl where
  sess : List Sess
  next : Int
  lasts : Int
  room : Int
  deriving DecidableEq

structure Gra where
  folder : Str
  who : Str
  right : Int
  deriving DecidableEq

def Gra.cells (s : Gra) : List Value := [.string ⟨s.folder.toArray⟩, .string ⟨s.who.toArray⟩, .int .i64 s.right]

def okB (c : UInt8) : Bool :=
  (97 ≤ c.toNat && c.toNat ≤ 122) || (65 ≤ c.toNat && c.toNat ≤ 90) || (48 ≤ c.toNat && c.toNat ≤ 57) || c.toNat == 45 || c.toNat == 95 || c.toNat == 46 || c.toNat == 40 || c.toNat == 41 || c.toNat == 32

def isName (s : Str) : Bool := !s.isEmpty && decide (s.length ≤ 20) && s != [46] && s != [46, 46] && s.head? != some 32 && s.getLast? != some 32 && s.all okB

/-- The slice value v reads, in w and below block B, as the list l, each element's cells by c (sz of them). -/
def Sl {α : Type} (c : α → List Value) (sz : Nat) (w : World) (B : Nat) (v : Value) (l : List α) : Prop :=
  ∃ A cap, v = .slice A l.length cap ∧ l.length ≤ cap ∧ cap ≤ maxLen ∧ ∀ k (h : k < l.length), ∃ b off, A = some ⟨b, off, none⟩ ∧ b < B ∧
    ∀ j u, (c l[k])[j]? = some u → w.cell? ⟨b, off + k * sz + j, none⟩ = some u

section
variable {α : Type} {c : α → List Value} {sz : Nat} {w w' : World} {B B' : Nat} {v : Value} {l : List α}

theorem Sl.nil : Sl c sz w B (.slice none 0 0) [] := ⟨none, 0, rfl, Nat.le_refl _, Nat.zero_le _, fun k h => absurd h (Nat.not_lt_zero k)⟩

theorem Sl.keep (h : Sl c sz w B v l) (hk : ∀ p : Addr, p.block < B → w'.cell? p = w.cell? p) : Sl c sz w' B v l := by
  obtain ⟨A, cap, hv, h1, h2, h3⟩ := h
  refine ⟨A, cap, hv, h1, h2, fun k hkl => ?_⟩
  obtain ⟨b, off, hA, hB, hc⟩ := h3 k hkl
  exact ⟨b, off, hA, hB, fun j u hu => (hk ⟨b, off + k * sz + j, none⟩ hB).trans (hc j u hu)⟩

theorem Sl.more (h : Sl c sz w B v l) (hB : B ≤ B') : Sl c sz w B' v l := by
  obtain ⟨A, cap, hv, h1, h2, h3⟩ := h
  refine ⟨A, cap, hv, h1, h2, fun k hkl => ?_⟩
  obtain ⟨b, off, hA, hb, hc⟩ := h3 k hkl
  exact ⟨b, off, hA, by omega, hc⟩

theorem Sl.below (h : Sl c sz w B v l) (hb : Below B w w') : Sl c sz w' B v l := h.keep fun _ hp => hb.cell hp

theorem Sl.at (h : Sl c sz w B v l) {A : Option Addr} {n cap : Nat} (hv : v = .slice A n cap) {k : Nat} (hk : k < l.length) :
    ∃ b off, A = some ⟨b, off, none⟩ ∧ b < B ∧ ∀ j u, (c l[k])[j]? = some u → w.cell? ⟨b, off + k * sz + j, none⟩ = some u := by
  obtain ⟨A', cap', hv', _, _, h3⟩ := h
  rw [hv] at hv'
  injection hv' with e1 e2 e3
  subst e1
  exact h3 k hk
end

/-- A session's five cells. -/
theorem Sl.sess {w : World} {B : Nat} {A : Option Addr} {n cap : Nat} {l : List Sess} (h : Sl Sess.cells 5 w B (.slice A n cap) l) {k : Nat} (hk : k < l.length) :
    ∃ b off, A = some ⟨b, off, none⟩ ∧ b < B ∧ w.cell? ⟨b, off + k * 5, none⟩ = some (.int .i64 l[k].number) ∧ w.cell? ⟨b, off + k * 5 + 1, none⟩ = some (.string ⟨l[k].who.toArray⟩) ∧
      w.cell? ⟨b, off + k * 5 + 2, none⟩ = some (.string ⟨l[k].text.toArray⟩) ∧ w.cell? ⟨b, off + k * 5 + 3, none⟩ = some (.int .i64 l[k].size) ∧ w.cell? ⟨b, off + k * 5 + 4, none⟩ = some (.int .i64 l[k].till) := by
  obtain ⟨b, off, hA, hB, hc⟩ := h.at rfl hk
  exact ⟨b, off, hA, hB, hc 0 _ rfl, hc 1 _ rfl, hc 2 _ rfl, hc 3 _ rfl, hc 4 _ rfl⟩

theorem Sl.gra {w : World} {B : Nat} {A : Option Addr} {n cap : Nat} {l : List Gra} (h : Sl Gra.cells 3 w B (.slice A n cap) l) {k : Nat} (hk : k < l.length) :
    ∃ b off, A = some ⟨b, off, none⟩ ∧ b < B ∧ w.cell? ⟨b, off + k * 3, none⟩ = some (.string ⟨l[k].folder.toArray⟩) ∧ w.cell? ⟨b, off + k * 3 + 1, none⟩ = some (.string ⟨l[k].who.toArray⟩) ∧
      w.cell? ⟨b, off + k * 3 + 2, none⟩ = some (.int .i64 l[k].right) := by
  obtain ⟨b, off, hA, hB, hc⟩ := h.at rfl hk
  exact ⟨b, off, hA, hB, hc 0 _ rfl, hc 1 _ rfl, hc 2 _ rfl⟩

theorem take_succ' {α : Type} {l : List α} {k : Nat} (h : k < l.length) : l.take (k + 1) = l.take k ++ [l[k]] := by
  rw [List.take_succ_eq_append_getElem h]

end Go.Proofs.YtiljlcgmcmjcoaaGreatDoor

/- Paths, plain: names, what is split off, what is within, what goes aside. -/
set_option linter.unusedSimpArgs false
set_option linter.unnecessarySimpa false
namespace Go.Proofs.YtiljlcgmcmjcoaaGreatDoor

/-- The names of a path: what stands between its signs. -/
def namesOf : Str → List Str
  | [] => [[]]
  | c :: s => if c = 47 then [] :: namesOf s else match namesOf s with | [] => [[c]] | n :: l => (c :: n) :: l
/-- Names, and a sign between each two. -/
def pathOf : List Str → Str
  | [] => []
  | [n] => n
  | n :: l => n ++ 47 :: pathOf l

theorem namesOf_ne (p : Str) : namesOf p ≠ [] := by
  cases p with
  | nil => simp [namesOf]
  | cons c s => simp only [namesOf]; split <;> (try split) <;> simp
/-- A path of one name. -/
theorem namesOf_one : ∀ {a : Str}, (47 : UInt8) ∉ a → namesOf a = [a]
  | [], _ => rfl
  | c :: s, h => by
    have hc : c ≠ 47 := fun e => h (by simp [e])
    have hs : (47 : UInt8) ∉ s := fun e => h (by simp [e])
    simp [namesOf, hc, namesOf_one hs]
/-- The first name, and the others. -/
theorem namesOf_cons : ∀ {a : Str} (b : Str), (47 : UInt8) ∉ a → namesOf (a ++ 47 :: b) = a :: namesOf b
  | [], b, _ => by simp [namesOf]
  | c :: s, b, h => by
    have hc : c ≠ 47 := fun e => h (by simp [e])
    have hs : (47 : UInt8) ∉ s := fun e => h (by simp [e])
    simp [namesOf, hc, namesOf_cons b hs]
theorem namesOf_free : ∀ (p : Str), ∀ n, n ∈ namesOf p → (47 : UInt8) ∉ n
  | [], n, h => by simp [namesOf] at h; subst h; simp
  | c :: s, n, h => by
    have ih := namesOf_free s
    simp only [namesOf] at h
    split at h
    · rcases List.mem_cons.1 h with rfl | h
      · simp
      · exact ih n h
    · rename_i hc
      split at h
      · simp at h; subst h; simpa using fun e => hc e.symm
      · rename_i m l hm
        rcases List.mem_cons.1 h with rfl | h
        · have := ih m (by rw [hm]; simp)
          simp only [List.mem_cons, not_or]; exact ⟨fun e => hc e.symm, this⟩
        · exact ih n (by rw [hm]; simp [h])
theorem pathOf_cons {n : Str} {l : List Str} (h : l ≠ []) : pathOf (n :: l) = n ++ 47 :: pathOf l := by
  cases l with
  | nil => exact absurd rfl h
  | cons m l => rfl
theorem path_names : ∀ (p : Str), pathOf (namesOf p) = p
  | [] => rfl
  | c :: s => by
    have ih := path_names s
    have hne := namesOf_ne s
    simp only [namesOf]
    split
    · rename_i hc; subst hc
      rw [pathOf_cons hne, ih]; rfl
    · split
      · rename_i h; exact absurd h hne
      · rename_i n l h
        rw [h] at ih
        cases l with
        | nil => simp only [pathOf] at ih ⊢; rw [ih]
        | cons m l => rw [pathOf_cons (by simp)] at ih ⊢; rw [← ih]; rfl
theorem names_path : ∀ {l : List Str}, l ≠ [] → (∀ n, n ∈ l → (47 : UInt8) ∉ n) → namesOf (pathOf l) = l
  | [], h, _ => absurd rfl h
  | [n], _, hf => namesOf_one (hf n (by simp))
  | n :: m :: l, _, hf => by
    rw [pathOf_cons (by simp), namesOf_cons _ (hf n (by simp)), names_path (by simp) fun x hx => hf x (by simp [hx])]
theorem namesOf_len (p : Str) : (namesOf p).length = p.count 47 + 1 := by
  induction p with
  | nil => rfl
  | cons c s ih =>
    have hne := namesOf_ne s
    simp only [namesOf]
    split
    · rename_i hc; subst hc; simp [ih]
    · rename_i hc
      rw [List.count_cons_of_ne (fun e => hc e)]
      split
      · rename_i h; exact absurd h hne
      · rename_i n l h; rw [h] at ih; exact ih
theorem namesOf_app (a b : Str) : namesOf (a ++ 47 :: b) = namesOf a ++ namesOf b := by
  induction a with
  | nil => simp [namesOf]
  | cons c s ih =>
    have hne := namesOf_ne s
    simp only [List.cons_append, namesOf, ih]
    split
    · rfl
    · split
      · rename_i h; exact absurd (List.append_eq_nil_iff.1 h).1 hne
      · rename_i n l h
        split
        · rename_i h'; exact absurd h' hne
        · rename_i n' l' h'
          rw [h'] at h
          simp only [List.cons_append, List.cons.injEq] at h
          obtain ⟨rfl, rfl⟩ := h; rfl
theorem pathOf_app {a b : List Str} (ha : a ≠ []) (hb : b ≠ []) : pathOf (a ++ b) = pathOf a ++ 47 :: pathOf b := by
  induction a with
  | nil => exact absurd rfl ha
  | cons n l ih =>
    cases l with
    | nil => rw [List.singleton_append, pathOf_cons hb]; rfl
    | cons m l => rw [List.cons_append, pathOf_cons (l := m :: l ++ b) (by simp), ih (by simp), pathOf_cons (n := n) (l := m :: l) (by simp)]; simp
/-- Within: a path's names begin with another one's. -/
theorem names_prefix (p q : Str) : namesOf q <+: namesOf p ↔ p = q ∨ (q ++ [47]) <+: p := by
  constructor
  · rintro ⟨t, ht⟩
    cases t with
    | nil =>
      left
      rw [List.append_nil] at ht
      rw [← path_names p, ← ht, path_names]
    | cons n t =>
      right
      have h := path_names p
      rw [← ht, pathOf_app (namesOf_ne q) (by simp), path_names] at h
      exact ⟨pathOf (n :: t), by rw [List.append_assoc]; exact h⟩
  · rintro (rfl | ⟨t, ht⟩)
    · exact List.prefix_refl _
    · rw [← ht, List.append_assoc]
      exact ⟨namesOf t, by rw [← namesOf_app]; rfl⟩
/-- The place of the last such byte, or -1. -/
def lastIdx (c : UInt8) : Str → Int
  | [] => -1
  | x :: l => if 0 ≤ lastIdx c l then lastIdx c l + 1 else if x = c then 0 else -1
theorem lastIdx_none {c : UInt8} : ∀ {p : Str}, c ∉ p → lastIdx c p = -1
  | [], _ => rfl
  | x :: l, h => by
    have h1 : ¬ x = c := fun e => h (by simp [e])
    have h2 := lastIdx_none (c := c) (p := l) fun e => h (by simp [e])
    simp [lastIdx, h2, h1]
theorem lastIdx_at {c : UInt8} : ∀ {a b : Str}, c ∉ b → lastIdx c (a ++ c :: b) = a.length
  | [], b, h => by simp [lastIdx, lastIdx_none h]
  | x :: a, b, h => by
    have h2 := lastIdx_at (a := a) h
    simp only [List.cons_append, lastIdx, h2, List.length_cons]
    rw [if_pos (by omega)]; omega
theorem split_at {c : UInt8} : ∀ (p : Str), c ∉ p ∨ ∃ a b, p = a ++ c :: b ∧ c ∉ b
  | [] => .inl (by simp)
  | x :: l => by
    rcases split_at (c := c) l with h | ⟨a, b, h1, h2⟩
    · by_cases e : x = c
      · exact .inr ⟨[], l, by simp [e], h⟩
      · exact .inl (by simp only [List.mem_cons, not_or]; exact ⟨fun h => e h.symm, h⟩)
    · exact .inr ⟨x :: a, b, by simp [h1], h2⟩
/-- A search from behind has found the last one. -/
theorem lastIdx_is {c : UInt8} {p : Str} {k : Nat} (hk : k < p.length) (he : p[k] = c) (h : c ∉ p.drop (k + 1)) : lastIdx c p = k := by
  have h1 : p = p.take k ++ c :: p.drop (k + 1) := by rw [← he, ← List.drop_eq_getElem_cons hk, List.take_append_drop]
  rw [h1, lastIdx_at h, List.length_take, Nat.min_eq_left (by omega)]
theorem lastIdx_bd (c : UInt8) (p : Str) : -1 ≤ lastIdx c p ∧ lastIdx c p < p.length := by
  rcases split_at (c := c) p with h | ⟨a, b, h1, h2⟩
  · rw [lastIdx_none h]; omega
  · rw [h1, lastIdx_at h2]; simp; omega

def parentOf (p : Str) : Str := p.take (lastIdx 47 p).toNat
def lastOf (p : Str) : Str := p.drop (lastIdx 47 p + 1).toNat
theorem split_ref (p : Str) : namesOf p = (namesOf p).dropLast ++ [lastOf p] ∧ pathOf (namesOf p).dropLast = parentOf p := by
  rcases split_at (c := 47) p with h | ⟨a, b, h1, h2⟩
  · rw [namesOf_one h, lastOf, parentOf, lastIdx_none h]
    exact ⟨by simp, rfl⟩
  · have h3 := lastIdx_at (a := a) h2
    have h4 : lastOf p = b := by
      rw [lastOf, h1, h3, show ((a.length : Int) + 1).toNat = a.length + 1 from by omega]
      rw [List.drop_append, List.drop_of_length_le (by omega), List.nil_append, show a.length + 1 - a.length = 1 from by omega]; rfl
    have h5 : parentOf p = a := by
      rw [parentOf, h1, h3, show (a.length : Int).toNat = a.length from by omega, List.take_left]
    have h6 : namesOf p = namesOf a ++ [b] := by rw [h1, namesOf_app, namesOf_one h2]
    rw [h4, h5, h6]
    exact ⟨by simp, by simp [path_names]⟩

def tooGreat (p : Str) : Bool := decide (6 < (namesOf p).length) || decide (80 < p.length)
def pathErr (p : Str) : Int := if (namesOf p).all isName then (if tooGreat p then 2 else 0) else 1
theorem tooGreat_count (p : Str) : tooGreat p = (decide (6 ≤ p.count 47) || decide (80 < p.length)) := by
  unfold tooGreat
  rw [namesOf_len]
  congr 1
  simp only [decide_eq_decide]; omega
/-- The first error of some paths. -/
def pathsErr : List Str → Int
  | [] => 0
  | p :: l => if pathErr p = 0 then pathsErr l else pathErr p
def inB (p q : Str) : Bool := decide (p = q) || (q ++ [47]).isPrefixOf p
theorem inB_ref (p q : Str) : inB p q = (namesOf q).isPrefixOf (namesOf p) := by
  rw [Bool.eq_iff_iff, List.isPrefixOf_iff_prefix, names_prefix]
  simp [inB]
/-- The path moved, as the document puts it. -/
theorem moved_ref {p f t : Str} (h : inB p f = true) : pathOf (namesOf t ++ (namesOf p).drop (namesOf f).length) = t ++ p.drop f.length := by
  simp only [inB, Bool.or_eq_true, decide_eq_true_eq, List.isPrefixOf_iff_prefix] at h
  rcases h with rfl | ⟨s, rfl⟩
  · rw [List.drop_of_length_le (Nat.le_refl _), List.drop_of_length_le (Nat.le_refl _), List.append_nil, List.append_nil, path_names]
  · rw [List.append_assoc]
    show pathOf (namesOf t ++ (namesOf (f ++ 47 :: s)).drop (namesOf f).length) = _
    rw [namesOf_app, List.drop_left, pathOf_app (namesOf_ne _) (namesOf_ne _), path_names, path_names]
    congr 1
    rw [List.drop_left]; rfl
end Go.Proofs.YtiljlcgmcmjcoaaGreatDoor

/- Searches of a list, plain. -/
set_option linter.unusedSimpArgs false
namespace Go.Proofs.YtiljlcgmcmjcoaaGreatDoor

/-- The place of the first that p holds of, or -1. -/
def idxOf {α : Type} (p : α → Bool) : List α → Int
  | [] => -1
  | x :: l => if p x then 0 else if idxOf p l < 0 then -1 else idxOf p l + 1
theorem idxOf_at {α : Type} {p : α → Bool} : ∀ {l : List α} {k : Nat} (hk : k < l.length), (∀ x, x ∈ l.take k → p x = false) → p l[k] = true → idxOf p l = k
  | x :: l, 0, hk, _, hp => by simp only [List.getElem_cons_zero] at hp; simp [idxOf, hp]
  | x :: l, k + 1, hk, h, hp => by
    have hx : p x = false := h x (by simp)
    have := idxOf_at (l := l) (k := k) (by simpa using hk) (fun y hy => h y (by simp [hy])) (by simpa using hp)
    simp only [idxOf, hx, Bool.false_eq_true, if_false, this]
    rw [if_neg (by omega)]; omega
theorem idxOf_none {α : Type} {p : α → Bool} : ∀ {l : List α}, (∀ x, x ∈ l → p x = false) → idxOf p l = -1
  | [], _ => rfl
  | x :: l, h => by
    have := idxOf_none (l := l) fun y hy => h y (by simp [hy])
    simp [idxOf, h x (by simp), this]

theorem idxOf_cases {α : Type} (p : α → Bool) : ∀ (l : List α), (idxOf p l = -1 ∧ ∀ x, x ∈ l → p x = false) ∨ ∃ (k : Nat) (h : k < l.length), idxOf p l = k ∧ (∀ x, x ∈ l.take k → p x = false) ∧ p l[k] = true
  | [] => .inl ⟨rfl, by simp⟩
  | x :: l => by
    by_cases hx : p x = true
    · exact .inr ⟨0, by simp, by simp [idxOf, hx], by simp, by simpa using hx⟩
    · have hx : p x = false := by simpa using hx
      rcases idxOf_cases p l with ⟨h1, h2⟩ | ⟨k, hk, h1, h2, h3⟩
      · exact .inl ⟨by simp [idxOf, hx, h1], by simpa [hx] using h2⟩
      · refine .inr ⟨k + 1, by simpa using hk, ?_, ?_, by simpa using h3⟩
        · simp only [idxOf, hx, Bool.false_eq_true, if_false, h1]
          rw [if_neg (by omega)]; omega
        · intro y hy
          simp only [List.take_succ_cons, List.mem_cons] at hy
          rcases hy with rfl | hy
          · exact hx
          · exact h2 y hy

theorem idxOf_any {α : Type} (p : α → Bool) (l : List α) : decide (0 ≤ idxOf p l) = l.any p := by
  rcases idxOf_cases p l with ⟨h1, h2⟩ | ⟨k, hk, h1, h2, h3⟩
  · rw [h1, eq_comm, show decide ((0 : Int) ≤ -1) = false from rfl, List.any_eq_false]
    intro x hx
    simp [h2 x hx]
  · rw [h1, eq_comm, show decide ((0 : Int) ≤ (k : Int)) = true from decide_eq_true (by omega), List.any_eq_true]
    exact ⟨l[k], List.getElem_mem _, h3⟩
theorem mem_take_succ {α : Type} {l : List α} {k : Nat} (hk : k < l.length) {p : α → Prop} (h : ∀ x, x ∈ l.take k → p x) (hx : p l[k]) : ∀ x, x ∈ l.take (k + 1) → p x := by
  intro x hm
  rw [List.take_succ_eq_append_getElem hk] at hm
  rcases List.mem_append.1 hm with hm | hm
  · exact h x hm
  · simp at hm; exact hm ▸ hx
end Go.Proofs.YtiljlcgmcmjcoaaGreatDoor

/- Trees, plain: the order of texts, of entries; what Check answers. -/
set_option linter.unusedSimpArgs false
set_option linter.unnecessarySimpa false
namespace Go.Proofs.YtiljlcgmcmjcoaaGreatDoor
open Go.Op

/-- Strings compared: -1, 0, 1. -/
def strCmp (a b : Str) : Int := if Op.bytesLess a b = true then -1 else if (!(Op.bytesLess a b || decide (a = b))) = true then 1 else 0
theorem bl_tri : ∀ (a b : List UInt8), (bytesLess a b = true ∧ bytesLess b a = false ∧ a ≠ b) ∨ (a = b ∧ bytesLess a b = false ∧ bytesLess b a = false) ∨ (bytesLess b a = true ∧ bytesLess a b = false ∧ a ≠ b)
  | [], [] => .inr (.inl ⟨rfl, rfl, rfl⟩)
  | [], b :: y => .inl ⟨rfl, rfl, by simp⟩
  | a :: x, [] => .inr (.inr ⟨rfl, rfl, by simp⟩)
  | a :: x, b :: y => by
    simp only [bytesLess]
    by_cases h1 : a < b
    · have h2 : ¬ b < a := by rw [UInt8.lt_iff_toNat_lt] at *; omega
      have h3 : a ≠ b := by rintro rfl; exact h2 h1
      have h4 : b ≠ a := fun h => h3 h.symm
      exact .inl (by simp [h1, h2, h3, h4])
    · by_cases h2 : b < a
      · have h3 : a ≠ b := by rintro rfl; exact h1 h2
        have h4 : b ≠ a := fun h => h3 h.symm
        exact .inr (.inr (by simp [h1, h2, h3, h4]))
      · have h3 : a = b := by
          have : a.toNat = b.toNat := by rw [UInt8.lt_iff_toNat_lt] at *; omega
          exact UInt8.toNat.inj this
        subst h3
        simp only [h1, decide_false, Bool.false_or, beq_self_eq_true, Bool.true_and, List.cons.injEq, true_and, ne_eq]
        exact bl_tri x y
theorem bl_trans : ∀ {a b c : List UInt8}, bytesLess a b = true → bytesLess b c = true → bytesLess a c = true
  | _, _, [], _, h => by cases ‹List UInt8› <;> simp [bytesLess] at h
  | a, [], _ :: _, h, _ => by cases a <;> simp [bytesLess] at h
  | [], _ :: _, _ :: _, _, _ => rfl
  | a :: x, b :: y, c :: z, h1, h2 => by
    simp only [bytesLess, Bool.or_eq_true, Bool.and_eq_true, decide_eq_true_eq, beq_iff_eq, UInt8.lt_iff_toNat_lt] at *
    rcases h1 with h1 | ⟨rfl, h1⟩
    · rcases h2 with h2 | ⟨rfl, h2⟩
      · exact .inl (by omega)
      · exact .inl h1
    · rcases h2 with h2 | ⟨rfl, h2⟩
      · exact .inl h2
      · exact .inr ⟨rfl, bl_trans h1 h2⟩
theorem bl_irr (a : List UInt8) : bytesLess a a = false := by
  rcases bl_tri a a with h | h | h
  · exact absurd rfl h.2.2
  · exact h.2.1
  · exact absurd rfl h.2.2
theorem strCmp_neg (a b : Str) : strCmp a b < 0 ↔ bytesLess a b = true := by
  unfold strCmp; rcases bl_tri a b with ⟨h1, h2, h3⟩ | ⟨rfl, h2, h3⟩ | ⟨h1, h2, h3⟩ <;> simp [*]
theorem strCmp_zero (a b : Str) : strCmp a b = 0 ↔ a = b := by
  unfold strCmp; rcases bl_tri a b with ⟨h1, h2, h3⟩ | ⟨rfl, h2, h3⟩ | ⟨h1, h2, h3⟩ <;> simp [*]
theorem strCmp_pos (a b : Str) : 0 < strCmp a b ↔ bytesLess b a = true := by
  unfold strCmp; rcases bl_tri a b with ⟨h1, h2, h3⟩ | ⟨rfl, h2, h3⟩ | ⟨h1, h2, h3⟩ <;> simp [*]
theorem strCmp_self (a : Str) : strCmp a a = 0 := (strCmp_zero a a).2 rfl
/-- The first error of a list. -/
def firstErr {α : Type} (f : α → Int) : List α → Int
  | [] => 0
  | x :: l => if f x = 0 then firstErr f l else f x
/-- Does each stand behind the one ahead of it? -/
def rising {α : Type} (lt : α → α → Bool) : List α → Bool
  | [] => true
  | x :: l => (match l with | [] => true | y :: _ => lt x y) && rising lt l
theorem firstErr_zero {α : Type} {f : α → Int} : ∀ {l : List α}, firstErr f l = 0 ↔ ∀ x, x ∈ l → f x = 0
  | [] => by simp [firstErr]
  | x :: l => by
    simp only [firstErr, List.mem_cons, forall_eq_or_imp]
    by_cases h : f x = 0
    · simp [h, firstErr_zero (l := l)]
    · simp [h]
/-- A search for the first error has come to k. -/
theorem firstErr_at {α : Type} {f : α → Int} {l : List α} {k : Nat} (hk : k < l.length) (h : ∀ x, x ∈ l.take k → f x = 0) (he : f l[k] ≠ 0) : firstErr f l = f l[k] := by
  induction l generalizing k with
  | nil => simp at hk
  | cons x l ih =>
    cases k with
    | zero => simp only [firstErr, List.getElem_cons_zero] at he ⊢; rw [if_neg he]
    | succ k =>
      have hx : f x = 0 := h x (by simp)
      simp only [firstErr, hx, if_true, List.getElem_cons_succ]
      exact ih (by simpa using hk) (fun y hy => h y (by simp [hy])) (by simpa using he)
theorem rising_iff {α : Type} {lt : α → α → Bool} : ∀ {l : List α}, rising lt l = true ↔ ∀ (k : Nat) (h : k + 1 < l.length), lt (l[k]'(by omega)) l[k + 1] = true
  | [] => by simp [rising]
  | [x] => by simp [rising]
  | x :: y :: l => by
    have ih := rising_iff (lt := lt) (l := y :: l)
    simp only [rising, Bool.and_eq_true] at ih ⊢
    constructor
    · rintro ⟨h1, h2⟩ k hk
      cases k with
      | zero => exact h1
      | succ k => exact ih.1 h2 k (by simpa using hk)
    · intro h
      exact ⟨h 0 (by simp), ih.2 fun k hk => h (k + 1) (by simpa using hk)⟩

structure Ent where
  path : Str
  fold : Bool
  text : Str
  ver : Int
  deriving DecidableEq
structure Chg where
  kind : Int
  path : Str
  to : Str
  text : Str
  base : Int
  deriving DecidableEq
def entLt (a b : Ent) : Bool := bytesLess a.path b.path
def atP (p : Str) (x : Ent) : Bool := decide (x.path = p)
/-- Where an entry stands, or would stand. -/
def posE (t : List Ent) (p : Str) : Nat := (t.takeWhile (fun x => bytesLess x.path p)).length
def hitE (t : List Ent) (p : Str) : Bool := t.any (atP p)
def isVer (n : Int) : Bool := decide (1 ≤ n) && decide (n ≤ 1000000)
def entErr (e : Ent) : Int := if pathErr e.path = 0 then (if e.fold = true ∧ ¬ e.text = [] then 1 else if 300 < e.text.length then 2 else if isVer e.ver = true then 0 else 3) else pathErr e.path
/-- May something be just in this path? -/
def folderErr (t : List Ent) (q : Str) : Int := if q = [] then 0 else match t.find? (atP q) with | none => 5 | some x => if x.fold = true then 0 else 4
def parErr (t : List Ent) (x : Ent) : Int := folderErr t (parentOf x.path)
def treeErr (t : List Ent) : Int :=
  if 60 < t.length then 2
  else if firstErr entErr t = 0 then
    if rising entLt t = true then
      if t.any (fun x => decide (parErr t x = 5)) = true then 5
      else if t.any (fun x => decide (¬ parErr t x = 0)) = true then 4 else 0
    else 4
  else firstErr entErr t
theorem rising_ltE {t : List Ent} (h : rising entLt t = true) : ∀ (j k : Nat) (hj : j < t.length) (hk : k < t.length), j < k → bytesLess t[j].path t[k].path = true := by
  intro j k hj hk hjk
  induction k with
  | zero => omega
  | succ k ih =>
    have h1 : bytesLess t[k].path t[k + 1].path = true := rising_iff.1 h k hk
    by_cases e : j = k
    · subst e; exact h1
    · exact bl_trans (ih (by omega) (by omega)) h1
theorem rising_pairE {t : List Ent} : rising entLt t = true ↔ t.Pairwise (fun a b => bytesLess a.path b.path = true) := by
  rw [List.pairwise_iff_getElem]
  constructor
  · intro h i j hi hj hij
    exact rising_ltE h i j hi hj hij
  · intro h
    exact rising_iff.2 fun k hk => h k (k + 1) (by omega) hk (by omega)
theorem posE_is {p : Str} : ∀ {t : List Ent} {k : Nat}, k ≤ t.length → (∀ (j : Nat) (h : j < t.length), j < k → bytesLess t[j].path p = true) → (∀ (h : k < t.length), bytesLess t[k].path p = false) → posE t p = k
  | [], k, hk, _, _ => by simp at hk; simp [posE, hk]
  | x :: l, 0, hk, _, h2 => by
    have := h2 (by simp)
    simp only [List.getElem_cons_zero] at this
    simp [posE, List.takeWhile_cons, this]
  | x :: l, k + 1, hk, h1, h2 => by
    have hx : bytesLess x.path p = true := h1 0 (by simp) (by omega)
    have := posE_is (t := l) (k := k) (by simpa using hk) (fun j h hj => h1 (j + 1) (by simpa using h) (by omega)) (fun h => h2 (by simpa using h))
    simp only [posE] at this
    simp [posE, List.takeWhile_cons, hx, this]
theorem posE_le (t : List Ent) (p : Str) : posE t p ≤ t.length := by
  induction t with
  | nil => simp [posE]
  | cons x l ih => simp only [posE, List.takeWhile_cons] at *; split <;> simp <;> omega
theorem posE_at {t : List Ent} {p : Str} (hs : rising entLt t = true) {k : Nat} (hk : k < t.length) (he : t[k].path = p) : posE t p = k := by
  refine posE_is (by omega) (fun j hj hjk => ?_) (fun _ => ?_)
  · rw [← he]; exact rising_ltE hs j k hj hk hjk
  · rw [← he]; exact bl_irr _
theorem hitE_pos {t : List Ent} {p : Str} (hs : rising entLt t = true) : hitE t p = (match t[posE t p]? with | some x => decide (strCmp x.path p = 0) | none => false) := by
  rcases idxOf_cases (atP p) t with ⟨_, h2⟩ | ⟨k, hk, _, _, h3⟩
  · have : hitE t p = false := List.any_eq_false.2 (fun x hx => by rw [h2 x hx]; simp)
    rw [this]
    split
    · rename_i x hx
      have hm := List.mem_of_getElem? hx
      have := h2 x hm
      rw [eq_comm, decide_eq_false_iff_not, strCmp_zero]
      simpa [atP] using this
    · rfl
  · have he : t[k].path = p := by simpa [atP] using h3
    have : hitE t p = true := List.any_eq_true.2 ⟨t[k], List.getElem_mem _, h3⟩
    rw [this, posE_at hs hk he, List.getElem?_eq_getElem hk]
    simp [he, strCmp_self]
/-- What is hit stands there. -/
theorem hitE_at {t : List Ent} {p : Str} (hs : rising entLt t = true) (h : hitE t p = true) : ∃ hk : posE t p < t.length, t[posE t p].path = p ∧ t.find? (atP p) = some t[posE t p] ∧ idxOf (atP p) t = posE t p := by
  obtain ⟨x, hx, hk⟩ := List.any_eq_true.1 h
  obtain ⟨k, hkl, rfl⟩ := List.getElem_of_mem hx
  have he : t[k].path = p := by simpa [atP] using hk
  have hp := posE_at hs hkl he
  have hbef : ∀ j (hj : j < k), atP p (t[j]'(by omega)) = false := fun j hj => by
    have h1 := rising_ltE hs j k (by omega) hkl hj
    have : ¬ t[j].path = p := fun e => by rw [e, he, bl_irr] at h1; cases h1
    simp [atP, this]
  refine ⟨by omega, by simp only [hp]; exact he, ?_, ?_⟩
  · simp only [hp]
    rw [List.find?_eq_some_iff_getElem]
    exact ⟨hk, k, hkl, rfl, fun j hj => by rw [hbef j hj]; rfl⟩
  · rw [hp]
    refine idxOf_at hkl (fun x hx => ?_) hk
    obtain ⟨j, hj, rfl⟩ := List.getElem_of_mem hx
    rw [List.getElem_take]
    exact hbef j (by simp at hj; omega)
theorem hitE_none {t : List Ent} {p : Str} (h : hitE t p = false) : t.find? (atP p) = none ∧ idxOf (atP p) t = -1 := by
  have h1 := List.any_eq_false.1 h
  exact ⟨List.find?_eq_none.2 h1, idxOf_none fun x hx => by simpa using h1 x hx⟩
theorem idxOf_find {α : Type} (p : α → Bool) (l : List α) : (idxOf p l = -1 ∧ l.find? p = none) ∨ ∃ (k : Nat) (h : k < l.length), idxOf p l = k ∧ l.find? p = some l[k] := by
  rcases idxOf_cases p l with ⟨h1, h2⟩ | ⟨k, hk, h1, h2, h3⟩
  · exact .inl ⟨h1, List.find?_eq_none.2 fun x hx => by rw [h2 x hx]; simp⟩
  · refine .inr ⟨k, hk, h1, ?_⟩
    rw [List.find?_eq_some_iff_getElem]
    refine ⟨h3, k, hk, rfl, fun j hj => ?_⟩
    rw [h2 _ (List.mem_take_iff_getElem.2 ⟨j, by omega, rfl⟩)]; rfl
end Go.Proofs.YtiljlcgmcmjcoaaGreatDoor

/- Uploads: what the functions answer, as plain functions. No program in sight. -/
namespace Go.Proofs.YtiljlcgmcmjcoaaGreatDoor

def withinB (n a b : Int) : Bool := decide (a ≤ n) && decide (n ≤ b)
/-- How many bytes all sessions of somebody are to have. -/
def openOf (l : List Sess) (who : Str) : Int := (l.map fun s => if s.who = who then s.size else 0).sum
def sessErr (next : Int) (s : Sess) : Int :=
  if withinB s.number 1 (next - 1) && withinB s.size 0 300 && withinB s.till 0 2199023255552 then
    if isName s.who then if s.size < s.text.length then 2 else 0 else 1
  else 3
def upHead (u : Upl) : Bool := withinB u.lasts 1 1000000 && withinB u.room 0 100000 && withinB u.next 1 1099511627776
def roomy (u : Upl) : Bool := u.sess.all fun s => decide (openOf u.sess s.who ≤ u.room)
def upErr (u : Upl) : Int :=
  if upHead u then
    if 20 < u.sess.length then 2
    else if firstErr (sessErr u.next) u.sess = 0 then
      if rising (fun a b => decide (a.number < b.number)) u.sess then
        if roomy u then 0 else 10
      else 4
    else firstErr (sessErr u.next) u.sess
  else 3

theorem sessErr_size {next : Int} {s : Sess} (h : sessErr next s = 0) : 0 ≤ s.size ∧ s.size ≤ 300 := by
  unfold sessErr at h
  split at h
  · rename_i h1
    simp [withinB] at h1; omega
  · cases h
theorem openOf_snoc (l : List Sess) (s : Sess) (who : Str) : openOf (l ++ [s]) who = openOf l who + (if s.who = who then s.size else 0) := by simp [openOf]
theorem openOf_succ {l : List Sess} {k : Nat} (h : k < l.length) (who : Str) : openOf (l.take (k + 1)) who = openOf (l.take k) who + (if l[k].who = who then l[k].size else 0) := by
  rw [List.take_succ_eq_append_getElem h, openOf_snoc]
theorem openOf_bd {l : List Sess} (who : Str) (h : ∀ s, s ∈ l → 0 ≤ s.size ∧ s.size ≤ 300) : 0 ≤ openOf l who ∧ openOf l who ≤ 300 * l.length := by
  induction l with
  | nil => simp [openOf]
  | cons s l ih =>
    obtain ⟨h1, h2⟩ := ih fun s hs => h s (List.mem_cons_of_mem _ hs)
    obtain ⟨h3, h4⟩ := h s (List.mem_cons_self ..)
    have : openOf (s :: l) who = (if s.who = who then s.size else 0) + openOf l who := by simp [openOf]
    rw [this]
    split <;> simp <;> omega
theorem openOf_take {l : List Sess} (who : Str) (h : ∀ s, s ∈ l → 0 ≤ s.size ∧ s.size ≤ 300) (k : Nat) : 0 ≤ openOf (l.take k) who ∧ openOf (l.take k) who ≤ 300 * k := by
  obtain ⟨h1, h2⟩ := openOf_bd (l := l.take k) who (fun s hs => h s (List.mem_of_mem_take hs))
  exact ⟨h1, by have : (l.take k).length ≤ k := List.length_take_le _ _; omega⟩
theorem filter_hit {α : Type} {p : α → Bool} {l : List α} {k : Nat} (hk : k < l.length) (hp : p l[k] = true) : (l.take (k + 1)).filter p = (l.take k).filter p ++ [l[k]] := by
  rw [List.take_succ_eq_append_getElem hk, List.filter_append]; simp [hp]
theorem filter_miss {α : Type} {p : α → Bool} {l : List α} {k : Nat} (hk : k < l.length) (hp : p l[k] = false) : (l.take (k + 1)).filter p = (l.take k).filter p := by
  rw [List.take_succ_eq_append_getElem hk, List.filter_append]; simp [hp]
/-- The row after j of its elements have been looked at, i of them kept. -/
structure Del {α : Type} (p : α → Bool) (l : List α) (i j : Nat) (R : List α) : Prop where
  len : R.length = l.length
  le : i ≤ j
  jn : j ≤ l.length
  head : R.take i = (l.take j).filter p
  tail : R.drop j = l.drop j

theorem Del.start {α : Type} {p : α → Bool} {l : List α} {i : Nat} (hi : i < l.length) (ha : (l.take i).all p = true) (hp : p l[i] = false) : Del p l i (i + 1) l where
  len := rfl
  le := by omega
  jn := by omega
  head := by
    rw [filter_miss hi hp]
    symm
    rw [List.filter_eq_self]
    intro a hm
    rw [List.all_eq_true] at ha
    exact ha a hm
  tail := rfl

theorem Del.at {α : Type} {p : α → Bool} {l : List α} {i j : Nat} {R : List α} (h : Del p l i j R) (hj : j < l.length) : R[j]'(by rw [h.len]; exact hj) = l[j] := by
  have h1 := congrArg (fun x => x[0]?) h.tail
  simp only [List.getElem?_drop, Nat.add_zero] at h1
  rw [List.getElem?_eq_getElem (by rw [h.len]; exact hj), List.getElem?_eq_getElem hj] at h1
  injection h1

theorem Del.drop {α : Type} {p : α → Bool} {l : List α} {i j : Nat} {R : List α} (h : Del p l i j R) (hj : j < l.length) (hp : p l[j] = false) : Del p l i (j + 1) R where
  len := h.len
  le := by have := h.le; omega
  jn := by omega
  head := by rw [filter_miss hj hp, h.head]
  tail := by
    have := congrArg (List.drop 1) h.tail
    rwa [List.drop_drop, List.drop_drop] at this

theorem Del.keep {α : Type} {p : α → Bool} {l : List α} {i j : Nat} {R : List α} (h : Del p l i j R) (hj : j < l.length) (hp : p l[j] = true) : Del p l (i + 1) (j + 1) (R.set i l[j]) where
  len := by rw [List.length_set, h.len]
  le := by have := h.le; omega
  jn := by omega
  head := by
    have hi : i < R.length := by have := h.le; rw [h.len]; omega
    rw [filter_hit hj hp, ← h.head, List.take_succ_eq_append_getElem (by simpa using hi), List.take_set_of_le (Nat.le_refl _)]
    simp
  tail := by
    have := congrArg (List.drop 1) h.tail
    rw [List.drop_drop, List.drop_drop] at this
    rw [List.drop_set_of_lt (by have := h.le; omega)]
    exact this

theorem Del.end_ {α : Type} {p : α → Bool} {l : List α} {i j : Nat} {R : List α} (h : Del p l i j R) (hj : ¬ j < l.length) : R.take i = l.filter p := by
  have := h.head
  rwa [List.take_of_length_le (l := l) (by omega)] at this

end Go.Proofs.YtiljlcgmcmjcoaaGreatDoor
