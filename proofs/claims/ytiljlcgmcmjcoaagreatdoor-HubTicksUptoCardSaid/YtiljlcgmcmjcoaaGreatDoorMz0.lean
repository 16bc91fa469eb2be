import Derived.WalkKit
namespace Go.Proofs.YtiljlcgmcmjcoaaGreatDoor
open Go.RowKit
abbrev qC := List UInt8
structure Sess where
  number : Int
  who : qC
  text : qC
  size : Int
  till : Int
  deriving DecidableEq
def Sess.cells (s : Sess) : List Value := [.int .i64 s.number, .string ⟨s.who.toArray⟩, .string ⟨s.text.toArray⟩, .int .i64 s.size, .int .i64 s.till]
structure Upl where
  sess : List Sess
  next : Int
  lasts : Int
  room : Int
  deriving DecidableEq
structure Gra where
  folder : qC
  who : qC
  right : Int
  deriving DecidableEq
def Gra.cells (s : Gra) : List Value := [.string ⟨s.folder.toArray⟩, .string ⟨s.who.toArray⟩, .int .i64 s.right]
def KS (c : UInt8) : Bool :=
  (97 ≤ c.toNat && c.toNat ≤ 122) || (65 ≤ c.toNat && c.toNat ≤ 90) || (48 ≤ c.toNat && c.toNat ≤ 57) || c.toNat == 45 || c.toNat == 95 || c.toNat == 46 || c.toNat == 40 || c.toNat == 41 || c.toNat == 32
def qo (s : qC) : Bool := !s.isEmpty && decide (s.length ≤ 20) && s != [46] && s != [46, 46] && s.head? != some 32 && s.getLast? != some 32 && s.all KS
def Sl {α : Type} (c : α → List Value) (sz : Nat) (w : World) (B : Nat) (v : Value) (l : List α) : Prop :=
  ∃ A cap, v = .slice A l.length cap ∧ l.length ≤ cap ∧ cap ≤ maxLen ∧ ∀ k (h : k < l.length), ∃ b off, A = some ⟨b, off, none⟩ ∧ b < B ∧
    ∀ j u, (c l[k])[j]? = some u → w.cell? ⟨b, off + k * sz + j, none⟩ = some u
section
variable {α : Type} {c : α → List Value} {sz : Nat} {w w' : World} {B B' : Nat} {v : Value} {l : List α}
theorem Sl.nil : Sl c sz w B (.slice none 0 0) [] := ⟨none, 0, rfl, Nat.le_refl _, Nat.zero_le _, fun k h => absurd h (Nat.not_lt_zero k)⟩
theorem Sl.keep (h : Sl c sz w B v l) (hk : ∀ p : Addr, p.block < B → w'.cell? p = w.cell? p) : Sl c sz w' B v l := by
  obtain ⟨A, cap, hv, h1, h2, h3⟩ := h
  refine ⟨A, cap, hv, h1, h2, fun k hkl => ?_⟩
  obtain ⟨b, off, hA, hB, hc⟩ := h3 k hkl
  exact ⟨b, off, hA, hB, fun j u hu => (hk ⟨b, off + k * sz + j, none⟩ hB).trans (hc j u hu)⟩
theorem Sl.more (h : Sl c sz w B v l) (hB : B ≤ B') : Sl c sz w B' v l := by
  obtain ⟨A, cap, hv, h1, h2, h3⟩ := h
  refine ⟨A, cap, hv, h1, h2, fun k hkl => ?_⟩
  obtain ⟨b, off, hA, hb, hc⟩ := h3 k hkl
  exact ⟨b, off, hA, by omega, hc⟩
theorem Sl.below (h : Sl c sz w B v l) (hb : Below B w w') : Sl c sz w' B v l := h.keep fun _ hp => hb.cell hp
theorem Sl.at (h : Sl c sz w B v l) {A : Option Addr} {n cap : Nat} (hv : v = .slice A n cap) {k : Nat} (hk : k < l.length) :
    ∃ b off, A = some ⟨b, off, none⟩ ∧ b < B ∧ ∀ j u, (c l[k])[j]? = some u → w.cell? ⟨b, off + k * sz + j, none⟩ = some u := by
  obtain ⟨A', cap', hv', _, _, h3⟩ := h
  rw [hv] at hv'
  injection hv' with e1 e2 e3
  subst e1
  exact h3 k hk
end
theorem Sl.sess {w : World} {B : Nat} {A : Option Addr} {n cap : Nat} {l : List Sess} (h : Sl Sess.cells 5 w B (.slice A n cap) l) {k : Nat} (hk : k < l.length) :
    ∃ b off, A = some ⟨b, off, none⟩ ∧ b < B ∧ w.cell? ⟨b, off + k * 5, none⟩ = some (.int .i64 l[k].number) ∧ w.cell? ⟨b, off + k * 5 + 1, none⟩ = some (.string ⟨l[k].who.toArray⟩) ∧
      w.cell? ⟨b, off + k * 5 + 2, none⟩ = some (.string ⟨l[k].text.toArray⟩) ∧ w.cell? ⟨b, off + k * 5 + 3, none⟩ = some (.int .i64 l[k].size) ∧ w.cell? ⟨b, off + k * 5 + 4, none⟩ = some (.int .i64 l[k].till) := by
  obtain ⟨b, off, hA, hB, hc⟩ := h.at rfl hk
  exact ⟨b, off, hA, hB, hc 0 _ rfl, hc 1 _ rfl, hc 2 _ rfl, hc 3 _ rfl, hc 4 _ rfl⟩
theorem Sl.gra {w : World} {B : Nat} {A : Option Addr} {n cap : Nat} {l : List Gra} (h : Sl Gra.cells 3 w B (.slice A n cap) l) {k : Nat} (hk : k < l.length) :
    ∃ b off, A = some ⟨b, off, none⟩ ∧ b < B ∧ w.cell? ⟨b, off + k * 3, none⟩ = some (.string ⟨l[k].folder.toArray⟩) ∧ w.cell? ⟨b, off + k * 3 + 1, none⟩ = some (.string ⟨l[k].who.toArray⟩) ∧
      w.cell? ⟨b, off + k * 3 + 2, none⟩ = some (.int .i64 l[k].right) := by
  obtain ⟨b, off, hA, hB, hc⟩ := h.at rfl hk
  exact ⟨b, off, hA, hB, hc 0 _ rfl, hc 1 _ rfl, hc 2 _ rfl⟩
theorem Vy {α : Type} {l : List α} {k : Nat} (h : k < l.length) : l.take (k + 1) = l.take k ++ [l[k]] := by
  rw [List.take_succ_eq_append_getElem h]
end Go.Proofs.YtiljlcgmcmjcoaaGreatDoor
set_option linter.unusedSimpArgs false
set_option linter.unnecessarySimpa false
namespace Go.Proofs.YtiljlcgmcmjcoaaGreatDoor
def qk : qC → List qC
  | [] => [[]]
  | c :: s => if c = 47 then [] :: qk s else match qk s with | [] => [[c]] | n :: l => (c :: n) :: l
def yU : List qC → qC
  | [] => []
  | [n] => n
  | n :: l => n ++ 47 :: yU l
theorem xD (p : qC) : qk p ≠ [] := by
  cases p with
  | nil => simp [qk]
  | cons c s => simp only [qk]; split <;> (try split) <;> simp
theorem xq : ∀ {a : qC}, (47 : UInt8) ∉ a → qk a = [a]
  | [], _ => rfl
  | c :: s, h => by
    have hc : c ≠ 47 := fun e => h (by simp [e])
    have hs : (47 : UInt8) ∉ s := fun e => h (by simp [e])
    simp [qk, hc, xq hs]
theorem kO : ∀ {a : qC} (b : qC), (47 : UInt8) ∉ a → qk (a ++ 47 :: b) = a :: qk b
  | [], b, _ => by simp [qk]
  | c :: s, b, h => by
    have hc : c ≠ 47 := fun e => h (by simp [e])
    have hs : (47 : UInt8) ∉ s := fun e => h (by simp [e])
    simp [qk, hc, kO b hs]
theorem YT : ∀ (p : qC), ∀ n, n ∈ qk p → (47 : UInt8) ∉ n
  | [], n, h => by simp [qk] at h; subst h; simp
  | c :: s, n, h => by
    have ih := YT s
    simp only [qk] at h
    split at h
    · rcases List.mem_cons.1 h with rfl | h
      · simp
      · exact ih n h
    · rename_i hc
      split at h
      · simp at h; subst h; simpa using fun e => hc e.symm
      · rename_i m l hm
        rcases List.mem_cons.1 h with rfl | h
        · have := ih m (by rw [hm]; simp)
          simp only [List.mem_cons, not_or]; exact ⟨fun e => hc e.symm, this⟩
        · exact ih n (by rw [hm]; simp [h])
theorem zt {n : qC} {l : List qC} (h : l ≠ []) : yU (n :: l) = n ++ 47 :: yU l := by
  cases l with
  | nil => exact absurd rfl h
  | cons m l => rfl
theorem xC : ∀ (p : qC), yU (qk p) = p
  | [] => rfl
  | c :: s => by
    have ih := xC s
    have hne := xD s
    simp only [qk]
    split
    · rename_i hc; subst hc
      rw [zt hne, ih]; rfl
    · split
      · rename_i h; exact absurd h hne
      · rename_i n l h
        rw [h] at ih
        cases l with
        | nil => simp only [yU] at ih ⊢; rw [ih]
        | cons m l => rw [zt (by simp)] at ih ⊢; rw [← ih]; rfl
theorem J8 : ∀ {l : List qC}, l ≠ [] → (∀ n, n ∈ l → (47 : UInt8) ∉ n) → qk (yU l) = l
  | [], h, _ => absurd rfl h
  | [n], _, hf => xq (hf n (by simp))
  | n :: m :: l, _, hf => by
    rw [zt (by simp), kO _ (hf n (by simp)), J8 (by simp) fun x hx => hf x (by simp [hx])]
theorem Jb (p : qC) : (qk p).length = p.count 47 + 1 := by
  induction p with
  | nil => rfl
  | cons c s ih =>
    have hne := xD s
    simp only [qk]
    split
    · rename_i hc; subst hc; simp [ih]
    · rename_i hc
      rw [List.count_cons_of_ne (fun e => hc e)]
      split
      · rename_i h; exact absurd h hne
      · rename_i n l h; rw [h] at ih; exact ih
theorem zp (a b : qC) : qk (a ++ 47 :: b) = qk a ++ qk b := by
  induction a with
  | nil => simp [qk]
  | cons c s ih =>
    have hne := xD s
    simp only [List.cons_append, qk, ih]
    split
    · rfl
    · split
      · rename_i h; exact absurd (List.append_eq_nil_iff.1 h).1 hne
      · rename_i n l h
        split
        · rename_i h'; exact absurd h' hne
        · rename_i n' l' h'
          rw [h'] at h
          simp only [List.cons_append, List.cons.injEq] at h
          obtain ⟨rfl, rfl⟩ := h; rfl
theorem Qs {a b : List qC} (ha : a ≠ []) (hb : b ≠ []) : yU (a ++ b) = yU a ++ 47 :: yU b := by
  induction a with
  | nil => exact absurd rfl ha
  | cons n l ih =>
    cases l with
    | nil => rw [List.singleton_append, zt hb]; rfl
    | cons m l => rw [List.cons_append, zt (l := m :: l ++ b) (by simp), ih (by simp), zt (n := n) (l := m :: l) (by simp)]; simp
theorem Wt (p q : qC) : qk q <+: qk p ↔ p = q ∨ (q ++ [47]) <+: p := by
  constructor
  · rintro ⟨t, ht⟩
    cases t with
    | nil =>
      left
      rw [List.append_nil] at ht
      rw [← xC p, ← ht, xC]
    | cons n t =>
      right
      have h := xC p
      rw [← ht, Qs (xD q) (by simp), xC] at h
      exact ⟨yU (n :: t), by rw [List.append_assoc]; exact h⟩
  · rintro (rfl | ⟨t, ht⟩)
    · exact List.prefix_refl _
    · rw [← ht, List.append_assoc]
      exact ⟨qk t, by rw [← zp]; rfl⟩
def xF (c : UInt8) : qC → Int
  | [] => -1
  | x :: l => if 0 ≤ xF c l then xF c l + 1 else if x = c then 0 else -1
theorem vR {c : UInt8} : ∀ {p : qC}, c ∉ p → xF c p = -1
  | [], _ => rfl
  | x :: l, h => by
    have h1 : ¬ x = c := fun e => h (by simp [e])
    have h2 := vR (c := c) (p := l) fun e => h (by simp [e])
    simp [xF, h2, h1]
theorem wi {c : UInt8} : ∀ {a b : qC}, c ∉ b → xF c (a ++ c :: b) = a.length
  | [], b, h => by simp [xF, vR h]
  | x :: a, b, h => by
    have h2 := wi (a := a) h
    simp only [List.cons_append, xF, h2, List.length_cons]
    rw [if_pos (by omega)]; omega
theorem Jh {c : UInt8} : ∀ (p : qC), c ∉ p ∨ ∃ a b, p = a ++ c :: b ∧ c ∉ b
  | [] => .inl (by simp)
  | x :: l => by
    rcases Jh (c := c) l with h | ⟨a, b, h1, h2⟩
    · by_cases e : x = c
      · exact .inr ⟨[], l, by simp [e], h⟩
      · exact .inl (by simp only [List.mem_cons, not_or]; exact ⟨fun h => e h.symm, h⟩)
    · exact .inr ⟨x :: a, b, by simp [h1], h2⟩
theorem qbQ {c : UInt8} {p : qC} {k : Nat} (hk : k < p.length) (he : p[k] = c) (h : c ∉ p.drop (k + 1)) : xF c p = k := by
  have h1 : p = p.take k ++ c :: p.drop (k + 1) := by rw [← he, ← List.drop_eq_getElem_cons hk, List.take_append_drop]
  rw [h1, wi h, List.length_take, Nat.min_eq_left (by omega)]
theorem Zp (c : UInt8) (p : qC) : -1 ≤ xF c p ∧ xF c p < p.length := by
  rcases Jh (c := c) p with h | ⟨a, b, h1, h2⟩
  · rw [vR h]; omega
  · rw [h1, wi h2]; simp; omega
def qN (p : qC) : qC := p.take (xF 47 p).toNat
def xL (p : qC) : qC := p.drop (xF 47 p + 1).toNat
theorem zl (p : qC) : qk p = (qk p).dropLast ++ [xL p] ∧ yU (qk p).dropLast = qN p := by
  rcases Jh (c := 47) p with h | ⟨a, b, h1, h2⟩
  · rw [xq h, xL, qN, vR h]
    exact ⟨by simp, rfl⟩
  · have h3 := wi (a := a) h2
    have h4 : xL p = b := by
      rw [xL, h1, h3, show ((a.length : Int) + 1).toNat = a.length + 1 from by omega]
      rw [List.drop_append, List.drop_of_length_le (by omega), List.nil_append, show a.length + 1 - a.length = 1 from by omega]; rfl
    have h5 : qN p = a := by
      rw [qN, h1, h3, show (a.length : Int).toNat = a.length from by omega, List.take_left]
    have h6 : qk p = qk a ++ [b] := by rw [h1, zp, xq h2]
    rw [h4, h5, h6]
    exact ⟨by simp, by simp [xC]⟩
def yn (p : qC) : Bool := decide (6 < (qk p).length) || decide (80 < p.length)
def qD (p : qC) : Int := if (qk p).all qo then (if yn p then 2 else 0) else 1
theorem QS (p : qC) : yn p = (decide (6 ≤ p.count 47) || decide (80 < p.length)) := by
  unfold yn
  rw [Jb]
  congr 1
  simp only [decide_eq_decide]; omega
def yG : List qC → Int
  | [] => 0
  | p :: l => if qD p = 0 then yG l else qD p
def inB (p q : qC) : Bool := decide (p = q) || (q ++ [47]).isPrefixOf p
theorem Vj (p q : qC) : inB p q = (qk q).isPrefixOf (qk p) := by
  rw [Bool.eq_iff_iff, List.isPrefixOf_iff_prefix, Wt]
  simp [inB]
theorem Kk {p f t : qC} (h : inB p f = true) : yU (qk t ++ (qk p).drop (qk f).length) = t ++ p.drop f.length := by
  simp only [inB, Bool.or_eq_true, decide_eq_true_eq, List.isPrefixOf_iff_prefix] at h
  rcases h with rfl | ⟨s, rfl⟩
  · rw [List.drop_of_length_le (Nat.le_refl _), List.drop_of_length_le (Nat.le_refl _), List.append_nil, List.append_nil, xC]
  · rw [List.append_assoc]
    show yU (qk t ++ (qk (f ++ 47 :: s)).drop (qk f).length) = _
    rw [zp, List.drop_left, Qs (xD _) (xD _), xC, xC]
    congr 1
    rw [List.drop_left]; rfl
theorem ZO (s : qC) : qk (s ++ [47]) = qk s ++ [[]] := zp s []
theorem Wv {c : UInt8} (h : ¬ c = 47) (s : qC) : qk (s ++ [c]) = (qk s).dropLast ++ [xL s ++ [c]] := by
  rcases Jh (c := 47) s with hs | ⟨a, b, h1, h2⟩
  · have h3 : (47 : UInt8) ∉ s ++ [c] := by simp only [List.mem_append, List.mem_singleton, not_or]; exact ⟨hs, fun e => h e.symm⟩
    rw [xq h3, xq hs, xL, vR hs]; rfl
  · have h3 : (47 : UInt8) ∉ b ++ [c] := by simp only [List.mem_append, List.mem_singleton, not_or]; exact ⟨h2, fun e => h e.symm⟩
    have h4 := (zl s).1
    have h5 : qk s = qk a ++ [b] := by rw [h1, zp, xq h2]
    have h6 : xL s = b := by
      rw [h5] at h4
      simp only [List.dropLast_concat] at h4
      have := List.append_cancel_left h4
      simpa using this.symm
    rw [h6, h5, h1, List.append_assoc]
    show qk (a ++ 47 :: (b ++ [c])) = _
    rw [zp, xq h3, List.dropLast_concat]
theorem ZJ (s : qC) : (xL s).length ≤ s.length ∧ s.drop (s.length - (xL s).length) = xL s := by
  unfold xL
  refine ⟨by simp, ?_⟩
  rw [List.length_drop]
  by_cases h : (xF 47 s + 1).toNat ≤ s.length
  · congr 1; omega
  · have := Zp 47 s; omega
theorem XN {l : List qC} {i : Nat} (h : i < l.length) (h0 : 0 < i) : yU (l.take (i + 1)) = yU (l.take i) ++ [47] ++ l[i] := by
  rw [List.take_succ_eq_append_getElem h, Qs (by intro e; rw [List.take_eq_nil_iff] at e; rcases e with e | e <;> simp_all) (by simp)]
  simp [yU]
theorem YV {l : List qC} (h : 0 < l.length) : yU (l.take 1) = l[0] := by
  cases l with
  | nil => simp at h
  | cons x l => simp [yU]
theorem qbv {a b : List qC} (hl : b.length ≤ a.length) (h : ∀ k (hk : k < b.length), a[k] = b[k]) : b.isPrefixOf a = true := by
  rw [List.isPrefixOf_iff_prefix, List.prefix_iff_eq_take]
  refine List.ext_getElem (by simp; omega) fun i h1 h2 => ?_
  rw [List.getElem_take]; exact (h i h1).symm
theorem qbE {a b : List qC} (hl : ¬ b.length ≤ a.length) : b.isPrefixOf a = false := by
  cases h : b.isPrefixOf a
  · rfl
  · exact absurd (List.isPrefixOf_iff_prefix.1 h).length_le hl
theorem qbm {a b : List qC} {k : Nat} (hl : b.length ≤ a.length) (hk : k < b.length) (h : ¬ a[k] = b[k]) : b.isPrefixOf a = false := by
  cases e : b.isPrefixOf a
  · rfl
  · obtain ⟨t, rfl⟩ := List.isPrefixOf_iff_prefix.1 e
    exact absurd (List.getElem_append_left hk) h
end Go.Proofs.YtiljlcgmcmjcoaaGreatDoor
set_option linter.unusedSimpArgs false
namespace Go.Proofs.YtiljlcgmcmjcoaaGreatDoor
def yg {α : Type} (p : α → Bool) : List α → Int
  | [] => -1
  | x :: l => if p x then 0 else if yg p l < 0 then -1 else yg p l + 1
theorem vV {α : Type} {p : α → Bool} : ∀ {l : List α} {k : Nat} (hk : k < l.length), (∀ x, x ∈ l.take k → p x = false) → p l[k] = true → yg p l = k
  | x :: l, 0, hk, _, hp => by simp only [List.getElem_cons_zero] at hp; simp [yg, hp]
  | x :: l, k + 1, hk, h, hp => by
    have hx : p x = false := h x (by simp)
    have := vV (l := l) (k := k) (by simpa using hk) (fun y hy => h y (by simp [hy])) (by simpa using hp)
    simp only [yg, hx, Bool.false_eq_true, if_false, this]
    rw [if_neg (by omega)]; omega
theorem xU {α : Type} {p : α → Bool} : ∀ {l : List α}, (∀ x, x ∈ l → p x = false) → yg p l = -1
  | [], _ => rfl
  | x :: l, h => by
    have := xU (l := l) fun y hy => h y (by simp [hy])
    simp [yg, h x (by simp), this]
theorem xt {α : Type} (p : α → Bool) : ∀ (l : List α), (yg p l = -1 ∧ ∀ x, x ∈ l → p x = false) ∨ ∃ (k : Nat) (h : k < l.length), yg p l = k ∧ (∀ x, x ∈ l.take k → p x = false) ∧ p l[k] = true
  | [] => .inl ⟨rfl, by simp⟩
  | x :: l => by
    by_cases hx : p x = true
    · exact .inr ⟨0, by simp, by simp [yg, hx], by simp, by simpa using hx⟩
    · have hx : p x = false := by simpa using hx
      rcases xt p l with ⟨h1, h2⟩ | ⟨k, hk, h1, h2, h3⟩
      · exact .inl ⟨by simp [yg, hx, h1], by simpa [hx] using h2⟩
      · refine .inr ⟨k + 1, by simpa using hk, ?_, ?_, by simpa using h3⟩
        · simp only [yg, hx, Bool.false_eq_true, if_false, h1]
          rw [if_neg (by omega)]; omega
        · intro y hy
          simp only [List.take_succ_cons, List.mem_cons] at hy
          rcases hy with rfl | hy
          · exact hx
          · exact h2 y hy
theorem Xn {α : Type} (p : α → Bool) (l : List α) : decide (0 ≤ yg p l) = l.any p := by
  rcases xt p l with ⟨h1, h2⟩ | ⟨k, hk, h1, h2, h3⟩
  · rw [h1, eq_comm, show decide ((0 : Int) ≤ -1) = false from rfl, List.any_eq_false]
    intro x hx
    simp [h2 x hx]
  · rw [h1, eq_comm, show decide ((0 : Int) ≤ (k : Int)) = true from decide_eq_true (by omega), List.any_eq_true]
    exact ⟨l[k], List.getElem_mem _, h3⟩
theorem qK {α : Type} {l : List α} {k : Nat} (hk : k < l.length) {p : α → Prop} (h : ∀ x, x ∈ l.take k → p x) (hx : p l[k]) : ∀ x, x ∈ l.take (k + 1) → p x := by
  intro x hm
  rw [List.take_succ_eq_append_getElem hk] at hm
  rcases List.mem_append.1 hm with hm | hm
  · exact h x hm
  · simp at hm; exact hm ▸ hx
end Go.Proofs.YtiljlcgmcmjcoaaGreatDoor
set_option linter.unusedSimpArgs false
set_option linter.unnecessarySimpa false
namespace Go.Proofs.YtiljlcgmcmjcoaaGreatDoor
open Go.Op
def vv (a b : qC) : Int := if Op.bytesLess a b = true then -1 else if (!(Op.bytesLess a b || decide (a = b))) = true then 1 else 0
theorem wg : ∀ (a b : List UInt8), (bytesLess a b = true ∧ bytesLess b a = false ∧ a ≠ b) ∨ (a = b ∧ bytesLess a b = false ∧ bytesLess b a = false) ∨ (bytesLess b a = true ∧ bytesLess a b = false ∧ a ≠ b)
  | [], [] => .inr (.inl ⟨rfl, rfl, rfl⟩)
  | [], b :: y => .inl ⟨rfl, rfl, by simp⟩
  | a :: x, [] => .inr (.inr ⟨rfl, rfl, by simp⟩)
  | a :: x, b :: y => by
    simp only [bytesLess]
    by_cases h1 : a < b
    · have h2 : ¬ b < a := by rw [UInt8.lt_iff_toNat_lt] at *; omega
      have h3 : a ≠ b := by rintro rfl; exact h2 h1
      have h4 : b ≠ a := fun h => h3 h.symm
      exact .inl (by simp [h1, h2, h3, h4])
    · by_cases h2 : b < a
      · have h3 : a ≠ b := by rintro rfl; exact h1 h2
        have h4 : b ≠ a := fun h => h3 h.symm
        exact .inr (.inr (by simp [h1, h2, h3, h4]))
      · have h3 : a = b := by
          have : a.toNat = b.toNat := by rw [UInt8.lt_iff_toNat_lt] at *; omega
          exact UInt8.toNat.inj this
        subst h3
        simp only [h1, decide_false, Bool.false_or, beq_self_eq_true, Bool.true_and, List.cons.injEq, true_and, ne_eq]
        exact wg x y
theorem xZ : ∀ {a b c : List UInt8}, bytesLess a b = true → bytesLess b c = true → bytesLess a c = true
  | _, _, [], _, h => by cases ‹List UInt8› <;> simp [bytesLess] at h
  | a, [], _ :: _, h, _ => by cases a <;> simp [bytesLess] at h
  | [], _ :: _, _ :: _, _, _ => rfl
  | a :: x, b :: y, c :: z, h1, h2 => by
    simp only [bytesLess, Bool.or_eq_true, Bool.and_eq_true, decide_eq_true_eq, beq_iff_eq, UInt8.lt_iff_toNat_lt] at *
    rcases h1 with h1 | ⟨rfl, h1⟩
    · rcases h2 with h2 | ⟨rfl, h2⟩
      · exact .inl (by omega)
      · exact .inl h1
    · rcases h2 with h2 | ⟨rfl, h2⟩
      · exact .inl h2
      · exact .inr ⟨rfl, xZ h1 h2⟩
theorem xH (a : List UInt8) : bytesLess a a = false := by
  rcases wg a a with h | h | h
  · exact absurd rfl h.2.2
  · exact h.2.1
  · exact absurd rfl h.2.2
theorem z2 (a b : qC) : vv a b < 0 ↔ bytesLess a b = true := by
  unfold vv; rcases wg a b with ⟨h1, h2, h3⟩ | ⟨rfl, h2, h3⟩ | ⟨h1, h2, h3⟩ <;> simp [*]
theorem xd (a b : qC) : vv a b = 0 ↔ a = b := by
  unfold vv; rcases wg a b with ⟨h1, h2, h3⟩ | ⟨rfl, h2, h3⟩ | ⟨h1, h2, h3⟩ <;> simp [*]
theorem Zw (a b : qC) : 0 < vv a b ↔ bytesLess b a = true := by
  unfold vv; rcases wg a b with ⟨h1, h2, h3⟩ | ⟨rfl, h2, h3⟩ | ⟨h1, h2, h3⟩ <;> simp [*]
theorem XW (a : qC) : vv a a = 0 := (xd a a).2 rfl
def jI {α : Type} (f : α → Int) : List α → Int
  | [] => 0
  | x :: l => if f x = 0 then jI f l else f x
def qt {α : Type} (lt : α → α → Bool) : List α → Bool
  | [] => true
  | x :: l => (match l with | [] => true | y :: _ => lt x y) && qt lt l
theorem jE {α : Type} {f : α → Int} : ∀ {l : List α}, jI f l = 0 ↔ ∀ x, x ∈ l → f x = 0
  | [] => by simp [jI]
  | x :: l => by
    simp only [jI, List.mem_cons, forall_eq_or_imp]
    by_cases h : f x = 0
    · simp [h, jE (l := l)]
    · simp [h]
theorem zv {α : Type} {f : α → Int} {l : List α} {k : Nat} (hk : k < l.length) (h : ∀ x, x ∈ l.take k → f x = 0) (he : f l[k] ≠ 0) : jI f l = f l[k] := by
  induction l generalizing k with
  | nil => simp at hk
  | cons x l ih =>
    cases k with
    | zero => simp only [jI, List.getElem_cons_zero] at he ⊢; rw [if_neg he]
    | succ k =>
      have hx : f x = 0 := h x (by simp)
      simp only [jI, hx, if_true, List.getElem_cons_succ]
      exact ih (by simpa using hk) (fun y hy => h y (by simp [hy])) (by simpa using he)
theorem jW {α : Type} {lt : α → α → Bool} : ∀ {l : List α}, qt lt l = true ↔ ∀ (k : Nat) (h : k + 1 < l.length), lt (l[k]'(by omega)) l[k + 1] = true
  | [] => by simp [qt]
  | [x] => by simp [qt]
  | x :: y :: l => by
    have ih := jW (lt := lt) (l := y :: l)
    simp only [qt, Bool.and_eq_true] at ih ⊢
    constructor
    · rintro ⟨h1, h2⟩ k hk
      cases k with
      | zero => exact h1
      | succ k => exact ih.1 h2 k (by simpa using hk)
    · intro h
      exact ⟨h 0 (by simp), ih.2 fun k hk => h (k + 1) (by simpa using hk)⟩
structure Ent where
  path : qC
  fold : Bool
  text : qC
  ver : Int
  deriving DecidableEq
structure Chg where
  kind : Int
  path : qC
  to : qC
  text : qC
  base : Int
  deriving DecidableEq
def ya (a b : Ent) : Bool := bytesLess a.path b.path
def atP (p : qC) (x : Ent) : Bool := decide (x.path = p)
def xe (t : List Ent) (p : qC) : Nat := (t.takeWhile (fun x => bytesLess x.path p)).length
def yB (t : List Ent) (p : qC) : Bool := t.any (atP p)
def vd (n : Int) : Bool := decide (1 ≤ n) && decide (n ≤ 1000000)
def xa (e : Ent) : Int := if qD e.path = 0 then (if e.fold = true ∧ ¬ e.text = [] then 1 else if 300 < e.text.length then 2 else if vd e.ver = true then 0 else 3) else qD e.path
def yl (t : List Ent) (q : qC) : Int := if q = [] then 0 else match t.find? (atP q) with | none => 5 | some x => if x.fold = true then 0 else 4
def yr (t : List Ent) (x : Ent) : Int := yl t (qN x.path)
def jC (t : List Ent) : Int :=
  if 60 < t.length then 2
  else if jI xa t = 0 then
    if qt ya t = true then
      if t.any (fun x => decide (yr t x = 5)) = true then 5
      else if t.any (fun x => decide (¬ yr t x = 0)) = true then 4 else 0
    else 4
  else jI xa t
theorem zf {t : List Ent} (h : qt ya t = true) : ∀ (j k : Nat) (hj : j < t.length) (hk : k < t.length), j < k → bytesLess t[j].path t[k].path = true := by
  intro j k hj hk hjk
  induction k with
  | zero => omega
  | succ k ih =>
    have h1 : bytesLess t[k].path t[k + 1].path = true := jW.1 h k hk
    by_cases e : j = k
    · subst e; exact h1
    · exact xZ (ih (by omega) (by omega)) h1
theorem vi {t : List Ent} : qt ya t = true ↔ t.Pairwise (fun a b => bytesLess a.path b.path = true) := by
  rw [List.pairwise_iff_getElem]
  constructor
  · intro h i j hi hj hij
    exact zf h i j hi hj hij
  · intro h
    exact jW.2 fun k hk => h k (k + 1) (by omega) hk (by omega)
theorem Ws {p : qC} : ∀ {t : List Ent} {k : Nat}, k ≤ t.length → (∀ (j : Nat) (h : j < t.length), j < k → bytesLess t[j].path p = true) → (∀ (h : k < t.length), bytesLess t[k].path p = false) → xe t p = k
  | [], k, hk, _, _ => by simp at hk; simp [xe, hk]
  | x :: l, 0, hk, _, h2 => by
    have := h2 (by simp)
    simp only [List.getElem_cons_zero] at this
    simp [xe, List.takeWhile_cons, this]
  | x :: l, k + 1, hk, h1, h2 => by
    have hx : bytesLess x.path p = true := h1 0 (by simp) (by omega)
    have := Ws (t := l) (k := k) (by simpa using hk) (fun j h hj => h1 (j + 1) (by simpa using h) (by omega)) (fun h => h2 (by simpa using h))
    simp only [xe] at this
    simp [xe, List.takeWhile_cons, hx, this]
theorem qgo (t : List Ent) (p : qC) : xe t p ≤ t.length := by
  induction t with
  | nil => simp [xe]
  | cons x l ih => simp only [xe, List.takeWhile_cons] at *; split <;> simp <;> omega
theorem qcH {t : List Ent} {p : qC} (hs : qt ya t = true) {k : Nat} (hk : k < t.length) (he : t[k].path = p) : xe t p = k := by
  refine Ws (by omega) (fun j hj hjk => ?_) (fun _ => ?_)
  · rw [← he]; exact zf hs j k hj hk hjk
  · rw [← he]; exact xH _
theorem WO {t : List Ent} {p : qC} (hs : qt ya t = true) : yB t p = (match t[xe t p]? with | some x => decide (vv x.path p = 0) | none => false) := by
  rcases xt (atP p) t with ⟨_, h2⟩ | ⟨k, hk, _, _, h3⟩
  · have : yB t p = false := List.any_eq_false.2 (fun x hx => by rw [h2 x hx]; simp)
    rw [this]
    split
    · rename_i x hx
      have hm := List.mem_of_getElem? hx
      have := h2 x hm
      rw [eq_comm, decide_eq_false_iff_not, xd]
      simpa [atP] using this
    · rfl
  · have he : t[k].path = p := by simpa [atP] using h3
    have : yB t p = true := List.any_eq_true.2 ⟨t[k], List.getElem_mem _, h3⟩
    rw [this, qcH hs hk he, List.getElem?_eq_getElem hk]
    simp [he, XW]
theorem ka {t : List Ent} {p : qC} (hs : qt ya t = true) (h : yB t p = true) : ∃ hk : xe t p < t.length, t[xe t p].path = p ∧ t.find? (atP p) = some t[xe t p] ∧ yg (atP p) t = xe t p := by
  obtain ⟨x, hx, hk⟩ := List.any_eq_true.1 h
  obtain ⟨k, hkl, rfl⟩ := List.getElem_of_mem hx
  have he : t[k].path = p := by simpa [atP] using hk
  have hp := qcH hs hkl he
  have hbef : ∀ j (hj : j < k), atP p (t[j]'(by omega)) = false := fun j hj => by
    have h1 := zf hs j k (by omega) hkl hj
    have : ¬ t[j].path = p := fun e => by rw [e, he, xH] at h1; cases h1
    simp [atP, this]
  refine ⟨by omega, by simp only [hp]; exact he, ?_, ?_⟩
  · simp only [hp]
    rw [List.find?_eq_some_iff_getElem]
    exact ⟨hk, k, hkl, rfl, fun j hj => by rw [hbef j hj]; rfl⟩
  · rw [hp]
    refine vV hkl (fun x hx => ?_) hk
    obtain ⟨j, hj, rfl⟩ := List.getElem_of_mem hx
    rw [List.getElem_take]
    exact hbef j (by simp at hj; omega)
theorem xx {t : List Ent} {p : qC} (h : yB t p = false) : t.find? (atP p) = none ∧ yg (atP p) t = -1 := by
  have h1 := List.any_eq_false.1 h
  exact ⟨List.find?_eq_none.2 h1, xU fun x hx => by simpa using h1 x hx⟩
theorem Qk {α : Type} (p : α → Bool) (l : List α) : (yg p l = -1 ∧ l.find? p = none) ∨ ∃ (k : Nat) (h : k < l.length), yg p l = k ∧ l.find? p = some l[k] := by
  rcases xt p l with ⟨h1, h2⟩ | ⟨k, hk, h1, h2, h3⟩
  · exact .inl ⟨h1, List.find?_eq_none.2 fun x hx => by rw [h2 x hx]; simp⟩
  · refine .inr ⟨k, hk, h1, ?_⟩
    rw [List.find?_eq_some_iff_getElem]
    refine ⟨h3, k, hk, rfl, fun j hj => ?_⟩
    rw [h2 _ (List.mem_take_iff_getElem.2 ⟨j, by omega, rfl⟩)]; rfl
end Go.Proofs.YtiljlcgmcmjcoaaGreatDoor
namespace Go.Proofs.YtiljlcgmcmjcoaaGreatDoor
def qA (n a b : Int) : Bool := decide (a ≤ n) && decide (n ≤ b)
def jX (l : List Sess) (who : qC) : Int := (l.map fun s => if s.who = who then s.size else 0).sum
def j9 (next : Int) (s : Sess) : Int :=
  if qA s.number 1 (next - 1) && qA s.size 0 300 && qA s.till 0 2199023255552 then
    if qo s.who then if s.size < s.text.length then 2 else 0 else 1
  else 3
def vT (u : Upl) : Bool := qA u.lasts 1 1000000 && qA u.room 0 100000 && qA u.next 1 1099511627776
def Vv (u : Upl) : Bool := u.sess.all fun s => decide (jX u.sess s.who ≤ u.room)
def yu (u : Upl) : Int :=
  if vT u then
    if 20 < u.sess.length then 2
    else if jI (j9 u.next) u.sess = 0 then
      if qt (fun a b => decide (a.number < b.number)) u.sess then
        if Vv u then 0 else 10
      else 4
    else jI (j9 u.next) u.sess
  else 3
theorem vk {next : Int} {s : Sess} (h : j9 next s = 0) : 0 ≤ s.size ∧ s.size ≤ 300 := by
  unfold j9 at h
  split at h
  · rename_i h1
    simp [qA] at h1; omega
  · cases h
theorem XL (l : List Sess) (s : Sess) (who : qC) : jX (l ++ [s]) who = jX l who + (if s.who = who then s.size else 0) := by simp [jX]
theorem XY {l : List Sess} {k : Nat} (h : k < l.length) (who : qC) : jX (l.take (k + 1)) who = jX (l.take k) who + (if l[k].who = who then l[k].size else 0) := by
  rw [List.take_succ_eq_append_getElem h, XL]
theorem Kh {l : List Sess} (who : qC) (h : ∀ s, s ∈ l → 0 ≤ s.size ∧ s.size ≤ 300) : 0 ≤ jX l who ∧ jX l who ≤ 300 * l.length := by
  induction l with
  | nil => simp [jX]
  | cons s l ih =>
    obtain ⟨h1, h2⟩ := ih fun s hs => h s (List.mem_cons_of_mem _ hs)
    obtain ⟨h3, h4⟩ := h s (List.mem_cons_self ..)
    have : jX (s :: l) who = (if s.who = who then s.size else 0) + jX l who := by simp [jX]
    rw [this]
    split <;> simp <;> omega
theorem XV {l : List Sess} (who : qC) (h : ∀ s, s ∈ l → 0 ≤ s.size ∧ s.size ≤ 300) (k : Nat) : 0 ≤ jX (l.take k) who ∧ jX (l.take k) who ≤ 300 * k := by
  obtain ⟨h1, h2⟩ := Kh (l := l.take k) who (fun s hs => h s (List.mem_of_mem_take hs))
  exact ⟨h1, by have : (l.take k).length ≤ k := List.length_take_le _ _; omega⟩
theorem VA {α : Type} {p : α → Bool} {l : List α} {k : Nat} (hk : k < l.length) (hp : p l[k] = true) : (l.take (k + 1)).filter p = (l.take k).filter p ++ [l[k]] := by
  rw [List.take_succ_eq_append_getElem hk, List.filter_append]; simp [hp]
theorem Je {α : Type} {p : α → Bool} {l : List α} {k : Nat} (hk : k < l.length) (hp : p l[k] = false) : (l.take (k + 1)).filter p = (l.take k).filter p := by
  rw [List.take_succ_eq_append_getElem hk, List.filter_append]; simp [hp]
structure Del {α : Type} (p : α → Bool) (l : List α) (i j : Nat) (R : List α) : Prop where
  len : R.length = l.length
  le : i ≤ j
  jn : j ≤ l.length
  head : R.take i = (l.take j).filter p
  tail : R.drop j = l.drop j
theorem Del.start {α : Type} {p : α → Bool} {l : List α} {i : Nat} (hi : i < l.length) (ha : (l.take i).all p = true) (hp : p l[i] = false) : Del p l i (i + 1) l where
  len := rfl
  le := by omega
  jn := by omega
  head := by
    rw [Je hi hp]
    symm
    rw [List.filter_eq_self]
    intro a hm
    rw [List.all_eq_true] at ha
    exact ha a hm
  tail := rfl
theorem Del.at {α : Type} {p : α → Bool} {l : List α} {i j : Nat} {R : List α} (h : Del p l i j R) (hj : j < l.length) : R[j]'(by rw [h.len]; exact hj) = l[j] := by
  have h1 := congrArg (fun x => x[0]?) h.tail
  simp only [List.getElem?_drop, Nat.add_zero] at h1
  rw [List.getElem?_eq_getElem (by rw [h.len]; exact hj), List.getElem?_eq_getElem hj] at h1
  injection h1
theorem Del.drop {α : Type} {p : α → Bool} {l : List α} {i j : Nat} {R : List α} (h : Del p l i j R) (hj : j < l.length) (hp : p l[j] = false) : Del p l i (j + 1) R where
  len := h.len
  le := by have := h.le; omega
  jn := by omega
  head := by rw [Je hj hp, h.head]
  tail := by
    have := congrArg (List.drop 1) h.tail
    rwa [List.drop_drop, List.drop_drop] at this
theorem Del.keep {α : Type} {p : α → Bool} {l : List α} {i j : Nat} {R : List α} (h : Del p l i j R) (hj : j < l.length) (hp : p l[j] = true) : Del p l (i + 1) (j + 1) (R.set i l[j]) where
  len := by rw [List.length_set, h.len]
  le := by have := h.le; omega
  jn := by omega
  head := by
    have hi : i < R.length := by have := h.le; rw [h.len]; omega
    rw [VA hj hp, ← h.head, List.take_succ_eq_append_getElem (by simpa using hi), List.take_set_of_le (Nat.le_refl _)]
    simp
  tail := by
    have := congrArg (List.drop 1) h.tail
    rw [List.drop_drop, List.drop_drop] at this
    rw [List.drop_set_of_lt (by have := h.le; omega)]
    exact this
theorem Del.end_ {α : Type} {p : α → Bool} {l : List α} {i j : Nat} {R : List α} (h : Del p l i j R) (hj : ¬ j < l.length) : R.take i = l.filter p := by
  have := h.head
  rwa [List.take_of_length_le (l := l) (by omega)] at this
end Go.Proofs.YtiljlcgmcmjcoaaGreatDoor
