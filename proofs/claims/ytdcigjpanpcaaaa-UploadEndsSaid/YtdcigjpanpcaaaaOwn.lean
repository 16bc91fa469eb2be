/- Rows that a call owns, as lists of plain data; small laws on lists for loops that check. -/
import Derived.Test.YtdcigjpanpcaaaaData
import Derived.Laws.OwnMore
import Derived.Deep.QuietTactic
namespace Go.Proofs.Ytdcigjpanpcaaaa
open Go.RowKit

theorem flat_len {α : Type} {c : α → List Value} {sz : Nat} (hc : ∀ a, (c a).length = sz) (l : List α) : (l.flatMap c).length = l.length * sz := by
  induction l with
  | nil => simp
  | cons a t ih => rw [List.flatMap_cons, List.length_append, hc, ih, List.length_cons, Nat.succ_mul]; omega

theorem flat_get {α : Type} {c : α → List Value} {sz : Nat} (hc : ∀ a, (c a).length = sz) {l : List α} {k j : Nat} (hk : k < l.length) (hj : j < sz) :
    (l.flatMap c)[k * sz + j]? = (c l[k])[j]? := by
  induction l generalizing k with
  | nil => simp at hk
  | cons a t ih =>
    rw [List.flatMap_cons]
    cases k with
    | zero =>
      rw [Nat.zero_mul, Nat.zero_add, List.getElem?_append_left (by rw [hc]; exact hj)]; rfl
    | succ k =>
      have hk' : k < t.length := by simpa using hk
      rw [List.getElem?_append_right (by rw [hc, Nat.succ_mul]; omega), hc, show (k + 1) * sz + j - sz = k * sz + j from by rw [Nat.succ_mul]; omega, ih hk']
      rfl

/-- The call (from block base on) owns the slice v, and it reads as l. -/
def Own {α : Type} (c : α → List Value) (E sz : Nat) (w : World) (base : Nat) (v : Value) (l : List α) : Prop := w.ownsRow base E sz v l.length (l.flatMap c)

section
variable {α : Type} {c : α → List Value} {E sz : Nat} {w w' : World} {base : Nat} {v : Value} {l : List α}

theorem Own.sl (hc : ∀ a, (c a).length = sz) (h : Own c E sz w base v l) : Sl c sz w w.heap.size v l := by
  have hcell := fun g hg => World.ownsRow.cells h (g := g) hg
  have hlt := h.lt
  rcases h.2 with ⟨rfl, hn⟩ | ⟨g, cap, cur, rfl, hg, hh, hnc, hcm, hcs, ht⟩
  · have : l = [] := List.eq_nil_of_length_eq_zero hn
    subst this
    exact Sl.nil
  · refine ⟨some ⟨g, 0, none⟩, cap, rfl, hnc, hcm, fun k hk => ⟨g, 0, rfl, (hlt g rfl).2, fun j u hu => ?_⟩⟩
    have hj : j < sz := by
      have := (List.getElem?_eq_some_iff.1 hu).1
      rw [hc] at this; exact this
    have := hcell g rfl (k * sz + j) u (by rw [flat_get hc hk hj]; exact hu)
    unfold Addr.add at this
    split at this
    · rename_i h0
      rw [show (0 : Nat) + k * sz + j = 0 from by omega]
      exact this
    · rw [show (0 : Nat) + k * sz + j = 0 + (k * sz + j) from by omega]
      exact this

theorem Own.below (h : Own c E sz w base v l) (hb : Below w.heap.size w w') : Own c E sz w' base v l := by
  have hlt := h.lt
  refine ⟨h.1, ?_⟩
  rcases h.2 with h2 | ⟨g, cap, cur, rfl, hg, hh, r⟩
  · exact .inl h2
  · exact .inr ⟨g, cap, cur, rfl, hg, by rw [hb.block g (hlt g rfl).2]; exact hh, r⟩

theorem Own.more {base' : Nat} (h : Own c E sz w base v l) (hb : base' ≤ base) : Own c E sz w base' v l := by
  refine ⟨h.1, ?_⟩
  rcases h.2 with h2 | ⟨g, cap, cur, rfl, hg, r⟩
  · exact .inl h2
  · exact .inr ⟨g, cap, cur, rfl, by omega, r⟩
end

theorem Sess.cells_len (s : Sess) : s.cells.length = 5 := rfl
theorem Gra.cells_len (s : Gra) : s.cells.length = 3 := rfl

/-- What a string's length may be at most. -/
def Sess.ok (s : Sess) : Prop := s.who.length ≤ 9223372036854775807 ∧ s.text.length ≤ 9223372036854775807
def Gra.ok (s : Gra) : Prop := s.folder.length ≤ 9223372036854775807 ∧ s.who.length ≤ 9223372036854775807

theorem all_succ {α : Type} {p : α → Bool} {l : List α} {k : Nat} (hk : k < l.length) (h : (l.take k).all p = true) (hp : p l[k] = true) : (l.take (k + 1)).all p = true := by
  rw [take_succ' hk, List.all_append, h]; simp [hp]
theorem all_bad {α : Type} {p : α → Bool} {l : List α} {k : Nat} (hk : k < l.length) (hp : p l[k] = false) : l.all p = false := by
  rw [List.all_eq_false]; exact ⟨_, List.getElem_mem hk, by simp [hp]⟩
theorem all_end {α : Type} {p : α → Bool} {l : List α} {k : Nat} (hk : ¬ k < l.length) (h : (l.take k).all p = true) : l.all p = true := by
  rw [List.take_of_length_le (by omega)] at h; exact h

/-- The first error of a list. -/
def firstErr {α : Type} (f : α → Int) (l : List α) : Int := ((l.map f).find? (· != 0)).getD 0
theorem firstErr_hit {α : Type} {f : α → Int} {l : List α} {k : Nat} (hk : k < l.length) (h : (l.take k).all (fun a => f a == 0) = true) (he : f l[k] ≠ 0) : firstErr f l = f l[k] := by
  induction l generalizing k with
  | nil => simp at hk
  | cons a t ih =>
    cases k with
    | zero =>
      have h0 : f a ≠ 0 := he
      simp [firstErr, h0]
    | succ k =>
      simp only [List.take_succ_cons, List.all_cons, Bool.and_eq_true, beq_iff_eq] at h
      have := ih (k := k) (by simpa using hk) h.2 he
      simp only [firstErr] at this ⊢
      simpa [h.1] using this
theorem firstErr_none {α : Type} {f : α → Int} {l : List α} {k : Nat} (hk : ¬ k < l.length) (h : (l.take k).all (fun a => f a == 0) = true) : firstErr f l = 0 := by
  rw [List.take_of_length_le (by omega)] at h
  clear hk
  induction l with
  | nil => rfl
  | cons a t ih =>
    simp only [List.all_cons, Bool.and_eq_true, beq_iff_eq] at h
    have := ih h.2
    simp only [firstErr] at this ⊢
    simpa [h.1] using this
theorem firstErr_zero {α : Type} {f : α → Int} {l : List α} (h : firstErr f l = 0) : ∀ a ∈ l, f a = 0 := by
  intro a ha
  by_cases h0 : f a = 0
  · exact h0
  · exfalso
    have hs : ((l.map f).find? (· != 0)).isSome = true := by
      rw [List.find?_isSome]
      exact ⟨f a, List.mem_map_of_mem ha, by simpa using h0⟩
    obtain ⟨x, hx⟩ := Option.isSome_iff_exists.1 hs
    have h1 := List.find?_some hx
    simp only [firstErr, hx, Option.getD_some] at h
    subst h
    simp at h1

theorem findIdx_hit {α : Type} {p : α → Bool} {l : List α} {k : Nat} (hk : k < l.length) (h : (l.take k).all (fun a => !p a) = true) (hp : p l[k] = true) : l.findIdx? p = some k := by
  rw [List.findIdx?_eq_some_iff_getElem]
  refine ⟨hk, hp, fun j hj => ?_⟩
  rw [List.all_eq_true] at h
  have := h (l[j]'(by omega)) (List.mem_take_iff_getElem.2 ⟨j, by omega, rfl⟩)
  simpa using this
theorem findIdx_miss {α : Type} {p : α → Bool} {l : List α} {k : Nat} (hk : ¬ k < l.length) (h : (l.take k).all (fun a => !p a) = true) : l.findIdx? p = none := by
  rw [List.take_of_length_le (by omega), List.all_eq_true] at h
  rw [List.findIdx?_eq_none_iff]
  intro x hx
  have := h x hx
  simpa using this

theorem bc {B : Nat} {w w' : World} (h : Below B w w') {b : Nat} (hb : b < B) (o : Nat) : w'.cell? ⟨b, o, none⟩ = w.cell? ⟨b, o, none⟩ := h.cell (p := ⟨b, o, none⟩) hb
theorem bcs {B : Nat} {w w' : World} (h : Below B w w') {b o : Nat} {u : Value} (hb : b < B) (hc : w.cell? ⟨b, o, none⟩ = some u) : w'.cell? ⟨b, o, none⟩ = some u := (bc h hb o).trans hc
theorem bfz {B : Nat} {w w' : World} (h : Below B w w') {b : Nat} (hb : b < B) (o : Nat) : w'.frozen? ⟨b, o, none⟩ = w.frozen? ⟨b, o, none⟩ := h.frozen (p := ⟨b, o, none⟩) hb
theorem alc {w : World} {b o : Nat} {u : Value} (x : Obj) (hc : w.cell? ⟨b, o, none⟩ = some u) : (w.alloc x).cell? ⟨b, o, none⟩ = some u := by
  have hlt : b < w.heap.size := by
    rcases Nat.lt_or_ge b w.heap.size with h' | h'
    · exact h'
    · simp [World.cell?, Array.getElem?_eq_none h'] at hc
  rw [World.cell?_alloc_lt _ _ _ hlt]; exact hc
theorem als (w : World) (o : Obj) : (w.alloc o).heap.size = w.heap.size + 1 := by simp

/-- What is known behind a call that leaves all that there was. -/
theorem after {W w1 : World} (hb : Below W.heap.size W w1) : (∀ b o, b < W.heap.size → w1.cell? ⟨b, o, none⟩ = W.cell? ⟨b, o, none⟩) ∧ (∀ b o, b < W.heap.size → w1.frozen? ⟨b, o, none⟩ = W.frozen? ⟨b, o, none⟩) ∧ W.heap.size ≤ w1.heap.size :=
  ⟨fun b o h => hb.cell (p := ⟨b, o, none⟩) h, fun b o h => hb.frozen (p := ⟨b, o, none⟩) h, hb.size⟩

/-- Neighbours. -/
def pairs {α : Type} (l : List α) : List (α × α) := l.zip l.tail
theorem pairs_len {α : Type} (l : List α) : (pairs l).length = l.length - 1 := by simp [pairs]
theorem pairs_get {α : Type} {l : List α} {k : Nat} (h : k < (pairs l).length) : (pairs l)[k] = (l[k]'(by rw [pairs_len] at h; omega), l[k + 1]'(by rw [pairs_len] at h; omega)) := by
  simp [pairs]

theorem below_dn {B : Nat} {a w : World} (h : Below B a w) (n : Nat) : Below B a (w.drewN n) := h.trans ⟨rfl, rfl, rfl, Nat.le_refl _, fun _ _ => rfl⟩
theorem Sl.drewN' {α : Type} {c : α → List Value} {sz : Nat} {w : World} {B : Nat} {v : Value} {l : List α} (h : Sl c sz w B v l) (n : Nat) : Sl c sz (w.drewN n) B v l := h
theorem quiet_eq {P : Program} {f : FuncId} {args : Array Value} {w : World} {n : Nat} {v : Value} (h : Calls P f args (w.drewN n) fun e w' => e = .returned v ∧ w.drewN n = w') :
    Calls P f args (w.drewN n) fun e w'' => e = .returned v ∧ ∃ m, w'' = w.drewN m := h.mono fun _ _ ⟨a, b⟩ => ⟨a, n, b.symm⟩
/-- A box that the call made, read in a later world. -/
theorem box_cell {w w1 : World} {cs : Array Value} {T B : Nat} (hb : Below B (w.alloc (.cells cs T)) w1) (hB : w.heap.size < B) (j : Nat) (u : Value) (h : cs[j]? = some u) : w1.cell? ⟨w.heap.size, j, none⟩ = some u := by
  rw [hb.cell (p := ⟨w.heap.size, j, none⟩) hB, World.cell?_alloc_new, h]
theorem box_free {w w1 : World} {cs : Array Value} {T B : Nat} (hb : Below B (w.alloc (.cells cs T)) w1) (hB : w.heap.size < B) (j : Nat) : w1.frozen? ⟨w.heap.size, j, none⟩ = false := by
  rw [hb.frozen (p := ⟨w.heap.size, j, none⟩) hB]; exact World.frozen?_alloc_new _ _ _ _
end Go.Proofs.Ytdcigjpanpcaaaa
