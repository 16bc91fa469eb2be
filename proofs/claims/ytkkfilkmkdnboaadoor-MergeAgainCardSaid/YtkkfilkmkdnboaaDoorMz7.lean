import Derived.WalkKit
/- The data of the program as plain Lean data, and what it means that a slice in memory reads as a list of such data. -/
namespace Go.Proofs.YtkkfilkmkdnboaaDoor
open Go.RowKit

abbrev Str := List UInt8

structure Sess where
  number : Int
  who : Str
  text : Str
  size : Int
  till : Int
  deriving DecidableEq

def Sess.cells (s : Sess) : List Value := [.int .i64 s.number, .string ⟨s.who.toArray⟩, .string ⟨s.text.toArray⟩, .int .i64 s.size, .int .i64 s.till]

structure Upl where
  sess : List Sess
  next : Int
  lasts : Int
  room : Int
  deriving DecidableEq

structure Gra where
  folder : Str
  who : Str
  right : Int
  deriving DecidableEq

def Gra.cells (s : Gra) : List Value := [.string ⟨s.folder.toArray⟩, .string ⟨s.who.toArray⟩, .int .i64 s.right]

def okB (c : UInt8) : Bool :=
  (97 ≤ c.toNat && c.toNat ≤ 122) || (65 ≤ c.toNat && c.toNat ≤ 90) || (48 ≤ c.toNat && c.toNat ≤ 57) || c.toNat == 45 || c.toNat == 95 || c.toNat == 46 || c.toNat == 40 || c.toNat == 41 || c.toNat == 32

def isName (s : Str) : Bool := !s.isEmpty && decide (s.length ≤ 20) && s != [46] && s != [46, 46] && s.head? != some 32 && s.getLast? != some 32 && s.all okB

/-- The slice value v reads, in w and below block B, as the list l, each element's cells by c (sz of them). -/
def Sl {α : Type} (c : α → List Value) (sz : Nat) (w : World) (B : Nat) (v : Value) (l : List α) : Prop :=
  ∃ A cap, v = .slice A l.length cap ∧ l.length ≤ cap ∧ cap ≤ maxLen ∧ ∀ k (h : k < l.length), ∃ b off, A = some ⟨b, off, none⟩ ∧ b < B ∧
    ∀ j u, (c l[k])[j]? = some u → w.cell? ⟨b, off + k * sz + j, none⟩ = some u

section
variable {α : Type} {c : α → List Value} {sz : Nat} {w w' : World} {B B' : Nat} {v : Value} {l : List α}

theorem Sl.nil : Sl c sz w B (.slice none 0 0) [] := ⟨none, 0, rfl, Nat.le_refl _, Nat.zero_le _, fun k h => absurd h (Nat.not_lt_zero k)⟩

theorem Sl.form (h : Sl c sz w B v l) : ∃ A cap, v = .slice A l.length cap ∧ l.length ≤ 9223372036854775807 ∧ l.length ≤ cap ∧ cap ≤ 9223372036854775807 := by
  obtain ⟨A, cap, hv, h1, h2, _⟩ := h
  unfold maxLen at h2
  exact ⟨A, cap, hv, by omega, h1, h2⟩

theorem Sl.keep (h : Sl c sz w B v l) (hk : ∀ p : Addr, p.block < B → w'.cell? p = w.cell? p) : Sl c sz w' B v l := by
  obtain ⟨A, cap, hv, h1, h2, h3⟩ := h
  refine ⟨A, cap, hv, h1, h2, fun k hkl => ?_⟩
  obtain ⟨b, off, hA, hB, hc⟩ := h3 k hkl
  exact ⟨b, off, hA, hB, fun j u hu => (hk ⟨b, off + k * sz + j, none⟩ hB).trans (hc j u hu)⟩

theorem Sl.more (h : Sl c sz w B v l) (hB : B ≤ B') : Sl c sz w B' v l := by
  obtain ⟨A, cap, hv, h1, h2, h3⟩ := h
  refine ⟨A, cap, hv, h1, h2, fun k hkl => ?_⟩
  obtain ⟨b, off, hA, hb, hc⟩ := h3 k hkl
  exact ⟨b, off, hA, by omega, hc⟩

theorem Sl.below (h : Sl c sz w B v l) (hb : Below B w w') : Sl c sz w' B v l := h.keep fun _ hp => hb.cell hp

theorem Sl.at (h : Sl c sz w B v l) {A : Option Addr} {n cap : Nat} (hv : v = .slice A n cap) {k : Nat} (hk : k < l.length) :
    ∃ b off, A = some ⟨b, off, none⟩ ∧ b < B ∧ ∀ j u, (c l[k])[j]? = some u → w.cell? ⟨b, off + k * sz + j, none⟩ = some u := by
  obtain ⟨A', cap', hv', _, _, h3⟩ := h
  rw [hv] at hv'
  injection hv' with e1 e2 e3
  subst e1
  exact h3 k hk
end

/-- A session's five cells. -/
theorem Sl.sess {w : World} {B : Nat} {A : Option Addr} {n cap : Nat} {l : List Sess} (h : Sl Sess.cells 5 w B (.slice A n cap) l) {k : Nat} (hk : k < l.length) :
    ∃ b off, A = some ⟨b, off, none⟩ ∧ b < B ∧ w.cell? ⟨b, off + k * 5, none⟩ = some (.int .i64 l[k].number) ∧ w.cell? ⟨b, off + k * 5 + 1, none⟩ = some (.string ⟨l[k].who.toArray⟩) ∧
      w.cell? ⟨b, off + k * 5 + 2, none⟩ = some (.string ⟨l[k].text.toArray⟩) ∧ w.cell? ⟨b, off + k * 5 + 3, none⟩ = some (.int .i64 l[k].size) ∧ w.cell? ⟨b, off + k * 5 + 4, none⟩ = some (.int .i64 l[k].till) := by
  obtain ⟨b, off, hA, hB, hc⟩ := h.at rfl hk
  exact ⟨b, off, hA, hB, hc 0 _ rfl, hc 1 _ rfl, hc 2 _ rfl, hc 3 _ rfl, hc 4 _ rfl⟩

theorem Sl.gra {w : World} {B : Nat} {A : Option Addr} {n cap : Nat} {l : List Gra} (h : Sl Gra.cells 3 w B (.slice A n cap) l) {k : Nat} (hk : k < l.length) :
    ∃ b off, A = some ⟨b, off, none⟩ ∧ b < B ∧ w.cell? ⟨b, off + k * 3, none⟩ = some (.string ⟨l[k].folder.toArray⟩) ∧ w.cell? ⟨b, off + k * 3 + 1, none⟩ = some (.string ⟨l[k].who.toArray⟩) ∧
      w.cell? ⟨b, off + k * 3 + 2, none⟩ = some (.int .i64 l[k].right) := by
  obtain ⟨b, off, hA, hB, hc⟩ := h.at rfl hk
  exact ⟨b, off, hA, hB, hc 0 _ rfl, hc 1 _ rfl, hc 2 _ rfl⟩

theorem take_succ' {α : Type} {l : List α} {k : Nat} (h : k < l.length) : l.take (k + 1) = l.take k ++ [l[k]] := by
  rw [List.take_succ_eq_append_getElem h]

theorem bcell {W w1 : World} {B : Nat} (hb : Below B W w1) (h0 : B = W.heap.size) : (∀ b o, b < W.heap.size → w1.cell? ⟨b, o, none⟩ = W.cell? ⟨b, o, none⟩) ∧ (∀ b o, b < W.heap.size → w1.frozen? ⟨b, o, none⟩ = W.frozen? ⟨b, o, none⟩) := by
  subst h0
  exact ⟨fun b o h => hb.cell (p := ⟨b, o, none⟩) h, fun b o h => hb.frozen (p := ⟨b, o, none⟩) h⟩
end Go.Proofs.YtkkfilkmkdnboaaDoor
