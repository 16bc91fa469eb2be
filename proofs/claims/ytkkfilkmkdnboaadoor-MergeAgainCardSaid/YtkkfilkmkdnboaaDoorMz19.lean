import Derived.Test.YtkkfilkmkdnboaaDoorMz10
import Derived.Test.YtkkfilkmkdnboaaDoorMz17
import Derived.Test.YtkkfilkmkdnboaaDoorMz18
/- Entries and changes that are handed in, of a bulk that is bound. -/
set_option linter.unusedSimpArgs false
set_option linter.unnecessarySimpa false
namespace Go.Proofs.YtkkfilkmkdnboaaDoor
open Go.Ab Go.RowKit

theorem tyw_int {n : Nat} {xs : List AV} (h : TyW C.tab 140737488355328 n 3 xs) : ∃ a, xs = [.v (.int .i64 a)] ∧ (Lit.int .i64 a).wf = true := by
  cases n with
  | zero => exact h.elim
  | succ n => exact h
theorem tyw_str {n : Nat} {xs : List AV} (h : TyW C.tab 140737488355328 n 9 xs) : ∃ s : Str, xs = [.v (str s)] ∧ s.length ≤ 140737488355328 := by
  cases n with
  | zero => exact h.elim
  | succ n => exact h
theorem tyw_bool {n : Nat} {xs : List AV} (h : TyW C.tab 140737488355328 n 4 xs) : ∃ b, xs = [.v (.bool b)] := by
  cases n with
  | zero => exact h.elim
  | succ n => exact h
theorem tyv_int {y : AV} (h : TyVW C.tab 140737488355328 3 y) : ∃ a, y = .v (.int .i64 a) ∧ (Lit.int .i64 a).wf = true := by
  obtain ⟨n, h⟩ := (show ∃ n, TyW C.tab 140737488355328 n 3 [y] from h)
  obtain ⟨a, h1, h2⟩ := tyw_int h
  exact ⟨a, by simpa using h1, h2⟩
theorem tyv_str {y : AV} (h : TyVW C.tab 140737488355328 9 y) : ∃ s : Str, y = .v (str s) ∧ s.length ≤ 140737488355328 := by
  obtain ⟨n, h⟩ := (show ∃ n, TyW C.tab 140737488355328 n 9 [y] from h)
  obtain ⟨a, h1, h2⟩ := tyw_str h
  exact ⟨a, by simpa using h1, h2⟩

def Ent.row (e : Ent) : List AV := [.v (str e.path), .v (.bool e.fold), .v (str e.text), .v (.int .i64 e.ver)]
def Ent.small (e : Ent) : Prop := e.path.length ≤ 140737488355328 ∧ e.text.length ≤ 140737488355328
def entAV (t : List Ent) : AV := .sl false (t.map Ent.row)
structure EBig (t : List Ent) : Prop where
  each : ∀ e, e ∈ t → e.small
  len : t.length ≤ 140737488355328
def Chg.row (c : Chg) : List AV := [.v (.int .i64 c.kind), .v (str c.path), .v (str c.to), .v (str c.text), .v (.int .i64 c.base)]
def Chg.small (c : Chg) : Prop := c.path.length ≤ 140737488355328 ∧ c.to.length ≤ 140737488355328 ∧ c.text.length ≤ 140737488355328
def chgAV (t : List Chg) : AV := .sl false (t.map Chg.row)
structure CBig (t : List Chg) : Prop where
  each : ∀ e, e ∈ t → e.small
  len : t.length ≤ 140737488355328
theorem tyw_ent {n : Nat} {xs : List AV} (h : TyW C.tab 140737488355328 n 65 xs) : ∃ s : Ent, xs = s.row ∧ s.small := by
  cases n with
  | zero => exact h.elim
  | succ n =>
    obtain ⟨_, _, rfl, h0, _, _, rfl, h1, _, _, rfl, h2, _, _, rfl, h3, rfl⟩ := (show tiled C.tab 0 _ = some _ → TyFs (TyW C.tab 140737488355328 n) [(0, 9), (1, 4), (2, 9), (3, 3)] xs from h) rfl
    obtain ⟨a0, rfl, l0⟩ := tyw_str h0
    obtain ⟨a1, rfl⟩ := tyw_bool h1
    obtain ⟨a2, rfl, l2⟩ := tyw_str h2
    obtain ⟨a3, rfl, _⟩ := tyw_int h3
    exact ⟨⟨a0, a1, a2, a3⟩, rfl, l0, l2⟩
theorem tyw_chg {n : Nat} {xs : List AV} (h : TyW C.tab 140737488355328 n 88 xs) : ∃ s : Chg, xs = s.row ∧ s.small := by
  cases n with
  | zero => exact h.elim
  | succ n =>
    obtain ⟨_, _, rfl, h0, _, _, rfl, h1, _, _, rfl, h2, _, _, rfl, h3, _, _, rfl, h4, rfl⟩ := (show tiled C.tab 0 _ = some _ → TyFs (TyW C.tab 140737488355328 n) [(0, 3), (1, 9), (2, 9), (3, 9), (4, 3)] xs from h) rfl
    obtain ⟨a0, rfl, _⟩ := tyw_int h0
    obtain ⟨a1, rfl, l1⟩ := tyw_str h1
    obtain ⟨a2, rfl, l2⟩ := tyw_str h2
    obtain ⟨a3, rfl, l3⟩ := tyw_str h3
    obtain ⟨a4, rfl, _⟩ := tyw_int h4
    exact ⟨⟨a0, a1, a2, a3, a4⟩, rfl, l1, l2, l3⟩
theorem tyv_ents {y : AV} (h : TyVW C.tab 140737488355328 22 y) : ∃ t : List Ent, y = entAV t ∧ EBig t := by
  obtain ⟨n, h⟩ := (show ∃ n, TyW C.tab 140737488355328 n 22 [y] from h)
  cases n with
  | zero => exact h.elim
  | succ n =>
    obtain ⟨rows, he, hb, hr⟩ := (show (4 : Nat) ≠ 0 → ∃ rows, [y] = [AV.sl false rows] ∧ rows.length * 48 ≤ 140737488355328 ∧ ∀ row, row ∈ rows → TyW C.tab 140737488355328 n 65 row from h) (by decide)
    obtain ⟨l, rfl, hl⟩ := rows_map (f := Ent.row) (ok := Ent.small) (fun row hrow => tyw_ent (hr row hrow))
    refine ⟨l, by simpa [entAV] using he, hl, ?_⟩
    simp at hb; omega
theorem tyv_chgs {y : AV} (h : TyVW C.tab 140737488355328 26 y) : ∃ t : List Chg, y = chgAV t ∧ CBig t := by
  obtain ⟨n, h⟩ := (show ∃ n, TyW C.tab 140737488355328 n 26 [y] from h)
  cases n with
  | zero => exact h.elim
  | succ n =>
    obtain ⟨rows, he, hb, hr⟩ := (show (5 : Nat) ≠ 0 → ∃ rows, [y] = [AV.sl false rows] ∧ rows.length * 64 ≤ 140737488355328 ∧ ∀ row, row ∈ rows → TyW C.tab 140737488355328 n 88 row from h) (by decide)
    obtain ⟨l, rfl, hl⟩ := rows_map (f := Chg.row) (ok := Chg.small) (fun row hrow => tyw_chg (hr row hrow))
    refine ⟨l, by simpa [chgAV] using he, hl, ?_⟩
    simp at hb; omega
theorem tyv_chg {y : AV} (h : TyVW C.tab 140737488355328 88 y) : ∃ c : Chg, y = .agg c.row ∧ c.small := by
  obtain ⟨n, xs, rfl, h2⟩ := (show ∃ n xs, y = .agg xs ∧ TyW C.tab 140737488355328 n 88 xs from h)
  obtain ⟨c, rfl, hc⟩ := tyw_chg h2
  exact ⟨c, rfl, hc⟩
end Go.Proofs.YtkkfilkmkdnboaaDoor
