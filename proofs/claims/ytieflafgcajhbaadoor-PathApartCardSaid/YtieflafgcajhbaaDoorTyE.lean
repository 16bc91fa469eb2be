/- Entries and changes that are handed in, of a bulk that is bound. -/
import Derived.Test.YtieflafgcajhbaaDoorTyS
import Derived.Test.YtieflafgcajhbaaDoorAbTyW
import Derived.Test.YtieflafgcajhbaaDoorDaA
set_option linter.unusedSimpArgs false
set_option linter.unnecessarySimpa false
namespace Go.Proofs.YtieflafgcajhbaaDoor
open Go.Ab Go.RowKit

theorem tyw_int {n : Nat} {xs : List AV} (h : TyW C.tab 140737488355328 n 3 xs) : ∃ a, xs = [.v (.int .i64 a)] ∧ (Lit.int .i64 a).wf = true := by
  cases n with
  | zero => exact h.elim
  | succ n => exact h
theorem tyw_str {n : Nat} {xs : List AV} (h : TyW C.tab 140737488355328 n 9 xs) : ∃ s : Str, xs = [.v (str s)] ∧ s.length ≤ 140737488355328 := by
  cases n with
  | zero => exact h.elim
  | succ n => exact h
theorem tyw_bool {n : Nat} {xs : List AV} (h : TyW C.tab 140737488355328 n 4 xs) : ∃ b, xs = [.v (.bool b)] := by
  cases n with
  | zero => exact h.elim
  | succ n => exact h
theorem tyv_int {y : AV} (h : TyVW C.tab 140737488355328 3 y) : ∃ a, y = .v (.int .i64 a) ∧ (Lit.int .i64 a).wf = true := by
  obtain ⟨n, h⟩ := (show ∃ n, TyW C.tab 140737488355328 n 3 [y] from h)
  obtain ⟨a, h1, h2⟩ := tyw_int h
  exact ⟨a, by simpa using h1, h2⟩
theorem tyv_str {y : AV} (h : TyVW C.tab 140737488355328 9 y) : ∃ s : Str, y = .v (str s) ∧ s.length ≤ 140737488355328 := by
  obtain ⟨n, h⟩ := (show ∃ n, TyW C.tab 140737488355328 n 9 [y] from h)
  obtain ⟨a, h1, h2⟩ := tyw_str h
  exact ⟨a, by simpa using h1, h2⟩

def Ent.row (e : Ent) : List AV := [.v (str e.path), .v (.bool e.fold), .v (str e.text), .v (.int .i64 e.ver)]
def Ent.small (e : Ent) : Prop := e.path.length ≤ 140737488355328 ∧ e.text.length ≤ 140737488355328
def entAV (t : List Ent) : AV := .sl false (t.map Ent.row)
structure EBig (t : List Ent) : Prop where
  each : ∀ e, e ∈ t → e.small
  len : t.length ≤ 140737488355328
def Chg.row (c : Chg) : List AV := [.v (.int .i64 c.kind), .v (str c.path), .v (str c.to), .v (str c.text), .v (.int .i64 c.base)]
def Chg.small (c : Chg) : Prop := c.path.length ≤ 140737488355328 ∧ c.to.length ≤ 140737488355328 ∧ c.text.length ≤ 140737488355328
def chgAV (t : List Chg) : AV := .sl false (t.map Chg.row)
structure CBig (t : List Chg) : Prop where
  each : ∀ e, e ∈ t → e.small
  len : t.length ≤ 140737488355328
end Go.Proofs.YtieflafgcajhbaaDoor
