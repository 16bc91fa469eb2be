import Derived.Test.YtkkfilkmkdnboaaDoorTy
import Derived.Test.YtkkfilkmkdnboaaDoorMz7
import Derived.Test.YtkkfilkmkdnboaaDoorMz9
import Derived.Test.YtkkfilkmkdnboaaDoorMz5
/- Values that are handed in: numbers and texts. -/
set_option linter.unusedSimpArgs false
set_option linter.unnecessarySimpa false
namespace Go.Proofs.YtkkfilkmkdnboaaDoor
open Go.Ab Go.RowKit

/-- The base of a function that is handed one row of memory. -/
noncomputable def C1 : Cx := { C with nh := 1 }

theorem rows_map {α : Type} {f : α → List AV} {ok : α → Prop} : ∀ {rows : List (List AV)}, (∀ row, row ∈ rows → ∃ a, row = f a ∧ ok a) → ∃ l : List α, rows = l.map f ∧ ∀ a, a ∈ l → ok a
  | [], _ => ⟨[], rfl, fun a h => by cases h⟩
  | row :: rows, h => by
    obtain ⟨a, rfl, ha⟩ := h row (List.mem_cons_self ..)
    obtain ⟨l, rfl, hl⟩ := rows_map fun r hr => h r (List.mem_cons_of_mem _ hr)
    exact ⟨a :: l, rfl, fun b hb => by rcases List.mem_cons.1 hb with rfl | hb; exact ha; exact hl b hb⟩

theorem tyc_int {n : Nat} {xs : List AV} (h : Ty C.tab n 3 xs) : ∃ a, xs = [.v (.int .i64 a)] ∧ (Lit.int .i64 a).wf = true := by
  cases n with
  | zero => exact h.elim
  | succ n => exact h
theorem tyc_str {n : Nat} {xs : List AV} (h : Ty C.tab n 9 xs) : ∃ s : Str, xs = [.v (str s)] ∧ s.length ≤ 140737488355328 := by
  cases n with
  | zero => exact h.elim
  | succ n => exact h
theorem ty_int {y : AV} (h : TyV C.tab 3 y) : ∃ a, y = .v (.int .i64 a) ∧ (Lit.int .i64 a).wf = true := by
  obtain ⟨n, h⟩ := (show ∃ n, Ty C.tab n 3 [y] from h)
  obtain ⟨a, h1, h2⟩ := tyc_int h
  exact ⟨a, by simpa using h1, h2⟩
theorem ty_str {y : AV} (h : TyV C.tab 9 y) : ∃ s : Str, y = .v (str s) ∧ s.length ≤ 140737488355328 := by
  obtain ⟨n, h⟩ := (show ∃ n, Ty C.tab n 9 [y] from h)
  obtain ⟨a, h1, h2⟩ := tyc_str h
  exact ⟨a, by simpa using h1, h2⟩

theorem g_isName (s : Str) (hs : s.length ≤ 140737488355328) : AFn C.P 109 [.v (str s)] (.v (.bool (isName s))) := afn_of_calls rfl fun w => isName_any s w (by omega)
theorem g_isNameR (s : Str) (hs : s.length ≤ 140737488355328) : AFn C.P 64 [.v (str s)] (.v (.bool (isName s))) := afn_of_calls rfl fun w => isNameR_any s w (by omega)
end Go.Proofs.YtkkfilkmkdnboaaDoor
