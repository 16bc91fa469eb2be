/- The types of trees and of changes: what is handed in, told abstractly. -/
import Derived.Test.YtaoffekhpjgmdaaDoorTyE
set_option linter.unusedSimpArgs false
set_option linter.unusedVariables false
namespace Go.Proofs.YtaoffekhpjgmdaaDoor
open Go.Ab Go.RowKit

theorem tyw_ents {n : Nat} {xs : List AV} (h : TyW C.tab 140737488355328 n 22 xs) : ∃ t : List Ent, xs = [entAV t] ∧ EBig t := by
  cases n with
  | zero => exact h.elim
  | succ n =>
    obtain ⟨rows, he, hb, hr⟩ := (show (4 : Nat) ≠ 0 → ∃ rows, xs = [AV.sl false rows] ∧ rows.length * 48 ≤ 140737488355328 ∧ ∀ row, row ∈ rows → TyW C.tab 140737488355328 n 36 row from h) (by decide)
    obtain ⟨l, rfl, hl⟩ := rows_map (f := Ent.row) (ok := Ent.small) (fun row hrow => tyw_ent (hr row hrow))
    refine ⟨l, he, hl, ?_⟩
    simp at hb; omega
theorem tyw_chgs {n : Nat} {xs : List AV} (h : TyW C.tab 140737488355328 n 23 xs) : ∃ t : List Chg, xs = [chgAV t] ∧ CBig t := by
  cases n with
  | zero => exact h.elim
  | succ n =>
    obtain ⟨rows, he, hb, hr⟩ := (show (5 : Nat) ≠ 0 → ∃ rows, xs = [AV.sl false rows] ∧ rows.length * 64 ≤ 140737488355328 ∧ ∀ row, row ∈ rows → TyW C.tab 140737488355328 n 45 row from h) (by decide)
    obtain ⟨l, rfl, hl⟩ := rows_map (f := Chg.row) (ok := Chg.small) (fun row hrow => tyw_chg (hr row hrow))
    refine ⟨l, he, hl, ?_⟩
    simp at hb; omega
end Go.Proofs.YtaoffekhpjgmdaaDoor
