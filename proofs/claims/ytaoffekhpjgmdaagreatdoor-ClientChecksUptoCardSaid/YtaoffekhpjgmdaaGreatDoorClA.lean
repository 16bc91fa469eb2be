/- Clients: the laws ClientNews and ClientChecks, at every argument that the types admit. -/
import Derived.Test.YtaoffekhpjgmdaaGreatDoorCl6
set_option linter.unusedSimpArgs false
set_option linter.unusedVariables false
namespace Go.Proofs.YtaoffekhpjgmdaaGreatDoor
open Go.Ab Go.RowKit

theorem law_cnews_all (ys : List AV) (h : TyAllW C.tab 1000000000 [9, 9] ys) : AFn C.P 3 ys (.v (.bool true)) := by
  obtain ⟨_, _, rfl, h0, _, _, rfl, h1, rfl⟩ := h
  obtain ⟨a, rfl, ha⟩ := tyv_str h0
  obtain ⟨b, rfl, hb⟩ := tyv_str h1
  exact law_cnews a b ha hb
theorem law_cchecks_all (ys : List AV) (h : TyAllW C.tab 1000000000 [25] ys) : AFn C.P 4 ys (.v (.bool true)) := by
  obtain ⟨_, _, rfl, h0, rfl⟩ := h
  obtain ⟨c, rfl, hc⟩ := tyv_cli h0
  exact law_cchecks c hc
end Go.Proofs.YtaoffekhpjgmdaaGreatDoor
