/- Grants that are handed in; the abstract layer's maps. -/
import Derived.Test.YtdcigjpanpcaaaaTyU
import Derived.Test.YtdcigjpanpcaaaaNameR
import Derived.Test.YtdcigjpanpcaaaaAbMap
import Derived.Test.YtdcigjpanpcaaaaAbX
import Derived.Test.YtdcigjpanpcaaaaUSpec
set_option linter.unusedSimpArgs false
namespace Go.Proofs.Ytdcigjpanpcaaaa
open Go.Ab Go.RowKit

def Gra.row (g : Gra) : List AV := [.v (str g.folder), .v (str g.who), .v (.int .i64 g.right)]
def Gra.small (g : Gra) : Prop := g.folder.length ≤ 140737488355328 ∧ g.who.length ≤ 140737488355328
def graAV (l : List Gra) : AV := .sl false (l.map Gra.row)
theorem tyc_gra {n : Nat} {xs : List AV} (h : Ty C.tab n 61 xs) : ∃ s : Gra, xs = s.row ∧ s.small := by
  cases n with
  | zero => exact h.elim
  | succ n =>
    obtain ⟨_, _, rfl, h0, _, _, rfl, h1, _, _, rfl, h2, rfl⟩ := (show tiled C.tab 0 _ = some _ → TyFs (Ty C.tab n) [(0, 9), (1, 9), (2, 3)] xs from h) rfl
    obtain ⟨a0, rfl, l0⟩ := tyc_str h0
    obtain ⟨a1, rfl, l1⟩ := tyc_str h1
    obtain ⟨a2, rfl, _⟩ := tyc_int h2
    exact ⟨⟨a0, a1, a2⟩, rfl, l0, l1⟩
structure GBig (l : List Gra) : Prop where
  each : ∀ g, g ∈ l → g.small
  len : l.length ≤ 140737488355328
theorem ty_gras {y : AV} (h : TyV C.tab 51 y) : ∃ l : List Gra, y = graAV l ∧ GBig l := by
  obtain ⟨n, h⟩ := (show ∃ n, Ty C.tab n 51 [y] from h)
  cases n with
  | zero => exact h.elim
  | succ n =>
    obtain ⟨rows, he, hb, hr⟩ := (show (3 : Nat) ≠ 0 → ∃ rows, [y] = [AV.sl false rows] ∧ rows.length * 40 ≤ 140737488355328 ∧ ∀ row, row ∈ rows → Ty C.tab n 61 row from h) (by decide)
    obtain ⟨l, rfl, hl⟩ := rows_map (f := Gra.row) (ok := Gra.small) (fun row hrow => tyc_gra (hr row hrow))
    refine ⟨l, by simpa [graAV] using he, hl, ?_⟩
    simp at hb; omega

/-- Strings compared: -1, 0, 1. -/
def strCmp (a b : Str) : Int := if Op.bytesLess a b = true then -1 else if (!(Op.bytesLess a b || decide (a = b))) = true then 1 else 0
def graCmp (a b : Gra) : Int := if strCmp a.folder b.folder = 0 then strCmp a.who b.who else strCmp a.folder b.folder
end Go.Proofs.Ytdcigjpanpcaaaa
