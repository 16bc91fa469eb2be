import Derived.Test.YtaoffekhpjgmdaaGreatDoorMz12
import Derived.Test.YtaoffekhpjgmdaaGreatDoorMz15
import Derived.Test.YtaoffekhpjgmdaaGreatDoorMz19
import Derived.Test.YtaoffekhpjgmdaaGreatDoorMz22
/- Clients, plain; and their types, told abstractly. -/
set_option linter.unusedSimpArgs false
set_option linter.unnecessarySimpa false
set_option linter.unusedVariables false
namespace Go.Proofs.YtaoffekhpjgmdaaGreatDoor
open Go.Ab Go.RowKit

structure Cli where
  who : Str
  folder : Str
  base : List Ent
  cursor : Int
  mine : List Ent
  key : Str
  asked : List Chg
  keys : Int
  deriving DecidableEq
def Cli.row (c : Cli) : List AV := [.v (str c.who), .v (str c.folder), entAV c.base, .v (.int .i64 c.cursor), entAV c.mine, .v (str c.key), chgAV c.asked, .v (.int .i64 c.keys)]
structure CliBig (c : Cli) : Prop where
  who : c.who.length ≤ 140737488355328
  folder : c.folder.length ≤ 140737488355328
  base : EBig c.base
  mine : EBig c.mine
  key : c.key.length ≤ 140737488355328
  asked : CBig c.asked
structure Rqt where
  kind : Int
  who : Str
  folder : Str
  name : Str
  key : Str
  text : Str
  number : Int
  offset : Int
  base : Int
  chs : List Chg
  deriving DecidableEq
def Rqt.row (r : Rqt) : List AV := [.v (.int .i64 r.kind), .v (str r.who), .v (str r.folder), .v (str r.name), .v (str r.key), .v (str r.text), .v (.int .i64 r.number), .v (.int .i64 r.offset), .v (.int .i64 r.base), chgAV r.chs]
def noCli : Cli := ⟨[], [], [], 0, [], [], [], 0⟩
def noRqt : Rqt := ⟨0, [], [], [], [], [], 0, 0, 0, []⟩
def in1M (n : Int) : Bool := decide (0 ≤ n) && decide (n ≤ 1000000)
/-- What is wrong with a client, but for its trees. -/
def cliHead (c : Cli) : Prop := isName c.who = false ∨ isName c.folder = false ∨ isKey c.who = false ∨ 10 < c.who.length
instance (c : Cli) : Decidable (cliHead c) := by unfold cliHead; infer_instance
def cliTail (c : Cli) : Int :=
  if in1M c.cursor = false ∨ in1M c.keys = false then 3
  else if ¬ c.key = [] ∧ isKey c.key = false then 1
  else if ¬ (c.key = [] ↔ c.asked = []) then 4
  else if 20 < c.asked.length then 2 else 0
/-- What is wrong with a client. -/
def cliErr (c : Cli) : Int :=
  if cliHead c then 1 else if ¬ treeErr c.base = 0 then treeErr c.base else if ¬ treeErr c.mine = 0 then treeErr c.mine else cliTail c
structure CRight (c : Cli) : Prop where
  nwho : isName c.who = true
  nfolder : isName c.folder = true
  kwho : isKey c.who = true
  lwho : c.who.length ≤ 10
  base : treeErr c.base = 0
  mine : treeErr c.mine = 0
  cur : 0 ≤ c.cursor ∧ c.cursor ≤ 1000000
  keys : 0 ≤ c.keys ∧ c.keys ≤ 1000000
  key : c.key = [] ∨ isKey c.key = true
  ask : c.key = [] ↔ c.asked = []
  few : c.asked.length ≤ 20
theorem in1M_iff {n : Int} : in1M n = true ↔ 0 ≤ n ∧ n ≤ 1000000 := by simp [in1M]
theorem in1M_not {n : Int} : in1M n = false ↔ ¬ (0 ≤ n ∧ n ≤ 1000000) := by rw [← in1M_iff]; simp
theorem cright_iff {c : Cli} : cliErr c = 0 ↔ CRight c := by
  unfold cliErr cliTail
  constructor
  · intro h
    split at h
    · cases h
    · rename_i hh
      unfold cliHead at hh
      simp only [not_or, Bool.not_eq_false, Nat.not_lt] at hh
      split at h
      · contradiction
      · split at h
        · contradiction
        · rename_i h1 h2
          split at h
          · cases h
          · rename_i h3
            simp only [not_or, Bool.not_eq_false, in1M_iff] at h3
            split at h
            · cases h
            · rename_i h4
              split at h
              · cases h
              · rename_i h5
                split at h
                · cases h
                · rename_i h6
                  refine ⟨hh.1, hh.2.1, hh.2.2.1, hh.2.2.2, Classical.not_not.1 h1, Classical.not_not.1 h2, h3.1, h3.2, ?_, Classical.not_not.1 h5, by omega⟩
                  by_cases hk : c.key = []
                  · exact .inl hk
                  · exact .inr (by cases hx : isKey c.key with
                      | true => rfl
                      | false => exact absurd ⟨hk, hx⟩ h4)
  · intro h
    have hh : ¬ cliHead c := by
      unfold cliHead
      simp only [not_or, Bool.not_eq_false, Nat.not_lt]
      exact ⟨h.nwho, h.nfolder, h.kwho, h.lwho⟩
    rw [if_neg hh, if_neg (by simp [h.base]), if_neg (by simp [h.mine]), if_neg, if_neg, if_neg (by simp [h.ask]), if_neg (by have := h.few; omega)]
    · rintro ⟨h1, h2⟩
      rcases h.key with hk | hk
      · exact h1 hk
      · rw [hk] at h2; cases h2
    · simp only [not_or, Bool.not_eq_false, in1M_iff]
      exact ⟨h.cur, h.keys⟩
def newC (who folder : Str) : Cli := ⟨who, folder, [], 0, [], [], [], 0⟩
def resC (r : Cli × Int) : AV := .tup [.agg r.1.row, .v (.int .i64 r.2)]
/-- What stands beside an error: an empty client. -/
def orNo (e : Int) (c : Cli) : Cli × Int := if e = 0 then (c, 0) else (noCli, e)
def editE (c : Cli) (x : Chg) : Int := if ¬ x.base = -1 then 3 else applyE c.mine x 1
def editR (c : Cli) (x : Chg) : Cli × Int := if ¬ cliErr c = 0 then (noCli, cliErr c) else orNo (editE c x) { c with mine := applyL c.mine x 1 }
def fetchR (c : Cli) : Rqt × Int := if cliErr c = 0 then (⟨2, c.who, c.folder, [], [], [], c.cursor, 0, 0, []⟩, 0) else (noRqt, cliErr c)
def reb (b : Int) (x : Chg) : Chg := { x with base := b }
/-- What a client that has asked for nothing yet sends. -/
def sendL (c : Cli) : List Chg := ((rawD c.base c.mine).take 20).map (reb c.cursor)
def sendC (c : Cli) : Cli := { c with keys := c.keys + 1, key := c.who ++ [45] ++ Lib.itoa (c.keys + 1), asked := sendL c }
def askR (c : Cli) : Rqt := ⟨1, c.who, c.folder, [], c.key, [], 0, 0, 0, c.asked⟩
def sendW (c : Cli) : Cli × Rqt × Bool × Int :=
  if c.key = [] then (if rawD c.base c.mine = [] then (c, noRqt, false, 0) else if c.keys = 1000000 then (noCli, noRqt, false, 3) else (sendC c, askR (sendC c), true, 0)) else (c, askR c, true, 0)
def sendR (c : Cli) : Cli × Rqt × Bool × Int := if ¬ cliErr c = 0 then (noCli, noRqt, false, cliErr c) else sendW c
def resS (r : Cli × Rqt × Bool × Int) : AV := .tup [.agg r.1.row, .agg r.2.1.row, .v (.bool r.2.2.1), .v (.int .i64 r.2.2.2)]
theorem tyw_cli {n : Nat} {xs : List AV} (h : TyW C.tab 140737488355328 n 25 xs) : ∃ c : Cli, xs = c.row ∧ CliBig c := by
  cases n with
  | zero => exact h.elim
  | succ n =>
    obtain ⟨_, _, rfl, h0, _, _, rfl, h1, _, _, rfl, h2, _, _, rfl, h3, _, _, rfl, h4, _, _, rfl, h5, _, _, rfl, h6, _, _, rfl, h7, rfl⟩ := (show tiled C.tab 0 _ = some _ → TyFs (TyW C.tab 140737488355328 n) [(0, 9), (1, 9), (2, 22), (3, 3), (4, 22), (5, 9), (6, 23), (7, 3)] xs from h) rfl
    obtain ⟨a0, rfl, l0⟩ := tyw_str h0
    obtain ⟨a1, rfl, l1⟩ := tyw_str h1
    obtain ⟨a2, rfl, l2⟩ := tyw_ents h2
    obtain ⟨a3, rfl, _⟩ := tyw_int h3
    obtain ⟨a4, rfl, l4⟩ := tyw_ents h4
    obtain ⟨a5, rfl, l5⟩ := tyw_str h5
    obtain ⟨a6, rfl, l6⟩ := tyw_chgs h6
    obtain ⟨a7, rfl, _⟩ := tyw_int h7
    exact ⟨⟨a0, a1, a2, a3, a4, a5, a6, a7⟩, rfl, l0, l1, l2, l4, l5, l6⟩
theorem tyv_cli {y : AV} (h : TyVW C.tab 140737488355328 25 y) : ∃ c : Cli, y = .agg c.row ∧ CliBig c := by
  obtain ⟨n, xs, rfl, h2⟩ := (show ∃ n xs, y = .agg xs ∧ TyW C.tab 140737488355328 n 25 xs from h)
  obtain ⟨c, rfl, hc⟩ := tyw_cli h2
  exact ⟨c, rfl, hc⟩
end Go.Proofs.YtaoffekhpjgmdaaGreatDoor
