/- The types of journals: what is handed in, told abstractly. -/
import Derived.Test.YtkkfilkmkdnboaaDoorTyE
import Derived.Test.YtkkfilkmkdnboaaDoorJoPl
set_option linter.unusedSimpArgs false
set_option linter.unusedVariables false
namespace Go.Proofs.YtkkfilkmkdnboaaDoor
open Go.Ab Go.RowKit

def Com.row (c : Com) : List AV := [.v (.int .i64 c.num), .v (str c.key), chgAV c.chs]
def comAV (l : List Com) : AV := .sl false (l.map Com.row)
def Jou.row (j : Jou) : List AV := [entAV j.base, .v (.int .i64 j.first), comAV j.coms]
def Pag.row (p : Pag) : List AV := [.v (.bool p.reset), entAV p.tree, comAV p.coms, .v (.int .i64 p.cur), .v (.bool p.more)]
structure Com.small (c : Com) : Prop where
  key : c.key.length ≤ 1000000000
  chs : CBig c.chs
structure MBig (l : List Com) : Prop where
  each : ∀ c, c ∈ l → c.small
  len : l.length ≤ 1000000000
structure JBig (j : Jou) : Prop where
  base : EBig j.base
  coms : MBig j.coms
structure PBig (p : Pag) : Prop where
  tree : EBig p.tree
  coms : MBig p.coms
theorem tyw_ents {n : Nat} {xs : List AV} (h : TyW C.tab 1000000000 n 22 xs) : ∃ t : List Ent, xs = [entAV t] ∧ EBig t := by
  cases n with
  | zero => exact h.elim
  | succ n =>
    obtain ⟨rows, he, hb, hr⟩ := (show (4 : Nat) ≠ 0 → ∃ rows, xs = [AV.sl false rows] ∧ rows.length * 48 ≤ 1000000000 ∧ ∀ row, row ∈ rows → TyW C.tab 1000000000 n 65 row from h) (by decide)
    obtain ⟨l, rfl, hl⟩ := rows_map (f := Ent.row) (ok := Ent.small) (fun row hrow => tyw_ent (hr row hrow))
    refine ⟨l, he, hl, ?_⟩
    simp at hb; omega
theorem tyw_chgs {n : Nat} {xs : List AV} (h : TyW C.tab 1000000000 n 26 xs) : ∃ t : List Chg, xs = [chgAV t] ∧ CBig t := by
  cases n with
  | zero => exact h.elim
  | succ n =>
    obtain ⟨rows, he, hb, hr⟩ := (show (5 : Nat) ≠ 0 → ∃ rows, xs = [AV.sl false rows] ∧ rows.length * 64 ≤ 1000000000 ∧ ∀ row, row ∈ rows → TyW C.tab 1000000000 n 88 row from h) (by decide)
    obtain ⟨l, rfl, hl⟩ := rows_map (f := Chg.row) (ok := Chg.small) (fun row hrow => tyw_chg (hr row hrow))
    refine ⟨l, he, hl, ?_⟩
    simp at hb; omega
theorem tyw_com {n : Nat} {xs : List AV} (h : TyW C.tab 1000000000 n 80 xs) : ∃ s : Com, xs = s.row ∧ s.small := by
  cases n with
  | zero => exact h.elim
  | succ n =>
    obtain ⟨_, _, rfl, h0, _, _, rfl, h1, _, _, rfl, h2, rfl⟩ := (show tiled C.tab 0 _ = some _ → TyFs (TyW C.tab 1000000000 n) [(0, 3), (1, 9), (2, 26)] xs from h) rfl
    obtain ⟨a0, rfl, _⟩ := tyw_int h0
    obtain ⟨a1, rfl, l1⟩ := tyw_str h1
    obtain ⟨a2, rfl, l2⟩ := tyw_chgs h2
    exact ⟨⟨a0, a1, a2⟩, rfl, l1, l2⟩
theorem tyw_coms {n : Nat} {xs : List AV} (h : TyW C.tab 1000000000 n 23 xs) : ∃ t : List Com, xs = [comAV t] ∧ MBig t := by
  cases n with
  | zero => exact h.elim
  | succ n =>
    obtain ⟨rows, he, hb, hr⟩ := (show (3 : Nat) ≠ 0 → ∃ rows, xs = [AV.sl false rows] ∧ rows.length * 48 ≤ 1000000000 ∧ ∀ row, row ∈ rows → TyW C.tab 1000000000 n 80 row from h) (by decide)
    obtain ⟨l, rfl, hl⟩ := rows_map (f := Com.row) (ok := Com.small) (fun row hrow => tyw_com (hr row hrow))
    refine ⟨l, he, hl, ?_⟩
    simp at hb; omega
theorem tyw_jou {n : Nat} {xs : List AV} (h : TyW C.tab 1000000000 n 25 xs) : ∃ j : Jou, xs = j.row ∧ JBig j := by
  cases n with
  | zero => exact h.elim
  | succ n =>
    obtain ⟨_, _, rfl, h0, _, _, rfl, h1, _, _, rfl, h2, rfl⟩ := (show tiled C.tab 0 _ = some _ → TyFs (TyW C.tab 1000000000 n) [(0, 22), (1, 3), (2, 23)] xs from h) rfl
    obtain ⟨a0, rfl, l0⟩ := tyw_ents h0
    obtain ⟨a1, rfl, _⟩ := tyw_int h1
    obtain ⟨a2, rfl, l2⟩ := tyw_coms h2
    exact ⟨⟨a0, a1, a2⟩, rfl, l0, l2⟩
theorem tyv_jou {y : AV} (h : TyVW C.tab 1000000000 25 y) : ∃ j : Jou, y = .agg j.row ∧ JBig j := by
  obtain ⟨n, xs, rfl, h2⟩ := (show ∃ n xs, y = .agg xs ∧ TyW C.tab 1000000000 n 25 xs from h)
  obtain ⟨c, rfl, hc⟩ := tyw_jou h2
  exact ⟨c, rfl, hc⟩
theorem tyw_page {n : Nat} {xs : List AV} (h : TyW C.tab 1000000000 n 35 xs) : ∃ p : Pag, xs = p.row ∧ PBig p := by
  cases n with
  | zero => exact h.elim
  | succ n =>
    obtain ⟨_, _, rfl, h0, _, _, rfl, h1, _, _, rfl, h2, _, _, rfl, h3, _, _, rfl, h4, rfl⟩ := (show tiled C.tab 0 _ = some _ → TyFs (TyW C.tab 1000000000 n) [(0, 4), (1, 22), (2, 23), (3, 3), (4, 4)] xs from h) rfl
    obtain ⟨a0, rfl⟩ := tyw_bool h0
    obtain ⟨a1, rfl, l1⟩ := tyw_ents h1
    obtain ⟨a2, rfl, l2⟩ := tyw_coms h2
    obtain ⟨a3, rfl, _⟩ := tyw_int h3
    obtain ⟨a4, rfl⟩ := tyw_bool h4
    exact ⟨⟨a0, a1, a2, a3, a4⟩, rfl, l1, l2⟩
theorem tyv_page {y : AV} (h : TyVW C.tab 1000000000 35 y) : ∃ p : Pag, y = .agg p.row ∧ PBig p := by
  obtain ⟨n, xs, rfl, h2⟩ := (show ∃ n xs, y = .agg xs ∧ TyW C.tab 1000000000 n 35 xs from h)
  obtain ⟨c, rfl, hc⟩ := tyw_page h2
  exact ⟨c, rfl, hc⟩
end Go.Proofs.YtkkfilkmkdnboaaDoor
