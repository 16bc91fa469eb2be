import Derived.Test.YtaoffekhpjgmdaaGreatDoorMz9
import Derived.Test.YtaoffekhpjgmdaaGreatDoorMz10
import Derived.Test.YtaoffekhpjgmdaaGreatDoorMz11
import Derived.Test.YtaoffekhpjgmdaaGreatDoorMz6
/- Entries and changes that are handed in, of a bulk that is bound. -/
set_option linter.unusedSimpArgs false
set_option linter.unnecessarySimpa false
namespace Go.Proofs.YtaoffekhpjgmdaaGreatDoor
open Go.Ab Go.RowKit

theorem tyw_int {n : Nat} {xs : List AV} (h : TyW C.tab 140737488355328 n 3 xs) : ∃ a, xs = [.v (.int .i64 a)] ∧ (Lit.int .i64 a).wf = true := by
  cases n with
  | zero => exact h.elim
  | succ n => exact h
theorem tyw_str {n : Nat} {xs : List AV} (h : TyW C.tab 140737488355328 n 9 xs) : ∃ s : Str, xs = [.v (str s)] ∧ s.length ≤ 140737488355328 := by
  cases n with
  | zero => exact h.elim
  | succ n => exact h
theorem tyw_bool {n : Nat} {xs : List AV} (h : TyW C.tab 140737488355328 n 4 xs) : ∃ b, xs = [.v (.bool b)] := by
  cases n with
  | zero => exact h.elim
  | succ n => exact h
theorem tyv_int {y : AV} (h : TyVW C.tab 140737488355328 3 y) : ∃ a, y = .v (.int .i64 a) ∧ (Lit.int .i64 a).wf = true := by
  obtain ⟨n, h⟩ := (show ∃ n, TyW C.tab 140737488355328 n 3 [y] from h)
  obtain ⟨a, h1, h2⟩ := tyw_int h
  exact ⟨a, by simpa using h1, h2⟩
theorem tyv_str {y : AV} (h : TyVW C.tab 140737488355328 9 y) : ∃ s : Str, y = .v (str s) ∧ s.length ≤ 140737488355328 := by
  obtain ⟨n, h⟩ := (show ∃ n, TyW C.tab 140737488355328 n 9 [y] from h)
  obtain ⟨a, h1, h2⟩ := tyw_str h
  exact ⟨a, by simpa using h1, h2⟩

def Ent.row (e : Ent) : List AV := [.v (str e.path), .v (.bool e.fold), .v (str e.text), .v (.int .i64 e.ver)]
def Ent.small (e : Ent) : Prop := e.path.length ≤ 140737488355328 ∧ e.text.length ≤ 140737488355328
def entAV (t : List Ent) : AV := .sl false (t.map Ent.row)
structure EBig (t : List Ent) : Prop where
  each : ∀ e, e ∈ t → e.small
  len : t.length ≤ 140737488355328
def Chg.row (c : Chg) : List AV := [.v (.int .i64 c.kind), .v (str c.path), .v (str c.to), .v (str c.text), .v (.int .i64 c.base)]
def Chg.small (c : Chg) : Prop := c.path.length ≤ 140737488355328 ∧ c.to.length ≤ 140737488355328 ∧ c.text.length ≤ 140737488355328
def chgAV (t : List Chg) : AV := .sl false (t.map Chg.row)
structure CBig (t : List Chg) : Prop where
  each : ∀ e, e ∈ t → e.small
  len : t.length ≤ 140737488355328
theorem tyw_ent {n : Nat} {xs : List AV} (h : TyW C.tab 140737488355328 n 61 xs) : ∃ s : Ent, xs = s.row ∧ s.small := by
  cases n with
  | zero => exact h.elim
  | succ n =>
    obtain ⟨_, _, rfl, h0, _, _, rfl, h1, _, _, rfl, h2, _, _, rfl, h3, rfl⟩ := (show tiled C.tab 0 _ = some _ → TyFs (TyW C.tab 140737488355328 n) [(0, 9), (1, 4), (2, 9), (3, 3)] xs from h) rfl
    obtain ⟨a0, rfl, l0⟩ := tyw_str h0
    obtain ⟨a1, rfl⟩ := tyw_bool h1
    obtain ⟨a2, rfl, l2⟩ := tyw_str h2
    obtain ⟨a3, rfl, _⟩ := tyw_int h3
    exact ⟨⟨a0, a1, a2, a3⟩, rfl, l0, l2⟩
theorem tyw_chg {n : Nat} {xs : List AV} (h : TyW C.tab 140737488355328 n 40 xs) : ∃ s : Chg, xs = s.row ∧ s.small := by
  cases n with
  | zero => exact h.elim
  | succ n =>
    obtain ⟨_, _, rfl, h0, _, _, rfl, h1, _, _, rfl, h2, _, _, rfl, h3, _, _, rfl, h4, rfl⟩ := (show tiled C.tab 0 _ = some _ → TyFs (TyW C.tab 140737488355328 n) [(0, 3), (1, 9), (2, 9), (3, 9), (4, 3)] xs from h) rfl
    obtain ⟨a0, rfl, _⟩ := tyw_int h0
    obtain ⟨a1, rfl, l1⟩ := tyw_str h1
    obtain ⟨a2, rfl, l2⟩ := tyw_str h2
    obtain ⟨a3, rfl, l3⟩ := tyw_str h3
    obtain ⟨a4, rfl, _⟩ := tyw_int h4
    exact ⟨⟨a0, a1, a2, a3, a4⟩, rfl, l1, l2, l3⟩
theorem tyv_ents {y : AV} (h : TyVW C.tab 140737488355328 22 y) : ∃ t : List Ent, y = entAV t ∧ EBig t := by
  obtain ⟨n, h⟩ := (show ∃ n, TyW C.tab 140737488355328 n 22 [y] from h)
  cases n with
  | zero => exact h.elim
  | succ n =>
    obtain ⟨rows, he, hb, hr⟩ := (show (4 : Nat) ≠ 0 → ∃ rows, [y] = [AV.sl false rows] ∧ rows.length * 48 ≤ 140737488355328 ∧ ∀ row, row ∈ rows → TyW C.tab 140737488355328 n 61 row from h) (by decide)
    obtain ⟨l, rfl, hl⟩ := rows_map (f := Ent.row) (ok := Ent.small) (fun row hrow => tyw_ent (hr row hrow))
    refine ⟨l, by simpa [entAV] using he, hl, ?_⟩
    simp at hb; omega
theorem tyv_chgs {y : AV} (h : TyVW C.tab 140737488355328 23 y) : ∃ t : List Chg, y = chgAV t ∧ CBig t := by
  obtain ⟨n, h⟩ := (show ∃ n, TyW C.tab 140737488355328 n 23 [y] from h)
  cases n with
  | zero => exact h.elim
  | succ n =>
    obtain ⟨rows, he, hb, hr⟩ := (show (5 : Nat) ≠ 0 → ∃ rows, [y] = [AV.sl false rows] ∧ rows.length * 64 ≤ 140737488355328 ∧ ∀ row, row ∈ rows → TyW C.tab 140737488355328 n 40 row from h) (by decide)
    obtain ⟨l, rfl, hl⟩ := rows_map (f := Chg.row) (ok := Chg.small) (fun row hrow => tyw_chg (hr row hrow))
    refine ⟨l, by simpa [chgAV] using he, hl, ?_⟩
    simp at hb; omega
theorem tyv_chg {y : AV} (h : TyVW C.tab 140737488355328 40 y) : ∃ c : Chg, y = .agg c.row ∧ c.small := by
  obtain ⟨n, xs, rfl, h2⟩ := (show ∃ n xs, y = .agg xs ∧ TyW C.tab 140737488355328 n 40 xs from h)
  obtain ⟨c, rfl, hc⟩ := tyw_chg h2
  exact ⟨c, rfl, hc⟩
end Go.Proofs.YtaoffekhpjgmdaaGreatDoor

/- The types of trees and of changes: what is handed in, told abstractly. -/
set_option linter.unusedSimpArgs false
set_option linter.unusedVariables false
namespace Go.Proofs.YtaoffekhpjgmdaaGreatDoor
open Go.Ab Go.RowKit

theorem tyw_ents {n : Nat} {xs : List AV} (h : TyW C.tab 140737488355328 n 22 xs) : ∃ t : List Ent, xs = [entAV t] ∧ EBig t := by
  cases n with
  | zero => exact h.elim
  | succ n =>
    obtain ⟨rows, he, hb, hr⟩ := (show (4 : Nat) ≠ 0 → ∃ rows, xs = [AV.sl false rows] ∧ rows.length * 48 ≤ 140737488355328 ∧ ∀ row, row ∈ rows → TyW C.tab 140737488355328 n 61 row from h) (by decide)
    obtain ⟨l, rfl, hl⟩ := rows_map (f := Ent.row) (ok := Ent.small) (fun row hrow => tyw_ent (hr row hrow))
    refine ⟨l, he, hl, ?_⟩
    simp at hb; omega
theorem tyw_chgs {n : Nat} {xs : List AV} (h : TyW C.tab 140737488355328 n 23 xs) : ∃ t : List Chg, xs = [chgAV t] ∧ CBig t := by
  cases n with
  | zero => exact h.elim
  | succ n =>
    obtain ⟨rows, he, hb, hr⟩ := (show (5 : Nat) ≠ 0 → ∃ rows, xs = [AV.sl false rows] ∧ rows.length * 64 ≤ 140737488355328 ∧ ∀ row, row ∈ rows → TyW C.tab 140737488355328 n 40 row from h) (by decide)
    obtain ⟨l, rfl, hl⟩ := rows_map (f := Chg.row) (ok := Chg.small) (fun row hrow => tyw_chg (hr row hrow))
    refine ⟨l, he, hl, ?_⟩
    simp at hb; omega
end Go.Proofs.YtaoffekhpjgmdaaGreatDoor

/- Paths in the abstract layer, 1: strings.Index and strings.Count at one sign; great. -/
set_option linter.unusedSimpArgs false
set_option linter.unnecessarySimpa false
set_option maxHeartbeats 1000000
namespace Go.Proofs.YtaoffekhpjgmdaaGreatDoor
open Go.Ab Go.RowKit
set_option maxRecDepth 10000
attribute [local irreducible] Awp Ops OpsX Wanted Red ExOk Go.Ab.Fin ACall Rz RzL RzRows Enters ResOk RenV RenVL ArgV ArgVL

def slash : Str := [47]
theorem a_indexByte (s : Str) (c : UInt8) : AFn C.P 63 [.v (str s), .v (.int .u8 (c.toNat : Int))] (.v (.int .i64 (Lib.indexByte s c))) := by
  refine acall_intro Tryz.func63 rfl _ Tryz.ntmps63 (Nat.le_of_ble_eq_true rfl) _ Tryz.results63 0 rfl rfl ?_
  repeat' (first | refine walk ?_ | (first | (apply opsx_val; apply ex_ext2; exact Tryz.func75; (case hname => rfl); (case hb => rfl); (case hnx => rfl); (case hex => rfl); (case hx => rfl); (case hy => rfl); (case hrun => exact fun w => Lib.run_indexByteString _ _ w); (case hr => rfl); (case hN => exact nle rfl))) | ((first | (apply awp_cond; rfl)); all_goals (intro hc; have hp := hc; first | (simp at hp; done) | ((try simp at hp); first | (exfalso; omega) | skip))) | (apply awp_cond_any; rfl))
  apply fin_int
  rfl
  simp
theorem a_indexL (s : Str) : AFn C.P 118 [.v (str s), .v (str slash)] (.v (.int .i64 (Lib.indexByte s 47))) := by
  refine acall_intro Tryz.func118 rfl _ Tryz.ntmps118 (Nat.le_of_ble_eq_true rfl) _ Tryz.results118 0 rfl rfl ?_
  repeat' (first | refine walk ?_ | (first | (apply to_call Tryz.func63 rfl rfl; intro hIsFn; refine o_callf hIsFn (a_indexByte s 47 ..) ?_; skip)) | ((first | (apply ops_split_t; rfl; rfl; exact nle rfl) | (apply ops_split_f; rfl; rfl; exact nle rfl) | (apply awp_cond; rfl)); all_goals (intro hc; have hp := hc; first | (simp at hp; done) | ((try simp at hp); first | (exfalso; omega) | skip))) | (apply awp_cond_any; rfl))
  all_goals try (exfalso; simp_all [slash]; done)
  all_goals (apply fin_int; rfl; first | rfl | (have e : slash = s := (by assumption); subst e; rfl))
theorem a_index (s : Str) : AFn C.P 114 [.v (str s), .v (str slash)] (.v (.int .i64 (Lib.indexByte s 47))) := by
  refine acall_intro Tryz.func114 rfl _ Tryz.ntmps114 (Nat.le_of_ble_eq_true rfl) _ Tryz.results114 0 rfl rfl ?_
  repeat' (first | refine walk ?_ | (first | (apply to_call Tryz.func118 rfl rfl; intro hIsFn; refine o_callf hIsFn (a_indexL s ..) ?_; skip)) | ((first | (apply awp_cond; rfl)); all_goals (intro hc; have hp := hc; first | (simp at hp; done) | ((try simp at hp); first | (exfalso; omega) | skip))) | (apply awp_cond_any; rfl))
  apply fin_int
  rfl
  rfl
theorem a_count (s : Str) : AFn C.P 108 [.v (str s), .v (str slash)] (.v (.int .i64 (s.count 47 : Nat))) := by
  refine acall_intro Tryz.func108 rfl _ Tryz.ntmps108 (Nat.le_of_ble_eq_true rfl) _ Tryz.results108 0 rfl rfl ?_
  repeat' (first | refine walk ?_ | (first | (apply opsx_val; apply ex_ext2; exact Tryz.func113; (case hname => rfl); (case hb => rfl); (case hnx => rfl); (case hex => rfl); (case hx => rfl); (case hy => rfl); (case hrun => exact fun w => Lib.run_countString _ _ w); (case hr => rfl); (case hN => exact nle rfl))) | ((first | (apply awp_cond; rfl)); all_goals (intro hc; have hp := hc; first | (simp at hp; done) | ((try simp at hp); first | (exfalso; omega) | skip))) | (apply awp_cond_any; rfl))
  all_goals try (exfalso; simp_all [slash]; done)
  all_goals (apply fin_int; rfl; simp [Lib.countByte])
theorem a_great (s : Str) : AFn C.P 101 [.v (str s)] (.v (.bool (tooGreat s))) := by
  have htg := tooGreat_count s
  refine acall_intro Tryz.func101 rfl _ Tryz.ntmps101 (Nat.le_of_ble_eq_true rfl) _ Tryz.results101 0 rfl rfl ?_
  repeat' (first | refine walk ?_ | (first | (apply to_call Tryz.func108 rfl rfl; intro hIsFn; refine o_callf hIsFn (a_count s ..) ?_; skip)) | ((first | (apply ops_split_t; rfl; rfl; exact nle rfl) | (apply ops_split_f; rfl; rfl; exact nle rfl) | (apply awp_cond; rfl)); all_goals (intro hc; have hp := hc; first | (simp at hp; done) | ((try simp at hp); first | (exfalso; omega) | skip))) | (apply awp_cond_any; rfl))
  all_goals (apply fin_bool; rfl; rw [htg])
  all_goals first
    | (have h6 : ¬ 6 ≤ s.count 47 := (by omega)
       simp [h6]; omega)
    | (have h6 : 6 ≤ s.count 47 := (by omega)
       simp [h6]; done)
end Go.Proofs.YtaoffekhpjgmdaaGreatDoor
