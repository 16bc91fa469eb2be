/- Values that are handed in, of the types of this seat. -/
import Derived.Test.YtdcigjpanpcaaaaTy
import Derived.Test.YtdcigjpanpcaaaaData
set_option linter.unusedSimpArgs false
namespace Go.Proofs.Ytdcigjpanpcaaaa
open Go.Ab Go.RowKit

/-- The base of a function that is handed one row of memory. -/
noncomputable def C1 : Cx := { C with nh := 1 }

theorem rows_map {α : Type} {f : α → List AV} {ok : α → Prop} : ∀ {rows : List (List AV)}, (∀ row, row ∈ rows → ∃ a, row = f a ∧ ok a) → ∃ l : List α, rows = l.map f ∧ ∀ a, a ∈ l → ok a
  | [], _ => ⟨[], rfl, fun a h => by cases h⟩
  | row :: rows, h => by
    obtain ⟨a, rfl, ha⟩ := h row (List.mem_cons_self ..)
    obtain ⟨l, rfl, hl⟩ := rows_map fun r hr => h r (List.mem_cons_of_mem _ hr)
    exact ⟨a :: l, rfl, fun b hb => by rcases List.mem_cons.1 hb with rfl | hb; exact ha; exact hl b hb⟩

theorem tyc_int {n : Nat} {xs : List AV} (h : Ty C.tab n 3 xs) : ∃ a, xs = [.v (.int .i64 a)] ∧ (Lit.int .i64 a).wf = true := by
  cases n with
  | zero => exact h.elim
  | succ n => exact h
theorem tyc_str {n : Nat} {xs : List AV} (h : Ty C.tab n 9 xs) : ∃ s : Str, xs = [.v (str s)] ∧ s.length ≤ 140737488355328 := by
  cases n with
  | zero => exact h.elim
  | succ n => exact h
theorem ty_int {y : AV} (h : TyV C.tab 3 y) : ∃ a, y = .v (.int .i64 a) ∧ (Lit.int .i64 a).wf = true := by
  obtain ⟨n, h⟩ := (show ∃ n, Ty C.tab n 3 [y] from h)
  obtain ⟨a, h1, h2⟩ := tyc_int h
  exact ⟨a, by simpa using h1, h2⟩
theorem ty_str {y : AV} (h : TyV C.tab 9 y) : ∃ s : Str, y = .v (str s) ∧ s.length ≤ 140737488355328 := by
  obtain ⟨n, h⟩ := (show ∃ n, Ty C.tab n 9 [y] from h)
  obtain ⟨a, h1, h2⟩ := tyc_str h
  exact ⟨a, by simpa using h1, h2⟩

def Sess.row (s : Sess) : List AV := [.v (.int .i64 s.number), .v (str s.who), .v (str s.text), .v (.int .i64 s.size), .v (.int .i64 s.till)]
def Upl.row (u : Upl) : List AV := [.sl false (u.sess.map Sess.row), .v (.int .i64 u.next), .v (.int .i64 u.lasts), .v (.int .i64 u.room)]
def uplAV (u : Upl) : AV := .agg u.row
def Sess.small (s : Sess) : Prop := s.who.length ≤ 140737488355328 ∧ s.text.length ≤ 140737488355328
theorem tyc_sess {n : Nat} {xs : List AV} (h : Ty C.tab n 44 xs) : ∃ s : Sess, xs = s.row ∧ s.small := by
  cases n with
  | zero => exact h.elim
  | succ n =>
    obtain ⟨_, _, rfl, h0, _, _, rfl, h1, _, _, rfl, h2, _, _, rfl, h3, _, _, rfl, h4, rfl⟩ := (show tiled C.tab 0 _ = some _ → TyFs (Ty C.tab n) [(0, 3), (1, 9), (2, 9), (3, 3), (4, 3)] xs from h) rfl
    obtain ⟨a0, rfl, _⟩ := tyc_int h0
    obtain ⟨a1, rfl, l1⟩ := tyc_str h1
    obtain ⟨a2, rfl, l2⟩ := tyc_str h2
    obtain ⟨a3, rfl, _⟩ := tyc_int h3
    obtain ⟨a4, rfl, _⟩ := tyc_int h4
    exact ⟨⟨a0, a1, a2, a3, a4⟩, rfl, l1, l2⟩

structure UBig (u : Upl) : Prop where
  who : ∀ s, s ∈ u.sess → s.who.length ≤ 9223372036854775807
  text : ∀ s, s ∈ u.sess → s.text.length ≤ 140737488355328
  len : u.sess.length ≤ 9223372036854775807

theorem ty_upl {y : AV} (h : TyV C.tab 24 y) : ∃ u : Upl, y = uplAV u ∧ UBig u := by
  obtain ⟨n, xs, rfl, h⟩ := (show ∃ n xs, y = .agg xs ∧ Ty C.tab n 24 xs from h)
  cases n with
  | zero => exact h.elim
  | succ n =>
    obtain ⟨_, _, rfl, h0, _, _, rfl, h1, _, _, rfl, h2, _, _, rfl, h3, rfl⟩ := (show tiled C.tab 0 _ = some _ → TyFs (Ty C.tab n) [(0, 22), (1, 3), (2, 3), (3, 3)] xs from h) rfl
    obtain ⟨a1, rfl, _⟩ := tyc_int h1
    obtain ⟨a2, rfl, _⟩ := tyc_int h2
    obtain ⟨a3, rfl, _⟩ := tyc_int h3
    cases n with
    | zero => exact h0.elim
    | succ n =>
      obtain ⟨rows, rfl, hb, hr⟩ := (show (5 : Nat) ≠ 0 → ∃ rows, _ = [AV.sl false rows] ∧ rows.length * 56 ≤ 140737488355328 ∧ ∀ row, row ∈ rows → Ty C.tab n 44 row from h0) (by decide)
      obtain ⟨l, rfl, hl⟩ := rows_map (f := Sess.row) (ok := Sess.small) fun row hrow => tyc_sess (hr row hrow)
      refine ⟨⟨l, a1, a2, a3⟩, rfl, fun s hs => ?_, fun s hs => (hl s hs).2, ?_⟩
      · have := (hl s hs).1; omega
      · simp at hb; show l.length ≤ _; omega
end Go.Proofs.Ytdcigjpanpcaaaa
