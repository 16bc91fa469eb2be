import Derived.Test.YtiljlcgmcmjcoaaGreatDoorTy
import Derived.Test.YtiljlcgmcmjcoaaGreatDoorMz0
import Derived.Test.YtiljlcgmcmjcoaaGreatDoorMz4
import Derived.Test.YtiljlcgmcmjcoaaGreatDoorMz6
import Derived.Test.YtiljlcgmcmjcoaaGreatDoorMz1
set_option linter.unusedSimpArgs false
set_option linter.unnecessarySimpa false
namespace Go.Proofs.YtiljlcgmcmjcoaaGreatDoor
open Go.Ab Go.RowKit
noncomputable def C1 : Cx := { C with nh := 1 }
theorem wq {α : Type} {f : α → List AV} {ok : α → Prop} : ∀ {rows : List (List AV)}, (∀ row, row ∈ rows → ∃ a, row = f a ∧ ok a) → ∃ l : List α, rows = l.map f ∧ ∀ a, a ∈ l → ok a
  | [], _ => ⟨[], rfl, fun a h => by cases h⟩
  | row :: rows, h => by
    obtain ⟨a, rfl, ha⟩ := h row (List.mem_cons_self ..)
    obtain ⟨l, rfl, hl⟩ := wq fun r hr => h r (List.mem_cons_of_mem _ hr)
    exact ⟨a :: l, rfl, fun b hb => by rcases List.mem_cons.1 hb with rfl | hb; exact ha; exact hl b hb⟩
theorem xM (s : qC) (hs : s.length ≤ 140737488355328) : jT C.P 37 [.v (str s)] (.v (.bool (qo s))) := kJ rfl fun w => Qm s w (by omega)
theorem Y8 (s : qC) (hs : s.length ≤ 140737488355328) : jT C.P 25 [.v (str s)] (.v (.bool (qo s))) := kJ rfl fun w => XF s w (by omega)
end Go.Proofs.YtiljlcgmcmjcoaaGreatDoor
set_option linter.unusedSimpArgs false
set_option linter.unnecessarySimpa false
namespace Go.Proofs.YtiljlcgmcmjcoaaGreatDoor
open Go.Ab Go.RowKit
theorem vx {n : Nat} {xs : List AV} (h : zC C.tab 1000000000 n 3 xs) : ∃ a, xs = [.v (.int .i64 a)] ∧ (Lit.int .i64 a).wf = true := by
  cases n with
  | zero => exact h.elim
  | succ n => exact h
theorem za {n : Nat} {xs : List AV} (h : zC C.tab 1000000000 n 9 xs) : ∃ s : qC, xs = [.v (str s)] ∧ s.length ≤ 1000000000 := by
  cases n with
  | zero => exact h.elim
  | succ n => exact h
theorem qex {n : Nat} {xs : List AV} (h : zC C.tab 1000000000 n 4 xs) : ∃ b, xs = [.v (.bool b)] := by
  cases n with
  | zero => exact h.elim
  | succ n => exact h
theorem qf2 {y : AV} (h : qab C.tab 1000000000 3 y) : ∃ a, y = .v (.int .i64 a) ∧ (Lit.int .i64 a).wf = true := by
  obtain ⟨n, h⟩ := (show ∃ n, zC C.tab 1000000000 n 3 [y] from h)
  obtain ⟨a, h1, h2⟩ := vx h
  exact ⟨a, by simpa using h1, h2⟩
theorem qgI {y : AV} (h : qab C.tab 1000000000 9 y) : ∃ s : qC, y = .v (str s) ∧ s.length ≤ 1000000000 := by
  obtain ⟨n, h⟩ := (show ∃ n, zC C.tab 1000000000 n 9 [y] from h)
  obtain ⟨a, h1, h2⟩ := za h
  exact ⟨a, by simpa using h1, h2⟩
def Ent.row (e : Ent) : List AV := [.v (str e.path), .v (.bool e.fold), .v (str e.text), .v (.int .i64 e.ver)]
def Ent.small (e : Ent) : Prop := e.path.length ≤ 1000000000 ∧ e.text.length ≤ 1000000000
def qp (t : List Ent) : AV := .sl false (t.map Ent.row)
structure EBig (t : List Ent) : Prop where
  each : ∀ e, e ∈ t → e.small
  len : t.length ≤ 1000000000
def Chg.row (c : Chg) : List AV := [.v (.int .i64 c.kind), .v (str c.path), .v (str c.to), .v (str c.text), .v (.int .i64 c.base)]
def Chg.small (c : Chg) : Prop := c.path.length ≤ 1000000000 ∧ c.to.length ≤ 1000000000 ∧ c.text.length ≤ 1000000000
def xo (t : List Chg) : AV := .sl false (t.map Chg.row)
structure CBig (t : List Chg) : Prop where
  each : ∀ e, e ∈ t → e.small
  len : t.length ≤ 1000000000
theorem qgq {n : Nat} {xs : List AV} (h : zC C.tab 1000000000 n 72 xs) : ∃ s : Ent, xs = s.row ∧ s.small := by
  cases n with
  | zero => exact h.elim
  | succ n =>
    obtain ⟨_, _, rfl, h0, _, _, rfl, h1, _, _, rfl, h2, _, _, rfl, h3, rfl⟩ := (show ww C.tab 0 _ = some _ → Vb (zC C.tab 1000000000 n) [(0, 9), (1, 4), (2, 9), (3, 3)] xs from h) rfl
    obtain ⟨a0, rfl, l0⟩ := za h0
    obtain ⟨a1, rfl⟩ := qex h1
    obtain ⟨a2, rfl, l2⟩ := za h2
    obtain ⟨a3, rfl, _⟩ := vx h3
    exact ⟨⟨a0, a1, a2, a3⟩, rfl, l0, l2⟩
theorem qgj {n : Nat} {xs : List AV} (h : zC C.tab 1000000000 n 81 xs) : ∃ s : Chg, xs = s.row ∧ s.small := by
  cases n with
  | zero => exact h.elim
  | succ n =>
    obtain ⟨_, _, rfl, h0, _, _, rfl, h1, _, _, rfl, h2, _, _, rfl, h3, _, _, rfl, h4, rfl⟩ := (show ww C.tab 0 _ = some _ → Vb (zC C.tab 1000000000 n) [(0, 3), (1, 9), (2, 9), (3, 9), (4, 3)] xs from h) rfl
    obtain ⟨a0, rfl, _⟩ := vx h0
    obtain ⟨a1, rfl, l1⟩ := za h1
    obtain ⟨a2, rfl, l2⟩ := za h2
    obtain ⟨a3, rfl, l3⟩ := za h3
    obtain ⟨a4, rfl, _⟩ := vx h4
    exact ⟨⟨a0, a1, a2, a3, a4⟩, rfl, l1, l2, l3⟩
end Go.Proofs.YtiljlcgmcmjcoaaGreatDoor
set_option linter.unusedSimpArgs false
set_option linter.unusedVariables false
namespace Go.Proofs.YtiljlcgmcmjcoaaGreatDoor
open Go.Ab Go.RowKit
theorem qfE {n : Nat} {xs : List AV} (h : zC C.tab 1000000000 n 41 xs) : ∃ t : List Ent, xs = [qp t] ∧ EBig t := by
  cases n with
  | zero => exact h.elim
  | succ n =>
    obtain ⟨rows, he, hb, hr⟩ := (show (4 : Nat) ≠ 0 → ∃ rows, xs = [AV.sl false rows] ∧ rows.length * 48 ≤ 1000000000 ∧ ∀ row, row ∈ rows → zC C.tab 1000000000 n 72 row from h) (by decide)
    obtain ⟨l, rfl, hl⟩ := wq (f := Ent.row) (ok := Ent.small) (fun row hrow => qgq (hr row hrow))
    refine ⟨l, he, hl, ?_⟩
    simp at hb; omega
theorem qeO {n : Nat} {xs : List AV} (h : zC C.tab 1000000000 n 38 xs) : ∃ t : List Chg, xs = [xo t] ∧ CBig t := by
  cases n with
  | zero => exact h.elim
  | succ n =>
    obtain ⟨rows, he, hb, hr⟩ := (show (5 : Nat) ≠ 0 → ∃ rows, xs = [AV.sl false rows] ∧ rows.length * 64 ≤ 1000000000 ∧ ∀ row, row ∈ rows → zC C.tab 1000000000 n 81 row from h) (by decide)
    obtain ⟨l, rfl, hl⟩ := wq (f := Chg.row) (ok := Chg.small) (fun row hrow => qgj (hr row hrow))
    refine ⟨l, he, hl, ?_⟩
    simp at hb; omega
end Go.Proofs.YtiljlcgmcmjcoaaGreatDoor
set_option linter.unusedSimpArgs false
set_option linter.unnecessarySimpa false
set_option maxHeartbeats 1000000
namespace Go.Proofs.YtiljlcgmcmjcoaaGreatDoor
open Go.Ab Go.RowKit
set_option maxRecDepth 10000
attribute [local irreducible] Awp jZ jg qJ Red qz Go.Ab.Fin qm Rz y0 qB qG ResOk jG q9 jK qV
def kC : qC := [47]
theorem qgs (s : qC) : jT C.P 171 [.v (str s), .v (str kC)] (.v (.int .i64 (s.count 47 : Nat))) := by
  refine qa Tryz.func171 rfl _ Tryz.ntmps171 (Nat.le_of_ble_eq_true rfl) _ Tryz.results171 0 rfl rfl ?_
  repeat' (first | refine qe ?_ | (first | (apply qj; apply qgt; exact Tryz.func185; (case hname => rfl); (case hb => rfl); (case hnx => rfl); (case hex => rfl); (case hx => rfl); (case hy => rfl); (case hrun => exact fun w => Lib.run_countString _ _ w); (case hr => rfl); (case hN => exact nle rfl))) | ((first | refine xsC ?_ ?_); all_goals (intro hc; have hp := hc; try simp at hp; try (exfalso; omega))) | refine qv ?_ ?_)
  all_goals try (exfalso; simp_all [kC]; done)
  all_goals (apply qE; rfl; simp [Lib.countByte])
theorem qgT (s : qC) : jT C.P 143 [.v (str s)] (.v (.bool (yn s))) := by
  have htg := QS s
  refine qa Tryz.func143 rfl _ Tryz.ntmps143 (Nat.le_of_ble_eq_true rfl) _ Tryz.results143 0 rfl rfl ?_
  repeat' (first | refine qe ?_ | (first | refine xsF Tryz.func171 (qgs s ..) ?_) | ((first | refine qb ?_ ?_ | refine qc ?_ ?_ | refine xsC ?_ ?_); all_goals (intro hc; have hp := hc; try simp at hp; try (exfalso; omega))) | refine qv ?_ ?_)
  all_goals (apply qU; rfl; rw [htg])
  all_goals first
    | (have h6 : ¬ 6 ≤ s.count 47 := (by omega)
       simp [h6]; omega)
    | (have h6 : 6 ≤ s.count 47 := (by omega)
       simp [h6]; done)
end Go.Proofs.YtiljlcgmcmjcoaaGreatDoor
set_option linter.unusedSimpArgs false
namespace Go.Proofs.YtiljlcgmcmjcoaaGreatDoor
open Go.Ab Go.RowKit
def Sess.row (s : Sess) : List AV := [.v (.int .i64 s.number), .v (str s.who), .v (str s.text), .v (.int .i64 s.size), .v (.int .i64 s.till)]
def Upl.row (u : Upl) : List AV := [.sl false (u.sess.map Sess.row), .v (.int .i64 u.next), .v (.int .i64 u.lasts), .v (.int .i64 u.room)]
def vm (u : Upl) : AV := .agg u.row
def Sess.small (s : Sess) : Prop := s.who.length ≤ 140737488355328 ∧ s.text.length ≤ 140737488355328
structure UBig (u : Upl) : Prop where
  who : ∀ s, s ∈ u.sess → s.who.length ≤ 9223372036854775807
  text : ∀ s, s ∈ u.sess → s.text.length ≤ 140737488355328
  len : u.sess.length ≤ 9223372036854775807
end Go.Proofs.YtiljlcgmcmjcoaaGreatDoor
set_option linter.unusedSimpArgs false
namespace Go.Proofs.YtiljlcgmcmjcoaaGreatDoor
open Go.Ab Go.RowKit
def Gra.row (g : Gra) : List AV := [.v (str g.folder), .v (str g.who), .v (.int .i64 g.right)]
def Gra.small (g : Gra) : Prop := g.folder.length ≤ 140737488355328 ∧ g.who.length ≤ 140737488355328
def jw (l : List Gra) : AV := .sl false (l.map Gra.row)
structure GBig (l : List Gra) : Prop where
  each : ∀ g, g ∈ l → g.small
  len : l.length ≤ 140737488355328
def zX (a b : Gra) : Int := if vv a.folder b.folder = 0 then vv a.who b.who else vv a.folder b.folder
end Go.Proofs.YtiljlcgmcmjcoaaGreatDoor
set_option linter.unusedVariables false
namespace Go.Proofs.YtiljlcgmcmjcoaaGreatDoor
open Go.Ab Go.RowKit
structure Rqt where
  kind : Int
  who : qC
  folder : qC
  name : qC
  key : qC
  text : qC
  number : Int
  offset : Int
  base : Int
  chs : List Chg
  deriving DecidableEq
def Rqt.row (r : Rqt) : List AV := [.v (.int .i64 r.kind), .v (str r.who), .v (str r.folder), .v (str r.name), .v (str r.key), .v (str r.text), .v (.int .i64 r.number), .v (.int .i64 r.offset), .v (.int .i64 r.base), xo r.chs]
end Go.Proofs.YtiljlcgmcmjcoaaGreatDoor
set_option maxHeartbeats 1000000
namespace Go.Proofs.YtiljlcgmcmjcoaaGreatDoor
open Go.Ab Go.RowKit
set_option maxRecDepth 10000
attribute [local irreducible] Awp jZ jg qJ Red qz Go.Ab.Fin qm Rz y0 qB qG ResOk jG q9 jK qV
theorem Yz (s : qC) (hs : s.length ≤ 9223372036854775807) : jT C.P 37 [.v (str s)] (.v (.bool (qo s))) := kJ rfl fun w => Qm s w hs
theorem Z5 (s : qC) (hs : s.length ≤ 9223372036854775807) : jT C.P 25 [.v (str s)] (.v (.bool (qo s))) := kJ rfl fun w => XF s w hs
theorem kZ (a b c : Int) : jT C.P 68 [.v (.int .i64 a), .v (.int .i64 b), .v (.int .i64 c)] (.v (.bool (qA a b c))) := by
  refine qa Tryz.func68 rfl _ Tryz.ntmps68 (Nat.le_of_ble_eq_true rfl) _ Tryz.results68 0 rfl rfl ?_
  repeat' (first | refine qe ?_ | fail | ((first | refine qb ?_ ?_ | refine qc ?_ ?_ | refine xsC ?_ ?_); all_goals (intro hc; have hp := hc; try simp at hp; try (exfalso; omega))) | refine qv ?_ ?_)
  all_goals (apply qU; rfl; simp_all [qA]; try omega)
theorem qdt (u : Upl) (s : Sess) (h1 : 1 ≤ u.next) (h2 : u.next ≤ 1099511627776) (hs : s.who.length ≤ 9223372036854775807) : jT C.P 69 [vm u, .agg s.row] (.v (.int .i64 (j9 u.next s))) := by
  refine qa Tryz.func69 rfl _ Tryz.ntmps69 (Nat.le_of_ble_eq_true rfl) _ Tryz.results69 0 rfl rfl ?_
  repeat' (first | refine qe ?_ | (first | refine xsF Tryz.func68 (kZ ..) ?_ | refine xsF Tryz.func37 (Yz _ hs ..) ?_) | ((first | refine qb ?_ ?_ | refine qc ?_ ?_ | refine xsC ?_ ?_); all_goals (intro hc; have hp := hc; try simp at hp; try (exfalso; omega))) | refine qv ?_ ?_)
  all_goals (apply qE; rfl; simp_all [j9])
end Go.Proofs.YtiljlcgmcmjcoaaGreatDoor
set_option maxHeartbeats 1000000
namespace Go.Proofs.YtiljlcgmcmjcoaaGreatDoor
open Go.Ab Go.RowKit
set_option maxRecDepth 10000
attribute [local irreducible] Awp jZ jg qJ Red qz Go.Ab.Fin qm Rz y0 qB qG ResOk jG q9 jK qV
theorem qeQ (l : List Sess) (who : qC) (hs : ∀ s, s ∈ l → 0 ≤ s.size ∧ s.size ≤ 300) (hl : l.length ≤ 1000) :
    jT C.P 70 [.sl false (l.map Sess.row), .v (str who)] (.v (.int .i64 (jX l who))) := by
  refine qa Tryz.func70 rfl _ Tryz.ntmps70 (Nat.le_of_ble_eq_true rfl) _ Tryz.results70 0 rfl rfl ?_
  repeat' (first | refine qe ?_ | fail | ((first | refine xsC ?_ ?_); all_goals (intro hc; have hp := hc; try simp at hp; try (exfalso; omega))) | refine qv ?_ ?_)
  (refine Awp.red (qf (ts := [(1, .v (str who)), (5, .v (.int .i64 (jX (l.take 0) who))), (8, .sl false (l.map Sess.row)), (9, .v (.int .i64 l.length)), (10, .v (.int .i64 ((0 : Nat) : Int)))]) ?_) ?_; ((repeat (first | exact qd | refine qi ?_ | refine qL ?_ ?_))))
  all_goals try (rw [List.length_map]; done)
  refine qr (fun n σ => ∃ i : Nat, i ≤ l.length ∧ n = l.length - i ∧ (True) ∧ σ = ⟨[(1, .v (str who)), (5, .v (.int .i64 (jX (l.take i) who))), (8, .sl false (l.map Sess.row)), (9, .v (.int .i64 l.length)), (10, .v (.int .i64 (i : Int)))], [], C.nh⟩) l.length ⟨0, Nat.zero_le _, rfl, trivial, rfl⟩ ?_
  rintro n σ ⟨i, hi, rfl, -, rfl⟩
  by_cases hlt : i < l.length
  · have hr := qx (f := Sess.row) hlt
    have hb1 := XV who hs i
    have hb2 := hs l[i] (List.getElem_mem _)
    have hsucc := XY hlt who
    repeat' (first | refine qe ?_ | fail | ((first | refine xsC ?_ ?_); all_goals (intro hc; have hp := hc; try simp at hp; try (exfalso; omega))) | refine qv ?_ ?_)
    all_goals try (exfalso; omega)
    all_goals (refine ⟨l.length - (i + 1), _, by omega, qf (ts := [(1, .v (str who)), (5, .v (.int .i64 (jX (l.take (i + 1)) who))), (8, .sl false (l.map Sess.row)), (9, .v (.int .i64 l.length)), (10, .v (.int .i64 ((i + 1 : Nat) : Int)))]) ?_, i + 1, by omega, rfl, trivial, rfl⟩; ((repeat (first | exact qd | refine qi ?_ | refine qL ?_ ?_))))
    all_goals simp_all
  · obtain rfl : i = l.length := by omega
    repeat' (first | refine qe ?_ | fail | ((first | refine xsC ?_ ?_); all_goals (intro hc; have hp := hc; try simp at hp; try (exfalso; omega))) | refine qv ?_ ?_)
    all_goals first | (exfalso; omega) | skip
    all_goals (apply qE; rfl; simp [List.take_length])
theorem qgc (l : List Sess) (who : qC) (hs : ∀ s, s ∈ l → 0 ≤ s.size ∧ s.size ≤ 300) (hl : l.length ≤ 1000) :
    jT C.P 33 [.sl false (l.map Sess.row), .v (str who)] (.v (.int .i64 (jX l who))) := by
  refine qa Tryz.func33 rfl _ Tryz.ntmps33 (Nat.le_of_ble_eq_true rfl) _ Tryz.results33 0 rfl rfl ?_
  repeat' (first | refine qe ?_ | fail | ((first | refine xsC ?_ ?_); all_goals (intro hc; have hp := hc; try simp at hp; try (exfalso; omega))) | refine qv ?_ ?_)
  (refine Awp.red (qf (ts := [(0, .sl false (l.map Sess.row)), (1, .v (str who)), (5, .v (.int .i64 (jX (l.take 0) who))), (6, .v (.int .i64 ((0 : Nat) : Int)))]) ?_) ?_; ((repeat (first | exact qd | refine qi ?_ | refine qL ?_ ?_))))
  refine qr (fun n σ => ∃ i : Nat, i ≤ l.length ∧ n = l.length - i ∧ (True) ∧ σ = ⟨[(0, .sl false (l.map Sess.row)), (1, .v (str who)), (5, .v (.int .i64 (jX (l.take i) who))), (6, .v (.int .i64 (i : Int)))], [], C.nh⟩) l.length ⟨0, Nat.zero_le _, rfl, trivial, rfl⟩ ?_
  rintro n σ ⟨i, hi, rfl, -, rfl⟩
  by_cases hlt : i < l.length
  · have hr := qx (f := Sess.row) hlt
    have hb1 := XV who hs i
    have hb2 := hs l[i] (List.getElem_mem _)
    have hsucc := XY hlt who
    repeat' (first | refine qe ?_ | fail | ((first | refine xsC ?_ ?_); all_goals (intro hc; have hp := hc; try simp at hp; try (exfalso; omega))) | refine qv ?_ ?_)
    all_goals try (exfalso; simp_all; omega)
    all_goals (refine ⟨l.length - (i + 1), _, by omega, qf (ts := [(0, .sl false (l.map Sess.row)), (1, .v (str who)), (5, .v (.int .i64 (jX (l.take (i + 1)) who))), (6, .v (.int .i64 ((i + 1 : Nat) : Int)))]) ?_, i + 1, by omega, rfl, trivial, rfl⟩; ((repeat (first | exact qd | refine qi ?_ | refine qL ?_ ?_))))
    all_goals simp_all
  · obtain rfl : i = l.length := by omega
    repeat' (first | refine qe ?_ | fail | ((first | refine xsC ?_ ?_); all_goals (intro hc; have hp := hc; try simp at hp; try (exfalso; omega))) | refine qv ?_ ?_)
    all_goals first | (exfalso; simp_all; done) | skip
    all_goals (apply qE; rfl; simp [List.take_length])
theorem Z9 (a b c : Int) : jT C.P 32 [.v (.int .i64 a), .v (.int .i64 b), .v (.int .i64 c)] (.v (.bool (qA a b c))) := by
  refine qa Tryz.func32 rfl _ Tryz.ntmps32 (Nat.le_of_ble_eq_true rfl) _ Tryz.results32 0 rfl rfl ?_
  repeat' (first | refine qe ?_ | fail | ((first | refine qb ?_ ?_ | refine qc ?_ ?_ | refine xsC ?_ ?_); all_goals (intro hc; have hp := hc; try simp at hp; try (exfalso; omega))) | refine qv ?_ ?_)
  all_goals (apply qU; rfl; simp_all [qA]; try omega)
end Go.Proofs.YtiljlcgmcmjcoaaGreatDoor
set_option maxHeartbeats 1000000
namespace Go.Proofs.YtiljlcgmcmjcoaaGreatDoor
open Go.Ab Go.RowKit
set_option maxRecDepth 10000
attribute [local irreducible] Awp jZ jg qJ Red qz Go.Ab.Fin qm Rz y0 qB qG ResOk jG q9 jK qV
theorem Vd (u : Upl) (hu : UBig u) : jT C.P 31 [vm u] (.v (.int .i64 (yu u))) := by
  refine qa Tryz.func31 rfl _ Tryz.ntmps31 (Nat.le_of_ble_eq_true rfl) _ Tryz.results31 0 rfl rfl ?_
  have hlen := hu.len
  repeat' (first | refine qe ?_ | (first | refine xsF Tryz.func68 (kZ ..) ?_) | ((first | refine qb ?_ ?_ | refine qc ?_ ?_ | refine xsC ?_ ?_); all_goals (intro hc; have hp := hc; try simp at hp; try (exfalso; omega))) | refine qv ?_ ?_)
  all_goals first | (apply qE; rfl; simp_all [yu, vT]; done) | (apply qE; rfl; have h20 : 20 < u.sess.length := (by omega); simp_all [yu, vT]; done) | skip
  rename_i h20
  have hw : ∀ s, s ∈ u.sess → s.who.length ≤ 9223372036854775807 := hu.who
  have hn : 1 ≤ u.next ∧ u.next ≤ 1099511627776 := by simp_all [qA]
  have hnl : ¬ 20 < u.sess.length := by omega
  have hhead : vT u = true := by simp_all [vT]
  refine zD 1 0 ?_
  (refine Awp.red (qf (ts := [(1, .fp [u.row] 0 0), (32, .sl false (u.sess.map Sess.row)), (33, .v (.int .i64 u.sess.length)), (34, .v (.int .i64 ((0 : Nat) : Int)))]) ?_) ?_; ((repeat (first | exact qd | refine qi ?_ | refine qL ?_ ?_))))
  all_goals try (rw [List.length_map]; done)
  refine qr (fun n σ => ∃ i : Nat, i ≤ u.sess.length ∧ n = u.sess.length - i ∧ (∀ s, s ∈ u.sess.take i → j9 u.next s = 0) ∧ σ = ⟨[(1, .fp [u.row] 0 0), (32, .sl false (u.sess.map Sess.row)), (33, .v (.int .i64 u.sess.length)), (34, .v (.int .i64 (i : Int)))], [], C.nh⟩) u.sess.length ⟨0, Nat.zero_le _, rfl, (by simp), rfl⟩ ?_
  rintro n σ ⟨i, hi, rfl, hsofar, rfl⟩
  by_cases hlt : i < u.sess.length
  · have hr := qx (f := Sess.row) hlt
    have hwi := hw u.sess[i] (List.getElem_mem _)
    repeat' (first | refine qe ?_ | (first | refine xsF Tryz.func69 (qdt _ _ hn.1 hn.2 hwi ..) ?_) | ((first | refine qb ?_ ?_ | refine qc ?_ ?_ | refine xsC ?_ ?_); all_goals (intro hc; have hp := hc; try simp at hp; try (exfalso; omega))) | refine qv ?_ ?_)
    all_goals try (exfalso; omega)
    · apply qE
      rfl
      have he := zv hlt hsofar hp
      have hz : ¬ jI (j9 u.next) u.sess = 0 := by rw [he]; exact hp
      simp only [yu, hhead, hnl, hz, if_true, if_false]
      exact he.symm
    · refine ⟨u.sess.length - (i + 1), _, by omega, qf (ts := [(1, .fp [u.row] 0 0), (32, .sl false (u.sess.map Sess.row)), (33, .v (.int .i64 u.sess.length)), (34, .v (.int .i64 ((i + 1 : Nat) : Int)))]) ?_, i + 1, by omega, rfl, qK hlt hsofar hp, rfl⟩; ((repeat (first | exact qd | refine qi ?_ | refine qL ?_ ?_)))
  obtain rfl : i = u.sess.length := by omega
  clear hlt hi
  have hz : jI (j9 u.next) u.sess = 0 := jE.2 (fun s hs => hsofar s (by rw [List.take_length]; exact hs))
  clear hsofar
  repeat' (first | refine qe ?_ | fail | ((first | refine qb ?_ ?_ | refine qc ?_ ?_ | refine xsC ?_ ?_); all_goals (intro hc; have hp := hc; try simp at hp; try (exfalso; omega))) | refine qv ?_ ?_)
  all_goals try (exfalso; simp_all; done)
  (refine Awp.red (qf (ts := [(1, .fp [u.row] 0 0), (6, .v (.int .i64 ((0 + 1 : Nat) : Int)))]) ?_) ?_; ((repeat (first | exact qd | refine qi ?_ | refine qL ?_ ?_))))
  refine qr (fun n σ => ∃ i : Nat, i ≤ (u.sess.drop 1).length ∧ n = (u.sess.drop 1).length - i ∧ (∀ (k : Nat) (h : k + 1 < u.sess.length), k < i → decide ((u.sess[k]'(by omega)).number < u.sess[k + 1].number) = true) ∧ σ = ⟨[(1, .fp [u.row] 0 0), (6, .v (.int .i64 ((i + 1 : Nat) : Int)))], [], C.nh⟩) (u.sess.drop 1).length ⟨0, Nat.zero_le _, rfl, (fun k h hk => absurd hk (Nat.not_lt_zero _)), rfl⟩ ?_
  have hdl : (u.sess.drop 1).length = u.sess.length - 1 := by simp
  rintro n σ ⟨i, hi, rfl, hsofar, rfl⟩
  by_cases hlt : i + 1 < u.sess.length
  · have hr := qx (f := Sess.row) hlt
    have hr' := qx (f := Sess.row) (l := u.sess) (i := i) (by omega)
    repeat' (first | refine qe ?_ | fail | ((first | refine qb ?_ ?_ | refine qc ?_ ?_ | refine xsC ?_ ?_); all_goals (intro hc; have hp := hc; try simp at hp; try (exfalso; omega))) | refine qv ?_ ?_)
    all_goals try (exfalso; simp_all; done)
    · have hrf : ¬ qt (fun a b => decide (a.number < b.number)) u.sess = true := fun h => by
        have := jW.1 h i hlt
        simp at this; omega
      apply qE
      rfl
      simp [yu, hhead, hnl, hz, hrf]
    · refine ⟨(u.sess.drop 1).length - (i + 1), _, by omega, qf (ts := [(1, .fp [u.row] 0 0), (6, .v (.int .i64 ((i + 1 + 1 : Nat) : Int)))]) ?_, i + 1, by omega, rfl, (fun k h hk => by
        by_cases e : k = i
        · subst e; simp; omega
        · exact hsofar k h (by omega)), rfl⟩; ((repeat (first | exact qd | refine qi ?_ | refine qL ?_ ?_)))
  have hrise : qt (fun a b => decide (a.number < b.number)) u.sess = true := jW.2 fun k h => hsofar k h (by simp at hi; omega)
  clear hsofar
  have hsz : ∀ s, s ∈ u.sess → 0 ≤ s.size ∧ s.size ≤ 300 := fun s hs => vk (jE.1 hz s hs)
  have hl : u.sess.length ≤ 1000 := by omega
  repeat' (first | refine qe ?_ | fail | ((first | refine qb ?_ ?_ | refine qc ?_ ?_ | refine xsC ?_ ?_); all_goals (intro hc; have hp := hc; try simp at hp; try (exfalso; omega))) | refine qv ?_ ?_)
  all_goals try (exfalso; omega)
  (refine Awp.red (qf (ts := [(1, .fp [u.row] 0 0), (67, .sl false (u.sess.map Sess.row)), (68, .v (.int .i64 u.sess.length)), (69, .v (.int .i64 ((0 : Nat) : Int)))]) ?_) ?_; ((repeat (first | exact qd | refine qi ?_ | refine qL ?_ ?_))))
  all_goals try (rw [List.length_map]; done)
  refine qr (fun n σ => ∃ i : Nat, i ≤ u.sess.length ∧ n = u.sess.length - i ∧ (∀ s, s ∈ u.sess.take i → jX u.sess s.who ≤ u.room) ∧ σ = ⟨[(1, .fp [u.row] 0 0), (67, .sl false (u.sess.map Sess.row)), (68, .v (.int .i64 u.sess.length)), (69, .v (.int .i64 (i : Int)))], [], C.nh⟩) u.sess.length ⟨0, Nat.zero_le _, rfl, (by simp), rfl⟩ ?_
  rintro n σ ⟨i, hi, rfl, hsofar, rfl⟩
  by_cases hlt : i < u.sess.length
  · have hr := qx (f := Sess.row) hlt
    repeat' (first | refine qe ?_ | (first | refine xsF Tryz.func70 (qeQ _ _ hsz hl ..) ?_) | ((first | refine qb ?_ ?_ | refine qc ?_ ?_ | refine xsC ?_ ?_); all_goals (intro hc; have hp := hc; try simp at hp; try (exfalso; omega))) | refine qv ?_ ?_)
    all_goals try (exfalso; omega)
    · have hrf : ¬ Vv u = true := fun h => by
        have := List.all_eq_true.1 h _ (List.getElem_mem hlt)
        simp at this; omega
      apply qE
      rfl
      simp [yu, hhead, hnl, hz, hrise, hrf]
    · refine ⟨u.sess.length - (i + 1), _, by omega, qf (ts := [(1, .fp [u.row] 0 0), (67, .sl false (u.sess.map Sess.row)), (68, .v (.int .i64 u.sess.length)), (69, .v (.int .i64 ((i + 1 : Nat) : Int)))]) ?_, i + 1, by omega, rfl, qK hlt hsofar (by omega), rfl⟩; ((repeat (first | exact qd | refine qi ?_ | refine qL ?_ ?_)))
  obtain rfl : i = u.sess.length := by omega
  have hroomy : Vv u = true := List.all_eq_true.2 fun s hs => by
    have := hsofar s (by rw [List.take_length]; exact hs)
    simpa using this
  clear hsofar
  repeat' (first | refine qe ?_ | fail | ((first | refine qb ?_ ?_ | refine qc ?_ ?_ | refine xsC ?_ ?_); all_goals (intro hc; have hp := hc; try simp at hp; try (exfalso; omega))) | refine qv ?_ ?_)
  all_goals try (exfalso; omega)
  apply qE
  rfl
  simp [yu, hhead, hnl, hz, hrise, hroomy]
end Go.Proofs.YtiljlcgmcmjcoaaGreatDoor
set_option maxHeartbeats 1000000
namespace Go.Proofs.YtiljlcgmcmjcoaaGreatDoor
open Go.Ab Go.RowKit
set_option maxRecDepth 10000
attribute [local irreducible] Awp jZ jg qJ Red qz Go.Ab.Fin qm Rz y0 qB qG ResOk jG q9 jK qV
theorem qap {u : Upl} (hhead : vT u = true) (hnl : ¬ 20 < u.sess.length) {k : Nat} (hk : k < u.sess.length) (hs : ∀ s, s ∈ u.sess.take k → j9 u.next s = 0) {e : Int} (he : j9 u.next u.sess[k] = e) (h0 : e ≠ 0) : e = yu u := by
  have h1 := zv hk hs (by rw [he]; exact h0)
  have hz : ¬ jI (j9 u.next) u.sess = 0 := by rw [h1, he]; exact h0
  simp only [yu, hhead, hnl, hz, if_true, if_false]
  rw [h1, he]
theorem qfm (u : Upl) (hu : UBig u) : jT C.P 13 [vm u] (.v (.int .i64 (yu u))) := by
  refine qa Tryz.func13 rfl _ Tryz.ntmps13 (Nat.le_of_ble_eq_true rfl) _ Tryz.results13 0 rfl rfl ?_
  have hlen := hu.len
  repeat' (first | refine qe ?_ | (first | (refine v6 Tryz.func32 (Z9 ..) ?_)) | ((first | refine qb ?_ ?_ | refine qc ?_ ?_ | refine xsC ?_ ?_); all_goals (intro hc; have hp := hc; try simp at hp; try (exfalso; omega))) | refine qv ?_ ?_)
  all_goals first | (apply qE; rfl; simp_all [yu, vT]; done) | (apply qE; rfl; have h20 : 20 < u.sess.length := (by omega); simp_all [yu, vT]; done) | skip
  have hw : ∀ s, s ∈ u.sess → s.who.length ≤ 9223372036854775807 := hu.who
  have hn : 1 ≤ u.next ∧ u.next ≤ 1099511627776 := by simp_all [qA]
  have hnl : ¬ 20 < u.sess.length := by omega
  have hhead : vT u = true := by simp_all [vT]
  refine zD 1 0 ?_
  (refine Awp.red (qf (ts := [(1, .fp [u.row] 0 0), (3, .clo (.func 32) [] []), (4, .v (.int .i64 ((0 : Nat) : Int)))]) ?_) ?_; ((repeat (first | exact qd | refine qi ?_ | refine qL ?_ ?_))))
  refine qr (fun n σ => ∃ i : Nat, i ≤ u.sess.length ∧ n = u.sess.length - i ∧ (∀ s, s ∈ u.sess.take i → j9 u.next s = 0) ∧ σ = ⟨[(1, .fp [u.row] 0 0), (3, .clo (.func 32) [] []), (4, .v (.int .i64 (i : Int)))], [], C.nh⟩) u.sess.length ⟨0, Nat.zero_le _, rfl, (by simp), rfl⟩ ?_
  rintro n σ ⟨i, hi, rfl, hsofar, rfl⟩
  by_cases hlt : i < u.sess.length
  · have hr := qx (f := Sess.row) hlt
    have hwi := hw u.sess[i] (List.getElem_mem _)
    repeat' (first | refine qe ?_ | (first | (refine v6 Tryz.func32 (Z9 ..) ?_) | refine xsF Tryz.func25 (Z5 _ hwi ..) ?_) | ((first | refine qb ?_ ?_ | refine qc ?_ ?_ | refine xsC ?_ ?_); all_goals (intro hc; have hp := hc; try simp at hp; try (exfalso; omega))) | refine qv ?_ ?_)
    all_goals try (exfalso; omega)
    all_goals first
      | (apply qE; rfl; exact qap hhead hnl hlt hsofar (by simp_all [j9]) (by omega))
      | (have he : j9 u.next u.sess[i] = 0 := (by simp_all [j9]; try omega)
         refine ⟨u.sess.length - (i + 1), _, by omega, qf (ts := [(1, .fp [u.row] 0 0), (3, .clo (.func 32) [] []), (4, .v (.int .i64 ((i + 1 : Nat) : Int)))]) ?_, i + 1, by omega, rfl, qK hlt hsofar he, rfl⟩; ((repeat (first | exact qd | refine qi ?_ | refine qL ?_ ?_))))
  obtain rfl : i = u.sess.length := by omega
  have hz : jI (j9 u.next) u.sess = 0 := jE.2 (fun s hs => hsofar s (by rw [List.take_length]; exact hs))
  clear hsofar
  repeat' (first | refine qe ?_ | fail | ((first | refine qb ?_ ?_ | refine qc ?_ ?_ | refine xsC ?_ ?_); all_goals (intro hc; have hp := hc; try simp at hp; try (exfalso; omega))) | refine qv ?_ ?_)
  all_goals try (exfalso; omega)
  (refine Awp.red (qf (ts := [(1, .fp [u.row] 0 0), (6, .v (.int .i64 ((0 + 1 : Nat) : Int)))]) ?_) ?_; ((repeat (first | exact qd | refine qi ?_ | refine qL ?_ ?_))))
  refine qr (fun n σ => ∃ i : Nat, i ≤ (u.sess.drop 1).length ∧ n = (u.sess.drop 1).length - i ∧ (∀ (k : Nat) (h : k + 1 < u.sess.length), k < i → decide ((u.sess[k]'(by omega)).number < u.sess[k + 1].number) = true) ∧ σ = ⟨[(1, .fp [u.row] 0 0), (6, .v (.int .i64 ((i + 1 : Nat) : Int)))], [], C.nh⟩) (u.sess.drop 1).length ⟨0, Nat.zero_le _, rfl, (fun k h hk => absurd hk (Nat.not_lt_zero _)), rfl⟩ ?_
  have hdl : (u.sess.drop 1).length = u.sess.length - 1 := by simp
  rintro n σ ⟨i, hi, rfl, hsofar, rfl⟩
  by_cases hlt : i + 1 < u.sess.length
  · have hr := qx (f := Sess.row) hlt
    have hr' := qx (f := Sess.row) (l := u.sess) (i := i) (by omega)
    repeat' (first | refine qe ?_ | fail | ((first | refine qb ?_ ?_ | refine qc ?_ ?_ | refine xsC ?_ ?_); all_goals (intro hc; have hp := hc; try simp at hp; try (exfalso; omega))) | refine qv ?_ ?_)
    all_goals try (exfalso; simp_all; done)
    · have hrf : ¬ qt (fun a b => decide (a.number < b.number)) u.sess = true := fun h => by
        have := jW.1 h i hlt
        simp at this; omega
      apply qE
      rfl
      simp [yu, hhead, hnl, hz, hrf]
    · refine ⟨(u.sess.drop 1).length - (i + 1), _, by omega, qf (ts := [(1, .fp [u.row] 0 0), (6, .v (.int .i64 ((i + 1 + 1 : Nat) : Int)))]) ?_, i + 1, by omega, rfl, (fun k h hk => by
        by_cases e : k = i
        · subst e; simp; omega
        · exact hsofar k h (by omega)), rfl⟩; ((repeat (first | exact qd | refine qi ?_ | refine qL ?_ ?_)))
  have hrise : qt (fun a b => decide (a.number < b.number)) u.sess = true := jW.2 fun k h => hsofar k h (by simp at hi; omega)
  clear hsofar
  have hsz : ∀ s, s ∈ u.sess → 0 ≤ s.size ∧ s.size ≤ 300 := fun s hs => vk (jE.1 hz s hs)
  have hl : u.sess.length ≤ 1000 := by omega
  repeat' (first | refine qe ?_ | fail | ((first | refine qb ?_ ?_ | refine qc ?_ ?_ | refine xsC ?_ ?_); all_goals (intro hc; have hp := hc; try simp at hp; try (exfalso; omega))) | refine qv ?_ ?_)
  all_goals try (exfalso; omega)
  (refine Awp.red (qf (ts := [(1, .fp [u.row] 0 0), (7, .v (.int .i64 ((0 : Nat) : Int)))]) ?_) ?_; ((repeat (first | exact qd | refine qi ?_ | refine qL ?_ ?_))))
  refine qr (fun n σ => ∃ i : Nat, i ≤ u.sess.length ∧ n = u.sess.length - i ∧ (∀ s, s ∈ u.sess.take i → jX u.sess s.who ≤ u.room) ∧ σ = ⟨[(1, .fp [u.row] 0 0), (7, .v (.int .i64 (i : Int)))], [], C.nh⟩) u.sess.length ⟨0, Nat.zero_le _, rfl, (by simp), rfl⟩ ?_
  rintro n σ ⟨i, hi, rfl, hsofar, rfl⟩
  by_cases hlt : i < u.sess.length
  · have hr := qx (f := Sess.row) hlt
    repeat' (first | refine qe ?_ | (first | refine xsF Tryz.func33 (qgc _ _ hsz hl ..) ?_) | ((first | refine qb ?_ ?_ | refine qc ?_ ?_ | refine xsC ?_ ?_); all_goals (intro hc; have hp := hc; try simp at hp; try (exfalso; omega))) | refine qv ?_ ?_)
    all_goals try (exfalso; omega)
    · have hrf : ¬ Vv u = true := fun h => by
        have := List.all_eq_true.1 h _ (List.getElem_mem hlt)
        simp at this; omega
      apply qE
      rfl
      simp [yu, hhead, hnl, hz, hrise, hrf]
    · refine ⟨u.sess.length - (i + 1), _, by omega, qf (ts := [(1, .fp [u.row] 0 0), (7, .v (.int .i64 ((i + 1 : Nat) : Int)))]) ?_, i + 1, by omega, rfl, qK hlt hsofar (by omega), rfl⟩; ((repeat (first | exact qd | refine qi ?_ | refine qL ?_ ?_)))
  obtain rfl : i = u.sess.length := by omega
  have hroomy : Vv u = true := List.all_eq_true.2 fun s hs => by
    have := hsofar s (by rw [List.take_length]; exact hs)
    simpa using this
  clear hsofar
  repeat' (first | refine qe ?_ | fail | ((first | refine qb ?_ ?_ | refine qc ?_ ?_ | refine xsC ?_ ?_); all_goals (intro hc; have hp := hc; try simp at hp; try (exfalso; omega))) | refine qv ?_ ?_)
  all_goals try (exfalso; omega)
  apply qE
  rfl
  simp [yu, hhead, hnl, hz, hrise, hroomy]
def jD (u : Upl) (now : Int) : Int := if yu u = 0 then (if qA now 0 1099511627776 then 0 else 3) else yu u
def zd (who : qC) (number : Int) (s : Sess) : Bool := decide (s.who = who) && decide (s.number = number)
end Go.Proofs.YtiljlcgmcmjcoaaGreatDoor
set_option linter.unusedSimpArgs false
set_option maxHeartbeats 1000000
namespace Go.Proofs.YtiljlcgmcmjcoaaGreatDoor
open Go.Ab Go.RowKit
set_option maxRecDepth 10000
attribute [local irreducible] Awp jZ jg qJ Red qz Go.Ab.Fin qm Rz y0 qB qG ResOk jG q9 jK qV
def YF (now : Int) (s : Sess) : Bool := decide (now ≤ s.till)
def qP (l : List Sess) (now : Int) : List Sess := l.filter (YF now)
def JT (u : Upl) (now : Int) : Upl := { u with sess := qP u.sess now }
end Go.Proofs.YtiljlcgmcmjcoaaGreatDoor
set_option linter.unusedSimpArgs false
set_option maxHeartbeats 1000000
namespace Go.Proofs.YtiljlcgmcmjcoaaGreatDoor
open Go.Ab Go.RowKit
set_option maxRecDepth 10000
attribute [local irreducible] Awp jZ jg qJ Red qz Go.Ab.Fin qm Rz y0 qB qG ResOk jG q9 jK qV
def JH : Upl := ⟨[], 0, 0, 0⟩
def yQ (u : Upl) (who : qC) (size now : Int) : Int :=
  if jD u now = 0 then
    if qo who then
      if size < 0 ∨ 300 < size ∨ u.next = 1099511627776 then 3
      else if (qP u.sess now).length = 20 then 2
      else if u.room < jX (qP u.sess now) who + size then 10 else 0
    else 1
  else jD u now
def Ym (u : Upl) (who : qC) (size now : Int) : Upl := { u with sess := qP u.sess now ++ [⟨u.next, who, [], size, now + u.lasts⟩], next := u.next + 1 }
def Qb (u : Upl) (n e : Int) : AV := .tup [vm u, .v (.int .i64 n), .v (.int .i64 e)]
def Xr (u : Upl) (who : qC) (size now : Int) : AV := if yQ u who size now = 0 then Qb (Ym u who size now) u.next 0 else Qb JH 0 (yQ u who size now)
theorem zW {u : Upl} {who : qC} {size now e : Int} (h : yQ u who size now = e) (h0 : e ≠ 0) : Xr u who size now = Qb JH 0 e := by unfold Xr; rw [h, if_neg h0]
theorem qdS {u : Upl} {who : qC} {size now : Int} (h : yQ u who size now = 0) : Xr u who size now = Qb (Ym u who size now) u.next 0 := by unfold Xr; rw [if_pos h]
theorem VS {u : Upl} (h : yu u = 0) : vT u = true ∧ u.sess.length ≤ 20 ∧ (∀ s, s ∈ u.sess → j9 u.next s = 0) ∧ qt (fun a b => decide (a.number < b.number)) u.sess = true ∧ Vv u = true := by
  unfold yu at h
  split at h
  · rename_i h1
    split at h
    · cases h
    · rename_i h2
      split at h
      · rename_i h3
        split at h
        · rename_i h4
          split at h
          · rename_i h5
            exact ⟨h1, by omega, jE.1 h3, h4, h5⟩
          · cases h
        · cases h
      · rename_i h3; exact absurd h h3
  · cases h
theorem J0 {u : Upl} {now : Int} (h : jD u now = 0) : yu u = 0 ∧ 0 ≤ now ∧ now ≤ 1099511627776 := by
  unfold jD at h
  split at h
  · rename_i h1
    split at h
    · rename_i h2; simp [qA] at h2; exact ⟨h1, h2⟩
    · cases h
  · rename_i h1; exact absurd h h1
theorem Qt {l : List Sess} {now : Int} {s : Sess} (h : s ∈ qP l now) : s ∈ l := (List.mem_filter.1 h).1
theorem ws (l : List Sess) (now : Int) : (qP l now).length ≤ l.length := List.length_filter_le _ _
structure UOk (u : Upl) (now : Int) : Prop where
  now0 : 0 ≤ now
  now1 : now ≤ 1099511627776
  l0 : 1 ≤ u.lasts
  l1 : u.lasts ≤ 1000000
  r0 : 0 ≤ u.room
  r1 : u.room ≤ 100000
  n0 : 1 ≤ u.next
  n1 : u.next ≤ 1099511627776
  len : u.sess.length ≤ 20
  sz : ∀ s, s ∈ u.sess → 0 ≤ s.size ∧ s.size ≤ 300
theorem uok {u : Upl} {now : Int} (h : jD u now = 0) : UOk u now := by
  obtain ⟨h1, h2, h3⟩ := J0 h
  obtain ⟨h4, h5, h6, _, _⟩ := VS h1
  simp [vT, qA] at h4
  exact ⟨h2, h3, h4.1.1.1, h4.1.1.2, h4.1.2.1, h4.1.2.2, h4.2.1, h4.2.2, h5, fun s hs => vk (h6 s hs)⟩
end Go.Proofs.YtiljlcgmcmjcoaaGreatDoor
set_option linter.unusedSimpArgs false
set_option maxHeartbeats 1000000
namespace Go.Proofs.YtiljlcgmcmjcoaaGreatDoor
open Go.Ab Go.RowKit
set_option maxRecDepth 10000
attribute [local irreducible] Awp jZ jg qJ Red qz Go.Ab.Fin qm Rz y0 qB qG ResOk jG q9 jK qV
theorem qe2 : qdw C.P 78 = some [0, 1, 1, 0, 0] := by kernel_rfl
theorem qbr (a b : Sess) : w7 [0, 1, 1, 0, 0] a.row b.row = some (decide (a = b)) := by
  obtain ⟨a1, a2, a3, a4, a5⟩ := a
  obtain ⟨b1, b2, b3, b4, b5⟩ := b
  simp only [Sess.row, w7, Qh, str, Sess.mk.injEq, if_true, Option.some.injEq]
  by_cases h1 : a1 = b1 <;> by_cases h2 : a2 = b2 <;> by_cases h3 : a3 = b3 <;> by_cases h4 : a4 = b4 <;> by_cases h5 : a5 = b5 <;> simp [h1, h2, h3, h4, h5]
theorem KA {α : Type} {l l' : List α} {i : Nat} (h : i < l.length) (h' : i < l'.length) (he : l.take i = l'.take i) (hi : l[i] = l'[i]) : l.take (i + 1) = l'.take (i + 1) := by
  rw [List.take_succ_eq_append_getElem h, List.take_succ_eq_append_getElem h', he, hi]
theorem qhc (a b : Upl) (ha : a.sess.length ≤ 9223372036854775807) (hb : b.sess.length ≤ 9223372036854775807) : jT C.P 35 [vm a, vm b] (.v (.bool (decide (a = b)))) := by
  refine qa Tryz.func35 rfl _ Tryz.ntmps35 (Nat.le_of_ble_eq_true rfl) _ Tryz.results35 0 rfl rfl ?_
  repeat' (first | refine qe ?_ | fail | ((first | refine qb ?_ ?_ | refine qc ?_ ?_ | refine xsC ?_ ?_); all_goals (intro hc; have hp := hc; try simp at hp; try (exfalso; omega))) | refine qv ?_ ?_)
  all_goals first
    | (have hne : a ≠ b := (fun h => by subst h; simp_all)
       apply qU; rfl; simp [hne]; done)
    | skip
  refine zD 2 0 ?_
  refine zD 3 1 ?_
  have hl : a.sess.length = b.sess.length := by simp_all; omega
  (refine Awp.red (qf (ts := [(2, .fp [a.row] 0 0), (3, .fp [b.row] 0 0), (5, .v (.int .i64 ((0 : Nat) : Int)))]) ?_) ?_; ((repeat (first | exact qd | refine qi ?_ | refine qL ?_ ?_))))
  refine qr (fun n σ => ∃ i : Nat, i ≤ a.sess.length ∧ n = a.sess.length - i ∧ (a.sess.take i = b.sess.take i) ∧ σ = ⟨[(2, .fp [a.row] 0 0), (3, .fp [b.row] 0 0), (5, .v (.int .i64 (i : Int)))], [], C.nh⟩) a.sess.length ⟨0, Nat.zero_le _, rfl, rfl, rfl⟩ ?_
  rintro n σ ⟨i, hi, rfl, hsofar, rfl⟩
  by_cases hlt : i < a.sess.length
  · have hr := qx (f := Sess.row) hlt
    have hr' := qx (f := Sess.row) (l := b.sess) (i := i) (by omega)
    repeat' (first | refine qe ?_ | (first | (apply qj; apply Yx; rfl; rfl; exact qe2; exact qbr _ _; (first | exact .inl ⟨rfl, rfl⟩ | exact .inr ⟨rfl, rfl⟩); exact nle rfl)) | ((first | refine qb ?_ ?_ | refine qc ?_ ?_ | refine xsC ?_ ?_); all_goals (intro hc; have hp := hc; try simp at hp; try (exfalso; omega))) | refine qv ?_ ?_)
    all_goals try (exfalso; omega)
    · have hne : a ≠ b := fun h => by subst h; simp at hp
      apply qU
      rfl
      simp [hne]
    · refine ⟨a.sess.length - (i + 1), _, by omega, qf (ts := [(2, .fp [a.row] 0 0), (3, .fp [b.row] 0 0), (5, .v (.int .i64 ((i + 1 : Nat) : Int)))]) ?_, i + 1, by omega, rfl, (KA hlt (by omega) hsofar (by simpa using hp)), rfl⟩; ((repeat (first | exact qd | refine qi ?_ | refine qL ?_ ?_)))
  obtain rfl : i = a.sess.length := by omega
  repeat' (first | refine qe ?_ | fail | ((first | refine qb ?_ ?_ | refine qc ?_ ?_ | refine xsC ?_ ?_); all_goals (intro hc; have hp := hc; try simp at hp; try (exfalso; omega))) | refine qv ?_ ?_)
  all_goals try (exfalso; omega)
  have he : a = b := by
    rw [List.take_length, hl, List.take_length] at hsofar
    obtain ⟨a1, a2, a3, a4⟩ := a
    obtain ⟨b1, b2, b3, b4⟩ := b
    simp_all
  apply qU
  rfl
  simp [he]
end Go.Proofs.YtiljlcgmcmjcoaaGreatDoor
set_option linter.unusedSimpArgs false
set_option maxHeartbeats 1000000
namespace Go.Proofs.YtiljlcgmcmjcoaaGreatDoor
open Go.Ab Go.RowKit
set_option maxRecDepth 10000
attribute [local irreducible] Awp jZ jg qJ Red qz Go.Ab.Fin qm Rz y0 qB qG ResOk jG q9 jK qV
theorem qba (l : List Sess) (hl : l.length ≤ 1000000) :
    qm C.P 80 [.sl false (l.map Sess.row)] [] (.os 0 0 l.length) [.own false 5 (l.map Sess.row)] := by
  by_cases h0 : l = []
  · subst h0
    refine qa Tryz.func80 rfl _ Tryz.ntmps80 (Nat.le_of_ble_eq_true rfl) _ Tryz.results80 0 rfl rfl ?_
    repeat' (first | refine qe ?_ | (first | (refine j4 ?_) | (refine zc ?_) | (refine Ju ?_)) | ((first | refine xsC ?_ ?_); all_goals (intro hc; have hp := hc; try simp at hp; try (exfalso; omega))) | refine qv ?_ ?_)
    · (refine wM (C := C) (vN (C := C) 2 5 rfl (Nat.zero_le _)) ?_)
      (refine QB (rs := [.tmp 2]) [(0, 0)] 1 ?_; (repeat (first | exact qh | refine jU ?_ | refine qO ?_ ?_)); all_goals skip)
    · (refine QB (rs := [.tmp 2]) [(0, 0)] 1 ?_; (repeat (first | exact qh | refine jU ?_ | refine qO ?_ ?_)); all_goals skip)
  · refine qa Tryz.func80 rfl _ Tryz.ntmps80 (Nat.le_of_ble_eq_true rfl) _ Tryz.results80 0 rfl rfl ?_
    repeat' (first | refine qe ?_ | (first | (refine j4 ?_) | (refine zc ?_) | (apply qj; apply kV; rfl; exact (fun h => h0 (List.map_eq_nil_iff.1 h)); rfl; rfl; (first | exact .inl rfl | exact .inr rfl); exact nle rfl)) | ((first | refine xsC ?_ ?_); all_goals (intro hc; have hp := hc; try simp at hp; try (exfalso; omega))) | refine qv ?_ ?_)
    (refine QB (rs := [.tmp 2]) [(0, 0)] 1 ?_; (repeat (first | exact qh | refine jU ?_ | refine qO ?_ ?_)); all_goals skip)
theorem Xa (p : Sess → Bool) (g : FuncId) (hg : IsFn C.P g) (cap : List AV) (hcap : AV.pure.pureL cap = true) (l : List Sess) (hl : l.length ≤ 1000000) (hc : ∀ s, s ∈ l → jT C.P g (.agg s.row :: cap) (.v (.bool (p s)))) :
    jT C.P 155 [.sl false (l.map Sess.row), .clo (.func g) [] cap] (.v (.int .i64 (yg p l))) := by
  refine qa Tryz.func155 rfl _ Tryz.ntmps155 (Nat.le_of_ble_eq_true rfl) _ Tryz.results155 0 rfl rfl ?_
  repeat' (first | refine qe ?_ | fail | ((first | refine xsC ?_ ?_); all_goals (intro hc; have hp := hc; try simp at hp; try (exfalso; omega))) | refine qv ?_ ?_)
  (refine Awp.red (qf (ts := [(0, .sl false (l.map Sess.row)), (1, .clo (.func g) [] cap), (7, .v (.int .i64 l.length)), (8, .v (.int .i64 ((0 : Nat) : Int)))]) ?_) ?_; ((repeat (first | exact qd | refine qi ?_ | refine qL ?_ ?_))))
  all_goals try (rw [List.length_map]; done)
  refine qr (fun n σ => ∃ i : Nat, i ≤ l.length ∧ n = l.length - i ∧ (∀ s, s ∈ l.take i → p s = false) ∧ σ = ⟨[(0, .sl false (l.map Sess.row)), (1, .clo (.func g) [] cap), (7, .v (.int .i64 l.length)), (8, .v (.int .i64 (i : Int)))], [], C.nh⟩) l.length ⟨0, Nat.zero_le _, rfl, (by simp), rfl⟩ ?_
  rintro n σ ⟨i, hi, rfl, hsofar, rfl⟩
  by_cases hlt : i < l.length
  · have hr := qx (f := Sess.row) hlt
    have hci := hc l[i] (List.getElem_mem _)
    repeat' (first | refine qe ?_ | (first | (apply qj; apply zK []; rfl; exact hg; exact hci; (case hz => exact ql (qM rfl) (kj hcap)); (case hfl => rfl); (case hN => exact nle rfl))) | ((first | refine xsC ?_ ?_); all_goals (intro hc; have hp := hc; try simp at hp; try (exfalso; omega))) | refine qv ?_ ?_)
    all_goals try (exfalso; omega)
    · apply qE
      rfl
      exact (vV hlt hsofar hp).symm
    · refine ⟨l.length - (i + 1), _, by omega, qf (ts := [(0, .sl false (l.map Sess.row)), (1, .clo (.func g) [] cap), (7, .v (.int .i64 l.length)), (8, .v (.int .i64 ((i + 1 : Nat) : Int)))]) ?_, i + 1, by omega, rfl, qK hlt hsofar hp, rfl⟩; ((repeat (first | exact qd | refine qi ?_ | refine qL ?_ ?_)))
  obtain rfl : i = l.length := by omega
  repeat' (first | refine qe ?_ | fail | ((first | refine xsC ?_ ?_); all_goals (intro hc; have hp := hc; try simp at hp; try (exfalso; omega))) | refine qv ?_ ?_)
  all_goals try (exfalso; omega)
  apply qE
  rfl
  exact (xU fun s hs => hsofar s (by rw [List.take_length]; exact hs)).symm
end Go.Proofs.YtiljlcgmcmjcoaaGreatDoor
