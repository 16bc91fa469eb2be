import Derived.Test.YtiljlcgmcmjcoaaGreatDoorTy
import Derived.Test.YtiljlcgmcmjcoaaGreatDoorMz0
import Derived.Test.YtiljlcgmcmjcoaaGreatDoorMz4
import Derived.Test.YtiljlcgmcmjcoaaGreatDoorMz6
import Derived.Test.YtiljlcgmcmjcoaaGreatDoorMz1
set_option linter.unusedSimpArgs false
set_option linter.unnecessarySimpa false
namespace Go.Proofs.YtiljlcgmcmjcoaaGreatDoor
open Go.Ab Go.RowKit
noncomputable def C1 : Cx := { C with nh := 1 }
theorem kO {α : Type} {f : α → List AV} {ok : α → Prop} : ∀ {rows : List (List AV)}, (∀ row, row ∈ rows → ∃ a, row = f a ∧ ok a) → ∃ l : List α, rows = l.map f ∧ ∀ a, a ∈ l → ok a
  | [], _ => ⟨[], rfl, fun a h => by cases h⟩
  | row :: rows, h => by
    obtain ⟨a, rfl, ha⟩ := h row (List.mem_cons_self ..)
    obtain ⟨l, rfl, hl⟩ := kO fun r hr => h r (List.mem_cons_of_mem _ hr)
    exact ⟨a :: l, rfl, fun b hb => by rcases List.mem_cons.1 hb with rfl | hb; exact ha; exact hl b hb⟩
theorem xA (s : qB) (hs : s.length ≤ 140737488355328) : jY C.P 37 [.v (str s)] (.v (.bool (qo s))) := ky rfl fun w => Qn s w (by omega)
theorem Xo (s : qB) (hs : s.length ≤ 140737488355328) : jY C.P 25 [.v (str s)] (.v (.bool (qo s))) := ky rfl fun w => Xz s w (by omega)
end Go.Proofs.YtiljlcgmcmjcoaaGreatDoor
set_option linter.unusedSimpArgs false
set_option linter.unnecessarySimpa false
namespace Go.Proofs.YtiljlcgmcmjcoaaGreatDoor
open Go.Ab Go.RowKit
theorem vv {n : Nat} {xs : List AV} (h : zx C.tab 1000000000 n 3 xs) : ∃ a, xs = [.v (.int .i64 a)] ∧ (Lit.int .i64 a).wf = true := by
  cases n with
  | zero => exact h.elim
  | succ n => exact h
theorem zu {n : Nat} {xs : List AV} (h : zx C.tab 1000000000 n 9 xs) : ∃ s : qB, xs = [.v (str s)] ∧ s.length ≤ 1000000000 := by
  cases n with
  | zero => exact h.elim
  | succ n => exact h
theorem qe6 {n : Nat} {xs : List AV} (h : zx C.tab 1000000000 n 4 xs) : ∃ b, xs = [.v (.bool b)] := by
  cases n with
  | zero => exact h.elim
  | succ n => exact h
def Ent.row (e : Ent) : List AV := [.v (str e.path), .v (.bool e.fold), .v (str e.text), .v (.int .i64 e.ver)]
def Ent.small (e : Ent) : Prop := e.path.length ≤ 1000000000 ∧ e.text.length ≤ 1000000000
def qq (t : List Ent) : AV := .sl false (t.map Ent.row)
structure EBig (t : List Ent) : Prop where
  each : ∀ e, e ∈ t → e.small
  len : t.length ≤ 1000000000
def Chg.row (c : Chg) : List AV := [.v (.int .i64 c.kind), .v (str c.path), .v (str c.to), .v (str c.text), .v (.int .i64 c.base)]
def Chg.small (c : Chg) : Prop := c.path.length ≤ 1000000000 ∧ c.to.length ≤ 1000000000 ∧ c.text.length ≤ 1000000000
def vh (t : List Chg) : AV := .sl false (t.map Chg.row)
structure CBig (t : List Chg) : Prop where
  each : ∀ e, e ∈ t → e.small
  len : t.length ≤ 1000000000
theorem qfD {n : Nat} {xs : List AV} (h : zx C.tab 1000000000 n 72 xs) : ∃ s : Ent, xs = s.row ∧ s.small := by
  cases n with
  | zero => exact h.elim
  | succ n =>
    obtain ⟨_, _, rfl, h0, _, _, rfl, h1, _, _, rfl, h2, _, _, rfl, h3, rfl⟩ := (show k9 C.tab 0 _ = some _ → XV (zx C.tab 1000000000 n) [(0, 9), (1, 4), (2, 9), (3, 3)] xs from h) rfl
    obtain ⟨a0, rfl, l0⟩ := zu h0
    obtain ⟨a1, rfl⟩ := qe6 h1
    obtain ⟨a2, rfl, l2⟩ := zu h2
    obtain ⟨a3, rfl, _⟩ := vv h3
    exact ⟨⟨a0, a1, a2, a3⟩, rfl, l0, l2⟩
theorem qfZ {n : Nat} {xs : List AV} (h : zx C.tab 1000000000 n 81 xs) : ∃ s : Chg, xs = s.row ∧ s.small := by
  cases n with
  | zero => exact h.elim
  | succ n =>
    obtain ⟨_, _, rfl, h0, _, _, rfl, h1, _, _, rfl, h2, _, _, rfl, h3, _, _, rfl, h4, rfl⟩ := (show k9 C.tab 0 _ = some _ → XV (zx C.tab 1000000000 n) [(0, 3), (1, 9), (2, 9), (3, 9), (4, 3)] xs from h) rfl
    obtain ⟨a0, rfl, _⟩ := vv h0
    obtain ⟨a1, rfl, l1⟩ := zu h1
    obtain ⟨a2, rfl, l2⟩ := zu h2
    obtain ⟨a3, rfl, l3⟩ := zu h3
    obtain ⟨a4, rfl, _⟩ := vv h4
    exact ⟨⟨a0, a1, a2, a3, a4⟩, rfl, l1, l2, l3⟩
end Go.Proofs.YtiljlcgmcmjcoaaGreatDoor
set_option linter.unusedSimpArgs false
set_option linter.unusedVariables false
namespace Go.Proofs.YtiljlcgmcmjcoaaGreatDoor
open Go.Ab Go.RowKit
theorem qeX {n : Nat} {xs : List AV} (h : zx C.tab 1000000000 n 41 xs) : ∃ t : List Ent, xs = [qq t] ∧ EBig t := by
  cases n with
  | zero => exact h.elim
  | succ n =>
    obtain ⟨rows, he, hb, hr⟩ := (show (4 : Nat) ≠ 0 → ∃ rows, xs = [AV.sl false rows] ∧ rows.length * 48 ≤ 1000000000 ∧ ∀ row, row ∈ rows → zx C.tab 1000000000 n 72 row from h) (by decide)
    obtain ⟨l, rfl, hl⟩ := kO (f := Ent.row) (ok := Ent.small) (fun row hrow => qfD (hr row hrow))
    refine ⟨l, he, hl, ?_⟩
    simp at hb; omega
theorem qeP {n : Nat} {xs : List AV} (h : zx C.tab 1000000000 n 38 xs) : ∃ t : List Chg, xs = [vh t] ∧ CBig t := by
  cases n with
  | zero => exact h.elim
  | succ n =>
    obtain ⟨rows, he, hb, hr⟩ := (show (5 : Nat) ≠ 0 → ∃ rows, xs = [AV.sl false rows] ∧ rows.length * 64 ≤ 1000000000 ∧ ∀ row, row ∈ rows → zx C.tab 1000000000 n 81 row from h) (by decide)
    obtain ⟨l, rfl, hl⟩ := kO (f := Chg.row) (ok := Chg.small) (fun row hrow => qfZ (hr row hrow))
    refine ⟨l, he, hl, ?_⟩
    simp at hb; omega
end Go.Proofs.YtiljlcgmcmjcoaaGreatDoor
set_option linter.unusedSimpArgs false
set_option linter.unnecessarySimpa false
set_option maxHeartbeats 1000000
namespace Go.Proofs.YtiljlcgmcmjcoaaGreatDoor
open Go.Ab Go.RowKit
set_option maxRecDepth 10000
attribute [local irreducible] Awp jV q9 qJ Red qy Go.Ab.Fin ql Rz yQ qA qG ResOk jC q6 jH qT
def kj : qB := [47]
theorem qfy (s : qB) : jY C.P 171 [.v (str s), .v (str kj)] (.v (.int .i64 (s.count 47 : Nat))) := by
  refine qa Tryz.func171 rfl _ Tryz.ntmps171 (Nat.le_of_ble_eq_true rfl) _ Tryz.results171 0 rfl rfl ?_
  repeat' (first | refine qe ?_ | (first | (apply qj; apply qfW; exact Tryz.func185; (case hname => rfl); (case hb => rfl); (case hnx => rfl); (case hex => rfl); (case hx => rfl); (case hy => rfl); (case hrun => exact fun w => Lib.run_countString _ _ w); (case hr => rfl); (case hN => exact nle rfl))) | ((first | refine xsC ?_ ?_); all_goals (intro hc; have hp := hc; try simp at hp; try (exfalso; omega))) | refine qw ?_ ?_)
  all_goals try (exfalso; simp_all [kj]; done)
  all_goals (apply qD; rfl; simp [Lib.countByte])
theorem qfO (s : qB) : jY C.P 143 [.v (str s)] (.v (.bool (yl s))) := by
  have htg := QO s
  refine qa Tryz.func143 rfl _ Tryz.ntmps143 (Nat.le_of_ble_eq_true rfl) _ Tryz.results143 0 rfl rfl ?_
  repeat' (first | refine qe ?_ | (first | refine xsF Tryz.func171 (qfy s ..) ?_) | ((first | refine qc ?_ ?_ | refine qb ?_ ?_ | refine xsC ?_ ?_); all_goals (intro hc; have hp := hc; try simp at hp; try (exfalso; omega))) | refine qw ?_ ?_)
  all_goals (apply jA; rfl; rw [htg])
  all_goals first
    | (have h6 : ¬ 6 ≤ s.count 47 := (by omega)
       simp [h6]; omega)
    | (have h6 : 6 ≤ s.count 47 := (by omega)
       simp [h6]; done)
end Go.Proofs.YtiljlcgmcmjcoaaGreatDoor
set_option linter.unusedSimpArgs false
namespace Go.Proofs.YtiljlcgmcmjcoaaGreatDoor
open Go.Ab Go.RowKit
def Sess.row (s : Sess) : List AV := [.v (.int .i64 s.number), .v (str s.who), .v (str s.text), .v (.int .i64 s.size), .v (.int .i64 s.till)]
def Upl.row (u : Upl) : List AV := [.sl false (u.sess.map Sess.row), .v (.int .i64 u.next), .v (.int .i64 u.lasts), .v (.int .i64 u.room)]
def vn (u : Upl) : AV := .agg u.row
def Sess.small (s : Sess) : Prop := s.who.length ≤ 140737488355328 ∧ s.text.length ≤ 140737488355328
structure UBig (u : Upl) : Prop where
  who : ∀ s, s ∈ u.sess → s.who.length ≤ 9223372036854775807
  text : ∀ s, s ∈ u.sess → s.text.length ≤ 140737488355328
  len : u.sess.length ≤ 9223372036854775807
end Go.Proofs.YtiljlcgmcmjcoaaGreatDoor
set_option linter.unusedSimpArgs false
namespace Go.Proofs.YtiljlcgmcmjcoaaGreatDoor
open Go.Ab Go.RowKit
def Gra.row (g : Gra) : List AV := [.v (str g.folder), .v (str g.who), .v (.int .i64 g.right)]
def Gra.small (g : Gra) : Prop := g.folder.length ≤ 140737488355328 ∧ g.who.length ≤ 140737488355328
def jD (l : List Gra) : AV := .sl false (l.map Gra.row)
structure GBig (l : List Gra) : Prop where
  each : ∀ g, g ∈ l → g.small
  len : l.length ≤ 140737488355328
def zF (a b : Gra) : Int := if vi a.folder b.folder = 0 then vi a.who b.who else vi a.folder b.folder
end Go.Proofs.YtiljlcgmcmjcoaaGreatDoor
set_option linter.unusedVariables false
namespace Go.Proofs.YtiljlcgmcmjcoaaGreatDoor
open Go.Ab Go.RowKit
structure Rqt where
  kind : Int
  who : qB
  folder : qB
  name : qB
  key : qB
  text : qB
  number : Int
  offset : Int
  base : Int
  chs : List Chg
  deriving DecidableEq
def Rqt.row (r : Rqt) : List AV := [.v (.int .i64 r.kind), .v (str r.who), .v (str r.folder), .v (str r.name), .v (str r.key), .v (str r.text), .v (.int .i64 r.number), .v (.int .i64 r.offset), .v (.int .i64 r.base), vh r.chs]
end Go.Proofs.YtiljlcgmcmjcoaaGreatDoor
set_option maxHeartbeats 1000000
namespace Go.Proofs.YtiljlcgmcmjcoaaGreatDoor
open Go.Ab Go.RowKit
set_option maxRecDepth 10000
attribute [local irreducible] Awp jV q9 qJ Red qy Go.Ab.Fin ql Rz yQ qA qG ResOk jC q6 jH qT
theorem Ys (s : qB) (hs : s.length ≤ 9223372036854775807) : jY C.P 37 [.v (str s)] (.v (.bool (qo s))) := ky rfl fun w => Qn s w hs
theorem ZW (s : qB) (hs : s.length ≤ 9223372036854775807) : jY C.P 25 [.v (str s)] (.v (.bool (qo s))) := ky rfl fun w => Xz s w hs
theorem we (a b c : Int) : jY C.P 68 [.v (.int .i64 a), .v (.int .i64 b), .v (.int .i64 c)] (.v (.bool (qz a b c))) := by
  refine qa Tryz.func68 rfl _ Tryz.ntmps68 (Nat.le_of_ble_eq_true rfl) _ Tryz.results68 0 rfl rfl ?_
  repeat' (first | refine qe ?_ | fail | ((first | refine qc ?_ ?_ | refine qb ?_ ?_ | refine xsC ?_ ?_); all_goals (intro hc; have hp := hc; try simp at hp; try (exfalso; omega))) | refine qw ?_ ?_)
  all_goals (apply jA; rfl; simp_all [qz]; try omega)
theorem qc3 (u : Upl) (s : Sess) (h1 : 1 ≤ u.next) (h2 : u.next ≤ 1099511627776) (hs : s.who.length ≤ 9223372036854775807) : jY C.P 69 [vn u, .agg s.row] (.v (.int .i64 (j7 u.next s))) := by
  refine qa Tryz.func69 rfl _ Tryz.ntmps69 (Nat.le_of_ble_eq_true rfl) _ Tryz.results69 0 rfl rfl ?_
  repeat' (first | refine qe ?_ | (first | refine xsF Tryz.func68 (we ..) ?_ | refine xsF Tryz.func37 (Ys _ hs ..) ?_) | ((first | refine qc ?_ ?_ | refine qb ?_ ?_ | refine xsC ?_ ?_); all_goals (intro hc; have hp := hc; try simp at hp; try (exfalso; omega))) | refine qw ?_ ?_)
  all_goals (apply qD; rfl; simp_all [j7])
end Go.Proofs.YtiljlcgmcmjcoaaGreatDoor
set_option maxHeartbeats 1000000
namespace Go.Proofs.YtiljlcgmcmjcoaaGreatDoor
open Go.Ab Go.RowKit
set_option maxRecDepth 10000
attribute [local irreducible] Awp jV q9 qJ Red qy Go.Ab.Fin ql Rz yQ qA qG ResOk jC q6 jH qT
theorem qfj (l : List Sess) (who : qB) (hs : ∀ s, s ∈ l → 0 ≤ s.size ∧ s.size ≤ 300) (hl : l.length ≤ 1000) :
    jY C.P 70 [.sl false (l.map Sess.row), .v (str who)] (.v (.int .i64 (jU l who))) := by
  refine qa Tryz.func70 rfl _ Tryz.ntmps70 (Nat.le_of_ble_eq_true rfl) _ Tryz.results70 0 rfl rfl ?_
  repeat' (first | refine qe ?_ | fail | ((first | refine xsC ?_ ?_); all_goals (intro hc; have hp := hc; try simp at hp; try (exfalso; omega))) | refine qw ?_ ?_)
  (refine Awp.red (qh (ts := [(1, .v (str who)), (5, .v (.int .i64 (jU (l.take 0) who))), (8, .sl false (l.map Sess.row)), (9, .v (.int .i64 l.length)), (10, .v (.int .i64 ((0 : Nat) : Int)))]) ?_) ?_; ((repeat (first | exact qd | refine qi ?_ | refine qR ?_ ?_))))
  all_goals try (rw [List.length_map]; done)
  refine qu (fun n σ => ∃ i : Nat, i ≤ l.length ∧ n = l.length - i ∧ (True) ∧ σ = ⟨[(1, .v (str who)), (5, .v (.int .i64 (jU (l.take i) who))), (8, .sl false (l.map Sess.row)), (9, .v (.int .i64 l.length)), (10, .v (.int .i64 (i : Int)))], [], C.nh⟩) l.length ⟨0, Nat.zero_le _, rfl, trivial, rfl⟩ ?_
  rintro n σ ⟨i, hi, rfl, -, rfl⟩
  by_cases hlt : i < l.length
  · have hr := qF (f := Sess.row) hlt
    have hb1 := XR who hs i
    have hb2 := hs l[i] (List.getElem_mem _)
    have hsucc := Xu hlt who
    repeat' (first | refine qe ?_ | fail | ((first | refine xsC ?_ ?_); all_goals (intro hc; have hp := hc; try simp at hp; try (exfalso; omega))) | refine qw ?_ ?_)
    all_goals try (exfalso; omega)
    all_goals (refine ⟨l.length - (i + 1), _, by omega, qh (ts := [(1, .v (str who)), (5, .v (.int .i64 (jU (l.take (i + 1)) who))), (8, .sl false (l.map Sess.row)), (9, .v (.int .i64 l.length)), (10, .v (.int .i64 ((i + 1 : Nat) : Int)))]) ?_, i + 1, by omega, rfl, trivial, rfl⟩; ((repeat (first | exact qd | refine qi ?_ | refine qR ?_ ?_))))
    all_goals simp_all
  · obtain rfl : i = l.length := by omega
    repeat' (first | refine qe ?_ | fail | ((first | refine xsC ?_ ?_); all_goals (intro hc; have hp := hc; try simp at hp; try (exfalso; omega))) | refine qw ?_ ?_)
    all_goals first | (exfalso; omega) | skip
    all_goals (apply qD; rfl; simp [List.take_length])
theorem qfu (l : List Sess) (who : qB) (hs : ∀ s, s ∈ l → 0 ≤ s.size ∧ s.size ≤ 300) (hl : l.length ≤ 1000) :
    jY C.P 33 [.sl false (l.map Sess.row), .v (str who)] (.v (.int .i64 (jU l who))) := by
  refine qa Tryz.func33 rfl _ Tryz.ntmps33 (Nat.le_of_ble_eq_true rfl) _ Tryz.results33 0 rfl rfl ?_
  repeat' (first | refine qe ?_ | fail | ((first | refine xsC ?_ ?_); all_goals (intro hc; have hp := hc; try simp at hp; try (exfalso; omega))) | refine qw ?_ ?_)
  (refine Awp.red (qh (ts := [(0, .sl false (l.map Sess.row)), (1, .v (str who)), (5, .v (.int .i64 (jU (l.take 0) who))), (6, .v (.int .i64 ((0 : Nat) : Int)))]) ?_) ?_; ((repeat (first | exact qd | refine qi ?_ | refine qR ?_ ?_))))
  refine qu (fun n σ => ∃ i : Nat, i ≤ l.length ∧ n = l.length - i ∧ (True) ∧ σ = ⟨[(0, .sl false (l.map Sess.row)), (1, .v (str who)), (5, .v (.int .i64 (jU (l.take i) who))), (6, .v (.int .i64 (i : Int)))], [], C.nh⟩) l.length ⟨0, Nat.zero_le _, rfl, trivial, rfl⟩ ?_
  rintro n σ ⟨i, hi, rfl, -, rfl⟩
  by_cases hlt : i < l.length
  · have hr := qF (f := Sess.row) hlt
    have hb1 := XR who hs i
    have hb2 := hs l[i] (List.getElem_mem _)
    have hsucc := Xu hlt who
    repeat' (first | refine qe ?_ | fail | ((first | refine xsC ?_ ?_); all_goals (intro hc; have hp := hc; try simp at hp; try (exfalso; omega))) | refine qw ?_ ?_)
    all_goals try (exfalso; simp_all; omega)
    all_goals (refine ⟨l.length - (i + 1), _, by omega, qh (ts := [(0, .sl false (l.map Sess.row)), (1, .v (str who)), (5, .v (.int .i64 (jU (l.take (i + 1)) who))), (6, .v (.int .i64 ((i + 1 : Nat) : Int)))]) ?_, i + 1, by omega, rfl, trivial, rfl⟩; ((repeat (first | exact qd | refine qi ?_ | refine qR ?_ ?_))))
    all_goals simp_all
  · obtain rfl : i = l.length := by omega
    repeat' (first | refine qe ?_ | fail | ((first | refine xsC ?_ ?_); all_goals (intro hc; have hp := hc; try simp at hp; try (exfalso; omega))) | refine qw ?_ ?_)
    all_goals first | (exfalso; simp_all; done) | skip
    all_goals (apply qD; rfl; simp [List.take_length])
theorem ZR (a b c : Int) : jY C.P 32 [.v (.int .i64 a), .v (.int .i64 b), .v (.int .i64 c)] (.v (.bool (qz a b c))) := by
  refine qa Tryz.func32 rfl _ Tryz.ntmps32 (Nat.le_of_ble_eq_true rfl) _ Tryz.results32 0 rfl rfl ?_
  repeat' (first | refine qe ?_ | fail | ((first | refine qc ?_ ?_ | refine qb ?_ ?_ | refine xsC ?_ ?_); all_goals (intro hc; have hp := hc; try simp at hp; try (exfalso; omega))) | refine qw ?_ ?_)
  all_goals (apply jA; rfl; simp_all [qz]; try omega)
end Go.Proofs.YtiljlcgmcmjcoaaGreatDoor
set_option maxHeartbeats 1000000
namespace Go.Proofs.YtiljlcgmcmjcoaaGreatDoor
open Go.Ab Go.RowKit
set_option maxRecDepth 10000
attribute [local irreducible] Awp jV q9 qJ Red qy Go.Ab.Fin ql Rz yQ qA qG ResOk jC q6 jH qT
theorem X5 (u : Upl) (hu : UBig u) : jY C.P 31 [vn u] (.v (.int .i64 (yq u))) := by
  refine qa Tryz.func31 rfl _ Tryz.ntmps31 (Nat.le_of_ble_eq_true rfl) _ Tryz.results31 0 rfl rfl ?_
  have hlen := hu.len
  repeat' (first | refine qe ?_ | (first | refine xsF Tryz.func68 (we ..) ?_) | ((first | refine qc ?_ ?_ | refine qb ?_ ?_ | refine xsC ?_ ?_); all_goals (intro hc; have hp := hc; try simp at hp; try (exfalso; omega))) | refine qw ?_ ?_)
  all_goals first | (apply qD; rfl; simp_all [yq, vC]; done) | (apply qD; rfl; have h20 : 20 < u.sess.length := (by omega); simp_all [yq, vC]; done) | skip
  rename_i h20
  have hw : ∀ s, s ∈ u.sess → s.who.length ≤ 9223372036854775807 := hu.who
  have hn : 1 ≤ u.next ∧ u.next ≤ 1099511627776 := by simp_all [qz]
  have hnl : ¬ 20 < u.sess.length := by omega
  have hhead : vC u = true := by simp_all [vC]
  refine kf 1 0 ?_
  (refine Awp.red (qh (ts := [(1, .fp [u.row] 0 0), (32, .sl false (u.sess.map Sess.row)), (33, .v (.int .i64 u.sess.length)), (34, .v (.int .i64 ((0 : Nat) : Int)))]) ?_) ?_; ((repeat (first | exact qd | refine qi ?_ | refine qR ?_ ?_))))
  all_goals try (rw [List.length_map]; done)
  refine qu (fun n σ => ∃ i : Nat, i ≤ u.sess.length ∧ n = u.sess.length - i ∧ (∀ s, s ∈ u.sess.take i → j7 u.next s = 0) ∧ σ = ⟨[(1, .fp [u.row] 0 0), (32, .sl false (u.sess.map Sess.row)), (33, .v (.int .i64 u.sess.length)), (34, .v (.int .i64 (i : Int)))], [], C.nh⟩) u.sess.length ⟨0, Nat.zero_le _, rfl, (by simp), rfl⟩ ?_
  rintro n σ ⟨i, hi, rfl, hsofar, rfl⟩
  by_cases hlt : i < u.sess.length
  · have hr := qF (f := Sess.row) hlt
    have hwi := hw u.sess[i] (List.getElem_mem _)
    repeat' (first | refine qe ?_ | (first | refine xsF Tryz.func69 (qc3 _ _ hn.1 hn.2 hwi ..) ?_) | ((first | refine qc ?_ ?_ | refine qb ?_ ?_ | refine xsC ?_ ?_); all_goals (intro hc; have hp := hc; try simp at hp; try (exfalso; omega))) | refine qw ?_ ?_)
    all_goals try (exfalso; omega)
    · apply qD
      rfl
      have he := vZ hlt hsofar hp
      have hz : ¬ jF (j7 u.next) u.sess = 0 := by rw [he]; exact hp
      simp only [yq, hhead, hnl, hz, if_true, if_false]
      exact he.symm
    · refine ⟨u.sess.length - (i + 1), _, by omega, qh (ts := [(1, .fp [u.row] 0 0), (32, .sl false (u.sess.map Sess.row)), (33, .v (.int .i64 u.sess.length)), (34, .v (.int .i64 ((i + 1 : Nat) : Int)))]) ?_, i + 1, by omega, rfl, qK hlt hsofar hp, rfl⟩; ((repeat (first | exact qd | refine qi ?_ | refine qR ?_ ?_)))
  obtain rfl : i = u.sess.length := by omega
  clear hlt hi
  have hz : jF (j7 u.next) u.sess = 0 := jz.2 (fun s hs => hsofar s (by rw [List.take_length]; exact hs))
  clear hsofar
  repeat' (first | refine qe ?_ | fail | ((first | refine qc ?_ ?_ | refine qb ?_ ?_ | refine xsC ?_ ?_); all_goals (intro hc; have hp := hc; try simp at hp; try (exfalso; omega))) | refine qw ?_ ?_)
  all_goals try (exfalso; simp_all; done)
  (refine Awp.red (qh (ts := [(1, .fp [u.row] 0 0), (6, .v (.int .i64 ((0 + 1 : Nat) : Int)))]) ?_) ?_; ((repeat (first | exact qd | refine qi ?_ | refine qR ?_ ?_))))
  refine qu (fun n σ => ∃ i : Nat, i ≤ (u.sess.drop 1).length ∧ n = (u.sess.drop 1).length - i ∧ (∀ (k : Nat) (h : k + 1 < u.sess.length), k < i → decide ((u.sess[k]'(by omega)).number < u.sess[k + 1].number) = true) ∧ σ = ⟨[(1, .fp [u.row] 0 0), (6, .v (.int .i64 ((i + 1 : Nat) : Int)))], [], C.nh⟩) (u.sess.drop 1).length ⟨0, Nat.zero_le _, rfl, (fun k h hk => absurd hk (Nat.not_lt_zero _)), rfl⟩ ?_
  have hdl : (u.sess.drop 1).length = u.sess.length - 1 := by simp
  rintro n σ ⟨i, hi, rfl, hsofar, rfl⟩
  by_cases hlt : i + 1 < u.sess.length
  · have hr := qF (f := Sess.row) hlt
    have hr' := qF (f := Sess.row) (l := u.sess) (i := i) (by omega)
    repeat' (first | refine qe ?_ | fail | ((first | refine qc ?_ ?_ | refine qb ?_ ?_ | refine xsC ?_ ?_); all_goals (intro hc; have hp := hc; try simp at hp; try (exfalso; omega))) | refine qw ?_ ?_)
    all_goals try (exfalso; simp_all; done)
    · have hrf : ¬ qr (fun a b => decide (a.number < b.number)) u.sess = true := fun h => by
        have := jT.1 h i hlt
        simp at this; omega
      apply qD
      rfl
      simp [yq, hhead, hnl, hz, hrf]
    · refine ⟨(u.sess.drop 1).length - (i + 1), _, by omega, qh (ts := [(1, .fp [u.row] 0 0), (6, .v (.int .i64 ((i + 1 + 1 : Nat) : Int)))]) ?_, i + 1, by omega, rfl, (fun k h hk => by
        by_cases e : k = i
        · subst e; simp; omega
        · exact hsofar k h (by omega)), rfl⟩; ((repeat (first | exact qd | refine qi ?_ | refine qR ?_ ?_)))
  have hrise : qr (fun a b => decide (a.number < b.number)) u.sess = true := jT.2 fun k h => hsofar k h (by simp at hi; omega)
  clear hsofar
  have hsz : ∀ s, s ∈ u.sess → 0 ≤ s.size ∧ s.size ≤ 300 := fun s hs => xZ (jz.1 hz s hs)
  have hl : u.sess.length ≤ 1000 := by omega
  repeat' (first | refine qe ?_ | fail | ((first | refine qc ?_ ?_ | refine qb ?_ ?_ | refine xsC ?_ ?_); all_goals (intro hc; have hp := hc; try simp at hp; try (exfalso; omega))) | refine qw ?_ ?_)
  all_goals try (exfalso; omega)
  (refine Awp.red (qh (ts := [(1, .fp [u.row] 0 0), (67, .sl false (u.sess.map Sess.row)), (68, .v (.int .i64 u.sess.length)), (69, .v (.int .i64 ((0 : Nat) : Int)))]) ?_) ?_; ((repeat (first | exact qd | refine qi ?_ | refine qR ?_ ?_))))
  all_goals try (rw [List.length_map]; done)
  refine qu (fun n σ => ∃ i : Nat, i ≤ u.sess.length ∧ n = u.sess.length - i ∧ (∀ s, s ∈ u.sess.take i → jU u.sess s.who ≤ u.room) ∧ σ = ⟨[(1, .fp [u.row] 0 0), (67, .sl false (u.sess.map Sess.row)), (68, .v (.int .i64 u.sess.length)), (69, .v (.int .i64 (i : Int)))], [], C.nh⟩) u.sess.length ⟨0, Nat.zero_le _, rfl, (by simp), rfl⟩ ?_
  rintro n σ ⟨i, hi, rfl, hsofar, rfl⟩
  by_cases hlt : i < u.sess.length
  · have hr := qF (f := Sess.row) hlt
    repeat' (first | refine qe ?_ | (first | refine xsF Tryz.func70 (qfj _ _ hsz hl ..) ?_) | ((first | refine qc ?_ ?_ | refine qb ?_ ?_ | refine xsC ?_ ?_); all_goals (intro hc; have hp := hc; try simp at hp; try (exfalso; omega))) | refine qw ?_ ?_)
    all_goals try (exfalso; omega)
    · have hrf : ¬ Za u = true := fun h => by
        have := List.all_eq_true.1 h _ (List.getElem_mem hlt)
        simp at this; omega
      apply qD
      rfl
      simp [yq, hhead, hnl, hz, hrise, hrf]
    · refine ⟨u.sess.length - (i + 1), _, by omega, qh (ts := [(1, .fp [u.row] 0 0), (67, .sl false (u.sess.map Sess.row)), (68, .v (.int .i64 u.sess.length)), (69, .v (.int .i64 ((i + 1 : Nat) : Int)))]) ?_, i + 1, by omega, rfl, qK hlt hsofar (by omega), rfl⟩; ((repeat (first | exact qd | refine qi ?_ | refine qR ?_ ?_)))
  obtain rfl : i = u.sess.length := by omega
  have hroomy : Za u = true := List.all_eq_true.2 fun s hs => by
    have := hsofar s (by rw [List.take_length]; exact hs)
    simpa using this
  clear hsofar
  repeat' (first | refine qe ?_ | fail | ((first | refine qc ?_ ?_ | refine qb ?_ ?_ | refine xsC ?_ ?_); all_goals (intro hc; have hp := hc; try simp at hp; try (exfalso; omega))) | refine qw ?_ ?_)
  all_goals try (exfalso; omega)
  apply qD
  rfl
  simp [yq, hhead, hnl, hz, hrise, hroomy]
end Go.Proofs.YtiljlcgmcmjcoaaGreatDoor
set_option maxHeartbeats 1000000
namespace Go.Proofs.YtiljlcgmcmjcoaaGreatDoor
open Go.Ab Go.RowKit
set_option maxRecDepth 10000
attribute [local irreducible] Awp jV q9 qJ Red qy Go.Ab.Fin ql Rz yQ qA qG ResOk jC q6 jH qT
theorem WS {u : Upl} (hhead : vC u = true) (hnl : ¬ 20 < u.sess.length) {k : Nat} (hk : k < u.sess.length) (hs : ∀ s, s ∈ u.sess.take k → j7 u.next s = 0) {e : Int} (he : j7 u.next u.sess[k] = e) (h0 : e ≠ 0) : e = yq u := by
  have h1 := vZ hk hs (by rw [he]; exact h0)
  have hz : ¬ jF (j7 u.next) u.sess = 0 := by rw [h1, he]; exact h0
  simp only [yq, hhead, hnl, hz, if_true, if_false]
  rw [h1, he]
theorem qej (u : Upl) (hu : UBig u) : jY C.P 13 [vn u] (.v (.int .i64 (yq u))) := by
  refine qa Tryz.func13 rfl _ Tryz.ntmps13 (Nat.le_of_ble_eq_true rfl) _ Tryz.results13 0 rfl rfl ?_
  have hlen := hu.len
  repeat' (first | refine qe ?_ | (first | (refine vM Tryz.func32 (ZR ..) ?_)) | ((first | refine qc ?_ ?_ | refine qb ?_ ?_ | refine xsC ?_ ?_); all_goals (intro hc; have hp := hc; try simp at hp; try (exfalso; omega))) | refine qw ?_ ?_)
  all_goals first | (apply qD; rfl; simp_all [yq, vC]; done) | (apply qD; rfl; have h20 : 20 < u.sess.length := (by omega); simp_all [yq, vC]; done) | skip
  have hw : ∀ s, s ∈ u.sess → s.who.length ≤ 9223372036854775807 := hu.who
  have hn : 1 ≤ u.next ∧ u.next ≤ 1099511627776 := by simp_all [qz]
  have hnl : ¬ 20 < u.sess.length := by omega
  have hhead : vC u = true := by simp_all [vC]
  refine kf 1 0 ?_
  (refine Awp.red (qh (ts := [(1, .fp [u.row] 0 0), (3, .clo (.func 32) [] []), (4, .v (.int .i64 ((0 : Nat) : Int)))]) ?_) ?_; ((repeat (first | exact qd | refine qi ?_ | refine qR ?_ ?_))))
  refine qu (fun n σ => ∃ i : Nat, i ≤ u.sess.length ∧ n = u.sess.length - i ∧ (∀ s, s ∈ u.sess.take i → j7 u.next s = 0) ∧ σ = ⟨[(1, .fp [u.row] 0 0), (3, .clo (.func 32) [] []), (4, .v (.int .i64 (i : Int)))], [], C.nh⟩) u.sess.length ⟨0, Nat.zero_le _, rfl, (by simp), rfl⟩ ?_
  rintro n σ ⟨i, hi, rfl, hsofar, rfl⟩
  by_cases hlt : i < u.sess.length
  · have hr := qF (f := Sess.row) hlt
    have hwi := hw u.sess[i] (List.getElem_mem _)
    repeat' (first | refine qe ?_ | (first | (refine vM Tryz.func32 (ZR ..) ?_) | refine xsF Tryz.func25 (ZW _ hwi ..) ?_) | ((first | refine qc ?_ ?_ | refine qb ?_ ?_ | refine xsC ?_ ?_); all_goals (intro hc; have hp := hc; try simp at hp; try (exfalso; omega))) | refine qw ?_ ?_)
    all_goals try (exfalso; omega)
    all_goals first
      | (apply qD; rfl; exact WS hhead hnl hlt hsofar (by simp_all [j7]) (by omega))
      | (have he : j7 u.next u.sess[i] = 0 := (by simp_all [j7]; try omega)
         refine ⟨u.sess.length - (i + 1), _, by omega, qh (ts := [(1, .fp [u.row] 0 0), (3, .clo (.func 32) [] []), (4, .v (.int .i64 ((i + 1 : Nat) : Int)))]) ?_, i + 1, by omega, rfl, qK hlt hsofar he, rfl⟩; ((repeat (first | exact qd | refine qi ?_ | refine qR ?_ ?_))))
  obtain rfl : i = u.sess.length := by omega
  have hz : jF (j7 u.next) u.sess = 0 := jz.2 (fun s hs => hsofar s (by rw [List.take_length]; exact hs))
  clear hsofar
  repeat' (first | refine qe ?_ | fail | ((first | refine qc ?_ ?_ | refine qb ?_ ?_ | refine xsC ?_ ?_); all_goals (intro hc; have hp := hc; try simp at hp; try (exfalso; omega))) | refine qw ?_ ?_)
  all_goals try (exfalso; omega)
  (refine Awp.red (qh (ts := [(1, .fp [u.row] 0 0), (6, .v (.int .i64 ((0 + 1 : Nat) : Int)))]) ?_) ?_; ((repeat (first | exact qd | refine qi ?_ | refine qR ?_ ?_))))
  refine qu (fun n σ => ∃ i : Nat, i ≤ (u.sess.drop 1).length ∧ n = (u.sess.drop 1).length - i ∧ (∀ (k : Nat) (h : k + 1 < u.sess.length), k < i → decide ((u.sess[k]'(by omega)).number < u.sess[k + 1].number) = true) ∧ σ = ⟨[(1, .fp [u.row] 0 0), (6, .v (.int .i64 ((i + 1 : Nat) : Int)))], [], C.nh⟩) (u.sess.drop 1).length ⟨0, Nat.zero_le _, rfl, (fun k h hk => absurd hk (Nat.not_lt_zero _)), rfl⟩ ?_
  have hdl : (u.sess.drop 1).length = u.sess.length - 1 := by simp
  rintro n σ ⟨i, hi, rfl, hsofar, rfl⟩
  by_cases hlt : i + 1 < u.sess.length
  · have hr := qF (f := Sess.row) hlt
    have hr' := qF (f := Sess.row) (l := u.sess) (i := i) (by omega)
    repeat' (first | refine qe ?_ | fail | ((first | refine qc ?_ ?_ | refine qb ?_ ?_ | refine xsC ?_ ?_); all_goals (intro hc; have hp := hc; try simp at hp; try (exfalso; omega))) | refine qw ?_ ?_)
    all_goals try (exfalso; simp_all; done)
    · have hrf : ¬ qr (fun a b => decide (a.number < b.number)) u.sess = true := fun h => by
        have := jT.1 h i hlt
        simp at this; omega
      apply qD
      rfl
      simp [yq, hhead, hnl, hz, hrf]
    · refine ⟨(u.sess.drop 1).length - (i + 1), _, by omega, qh (ts := [(1, .fp [u.row] 0 0), (6, .v (.int .i64 ((i + 1 + 1 : Nat) : Int)))]) ?_, i + 1, by omega, rfl, (fun k h hk => by
        by_cases e : k = i
        · subst e; simp; omega
        · exact hsofar k h (by omega)), rfl⟩; ((repeat (first | exact qd | refine qi ?_ | refine qR ?_ ?_)))
  have hrise : qr (fun a b => decide (a.number < b.number)) u.sess = true := jT.2 fun k h => hsofar k h (by simp at hi; omega)
  clear hsofar
  have hsz : ∀ s, s ∈ u.sess → 0 ≤ s.size ∧ s.size ≤ 300 := fun s hs => xZ (jz.1 hz s hs)
  have hl : u.sess.length ≤ 1000 := by omega
  repeat' (first | refine qe ?_ | fail | ((first | refine qc ?_ ?_ | refine qb ?_ ?_ | refine xsC ?_ ?_); all_goals (intro hc; have hp := hc; try simp at hp; try (exfalso; omega))) | refine qw ?_ ?_)
  all_goals try (exfalso; omega)
  (refine Awp.red (qh (ts := [(1, .fp [u.row] 0 0), (7, .v (.int .i64 ((0 : Nat) : Int)))]) ?_) ?_; ((repeat (first | exact qd | refine qi ?_ | refine qR ?_ ?_))))
  refine qu (fun n σ => ∃ i : Nat, i ≤ u.sess.length ∧ n = u.sess.length - i ∧ (∀ s, s ∈ u.sess.take i → jU u.sess s.who ≤ u.room) ∧ σ = ⟨[(1, .fp [u.row] 0 0), (7, .v (.int .i64 (i : Int)))], [], C.nh⟩) u.sess.length ⟨0, Nat.zero_le _, rfl, (by simp), rfl⟩ ?_
  rintro n σ ⟨i, hi, rfl, hsofar, rfl⟩
  by_cases hlt : i < u.sess.length
  · have hr := qF (f := Sess.row) hlt
    repeat' (first | refine qe ?_ | (first | refine xsF Tryz.func33 (qfu _ _ hsz hl ..) ?_) | ((first | refine qc ?_ ?_ | refine qb ?_ ?_ | refine xsC ?_ ?_); all_goals (intro hc; have hp := hc; try simp at hp; try (exfalso; omega))) | refine qw ?_ ?_)
    all_goals try (exfalso; omega)
    · have hrf : ¬ Za u = true := fun h => by
        have := List.all_eq_true.1 h _ (List.getElem_mem hlt)
        simp at this; omega
      apply qD
      rfl
      simp [yq, hhead, hnl, hz, hrise, hrf]
    · refine ⟨u.sess.length - (i + 1), _, by omega, qh (ts := [(1, .fp [u.row] 0 0), (7, .v (.int .i64 ((i + 1 : Nat) : Int)))]) ?_, i + 1, by omega, rfl, qK hlt hsofar (by omega), rfl⟩; ((repeat (first | exact qd | refine qi ?_ | refine qR ?_ ?_)))
  obtain rfl : i = u.sess.length := by omega
  have hroomy : Za u = true := List.all_eq_true.2 fun s hs => by
    have := hsofar s (by rw [List.take_length]; exact hs)
    simpa using this
  clear hsofar
  repeat' (first | refine qe ?_ | fail | ((first | refine qc ?_ ?_ | refine qb ?_ ?_ | refine xsC ?_ ?_); all_goals (intro hc; have hp := hc; try simp at hp; try (exfalso; omega))) | refine qw ?_ ?_)
  all_goals try (exfalso; omega)
  apply qD
  rfl
  simp [yq, hhead, hnl, hz, hrise, hroomy]
def jy (u : Upl) (now : Int) : Int := if yq u = 0 then (if qz now 0 1099511627776 then 0 else 3) else yq u
def vS (who : qB) (number : Int) (s : Sess) : Bool := decide (s.who = who) && decide (s.number = number)
end Go.Proofs.YtiljlcgmcmjcoaaGreatDoor
set_option linter.unusedSimpArgs false
set_option maxHeartbeats 1000000
namespace Go.Proofs.YtiljlcgmcmjcoaaGreatDoor
open Go.Ab Go.RowKit
set_option maxRecDepth 10000
attribute [local irreducible] Awp jV q9 qJ Red qy Go.Ab.Fin ql Rz yQ qA qG ResOk jC q6 jH qT
def Yx (now : Int) (s : Sess) : Bool := decide (now ≤ s.till)
def qN (l : List Sess) (now : Int) : List Sess := l.filter (Yx now)
def JC (u : Upl) (now : Int) : Upl := { u with sess := qN u.sess now }
end Go.Proofs.YtiljlcgmcmjcoaaGreatDoor
set_option linter.unusedSimpArgs false
set_option maxHeartbeats 1000000
namespace Go.Proofs.YtiljlcgmcmjcoaaGreatDoor
open Go.Ab Go.RowKit
set_option maxRecDepth 10000
attribute [local irreducible] Awp jV q9 qJ Red qy Go.Ab.Fin ql Rz yQ qA qG ResOk jC q6 jH qT
def Js : Upl := ⟨[], 0, 0, 0⟩
def yH (u : Upl) (who : qB) (size now : Int) : Int :=
  if jy u now = 0 then
    if qo who then
      if size < 0 ∨ 300 < size ∨ u.next = 1099511627776 then 3
      else if (qN u.sess now).length = 20 then 2
      else if u.room < jU (qN u.sess now) who + size then 10 else 0
    else 1
  else jy u now
def Ye (u : Upl) (who : qB) (size now : Int) : Upl := { u with sess := qN u.sess now ++ [⟨u.next, who, [], size, now + u.lasts⟩], next := u.next + 1 }
def wW (u : Upl) (n e : Int) : AV := .tup [vn u, .v (.int .i64 n), .v (.int .i64 e)]
def Y3 (u : Upl) (who : qB) (size now : Int) : AV := if yH u who size now = 0 then wW (Ye u who size now) u.next 0 else wW Js 0 (yH u who size now)
theorem zG {u : Upl} {who : qB} {size now e : Int} (h : yH u who size now = e) (h0 : e ≠ 0) : Y3 u who size now = wW Js 0 e := by unfold Y3; rw [h, if_neg h0]
theorem qdc {u : Upl} {who : qB} {size now : Int} (h : yH u who size now = 0) : Y3 u who size now = wW (Ye u who size now) u.next 0 := by unfold Y3; rw [if_pos h]
theorem VB {u : Upl} (h : yq u = 0) : vC u = true ∧ u.sess.length ≤ 20 ∧ (∀ s, s ∈ u.sess → j7 u.next s = 0) ∧ qr (fun a b => decide (a.number < b.number)) u.sess = true ∧ Za u = true := by
  unfold yq at h
  split at h
  · rename_i h1
    split at h
    · cases h
    · rename_i h2
      split at h
      · rename_i h3
        split at h
        · rename_i h4
          split at h
          · rename_i h5
            exact ⟨h1, by omega, jz.1 h3, h4, h5⟩
          · cases h
        · cases h
      · rename_i h3; exact absurd h h3
  · cases h
theorem JK {u : Upl} {now : Int} (h : jy u now = 0) : yq u = 0 ∧ 0 ≤ now ∧ now ≤ 1099511627776 := by
  unfold jy at h
  split at h
  · rename_i h1
    split at h
    · rename_i h2; simp [qz] at h2; exact ⟨h1, h2⟩
    · cases h
  · rename_i h1; exact absurd h h1
theorem w6 {l : List Sess} {now : Int} {s : Sess} (h : s ∈ qN l now) : s ∈ l := (List.mem_filter.1 h).1
theorem kM (l : List Sess) (now : Int) : (qN l now).length ≤ l.length := List.length_filter_le _ _
structure UOk (u : Upl) (now : Int) : Prop where
  now0 : 0 ≤ now
  now1 : now ≤ 1099511627776
  l0 : 1 ≤ u.lasts
  l1 : u.lasts ≤ 1000000
  r0 : 0 ≤ u.room
  r1 : u.room ≤ 100000
  n0 : 1 ≤ u.next
  n1 : u.next ≤ 1099511627776
  len : u.sess.length ≤ 20
  sz : ∀ s, s ∈ u.sess → 0 ≤ s.size ∧ s.size ≤ 300
theorem uok {u : Upl} {now : Int} (h : jy u now = 0) : UOk u now := by
  obtain ⟨h1, h2, h3⟩ := JK h
  obtain ⟨h4, h5, h6, _, _⟩ := VB h1
  simp [vC, qz] at h4
  exact ⟨h2, h3, h4.1.1.1, h4.1.1.2, h4.1.2.1, h4.1.2.2, h4.2.1, h4.2.2, h5, fun s hs => xZ (h6 s hs)⟩
end Go.Proofs.YtiljlcgmcmjcoaaGreatDoor
set_option linter.unusedSimpArgs false
set_option maxHeartbeats 1000000
namespace Go.Proofs.YtiljlcgmcmjcoaaGreatDoor
open Go.Ab Go.RowKit
set_option maxRecDepth 10000
attribute [local irreducible] Awp jV q9 qJ Red qy Go.Ab.Fin ql Rz yQ qA qG ResOk jC q6 jH qT
end Go.Proofs.YtiljlcgmcmjcoaaGreatDoor
set_option linter.unusedSimpArgs false
set_option maxHeartbeats 1000000
namespace Go.Proofs.YtiljlcgmcmjcoaaGreatDoor
open Go.Ab Go.RowKit
set_option maxRecDepth 10000
attribute [local irreducible] Awp jV q9 qJ Red qy Go.Ab.Fin ql Rz yQ qA qG ResOk jC q6 jH qT
theorem qap (l : List Sess) (hl : l.length ≤ 1000000) :
    ql C.P 80 [.sl false (l.map Sess.row)] [] (.os 0 0 l.length) [.own false 5 (l.map Sess.row)] := by
  by_cases h0 : l = []
  · subst h0
    refine qa Tryz.func80 rfl _ Tryz.ntmps80 (Nat.le_of_ble_eq_true rfl) _ Tryz.results80 0 rfl rfl ?_
    repeat' (first | refine qe ?_ | (first | (refine jZ ?_) | (refine vT ?_) | (refine Ja ?_)) | ((first | refine xsC ?_ ?_); all_goals (intro hc; have hp := hc; try simp at hp; try (exfalso; omega))) | refine qw ?_ ?_)
    · (refine wz (C := C) (vw (C := C) 2 5 rfl (Nat.zero_le _)) ?_)
      (refine w8 (rs := [.tmp 2]) [(0, 0)] 1 ?_; (repeat (first | exact qg | refine jQ ?_ | refine qM ?_ ?_)); all_goals skip)
    · (refine w8 (rs := [.tmp 2]) [(0, 0)] 1 ?_; (repeat (first | exact qg | refine jQ ?_ | refine qM ?_ ?_)); all_goals skip)
  · refine qa Tryz.func80 rfl _ Tryz.ntmps80 (Nat.le_of_ble_eq_true rfl) _ Tryz.results80 0 rfl rfl ?_
    repeat' (first | refine qe ?_ | (first | (refine jZ ?_) | (refine vT ?_) | (apply qj; apply kH; rfl; exact (fun h => h0 (List.map_eq_nil_iff.1 h)); rfl; rfl; (first | exact .inl rfl | exact .inr rfl); exact nle rfl)) | ((first | refine xsC ?_ ?_); all_goals (intro hc; have hp := hc; try simp at hp; try (exfalso; omega))) | refine qw ?_ ?_)
    (refine w8 (rs := [.tmp 2]) [(0, 0)] 1 ?_; (repeat (first | exact qg | refine jQ ?_ | refine qM ?_ ?_)); all_goals skip)
theorem Y7 (p : Sess → Bool) (g : FuncId) (hg : IsFn C.P g) (cap : List AV) (hcap : AV.pure.pureL cap = true) (l : List Sess) (hl : l.length ≤ 1000000) (hc : ∀ s, s ∈ l → jY C.P g (.agg s.row :: cap) (.v (.bool (p s)))) :
    jY C.P 155 [.sl false (l.map Sess.row), .clo (.func g) [] cap] (.v (.int .i64 (yj p l))) := by
  refine qa Tryz.func155 rfl _ Tryz.ntmps155 (Nat.le_of_ble_eq_true rfl) _ Tryz.results155 0 rfl rfl ?_
  repeat' (first | refine qe ?_ | fail | ((first | refine xsC ?_ ?_); all_goals (intro hc; have hp := hc; try simp at hp; try (exfalso; omega))) | refine qw ?_ ?_)
  (refine Awp.red (qh (ts := [(0, .sl false (l.map Sess.row)), (1, .clo (.func g) [] cap), (7, .v (.int .i64 l.length)), (8, .v (.int .i64 ((0 : Nat) : Int)))]) ?_) ?_; ((repeat (first | exact qd | refine qi ?_ | refine qR ?_ ?_))))
  all_goals try (rw [List.length_map]; done)
  refine qu (fun n σ => ∃ i : Nat, i ≤ l.length ∧ n = l.length - i ∧ (∀ s, s ∈ l.take i → p s = false) ∧ σ = ⟨[(0, .sl false (l.map Sess.row)), (1, .clo (.func g) [] cap), (7, .v (.int .i64 l.length)), (8, .v (.int .i64 (i : Int)))], [], C.nh⟩) l.length ⟨0, Nat.zero_le _, rfl, (by simp), rfl⟩ ?_
  rintro n σ ⟨i, hi, rfl, hsofar, rfl⟩
  by_cases hlt : i < l.length
  · have hr := qF (f := Sess.row) hlt
    have hci := hc l[i] (List.getElem_mem _)
    repeat' (first | refine qe ?_ | (first | (apply qj; apply zk []; rfl; exact hg; exact hci; (case hz => exact qm (qQ rfl) (ka hcap)); (case hfl => rfl); (case hN => exact nle rfl))) | ((first | refine xsC ?_ ?_); all_goals (intro hc; have hp := hc; try simp at hp; try (exfalso; omega))) | refine qw ?_ ?_)
    all_goals try (exfalso; omega)
    · apply qD
      rfl
      exact (vJ hlt hsofar hp).symm
    · refine ⟨l.length - (i + 1), _, by omega, qh (ts := [(0, .sl false (l.map Sess.row)), (1, .clo (.func g) [] cap), (7, .v (.int .i64 l.length)), (8, .v (.int .i64 ((i + 1 : Nat) : Int)))]) ?_, i + 1, by omega, rfl, qK hlt hsofar hp, rfl⟩; ((repeat (first | exact qd | refine qi ?_ | refine qR ?_ ?_)))
  obtain rfl : i = l.length := by omega
  repeat' (first | refine qe ?_ | fail | ((first | refine xsC ?_ ?_); all_goals (intro hc; have hp := hc; try simp at hp; try (exfalso; omega))) | refine qw ?_ ?_)
  all_goals try (exfalso; omega)
  apply qD
  rfl
  exact (xY fun s hs => hsofar s (by rw [List.take_length]; exact hs)).symm
end Go.Proofs.YtiljlcgmcmjcoaaGreatDoor
