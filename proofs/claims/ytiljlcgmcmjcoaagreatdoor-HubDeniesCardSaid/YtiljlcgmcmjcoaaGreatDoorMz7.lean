import Derived.Test.YtiljlcgmcmjcoaaGreatDoorTy
import Derived.Test.YtiljlcgmcmjcoaaGreatDoorMz0
import Derived.Test.YtiljlcgmcmjcoaaGreatDoorMz4
import Derived.Test.YtiljlcgmcmjcoaaGreatDoorMz6
import Derived.Test.YtiljlcgmcmjcoaaGreatDoorMz1
/- Values that are handed in: numbers and texts. -/
set_option linter.unusedSimpArgs false
set_option linter.unnecessarySimpa false
namespace Go.Proofs.YtiljlcgmcmjcoaaGreatDoor
open Go.Ab Go.RowKit

/-- The base of a function that is handed one row of memory. -/
noncomputable def C1 : Cx := { C with nh := 1 }

theorem rows_map {α : Type} {f : α → List AV} {ok : α → Prop} : ∀ {rows : List (List AV)}, (∀ row, row ∈ rows → ∃ a, row = f a ∧ ok a) → ∃ l : List α, rows = l.map f ∧ ∀ a, a ∈ l → ok a
  | [], _ => ⟨[], rfl, fun a h => by cases h⟩
  | row :: rows, h => by
    obtain ⟨a, rfl, ha⟩ := h row (List.mem_cons_self ..)
    obtain ⟨l, rfl, hl⟩ := rows_map fun r hr => h r (List.mem_cons_of_mem _ hr)
    exact ⟨a :: l, rfl, fun b hb => by rcases List.mem_cons.1 hb with rfl | hb; exact ha; exact hl b hb⟩

theorem g_isName (s : Str) (hs : s.length ≤ 140737488355328) : AFn C.P 37 [.v (str s)] (.v (.bool (isName s))) := afn_of_calls rfl fun w => isName_any s w (by omega)
theorem g_isNameR (s : Str) (hs : s.length ≤ 140737488355328) : AFn C.P 25 [.v (str s)] (.v (.bool (isName s))) := afn_of_calls rfl fun w => isNameR_any s w (by omega)
end Go.Proofs.YtiljlcgmcmjcoaaGreatDoor

/- Entries and changes that are handed in, of a bulk that is bound. -/
set_option linter.unusedSimpArgs false
set_option linter.unnecessarySimpa false
namespace Go.Proofs.YtiljlcgmcmjcoaaGreatDoor
open Go.Ab Go.RowKit

theorem tyw_int {n : Nat} {xs : List AV} (h : TyW C.tab 140737488355328 n 3 xs) : ∃ a, xs = [.v (.int .i64 a)] ∧ (Lit.int .i64 a).wf = true := by
  cases n with
  | zero => exact h.elim
  | succ n => exact h
theorem tyw_str {n : Nat} {xs : List AV} (h : TyW C.tab 140737488355328 n 9 xs) : ∃ s : Str, xs = [.v (str s)] ∧ s.length ≤ 140737488355328 := by
  cases n with
  | zero => exact h.elim
  | succ n => exact h
theorem tyw_bool {n : Nat} {xs : List AV} (h : TyW C.tab 140737488355328 n 4 xs) : ∃ b, xs = [.v (.bool b)] := by
  cases n with
  | zero => exact h.elim
  | succ n => exact h
def Ent.row (e : Ent) : List AV := [.v (str e.path), .v (.bool e.fold), .v (str e.text), .v (.int .i64 e.ver)]
def Ent.small (e : Ent) : Prop := e.path.length ≤ 140737488355328 ∧ e.text.length ≤ 140737488355328
def entAV (t : List Ent) : AV := .sl false (t.map Ent.row)
structure EBig (t : List Ent) : Prop where
  each : ∀ e, e ∈ t → e.small
  len : t.length ≤ 140737488355328
def Chg.row (c : Chg) : List AV := [.v (.int .i64 c.kind), .v (str c.path), .v (str c.to), .v (str c.text), .v (.int .i64 c.base)]
def Chg.small (c : Chg) : Prop := c.path.length ≤ 140737488355328 ∧ c.to.length ≤ 140737488355328 ∧ c.text.length ≤ 140737488355328
def chgAV (t : List Chg) : AV := .sl false (t.map Chg.row)
structure CBig (t : List Chg) : Prop where
  each : ∀ e, e ∈ t → e.small
  len : t.length ≤ 140737488355328
theorem tyw_ent {n : Nat} {xs : List AV} (h : TyW C.tab 140737488355328 n 72 xs) : ∃ s : Ent, xs = s.row ∧ s.small := by
  cases n with
  | zero => exact h.elim
  | succ n =>
    obtain ⟨_, _, rfl, h0, _, _, rfl, h1, _, _, rfl, h2, _, _, rfl, h3, rfl⟩ := (show tiled C.tab 0 _ = some _ → TyFs (TyW C.tab 140737488355328 n) [(0, 9), (1, 4), (2, 9), (3, 3)] xs from h) rfl
    obtain ⟨a0, rfl, l0⟩ := tyw_str h0
    obtain ⟨a1, rfl⟩ := tyw_bool h1
    obtain ⟨a2, rfl, l2⟩ := tyw_str h2
    obtain ⟨a3, rfl, _⟩ := tyw_int h3
    exact ⟨⟨a0, a1, a2, a3⟩, rfl, l0, l2⟩
theorem tyw_chg {n : Nat} {xs : List AV} (h : TyW C.tab 140737488355328 n 81 xs) : ∃ s : Chg, xs = s.row ∧ s.small := by
  cases n with
  | zero => exact h.elim
  | succ n =>
    obtain ⟨_, _, rfl, h0, _, _, rfl, h1, _, _, rfl, h2, _, _, rfl, h3, _, _, rfl, h4, rfl⟩ := (show tiled C.tab 0 _ = some _ → TyFs (TyW C.tab 140737488355328 n) [(0, 3), (1, 9), (2, 9), (3, 9), (4, 3)] xs from h) rfl
    obtain ⟨a0, rfl, _⟩ := tyw_int h0
    obtain ⟨a1, rfl, l1⟩ := tyw_str h1
    obtain ⟨a2, rfl, l2⟩ := tyw_str h2
    obtain ⟨a3, rfl, l3⟩ := tyw_str h3
    obtain ⟨a4, rfl, _⟩ := tyw_int h4
    exact ⟨⟨a0, a1, a2, a3, a4⟩, rfl, l1, l2, l3⟩
end Go.Proofs.YtiljlcgmcmjcoaaGreatDoor

/- The types of trees and of changes: what is handed in, told abstractly. -/
set_option linter.unusedSimpArgs false
set_option linter.unusedVariables false
namespace Go.Proofs.YtiljlcgmcmjcoaaGreatDoor
open Go.Ab Go.RowKit

theorem tyw_ents {n : Nat} {xs : List AV} (h : TyW C.tab 140737488355328 n 41 xs) : ∃ t : List Ent, xs = [entAV t] ∧ EBig t := by
  cases n with
  | zero => exact h.elim
  | succ n =>
    obtain ⟨rows, he, hb, hr⟩ := (show (4 : Nat) ≠ 0 → ∃ rows, xs = [AV.sl false rows] ∧ rows.length * 48 ≤ 140737488355328 ∧ ∀ row, row ∈ rows → TyW C.tab 140737488355328 n 72 row from h) (by decide)
    obtain ⟨l, rfl, hl⟩ := rows_map (f := Ent.row) (ok := Ent.small) (fun row hrow => tyw_ent (hr row hrow))
    refine ⟨l, he, hl, ?_⟩
    simp at hb; omega
theorem tyw_chgs {n : Nat} {xs : List AV} (h : TyW C.tab 140737488355328 n 38 xs) : ∃ t : List Chg, xs = [chgAV t] ∧ CBig t := by
  cases n with
  | zero => exact h.elim
  | succ n =>
    obtain ⟨rows, he, hb, hr⟩ := (show (5 : Nat) ≠ 0 → ∃ rows, xs = [AV.sl false rows] ∧ rows.length * 64 ≤ 140737488355328 ∧ ∀ row, row ∈ rows → TyW C.tab 140737488355328 n 81 row from h) (by decide)
    obtain ⟨l, rfl, hl⟩ := rows_map (f := Chg.row) (ok := Chg.small) (fun row hrow => tyw_chg (hr row hrow))
    refine ⟨l, he, hl, ?_⟩
    simp at hb; omega
end Go.Proofs.YtiljlcgmcmjcoaaGreatDoor

/- Paths in the abstract layer, 1: strings.Index and strings.Count at one sign; great. -/
set_option linter.unusedSimpArgs false
set_option linter.unnecessarySimpa false
set_option maxHeartbeats 1000000
namespace Go.Proofs.YtiljlcgmcmjcoaaGreatDoor
open Go.Ab Go.RowKit
set_option maxRecDepth 10000
attribute [local irreducible] Awp Ops OpsX Wanted Red ExOk Go.Ab.Fin ACall Rz RzL RzRows Enters ResOk RenV RenVL ArgV ArgVL

def slash : Str := [47]
theorem a_count (s : Str) : AFn C.P 171 [.v (str s), .v (str slash)] (.v (.int .i64 (s.count 47 : Nat))) := by
  refine acall_intro Tryz.func171 rfl _ Tryz.ntmps171 (Nat.le_of_ble_eq_true rfl) _ Tryz.results171 0 rfl rfl ?_
  repeat' (first | refine walk ?_ | (first | (apply opsx_val; apply ex_ext2; exact Tryz.func185; (case hname => rfl); (case hb => rfl); (case hnx => rfl); (case hex => rfl); (case hx => rfl); (case hy => rfl); (case hrun => exact fun w => Lib.run_countString _ _ w); (case hr => rfl); (case hN => exact nle rfl))) | ((first | (apply awp_cond; rfl)); all_goals (intro hc; have hp := hc; first | (simp at hp; done) | ((try simp at hp); first | (exfalso; omega) | skip))) | (apply awp_cond_any; rfl))
  all_goals try (exfalso; simp_all [slash]; done)
  all_goals (apply fin_int; rfl; simp [Lib.countByte])
theorem a_great (s : Str) : AFn C.P 143 [.v (str s)] (.v (.bool (tooGreat s))) := by
  have htg := tooGreat_count s
  refine acall_intro Tryz.func143 rfl _ Tryz.ntmps143 (Nat.le_of_ble_eq_true rfl) _ Tryz.results143 0 rfl rfl ?_
  repeat' (first | refine walk ?_ | (first | (apply to_call Tryz.func171 rfl rfl; intro hIsFn; refine o_callf hIsFn (a_count s ..) ?_; skip)) | ((first | (apply ops_split_t; rfl; rfl; exact nle rfl) | (apply ops_split_f; rfl; rfl; exact nle rfl) | (apply awp_cond; rfl)); all_goals (intro hc; have hp := hc; first | (simp at hp; done) | ((try simp at hp); first | (exfalso; omega) | skip))) | (apply awp_cond_any; rfl))
  all_goals (apply fin_bool; rfl; rw [htg])
  all_goals first
    | (have h6 : ¬ 6 ≤ s.count 47 := (by omega)
       simp [h6]; omega)
    | (have h6 : 6 ≤ s.count 47 := (by omega)
       simp [h6]; done)
end Go.Proofs.YtiljlcgmcmjcoaaGreatDoor

/- Values that are handed in, of the types of this seat. -/
set_option linter.unusedSimpArgs false
namespace Go.Proofs.YtiljlcgmcmjcoaaGreatDoor
open Go.Ab Go.RowKit

def Sess.row (s : Sess) : List AV := [.v (.int .i64 s.number), .v (str s.who), .v (str s.text), .v (.int .i64 s.size), .v (.int .i64 s.till)]
def Upl.row (u : Upl) : List AV := [.sl false (u.sess.map Sess.row), .v (.int .i64 u.next), .v (.int .i64 u.lasts), .v (.int .i64 u.room)]
def uplAV (u : Upl) : AV := .agg u.row
def Sess.small (s : Sess) : Prop := s.who.length ≤ 140737488355328 ∧ s.text.length ≤ 140737488355328
structure UBig (u : Upl) : Prop where
  who : ∀ s, s ∈ u.sess → s.who.length ≤ 9223372036854775807
  text : ∀ s, s ∈ u.sess → s.text.length ≤ 140737488355328
  len : u.sess.length ≤ 9223372036854775807

end Go.Proofs.YtiljlcgmcmjcoaaGreatDoor

/- Grants that are handed in; the abstract layer's maps. -/
set_option linter.unusedSimpArgs false
namespace Go.Proofs.YtiljlcgmcmjcoaaGreatDoor
open Go.Ab Go.RowKit

def Gra.row (g : Gra) : List AV := [.v (str g.folder), .v (str g.who), .v (.int .i64 g.right)]
def Gra.small (g : Gra) : Prop := g.folder.length ≤ 140737488355328 ∧ g.who.length ≤ 140737488355328
def graAV (l : List Gra) : AV := .sl false (l.map Gra.row)
structure GBig (l : List Gra) : Prop where
  each : ∀ g, g ∈ l → g.small
  len : l.length ≤ 140737488355328
def graCmp (a b : Gra) : Int := if strCmp a.folder b.folder = 0 then strCmp a.who b.who else strCmp a.folder b.folder
end Go.Proofs.YtiljlcgmcmjcoaaGreatDoor

/- Requests, plain. -/
set_option linter.unusedVariables false
namespace Go.Proofs.YtiljlcgmcmjcoaaGreatDoor
open Go.Ab Go.RowKit

structure Rqt where
  kind : Int
  who : Str
  folder : Str
  name : Str
  key : Str
  text : Str
  number : Int
  offset : Int
  base : Int
  chs : List Chg
  deriving DecidableEq
def Rqt.row (r : Rqt) : List AV := [.v (.int .i64 r.kind), .v (str r.who), .v (str r.folder), .v (str r.name), .v (str r.key), .v (str r.text), .v (.int .i64 r.number), .v (.int .i64 r.offset), .v (.int .i64 r.base), chgAV r.chs]
end Go.Proofs.YtiljlcgmcmjcoaaGreatDoor

/- The uploads in the abstract layer, 1: rows; within, session, open. -/
set_option maxHeartbeats 1000000
namespace Go.Proofs.YtiljlcgmcmjcoaaGreatDoor
open Go.Ab Go.RowKit
set_option maxRecDepth 10000
attribute [local irreducible] Awp Ops OpsX Wanted Red ExOk Go.Ab.Fin ACall Rz RzL RzRows Enters ResOk RenV RenVL ArgV ArgVL


theorem a_isName (s : Str) (hs : s.length ≤ 9223372036854775807) : AFn C.P 37 [.v (str s)] (.v (.bool (isName s))) := afn_of_calls rfl fun w => isName_any s w hs
theorem u_within (a b c : Int) : AFn C.P 68 [.v (.int .i64 a), .v (.int .i64 b), .v (.int .i64 c)] (.v (.bool (withinB a b c))) := by
  refine acall_intro Tryz.func68 rfl _ Tryz.ntmps68 (Nat.le_of_ble_eq_true rfl) _ Tryz.results68 0 rfl rfl ?_
  repeat' (first | refine walk ?_ | fail | ((first | (apply ops_split_t; rfl; rfl; exact nle rfl) | (apply ops_split_f; rfl; rfl; exact nle rfl) | (apply awp_cond; rfl)); all_goals (intro hc; have hp := hc; first | (simp at hp; done) | ((try simp at hp); first | (exfalso; omega) | skip))) | (apply awp_cond_any; rfl))
  all_goals (apply fin_bool; rfl; simp_all [withinB]; try omega)

theorem a_session (u : Upl) (s : Sess) (h1 : 1 ≤ u.next) (h2 : u.next ≤ 1099511627776) (hs : s.who.length ≤ 9223372036854775807) : AFn C.P 69 [uplAV u, .agg s.row] (.v (.int .i64 (sessErr u.next s))) := by
  refine acall_intro Tryz.func69 rfl _ Tryz.ntmps69 (Nat.le_of_ble_eq_true rfl) _ Tryz.results69 0 rfl rfl ?_
  repeat' (first | refine walk ?_ | (first | (apply to_call Tryz.func68 rfl rfl; intro hIsFn; refine o_callf hIsFn (u_within ..) ?_; skip) | (apply to_call Tryz.func37 rfl rfl; intro hIsFn; refine o_callf hIsFn (a_isName _ hs ..) ?_; skip)) | ((first | (apply ops_split_t; rfl; rfl; exact nle rfl) | (apply ops_split_f; rfl; rfl; exact nle rfl) | (apply awp_cond; rfl)); all_goals (intro hc; have hp := hc; first | (simp at hp; done) | ((try simp at hp); first | (exfalso; omega) | skip))) | (apply awp_cond_any; rfl))
  all_goals (apply fin_int; rfl; simp_all [sessErr])
end Go.Proofs.YtiljlcgmcmjcoaaGreatDoor

/- The uploads in the abstract layer, 2: open, OpenOf. -/
set_option maxHeartbeats 1000000
namespace Go.Proofs.YtiljlcgmcmjcoaaGreatDoor
open Go.Ab Go.RowKit
set_option maxRecDepth 10000
attribute [local irreducible] Awp Ops OpsX Wanted Red ExOk Go.Ab.Fin ACall Rz RzL RzRows Enters ResOk RenV RenVL ArgV ArgVL

theorem u_open (l : List Sess) (who : Str) (hs : ∀ s, s ∈ l → 0 ≤ s.size ∧ s.size ≤ 300) (hl : l.length ≤ 1000) :
    AFn C.P 70 [.sl false (l.map Sess.row), .v (str who)] (.v (.int .i64 (openOf l who))) := by
  refine acall_intro Tryz.func70 rfl _ Tryz.ntmps70 (Nat.le_of_ble_eq_true rfl) _ Tryz.results70 0 rfl rfl ?_
  repeat' (first | refine walk ?_ | fail | ((first | (apply awp_cond; rfl)); all_goals (intro hc; have hp := hc; first | (simp at hp; done) | ((try simp at hp); first | (exfalso; omega) | skip))) | (apply awp_cond_any; rfl))
  (refine Awp.red (red_pure (ts := [(1, .v (str who)), (5, .v (.int .i64 (openOf (l.take 0) who))), (8, .sl false (l.map Sess.row)), (9, .v (.int .i64 l.length)), (10, .v (.int .i64 ((0 : Nat) : Int)))]) ?_) ?_; ((repeat (first | exact tsok_nil | refine p_pure ?_ | refine p_eq ?_ ?_))))
  all_goals try (rw [List.length_map]; done)
  refine awp_loop (fun n σ => ∃ i : Nat, i ≤ l.length ∧ n = l.length - i ∧ (True) ∧ σ = ⟨[(1, .v (str who)), (5, .v (.int .i64 (openOf (l.take i) who))), (8, .sl false (l.map Sess.row)), (9, .v (.int .i64 l.length)), (10, .v (.int .i64 (i : Int)))], [], C.nh⟩) l.length ⟨0, Nat.zero_le _, rfl, trivial, rfl⟩ ?_
  rintro n σ ⟨i, hi, rfl, -, rfl⟩
  by_cases hlt : i < l.length
  · have hr := getRow (f := Sess.row) hlt
    have hb1 := openOf_take who hs i
    have hb2 := hs l[i] (List.getElem_mem _)
    have hsucc := openOf_succ hlt who
    repeat' (first | refine walk ?_ | fail | ((first | (apply awp_cond; rfl)); all_goals (intro hc; have hp := hc; first | (simp at hp; done) | ((try simp at hp); first | (exfalso; omega) | skip))) | (apply awp_cond_any; rfl))
    all_goals try (exfalso; omega)
    all_goals (refine ⟨l.length - (i + 1), _, by omega, red_pure (ts := [(1, .v (str who)), (5, .v (.int .i64 (openOf (l.take (i + 1)) who))), (8, .sl false (l.map Sess.row)), (9, .v (.int .i64 l.length)), (10, .v (.int .i64 ((i + 1 : Nat) : Int)))]) ?_, i + 1, by omega, rfl, trivial, rfl⟩; ((repeat (first | exact tsok_nil | refine p_pure ?_ | refine p_eq ?_ ?_))))
    all_goals simp_all
  · obtain rfl : i = l.length := by omega
    repeat' (first | refine walk ?_ | fail | ((first | (apply awp_cond; rfl)); all_goals (intro hc; have hp := hc; first | (simp at hp; done) | ((try simp at hp); first | (exfalso; omega) | skip))) | (apply awp_cond_any; rfl))
    all_goals first | (exfalso; omega) | skip
    all_goals (apply fin_int; rfl; simp [List.take_length])

end Go.Proofs.YtiljlcgmcmjcoaaGreatDoor

/- The uploads in the abstract layer, 3: Check. -/
set_option maxHeartbeats 1000000
namespace Go.Proofs.YtiljlcgmcmjcoaaGreatDoor
open Go.Ab Go.RowKit
set_option maxRecDepth 10000
attribute [local irreducible] Awp Ops OpsX Wanted Red ExOk Go.Ab.Fin ACall Rz RzL RzRows Enters ResOk RenV RenVL ArgV ArgVL


theorem u_check (u : Upl) (hu : UBig u) : AFn C.P 31 [uplAV u] (.v (.int .i64 (upErr u))) := by
  refine acall_intro Tryz.func31 rfl _ Tryz.ntmps31 (Nat.le_of_ble_eq_true rfl) _ Tryz.results31 0 rfl rfl ?_
  have hlen := hu.len
  repeat' (first | refine walk ?_ | (first | (apply to_call Tryz.func68 rfl rfl; intro hIsFn; refine o_callf hIsFn (u_within ..) ?_; skip)) | ((first | (apply ops_split_t; rfl; rfl; exact nle rfl) | (apply ops_split_f; rfl; rfl; exact nle rfl) | (apply awp_cond; rfl)); all_goals (intro hc; have hp := hc; first | (simp at hp; done) | ((try simp at hp); first | (exfalso; omega) | skip))) | (apply awp_cond_any; rfl))
  all_goals first | (apply fin_int; rfl; simp_all [upErr, upHead]; done) | (apply fin_int; rfl; have h20 : 20 < u.sess.length := (by omega); simp_all [upErr, upHead]; done) | skip
  rename_i h20
  have hw : ∀ s, s ∈ u.sess → s.who.length ≤ 9223372036854775807 := hu.who
  have hn : 1 ≤ u.next ∧ u.next ≤ 1099511627776 := by simp_all [withinB]
  have hnl : ¬ 20 < u.sess.length := by omega
  have hhead : upHead u = true := by simp_all [upHead]
  (refine Awp.red (red_freeze 0 rfl ?_) ?_; (intro row hrow; obtain rfl := List.mem_singleton.1 hrow; rfl); refine Awp.red (red_fp 1 0 rfl rfl (Nat.le_of_ble_eq_true rfl)) ?_)
  (refine Awp.red (red_pure (ts := [(1, .fp [u.row] 0 0), (32, .sl false (u.sess.map Sess.row)), (33, .v (.int .i64 u.sess.length)), (34, .v (.int .i64 ((0 : Nat) : Int)))]) ?_) ?_; ((repeat (first | exact tsok_nil | refine p_pure ?_ | refine p_eq ?_ ?_))))
  all_goals try (rw [List.length_map]; done)
  refine awp_loop (fun n σ => ∃ i : Nat, i ≤ u.sess.length ∧ n = u.sess.length - i ∧ (∀ s, s ∈ u.sess.take i → sessErr u.next s = 0) ∧ σ = ⟨[(1, .fp [u.row] 0 0), (32, .sl false (u.sess.map Sess.row)), (33, .v (.int .i64 u.sess.length)), (34, .v (.int .i64 (i : Int)))], [], C.nh⟩) u.sess.length ⟨0, Nat.zero_le _, rfl, (by simp), rfl⟩ ?_
  rintro n σ ⟨i, hi, rfl, hsofar, rfl⟩
  by_cases hlt : i < u.sess.length
  · have hr := getRow (f := Sess.row) hlt
    have hwi := hw u.sess[i] (List.getElem_mem _)
    repeat' (first | refine walk ?_ | (first | (apply to_call Tryz.func69 rfl rfl; intro hIsFn; refine o_callf hIsFn (a_session _ _ hn.1 hn.2 hwi ..) ?_; skip)) | ((first | (apply ops_split_t; rfl; rfl; exact nle rfl) | (apply ops_split_f; rfl; rfl; exact nle rfl) | (apply awp_cond; rfl)); all_goals (intro hc; have hp := hc; first | (simp at hp; done) | ((try simp at hp); first | (exfalso; omega) | skip))) | (apply awp_cond_any; rfl))
    all_goals try (exfalso; omega)
    · apply fin_int
      rfl
      have he := firstErr_at hlt hsofar hp
      have hz : ¬ firstErr (sessErr u.next) u.sess = 0 := by rw [he]; exact hp
      simp only [upErr, hhead, hnl, hz, if_true, if_false]
      exact he.symm
    · refine ⟨u.sess.length - (i + 1), _, by omega, red_pure (ts := [(1, .fp [u.row] 0 0), (32, .sl false (u.sess.map Sess.row)), (33, .v (.int .i64 u.sess.length)), (34, .v (.int .i64 ((i + 1 : Nat) : Int)))]) ?_, i + 1, by omega, rfl, mem_take_succ hlt hsofar hp, rfl⟩; ((repeat (first | exact tsok_nil | refine p_pure ?_ | refine p_eq ?_ ?_)))
  obtain rfl : i = u.sess.length := by omega
  clear hlt hi
  have hz : firstErr (sessErr u.next) u.sess = 0 := firstErr_zero.2 (fun s hs => hsofar s (by rw [List.take_length]; exact hs))
  clear hsofar
  repeat' (first | refine walk ?_ | fail | ((first | (apply ops_split_t; rfl; rfl; exact nle rfl) | (apply ops_split_f; rfl; rfl; exact nle rfl) | (apply awp_cond; rfl)); all_goals (intro hc; have hp := hc; first | (simp at hp; done) | ((try simp at hp); first | (exfalso; omega) | skip))) | (apply awp_cond_any; rfl))
  all_goals try (exfalso; simp_all; done)
  (refine Awp.red (red_pure (ts := [(1, .fp [u.row] 0 0), (6, .v (.int .i64 ((0 + 1 : Nat) : Int)))]) ?_) ?_; ((repeat (first | exact tsok_nil | refine p_pure ?_ | refine p_eq ?_ ?_))))
  refine awp_loop (fun n σ => ∃ i : Nat, i ≤ (u.sess.drop 1).length ∧ n = (u.sess.drop 1).length - i ∧ (∀ (k : Nat) (h : k + 1 < u.sess.length), k < i → decide ((u.sess[k]'(by omega)).number < u.sess[k + 1].number) = true) ∧ σ = ⟨[(1, .fp [u.row] 0 0), (6, .v (.int .i64 ((i + 1 : Nat) : Int)))], [], C.nh⟩) (u.sess.drop 1).length ⟨0, Nat.zero_le _, rfl, (fun k h hk => absurd hk (Nat.not_lt_zero _)), rfl⟩ ?_
  have hdl : (u.sess.drop 1).length = u.sess.length - 1 := by simp
  rintro n σ ⟨i, hi, rfl, hsofar, rfl⟩
  by_cases hlt : i + 1 < u.sess.length
  · have hr := getRow (f := Sess.row) hlt
    have hr' := getRow (f := Sess.row) (l := u.sess) (i := i) (by omega)
    repeat' (first | refine walk ?_ | fail | ((first | (apply ops_split_t; rfl; rfl; exact nle rfl) | (apply ops_split_f; rfl; rfl; exact nle rfl) | (apply awp_cond; rfl)); all_goals (intro hc; have hp := hc; first | (simp at hp; done) | ((try simp at hp); first | (exfalso; omega) | skip))) | (apply awp_cond_any; rfl))
    all_goals try (exfalso; simp_all; done)
    · have hrf : ¬ rising (fun a b => decide (a.number < b.number)) u.sess = true := fun h => by
        have := rising_iff.1 h i hlt
        simp at this; omega
      apply fin_int
      rfl
      simp [upErr, hhead, hnl, hz, hrf]
    · refine ⟨(u.sess.drop 1).length - (i + 1), _, by omega, red_pure (ts := [(1, .fp [u.row] 0 0), (6, .v (.int .i64 ((i + 1 + 1 : Nat) : Int)))]) ?_, i + 1, by omega, rfl, (fun k h hk => by
        by_cases e : k = i
        · subst e; simp; omega
        · exact hsofar k h (by omega)), rfl⟩; ((repeat (first | exact tsok_nil | refine p_pure ?_ | refine p_eq ?_ ?_)))
  have hrise : rising (fun a b => decide (a.number < b.number)) u.sess = true := rising_iff.2 fun k h => hsofar k h (by simp at hi; omega)
  clear hsofar
  have hsz : ∀ s, s ∈ u.sess → 0 ≤ s.size ∧ s.size ≤ 300 := fun s hs => sessErr_size (firstErr_zero.1 hz s hs)
  have hl : u.sess.length ≤ 1000 := by omega
  repeat' (first | refine walk ?_ | fail | ((first | (apply ops_split_t; rfl; rfl; exact nle rfl) | (apply ops_split_f; rfl; rfl; exact nle rfl) | (apply awp_cond; rfl)); all_goals (intro hc; have hp := hc; first | (simp at hp; done) | ((try simp at hp); first | (exfalso; omega) | skip))) | (apply awp_cond_any; rfl))
  all_goals try (exfalso; omega)
  (refine Awp.red (red_pure (ts := [(1, .fp [u.row] 0 0), (67, .sl false (u.sess.map Sess.row)), (68, .v (.int .i64 u.sess.length)), (69, .v (.int .i64 ((0 : Nat) : Int)))]) ?_) ?_; ((repeat (first | exact tsok_nil | refine p_pure ?_ | refine p_eq ?_ ?_))))
  all_goals try (rw [List.length_map]; done)
  refine awp_loop (fun n σ => ∃ i : Nat, i ≤ u.sess.length ∧ n = u.sess.length - i ∧ (∀ s, s ∈ u.sess.take i → openOf u.sess s.who ≤ u.room) ∧ σ = ⟨[(1, .fp [u.row] 0 0), (67, .sl false (u.sess.map Sess.row)), (68, .v (.int .i64 u.sess.length)), (69, .v (.int .i64 (i : Int)))], [], C.nh⟩) u.sess.length ⟨0, Nat.zero_le _, rfl, (by simp), rfl⟩ ?_
  rintro n σ ⟨i, hi, rfl, hsofar, rfl⟩
  by_cases hlt : i < u.sess.length
  · have hr := getRow (f := Sess.row) hlt
    repeat' (first | refine walk ?_ | (first | (apply to_call Tryz.func70 rfl rfl; intro hIsFn; refine o_callf hIsFn (u_open _ _ hsz hl ..) ?_; skip)) | ((first | (apply ops_split_t; rfl; rfl; exact nle rfl) | (apply ops_split_f; rfl; rfl; exact nle rfl) | (apply awp_cond; rfl)); all_goals (intro hc; have hp := hc; first | (simp at hp; done) | ((try simp at hp); first | (exfalso; omega) | skip))) | (apply awp_cond_any; rfl))
    all_goals try (exfalso; omega)
    · have hrf : ¬ roomy u = true := fun h => by
        have := List.all_eq_true.1 h _ (List.getElem_mem hlt)
        simp at this; omega
      apply fin_int
      rfl
      simp [upErr, hhead, hnl, hz, hrise, hrf]
    · refine ⟨u.sess.length - (i + 1), _, by omega, red_pure (ts := [(1, .fp [u.row] 0 0), (67, .sl false (u.sess.map Sess.row)), (68, .v (.int .i64 u.sess.length)), (69, .v (.int .i64 ((i + 1 : Nat) : Int)))]) ?_, i + 1, by omega, rfl, mem_take_succ hlt hsofar (by omega), rfl⟩; ((repeat (first | exact tsok_nil | refine p_pure ?_ | refine p_eq ?_ ?_)))
  obtain rfl : i = u.sess.length := by omega
  have hroomy : roomy u = true := List.all_eq_true.2 fun s hs => by
    have := hsofar s (by rw [List.take_length]; exact hs)
    simpa using this
  clear hsofar
  repeat' (first | refine walk ?_ | fail | ((first | (apply ops_split_t; rfl; rfl; exact nle rfl) | (apply ops_split_f; rfl; rfl; exact nle rfl) | (apply awp_cond; rfl)); all_goals (intro hc; have hp := hc; first | (simp at hp; done) | ((try simp at hp); first | (exfalso; omega) | skip))) | (apply awp_cond_any; rfl))
  all_goals try (exfalso; omega)
  apply fin_int
  rfl
  simp [upErr, hhead, hnl, hz, hrise, hroomy]
end Go.Proofs.YtiljlcgmcmjcoaaGreatDoor

/- The uploads in the abstract layer, 4: the reference's check; begin; session at a place; the same. -/
set_option maxHeartbeats 1000000
namespace Go.Proofs.YtiljlcgmcmjcoaaGreatDoor
open Go.Ab Go.RowKit
set_option maxRecDepth 10000
attribute [local irreducible] Awp Ops OpsX Wanted Red ExOk Go.Ab.Fin ACall Rz RzL RzRows Enters ResOk RenV RenVL ArgV ArgVL

def beginErr (u : Upl) (now : Int) : Int := if upErr u = 0 then (if withinB now 0 1099511627776 then 0 else 3) else upErr u

def isMine (who : Str) (number : Int) (s : Sess) : Bool := decide (s.who = who) && decide (s.number = number)

end Go.Proofs.YtiljlcgmcmjcoaaGreatDoor

/- The uploads in the abstract layer, 5: SweepOf. -/
set_option linter.unusedSimpArgs false
set_option maxHeartbeats 1000000
namespace Go.Proofs.YtiljlcgmcmjcoaaGreatDoor
open Go.Ab Go.RowKit
set_option maxRecDepth 10000
attribute [local irreducible] Awp Ops OpsX Wanted Red ExOk Go.Ab.Fin ACall Rz RzL RzRows Enters ResOk RenV RenVL ArgV ArgVL

def keeps (now : Int) (s : Sess) : Bool := decide (now ≤ s.till)
def sweptL (l : List Sess) (now : Int) : List Sess := l.filter (keeps now)
def sweptU (u : Upl) (now : Int) : Upl := { u with sess := sweptL u.sess now }

end Go.Proofs.YtiljlcgmcmjcoaaGreatDoor

/- The uploads in the abstract layer, 6: OpenUpload. -/
set_option linter.unusedSimpArgs false
set_option maxHeartbeats 1000000
namespace Go.Proofs.YtiljlcgmcmjcoaaGreatDoor
open Go.Ab Go.RowKit
set_option maxRecDepth 10000
attribute [local irreducible] Awp Ops OpsX Wanted Red ExOk Go.Ab.Fin ACall Rz RzL RzRows Enters ResOk RenV RenVL ArgV ArgVL

def noUp : Upl := ⟨[], 0, 0, 0⟩
def openErr (u : Upl) (who : Str) (size now : Int) : Int :=
  if beginErr u now = 0 then
    if isName who then
      if size < 0 ∨ 300 < size ∨ u.next = 1099511627776 then 3
      else if (sweptL u.sess now).length = 20 then 2
      else if u.room < openOf (sweptL u.sess now) who + size then 10 else 0
    else 1
  else beginErr u now
def openU (u : Upl) (who : Str) (size now : Int) : Upl := { u with sess := sweptL u.sess now ++ [⟨u.next, who, [], size, now + u.lasts⟩], next := u.next + 1 }
def tupUp (u : Upl) (n e : Int) : AV := .tup [uplAV u, .v (.int .i64 n), .v (.int .i64 e)]
def openAV (u : Upl) (who : Str) (size now : Int) : AV := if openErr u who size now = 0 then tupUp (openU u who size now) u.next 0 else tupUp noUp 0 (openErr u who size now)
theorem openAV_err {u : Upl} {who : Str} {size now e : Int} (h : openErr u who size now = e) (h0 : e ≠ 0) : openAV u who size now = tupUp noUp 0 e := by unfold openAV; rw [h, if_neg h0]
theorem openAV_ok {u : Upl} {who : Str} {size now : Int} (h : openErr u who size now = 0) : openAV u who size now = tupUp (openU u who size now) u.next 0 := by unfold openAV; rw [if_pos h]

theorem upErr_zero {u : Upl} (h : upErr u = 0) : upHead u = true ∧ u.sess.length ≤ 20 ∧ (∀ s, s ∈ u.sess → sessErr u.next s = 0) ∧ rising (fun a b => decide (a.number < b.number)) u.sess = true ∧ roomy u = true := by
  unfold upErr at h
  split at h
  · rename_i h1
    split at h
    · cases h
    · rename_i h2
      split at h
      · rename_i h3
        split at h
        · rename_i h4
          split at h
          · rename_i h5
            exact ⟨h1, by omega, firstErr_zero.1 h3, h4, h5⟩
          · cases h
        · cases h
      · rename_i h3; exact absurd h h3
  · cases h
theorem begin_zero {u : Upl} {now : Int} (h : beginErr u now = 0) : upErr u = 0 ∧ 0 ≤ now ∧ now ≤ 1099511627776 := by
  unfold beginErr at h
  split at h
  · rename_i h1
    split at h
    · rename_i h2; simp [withinB] at h2; exact ⟨h1, h2⟩
    · cases h
  · rename_i h1; exact absurd h h1
theorem sweptL_mem {l : List Sess} {now : Int} {s : Sess} (h : s ∈ sweptL l now) : s ∈ l := (List.mem_filter.1 h).1
theorem sweptL_len (l : List Sess) (now : Int) : (sweptL l now).length ≤ l.length := List.length_filter_le _ _
structure UOk (u : Upl) (now : Int) : Prop where
  now0 : 0 ≤ now
  now1 : now ≤ 1099511627776
  l0 : 1 ≤ u.lasts
  l1 : u.lasts ≤ 1000000
  r0 : 0 ≤ u.room
  r1 : u.room ≤ 100000
  n0 : 1 ≤ u.next
  n1 : u.next ≤ 1099511627776
  len : u.sess.length ≤ 20
  sz : ∀ s, s ∈ u.sess → 0 ≤ s.size ∧ s.size ≤ 300
theorem uok {u : Upl} {now : Int} (h : beginErr u now = 0) : UOk u now := by
  obtain ⟨h1, h2, h3⟩ := begin_zero h
  obtain ⟨h4, h5, h6, _, _⟩ := upErr_zero h1
  simp [upHead, withinB] at h4
  exact ⟨h2, h3, h4.1.1.1, h4.1.1.2, h4.1.2.1, h4.1.2.2, h4.2.1, h4.2.2, h5, fun s hs => sessErr_size (h6 s hs)⟩

end Go.Proofs.YtiljlcgmcmjcoaaGreatDoor

/- The uploads in the abstract layer, 7: SameUploads. -/
set_option linter.unusedSimpArgs false
set_option maxHeartbeats 1000000
namespace Go.Proofs.YtiljlcgmcmjcoaaGreatDoor
open Go.Ab Go.RowKit
set_option maxRecDepth 10000
attribute [local irreducible] Awp Ops OpsX Wanted Red ExOk Go.Ab.Fin ACall Rz RzL RzRows Enters ResOk RenV RenVL ArgV ArgVL

end Go.Proofs.YtiljlcgmcmjcoaaGreatDoor

/- slices.Clone, IndexFunc over sessions, in the abstract layer. -/
set_option linter.unusedSimpArgs false
set_option maxHeartbeats 1000000
namespace Go.Proofs.YtiljlcgmcmjcoaaGreatDoor
open Go.Ab Go.RowKit
set_option maxRecDepth 10000
attribute [local irreducible] Awp Ops OpsX Wanted Red ExOk Go.Ab.Fin ACall Rz RzL RzRows Enters ResOk RenV RenVL ArgV ArgVL

theorem a_cloneS (l : List Sess) (hl : l.length ≤ 1000000) :
    ACall C.P 80 [.sl false (l.map Sess.row)] [] (.os 0 0 l.length) [.own false 5 (l.map Sess.row)] := by
  by_cases h0 : l = []
  · subst h0
    refine acall_intro Tryz.func80 rfl _ Tryz.ntmps80 (Nat.le_of_ble_eq_true rfl) _ Tryz.results80 0 rfl rfl ?_
    repeat' (first | refine walk ?_ | (first | (refine o_fzl ?_) | (refine o_appn ?_) | (refine o_isnil ?_)) | ((first | (apply awp_cond; rfl)); all_goals (intro hc; have hp := hc; first | (simp at hp; done) | ((try simp at hp); first | (exfalso; omega) | skip))) | (apply awp_cond_any; rfl))
    · (refine fin_red (C := C) (red_nil (C := C) 2 5 rfl (Nat.zero_le _)) ?_)
      (apply fin_ownr (rs := [.tmp 2]) [(0, 0)] 1; (case hr => (repeat (first | exact resok_nil | (apply resok_tmp; rfl) | (apply resok_cell; rfl; rfl; rfl; rfl; rfl)))); (case hL => rfl); (case hh => (repeat (first | exact hsok_nil | refine q_id ?_ | refine q_idx ?_ ?_)); all_goals skip); (case hi => first | exact (rfl : _ = ([] : List (Nat × Nat))) | exact (rfl : _ = [((0 : Nat), (0 : Nat))]) | exact (rfl : _ = [((0 : Nat), (0 : Nat)), (1, 1)])); (case hz => first | rfl | (simp [pack, AV.ren, AV.ren.renL, lookN, getT, enumT]; done) | (simp [pack, AV.ren, AV.ren.renL, lookN, getT, enumT, *]; done) | skip))
    · (apply fin_ownr (rs := [.tmp 2]) [(0, 0)] 1; (case hr => (repeat (first | exact resok_nil | (apply resok_tmp; rfl) | (apply resok_cell; rfl; rfl; rfl; rfl; rfl)))); (case hL => rfl); (case hh => (repeat (first | exact hsok_nil | refine q_id ?_ | refine q_idx ?_ ?_)); all_goals skip); (case hi => first | exact (rfl : _ = ([] : List (Nat × Nat))) | exact (rfl : _ = [((0 : Nat), (0 : Nat))]) | exact (rfl : _ = [((0 : Nat), (0 : Nat)), (1, 1)])); (case hz => first | rfl | (simp [pack, AV.ren, AV.ren.renL, lookN, getT, enumT]; done) | (simp [pack, AV.ren, AV.ren.renL, lookN, getT, enumT, *]; done) | skip))
  · refine acall_intro Tryz.func80 rfl _ Tryz.ntmps80 (Nat.le_of_ble_eq_true rfl) _ Tryz.results80 0 rfl rfl ?_
    repeat' (first | refine walk ?_ | (first | (refine o_fzl ?_) | (refine o_appn ?_) | (apply opsx_val; apply ex_notnil; rfl; exact (fun h => h0 (List.map_eq_nil_iff.1 h)); rfl; rfl; (first | exact .inl rfl | exact .inr rfl); exact nle rfl)) | ((first | (apply awp_cond; rfl)); all_goals (intro hc; have hp := hc; first | (simp at hp; done) | ((try simp at hp); first | (exfalso; omega) | skip))) | (apply awp_cond_any; rfl))
    (apply fin_ownr (rs := [.tmp 2]) [(0, 0)] 1; (case hr => (repeat (first | exact resok_nil | (apply resok_tmp; rfl) | (apply resok_cell; rfl; rfl; rfl; rfl; rfl)))); (case hL => rfl); (case hh => (repeat (first | exact hsok_nil | refine q_id ?_ | refine q_idx ?_ ?_)); all_goals skip); (case hi => first | exact (rfl : _ = ([] : List (Nat × Nat))) | exact (rfl : _ = [((0 : Nat), (0 : Nat))]) | exact (rfl : _ = [((0 : Nat), (0 : Nat)), (1, 1)])); (case hz => first | rfl | (simp [pack, AV.ren, AV.ren.renL, lookN, getT, enumT]; done) | (simp [pack, AV.ren, AV.ren.renL, lookN, getT, enumT, *]; done) | skip))

theorem a_indexFS (p : Sess → Bool) (g : FuncId) (hg : IsFn C.P g) (cap : List AV) (hcap : AV.pure.pureL cap = true) (l : List Sess) (hl : l.length ≤ 1000000) (hc : ∀ s, s ∈ l → AFn C.P g (.agg s.row :: cap) (.v (.bool (p s)))) :
    AFn C.P 155 [.sl false (l.map Sess.row), .clo (.func g) [] cap] (.v (.int .i64 (idxOf p l))) := by
  refine acall_intro Tryz.func155 rfl _ Tryz.ntmps155 (Nat.le_of_ble_eq_true rfl) _ Tryz.results155 0 rfl rfl ?_
  repeat' (first | refine walk ?_ | fail | ((first | (apply awp_cond; rfl)); all_goals (intro hc; have hp := hc; first | (simp at hp; done) | ((try simp at hp); first | (exfalso; omega) | skip))) | (apply awp_cond_any; rfl))
  (refine Awp.red (red_pure (ts := [(0, .sl false (l.map Sess.row)), (1, .clo (.func g) [] cap), (7, .v (.int .i64 l.length)), (8, .v (.int .i64 ((0 : Nat) : Int)))]) ?_) ?_; ((repeat (first | exact tsok_nil | refine p_pure ?_ | refine p_eq ?_ ?_))))
  all_goals try (rw [List.length_map]; done)
  refine awp_loop (fun n σ => ∃ i : Nat, i ≤ l.length ∧ n = l.length - i ∧ (∀ s, s ∈ l.take i → p s = false) ∧ σ = ⟨[(0, .sl false (l.map Sess.row)), (1, .clo (.func g) [] cap), (7, .v (.int .i64 l.length)), (8, .v (.int .i64 (i : Int)))], [], C.nh⟩) l.length ⟨0, Nat.zero_le _, rfl, (by simp), rfl⟩ ?_
  rintro n σ ⟨i, hi, rfl, hsofar, rfl⟩
  by_cases hlt : i < l.length
  · have hr := getRow (f := Sess.row) hlt
    have hci := hc l[i] (List.getElem_mem _)
    repeat' (first | refine walk ?_ | (first | (apply opsx_val; apply ex_callv []; rfl; exact hg; exact hci; (case hz => exact rzl_cons (rz_pure rfl) (rzl_self hcap)); (case hfl => rfl); (case hN => exact nle rfl))) | ((first | (apply awp_cond; rfl)); all_goals (intro hc; have hp := hc; first | (simp at hp; done) | ((try simp at hp); first | (exfalso; omega) | skip))) | (apply awp_cond_any; rfl))
    all_goals try (exfalso; omega)
    · apply fin_int
      rfl
      exact (idxOf_at hlt hsofar hp).symm
    · refine ⟨l.length - (i + 1), _, by omega, red_pure (ts := [(0, .sl false (l.map Sess.row)), (1, .clo (.func g) [] cap), (7, .v (.int .i64 l.length)), (8, .v (.int .i64 ((i + 1 : Nat) : Int)))]) ?_, i + 1, by omega, rfl, mem_take_succ hlt hsofar hp, rfl⟩; ((repeat (first | exact tsok_nil | refine p_pure ?_ | refine p_eq ?_ ?_)))
  obtain rfl : i = l.length := by omega
  repeat' (first | refine walk ?_ | fail | ((first | (apply awp_cond; rfl)); all_goals (intro hc; have hp := hc; first | (simp at hp; done) | ((try simp at hp); first | (exfalso; omega) | skip))) | (apply awp_cond_any; rfl))
  all_goals try (exfalso; omega)
  apply fin_int
  rfl
  exact (idxOf_none fun s hs => hsofar s (by rw [List.take_length]; exact hs)).symm
end Go.Proofs.YtiljlcgmcmjcoaaGreatDoor
