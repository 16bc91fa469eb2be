/- Uploads: within, open, session, and the reference's twins: what each answers. -/
import Derived.Test.YtdcigjpanpcaaaaOwn
import Derived.Test.YtdcigjpanpcaaaaName
import Derived.Test.YtdcigjpanpcaaaaNameR
import Derived.BigQuiet
import Derived.Deep.RegionHeld3
import Derived.Deep.Light
import Derived.Deep.QuietTactic
namespace Go.Proofs.Ytdcigjpanpcaaaa
open Go.RowKit

def withinB (n a b : Int) : Bool := decide (a ≤ n) && decide (n ≤ b)
theorem within_true {n a b : Int} (h : withinB n a b = true) : a ≤ n ∧ n ≤ b := by simpa [withinB] using h
theorem within_mk {n a b : Int} (h1 : a ≤ n) (h2 : n ≤ b) : withinB n a b = true := by simp [withinB, h1, h2]

set_option maxHeartbeats 400000 in
theorem within_any (n a b : Int) (w : World) :
    Calls Try.prog 47 #[.int .i64 n, .int .i64 a, .int .i64 b] w fun e w' => e = .returned (.bool (withinB n a b)) ∧ w = w' := by
  go_enter Try.func47, Try.ntmps47
  go_wp2
  all_goals
    go_ret
    exact ⟨ret_bool (by simp [withinB, *]; try omega), rfl⟩

set_option maxHeartbeats 400000 in
theorem withinR_any (n a b : Int) (w : World) :
    Calls Try.prog 52 #[.int .i64 n, .int .i64 a, .int .i64 b] w fun e w' => e = .returned (.bool (withinB n a b)) ∧ w = w' := by
  go_enter Try.func52, Try.ntmps52
  go_wp2
  all_goals
    go_ret
    exact ⟨ret_bool (by simp [withinB, *]; try omega), rfl⟩

def openOf (l : List Sess) (who : Str) : Int := l.foldl (fun n s => if s.who == who then wrap64 (n + s.size) else n) 0
theorem openOf_succ (l : List Sess) (who : Str) (k : Nat) (h : k < l.length) : openOf (l.take (k + 1)) who = if l[k].who == who then wrap64 (openOf (l.take k) who + l[k].size) else openOf (l.take k) who := by
  rw [take_succ' h]; unfold openOf; rw [List.foldl_append]; rfl

set_option maxHeartbeats 400000 in
theorem open_any (v : Value) (l : List Sess) (who : Str) (w : World) (B : Nat) (hs : Sl Sess.cells 5 w B v l) (hB : B ≤ w.heap.size) :
    Calls Try.prog 48 #[v, .string ⟨who.toArray⟩] w fun e w' => e = .returned (.int .i64 (openOf l who)) ∧ Below w.heap.size w w' := by
  obtain ⟨A, cap, rfl, hl, _, _⟩ := hs.form
  replace hs := hs.more hB
  go_enter Try.func48, Try.ntmps48
  go_wp2
  go_loopw [5, 7, 10] (fun n _ i wr => ∃ k : Nat, k ≤ l.length ∧ i = .int .i64 k ∧ n = .int .i64 (openOf (l.take k) who) ∧ Below w.heap.size w wr) (fun _ _ i _ => l.length - (intOf i).toNat)
  case atStart => exact ⟨0, Nat.zero_le _, rfl, rfl, Below.refl _ _⟩
  case round =>
    obtain ⟨k, hk, rfl, rfl, hb⟩ := hrel
    by_cases hlt : k < l.length
    · obtain ⟨b, off, rfl, hB, c0, c1, c2, c3, c4⟩ := (hs.below hb).sess hlt
      have hsucc := Lib.hid (openOf_succ l who k hlt)
      go_wp2
      all_goals
        go_roundw
        case rel => exact ⟨k + 1, by omega, by go_num, by rw [hsucc.out]; simp [*], hb.alloc hb.size _⟩
        case measure => simp [intOf]; omega
    · go_wp2
      go_ret
      obtain rfl : k = l.length := by omega
      exact ⟨by simp, hb⟩

set_option maxHeartbeats 400000 in
theorem openR_any (v : Value) (l : List Sess) (who : Str) (w : World) (B : Nat) (hs : Sl Sess.cells 5 w B v l) :
    Calls Try.prog 49 #[v, .string ⟨who.toArray⟩] w fun e w' => e = .returned (.int .i64 (openOf l who)) ∧ w = w' := by
  obtain ⟨A, cap, rfl, hl, _, _⟩ := hs.form
  go_enter Try.func49, Try.ntmps49
  go_wp2
  go_loop [5, 6] (fun n i => ∃ k : Nat, k ≤ l.length ∧ i = .int .i64 k ∧ n = .int .i64 (openOf (l.take k) who)) (fun _ i => l.length - (intOf i).toNat)
  case atStart => exact ⟨0, Nat.zero_le _, rfl, rfl⟩
  case round =>
    obtain ⟨k, hk, rfl, rfl⟩ := hrel
    by_cases hlt : k < l.length
    · obtain ⟨b, off, rfl, hB, c0, c1, c2, c3, c4⟩ := hs.sess hlt
      have hsucc := Lib.hid (openOf_succ l who k hlt)
      go_wp2
      all_goals
        go_round
        case rel => exact ⟨k + 1, by omega, by go_num, by rw [hsucc.out]; simp [*]⟩
        case measure => simp [intOf]; omega
    · go_wp2
      go_ret
      obtain rfl : k = l.length := by omega
      exact ⟨by simp, rfl⟩

def sessErr (next : Int) (s : Sess) : Int :=
  if withinB s.number 1 (next - 1) && withinB s.size 0 300 && withinB s.till 0 2199023255552 then
    if isName s.who then if s.size < s.text.length then 2 else 0 else 1
  else 3

set_option maxHeartbeats 400000 in
theorem session_any (v : Value) (next lasts room : Int) (s : Sess) (w : World) (h1 : 1 ≤ next) (h2 : next ≤ 1099511627776) (ho : s.ok) :
    Calls Try.prog 51 #[.agg #[v, .int .i64 next, .int .i64 lasts, .int .i64 room], .agg #[.int .i64 s.number, .string ⟨s.who.toArray⟩, .string ⟨s.text.toArray⟩, .int .i64 s.size, .int .i64 s.till]] w
      fun e w' => e = .returned (.int .i64 (sessErr next s)) ∧ Below w.heap.size w w' := by
  obtain ⟨ho1, ho2⟩ := ho
  go_enter Try.func51, Try.ntmps51
  go_wp2_with (first
    | (go_at_call 47; refine (within_any _ _ _ _).mono ?_; rintro e w' ⟨rfl, rfl⟩)
    | (go_at_call 46; refine (isName_any _ _ ho1).mono ?_; rintro e w' ⟨rfl, rfl⟩))
  all_goals
    go_ret
    refine ⟨ret_int ?_, (by repeat (first | exact Below.refl _ _ | assumption | refine Below.alloc ?_ (by simp; try omega) _ | refine Below.setCell ?_ (by simp; try omega) _ | refine Below.drew ?_))⟩
    go_light
    simp_all [sessErr]
    try omega
end Go.Proofs.Ytdcigjpanpcaaaa
