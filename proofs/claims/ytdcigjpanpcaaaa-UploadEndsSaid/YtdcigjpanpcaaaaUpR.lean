/- Uploads, the reference: BeginUpload, SweepOf, SessionAt. -/
import Derived.Test.YtdcigjpanpcaaaaUpN
namespace Go.Proofs.Ytdcigjpanpcaaaa
open Go.RowKit

set_option maxRecDepth 100000 in
set_option maxHeartbeats 1000000 in
theorem beginR_any (v : Value) (u : Upl) (now : Int) (w : World) (B : Nat) (hs : Sl Sess.cells 5 w B v u.sess) (hB : B ≤ w.heap.size) (ho : ∀ s ∈ u.sess, s.ok) :
    Calls Try.prog 21 #[.agg #[v, .int .i64 u.next, .int .i64 u.lasts, .int .i64 u.room], .int .i64 now] w fun e w' => e = .returned (.int .i64 (beginErr u now)) ∧ Below w.heap.size w w' := by
  have hs1 := hs.more hB
  have hM := Lib.hid (fun (v : Value) (W : World) (h1 : Sl Sess.cells 5 W w.heap.size v u.sess) (h2 : w.heap.size ≤ W.heap.size) => checkR_any v u W w.heap.size h1 h2 ho)
  by_cases h0 : upErr u = 0
  · by_cases h1 : 0 ≤ now ∧ now ≤ 1099511627776
    · have HE : Hid (beginErr u now = 0) := by show beginErr u now = 0; rw [beginErr, if_pos h0, if_pos (within_mk h1.1 h1.2)]
      obtain ⟨g1, g2⟩ := h1
      go_enter Try.func21, Try.ntmps21
      go_wp2_with (
        go_at_call 24
        refine (hM.out _ _ (hs1.below (by repeat (first | with_reducible exact Below.refl _ _ | with_reducible assumption | (with_reducible refine Below.alloc ?_ ?h _; case h => (first | omega | (simp <;> omega))) | (with_reducible refine Below.setCell ?_ ?h _; case h => (first | omega | (simp <;> omega))) | with_reducible refine Below.drew ?_ | with_reducible refine below_dn ?_ _))) (by simp only [als]; omega)).mono ?_
        rintro e w1 ⟨rfl, hb1⟩
        have hx : Below w.heap.size w w1 := Below.trans (by repeat (first | with_reducible exact Below.refl _ _ | with_reducible assumption | (with_reducible refine Below.alloc ?_ ?h _; case h => (first | omega | (simp <;> omega))) | (with_reducible refine Below.setCell ?_ ?h _; case h => (first | omega | (simp <;> omega))) | with_reducible refine Below.drew ?_ | with_reducible refine below_dn ?_ _)) (hb1.mono (by simp only [als]; omega)))
      go_ret
      exact ⟨ret_int HE.out.symm, hx⟩
    · have HE : Hid (beginErr u now = 3) := by
        show beginErr u now = 3
        rw [beginErr, if_pos h0, if_neg]
        intro h; exact h1 (within_true h)
      by_cases g1 : now < 0
      · clear h1
        go_enter Try.func21, Try.ntmps21
        go_wp2_with (
          go_at_call 24
          refine (hM.out _ _ (hs1.below (by repeat (first | with_reducible exact Below.refl _ _ | with_reducible assumption | (with_reducible refine Below.alloc ?_ ?h _; case h => (first | omega | (simp <;> omega))) | (with_reducible refine Below.setCell ?_ ?h _; case h => (first | omega | (simp <;> omega))) | with_reducible refine Below.drew ?_ | with_reducible refine below_dn ?_ _))) (by simp only [als]; omega)).mono ?_
          rintro e w1 ⟨rfl, hb1⟩
          have hx : Below w.heap.size w w1 := Below.trans (by repeat (first | with_reducible exact Below.refl _ _ | with_reducible assumption | (with_reducible refine Below.alloc ?_ ?h _; case h => (first | omega | (simp <;> omega))) | (with_reducible refine Below.setCell ?_ ?h _; case h => (first | omega | (simp <;> omega))) | with_reducible refine Below.drew ?_ | with_reducible refine below_dn ?_ _)) (hb1.mono (by simp only [als]; omega)))
        go_ret
        exact ⟨ret_int HE.out.symm, hx⟩
      · have g2 : 1099511627776 < now := by omega
        clear h1
        go_enter Try.func21, Try.ntmps21
        go_wp2_with (
          go_at_call 24
          refine (hM.out _ _ (hs1.below (by repeat (first | with_reducible exact Below.refl _ _ | with_reducible assumption | (with_reducible refine Below.alloc ?_ ?h _; case h => (first | omega | (simp <;> omega))) | (with_reducible refine Below.setCell ?_ ?h _; case h => (first | omega | (simp <;> omega))) | with_reducible refine Below.drew ?_ | with_reducible refine below_dn ?_ _))) (by simp only [als]; omega)).mono ?_
          rintro e w1 ⟨rfl, hb1⟩
          have hx : Below w.heap.size w w1 := Below.trans (by repeat (first | with_reducible exact Below.refl _ _ | with_reducible assumption | (with_reducible refine Below.alloc ?_ ?h _; case h => (first | omega | (simp <;> omega))) | (with_reducible refine Below.setCell ?_ ?h _; case h => (first | omega | (simp <;> omega))) | with_reducible refine Below.drew ?_ | with_reducible refine below_dn ?_ _)) (hb1.mono (by simp only [als]; omega)))
        go_ret
        exact ⟨ret_int HE.out.symm, hx⟩
  · have HE : Hid (beginErr u now = upErr u) := by show beginErr u now = upErr u; rw [beginErr, if_neg h0]
    have h0' : (upErr u == 0) = false := by simpa using h0
    clear h0
    go_enter Try.func21, Try.ntmps21
    go_wp2_with (
      go_at_call 24
      refine (hM.out _ _ (hs1.below (by repeat (first | with_reducible exact Below.refl _ _ | with_reducible assumption | (with_reducible refine Below.alloc ?_ ?h _; case h => (first | omega | (simp <;> omega))) | (with_reducible refine Below.setCell ?_ ?h _; case h => (first | omega | (simp <;> omega))) | with_reducible refine Below.drew ?_ | with_reducible refine below_dn ?_ _))) (by simp only [als]; omega)).mono ?_
      rintro e w1 ⟨rfl, hb1⟩
      have hx : Below w.heap.size w w1 := Below.trans (by repeat (first | with_reducible exact Below.refl _ _ | with_reducible assumption | (with_reducible refine Below.alloc ?_ ?h _; case h => (first | omega | (simp <;> omega))) | (with_reducible refine Below.setCell ?_ ?h _; case h => (first | omega | (simp <;> omega))) | with_reducible refine Below.drew ?_ | with_reducible refine below_dn ?_ _)) (hb1.mono (by simp only [als]; omega)))
    go_ret
    exact ⟨ret_int HE.out.symm, hx⟩

set_option maxRecDepth 100000 in
set_option maxHeartbeats 1000000 in
theorem sessionAt_any (v : Value) (l : List Sess) (next lasts room : Int) (who : Str) (number : Int) (w : World) (B : Nat) (hs : Sl Sess.cells 5 w B v l) (hB : B ≤ w.heap.size) :
    Calls Try.prog 31 #[.agg #[v, .int .i64 next, .int .i64 lasts, .int .i64 room], .string ⟨who.toArray⟩, .int .i64 number] w fun e w' => e = .returned (.int .i64 ((l.findIdx? (isMine number who)).elim (-1) (fun i => (i : Int)))) ∧ Below w.heap.size w w' := by
  obtain ⟨A, cap, rfl, hl, hcap, hcap2⟩ := hs.form
  replace hs := hs.more hB
  go_enter Try.func31, Try.ntmps31
  go_wp2
  have hs1 := hs.below ((Below.refl w.heap.size w).alloc (Nat.le_refl _) (.cells #[.slice A l.length cap, .int .i64 next, .int .i64 lasts, .int .i64 room] 24))
  go_loop [7] (fun i => ∃ k : Nat, k ≤ l.length ∧ i = .int .i64 k ∧ (l.take k).all (fun s => !isMine number who s) = true) (fun i => l.length - (intOf i).toNat)
  case atStart => exact ⟨0, Nat.zero_le _, rfl, rfl⟩
  case round =>
    obtain ⟨k, hk, rfl, ha⟩ := hrel
    have HA := Lib.hid ha
    clear ha
    by_cases hlt : k < l.length
    · obtain ⟨b, off, rfl, hB, c0, c1, c2, c3, c4⟩ := hs1.sess hlt
      have hbne : b ≠ w.heap.size := by omega
      cases e1 : (l[k].who == who) with
      | true =>
        cases e2 : (l[k].number == number) with
        | true =>
          have HF : Hid (l.findIdx? (isMine number who) = some k) := findIdx_hit hlt HA.out (by simp [isMine, e1, e2])
          go_wp2
          go_ret
          exact ⟨ret_int (by rw [HF.out]; rfl), (by repeat (first | with_reducible exact Below.refl _ _ | with_reducible assumption | (with_reducible refine Below.alloc ?_ ?h _; case h => (first | omega | (simp <;> omega))) | (with_reducible refine Below.setCell ?_ ?h _; case h => (first | omega | (simp <;> omega))) | with_reducible refine Below.drew ?_ | with_reducible refine below_dn ?_ _))⟩
        | false =>
          have HS := Lib.hid (all_succ (p := fun s => !isMine number who s) hlt HA.out (by simp [isMine, e2]))
          go_wp2
          go_round
          case rel => exact ⟨k + 1, by omega, by go_num, HS.out⟩
          case measure => simp [intOf]; omega
      | false =>
        have HS := Lib.hid (all_succ (p := fun s => !isMine number who s) hlt HA.out (by simp [isMine, e1]))
        go_wp2
        go_round
        case rel => exact ⟨k + 1, by omega, by go_num, HS.out⟩
        case measure => simp [intOf]; omega
    · have HF : Hid (l.findIdx? (isMine number who) = none) := findIdx_miss hlt HA.out
      go_wp2
      go_ret
      exact ⟨ret_int (by rw [HF.out]; rfl), (by repeat (first | with_reducible exact Below.refl _ _ | with_reducible assumption | (with_reducible refine Below.alloc ?_ ?h _; case h => (first | omega | (simp <;> omega))) | (with_reducible refine Below.setCell ?_ ?h _; case h => (first | omega | (simp <;> omega))) | with_reducible refine Below.drew ?_ | with_reducible refine below_dn ?_ _))⟩
end Go.Proofs.Ytdcigjpanpcaaaa
