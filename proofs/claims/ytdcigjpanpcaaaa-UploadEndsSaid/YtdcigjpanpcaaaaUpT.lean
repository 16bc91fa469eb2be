/- SameUploads of uploads that read alike: true. -/
import Derived.Test.YtdcigjpanpcaaaaUpR
import Derived.Test.YtdcigjpanpcaaaaUpS
namespace Go.Proofs.Ytdcigjpanpcaaaa
open Go.RowKit

set_option maxRecDepth 100000 in
set_option maxHeartbeats 4000000 in
theorem same_any (v v' : Value) (l : List Sess) (next lasts room : Int) (w : World) (B : Nat) (hs : Sl Sess.cells 5 w B v l) (hs' : Sl Sess.cells 5 w B v' l) (hB : B ≤ w.heap.size) :
    Calls Try.prog 17 #[.agg #[v, .int .i64 next, .int .i64 lasts, .int .i64 room], .agg #[v', .int .i64 next, .int .i64 lasts, .int .i64 room]] w fun e w' => e = .returned (.bool true) ∧ Below w.heap.size w w' := by
  obtain ⟨A, cap, rfl, hl, hcap, hcap2⟩ := hs.form
  obtain ⟨A', cap', rfl, _, hcap', hcap2'⟩ := hs'.form
  replace hs := hs.more hB
  replace hs' := hs'.more hB
  go_enter Try.func17, Try.ntmps17
  go_wp2
  obtain ⟨W, hW⟩ : ∃ W, W = (w.alloc (.cells #[.slice A l.length cap, .int .i64 next, .int .i64 lasts, .int .i64 room] 24)).alloc (.cells #[.slice A' l.length cap', .int .i64 next, .int .i64 lasts, .int .i64 room] 24) := ⟨_, rfl⟩
  rw [← hW]
  have hWs : W.heap.size = w.heap.size + 2 := by rw [hW]; simp
  have hWB : Below w.heap.size w W := by rw [hW]; exact (by repeat (first | with_reducible exact Below.refl _ _ | with_reducible assumption | (with_reducible refine Below.alloc ?_ ?h _; case h => (first | omega | (simp <;> omega))) | (with_reducible refine Below.setCell ?_ ?h _; case h => (first | omega | (simp <;> omega))) | with_reducible refine Below.drew ?_ | with_reducible refine below_dn ?_ _))
  have e0 : W.cell? ⟨w.heap.size, 0, none⟩ = some (.slice A l.length cap) := by rw [hW]; simp [go_sem]
  have q0 : W.cell? ⟨w.heap.size + 1, 0, none⟩ = some (.slice A' l.length cap') := by rw [hW]; simp [go_sem]
  clear hW
  go_loopw [5] (fun i wr => ∃ k : Nat, k ≤ l.length ∧ i = .int .i64 k ∧ Below W.heap.size W wr) (fun i _ => l.length - (intOf i).toNat)
  case atStart => exact ⟨0, Nat.zero_le _, rfl, Below.refl _ _⟩
  case round =>
    obtain ⟨k, hk, rfl, hb⟩ := hrel
    have e0 := bcs hb (by omega) e0
    have q0 := bcs hb (by omega) q0
    have hbw : Below w.heap.size w wr := hWB.trans (hb.mono (by omega))
    by_cases hlt : k < l.length
    · obtain ⟨b, off, rfl, hBb, c0, c1, c2, c3, c4⟩ := (hs.below hbw).sess hlt
      obtain ⟨b', off', rfl, hBb', d0, d1, d2, d3, d4⟩ := (hs'.below hbw).sess hlt
      have i1 : (k : Int) < (l.length : Int) := by omega
      have i0 : (0 : Int) ≤ (k : Int) := by omega
      go_wp2_with fail
      go_quiet (fail)
      go_wp2_with fail
      go_roundw
      case rel => exact ⟨k + 1, by omega, by go_num, below_dn hb _⟩
      case measure => simp [intOf]; omega
    · go_wp2
      go_ret
      exact ⟨rfl, hbw⟩
end Go.Proofs.Ytdcigjpanpcaaaa
