/- Uploads: swept, begin, Sweep, mine. -/
import Derived.Test.YtdcigjpanpcaaaaUpC
import Derived.Test.YtdcigjpanpcaaaaUpE
import Derived.Test.YtdcigjpanpcaaaaBox
namespace Go.Proofs.Ytdcigjpanpcaaaa
open Go.RowKit

abbrev sweptL (l : List Sess) (now : Int) : List Sess := l.filter (stays now)

set_option maxRecDepth 100000 in
set_option maxHeartbeats 1000000 in
theorem swept_any (v : Value) (l : List Sess) (next lasts room now : Int) (w : World) (B : Nat) (hs : Sl Sess.cells 5 w B v l) (hB : B ≤ w.heap.size) (hl : l.length ≤ 1000000) :
    Calls Try.prog 65 #[.agg #[v, .int .i64 next, .int .i64 lasts, .int .i64 room], .int .i64 now] w fun e w' => ∃ v', e = .returned (.agg #[v', .int .i64 next, .int .i64 lasts, .int .i64 room]) ∧ Own Sess.cells 44 5 w' w.heap.size v' (sweptL l now) ∧ Below w.heap.size w w' := by
  go_enter Try.func65, Try.ntmps65
  have hs1 := hs.more hB
  go_wp2_with (first
    | (go_at_call 80; go_must (refine (cloneS_any _ l _ w.heap.size (hs1.below (by repeat (first | with_reducible exact Below.refl _ _ | with_reducible assumption | (with_reducible refine Below.alloc ?_ ?h _; case h => (first | omega | (simp <;> omega))) | (with_reducible refine Below.setCell ?_ ?h _; case h => (first | omega | (simp <;> omega))) | with_reducible refine Below.drew ?_ | with_reducible refine below_dn ?_ _))) (by simp only [als]; omega) hl).mono ?_; rintro e w1 ⟨v1, rfl, ho1, hb1⟩; obtain ⟨k1, f1, z1⟩ := after hb1; simp only [als] at k1 f1 z1))
    | (go_at_call 79
       refine (deleteF_swept now _ _ _ l _ ho1 (by simp only [als]; omega) (by simp [*, go_sem]) (by simp)).mono ?_
       rintro e w2 ⟨v2, rfl, ho2, hb2⟩
       obtain ⟨k2, f2, z2⟩ := after' hb2
       simp only [als] at k2 f2
       obtain ⟨A2, cap2, rfl⟩ := ho2.val
       replace ho2 := ho2.more (base' := w.heap.size + 1 + 1 + 1) (by simp)
       have c0 : w2.cell? ⟨w.heap.size, 0, none⟩ = some v := by simp [k2, k1, go_sem]
       have c1 : w2.cell? ⟨w.heap.size, 1, none⟩ = some (.int .i64 next) := by simp [k2, k1, go_sem]
       have c2 : w2.cell? ⟨w.heap.size, 2, none⟩ = some (.int .i64 lasts) := by simp [k2, k1, go_sem]
       have c3 : w2.cell? ⟨w.heap.size, 3, none⟩ = some (.int .i64 room) := by simp [k2, k1, go_sem]))
  refine bodyPost_ret (v := .agg #[.slice A2 (l.filter (stays now)).length cap2, .int .i64 next, .int .i64 lasts, .int .i64 room]) ?_ rfl ⟨_, rfl, ?_, ?_⟩
  · simp [results, Try.results65, go_sem, *]
  · exact (Own.more (base := w.heap.size + 1 + 1 + 1) (by repeat (first | with_reducible exact ho2 | (with_reducible refine Own.setB ?_ ?h _; case h => (first | omega | (simp <;> omega))) | with_reducible refine Own.allc ?_ _ | with_reducible refine Own.dn ?_ _ | with_reducible refine Own.d1 ?_)) (by omega))
  · have hx : Below w.heap.size w w1 := Below.trans (by repeat (first | with_reducible exact Below.refl _ _ | with_reducible assumption | (with_reducible refine Below.alloc ?_ ?h _; case h => (first | omega | (simp <;> omega))) | (with_reducible refine Below.setCell ?_ ?h _; case h => (first | omega | (simp <;> omega))) | with_reducible refine Below.drew ?_ | with_reducible refine below_dn ?_ _)) (hb1.mono (by simp only [als]; omega))
    have hy : Below w.heap.size w w2 := hx.trans (hb2.mono (by simp only [als]; omega))
    exact (by repeat (first | with_reducible exact Below.refl _ _ | with_reducible assumption | (with_reducible refine Below.alloc ?_ ?h _; case h => (first | omega | (simp <;> omega))) | (with_reducible refine Below.setCell ?_ ?h _; case h => (first | omega | (simp <;> omega))) | with_reducible refine Below.drew ?_ | with_reducible refine below_dn ?_ _))

/-- What a call of an uploads' function begins with: an error, or the sessions that go on. -/
def beginErr (u : Upl) (now : Int) : Int := if upErr u = 0 then (if withinB now 0 1099511627776 then 0 else 3) else upErr u

def zeroUp : Value := .agg #[.slice none 0 0, .int .i64 0, .int .i64 0, .int .i64 0]

set_option maxRecDepth 100000 in
set_option maxHeartbeats 1000000 in
theorem begin_bad (v : Value) (u : Upl) (now : Int) (w : World) (B : Nat) (hs : Sl Sess.cells 5 w B v u.sess) (hB : B ≤ w.heap.size) (ho : ∀ s ∈ u.sess, s.ok) (he : beginErr u now ≠ 0) :
    Calls Try.prog 45 #[.agg #[v, .int .i64 u.next, .int .i64 u.lasts, .int .i64 u.room], .int .i64 now] w fun e w' => e = .returned (.tuple #[.agg #[.slice none 0 0, .int .i64 0, .int .i64 0, .int .i64 0], .int .i64 (beginErr u now)]) ∧ Below w.heap.size w w' := by
  have hs1 := hs.more hB
  by_cases h0 : upErr u = 0
  · have h1 : withinB now 0 1099511627776 = false := by
      cases h : withinB now 0 1099511627776 with
      | false => rfl
      | true => exact absurd (by simp [beginErr, h0, h]) he
    have HE : Hid (beginErr u now = 3) := by show beginErr u now = 3; simp [beginErr, h0, h1]
    clear he
    go_enter Try.func45, Try.ntmps45
    go_wp2_with (first
      | (go_at_call 23
         refine (check_any _ u _ w.heap.size (hs1.below (by repeat (first | with_reducible exact Below.refl _ _ | with_reducible assumption | (with_reducible refine Below.alloc ?_ ?h _; case h => (first | omega | (simp <;> omega))) | (with_reducible refine Below.setCell ?_ ?h _; case h => (first | omega | (simp <;> omega))) | with_reducible refine Below.drew ?_ | with_reducible refine below_dn ?_ _))) (by simp only [als]; omega) ho).mono ?_
         rintro e w1 ⟨rfl, hb1⟩
         obtain ⟨k1, f1, z1⟩ := after hb1
         simp only [als] at k1 f1 z1)
      | (go_at_call 47; refine (within_any _ _ _ _).mono ?_; rintro e w' ⟨rfl, rfl⟩))
    refine bodyPost_ret (v := .tuple #[.agg #[.slice none 0 0, .int .i64 0, .int .i64 0, .int .i64 0], .int .i64 3]) ?_ rfl ⟨by rw [HE.out], ?_⟩
    · simp [results, Try.results45, go_sem, k1]
    · have hx : Below w.heap.size w w1 := Below.trans (by repeat (first | with_reducible exact Below.refl _ _ | with_reducible assumption | (with_reducible refine Below.alloc ?_ ?h _; case h => (first | omega | (simp <;> omega))) | (with_reducible refine Below.setCell ?_ ?h _; case h => (first | omega | (simp <;> omega))) | with_reducible refine Below.drew ?_ | with_reducible refine below_dn ?_ _)) (hb1.mono (by simp only [als]; omega))
      exact (by repeat (first | with_reducible exact Below.refl _ _ | with_reducible assumption | (with_reducible refine Below.alloc ?_ ?h _; case h => (first | omega | (simp <;> omega))) | (with_reducible refine Below.setCell ?_ ?h _; case h => (first | omega | (simp <;> omega))) | with_reducible refine Below.drew ?_ | with_reducible refine below_dn ?_ _))
  · have HE : Hid (beginErr u now = upErr u) := by show beginErr u now = upErr u; simp [beginErr, h0]
    have h0' : (upErr u != 0) = true := by simpa using h0
    clear he h0
    go_enter Try.func45, Try.ntmps45
    go_wp2_with (first
      | (go_at_call 23
         refine (check_any _ u _ w.heap.size (hs1.below (by repeat (first | with_reducible exact Below.refl _ _ | with_reducible assumption | (with_reducible refine Below.alloc ?_ ?h _; case h => (first | omega | (simp <;> omega))) | (with_reducible refine Below.setCell ?_ ?h _; case h => (first | omega | (simp <;> omega))) | with_reducible refine Below.drew ?_ | with_reducible refine below_dn ?_ _))) (by simp only [als]; omega) ho).mono ?_
         rintro e w1 ⟨rfl, hb1⟩
         obtain ⟨k1, f1, z1⟩ := after hb1
         simp only [als] at k1 f1 z1)
      | (go_at_call 47; refine (within_any _ _ _ _).mono ?_; rintro e w' ⟨rfl, rfl⟩))
    refine bodyPost_ret (v := .tuple #[.agg #[.slice none 0 0, .int .i64 0, .int .i64 0, .int .i64 0], .int .i64 (upErr u)]) ?_ rfl ⟨by rw [HE.out], ?_⟩
    · simp [results, Try.results45, go_sem, k1]
    · have hx : Below w.heap.size w w1 := Below.trans (by repeat (first | with_reducible exact Below.refl _ _ | with_reducible assumption | (with_reducible refine Below.alloc ?_ ?h _; case h => (first | omega | (simp <;> omega))) | (with_reducible refine Below.setCell ?_ ?h _; case h => (first | omega | (simp <;> omega))) | with_reducible refine Below.drew ?_ | with_reducible refine below_dn ?_ _)) (hb1.mono (by simp only [als]; omega))
      exact (by repeat (first | with_reducible exact Below.refl _ _ | with_reducible assumption | (with_reducible refine Below.alloc ?_ ?h _; case h => (first | omega | (simp <;> omega))) | (with_reducible refine Below.setCell ?_ ?h _; case h => (first | omega | (simp <;> omega))) | with_reducible refine Below.drew ?_ | with_reducible refine below_dn ?_ _))

theorem begin_zero {u : Upl} {now : Int} (h : beginErr u now = 0) : upErr u = 0 ∧ withinB now 0 1099511627776 = true := by
  unfold beginErr at h
  split at h
  · rename_i h0
    refine ⟨h0, ?_⟩
    split at h
    · assumption
    · omega
  · exact absurd h ‹_›
theorem upErr_zero {u : Upl} (h : upErr u = 0) : upHead u = true ∧ u.sess.length ≤ 20 ∧ firstErr (sessErr u.next) u.sess = 0 ∧ (pairs u.sess).all numsUp = true ∧ u.sess.all (roomOk u.sess u.room) = true := by
  unfold upErr at h
  split at h
  · split at h
    · omega
    · split at h
      · split at h
        · split at h
          · exact ⟨‹_›, by omega, ‹_›, ‹_›, ‹_›⟩
          · omega
        · omega
      · exact absurd h ‹_›
  · omega

set_option maxRecDepth 100000 in
set_option maxHeartbeats 1000000 in
theorem begin_ok (v : Value) (u : Upl) (now : Int) (w : World) (B : Nat) (hs : Sl Sess.cells 5 w B v u.sess) (hB : B ≤ w.heap.size) (ho : ∀ s ∈ u.sess, s.ok) (he : beginErr u now = 0) :
    Calls Try.prog 45 #[.agg #[v, .int .i64 u.next, .int .i64 u.lasts, .int .i64 u.room], .int .i64 now] w fun e w' => ∃ v', e = .returned (.tuple #[.agg #[v', .int .i64 u.next, .int .i64 u.lasts, .int .i64 u.room], .int .i64 0]) ∧ Own Sess.cells 44 5 w' w.heap.size v' (sweptL u.sess now) ∧ Below w.heap.size w w' := by
  have hs1 := hs.more hB
  obtain ⟨h0, h1⟩ := begin_zero he
  have hlen := (upErr_zero h0).2.1
  obtain ⟨A, cap, rfl, _, _, _⟩ := hs.form
  clear he
  go_enter Try.func45, Try.ntmps45
  go_wp2_with (first
    | (go_at_call 23
       refine (check_any _ u _ w.heap.size (hs1.below (by repeat (first | with_reducible exact Below.refl _ _ | with_reducible assumption | (with_reducible refine Below.alloc ?_ ?h _; case h => (first | omega | (simp <;> omega))) | (with_reducible refine Below.setCell ?_ ?h _; case h => (first | omega | (simp <;> omega))) | with_reducible refine Below.drew ?_ | with_reducible refine below_dn ?_ _))) (by simp only [als]; omega) ho).mono ?_
       rintro e w1 ⟨rfl, hb1⟩
       obtain ⟨k1, f1, z1⟩ := after hb1
       simp only [als] at k1 f1 z1
       have hx : Below w.heap.size w w1 := Below.trans (by repeat (first | with_reducible exact Below.refl _ _ | with_reducible assumption | (with_reducible refine Below.alloc ?_ ?h _; case h => (first | omega | (simp <;> omega))) | (with_reducible refine Below.setCell ?_ ?h _; case h => (first | omega | (simp <;> omega))) | with_reducible refine Below.drew ?_ | with_reducible refine below_dn ?_ _)) (hb1.mono (by simp only [als]; omega)))
    | (go_at_call 47; refine (within_any _ _ _ _).mono ?_; rintro e w' ⟨rfl, rfl⟩)
    | (go_at_call 65
       refine (swept_any _ u.sess _ _ _ _ _ w.heap.size (hs1.below hx) hx.size (by omega)).mono ?_
       rintro e w2 ⟨v2, rfl, ho2, hb2⟩
       obtain ⟨k2, f2, z2⟩ := after hb2
       obtain ⟨A2, cap2, rfl⟩ := ho2.val
       replace ho2 := ho2.more (base' := w.heap.size + 1 + 1) (by omega)
       have hy : Below w.heap.size w w2 := hx.trans (hb2.mono (by omega))
       have c0 : w2.cell? ⟨w.heap.size + 1, 0, none⟩ = some (.slice none 0 0) := by rw [k2 _ _ (by omega)]; simp [k1, go_sem]
       have c1 : w2.cell? ⟨w.heap.size + 1, 1, none⟩ = some (.int .i64 0) := by rw [k2 _ _ (by omega)]; simp [k1, go_sem]
       have c2 : w2.cell? ⟨w.heap.size + 1, 2, none⟩ = some (.int .i64 0) := by rw [k2 _ _ (by omega)]; simp [k1, go_sem]
       have c3 : w2.cell? ⟨w.heap.size + 1, 3, none⟩ = some (.int .i64 0) := by rw [k2 _ _ (by omega)]; simp [k1, go_sem]
       have g0 : ∀ o, w2.frozen? ⟨w.heap.size + 1, o, none⟩ = false := fun o => by rw [f2 _ _ (by omega)]; simp [f1, go_sem]))
  refine bodyPost_ret (v := .tuple #[.agg #[.slice A2 (sweptL u.sess now).length cap2, .int .i64 u.next, .int .i64 u.lasts, .int .i64 u.room], .int .i64 0]) ?_ rfl ⟨_, rfl, ?_, ?_⟩
  · simp [results, Try.results45, go_sem, c0, c1, c2, c3]
  · exact (Own.more (base := w.heap.size + 1 + 1) (by repeat (first | with_reducible exact ho2 | (with_reducible refine Own.setB ?_ ?h _; case h => (first | omega | (simp <;> omega))) | with_reducible refine Own.allc ?_ _ | with_reducible refine Own.dn ?_ _ | with_reducible refine Own.d1 ?_)) (by omega))
  · exact (by repeat (first | with_reducible exact Below.refl _ _ | with_reducible assumption | (with_reducible refine Below.alloc ?_ ?h _; case h => (first | omega | (simp <;> omega))) | (with_reducible refine Below.setCell ?_ ?h _; case h => (first | omega | (simp <;> omega))) | with_reducible refine Below.drew ?_ | with_reducible refine below_dn ?_ _))
end Go.Proofs.Ytdcigjpanpcaaaa
