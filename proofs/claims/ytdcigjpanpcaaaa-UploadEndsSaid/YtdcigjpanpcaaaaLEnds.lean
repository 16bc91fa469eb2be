/- The law UploadEnds: its walk. -/
import Derived.Test.YtdcigjpanpcaaaaUpFS
import Derived.Test.YtdcigjpanpcaaaaUpU
namespace Go.Proofs.Ytdcigjpanpcaaaa
open Go.RowKit

set_option maxRecDepth 100000 in
set_option maxHeartbeats 8000000 in
theorem lawEnds_ok (v : Value) (u : Upl) (who : Str) (number now : Int) (w : World) (hs1 : Sl Sess.cells 5 w w.heap.size v u.sess) (nx la ro er : Int) (t : Str) (l : List Sess) (i : Nat) (L : List Sess) (hlt : i < L.length)
    (hQ : Hid (∀ (v : Value) (W : World), Sl Sess.cells 5 W w.heap.size v u.sess → w.heap.size ≤ W.heap.size → Calls Try.prog 25 #[.agg #[v, .int .i64 u.next, .int .i64 u.lasts, .int .i64 u.room], .string ⟨who.toArray⟩, .int .i64 number, .int .i64 now] W fun e w' => e = .returned (.tuple #[.int .i64 L[i].text.length, .int .i64 0]) ∧ Below W.heap.size W w'))
    (hF : Hid (∀ (v : Value) (W : World), Sl Sess.cells 5 W w.heap.size v u.sess → w.heap.size ≤ W.heap.size → Calls Try.prog 26 #[.agg #[v, .int .i64 u.next, .int .i64 u.lasts, .int .i64 u.room], .string ⟨who.toArray⟩, .int .i64 number, .int .i64 now] W (FinPost W nx la ro t er l)))
    (hR : Hid (∀ (v : Value) (W : World), Sl Sess.cells 5 W w.heap.size v u.sess → w.heap.size ≤ W.heap.size → Calls Try.prog 28 #[.agg #[v, .int .i64 u.next, .int .i64 u.lasts, .int .i64 u.room], .string ⟨who.toArray⟩, .int .i64 number, .int .i64 now] W (FinPost W nx la ro t er l)))
    (hM : Hid (∀ (v : Value) (W : World), Sl Sess.cells 5 W w.heap.size v u.sess → w.heap.size ≤ W.heap.size → Calls Try.prog 27 #[.agg #[v, .int .i64 u.next, .int .i64 u.lasts, .int .i64 u.room], .string ⟨who.toArray⟩, .int .i64 number, .int .i64 now] W fun e w' => ∃ v', e = .returned (.tuple #[.agg #[v', .int .i64 u.next, .int .i64 u.lasts, .int .i64 u.room], .int .i64 i, .int .i64 0]) ∧ Own Sess.cells 44 5 w' W.heap.size v' L ∧ Below W.heap.size W w')) :
    Calls Try.prog 6 #[.agg #[v, .int .i64 u.next, .int .i64 u.lasts, .int .i64 u.room], .string ⟨who.toArray⟩, .int .i64 number, .int .i64 now] w fun e w' => e = .returned (.bool true) ∧ Below w.heap.size w w' := by
  obtain ⟨A, cap, rfl, _, _, _⟩ := hs1.form
  go_enter Try.func6, Try.ntmps6
  go_wp2_with (first
    | (go_at_call 25
       go_must (
       refine (hQ.out _ _ (hs1.below (by repeat (first | with_reducible exact Below.refl _ _ | with_reducible assumption | (with_reducible refine Below.alloc ?_ ?h _; case h => (first | omega | (simp <;> omega))) | (with_reducible refine Below.setCell ?_ ?h _; case h => (first | omega | (simp <;> omega))) | with_reducible refine Below.drew ?_ | with_reducible refine below_dn ?_ _))) (by simp only [als]; omega)).mono ?_
       rintro e w0 ⟨rfl, hb0⟩
       obtain ⟨k0, f0, z0⟩ := after hb0
       simp only [als] at k0 f0 z0
       have hx0 : Below w.heap.size w w0 := Below.trans (by repeat (first | with_reducible exact Below.refl _ _ | with_reducible assumption | (with_reducible refine Below.alloc ?_ ?h _; case h => (first | omega | (simp <;> omega))) | (with_reducible refine Below.setCell ?_ ?h _; case h => (first | omega | (simp <;> omega))) | with_reducible refine Below.drew ?_ | with_reducible refine below_dn ?_ _)) (hb0.mono (by simp only [als]; omega))
       have : w0.cell? ⟨w.heap.size, 0, none⟩ = some (.slice A u.sess.length cap) := (by simp [k0, go_sem]); have : w0.cell? ⟨w.heap.size, 1, none⟩ = some (.int .i64 u.next) := (by simp [k0, go_sem]); have : w0.cell? ⟨w.heap.size, 2, none⟩ = some (.int .i64 u.lasts) := (by simp [k0, go_sem]); have : w0.cell? ⟨w.heap.size, 3, none⟩ = some (.int .i64 u.room) := (by simp [k0, go_sem])
       have y0 : w.heap.size < w0.heap.size := by omega
       clear k0 f0))
    | (go_at_call 26
       go_must (
       refine (hF.out _ _ (hs1.below hx0) hx0.size).mono ?_
       rintro e w1 ⟨v1, rfl, ho1, hb1⟩
       obtain ⟨k1, f1, z1⟩ := after hb1
       obtain ⟨A1, cap1, rfl⟩ := ho1.val
       replace ho1 := Own.sl Sess.cells_len ho1
       have hx1 : Below w.heap.size w w1 := Below.trans hx0 (hb1.mono (by omega))
       have : w1.cell? ⟨w.heap.size, 0, none⟩ = some (.slice A u.sess.length cap) := (by rw [k1 _ _ (by omega)]; simp [*, go_sem]); have : w1.cell? ⟨w.heap.size, 1, none⟩ = some (.int .i64 u.next) := (by rw [k1 _ _ (by omega)]; simp [*, go_sem]); have : w1.cell? ⟨w.heap.size, 2, none⟩ = some (.int .i64 u.lasts) := (by rw [k1 _ _ (by omega)]; simp [*, go_sem]); have : w1.cell? ⟨w.heap.size, 3, none⟩ = some (.int .i64 u.room) := (by rw [k1 _ _ (by omega)]; simp [*, go_sem])
       have y1 : w.heap.size < w1.heap.size := by omega
       clear k1 f1))
    | (go_at_call 27
       go_must (
       refine (hM.out _ _ (hs1.below (by repeat (first | with_reducible exact Below.refl _ _ | with_reducible assumption | (with_reducible refine Below.alloc ?_ ?h _; case h => (first | omega | (simp <;> omega))) | (with_reducible refine Below.setCell ?_ ?h _; case h => (first | omega | (simp <;> omega))) | with_reducible refine Below.drew ?_ | with_reducible refine below_dn ?_ _))) (by simp only [als]; omega)).mono ?_
       rintro e w2 ⟨v2, rfl, ho2, hb2⟩
       obtain ⟨k2, f2, z2⟩ := after hb2
       simp only [als] at k2 f2 z2
       obtain ⟨A2, cap2, rfl⟩ := ho2.val
       have os := (Own.sl Sess.cells_len ho2)
       obtain ⟨_, _, _, hlen, _, _⟩ := os.form
       obtain ⟨b, off, rfl, hbb, c0, c1, c2, c3, c4⟩ := os.sess hlt
       have hne2 : b ≠ w2.heap.size := by omega
       clear ho2 os
       have hx2 : Below w.heap.size w w2 := Below.trans (by repeat (first | with_reducible exact Below.refl _ _ | with_reducible assumption | (with_reducible refine Below.alloc ?_ ?h _; case h => (first | omega | (simp <;> omega))) | (with_reducible refine Below.setCell ?_ ?h _; case h => (first | omega | (simp <;> omega))) | with_reducible refine Below.drew ?_ | with_reducible refine below_dn ?_ _)) (hb2.mono (by simp only [als]; omega))
       have q1 : Below w1.heap.size w1 w2 := Below.trans (b := w1.alloc _) ((Below.refl _ _).alloc (Nat.le_refl _) _) (hb2.mono (by simp))
       have : w2.cell? ⟨w.heap.size, 0, none⟩ = some (.slice A u.sess.length cap) := (by rw [k2 _ _ (by omega)]; simp [*, go_sem]); have : w2.cell? ⟨w.heap.size, 1, none⟩ = some (.int .i64 u.next) := (by rw [k2 _ _ (by omega)]; simp [*, go_sem]); have : w2.cell? ⟨w.heap.size, 2, none⟩ = some (.int .i64 u.lasts) := (by rw [k2 _ _ (by omega)]; simp [*, go_sem]); have : w2.cell? ⟨w.heap.size, 3, none⟩ = some (.int .i64 u.room) := (by rw [k2 _ _ (by omega)]; simp [*, go_sem])
       have : w2.cell? ⟨w1.heap.size, 0, none⟩ = some (.slice A1 l.length cap1) := (by simp [k2, go_sem])
       have : w2.cell? ⟨w1.heap.size, 1, none⟩ = some (.int .i64 nx) := (by simp [k2, go_sem])
       have : w2.cell? ⟨w1.heap.size, 2, none⟩ = some (.int .i64 la) := (by simp [k2, go_sem])
       have : w2.cell? ⟨w1.heap.size, 3, none⟩ = some (.int .i64 ro) := (by simp [k2, go_sem])
       have y2 : w1.heap.size < w2.heap.size := by omega
       have y21 : w.heap.size < w2.heap.size := by omega
       clear k2 f2))
    | (go_at_call 28
       go_must (
       refine (hR.out _ _ (hs1.below (by repeat (first | with_reducible exact Below.refl _ _ | with_reducible assumption | (with_reducible refine Below.alloc ?_ ?h _; case h => (first | omega | (simp <;> omega))) | (with_reducible refine Below.setCell ?_ ?h _; case h => (first | omega | (simp <;> omega))) | with_reducible refine Below.drew ?_ | with_reducible refine below_dn ?_ _))) (by simp only [als]; omega)).mono ?_
       rintro e w3 ⟨v3, rfl, ho3, hb3⟩
       obtain ⟨k3, f3, z3⟩ := after hb3
       simp only [als] at k3 f3 z3
       obtain ⟨A3, cap3, rfl⟩ := ho3.val
       replace ho3 := Own.sl Sess.cells_len ho3
       have hx3 : Below w.heap.size w w3 := Below.trans (by repeat (first | with_reducible exact Below.refl _ _ | with_reducible assumption | (with_reducible refine Below.alloc ?_ ?h _; case h => (first | omega | (simp <;> omega))) | (with_reducible refine Below.setCell ?_ ?h _; case h => (first | omega | (simp <;> omega))) | with_reducible refine Below.drew ?_ | with_reducible refine below_dn ?_ _)) (hb3.mono (by simp only [als]; omega))
       have q2 : Below w2.heap.size w2 w3 := Below.trans (b := w2.alloc _) ((Below.refl _ _).alloc (Nat.le_refl _) _) (hb3.mono (by simp))
       have : w3.cell? ⟨w1.heap.size, 0, none⟩ = some (.slice A1 l.length cap1) := (by rw [k3 _ _ (by omega)]; simp [*, go_sem])
       have : w3.cell? ⟨w1.heap.size, 1, none⟩ = some (.int .i64 nx) := (by rw [k3 _ _ (by omega)]; simp [*, go_sem])
       have : w3.cell? ⟨w1.heap.size, 2, none⟩ = some (.int .i64 la) := (by rw [k3 _ _ (by omega)]; simp [*, go_sem])
       have : w3.cell? ⟨w1.heap.size, 3, none⟩ = some (.int .i64 ro) := (by rw [k3 _ _ (by omega)]; simp [*, go_sem])
       have y3 : w1.heap.size < w3.heap.size := by omega
       have y31 : w.heap.size < w3.heap.size := by omega
       clear k3 f3))
    | (go_at_call 16
       go_must (
       refine (uploadBegun_any _).mono ?_
       rintro e w4 ⟨rfl, hb4⟩
       obtain ⟨k4, f4, z4⟩ := after hb4
       simp only [als] at k4 f4 z4
       have hx4 : Below w.heap.size w w4 := Below.trans (by repeat (first | with_reducible exact Below.refl _ _ | with_reducible assumption | (with_reducible refine Below.alloc ?_ ?h _; case h => (first | omega | (simp <;> omega))) | (with_reducible refine Below.setCell ?_ ?h _; case h => (first | omega | (simp <;> omega))) | with_reducible refine Below.drew ?_ | with_reducible refine below_dn ?_ _)) (hb4.mono (by simp only [als]; omega))
       have q3 : Below w3.heap.size w3 w4 := Below.trans (b := w3.alloc _) ((Below.refl _ _).alloc (Nat.le_refl _) _) (hb4.mono (by simp))
       have q4 : Below w1.heap.size w1 w4 := q1.trans ((q2.mono (by omega)).trans (q3.mono (by omega)))
       have : w4.cell? ⟨w1.heap.size, 0, none⟩ = some (.slice A1 l.length cap1) := (by rw [k4 _ _ (by omega)]; simp [*, go_sem])
       have : w4.cell? ⟨w1.heap.size, 1, none⟩ = some (.int .i64 nx) := (by rw [k4 _ _ (by omega)]; simp [*, go_sem])
       have : w4.cell? ⟨w1.heap.size, 2, none⟩ = some (.int .i64 la) := (by rw [k4 _ _ (by omega)]; simp [*, go_sem])
       have : w4.cell? ⟨w1.heap.size, 3, none⟩ = some (.int .i64 ro) := (by rw [k4 _ _ (by omega)]; simp [*, go_sem])
       have : w4.cell? ⟨w3.heap.size, 0, none⟩ = some (.slice A3 l.length cap3) := (by simp [k4, go_sem])
       have : w4.cell? ⟨w3.heap.size, 1, none⟩ = some (.int .i64 nx) := (by simp [k4, go_sem])
       have : w4.cell? ⟨w3.heap.size, 2, none⟩ = some (.int .i64 la) := (by simp [k4, go_sem])
       have : w4.cell? ⟨w3.heap.size, 3, none⟩ = some (.int .i64 ro) := (by simp [k4, go_sem])
       have hl1 : Sl Sess.cells 5 w4 w4.heap.size (.slice A1 l.length cap1) l := (ho1.below q4).more q4.size
       have hl3 : Sl Sess.cells 5 w4 w4.heap.size (.slice A3 l.length cap3) l := (ho3.below q3).more q3.size
       have y4 : w1.heap.size < w4.heap.size := by omega
       have y41 : w3.heap.size < w4.heap.size := by omega
       clear k4 f4))
    | (go_at_call 17
       go_must (
       refine (same_any _ _ l _ _ _ _ w4.heap.size hl1 hl3 (Nat.le_refl _)).mono ?_
       rintro e w5 ⟨rfl, hb5⟩
       have hx5 : Below w.heap.size w w5 := Below.trans hx4 (hb5.mono (by omega)))))
  go_ret
  exact ⟨rfl, (by repeat (first | with_reducible exact Below.refl _ _ | with_reducible assumption | (with_reducible refine Below.alloc ?_ ?h _; case h => (first | omega | (simp <;> omega))) | (with_reducible refine Below.setCell ?_ ?h _; case h => (first | omega | (simp <;> omega))) | with_reducible refine Below.drew ?_ | with_reducible refine below_dn ?_ _))⟩

set_option maxRecDepth 100000 in
set_option maxHeartbeats 8000000 in
theorem lawEnds_bad (v : Value) (u : Upl) (who : Str) (number now : Int) (w : World) (hs1 : Sl Sess.cells 5 w w.heap.size v u.sess) (nx la ro er me : Int) (t : Str) (l : List Sess) (hme : (me == 0) = false)
    (hQ : Hid (∀ (v : Value) (W : World), Sl Sess.cells 5 W w.heap.size v u.sess → w.heap.size ≤ W.heap.size → Calls Try.prog 25 #[.agg #[v, .int .i64 u.next, .int .i64 u.lasts, .int .i64 u.room], .string ⟨who.toArray⟩, .int .i64 number, .int .i64 now] W fun e w' => e = .returned (.tuple #[.int .i64 0, .int .i64 me]) ∧ Below W.heap.size W w'))
    (hF : Hid (∀ (v : Value) (W : World), Sl Sess.cells 5 W w.heap.size v u.sess → w.heap.size ≤ W.heap.size → Calls Try.prog 26 #[.agg #[v, .int .i64 u.next, .int .i64 u.lasts, .int .i64 u.room], .string ⟨who.toArray⟩, .int .i64 number, .int .i64 now] W (FinPost W nx la ro t er l)))
    (hR : Hid (∀ (v : Value) (W : World), Sl Sess.cells 5 W w.heap.size v u.sess → w.heap.size ≤ W.heap.size → Calls Try.prog 28 #[.agg #[v, .int .i64 u.next, .int .i64 u.lasts, .int .i64 u.room], .string ⟨who.toArray⟩, .int .i64 number, .int .i64 now] W (FinPost W nx la ro t er l)))
    (hM : Hid (∀ (v : Value) (W : World), Sl Sess.cells 5 W w.heap.size v u.sess → w.heap.size ≤ W.heap.size → Calls Try.prog 27 #[.agg #[v, .int .i64 u.next, .int .i64 u.lasts, .int .i64 u.room], .string ⟨who.toArray⟩, .int .i64 number, .int .i64 now] W (MineBad W u me))) :
    Calls Try.prog 6 #[.agg #[v, .int .i64 u.next, .int .i64 u.lasts, .int .i64 u.room], .string ⟨who.toArray⟩, .int .i64 number, .int .i64 now] w fun e w' => e = .returned (.bool true) ∧ Below w.heap.size w w' := by
  obtain ⟨A, cap, rfl, _, _, _⟩ := hs1.form
  go_enter Try.func6, Try.ntmps6
  go_wp2_with (first
    | (go_at_call 25
       go_must (
       refine (hQ.out _ _ (hs1.below (by repeat (first | with_reducible exact Below.refl _ _ | with_reducible assumption | (with_reducible refine Below.alloc ?_ ?h _; case h => (first | omega | (simp <;> omega))) | (with_reducible refine Below.setCell ?_ ?h _; case h => (first | omega | (simp <;> omega))) | with_reducible refine Below.drew ?_ | with_reducible refine below_dn ?_ _))) (by simp only [als]; omega)).mono ?_
       rintro e w0 ⟨rfl, hb0⟩
       obtain ⟨k0, f0, z0⟩ := after hb0
       simp only [als] at k0 f0 z0
       have hx0 : Below w.heap.size w w0 := Below.trans (by repeat (first | with_reducible exact Below.refl _ _ | with_reducible assumption | (with_reducible refine Below.alloc ?_ ?h _; case h => (first | omega | (simp <;> omega))) | (with_reducible refine Below.setCell ?_ ?h _; case h => (first | omega | (simp <;> omega))) | with_reducible refine Below.drew ?_ | with_reducible refine below_dn ?_ _)) (hb0.mono (by simp only [als]; omega))
       have : w0.cell? ⟨w.heap.size, 0, none⟩ = some (.slice A u.sess.length cap) := (by simp [k0, go_sem]); have : w0.cell? ⟨w.heap.size, 1, none⟩ = some (.int .i64 u.next) := (by simp [k0, go_sem]); have : w0.cell? ⟨w.heap.size, 2, none⟩ = some (.int .i64 u.lasts) := (by simp [k0, go_sem]); have : w0.cell? ⟨w.heap.size, 3, none⟩ = some (.int .i64 u.room) := (by simp [k0, go_sem])
       have y0 : w.heap.size < w0.heap.size := by omega
       clear k0 f0))
    | (go_at_call 26
       go_must (
       refine (hF.out _ _ (hs1.below hx0) hx0.size).mono ?_
       rintro e w1 ⟨v1, rfl, ho1, hb1⟩
       obtain ⟨k1, f1, z1⟩ := after hb1
       obtain ⟨A1, cap1, rfl⟩ := ho1.val
       replace ho1 := Own.sl Sess.cells_len ho1
       have hx1 : Below w.heap.size w w1 := Below.trans hx0 (hb1.mono (by omega))
       have : w1.cell? ⟨w.heap.size, 0, none⟩ = some (.slice A u.sess.length cap) := (by rw [k1 _ _ (by omega)]; simp [*, go_sem]); have : w1.cell? ⟨w.heap.size, 1, none⟩ = some (.int .i64 u.next) := (by rw [k1 _ _ (by omega)]; simp [*, go_sem]); have : w1.cell? ⟨w.heap.size, 2, none⟩ = some (.int .i64 u.lasts) := (by rw [k1 _ _ (by omega)]; simp [*, go_sem]); have : w1.cell? ⟨w.heap.size, 3, none⟩ = some (.int .i64 u.room) := (by rw [k1 _ _ (by omega)]; simp [*, go_sem])
       have y1 : w.heap.size < w1.heap.size := by omega
       clear k1 f1))
    | (go_at_call 27
       go_must (
       refine (hM.out _ _ (hs1.below (by repeat (first | with_reducible exact Below.refl _ _ | with_reducible assumption | (with_reducible refine Below.alloc ?_ ?h _; case h => (first | omega | (simp <;> omega))) | (with_reducible refine Below.setCell ?_ ?h _; case h => (first | omega | (simp <;> omega))) | with_reducible refine Below.drew ?_ | with_reducible refine below_dn ?_ _))) (by simp only [als]; omega)).mono ?_
       rintro e w2 ⟨A9, n9, c9, rfl, hb2⟩
       obtain ⟨k2, f2, z2⟩ := after hb2
       simp only [als] at k2 f2 z2
       have hx2 : Below w.heap.size w w2 := Below.trans (by repeat (first | with_reducible exact Below.refl _ _ | with_reducible assumption | (with_reducible refine Below.alloc ?_ ?h _; case h => (first | omega | (simp <;> omega))) | (with_reducible refine Below.setCell ?_ ?h _; case h => (first | omega | (simp <;> omega))) | with_reducible refine Below.drew ?_ | with_reducible refine below_dn ?_ _)) (hb2.mono (by simp only [als]; omega))
       have q1 : Below w1.heap.size w1 w2 := Below.trans (b := w1.alloc _) ((Below.refl _ _).alloc (Nat.le_refl _) _) (hb2.mono (by simp))
       have : w2.cell? ⟨w.heap.size, 0, none⟩ = some (.slice A u.sess.length cap) := (by rw [k2 _ _ (by omega)]; simp [*, go_sem]); have : w2.cell? ⟨w.heap.size, 1, none⟩ = some (.int .i64 u.next) := (by rw [k2 _ _ (by omega)]; simp [*, go_sem]); have : w2.cell? ⟨w.heap.size, 2, none⟩ = some (.int .i64 u.lasts) := (by rw [k2 _ _ (by omega)]; simp [*, go_sem]); have : w2.cell? ⟨w.heap.size, 3, none⟩ = some (.int .i64 u.room) := (by rw [k2 _ _ (by omega)]; simp [*, go_sem])
       have : w2.cell? ⟨w1.heap.size, 0, none⟩ = some (.slice A1 l.length cap1) := (by simp [k2, go_sem])
       have : w2.cell? ⟨w1.heap.size, 1, none⟩ = some (.int .i64 nx) := (by simp [k2, go_sem])
       have : w2.cell? ⟨w1.heap.size, 2, none⟩ = some (.int .i64 la) := (by simp [k2, go_sem])
       have : w2.cell? ⟨w1.heap.size, 3, none⟩ = some (.int .i64 ro) := (by simp [k2, go_sem])
       have y2 : w1.heap.size < w2.heap.size := by omega
       have y21 : w.heap.size < w2.heap.size := by omega
       clear k2 f2))
    | (go_at_call 28
       go_must (
       refine (hR.out _ _ (hs1.below (by repeat (first | with_reducible exact Below.refl _ _ | with_reducible assumption | (with_reducible refine Below.alloc ?_ ?h _; case h => (first | omega | (simp <;> omega))) | (with_reducible refine Below.setCell ?_ ?h _; case h => (first | omega | (simp <;> omega))) | with_reducible refine Below.drew ?_ | with_reducible refine below_dn ?_ _))) (by simp only [als]; omega)).mono ?_
       rintro e w3 ⟨v3, rfl, ho3, hb3⟩
       obtain ⟨k3, f3, z3⟩ := after hb3
       simp only [als] at k3 f3 z3
       obtain ⟨A3, cap3, rfl⟩ := ho3.val
       replace ho3 := Own.sl Sess.cells_len ho3
       have hx3 : Below w.heap.size w w3 := Below.trans (by repeat (first | with_reducible exact Below.refl _ _ | with_reducible assumption | (with_reducible refine Below.alloc ?_ ?h _; case h => (first | omega | (simp <;> omega))) | (with_reducible refine Below.setCell ?_ ?h _; case h => (first | omega | (simp <;> omega))) | with_reducible refine Below.drew ?_ | with_reducible refine below_dn ?_ _)) (hb3.mono (by simp only [als]; omega))
       have q2 : Below w2.heap.size w2 w3 := Below.trans (b := w2.alloc _) ((Below.refl _ _).alloc (Nat.le_refl _) _) (hb3.mono (by simp))
       have : w3.cell? ⟨w1.heap.size, 0, none⟩ = some (.slice A1 l.length cap1) := (by rw [k3 _ _ (by omega)]; simp [*, go_sem])
       have : w3.cell? ⟨w1.heap.size, 1, none⟩ = some (.int .i64 nx) := (by rw [k3 _ _ (by omega)]; simp [*, go_sem])
       have : w3.cell? ⟨w1.heap.size, 2, none⟩ = some (.int .i64 la) := (by rw [k3 _ _ (by omega)]; simp [*, go_sem])
       have : w3.cell? ⟨w1.heap.size, 3, none⟩ = some (.int .i64 ro) := (by rw [k3 _ _ (by omega)]; simp [*, go_sem])
       have y3 : w1.heap.size < w3.heap.size := by omega
       have y31 : w.heap.size < w3.heap.size := by omega
       clear k3 f3))
    | (go_at_call 16
       go_must (
       refine (uploadBegun_any _).mono ?_
       rintro e w4 ⟨rfl, hb4⟩
       obtain ⟨k4, f4, z4⟩ := after hb4
       simp only [als] at k4 f4 z4
       have hx4 : Below w.heap.size w w4 := Below.trans (by repeat (first | with_reducible exact Below.refl _ _ | with_reducible assumption | (with_reducible refine Below.alloc ?_ ?h _; case h => (first | omega | (simp <;> omega))) | (with_reducible refine Below.setCell ?_ ?h _; case h => (first | omega | (simp <;> omega))) | with_reducible refine Below.drew ?_ | with_reducible refine below_dn ?_ _)) (hb4.mono (by simp only [als]; omega))
       have q3 : Below w3.heap.size w3 w4 := Below.trans (b := w3.alloc _) ((Below.refl _ _).alloc (Nat.le_refl _) _) (hb4.mono (by simp))
       have q4 : Below w1.heap.size w1 w4 := q1.trans ((q2.mono (by omega)).trans (q3.mono (by omega)))
       have : w4.cell? ⟨w1.heap.size, 0, none⟩ = some (.slice A1 l.length cap1) := (by rw [k4 _ _ (by omega)]; simp [*, go_sem])
       have : w4.cell? ⟨w1.heap.size, 1, none⟩ = some (.int .i64 nx) := (by rw [k4 _ _ (by omega)]; simp [*, go_sem])
       have : w4.cell? ⟨w1.heap.size, 2, none⟩ = some (.int .i64 la) := (by rw [k4 _ _ (by omega)]; simp [*, go_sem])
       have : w4.cell? ⟨w1.heap.size, 3, none⟩ = some (.int .i64 ro) := (by rw [k4 _ _ (by omega)]; simp [*, go_sem])
       have : w4.cell? ⟨w3.heap.size, 0, none⟩ = some (.slice A3 l.length cap3) := (by simp [k4, go_sem])
       have : w4.cell? ⟨w3.heap.size, 1, none⟩ = some (.int .i64 nx) := (by simp [k4, go_sem])
       have : w4.cell? ⟨w3.heap.size, 2, none⟩ = some (.int .i64 la) := (by simp [k4, go_sem])
       have : w4.cell? ⟨w3.heap.size, 3, none⟩ = some (.int .i64 ro) := (by simp [k4, go_sem])
       have hl1 : Sl Sess.cells 5 w4 w4.heap.size (.slice A1 l.length cap1) l := (ho1.below q4).more q4.size
       have hl3 : Sl Sess.cells 5 w4 w4.heap.size (.slice A3 l.length cap3) l := (ho3.below q3).more q3.size
       have y4 : w1.heap.size < w4.heap.size := by omega
       have y41 : w3.heap.size < w4.heap.size := by omega
       clear k4 f4))
    | (go_at_call 17
       go_must (
       refine (same_any _ _ l _ _ _ _ w4.heap.size hl1 hl3 (Nat.le_refl _)).mono ?_
       rintro e w5 ⟨rfl, hb5⟩
       have hx5 : Below w.heap.size w w5 := Below.trans hx4 (hb5.mono (by omega)))))
  go_ret
  exact ⟨rfl, (by repeat (first | with_reducible exact Below.refl _ _ | with_reducible assumption | (with_reducible refine Below.alloc ?_ ?h _; case h => (first | omega | (simp <;> omega))) | (with_reducible refine Below.setCell ?_ ?h _; case h => (first | omega | (simp <;> omega))) | with_reducible refine Below.drew ?_ | with_reducible refine below_dn ?_ _))⟩

end Go.Proofs.Ytdcigjpanpcaaaa
