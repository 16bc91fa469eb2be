/- Uploads, the reference: MineOf where it finds a session. -/
import Derived.Test.YtdcigjpanpcaaaaUpV
namespace Go.Proofs.Ytdcigjpanpcaaaa
open Go.RowKit

set_option maxRecDepth 100000 in
set_option maxHeartbeats 4000000 in
theorem mineR_ok (v : Value) (u : Upl) (who : Str) (number now : Int) (w : World) (B : Nat) (hs : Sl Sess.cells 5 w B v u.sess) (hB : B ≤ w.heap.size) (ho : ∀ s ∈ u.sess, s.ok) (hw : who.length ≤ 9223372036854775807) (he : mineErr u who number now = 0) (i : Nat) (hi : mineAt u who number now = some i) :
    Calls Try.prog 27 #[.agg #[v, .int .i64 u.next, .int .i64 u.lasts, .int .i64 u.room], .string ⟨who.toArray⟩, .int .i64 number, .int .i64 now] w fun e w' => ∃ v', e = .returned (.tuple #[.agg #[v', .int .i64 u.next, .int .i64 u.lasts, .int .i64 u.room], .int .i64 i, .int .i64 0]) ∧ Own Sess.cells 44 5 w' w.heap.size v' (sweptL u.sess now) ∧ Below w.heap.size w w' := by
      have hs1 := hs.more hB
      have hBe := Lib.hid (fun (v : Value) (W : World) (h1 : Sl Sess.cells 5 W w.heap.size v u.sess) (h2 : w.heap.size ≤ W.heap.size) => beginR_any v u now W w.heap.size h1 h2 ho)
      obtain ⟨A, cap, rfl, _, _, _⟩ := hs.form
      obtain ⟨h0, h1, _⟩ := mine_zero he
      have hlen := (upErr_zero (begin_zero h0).1).2.1
      have hSR := Lib.hid (fun (v : Value) (W : World) (h1 : Sl Sess.cells 5 W w.heap.size v u.sess) (h2 : w.heap.size ≤ W.heap.size) => sweepR_any v u.sess u.next u.lasts u.room now W w.heap.size h1 h2 (by omega))
      unfold mineAt at hi
      have H2 := Lib.hid hi
      simp only [h0] at hBe
      clear he h0 hi
      have hnn : ¬ ((i : Int) < 0) := by omega
      go_enter Try.func27, Try.ntmps27
      go_wp2_with (first
        | (go_at_call 21
           go_must (
           refine (hBe.out _ _ (hs1.below (by repeat (first | with_reducible exact Below.refl _ _ | with_reducible assumption | (with_reducible refine Below.alloc ?_ ?h _; case h => (first | omega | (simp <;> omega))) | (with_reducible refine Below.setCell ?_ ?h _; case h => (first | omega | (simp <;> omega))) | with_reducible refine Below.drew ?_ | with_reducible refine below_dn ?_ _))) (by simp only [als]; omega)).mono ?_
           rintro e w1 ⟨rfl, hb1⟩
           obtain ⟨k1, f1, z1⟩ := after hb1
           simp only [als] at k1 f1 z1
           have hx : Below w.heap.size w w1 := Below.trans (by repeat (first | with_reducible exact Below.refl _ _ | with_reducible assumption | (with_reducible refine Below.alloc ?_ ?h _; case h => (first | omega | (simp <;> omega))) | (with_reducible refine Below.setCell ?_ ?h _; case h => (first | omega | (simp <;> omega))) | with_reducible refine Below.drew ?_ | with_reducible refine below_dn ?_ _)) (hb1.mono (by simp only [als]; omega))
           have y1 : w.heap.size + 1 < w1.heap.size := by omega
           have y2 : w.heap.size < w1.heap.size := by omega
           have : w1.cell? ⟨w.heap.size, 0, none⟩ = some (.slice A u.sess.length cap) := (by simp [k1, go_sem]); have : w1.cell? ⟨w.heap.size, 1, none⟩ = some (.int .i64 u.next) := (by simp [k1, go_sem]); have : w1.cell? ⟨w.heap.size, 2, none⟩ = some (.int .i64 u.lasts) := (by simp [k1, go_sem]); have : w1.cell? ⟨w.heap.size, 3, none⟩ = some (.int .i64 u.room) := (by simp [k1, go_sem])
           have : ∀ o, w1.frozen? ⟨w.heap.size, o, none⟩ = false := fun o => (by rw [f1 _ _ (by omega)]; simp [fz_alc, fz_out])
           have : w1.cell? ⟨w.heap.size + 1, 0, none⟩ = some (.slice none 0 0) := (by simp [k1, go_sem]); have : w1.cell? ⟨w.heap.size + 1, 1, none⟩ = some (.int .i64 0) := (by simp [k1, go_sem]); have : w1.cell? ⟨w.heap.size + 1, 2, none⟩ = some (.int .i64 0) := (by simp [k1, go_sem]); have : w1.cell? ⟨w.heap.size + 1, 3, none⟩ = some (.int .i64 0) := (by simp [k1, go_sem])
           have : ∀ o, w1.frozen? ⟨w.heap.size + 1, o, none⟩ = false := fun o => (by rw [f1 _ _ (by omega)]; simp [fz_alc, fz_out])
           clear k1 f1))
        | (go_at_call 29; refine (isNameR_any _ _ hw).mono ?_; rintro e w' ⟨rfl, rfl⟩)
        | (go_at_call 22
           go_must (
           refine (hSR.out _ _ (hs1.below hx) hx.size).mono ?_
           rintro e w3 ⟨v3, rfl, ho3, hb3⟩
           obtain ⟨k3, f3, z3⟩ := after hb3
           obtain ⟨A3, cap3, rfl⟩ := ho3.val
           replace ho3 := ho3.more (base' := w.heap.size + 2) (by omega)
           have hx3 : Below w.heap.size w w3 := Below.trans hx (hb3.mono (by omega))
           have : w3.cell? ⟨w.heap.size, 0, none⟩ = some (.slice A u.sess.length cap) := (by rw [k3 _ _ (by omega)]; assumption); have : w3.cell? ⟨w.heap.size, 1, none⟩ = some (.int .i64 u.next) := (by rw [k3 _ _ (by omega)]; assumption); have : w3.cell? ⟨w.heap.size, 2, none⟩ = some (.int .i64 u.lasts) := (by rw [k3 _ _ (by omega)]; assumption); have : w3.cell? ⟨w.heap.size, 3, none⟩ = some (.int .i64 u.room) := (by rw [k3 _ _ (by omega)]; assumption)
           have : ∀ o, w3.frozen? ⟨w.heap.size, o, none⟩ = false := fun o => (by rw [f3 _ _ (by omega)]; simp [*])
           have : w3.cell? ⟨w.heap.size + 1, 0, none⟩ = some (.slice none 0 0) := (by rw [k3 _ _ (by omega)]; assumption); have : w3.cell? ⟨w.heap.size + 1, 1, none⟩ = some (.int .i64 0) := (by rw [k3 _ _ (by omega)]; assumption); have : w3.cell? ⟨w.heap.size + 1, 2, none⟩ = some (.int .i64 0) := (by rw [k3 _ _ (by omega)]; assumption); have : w3.cell? ⟨w.heap.size + 1, 3, none⟩ = some (.int .i64 0) := (by rw [k3 _ _ (by omega)]; assumption)
           have : ∀ o, w3.frozen? ⟨w.heap.size + 1, o, none⟩ = false := fun o => (by rw [f3 _ _ (by omega)]; simp [*])
           have y5 : w.heap.size + 1 < w3.heap.size := by omega
           have y6 : w.heap.size < w3.heap.size := by omega
           clear k3 f3))
        | (go_at_call 31
           go_must (
           refine (sessionAt_any _ (sweptL u.sess now) _ _ _ _ _ _ _ (Own.sl (E := 44) (base := w.heap.size + 2) Sess.cells_len ?_) (Nat.le_refl _)).mono ?_
           · repeat (first | with_reducible exact ho3 | (with_reducible refine Own.setB ?_ ?h _; case h => (first | omega | (simp <;> omega))) | with_reducible refine Own.allc ?_ _ | with_reducible refine Own.dn ?_ _ | with_reducible refine Own.d1 ?_)
           rintro e w4 ⟨rfl, hb4⟩
           rw [H2.out]
           obtain ⟨k4, f4, z4⟩ := after hb4
           have hx4 : Below w.heap.size w w4 := Below.trans (by repeat (first | with_reducible exact Below.refl _ _ | with_reducible assumption | (with_reducible refine Below.alloc ?_ ?h _; case h => (first | omega | (simp <;> omega))) | (with_reducible refine Below.setCell ?_ ?h _; case h => (first | omega | (simp <;> omega))) | with_reducible refine Below.drew ?_ | with_reducible refine below_dn ?_ _)) (hb4.mono (by simp; omega))
           have : w4.cell? ⟨w.heap.size, 0, none⟩ = some (.slice A3 (sweptL u.sess now).length cap3) := (by rw [k4 _ _ (by simp; omega)]; simp [*, go_sem])
           have : w4.cell? ⟨w.heap.size, 1, none⟩ = some (.int .i64 u.next) := (by rw [k4 _ _ (by simp; omega)]; simp [*, go_sem])
           have : w4.cell? ⟨w.heap.size, 2, none⟩ = some (.int .i64 u.lasts) := (by rw [k4 _ _ (by simp; omega)]; simp [*, go_sem])
           have : w4.cell? ⟨w.heap.size, 3, none⟩ = some (.int .i64 u.room) := (by rw [k4 _ _ (by simp; omega)]; simp [*, go_sem])
           have : w4.cell? ⟨w.heap.size + 1, 0, none⟩ = some (.slice none 0 0) := (by rw [k4 _ _ (by simp; omega)]; simp [*, go_sem]); have : w4.cell? ⟨w.heap.size + 1, 1, none⟩ = some (.int .i64 0) := (by rw [k4 _ _ (by simp; omega)]; simp [*, go_sem]); have : w4.cell? ⟨w.heap.size + 1, 2, none⟩ = some (.int .i64 0) := (by rw [k4 _ _ (by simp; omega)]; simp [*, go_sem]); have : w4.cell? ⟨w.heap.size + 1, 3, none⟩ = some (.int .i64 0) := (by rw [k4 _ _ (by simp; omega)]; simp [*, go_sem])
           have : ∀ o, w4.frozen? ⟨w.heap.size + 1, o, none⟩ = false := fun o => (by rw [f4 _ _ (by simp; omega)]; simp [*, go_sem])
           have ho4 : Own Sess.cells 44 5 w4 (w.heap.size + 2) (.slice A3 (sweptL u.sess now).length cap3) (sweptL u.sess now) := Own.below (by repeat (first | with_reducible exact ho3 | (with_reducible refine Own.setB ?_ ?h _; case h => (first | omega | (simp <;> omega))) | with_reducible refine Own.allc ?_ _ | with_reducible refine Own.dn ?_ _ | with_reducible refine Own.d1 ?_)) hb4
           clear k4 f4)))
      refine bodyPost_ret (v := .tuple #[.agg #[.slice A3 (sweptL u.sess now).length cap3, .int .i64 u.next, .int .i64 u.lasts, .int .i64 u.room], .int .i64 i, .int .i64 0]) ?_ rfl ⟨_, rfl, ?_, (by repeat (first | with_reducible exact Below.refl _ _ | with_reducible assumption | (with_reducible refine Below.alloc ?_ ?h _; case h => (first | omega | (simp <;> omega))) | (with_reducible refine Below.setCell ?_ ?h _; case h => (first | omega | (simp <;> omega))) | with_reducible refine Below.drew ?_ | with_reducible refine below_dn ?_ _))⟩
      · simp [results, Try.results27, go_sem, *]
      · exact (Own.more (base := w.heap.size + 2) (by repeat (first | with_reducible exact ho4 | (with_reducible refine Own.setB ?_ ?h _; case h => (first | omega | (simp <;> omega))) | with_reducible refine Own.allc ?_ _ | with_reducible refine Own.dn ?_ _ | with_reducible refine Own.d1 ?_)) (by omega))
end Go.Proofs.Ytdcigjpanpcaaaa
