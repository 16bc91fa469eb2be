/- The law UploadChecks: its walk: it answers true, whatever uploads it is handed. -/
import Derived.Test.YtdcigjpanpcaaaaUpU
namespace Go.Proofs.Ytdcigjpanpcaaaa
open Go.RowKit

/-- Twelve cells of three boxes. -/
theorem keep12 {W w' w'' : World} {a b c : Nat} {u0 u1 u2 u3 x0 x1 x2 x3 z0 z1 z2 z3 : Value} (ha : a < W.heap.size) (hb : b < W.heap.size) (hc : c < W.heap.size) (h2 : Below w'.heap.size w' w'')
    (h : w'.cell? ⟨a, 0, none⟩ = some u0 ∧ w'.cell? ⟨a, 1, none⟩ = some u1 ∧ w'.cell? ⟨a, 2, none⟩ = some u2 ∧ w'.cell? ⟨a, 3, none⟩ = some u3 ∧
      w'.cell? ⟨b, 0, none⟩ = some x0 ∧ w'.cell? ⟨b, 1, none⟩ = some x1 ∧ w'.cell? ⟨b, 2, none⟩ = some x2 ∧ w'.cell? ⟨b, 3, none⟩ = some x3 ∧
      w'.cell? ⟨c, 0, none⟩ = some z0 ∧ w'.cell? ⟨c, 1, none⟩ = some z1 ∧ w'.cell? ⟨c, 2, none⟩ = some z2 ∧ w'.cell? ⟨c, 3, none⟩ = some z3 ∧ Below W.heap.size W w') :
    w''.cell? ⟨a, 0, none⟩ = some u0 ∧ w''.cell? ⟨a, 1, none⟩ = some u1 ∧ w''.cell? ⟨a, 2, none⟩ = some u2 ∧ w''.cell? ⟨a, 3, none⟩ = some u3 ∧
      w''.cell? ⟨b, 0, none⟩ = some x0 ∧ w''.cell? ⟨b, 1, none⟩ = some x1 ∧ w''.cell? ⟨b, 2, none⟩ = some x2 ∧ w''.cell? ⟨b, 3, none⟩ = some x3 ∧
      w''.cell? ⟨c, 0, none⟩ = some z0 ∧ w''.cell? ⟨c, 1, none⟩ = some z1 ∧ w''.cell? ⟨c, 2, none⟩ = some z2 ∧ w''.cell? ⟨c, 3, none⟩ = some z3 ∧ Below W.heap.size W w'' := by
  obtain ⟨a0, a1, a2, a3, b0, b1, b2, b3, c0, c1, c2, c3, hB⟩ := h
  have hz := hB.size
  exact ⟨bcs h2 (by omega) a0, bcs h2 (by omega) a1, bcs h2 (by omega) a2, bcs h2 (by omega) a3, bcs h2 (by omega) b0, bcs h2 (by omega) b1, bcs h2 (by omega) b2, bcs h2 (by omega) b3,
    bcs h2 (by omega) c0, bcs h2 (by omega) c1, bcs h2 (by omega) c2, bcs h2 (by omega) c3, hB.trans (h2.mono hz)⟩

theorem drew12 {W w' : World} {a b c : Nat} {u0 u1 u2 u3 x0 x1 x2 x3 z0 z1 z2 z3 : Value} (h : w'.cell? ⟨a, 0, none⟩ = some u0 ∧ w'.cell? ⟨a, 1, none⟩ = some u1 ∧ w'.cell? ⟨a, 2, none⟩ = some u2 ∧ w'.cell? ⟨a, 3, none⟩ = some u3 ∧ w'.cell? ⟨b, 0, none⟩ = some x0 ∧ w'.cell? ⟨b, 1, none⟩ = some x1 ∧ w'.cell? ⟨b, 2, none⟩ = some x2 ∧ w'.cell? ⟨b, 3, none⟩ = some x3 ∧ w'.cell? ⟨c, 0, none⟩ = some z0 ∧ w'.cell? ⟨c, 1, none⟩ = some z1 ∧ w'.cell? ⟨c, 2, none⟩ = some z2 ∧ w'.cell? ⟨c, 3, none⟩ = some z3 ∧ Below W.heap.size W w') :
    w'.drew.cell? ⟨a, 0, none⟩ = some u0 ∧ w'.drew.cell? ⟨a, 1, none⟩ = some u1 ∧ w'.drew.cell? ⟨a, 2, none⟩ = some u2 ∧ w'.drew.cell? ⟨a, 3, none⟩ = some u3 ∧ w'.drew.cell? ⟨b, 0, none⟩ = some x0 ∧ w'.drew.cell? ⟨b, 1, none⟩ = some x1 ∧ w'.drew.cell? ⟨b, 2, none⟩ = some x2 ∧ w'.drew.cell? ⟨b, 3, none⟩ = some x3 ∧ w'.drew.cell? ⟨c, 0, none⟩ = some z0 ∧ w'.drew.cell? ⟨c, 1, none⟩ = some z1 ∧ w'.drew.cell? ⟨c, 2, none⟩ = some z2 ∧ w'.drew.cell? ⟨c, 3, none⟩ = some z3 ∧ Below W.heap.size W w'.drew := by
  obtain ⟨a0, a1, a2, a3, b0, b1, b2, b3, c0, c1, c2, c3, hB⟩ := h
  exact ⟨a0, a1, a2, a3, b0, b1, b2, b3, c0, c1, c2, c3, hB.drew⟩
theorem last12 {W w' : World} {p0 p1 p2 p3 p4 p5 p6 p7 p8 p9 p10 p11 : Prop} (h : p0 ∧ p1 ∧ p2 ∧ p3 ∧ p4 ∧ p5 ∧ p6 ∧ p7 ∧ p8 ∧ p9 ∧ p10 ∧ p11 ∧ Below W.heap.size W w') : Below W.heap.size W w' := h.2.2.2.2.2.2.2.2.2.2.2.2

set_option maxRecDepth 100000 in
set_option maxHeartbeats 8000000 in
theorem lawChecks_ok (v : Value) (u : Upl) (now : Int) (w : World) (hs1 : Sl Sess.cells 5 w w.heap.size v u.sess) (ho : ∀ s ∈ u.sess, s.ok) (h0 : beginErr u now = 0) :
    Calls Try.prog 5 #[.agg #[v, .int .i64 u.next, .int .i64 u.lasts, .int .i64 u.room], .int .i64 now] w fun e w' => e = .returned (.bool true) ∧ Below w.heap.size w w' := by
  have hlen := (upErr_zero (begin_zero h0).1).2.1
  have hSw := Lib.hid (fun (v : Value) (W : World) (h1 : Sl Sess.cells 5 W w.heap.size v u.sess) (h2 : w.heap.size ≤ W.heap.size) => sweep_any v u now W w.heap.size h1 h2 ho)
  have hBe := Lib.hid (fun (v : Value) (W : World) (h1 : Sl Sess.cells 5 W w.heap.size v u.sess) (h2 : w.heap.size ≤ W.heap.size) => beginR_any v u now W w.heap.size h1 h2 ho)
  have hSR := Lib.hid (fun (v : Value) (W : World) (h1 : Sl Sess.cells 5 W w.heap.size v u.sess) (h2 : w.heap.size ≤ W.heap.size) => sweepR_any v u.sess u.next u.lasts u.room now W w.heap.size h1 h2 (by omega))
  simp only [upRes, h0, if_true, sweptU] at hSw hBe
  obtain ⟨A, cap, rfl, _, _, _⟩ := hs1.form
  go_enter Try.func5, Try.ntmps5
  go_wp2_with (first
    | (go_at_call 20
       go_must (
       refine (hSw.out _ _ (hs1.below (by repeat (first | with_reducible exact Below.refl _ _ | with_reducible assumption | (with_reducible refine Below.alloc ?_ ?h _; case h => (first | omega | (simp <;> omega))) | (with_reducible refine Below.setCell ?_ ?h _; case h => (first | omega | (simp <;> omega))) | with_reducible refine Below.drew ?_ | with_reducible refine below_dn ?_ _))) (by simp only [als]; omega)).mono ?_
       rintro e w1 ⟨v1, rfl, ho1, hb1⟩
       obtain ⟨k1, f1, z1⟩ := after hb1
       simp only [als] at k1 f1 z1
       obtain ⟨A1, cap1, rfl⟩ := ho1.val
       replace ho1 := Own.sl Sess.cells_len ho1
       have hx : Below w.heap.size w w1 := Below.trans (by repeat (first | with_reducible exact Below.refl _ _ | with_reducible assumption | (with_reducible refine Below.alloc ?_ ?h _; case h => (first | omega | (simp <;> omega))) | (with_reducible refine Below.setCell ?_ ?h _; case h => (first | omega | (simp <;> omega))) | with_reducible refine Below.drew ?_ | with_reducible refine below_dn ?_ _)) (hb1.mono (by simp only [als]; omega))
       have : w1.cell? ⟨w.heap.size, 0, none⟩ = some (.slice A u.sess.length cap) := (by simp [k1, go_sem]); have : w1.cell? ⟨w.heap.size, 1, none⟩ = some (.int .i64 u.next) := (by simp [k1, go_sem]); have : w1.cell? ⟨w.heap.size, 2, none⟩ = some (.int .i64 u.lasts) := (by simp [k1, go_sem]); have : w1.cell? ⟨w.heap.size, 3, none⟩ = some (.int .i64 u.room) := (by simp [k1, go_sem])
       have y2 : w.heap.size < w1.heap.size := by omega
       clear k1 f1))
    | (go_at_call 21
       go_must (
       refine (hBe.out _ _ (hs1.below (by repeat (first | with_reducible exact Below.refl _ _ | with_reducible assumption | (with_reducible refine Below.alloc ?_ ?h _; case h => (first | omega | (simp <;> omega))) | (with_reducible refine Below.setCell ?_ ?h _; case h => (first | omega | (simp <;> omega))) | with_reducible refine Below.drew ?_ | with_reducible refine below_dn ?_ _))) (by simp only [als]; omega)).mono ?_
       rintro e w2 ⟨rfl, hb2⟩
       obtain ⟨k2, f2, z2⟩ := after hb2
       simp only [als] at k2 f2 z2
       have hx2 : Below w.heap.size w w2 := Below.trans (by repeat (first | with_reducible exact Below.refl _ _ | with_reducible assumption | (with_reducible refine Below.alloc ?_ ?h _; case h => (first | omega | (simp <;> omega))) | (with_reducible refine Below.setCell ?_ ?h _; case h => (first | omega | (simp <;> omega))) | with_reducible refine Below.drew ?_ | with_reducible refine below_dn ?_ _)) (hb2.mono (by simp only [als]; omega))
       have ho2 := ho1.below (Below.trans (b := w1.alloc _) ((Below.refl _ _).alloc (Nat.le_refl _) _) (hb2.mono (by simp)))
       have : w2.cell? ⟨w.heap.size, 0, none⟩ = some (.slice A u.sess.length cap) := (by rw [k2 _ _ (by omega)]; simp [*, go_sem]); have : w2.cell? ⟨w.heap.size, 1, none⟩ = some (.int .i64 u.next) := (by rw [k2 _ _ (by omega)]; simp [*, go_sem]); have : w2.cell? ⟨w.heap.size, 2, none⟩ = some (.int .i64 u.lasts) := (by rw [k2 _ _ (by omega)]; simp [*, go_sem]); have : w2.cell? ⟨w.heap.size, 3, none⟩ = some (.int .i64 u.room) := (by rw [k2 _ _ (by omega)]; simp [*, go_sem])
       have : w2.cell? ⟨w1.heap.size, 0, none⟩ = some (.slice A1 (sweptL u.sess now).length cap1) := (by simp [k2, go_sem])
       have : w2.cell? ⟨w1.heap.size, 1, none⟩ = some (.int .i64 u.next) := (by simp [k2, go_sem])
       have : w2.cell? ⟨w1.heap.size, 2, none⟩ = some (.int .i64 u.lasts) := (by simp [k2, go_sem])
       have : w2.cell? ⟨w1.heap.size, 3, none⟩ = some (.int .i64 u.room) := (by simp [k2, go_sem])
       have y3 : w1.heap.size < w2.heap.size := by omega
       have y6 : w.heap.size < w2.heap.size := by omega
       clear k2 f2))
    | (go_at_call 22
       go_must (
       refine (hSR.out _ _ (hs1.below (by repeat (first | with_reducible exact Below.refl _ _ | with_reducible assumption | (with_reducible refine Below.alloc ?_ ?h _; case h => (first | omega | (simp <;> omega))) | (with_reducible refine Below.setCell ?_ ?h _; case h => (first | omega | (simp <;> omega))) | with_reducible refine Below.drew ?_ | with_reducible refine below_dn ?_ _))) (by simp only [als]; omega)).mono ?_
       rintro e w3 ⟨v3, rfl, ho3, hb3⟩
       obtain ⟨k3, f3, z3⟩ := after hb3
       simp only [als] at k3 f3 z3
       obtain ⟨A3, cap3, rfl⟩ := ho3.val
       replace ho3 := ho3.more (base' := w2.heap.size + 1) (by simp)
       have hx3 : Below w.heap.size w w3 := Below.trans (by repeat (first | with_reducible exact Below.refl _ _ | with_reducible assumption | (with_reducible refine Below.alloc ?_ ?h _; case h => (first | omega | (simp <;> omega))) | (with_reducible refine Below.setCell ?_ ?h _; case h => (first | omega | (simp <;> omega))) | with_reducible refine Below.drew ?_ | with_reducible refine below_dn ?_ _)) (hb3.mono (by simp only [als]; omega))
       have : w3.cell? ⟨w.heap.size, 0, none⟩ = some (.slice A u.sess.length cap) := (by rw [k3 _ _ (by omega)]; simp [*, go_sem]); have : w3.cell? ⟨w.heap.size, 1, none⟩ = some (.int .i64 u.next) := (by rw [k3 _ _ (by omega)]; simp [*, go_sem]); have : w3.cell? ⟨w.heap.size, 2, none⟩ = some (.int .i64 u.lasts) := (by rw [k3 _ _ (by omega)]; simp [*, go_sem]); have : w3.cell? ⟨w.heap.size, 3, none⟩ = some (.int .i64 u.room) := (by rw [k3 _ _ (by omega)]; simp [*, go_sem])
       have : w3.cell? ⟨w1.heap.size, 0, none⟩ = some (.slice A1 (sweptL u.sess now).length cap1) := (by rw [k3 _ _ (by omega)]; simp [*, go_sem])
       have : w3.cell? ⟨w1.heap.size, 1, none⟩ = some (.int .i64 u.next) := (by rw [k3 _ _ (by omega)]; simp [*, go_sem])
       have : w3.cell? ⟨w1.heap.size, 2, none⟩ = some (.int .i64 u.lasts) := (by rw [k3 _ _ (by omega)]; simp [*, go_sem])
       have : w3.cell? ⟨w1.heap.size, 3, none⟩ = some (.int .i64 u.room) := (by rw [k3 _ _ (by omega)]; simp [*, go_sem])
       have : w3.cell? ⟨w2.heap.size, 0, none⟩ = some (.slice none 0 0) := (by simp [k3, go_sem]); have : w3.cell? ⟨w2.heap.size, 1, none⟩ = some (.int .i64 0) := (by simp [k3, go_sem]); have : w3.cell? ⟨w2.heap.size, 2, none⟩ = some (.int .i64 0) := (by simp [k3, go_sem]); have : w3.cell? ⟨w2.heap.size, 3, none⟩ = some (.int .i64 0) := (by simp [k3, go_sem])
       have : ∀ o, w3.frozen? ⟨w2.heap.size, o, none⟩ = false := fun o => (by rw [f3 _ _ (by omega)]; simp [fz_alc, fz_out])
       have y4 : w1.heap.size < w3.heap.size := by omega
       have y5 : w2.heap.size < w3.heap.size := by omega
       have y7 : w.heap.size < w3.heap.size := by omega
       clear k3 f3)))
  obtain ⟨W, hW⟩ : ∃ W, W = (((w3.setCell ⟨w2.heap.size, 0, none⟩ (.slice A3 (sweptL u.sess now).length cap3)).setCell ⟨w2.heap.size, 1, none⟩ (.int .i64 u.next)).setCell ⟨w2.heap.size, 2, none⟩ (.int .i64 u.lasts)).setCell ⟨w2.heap.size, 3, none⟩ (.int .i64 u.room) := ⟨_, rfl⟩
  rw [← hW]
  have hWs : W.heap.size = w3.heap.size := by rw [hW]; simp
  have hWB : Below w.heap.size w W := by rw [hW]; exact (by repeat (first | with_reducible exact Below.refl _ _ | with_reducible assumption | (with_reducible refine Below.alloc ?_ ?h _; case h => (first | omega | (simp <;> omega))) | (with_reducible refine Below.setCell ?_ ?h _; case h => (first | omega | (simp <;> omega))) | with_reducible refine Below.drew ?_ | with_reducible refine below_dn ?_ _))
  have r0 : W.cell? ⟨w.heap.size, 0, none⟩ = some (.slice A u.sess.length cap) ∧ W.cell? ⟨w.heap.size, 1, none⟩ = some (.int .i64 u.next) ∧ W.cell? ⟨w.heap.size, 2, none⟩ = some (.int .i64 u.lasts) ∧ W.cell? ⟨w.heap.size, 3, none⟩ = some (.int .i64 u.room) ∧
      W.cell? ⟨w1.heap.size, 0, none⟩ = some (.slice A1 (sweptL u.sess now).length cap1) ∧ W.cell? ⟨w1.heap.size, 1, none⟩ = some (.int .i64 u.next) ∧ W.cell? ⟨w1.heap.size, 2, none⟩ = some (.int .i64 u.lasts) ∧ W.cell? ⟨w1.heap.size, 3, none⟩ = some (.int .i64 u.room) ∧
      W.cell? ⟨w2.heap.size, 0, none⟩ = some (.slice A3 (sweptL u.sess now).length cap3) ∧ W.cell? ⟨w2.heap.size, 1, none⟩ = some (.int .i64 u.next) ∧ W.cell? ⟨w2.heap.size, 2, none⟩ = some (.int .i64 u.lasts) ∧ W.cell? ⟨w2.heap.size, 3, none⟩ = some (.int .i64 u.room) ∧ Below W.heap.size W W := by
    have n1 : w2.heap.size ≠ w.heap.size := by omega
    have n2 : w2.heap.size ≠ w1.heap.size := by omega
    have n3 : w.heap.size ≠ w2.heap.size := by omega
    have n4 : w1.heap.size ≠ w2.heap.size := by omega
    refine ⟨?_, ?_, ?_, ?_, ?_, ?_, ?_, ?_, ?_, ?_, ?_, ?_, Below.refl _ _⟩ <;> (rw [hW]; simp [*, go_sem])
  have hl3 : Sl Sess.cells 5 W W.heap.size (.slice A3 (sweptL u.sess now).length cap3) (sweptL u.sess now) := by
    rw [hW]
    exact Own.sl (E := 44) (base := w2.heap.size + 1) Sess.cells_len (by repeat (first | with_reducible exact ho3 | (with_reducible refine Own.setB ?_ ?h _; case h => (first | omega | (simp <;> omega))) | with_reducible refine Own.allc ?_ _ | with_reducible refine Own.dn ?_ _ | with_reducible refine Own.d1 ?_))
  have hl1 : Sl Sess.cells 5 W W.heap.size (.slice A1 (sweptL u.sess now).length cap1) (sweptL u.sess now) := by
    have h1 : Below w1.heap.size w1 W := by
      rw [hW]
      have q1 : Below w1.heap.size w1 w2 := Below.trans ((Below.refl _ w1).alloc (Nat.le_refl _) _) (hb2.mono (by simp))
      have q2 : Below w1.heap.size w1 w3 := Below.trans (q1.alloc (by omega) _) (hb3.mono (by simp; omega))
      exact (by repeat (first | with_reducible exact Below.refl _ _ | with_reducible assumption | (with_reducible refine Below.alloc ?_ ?h _; case h => (first | omega | (simp <;> omega))) | (with_reducible refine Below.setCell ?_ ?h _; case h => (first | omega | (simp <;> omega))) | with_reducible refine Below.drew ?_ | with_reducible refine below_dn ?_ _))
    exact (ho1.below h1).more h1.size
  have hl0 : Sl Sess.cells 5 W W.heap.size (.slice A u.sess.length cap) u.sess := (hs1.below hWB).more hWB.size
  have hb0 : w.heap.size < W.heap.size := by omega
  have hb1' : w1.heap.size < W.heap.size := by omega
  have hb2' : w2.heap.size < W.heap.size := by omega
  clear hW hb1 hb2 hb3 hx hx2 hx3 ho1 ho2 ho3 hSw hBe hSR
  go_region_held3 (fun w' => w'.cell? ⟨w.heap.size, 0, none⟩ = some (.slice A u.sess.length cap) ∧ w'.cell? ⟨w.heap.size, 1, none⟩ = some (.int .i64 u.next) ∧ w'.cell? ⟨w.heap.size, 2, none⟩ = some (.int .i64 u.lasts) ∧ w'.cell? ⟨w.heap.size, 3, none⟩ = some (.int .i64 u.room) ∧
      w'.cell? ⟨w1.heap.size, 0, none⟩ = some (.slice A1 (sweptL u.sess now).length cap1) ∧ w'.cell? ⟨w1.heap.size, 1, none⟩ = some (.int .i64 u.next) ∧ w'.cell? ⟨w1.heap.size, 2, none⟩ = some (.int .i64 u.lasts) ∧ w'.cell? ⟨w1.heap.size, 3, none⟩ = some (.int .i64 u.room) ∧
      w'.cell? ⟨w2.heap.size, 0, none⟩ = some (.slice A3 (sweptL u.sess now).length cap3) ∧ w'.cell? ⟨w2.heap.size, 1, none⟩ = some (.int .i64 u.next) ∧ w'.cell? ⟨w2.heap.size, 2, none⟩ = some (.int .i64 u.lasts) ∧ w'.cell? ⟨w2.heap.size, 3, none⟩ = some (.int .i64 u.room) ∧ Below W.heap.size W w')
    (first
      | exact drew12 r0
      | exact keep12 hb0 hb1' hb2' h9 (by assumption))
    (first
      | (go_at_call 16; refine (uploadBegun_any _).mono ?_; rintro e w9 ⟨rfl, h9⟩)
      | (go_at_call 23; refine (check_any _ u _ W.heap.size (hl0.below (last12 (by assumption))) (last12 (by assumption)).size ho).mono ?_; rintro e w9 ⟨rfl, h9⟩)
      | (go_at_call 24; refine (checkR_any _ u _ W.heap.size (hl0.below (last12 (by assumption))) (last12 (by assumption)).size ho).mono ?_; rintro e w9 ⟨rfl, h9⟩)
      | (go_at_call 17; refine (same_any _ _ (sweptL u.sess now) _ _ _ _ W.heap.size (hl1.below (last12 (by assumption))) (hl3.below (last12 (by assumption))) (last12 (by assumption)).size).mono ?_; rintro e w9 ⟨rfl, h9⟩))
  rename_i hS
  have hfin := last12 hS
  go_wp2_with fail
  go_ret
  exact ⟨rfl, hWB.trans (hfin.mono hWB.size)⟩
end Go.Proofs.Ytdcigjpanpcaaaa
