/- The law UploadChecks where begin has an error; and whole. -/
import Derived.Test.YtdcigjpanpcaaaaLChecks
namespace Go.Proofs.Ytdcigjpanpcaaaa
open Go.RowKit

set_option maxRecDepth 100000 in
set_option maxHeartbeats 8000000 in
theorem lawChecks_bad (v : Value) (u : Upl) (now : Int) (w : World) (hs1 : Sl Sess.cells 5 w w.heap.size v u.sess) (ho : ∀ s ∈ u.sess, s.ok) (h0 : beginErr u now ≠ 0) :
    Calls Try.prog 5 #[.agg #[v, .int .i64 u.next, .int .i64 u.lasts, .int .i64 u.room], .int .i64 now] w fun e w' => e = .returned (.bool true) ∧ Below w.heap.size w w' := by
  have hSw := Lib.hid (fun (v : Value) (W : World) (h1 : Sl Sess.cells 5 W w.heap.size v u.sess) (h2 : w.heap.size ≤ W.heap.size) => sweep_any v u now W w.heap.size h1 h2 ho)
  have hBe := Lib.hid (fun (v : Value) (W : World) (h1 : Sl Sess.cells 5 W w.heap.size v u.sess) (h2 : w.heap.size ≤ W.heap.size) => beginR_any v u now W w.heap.size h1 h2 ho)
  simp only [upRes, if_neg h0, noUp] at hSw
  have h0' : (beginErr u now == 0) = false := by simpa using h0
  clear h0
  obtain ⟨A, cap, rfl, _, _, _⟩ := hs1.form
  go_enter Try.func5, Try.ntmps5
  go_wp2_with (first
    | (go_at_call 20
       go_must (
       refine (hSw.out _ _ (hs1.below (by repeat (first | with_reducible exact Below.refl _ _ | with_reducible assumption | (with_reducible refine Below.alloc ?_ ?h _; case h => (first | omega | (simp <;> omega))) | (with_reducible refine Below.setCell ?_ ?h _; case h => (first | omega | (simp <;> omega))) | with_reducible refine Below.drew ?_ | with_reducible refine below_dn ?_ _))) (by simp only [als]; omega)).mono ?_
       rintro e w1 ⟨v1, rfl, ho1, hb1⟩
       obtain ⟨k1, f1, z1⟩ := after hb1
       simp only [als] at k1 f1 z1
       obtain ⟨A1, cap1, rfl⟩ := ho1.val
       replace ho1 := Own.sl Sess.cells_len ho1
       have hx : Below w.heap.size w w1 := Below.trans (by repeat (first | with_reducible exact Below.refl _ _ | with_reducible assumption | (with_reducible refine Below.alloc ?_ ?h _; case h => (first | omega | (simp <;> omega))) | (with_reducible refine Below.setCell ?_ ?h _; case h => (first | omega | (simp <;> omega))) | with_reducible refine Below.drew ?_ | with_reducible refine below_dn ?_ _)) (hb1.mono (by simp only [als]; omega))
       have : w1.cell? ⟨w.heap.size, 0, none⟩ = some (.slice A u.sess.length cap) := (by simp [k1, go_sem]); have : w1.cell? ⟨w.heap.size, 1, none⟩ = some (.int .i64 u.next) := (by simp [k1, go_sem]); have : w1.cell? ⟨w.heap.size, 2, none⟩ = some (.int .i64 u.lasts) := (by simp [k1, go_sem]); have : w1.cell? ⟨w.heap.size, 3, none⟩ = some (.int .i64 u.room) := (by simp [k1, go_sem])
       have y2 : w.heap.size < w1.heap.size := by omega
       clear k1 f1))
    | (go_at_call 21
       go_must (
       refine (hBe.out _ _ (hs1.below (by repeat (first | with_reducible exact Below.refl _ _ | with_reducible assumption | (with_reducible refine Below.alloc ?_ ?h _; case h => (first | omega | (simp <;> omega))) | (with_reducible refine Below.setCell ?_ ?h _; case h => (first | omega | (simp <;> omega))) | with_reducible refine Below.drew ?_ | with_reducible refine below_dn ?_ _))) (by simp only [als]; omega)).mono ?_
       rintro e w2 ⟨rfl, hb2⟩
       obtain ⟨k2, f2, z2⟩ := after hb2
       simp only [als] at k2 f2 z2
       have hx2 : Below w.heap.size w w2 := Below.trans (by repeat (first | with_reducible exact Below.refl _ _ | with_reducible assumption | (with_reducible refine Below.alloc ?_ ?h _; case h => (first | omega | (simp <;> omega))) | (with_reducible refine Below.setCell ?_ ?h _; case h => (first | omega | (simp <;> omega))) | with_reducible refine Below.drew ?_ | with_reducible refine below_dn ?_ _)) (hb2.mono (by simp only [als]; omega))
       have ho2 := ho1.below (Below.trans (b := w1.alloc _) ((Below.refl _ _).alloc (Nat.le_refl _) _) (hb2.mono (by simp)))
       have : w2.cell? ⟨w.heap.size, 0, none⟩ = some (.slice A u.sess.length cap) := (by rw [k2 _ _ (by omega)]; simp [*, go_sem]); have : w2.cell? ⟨w.heap.size, 1, none⟩ = some (.int .i64 u.next) := (by rw [k2 _ _ (by omega)]; simp [*, go_sem]); have : w2.cell? ⟨w.heap.size, 2, none⟩ = some (.int .i64 u.lasts) := (by rw [k2 _ _ (by omega)]; simp [*, go_sem]); have : w2.cell? ⟨w.heap.size, 3, none⟩ = some (.int .i64 u.room) := (by rw [k2 _ _ (by omega)]; simp [*, go_sem])
       have : w2.cell? ⟨w1.heap.size, 0, none⟩ = some (.slice A1 0 cap1) := (by simp [k2, go_sem])
       have : w2.cell? ⟨w1.heap.size, 1, none⟩ = some (.int .i64 0) := (by simp [k2, go_sem])
       have : w2.cell? ⟨w1.heap.size, 2, none⟩ = some (.int .i64 0) := (by simp [k2, go_sem])
       have : w2.cell? ⟨w1.heap.size, 3, none⟩ = some (.int .i64 0) := (by simp [k2, go_sem])
       have y3 : w1.heap.size < w2.heap.size := by omega
       have y6 : w.heap.size < w2.heap.size := by omega
       clear k2 f2)))
  obtain ⟨W, hW⟩ : ∃ W, W = w2.alloc (.cells #[.slice none 0 0, .int .i64 0, .int .i64 0, .int .i64 0] 24) := ⟨_, rfl⟩
  rw [← hW]
  have hWs : W.heap.size = w2.heap.size + 1 := by rw [hW]; simp
  have hWB : Below w.heap.size w W := by rw [hW]; exact (by repeat (first | with_reducible exact Below.refl _ _ | with_reducible assumption | (with_reducible refine Below.alloc ?_ ?h _; case h => (first | omega | (simp <;> omega))) | (with_reducible refine Below.setCell ?_ ?h _; case h => (first | omega | (simp <;> omega))) | with_reducible refine Below.drew ?_ | with_reducible refine below_dn ?_ _))
  have r0 : W.cell? ⟨w.heap.size, 0, none⟩ = some (.slice A u.sess.length cap) ∧ W.cell? ⟨w.heap.size, 1, none⟩ = some (.int .i64 u.next) ∧ W.cell? ⟨w.heap.size, 2, none⟩ = some (.int .i64 u.lasts) ∧ W.cell? ⟨w.heap.size, 3, none⟩ = some (.int .i64 u.room) ∧
      W.cell? ⟨w1.heap.size, 0, none⟩ = some (.slice A1 0 cap1) ∧ W.cell? ⟨w1.heap.size, 1, none⟩ = some (.int .i64 0) ∧ W.cell? ⟨w1.heap.size, 2, none⟩ = some (.int .i64 0) ∧ W.cell? ⟨w1.heap.size, 3, none⟩ = some (.int .i64 0) ∧
      W.cell? ⟨w2.heap.size, 0, none⟩ = some (.slice none 0 0) ∧ W.cell? ⟨w2.heap.size, 1, none⟩ = some (.int .i64 0) ∧ W.cell? ⟨w2.heap.size, 2, none⟩ = some (.int .i64 0) ∧ W.cell? ⟨w2.heap.size, 3, none⟩ = some (.int .i64 0) ∧ Below W.heap.size W W := by
    have n1 : w2.heap.size ≠ w.heap.size := by omega
    have n2 : w2.heap.size ≠ w1.heap.size := by omega
    have n3 : w.heap.size ≠ w2.heap.size := by omega
    have n4 : w1.heap.size ≠ w2.heap.size := by omega
    refine ⟨?_, ?_, ?_, ?_, ?_, ?_, ?_, ?_, ?_, ?_, ?_, ?_, Below.refl _ _⟩ <;> (rw [hW]; simp [*, go_sem])
  have hl3 : Sl Sess.cells 5 W W.heap.size (.slice none 0 0) ([] : List Sess) := Sl.nil
  have hl1 : Sl Sess.cells 5 W W.heap.size (.slice A1 0 cap1) ([] : List Sess) := by
    have h1 : Below w1.heap.size w1 W := by
      rw [hW]
      have q1 : Below w1.heap.size w1 w2 := Below.trans ((Below.refl _ w1).alloc (Nat.le_refl _) _) (hb2.mono (by simp))
      exact (by repeat (first | with_reducible exact Below.refl _ _ | with_reducible assumption | (with_reducible refine Below.alloc ?_ ?h _; case h => (first | omega | (simp <;> omega))) | (with_reducible refine Below.setCell ?_ ?h _; case h => (first | omega | (simp <;> omega))) | with_reducible refine Below.drew ?_ | with_reducible refine below_dn ?_ _))
    exact (ho1.below h1).more h1.size
  have hl0 : Sl Sess.cells 5 W W.heap.size (.slice A u.sess.length cap) u.sess := (hs1.below hWB).more hWB.size
  have hb0 : w.heap.size < W.heap.size := by omega
  have hb1' : w1.heap.size < W.heap.size := by omega
  have hb2' : w2.heap.size < W.heap.size := by omega
  clear hW hb1 hb2 hx hx2 ho1 ho2 hSw hBe
  go_region_held3 (fun w' => w'.cell? ⟨w.heap.size, 0, none⟩ = some (.slice A u.sess.length cap) ∧ w'.cell? ⟨w.heap.size, 1, none⟩ = some (.int .i64 u.next) ∧ w'.cell? ⟨w.heap.size, 2, none⟩ = some (.int .i64 u.lasts) ∧ w'.cell? ⟨w.heap.size, 3, none⟩ = some (.int .i64 u.room) ∧
      w'.cell? ⟨w1.heap.size, 0, none⟩ = some (.slice A1 0 cap1) ∧ w'.cell? ⟨w1.heap.size, 1, none⟩ = some (.int .i64 0) ∧ w'.cell? ⟨w1.heap.size, 2, none⟩ = some (.int .i64 0) ∧ w'.cell? ⟨w1.heap.size, 3, none⟩ = some (.int .i64 0) ∧
      w'.cell? ⟨w2.heap.size, 0, none⟩ = some (.slice none 0 0) ∧ w'.cell? ⟨w2.heap.size, 1, none⟩ = some (.int .i64 0) ∧ w'.cell? ⟨w2.heap.size, 2, none⟩ = some (.int .i64 0) ∧ w'.cell? ⟨w2.heap.size, 3, none⟩ = some (.int .i64 0) ∧ Below W.heap.size W w')
    (first
      | exact drew12 r0
      | exact keep12 hb0 hb1' hb2' h9 (by assumption))
    (first
      | (go_at_call 16; refine (uploadBegun_any _).mono ?_; rintro e w9 ⟨rfl, h9⟩)
      | (go_at_call 23; refine (check_any _ u _ W.heap.size (hl0.below (last12 (by assumption))) (last12 (by assumption)).size ho).mono ?_; rintro e w9 ⟨rfl, h9⟩)
      | (go_at_call 24; refine (checkR_any _ u _ W.heap.size (hl0.below (last12 (by assumption))) (last12 (by assumption)).size ho).mono ?_; rintro e w9 ⟨rfl, h9⟩)
      | (go_at_call 17; refine (same_any _ _ ([] : List Sess) _ _ _ _ W.heap.size (hl1.below (last12 (by assumption))) (hl3.below (last12 (by assumption))) (last12 (by assumption)).size).mono ?_; rintro e w9 ⟨rfl, h9⟩))
  rename_i hS
  have hfin := last12 hS
  go_wp2_with fail
  go_ret
  exact ⟨rfl, hWB.trans (hfin.mono hWB.size)⟩

theorem lawChecks (v : Value) (u : Upl) (now : Int) (w : World) (hs1 : Sl Sess.cells 5 w w.heap.size v u.sess) (ho : ∀ s ∈ u.sess, s.ok) :
    Calls Try.prog 5 #[.agg #[v, .int .i64 u.next, .int .i64 u.lasts, .int .i64 u.room], .int .i64 now] w fun e w' => e = .returned (.bool true) ∧ Below w.heap.size w w' := by
  by_cases h : beginErr u now = 0
  · exact lawChecks_ok v u now w hs1 ho h
  · exact lawChecks_bad v u now w hs1 ho h
end Go.Proofs.Ytdcigjpanpcaaaa
