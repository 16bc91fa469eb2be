/- The law UploadAppends: its walk. -/
import Derived.Test.YtdcigjpanpcaaaaUpZ
import Derived.Test.YtdcigjpanpcaaaaUpU
namespace Go.Proofs.Ytdcigjpanpcaaaa
open Go.RowKit

set_option maxRecDepth 100000 in
set_option maxHeartbeats 8000000 in
theorem lawAppends_of (v : Value) (u : Upl) (who : Str) (number offset : Int) (text : Str) (now : Int) (w : World) (hs1 : Sl Sess.cells 5 w w.heap.size v u.sess) (nx la ro n er : Int) (l : List Sess)
    (hA : Hid (∀ (v : Value) (W : World), Sl Sess.cells 5 W w.heap.size v u.sess → w.heap.size ≤ W.heap.size → Calls Try.prog 18 #[.agg #[v, .int .i64 u.next, .int .i64 u.lasts, .int .i64 u.room], .string ⟨who.toArray⟩, .int .i64 number, .int .i64 offset, .string ⟨text.toArray⟩, .int .i64 now] W (AppPost W nx la ro n er l)))
    (hR : Hid (∀ (v : Value) (W : World), Sl Sess.cells 5 W w.heap.size v u.sess → w.heap.size ≤ W.heap.size → Calls Try.prog 19 #[.agg #[v, .int .i64 u.next, .int .i64 u.lasts, .int .i64 u.room], .string ⟨who.toArray⟩, .int .i64 number, .int .i64 offset, .string ⟨text.toArray⟩, .int .i64 now] W (AppPost W nx la ro n er l))) :
    Calls Try.prog 4 #[.agg #[v, .int .i64 u.next, .int .i64 u.lasts, .int .i64 u.room], .string ⟨who.toArray⟩, .int .i64 number, .int .i64 offset, .string ⟨text.toArray⟩, .int .i64 now] w fun e w' => e = .returned (.bool true) ∧ Below w.heap.size w w' := by
  obtain ⟨A, cap, rfl, _, _, _⟩ := hs1.form
  go_enter Try.func4, Try.ntmps4
  go_wp2_with (first
    | (go_at_call 18
       go_must (
       refine (hA.out _ _ (hs1.below (by repeat (first | with_reducible exact Below.refl _ _ | with_reducible assumption | (with_reducible refine Below.alloc ?_ ?h _; case h => (first | omega | (simp <;> omega))) | (with_reducible refine Below.setCell ?_ ?h _; case h => (first | omega | (simp <;> omega))) | with_reducible refine Below.drew ?_ | with_reducible refine below_dn ?_ _))) (by simp only [als]; omega)).mono ?_
       rintro e w1 ⟨v1, rfl, ho1, hb1⟩
       obtain ⟨k1, f1, z1⟩ := after hb1
       simp only [als] at k1 f1 z1
       obtain ⟨A1, cap1, rfl⟩ := ho1.val
       replace ho1 := Own.sl Sess.cells_len ho1
       have hx : Below w.heap.size w w1 := Below.trans (by repeat (first | with_reducible exact Below.refl _ _ | with_reducible assumption | (with_reducible refine Below.alloc ?_ ?h _; case h => (first | omega | (simp <;> omega))) | (with_reducible refine Below.setCell ?_ ?h _; case h => (first | omega | (simp <;> omega))) | with_reducible refine Below.drew ?_ | with_reducible refine below_dn ?_ _)) (hb1.mono (by simp only [als]; omega))
       have : w1.cell? ⟨w.heap.size, 0, none⟩ = some (.slice A u.sess.length cap) := (by simp [k1, go_sem]); have : w1.cell? ⟨w.heap.size, 1, none⟩ = some (.int .i64 u.next) := (by simp [k1, go_sem]); have : w1.cell? ⟨w.heap.size, 2, none⟩ = some (.int .i64 u.lasts) := (by simp [k1, go_sem]); have : w1.cell? ⟨w.heap.size, 3, none⟩ = some (.int .i64 u.room) := (by simp [k1, go_sem])
       have y2 : w.heap.size < w1.heap.size := by omega
       clear k1 f1))
    | (go_at_call 19
       go_must (
       refine (hR.out _ _ (hs1.below (by repeat (first | with_reducible exact Below.refl _ _ | with_reducible assumption | (with_reducible refine Below.alloc ?_ ?h _; case h => (first | omega | (simp <;> omega))) | (with_reducible refine Below.setCell ?_ ?h _; case h => (first | omega | (simp <;> omega))) | with_reducible refine Below.drew ?_ | with_reducible refine below_dn ?_ _))) (by simp only [als]; omega)).mono ?_
       rintro e w2 ⟨v2, rfl, ho2, hb2⟩
       obtain ⟨k2, f2, z2⟩ := after hb2
       simp only [als] at k2 f2 z2
       obtain ⟨A2, cap2, rfl⟩ := ho2.val
       replace ho2 := Own.sl Sess.cells_len ho2
       have hx2 : Below w.heap.size w w2 := Below.trans (by repeat (first | with_reducible exact Below.refl _ _ | with_reducible assumption | (with_reducible refine Below.alloc ?_ ?h _; case h => (first | omega | (simp <;> omega))) | (with_reducible refine Below.setCell ?_ ?h _; case h => (first | omega | (simp <;> omega))) | with_reducible refine Below.drew ?_ | with_reducible refine below_dn ?_ _)) (hb2.mono (by simp only [als]; omega))
       have q1 : Below w1.heap.size w1 w2 := Below.trans (b := w1.alloc _) ((Below.refl _ _).alloc (Nat.le_refl _) _) (hb2.mono (by simp))
       have : w2.cell? ⟨w1.heap.size, 0, none⟩ = some (.slice A1 l.length cap1) := (by simp [k2, go_sem])
       have : w2.cell? ⟨w1.heap.size, 1, none⟩ = some (.int .i64 nx) := (by simp [k2, go_sem])
       have : w2.cell? ⟨w1.heap.size, 2, none⟩ = some (.int .i64 la) := (by simp [k2, go_sem])
       have : w2.cell? ⟨w1.heap.size, 3, none⟩ = some (.int .i64 ro) := (by simp [k2, go_sem])
       have y3 : w1.heap.size < w2.heap.size := by omega
       have y6 : w.heap.size < w2.heap.size := by omega
       clear k2 f2))
    | (go_at_call 16
       go_must (
       refine (uploadBegun_any _).mono ?_
       rintro e w3 ⟨rfl, hb3⟩
       obtain ⟨k3, f3, z3⟩ := after hb3
       simp only [als] at k3 f3 z3
       have hx3 : Below w.heap.size w w3 := Below.trans (by repeat (first | with_reducible exact Below.refl _ _ | with_reducible assumption | (with_reducible refine Below.alloc ?_ ?h _; case h => (first | omega | (simp <;> omega))) | (with_reducible refine Below.setCell ?_ ?h _; case h => (first | omega | (simp <;> omega))) | with_reducible refine Below.drew ?_ | with_reducible refine below_dn ?_ _)) (hb3.mono (by simp only [als]; omega))
       have q2 : Below w2.heap.size w2 w3 := Below.trans (b := w2.alloc _) ((Below.refl _ _).alloc (Nat.le_refl _) _) (hb3.mono (by simp))
       have q3 : Below w1.heap.size w1 w3 := q1.trans (q2.mono (by omega))
       have : w3.cell? ⟨w1.heap.size, 0, none⟩ = some (.slice A1 l.length cap1) := (by rw [k3 _ _ (by omega)]; simp [*, go_sem])
       have : w3.cell? ⟨w1.heap.size, 1, none⟩ = some (.int .i64 nx) := (by rw [k3 _ _ (by omega)]; simp [*, go_sem])
       have : w3.cell? ⟨w1.heap.size, 2, none⟩ = some (.int .i64 la) := (by rw [k3 _ _ (by omega)]; simp [*, go_sem])
       have : w3.cell? ⟨w1.heap.size, 3, none⟩ = some (.int .i64 ro) := (by rw [k3 _ _ (by omega)]; simp [*, go_sem])
       have : w3.cell? ⟨w2.heap.size, 0, none⟩ = some (.slice A2 l.length cap2) := (by simp [k3, go_sem])
       have : w3.cell? ⟨w2.heap.size, 1, none⟩ = some (.int .i64 nx) := (by simp [k3, go_sem])
       have : w3.cell? ⟨w2.heap.size, 2, none⟩ = some (.int .i64 la) := (by simp [k3, go_sem])
       have : w3.cell? ⟨w2.heap.size, 3, none⟩ = some (.int .i64 ro) := (by simp [k3, go_sem])
       have hl1 : Sl Sess.cells 5 w3 w3.heap.size (.slice A1 l.length cap1) l := (ho1.below q3).more q3.size
       have hl2 : Sl Sess.cells 5 w3 w3.heap.size (.slice A2 l.length cap2) l := (ho2.below q2).more q2.size
       have y7 : w1.heap.size < w3.heap.size := by omega
       have y8 : w2.heap.size < w3.heap.size := by omega
       clear k3 f3))
    | (go_at_call 17
       go_must (
       refine (same_any _ _ l _ _ _ _ w3.heap.size hl1 hl2 (Nat.le_refl _)).mono ?_
       rintro e w4 ⟨rfl, hb4⟩
       have hx4 : Below w.heap.size w w4 := Below.trans hx3 (hb4.mono (by omega)))))
  go_ret
  exact ⟨rfl, (by repeat (first | with_reducible exact Below.refl _ _ | with_reducible assumption | (with_reducible refine Below.alloc ?_ ?h _; case h => (first | omega | (simp <;> omega))) | (with_reducible refine Below.setCell ?_ ?h _; case h => (first | omega | (simp <;> omega))) | with_reducible refine Below.drew ?_ | with_reducible refine below_dn ?_ _))⟩

theorem lawAppends (v : Value) (u : Upl) (who : Str) (number offset : Int) (text : Str) (now : Int) (w : World) (hs1 : Sl Sess.cells 5 w w.heap.size v u.sess) (ho : ∀ s ∈ u.sess, s.ok) (hw : who.length ≤ 9223372036854775807) (htx : text.length ≤ 9223372036854775000) :
    Calls Try.prog 4 #[.agg #[v, .int .i64 u.next, .int .i64 u.lasts, .int .i64 u.room], .string ⟨who.toArray⟩, .int .i64 number, .int .i64 offset, .string ⟨text.toArray⟩, .int .i64 now] w fun e w' => e = .returned (.bool true) ∧ Below w.heap.size w w' :=
  lawAppends_of v u who number offset text now w hs1 _ _ _ _ _ _
    (Lib.hid fun (v : Value) (W : World) (h1 : Sl Sess.cells 5 W w.heap.size v u.sess) (h2 : w.heap.size ≤ W.heap.size) => append_any v u who number offset text now W w.heap.size h1 h2 ho hw htx)
    (Lib.hid fun (v : Value) (W : World) (h1 : Sl Sess.cells 5 W w.heap.size v u.sess) (h2 : w.heap.size ≤ W.heap.size) => appendR_any v u who number offset text now W w.heap.size h1 h2 ho hw htx)
end Go.Proofs.Ytdcigjpanpcaaaa
