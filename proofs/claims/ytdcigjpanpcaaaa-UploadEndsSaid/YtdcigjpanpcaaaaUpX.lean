/- Uploads, the reference: AppendUpload. -/
import Derived.Test.YtdcigjpanpcaaaaUpW
import Derived.Test.YtdcigjpanpcaaaaUpL
namespace Go.Proofs.Ytdcigjpanpcaaaa
open Go.RowKit

set_option maxRecDepth 100000 in
set_option maxHeartbeats 4000000 in
theorem appR_again (v : Value) (u : Upl) (who : Str) (number offset : Int) (text : Str) (now : Int) (w : World) (i : Nat) (L : List Sess) (hlt : i < L.length)
    (hs1 : Sl Sess.cells 5 w w.heap.size v u.sess)
    (hM : Hid (∀ (v : Value) (W : World), Sl Sess.cells 5 W w.heap.size v u.sess → w.heap.size ≤ W.heap.size → Calls Try.prog 27 #[.agg #[v, .int .i64 u.next, .int .i64 u.lasts, .int .i64 u.room], .string ⟨who.toArray⟩, .int .i64 number, .int .i64 now] W fun e w' => ∃ v', e = .returned (.tuple #[.agg #[v', .int .i64 u.next, .int .i64 u.lasts, .int .i64 u.room], .int .i64 i, .int .i64 0]) ∧ Own Sess.cells 44 5 w' W.heap.size v' L ∧ Below W.heap.size W w'))
    (o : Nat) (ho0 : offset = o) (ho1 : o ≤ L[i].text.length) (h2 : (L[i].text.drop o == text) = true) :
    Calls Try.prog 19 #[.agg #[v, .int .i64 u.next, .int .i64 u.lasts, .int .i64 u.room], .string ⟨who.toArray⟩, .int .i64 number, .int .i64 offset, .string ⟨text.toArray⟩, .int .i64 now] w
      (AppPost w u.next u.lasts u.room (L[i].text.length) 0 L) := by
  subst ho0
  go_enter Try.func19, Try.ntmps19
  go_wp2_with (
        (go_at_call 27
         go_must (
         refine (hM.out _ _ (hs1.below (by repeat (first | with_reducible exact Below.refl _ _ | with_reducible assumption | (with_reducible refine Below.alloc ?_ ?h _; case h => (first | omega | (simp <;> omega))) | (with_reducible refine Below.setCell ?_ ?h _; case h => (first | omega | (simp <;> omega))) | with_reducible refine Below.drew ?_ | with_reducible refine below_dn ?_ _))) (by simp only [als]; omega)).mono ?_
         rintro e w1 ⟨v1, rfl, ho1, hb1⟩
         obtain ⟨k1, f1, z1⟩ := after hb1
         simp only [als] at k1 f1 z1
         obtain ⟨A1, cap1, rfl⟩ := ho1.val
         have os := (Own.sl Sess.cells_len ho1)
         obtain ⟨_, _, _, hlen, _, _⟩ := os.form
         obtain ⟨b, off, rfl, hbb, c0, c1, c2, c3, c4⟩ := os.sess hlt
         replace ho1 := ho1.more (base' := w.heap.size + 2) (by simp)
         have hg1 := ho1.gt b rfl
         have hne1 : b ≠ w.heap.size := by omega
         have hne2 : b ≠ w.heap.size + 1 := by omega
         have y1 : w.heap.size + 1 < w1.heap.size := by omega
         have y2 : w.heap.size < w1.heap.size := by omega
         have hx : Below w.heap.size w w1 := Below.trans (by repeat (first | with_reducible exact Below.refl _ _ | with_reducible assumption | (with_reducible refine Below.alloc ?_ ?h _; case h => (first | omega | (simp <;> omega))) | (with_reducible refine Below.setCell ?_ ?h _; case h => (first | omega | (simp <;> omega))) | with_reducible refine Below.drew ?_ | with_reducible refine below_dn ?_ _)) (hb1.mono (by simp only [als]; omega))
         have : w1.cell? ⟨w.heap.size + 1, 0, none⟩ = some (.slice none 0 0) := (by simp [k1, go_sem]); have : w1.cell? ⟨w.heap.size + 1, 1, none⟩ = some (.int .i64 0) := (by simp [k1, go_sem]); have : w1.cell? ⟨w.heap.size + 1, 2, none⟩ = some (.int .i64 0) := (by simp [k1, go_sem]); have : w1.cell? ⟨w.heap.size + 1, 3, none⟩ = some (.int .i64 0) := (by simp [k1, go_sem])
         have : ∀ o, w1.frozen? ⟨w.heap.size + 1, o, none⟩ = false := fun o => (by rw [f1 _ _ (by omega)]; simp [fz_alc, fz_out])
         have : w1.cell? ⟨w.heap.size, 0, none⟩ = some v := (by simp [k1, go_sem]); have : w1.cell? ⟨w.heap.size, 1, none⟩ = some (.int .i64 u.next) := (by simp [k1, go_sem]); have : w1.cell? ⟨w.heap.size, 2, none⟩ = some (.int .i64 u.lasts) := (by simp [k1, go_sem]); have : w1.cell? ⟨w.heap.size, 3, none⟩ = some (.int .i64 u.room) := (by simp [k1, go_sem])
         have : ∀ o, w1.frozen? ⟨w.heap.size, o, none⟩ = false := fun o => (by rw [f1 _ _ (by omega)]; simp [fz_alc, fz_out])
         clear k1 f1)))
  refine bodyPost_ret (v := .tuple #[.agg #[.slice (some ⟨b, off, none⟩) L.length cap1, .int .i64 u.next, .int .i64 u.lasts, .int .i64 u.room], .int .i64 L[i].text.length, .int .i64 0]) ?_ rfl ⟨_, rfl, ?_, (by repeat (first | with_reducible exact Below.refl _ _ | with_reducible assumption | (with_reducible refine Below.alloc ?_ ?h _; case h => (first | omega | (simp <;> omega))) | (with_reducible refine Below.setCell ?_ ?h _; case h => (first | omega | (simp <;> omega))) | with_reducible refine Below.drew ?_ | with_reducible refine below_dn ?_ _))⟩
  · simp [results, Try.results19, go_sem, *]
  · exact (Own.more (base := w.heap.size + 2) (by repeat (first | with_reducible exact ho1 | (with_reducible refine Own.setB ?_ ?h _; case h => (first | omega | (simp <;> omega))) | with_reducible refine Own.allc ?_ _ | with_reducible refine Own.dn ?_ _ | with_reducible refine Own.d1 ?_)) (by omega))

set_option maxRecDepth 100000 in
set_option maxHeartbeats 4000000 in
theorem appR_4 (v : Value) (u : Upl) (who : Str) (number offset : Int) (text : Str) (now : Int) (w : World) (i : Nat) (L : List Sess) (hlt : i < L.length)
    (hs1 : Sl Sess.cells 5 w w.heap.size v u.sess)
    (hM : Hid (∀ (v : Value) (W : World), Sl Sess.cells 5 W w.heap.size v u.sess → w.heap.size ≤ W.heap.size → Calls Try.prog 27 #[.agg #[v, .int .i64 u.next, .int .i64 u.lasts, .int .i64 u.room], .string ⟨who.toArray⟩, .int .i64 number, .int .i64 now] W fun e w' => ∃ v', e = .returned (.tuple #[.agg #[v', .int .i64 u.next, .int .i64 u.lasts, .int .i64 u.room], .int .i64 i, .int .i64 0]) ∧ Own Sess.cells 44 5 w' W.heap.size v' L ∧ Below W.heap.size W w'))
    (h3 : (offset != (L[i].text.length : Int)) = true) (h2 : ∀ o : Nat, offset = o → o ≤ L[i].text.length → (L[i].text.drop o == text) = false) :
    Calls Try.prog 19 #[.agg #[v, .int .i64 u.next, .int .i64 u.lasts, .int .i64 u.room], .string ⟨who.toArray⟩, .int .i64 number, .int .i64 offset, .string ⟨text.toArray⟩, .int .i64 now] w
      (AppPost w 0 0 0 0 4 []) := by
  by_cases h0 : 0 ≤ offset
  · by_cases h1 : offset ≤ L[i].text.length
    · obtain ⟨o, rfl⟩ := Int.eq_ofNat_of_zero_le h0
      have h2' := h2 o rfl (by omega)
      clear h2
      have h1' : o ≤ L[i].text.length := by omega
      go_enter Try.func19, Try.ntmps19
      go_wp2_with (
            (go_at_call 27
             go_must (
             refine (hM.out _ _ (hs1.below (by repeat (first | with_reducible exact Below.refl _ _ | with_reducible assumption | (with_reducible refine Below.alloc ?_ ?h _; case h => (first | omega | (simp <;> omega))) | (with_reducible refine Below.setCell ?_ ?h _; case h => (first | omega | (simp <;> omega))) | with_reducible refine Below.drew ?_ | with_reducible refine below_dn ?_ _))) (by simp only [als]; omega)).mono ?_
             rintro e w1 ⟨v1, rfl, ho1, hb1⟩
             obtain ⟨k1, f1, z1⟩ := after hb1
             simp only [als] at k1 f1 z1
             obtain ⟨A1, cap1, rfl⟩ := ho1.val
             have os := (Own.sl Sess.cells_len ho1)
             obtain ⟨_, _, _, hlen, _, _⟩ := os.form
             obtain ⟨b, off, rfl, hbb, c0, c1, c2, c3, c4⟩ := os.sess hlt
             replace ho1 := ho1.more (base' := w.heap.size + 2) (by simp)
             have hg1 := ho1.gt b rfl
             have hne1 : b ≠ w.heap.size := by omega
             have hne2 : b ≠ w.heap.size + 1 := by omega
             have y1 : w.heap.size + 1 < w1.heap.size := by omega
             have y2 : w.heap.size < w1.heap.size := by omega
             have hx : Below w.heap.size w w1 := Below.trans (by repeat (first | with_reducible exact Below.refl _ _ | with_reducible assumption | (with_reducible refine Below.alloc ?_ ?h _; case h => (first | omega | (simp <;> omega))) | (with_reducible refine Below.setCell ?_ ?h _; case h => (first | omega | (simp <;> omega))) | with_reducible refine Below.drew ?_ | with_reducible refine below_dn ?_ _)) (hb1.mono (by simp only [als]; omega))
             have : w1.cell? ⟨w.heap.size + 1, 0, none⟩ = some (.slice none 0 0) := (by simp [k1, go_sem]); have : w1.cell? ⟨w.heap.size + 1, 1, none⟩ = some (.int .i64 0) := (by simp [k1, go_sem]); have : w1.cell? ⟨w.heap.size + 1, 2, none⟩ = some (.int .i64 0) := (by simp [k1, go_sem]); have : w1.cell? ⟨w.heap.size + 1, 3, none⟩ = some (.int .i64 0) := (by simp [k1, go_sem])
             have : ∀ o, w1.frozen? ⟨w.heap.size + 1, o, none⟩ = false := fun o => (by rw [f1 _ _ (by omega)]; simp [fz_alc, fz_out])
             have : w1.cell? ⟨w.heap.size, 0, none⟩ = some v := (by simp [k1, go_sem]); have : w1.cell? ⟨w.heap.size, 1, none⟩ = some (.int .i64 u.next) := (by simp [k1, go_sem]); have : w1.cell? ⟨w.heap.size, 2, none⟩ = some (.int .i64 u.lasts) := (by simp [k1, go_sem]); have : w1.cell? ⟨w.heap.size, 3, none⟩ = some (.int .i64 u.room) := (by simp [k1, go_sem])
             have : ∀ o, w1.frozen? ⟨w.heap.size, o, none⟩ = false := fun o => (by rw [f1 _ _ (by omega)]; simp [fz_alc, fz_out])
             clear k1 f1)))
      refine bodyPost_ret (v := .tuple #[.agg #[.slice none 0 0, .int .i64 0, .int .i64 0, .int .i64 0], .int .i64 0, .int .i64 4]) ?_ rfl ⟨_, rfl, Own.nil', (by repeat (first | with_reducible exact Below.refl _ _ | with_reducible assumption | (with_reducible refine Below.alloc ?_ ?h _; case h => (first | omega | (simp <;> omega))) | (with_reducible refine Below.setCell ?_ ?h _; case h => (first | omega | (simp <;> omega))) | with_reducible refine Below.drew ?_ | with_reducible refine below_dn ?_ _))⟩
      simp [results, Try.results19, go_sem, *]
    · clear h2
      go_enter Try.func19, Try.ntmps19
      go_wp2_with (
            (go_at_call 27
             go_must (
             refine (hM.out _ _ (hs1.below (by repeat (first | with_reducible exact Below.refl _ _ | with_reducible assumption | (with_reducible refine Below.alloc ?_ ?h _; case h => (first | omega | (simp <;> omega))) | (with_reducible refine Below.setCell ?_ ?h _; case h => (first | omega | (simp <;> omega))) | with_reducible refine Below.drew ?_ | with_reducible refine below_dn ?_ _))) (by simp only [als]; omega)).mono ?_
             rintro e w1 ⟨v1, rfl, ho1, hb1⟩
             obtain ⟨k1, f1, z1⟩ := after hb1
             simp only [als] at k1 f1 z1
             obtain ⟨A1, cap1, rfl⟩ := ho1.val
             have os := (Own.sl Sess.cells_len ho1)
             obtain ⟨_, _, _, hlen, _, _⟩ := os.form
             obtain ⟨b, off, rfl, hbb, c0, c1, c2, c3, c4⟩ := os.sess hlt
             replace ho1 := ho1.more (base' := w.heap.size + 2) (by simp)
             have hg1 := ho1.gt b rfl
             have hne1 : b ≠ w.heap.size := by omega
             have hne2 : b ≠ w.heap.size + 1 := by omega
             have y1 : w.heap.size + 1 < w1.heap.size := by omega
             have y2 : w.heap.size < w1.heap.size := by omega
             have hx : Below w.heap.size w w1 := Below.trans (by repeat (first | with_reducible exact Below.refl _ _ | with_reducible assumption | (with_reducible refine Below.alloc ?_ ?h _; case h => (first | omega | (simp <;> omega))) | (with_reducible refine Below.setCell ?_ ?h _; case h => (first | omega | (simp <;> omega))) | with_reducible refine Below.drew ?_ | with_reducible refine below_dn ?_ _)) (hb1.mono (by simp only [als]; omega))
             have : w1.cell? ⟨w.heap.size + 1, 0, none⟩ = some (.slice none 0 0) := (by simp [k1, go_sem]); have : w1.cell? ⟨w.heap.size + 1, 1, none⟩ = some (.int .i64 0) := (by simp [k1, go_sem]); have : w1.cell? ⟨w.heap.size + 1, 2, none⟩ = some (.int .i64 0) := (by simp [k1, go_sem]); have : w1.cell? ⟨w.heap.size + 1, 3, none⟩ = some (.int .i64 0) := (by simp [k1, go_sem])
             have : ∀ o, w1.frozen? ⟨w.heap.size + 1, o, none⟩ = false := fun o => (by rw [f1 _ _ (by omega)]; simp [fz_alc, fz_out])
             have : w1.cell? ⟨w.heap.size, 0, none⟩ = some v := (by simp [k1, go_sem]); have : w1.cell? ⟨w.heap.size, 1, none⟩ = some (.int .i64 u.next) := (by simp [k1, go_sem]); have : w1.cell? ⟨w.heap.size, 2, none⟩ = some (.int .i64 u.lasts) := (by simp [k1, go_sem]); have : w1.cell? ⟨w.heap.size, 3, none⟩ = some (.int .i64 u.room) := (by simp [k1, go_sem])
             have : ∀ o, w1.frozen? ⟨w.heap.size, o, none⟩ = false := fun o => (by rw [f1 _ _ (by omega)]; simp [fz_alc, fz_out])
             clear k1 f1)))
      refine bodyPost_ret (v := .tuple #[.agg #[.slice none 0 0, .int .i64 0, .int .i64 0, .int .i64 0], .int .i64 0, .int .i64 4]) ?_ rfl ⟨_, rfl, Own.nil', (by repeat (first | with_reducible exact Below.refl _ _ | with_reducible assumption | (with_reducible refine Below.alloc ?_ ?h _; case h => (first | omega | (simp <;> omega))) | (with_reducible refine Below.setCell ?_ ?h _; case h => (first | omega | (simp <;> omega))) | with_reducible refine Below.drew ?_ | with_reducible refine below_dn ?_ _))⟩
      simp [results, Try.results19, go_sem, *]
  · clear h2
    go_enter Try.func19, Try.ntmps19
    go_wp2_with (
          (go_at_call 27
           go_must (
           refine (hM.out _ _ (hs1.below (by repeat (first | with_reducible exact Below.refl _ _ | with_reducible assumption | (with_reducible refine Below.alloc ?_ ?h _; case h => (first | omega | (simp <;> omega))) | (with_reducible refine Below.setCell ?_ ?h _; case h => (first | omega | (simp <;> omega))) | with_reducible refine Below.drew ?_ | with_reducible refine below_dn ?_ _))) (by simp only [als]; omega)).mono ?_
           rintro e w1 ⟨v1, rfl, ho1, hb1⟩
           obtain ⟨k1, f1, z1⟩ := after hb1
           simp only [als] at k1 f1 z1
           obtain ⟨A1, cap1, rfl⟩ := ho1.val
           have os := (Own.sl Sess.cells_len ho1)
           obtain ⟨_, _, _, hlen, _, _⟩ := os.form
           obtain ⟨b, off, rfl, hbb, c0, c1, c2, c3, c4⟩ := os.sess hlt
           replace ho1 := ho1.more (base' := w.heap.size + 2) (by simp)
           have hg1 := ho1.gt b rfl
           have hne1 : b ≠ w.heap.size := by omega
           have hne2 : b ≠ w.heap.size + 1 := by omega
           have y1 : w.heap.size + 1 < w1.heap.size := by omega
           have y2 : w.heap.size < w1.heap.size := by omega
           have hx : Below w.heap.size w w1 := Below.trans (by repeat (first | with_reducible exact Below.refl _ _ | with_reducible assumption | (with_reducible refine Below.alloc ?_ ?h _; case h => (first | omega | (simp <;> omega))) | (with_reducible refine Below.setCell ?_ ?h _; case h => (first | omega | (simp <;> omega))) | with_reducible refine Below.drew ?_ | with_reducible refine below_dn ?_ _)) (hb1.mono (by simp only [als]; omega))
           have : w1.cell? ⟨w.heap.size + 1, 0, none⟩ = some (.slice none 0 0) := (by simp [k1, go_sem]); have : w1.cell? ⟨w.heap.size + 1, 1, none⟩ = some (.int .i64 0) := (by simp [k1, go_sem]); have : w1.cell? ⟨w.heap.size + 1, 2, none⟩ = some (.int .i64 0) := (by simp [k1, go_sem]); have : w1.cell? ⟨w.heap.size + 1, 3, none⟩ = some (.int .i64 0) := (by simp [k1, go_sem])
           have : ∀ o, w1.frozen? ⟨w.heap.size + 1, o, none⟩ = false := fun o => (by rw [f1 _ _ (by omega)]; simp [fz_alc, fz_out])
           have : w1.cell? ⟨w.heap.size, 0, none⟩ = some v := (by simp [k1, go_sem]); have : w1.cell? ⟨w.heap.size, 1, none⟩ = some (.int .i64 u.next) := (by simp [k1, go_sem]); have : w1.cell? ⟨w.heap.size, 2, none⟩ = some (.int .i64 u.lasts) := (by simp [k1, go_sem]); have : w1.cell? ⟨w.heap.size, 3, none⟩ = some (.int .i64 u.room) := (by simp [k1, go_sem])
           have : ∀ o, w1.frozen? ⟨w.heap.size, o, none⟩ = false := fun o => (by rw [f1 _ _ (by omega)]; simp [fz_alc, fz_out])
           clear k1 f1)))
    refine bodyPost_ret (v := .tuple #[.agg #[.slice none 0 0, .int .i64 0, .int .i64 0, .int .i64 0], .int .i64 0, .int .i64 4]) ?_ rfl ⟨_, rfl, Own.nil', (by repeat (first | with_reducible exact Below.refl _ _ | with_reducible assumption | (with_reducible refine Below.alloc ?_ ?h _; case h => (first | omega | (simp <;> omega))) | (with_reducible refine Below.setCell ?_ ?h _; case h => (first | omega | (simp <;> omega))) | with_reducible refine Below.drew ?_ | with_reducible refine below_dn ?_ _))⟩
    simp [results, Try.results19, go_sem, *]

set_option maxRecDepth 100000 in
set_option maxHeartbeats 4000000 in
theorem appR_2 (v : Value) (u : Upl) (who : Str) (number offset : Int) (text : Str) (now : Int) (w : World) (i : Nat) (L : List Sess) (hlt : i < L.length)
    (hs1 : Sl Sess.cells 5 w w.heap.size v u.sess)
    (hM : Hid (∀ (v : Value) (W : World), Sl Sess.cells 5 W w.heap.size v u.sess → w.heap.size ≤ W.heap.size → Calls Try.prog 27 #[.agg #[v, .int .i64 u.next, .int .i64 u.lasts, .int .i64 u.room], .string ⟨who.toArray⟩, .int .i64 number, .int .i64 now] W fun e w' => ∃ v', e = .returned (.tuple #[.agg #[v', .int .i64 u.next, .int .i64 u.lasts, .int .i64 u.room], .int .i64 i, .int .i64 0]) ∧ Own Sess.cells 44 5 w' W.heap.size v' L ∧ Below W.heap.size W w'))
    (htl : L[i].text.length ≤ 300) (htx : text.length ≤ 9223372036854775000) (h3 : offset = L[i].text.length) (hte : text.isEmpty = false) (h4 : L[i].size < (L[i].text.length : Int) + text.length) :
    Calls Try.prog 19 #[.agg #[v, .int .i64 u.next, .int .i64 u.lasts, .int .i64 u.room], .string ⟨who.toArray⟩, .int .i64 number, .int .i64 offset, .string ⟨text.toArray⟩, .int .i64 now] w
      (AppPost w 0 0 0 0 2 []) := by
  subst h3
  go_enter Try.func19, Try.ntmps19
  go_wp2_with (
        (go_at_call 27
         go_must (
         refine (hM.out _ _ (hs1.below (by repeat (first | with_reducible exact Below.refl _ _ | with_reducible assumption | (with_reducible refine Below.alloc ?_ ?h _; case h => (first | omega | (simp <;> omega))) | (with_reducible refine Below.setCell ?_ ?h _; case h => (first | omega | (simp <;> omega))) | with_reducible refine Below.drew ?_ | with_reducible refine below_dn ?_ _))) (by simp only [als]; omega)).mono ?_
         rintro e w1 ⟨v1, rfl, ho1, hb1⟩
         obtain ⟨k1, f1, z1⟩ := after hb1
         simp only [als] at k1 f1 z1
         obtain ⟨A1, cap1, rfl⟩ := ho1.val
         have os := (Own.sl Sess.cells_len ho1)
         obtain ⟨_, _, _, hlen, _, _⟩ := os.form
         obtain ⟨b, off, rfl, hbb, c0, c1, c2, c3, c4⟩ := os.sess hlt
         replace ho1 := ho1.more (base' := w.heap.size + 2) (by simp)
         have hg1 := ho1.gt b rfl
         have hne1 : b ≠ w.heap.size := by omega
         have hne2 : b ≠ w.heap.size + 1 := by omega
         have y1 : w.heap.size + 1 < w1.heap.size := by omega
         have y2 : w.heap.size < w1.heap.size := by omega
         have hx : Below w.heap.size w w1 := Below.trans (by repeat (first | with_reducible exact Below.refl _ _ | with_reducible assumption | (with_reducible refine Below.alloc ?_ ?h _; case h => (first | omega | (simp <;> omega))) | (with_reducible refine Below.setCell ?_ ?h _; case h => (first | omega | (simp <;> omega))) | with_reducible refine Below.drew ?_ | with_reducible refine below_dn ?_ _)) (hb1.mono (by simp only [als]; omega))
         have : w1.cell? ⟨w.heap.size + 1, 0, none⟩ = some (.slice none 0 0) := (by simp [k1, go_sem]); have : w1.cell? ⟨w.heap.size + 1, 1, none⟩ = some (.int .i64 0) := (by simp [k1, go_sem]); have : w1.cell? ⟨w.heap.size + 1, 2, none⟩ = some (.int .i64 0) := (by simp [k1, go_sem]); have : w1.cell? ⟨w.heap.size + 1, 3, none⟩ = some (.int .i64 0) := (by simp [k1, go_sem])
         have : ∀ o, w1.frozen? ⟨w.heap.size + 1, o, none⟩ = false := fun o => (by rw [f1 _ _ (by omega)]; simp [fz_alc, fz_out])
         have : w1.cell? ⟨w.heap.size, 0, none⟩ = some v := (by simp [k1, go_sem]); have : w1.cell? ⟨w.heap.size, 1, none⟩ = some (.int .i64 u.next) := (by simp [k1, go_sem]); have : w1.cell? ⟨w.heap.size, 2, none⟩ = some (.int .i64 u.lasts) := (by simp [k1, go_sem]); have : w1.cell? ⟨w.heap.size, 3, none⟩ = some (.int .i64 u.room) := (by simp [k1, go_sem])
         have : ∀ o, w1.frozen? ⟨w.heap.size, o, none⟩ = false := fun o => (by rw [f1 _ _ (by omega)]; simp [fz_alc, fz_out])
         clear k1 f1)))
  refine bodyPost_ret (v := .tuple #[.agg #[.slice none 0 0, .int .i64 0, .int .i64 0, .int .i64 0], .int .i64 0, .int .i64 2]) ?_ rfl ⟨_, rfl, Own.nil', (by repeat (first | with_reducible exact Below.refl _ _ | with_reducible assumption | (with_reducible refine Below.alloc ?_ ?h _; case h => (first | omega | (simp <;> omega))) | (with_reducible refine Below.setCell ?_ ?h _; case h => (first | omega | (simp <;> omega))) | with_reducible refine Below.drew ?_ | with_reducible refine below_dn ?_ _))⟩
  simp [results, Try.results19, go_sem, *]

end Go.Proofs.Ytdcigjpanpcaaaa
