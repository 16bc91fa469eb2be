/- Uploads: Append that fails; Append whole. -/
import Derived.Test.YtdcigjpanpcaaaaUpK
namespace Go.Proofs.Ytdcigjpanpcaaaa
open Go.RowKit

set_option maxRecDepth 100000 in
set_option maxHeartbeats 4000000 in
theorem append_err (v : Value) (u : Upl) (who : Str) (number offset : Int) (text : Str) (now : Int) (w : World) (i : Nat) (L : List Sess) (hlt : i < L.length)
    (hs1 : Sl Sess.cells 5 w w.heap.size v u.sess)
    (hM : Hid (∀ (v : Value) (W : World), Sl Sess.cells 5 W w.heap.size v u.sess → w.heap.size ≤ W.heap.size → Calls Try.prog 50 #[.agg #[v, .int .i64 u.next, .int .i64 u.lasts, .int .i64 u.room], .string ⟨who.toArray⟩, .int .i64 number, .int .i64 now] W fun e w' => ∃ v', e = .returned (.tuple #[.agg #[v', .int .i64 u.next, .int .i64 u.lasts, .int .i64 u.room], .int .i64 i, .int .i64 0]) ∧ Own Sess.cells 44 5 w' W.heap.size v' L ∧ Below W.heap.size W w'))
    (htl : L[i].text.length ≤ 300) (htx : text.length ≤ 9223372036854775000)
    (hap : ((appS L[i] offset text (now + u.lasts)).1 ≠ 0)) :
    Calls Try.prog 18 #[.agg #[v, .int .i64 u.next, .int .i64 u.lasts, .int .i64 u.room], .string ⟨who.toArray⟩, .int .i64 number, .int .i64 offset, .string ⟨text.toArray⟩, .int .i64 now] w
      (AppPost w 0 0 0 0 (appS L[i] offset text (now + u.lasts)).1 []) := by
  by_cases hag : (withinB offset 0 L[i].text.length && List.drop offset.toNat L[i].text == text) = true
  · exfalso
    simp only [appS, if_pos hag] at hap
    exact hap rfl
  by_cases h3 : offset = L[i].text.length
  · by_cases h4 : L[i].size < (L[i].text.length : Int) + text.length
    · have hA : appS L[i] offset text (now + u.lasts) = (2, L[i]) := by simp only [appS, if_neg hag, if_pos h3, if_pos h4]
      rw [hA]
      subst h3
      have h1 : withinB (L[i].text.length : Int) 0 L[i].text.length = true := within_mk (by omega) (by omega)
      have hte : text.isEmpty = false := by
        rw [h1, Int.toNat_natCast, List.drop_length] at hag
        cases text with
        | nil => simp at hag
        | cons a t => rfl
      clear hag hap hA
      go_enter Try.func18, Try.ntmps18
      go_wp2_with (first
        | (
        go_at_call 50
        go_must (
        refine (hM.out _ _ (hs1.below (by repeat (first | with_reducible exact Below.refl _ _ | with_reducible assumption | (with_reducible refine Below.alloc ?_ ?h _; case h => (first | omega | (simp <;> omega))) | (with_reducible refine Below.setCell ?_ ?h _; case h => (first | omega | (simp <;> omega))) | with_reducible refine Below.drew ?_ | with_reducible refine below_dn ?_ _))) (by simp only [als]; omega)).mono ?_
        rintro e w1 ⟨v1, rfl, ho1, hb1⟩
        obtain ⟨k1, f1, z1⟩ := after hb1
        simp only [als] at k1 f1 z1
        obtain ⟨A1, cap1, rfl⟩ := ho1.val
        have os := (Own.sl Sess.cells_len ho1)
        obtain ⟨_, _, _, hlen, _, _⟩ := os.form
        obtain ⟨b, off, rfl, hbb, c0, c1, c2, c3, c4⟩ := os.sess hlt
        replace ho1 := ho1.more (base' := w.heap.size + 2) (by simp)
        have hg1 := ho1.gt b rfl
        have hne1 : b ≠ w.heap.size := by omega
        have hne2 : b ≠ w.heap.size + 1 := by omega
        have y1 : w.heap.size + 1 < w1.heap.size := by omega
        have y2 : w.heap.size < w1.heap.size := by omega
        have hx : Below w.heap.size w w1 := Below.trans (by repeat (first | with_reducible exact Below.refl _ _ | with_reducible assumption | (with_reducible refine Below.alloc ?_ ?h _; case h => (first | omega | (simp <;> omega))) | (with_reducible refine Below.setCell ?_ ?h _; case h => (first | omega | (simp <;> omega))) | with_reducible refine Below.drew ?_ | with_reducible refine below_dn ?_ _)) (hb1.mono (by simp only [als]; omega))
        have : w1.cell? ⟨w.heap.size + 1, 0, none⟩ = some (.slice none 0 0) := (by simp [k1, go_sem]); have : w1.cell? ⟨w.heap.size + 1, 1, none⟩ = some (.int .i64 0) := (by simp [k1, go_sem]); have : w1.cell? ⟨w.heap.size + 1, 2, none⟩ = some (.int .i64 0) := (by simp [k1, go_sem]); have : w1.cell? ⟨w.heap.size + 1, 3, none⟩ = some (.int .i64 0) := (by simp [k1, go_sem])
        have : ∀ o, w1.frozen? ⟨w.heap.size + 1, o, none⟩ = false := fun o => (by rw [f1 _ _ (by omega)]; simp [fz_alc, fz_out])
        have : w1.cell? ⟨w.heap.size, 0, none⟩ = some v := (by simp [k1, go_sem]); have : w1.cell? ⟨w.heap.size, 1, none⟩ = some (.int .i64 u.next) := (by simp [k1, go_sem]); have : w1.cell? ⟨w.heap.size, 2, none⟩ = some (.int .i64 u.lasts) := (by simp [k1, go_sem]); have : w1.cell? ⟨w.heap.size, 3, none⟩ = some (.int .i64 u.room) := (by simp [k1, go_sem])
        have : ∀ o, w1.frozen? ⟨w.heap.size, o, none⟩ = false := fun o => (by rw [f1 _ _ (by omega)]; simp [fz_alc, fz_out])
        clear k1 f1))
        | (go_at_call 47; refine (within_any _ _ _ _).mono ?_; rintro e w' ⟨rfl, rfl⟩))
      go_quiet (fail)
      go_wp2_with fail
      refine bodyPost_ret (v := .tuple #[.agg #[.slice none 0 0, .int .i64 0, .int .i64 0, .int .i64 0], .int .i64 0, .int .i64 2]) ?_ rfl ⟨_, rfl, Own.nil', (by repeat (first | with_reducible exact Below.refl _ _ | with_reducible assumption | (with_reducible refine Below.alloc ?_ ?h _; case h => (first | omega | (simp <;> omega))) | (with_reducible refine Below.setCell ?_ ?h _; case h => (first | omega | (simp <;> omega))) | with_reducible refine Below.drew ?_ | with_reducible refine below_dn ?_ _))⟩
      simp [results, Try.results18, go_sem, *]
    · exfalso
      simp only [appS, if_neg hag, if_pos h3, if_neg h4] at hap
      exact hap rfl
  · have hA : appS L[i] offset text (now + u.lasts) = (4, L[i]) := by simp only [appS, if_neg hag, if_neg h3]
    rw [hA]
    have h3' : (offset != (L[i].text.length : Int)) = true := by simpa using h3
    clear hap hA
    cases h1 : withinB offset 0 L[i].text.length with
    | true =>
      obtain ⟨ho0, ho1⟩ := within_true h1
      obtain ⟨o, rfl⟩ := Int.eq_ofNat_of_zero_le ho0
      have h2 : (List.drop o L[i].text == text) = false := by
        rw [h1, Int.toNat_natCast] at hag
        simpa using hag
      clear hag h3
      go_enter Try.func18, Try.ntmps18
      go_wp2_with (first
        | (
        go_at_call 50
        go_must (
        refine (hM.out _ _ (hs1.below (by repeat (first | with_reducible exact Below.refl _ _ | with_reducible assumption | (with_reducible refine Below.alloc ?_ ?h _; case h => (first | omega | (simp <;> omega))) | (with_reducible refine Below.setCell ?_ ?h _; case h => (first | omega | (simp <;> omega))) | with_reducible refine Below.drew ?_ | with_reducible refine below_dn ?_ _))) (by simp only [als]; omega)).mono ?_
        rintro e w1 ⟨v1, rfl, ho1, hb1⟩
        obtain ⟨k1, f1, z1⟩ := after hb1
        simp only [als] at k1 f1 z1
        obtain ⟨A1, cap1, rfl⟩ := ho1.val
        have os := (Own.sl Sess.cells_len ho1)
        obtain ⟨_, _, _, hlen, _, _⟩ := os.form
        obtain ⟨b, off, rfl, hbb, c0, c1, c2, c3, c4⟩ := os.sess hlt
        replace ho1 := ho1.more (base' := w.heap.size + 2) (by simp)
        have hg1 := ho1.gt b rfl
        have hne1 : b ≠ w.heap.size := by omega
        have hne2 : b ≠ w.heap.size + 1 := by omega
        have y1 : w.heap.size + 1 < w1.heap.size := by omega
        have y2 : w.heap.size < w1.heap.size := by omega
        have hx : Below w.heap.size w w1 := Below.trans (by repeat (first | with_reducible exact Below.refl _ _ | with_reducible assumption | (with_reducible refine Below.alloc ?_ ?h _; case h => (first | omega | (simp <;> omega))) | (with_reducible refine Below.setCell ?_ ?h _; case h => (first | omega | (simp <;> omega))) | with_reducible refine Below.drew ?_ | with_reducible refine below_dn ?_ _)) (hb1.mono (by simp only [als]; omega))
        have : w1.cell? ⟨w.heap.size + 1, 0, none⟩ = some (.slice none 0 0) := (by simp [k1, go_sem]); have : w1.cell? ⟨w.heap.size + 1, 1, none⟩ = some (.int .i64 0) := (by simp [k1, go_sem]); have : w1.cell? ⟨w.heap.size + 1, 2, none⟩ = some (.int .i64 0) := (by simp [k1, go_sem]); have : w1.cell? ⟨w.heap.size + 1, 3, none⟩ = some (.int .i64 0) := (by simp [k1, go_sem])
        have : ∀ o, w1.frozen? ⟨w.heap.size + 1, o, none⟩ = false := fun o => (by rw [f1 _ _ (by omega)]; simp [fz_alc, fz_out])
        have : w1.cell? ⟨w.heap.size, 0, none⟩ = some v := (by simp [k1, go_sem]); have : w1.cell? ⟨w.heap.size, 1, none⟩ = some (.int .i64 u.next) := (by simp [k1, go_sem]); have : w1.cell? ⟨w.heap.size, 2, none⟩ = some (.int .i64 u.lasts) := (by simp [k1, go_sem]); have : w1.cell? ⟨w.heap.size, 3, none⟩ = some (.int .i64 u.room) := (by simp [k1, go_sem])
        have : ∀ o, w1.frozen? ⟨w.heap.size, o, none⟩ = false := fun o => (by rw [f1 _ _ (by omega)]; simp [fz_alc, fz_out])
        clear k1 f1))
        | (go_at_call 47; refine (within_any _ _ _ _).mono ?_; rintro e w' ⟨rfl, rfl⟩))
      refine bodyPost_ret (v := .tuple #[.agg #[.slice none 0 0, .int .i64 0, .int .i64 0, .int .i64 0], .int .i64 0, .int .i64 4]) ?_ rfl ⟨_, rfl, Own.nil', (by repeat (first | with_reducible exact Below.refl _ _ | with_reducible assumption | (with_reducible refine Below.alloc ?_ ?h _; case h => (first | omega | (simp <;> omega))) | (with_reducible refine Below.setCell ?_ ?h _; case h => (first | omega | (simp <;> omega))) | with_reducible refine Below.drew ?_ | with_reducible refine below_dn ?_ _))⟩
      simp [results, Try.results18, go_sem, *]
    | false =>
      clear hag h3
      go_enter Try.func18, Try.ntmps18
      go_wp2_with (first
        | (
        go_at_call 50
        go_must (
        refine (hM.out _ _ (hs1.below (by repeat (first | with_reducible exact Below.refl _ _ | with_reducible assumption | (with_reducible refine Below.alloc ?_ ?h _; case h => (first | omega | (simp <;> omega))) | (with_reducible refine Below.setCell ?_ ?h _; case h => (first | omega | (simp <;> omega))) | with_reducible refine Below.drew ?_ | with_reducible refine below_dn ?_ _))) (by simp only [als]; omega)).mono ?_
        rintro e w1 ⟨v1, rfl, ho1, hb1⟩
        obtain ⟨k1, f1, z1⟩ := after hb1
        simp only [als] at k1 f1 z1
        obtain ⟨A1, cap1, rfl⟩ := ho1.val
        have os := (Own.sl Sess.cells_len ho1)
        obtain ⟨_, _, _, hlen, _, _⟩ := os.form
        obtain ⟨b, off, rfl, hbb, c0, c1, c2, c3, c4⟩ := os.sess hlt
        replace ho1 := ho1.more (base' := w.heap.size + 2) (by simp)
        have hg1 := ho1.gt b rfl
        have hne1 : b ≠ w.heap.size := by omega
        have hne2 : b ≠ w.heap.size + 1 := by omega
        have y1 : w.heap.size + 1 < w1.heap.size := by omega
        have y2 : w.heap.size < w1.heap.size := by omega
        have hx : Below w.heap.size w w1 := Below.trans (by repeat (first | with_reducible exact Below.refl _ _ | with_reducible assumption | (with_reducible refine Below.alloc ?_ ?h _; case h => (first | omega | (simp <;> omega))) | (with_reducible refine Below.setCell ?_ ?h _; case h => (first | omega | (simp <;> omega))) | with_reducible refine Below.drew ?_ | with_reducible refine below_dn ?_ _)) (hb1.mono (by simp only [als]; omega))
        have : w1.cell? ⟨w.heap.size + 1, 0, none⟩ = some (.slice none 0 0) := (by simp [k1, go_sem]); have : w1.cell? ⟨w.heap.size + 1, 1, none⟩ = some (.int .i64 0) := (by simp [k1, go_sem]); have : w1.cell? ⟨w.heap.size + 1, 2, none⟩ = some (.int .i64 0) := (by simp [k1, go_sem]); have : w1.cell? ⟨w.heap.size + 1, 3, none⟩ = some (.int .i64 0) := (by simp [k1, go_sem])
        have : ∀ o, w1.frozen? ⟨w.heap.size + 1, o, none⟩ = false := fun o => (by rw [f1 _ _ (by omega)]; simp [fz_alc, fz_out])
        have : w1.cell? ⟨w.heap.size, 0, none⟩ = some v := (by simp [k1, go_sem]); have : w1.cell? ⟨w.heap.size, 1, none⟩ = some (.int .i64 u.next) := (by simp [k1, go_sem]); have : w1.cell? ⟨w.heap.size, 2, none⟩ = some (.int .i64 u.lasts) := (by simp [k1, go_sem]); have : w1.cell? ⟨w.heap.size, 3, none⟩ = some (.int .i64 u.room) := (by simp [k1, go_sem])
        have : ∀ o, w1.frozen? ⟨w.heap.size, o, none⟩ = false := fun o => (by rw [f1 _ _ (by omega)]; simp [fz_alc, fz_out])
        clear k1 f1))
        | (go_at_call 47; refine (within_any _ _ _ _).mono ?_; rintro e w' ⟨rfl, rfl⟩))
      refine bodyPost_ret (v := .tuple #[.agg #[.slice none 0 0, .int .i64 0, .int .i64 0, .int .i64 0], .int .i64 0, .int .i64 4]) ?_ rfl ⟨_, rfl, Own.nil', (by repeat (first | with_reducible exact Below.refl _ _ | with_reducible assumption | (with_reducible refine Below.alloc ?_ ?h _; case h => (first | omega | (simp <;> omega))) | (with_reducible refine Below.setCell ?_ ?h _; case h => (first | omega | (simp <;> omega))) | with_reducible refine Below.drew ?_ | with_reducible refine below_dn ?_ _))⟩
      simp [results, Try.results18, go_sem, *]

set_option maxRecDepth 100000 in
set_option maxHeartbeats 1000000 in
theorem append_nomine (v : Value) (u : Upl) (who : Str) (number offset : Int) (text : Str) (now : Int) (w : World) (hs1 : Sl Sess.cells 5 w w.heap.size v u.sess) (ho : ∀ s ∈ u.sess, s.ok) (hw : who.length ≤ 9223372036854775807) (he : mineErr u who number now ≠ 0) :
    Calls Try.prog 18 #[.agg #[v, .int .i64 u.next, .int .i64 u.lasts, .int .i64 u.room], .string ⟨who.toArray⟩, .int .i64 number, .int .i64 offset, .string ⟨text.toArray⟩, .int .i64 now] w
      (AppPost w 0 0 0 0 (mineErr u who number now) []) := by
  have hM := Lib.hid (fun (v : Value) (W : World) (h1 : Sl Sess.cells 5 W w.heap.size v u.sess) (h2 : w.heap.size ≤ W.heap.size) => mine_bad v u who number now W w.heap.size h1 h2 ho hw he)
  have he' : (mineErr u who number now != 0) = true := by simpa using he
  clear he
  go_enter Try.func18, Try.ntmps18
  go_wp2_with (
      go_at_call 50
      go_must (
      refine (hM.out _ _ (hs1.below (by repeat (first | with_reducible exact Below.refl _ _ | with_reducible assumption | (with_reducible refine Below.alloc ?_ ?h _; case h => (first | omega | (simp <;> omega))) | (with_reducible refine Below.setCell ?_ ?h _; case h => (first | omega | (simp <;> omega))) | with_reducible refine Below.drew ?_ | with_reducible refine below_dn ?_ _))) (by simp only [als]; omega)).mono ?_
      rintro e w1 ⟨rfl, hb1⟩
      obtain ⟨k1, f1, z1⟩ := after hb1
      simp only [als] at k1 f1 z1
      have hx : Below w.heap.size w w1 := Below.trans (by repeat (first | with_reducible exact Below.refl _ _ | with_reducible assumption | (with_reducible refine Below.alloc ?_ ?h _; case h => (first | omega | (simp <;> omega))) | (with_reducible refine Below.setCell ?_ ?h _; case h => (first | omega | (simp <;> omega))) | with_reducible refine Below.drew ?_ | with_reducible refine below_dn ?_ _)) (hb1.mono (by simp only [als]; omega))
      have y1 : w.heap.size + 1 < w1.heap.size := by omega
      have y2 : w.heap.size < w1.heap.size := by omega
      have : w1.cell? ⟨w.heap.size + 1, 0, none⟩ = some (.slice none 0 0) := (by simp [k1, go_sem]); have : w1.cell? ⟨w.heap.size + 1, 1, none⟩ = some (.int .i64 0) := (by simp [k1, go_sem]); have : w1.cell? ⟨w.heap.size + 1, 2, none⟩ = some (.int .i64 0) := (by simp [k1, go_sem]); have : w1.cell? ⟨w.heap.size + 1, 3, none⟩ = some (.int .i64 0) := (by simp [k1, go_sem])
      have : ∀ o, w1.frozen? ⟨w.heap.size + 1, o, none⟩ = false := fun o => (by rw [f1 _ _ (by omega)]; simp [fz_alc, fz_out])
      have : w1.cell? ⟨w.heap.size, 0, none⟩ = some v := (by simp [k1, go_sem]); have : w1.cell? ⟨w.heap.size, 1, none⟩ = some (.int .i64 u.next) := (by simp [k1, go_sem]); have : w1.cell? ⟨w.heap.size, 2, none⟩ = some (.int .i64 u.lasts) := (by simp [k1, go_sem]); have : w1.cell? ⟨w.heap.size, 3, none⟩ = some (.int .i64 u.room) := (by simp [k1, go_sem])
      have : ∀ o, w1.frozen? ⟨w.heap.size, o, none⟩ = false := fun o => (by rw [f1 _ _ (by omega)]; simp [fz_alc, fz_out])
      clear k1 f1))
  refine bodyPost_ret (v := .tuple #[.agg #[.slice none 0 0, .int .i64 0, .int .i64 0, .int .i64 0], .int .i64 0, .int .i64 (mineErr u who number now)]) ?_ rfl ⟨_, rfl, Own.nil', (by repeat (first | with_reducible exact Below.refl _ _ | with_reducible assumption | (with_reducible refine Below.alloc ?_ ?h _; case h => (first | omega | (simp <;> omega))) | (with_reducible refine Below.setCell ?_ ?h _; case h => (first | omega | (simp <;> omega))) | with_reducible refine Below.drew ?_ | with_reducible refine below_dn ?_ _))⟩
  simp [results, Try.results18, go_sem, *]

theorem append_any (v : Value) (u : Upl) (who : Str) (number offset : Int) (text : Str) (now : Int) (w : World) (B : Nat) (hs : Sl Sess.cells 5 w B v u.sess) (hB : B ≤ w.heap.size) (ho : ∀ s ∈ u.sess, s.ok) (hw : who.length ≤ 9223372036854775807) (htx : text.length ≤ 9223372036854775000) :
    Calls Try.prog 18 #[.agg #[v, .int .i64 u.next, .int .i64 u.lasts, .int .i64 u.room], .string ⟨who.toArray⟩, .int .i64 number, .int .i64 offset, .string ⟨text.toArray⟩, .int .i64 now] w
      (AppPost w (upRes (appErr u who number offset text now) (appU u who number offset text now)).next (upRes (appErr u who number offset text now) (appU u who number offset text now)).lasts (upRes (appErr u who number offset text now) (appU u who number offset text now)).room (appN u who number offset text now) (appErr u who number offset text now) (upRes (appErr u who number offset text now) (appU u who number offset text now)).sess) := by
  by_cases he : mineErr u who number now = 0
  · obtain ⟨h0, _, i, hi⟩ := mine_zero he
    have hlt := mine_lt hi
    have hE : appErr u who number offset text now = (appS (sweptL u.sess now)[i] offset text (now + u.lasts)).1 := by
      rw [appErr, if_pos he, hi, Option.bind_some, List.getElem?_eq_getElem hlt]; rfl
    by_cases hap : (appS (sweptL u.sess now)[i] offset text (now + u.lasts)).1 = 0
    · have hN : appN u who number offset text now = ((appS (sweptL u.sess now)[i] offset text (now + u.lasts)).2.text.length : Int) := by
        rw [appN, if_pos (hE.trans hap), hi, Option.bind_some, List.getElem?_eq_getElem hlt]; rfl
      have hU : appU u who number offset text now = { u with sess := (sweptL u.sess now).set i (appS (sweptL u.sess now)[i] offset text (now + u.lasts)).2 } := by
        rw [appU, hi]; simp only [Option.elim_some]; rw [List.getElem?_eq_getElem hlt]; rfl
      rw [hE, hap, hN, hU]
      exact append_ok v u who number offset text now w B hs hB ho hw htx he i hi hap
    · have hN : appN u who number offset text now = 0 := by rw [appN, hE, if_neg hap]
      rw [hN, hE, show upRes (appS (sweptL u.sess now)[i] offset text (now + u.lasts)).1 (appU u who number offset text now) = noUp from if_neg hap]
      obtain ⟨a, b, c, d, e⟩ := u_bounds h0
      have hsb := sess_bounds (e _ (List.mem_filter.1 (List.getElem_mem hlt)).1)
      exact append_err v u who number offset text now w i (sweptL u.sess now) hlt (hs.more hB)
        (Lib.hid fun (v : Value) (W : World) (h1 : Sl Sess.cells 5 W w.heap.size v u.sess) (h2 : w.heap.size ≤ W.heap.size) => mine_ok v u who number now W w.heap.size h1 h2 ho hw he i hi)
        (by omega) htx hap
  · have hE : appErr u who number offset text now = mineErr u who number now := by rw [appErr, if_neg he]
    have hN : appN u who number offset text now = 0 := by rw [appN, hE, if_neg he]
    rw [hN, hE, show upRes (mineErr u who number now) (appU u who number offset text now) = noUp from if_neg he]
    exact append_nomine v u who number offset text now w (hs.more hB) ho hw he
end Go.Proofs.Ytdcigjpanpcaaaa
