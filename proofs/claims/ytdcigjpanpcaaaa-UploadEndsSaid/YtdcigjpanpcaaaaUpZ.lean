/- Uploads, the reference: AppendUpload, whole. -/
import Derived.Test.YtdcigjpanpcaaaaUpY
namespace Go.Proofs.Ytdcigjpanpcaaaa
open Go.RowKit

set_option maxRecDepth 100000 in
set_option maxHeartbeats 1000000 in
theorem appR_nomine (v : Value) (u : Upl) (who : Str) (number offset : Int) (text : Str) (now : Int) (w : World) (hs1 : Sl Sess.cells 5 w w.heap.size v u.sess) (ho : ∀ s ∈ u.sess, s.ok) (hw : who.length ≤ 9223372036854775807) (he : mineErr u who number now ≠ 0) :
    Calls Try.prog 19 #[.agg #[v, .int .i64 u.next, .int .i64 u.lasts, .int .i64 u.room], .string ⟨who.toArray⟩, .int .i64 number, .int .i64 offset, .string ⟨text.toArray⟩, .int .i64 now] w
      (AppPost w 0 0 0 0 (mineErr u who number now) []) := by
  have hM := Lib.hid (fun (v : Value) (W : World) (h1 : Sl Sess.cells 5 W w.heap.size v u.sess) (h2 : w.heap.size ≤ W.heap.size) => mineR_bad v u who number now W w.heap.size h1 h2 ho hw he)
  have he' : (mineErr u who number now != 0) = true := by simpa using he
  clear he
  go_enter Try.func19, Try.ntmps19
  go_wp2_with (
      go_at_call 27
      go_must (
      refine (hM.out _ _ (hs1.below (by repeat (first | with_reducible exact Below.refl _ _ | with_reducible assumption | (with_reducible refine Below.alloc ?_ ?h _; case h => (first | omega | (simp <;> omega))) | (with_reducible refine Below.setCell ?_ ?h _; case h => (first | omega | (simp <;> omega))) | with_reducible refine Below.drew ?_ | with_reducible refine below_dn ?_ _))) (by simp only [als]; omega)).mono ?_
      rintro e w1 ⟨A9, n9, c9, rfl, hb1⟩
      obtain ⟨k1, f1, z1⟩ := after hb1
      simp only [als] at k1 f1 z1
      have hx : Below w.heap.size w w1 := Below.trans (by repeat (first | with_reducible exact Below.refl _ _ | with_reducible assumption | (with_reducible refine Below.alloc ?_ ?h _; case h => (first | omega | (simp <;> omega))) | (with_reducible refine Below.setCell ?_ ?h _; case h => (first | omega | (simp <;> omega))) | with_reducible refine Below.drew ?_ | with_reducible refine below_dn ?_ _)) (hb1.mono (by simp only [als]; omega))
      have y1 : w.heap.size + 1 < w1.heap.size := by omega
      have y2 : w.heap.size < w1.heap.size := by omega
      have : w1.cell? ⟨w.heap.size + 1, 0, none⟩ = some (.slice none 0 0) := (by simp [k1, go_sem]); have : w1.cell? ⟨w.heap.size + 1, 1, none⟩ = some (.int .i64 0) := (by simp [k1, go_sem]); have : w1.cell? ⟨w.heap.size + 1, 2, none⟩ = some (.int .i64 0) := (by simp [k1, go_sem]); have : w1.cell? ⟨w.heap.size + 1, 3, none⟩ = some (.int .i64 0) := (by simp [k1, go_sem])
      have : ∀ o, w1.frozen? ⟨w.heap.size + 1, o, none⟩ = false := fun o => (by rw [f1 _ _ (by omega)]; simp [fz_alc, fz_out])
      have : w1.cell? ⟨w.heap.size, 0, none⟩ = some v := (by simp [k1, go_sem]); have : w1.cell? ⟨w.heap.size, 1, none⟩ = some (.int .i64 u.next) := (by simp [k1, go_sem]); have : w1.cell? ⟨w.heap.size, 2, none⟩ = some (.int .i64 u.lasts) := (by simp [k1, go_sem]); have : w1.cell? ⟨w.heap.size, 3, none⟩ = some (.int .i64 u.room) := (by simp [k1, go_sem])
      have : ∀ o, w1.frozen? ⟨w.heap.size, o, none⟩ = false := fun o => (by rw [f1 _ _ (by omega)]; simp [fz_alc, fz_out])
      clear k1 f1))
  refine bodyPost_ret (v := .tuple #[.agg #[.slice none 0 0, .int .i64 0, .int .i64 0, .int .i64 0], .int .i64 0, .int .i64 (mineErr u who number now)]) ?_ rfl ⟨_, rfl, Own.nil', (by repeat (first | with_reducible exact Below.refl _ _ | with_reducible assumption | (with_reducible refine Below.alloc ?_ ?h _; case h => (first | omega | (simp <;> omega))) | (with_reducible refine Below.setCell ?_ ?h _; case h => (first | omega | (simp <;> omega))) | with_reducible refine Below.drew ?_ | with_reducible refine below_dn ?_ _))⟩
  simp [results, Try.results19, go_sem, *]

theorem appendR_any (v : Value) (u : Upl) (who : Str) (number offset : Int) (text : Str) (now : Int) (w : World) (B : Nat) (hs : Sl Sess.cells 5 w B v u.sess) (hB : B ≤ w.heap.size) (ho : ∀ s ∈ u.sess, s.ok) (hw : who.length ≤ 9223372036854775807) (htx : text.length ≤ 9223372036854775000) :
    Calls Try.prog 19 #[.agg #[v, .int .i64 u.next, .int .i64 u.lasts, .int .i64 u.room], .string ⟨who.toArray⟩, .int .i64 number, .int .i64 offset, .string ⟨text.toArray⟩, .int .i64 now] w
      (AppPost w (upRes (appErr u who number offset text now) (appU u who number offset text now)).next (upRes (appErr u who number offset text now) (appU u who number offset text now)).lasts (upRes (appErr u who number offset text now) (appU u who number offset text now)).room (appN u who number offset text now) (appErr u who number offset text now) (upRes (appErr u who number offset text now) (appU u who number offset text now)).sess) := by
  by_cases he : mineErr u who number now = 0
  · obtain ⟨h0, _, i, hi⟩ := mine_zero he
    have hlt := mine_lt hi
    obtain ⟨a, b, c, d, e⟩ := u_bounds h0
    have hl := (upErr_zero (begin_zero h0).1).2.1
    have hlen : (sweptL u.sess now).length ≤ 20 := Nat.le_trans (List.length_filter_le _ _) hl
    have hsb := sess_bounds (e _ (List.mem_filter.1 (List.getElem_mem hlt)).1)
    have hM := Lib.hid fun (v : Value) (W : World) (h1 : Sl Sess.cells 5 W w.heap.size v u.sess) (h2 : w.heap.size ≤ W.heap.size) => mineR_ok v u who number now W w.heap.size h1 h2 ho hw he i hi
    have hE : appErr u who number offset text now = (appS (sweptL u.sess now)[i] offset text (now + u.lasts)).1 := by
      rw [appErr, if_pos he, hi, Option.bind_some, List.getElem?_eq_getElem hlt]; rfl
    have hN : appN u who number offset text now = if (appS (sweptL u.sess now)[i] offset text (now + u.lasts)).1 = 0 then ((appS (sweptL u.sess now)[i] offset text (now + u.lasts)).2.text.length : Int) else 0 := by
      rw [appN, hE, hi, Option.bind_some, List.getElem?_eq_getElem hlt]; rfl
    have hU : appU u who number offset text now = { u with sess := (sweptL u.sess now).set i (appS (sweptL u.sess now)[i] offset text (now + u.lasts)).2 } := by
      rw [appU, hi]; simp only [Option.elim_some]; rw [List.getElem?_eq_getElem hlt]; rfl
    rw [hE, hN, hU]
    clear hE hN hU
    generalize sweptL u.sess now = L at *
    by_cases hag : (withinB offset 0 L[i].text.length && L[i].text.drop offset.toNat == text) = true
    · have hA : appS L[i] offset text (now + u.lasts) = (0, L[i]) := if_pos hag
      rw [hA]
      simp only [Bool.and_eq_true] at hag
      obtain ⟨o0, o1⟩ := within_true hag.1
      have := appR_again v u who number offset text now w i L hlt (hs.more hB) hM offset.toNat (by omega) (by omega) hag.2
      simpa [upRes, List.set_getElem_self hlt] using this
    · by_cases h3 : offset = L[i].text.length
      · have hte : text.isEmpty = false := by
          cases text with
          | nil =>
            exfalso
            apply hag
            rw [h3, within_mk (by omega) (by omega)]
            simp
          | cons a t => rfl
        by_cases h4 : L[i].size < (L[i].text.length : Int) + text.length
        · have hA : appS L[i] offset text (now + u.lasts) = (2, L[i]) := by rw [appS, if_neg hag, if_pos h3, if_pos h4]
          rw [hA]
          exact appR_2 v u who number offset text now w i L hlt (hs.more hB) hM (by omega) htx h3 hte h4
        · have hA : appS L[i] offset text (now + u.lasts) = (0, { L[i] with text := L[i].text ++ text, till := now + u.lasts }) := by rw [appS, if_neg hag, if_pos h3, if_neg h4]
          rw [hA]
          subst h3
          have := appR_ok v u who number text now w i L hlt (hs.more hB) hM hlen (by omega) (by omega) a.1 a.2 b.1 b.2 hte (by omega)
          simpa [upRes] using this
      · have hA : appS L[i] offset text (now + u.lasts) = (4, L[i]) := by rw [appS, if_neg hag, if_neg h3]
        rw [hA]
        refine appR_4 v u who number offset text now w i L hlt (hs.more hB) hM (by simpa using h3) ?_
        intro o h5 h6
        subst h5
        rw [within_mk (by omega) (by omega)] at hag
        simpa using hag
  · have hE : appErr u who number offset text now = mineErr u who number now := by rw [appErr, if_neg he]
    have hN : appN u who number offset text now = 0 := by rw [appN, hE, if_neg he]
    rw [hN, hE, show upRes (mineErr u who number now) (appU u who number offset text now) = noUp from if_neg he]
    exact appR_nomine v u who number offset text now w (hs.more hB) ho hw he
end Go.Proofs.Ytdcigjpanpcaaaa
