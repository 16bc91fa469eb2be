/- Uploads: Finish. -/
import Derived.Test.YtdcigjpanpcaaaaUpI
namespace Go.Proofs.Ytdcigjpanpcaaaa
open Go.RowKit

def finErr (u : Upl) (who : Str) (number now : Int) : Int :=
  if mineErr u who number now = 0 then (((mineAt u who number now).bind fun i => (sweptL u.sess now)[i]?).elim 0 (fun s => if (s.text.length : Int) < s.size then 4 else 0)) else mineErr u who number now
def finText (u : Upl) (who : Str) (number now : Int) : Str :=
  if finErr u who number now = 0 then (((mineAt u who number now).bind fun i => (sweptL u.sess now)[i]?).elim [] (fun s => s.text)) else []
def finU (u : Upl) (who : Str) (number now : Int) : Upl :=
  { u with sess := (mineAt u who number now).elim [] (fun i => (sweptL u.sess now).take i ++ (sweptL u.sess now).drop (i + 1)) }

set_option maxRecDepth 100000 in
set_option maxHeartbeats 1000000 in
theorem finish_any (v : Value) (u : Upl) (who : Str) (number now : Int) (w : World) (B : Nat) (hs : Sl Sess.cells 5 w B v u.sess) (hB : B ≤ w.heap.size) (ho : ∀ s ∈ u.sess, s.ok) (hw : who.length ≤ 9223372036854775807) :
    Calls Try.prog 26 #[.agg #[v, .int .i64 u.next, .int .i64 u.lasts, .int .i64 u.room], .string ⟨who.toArray⟩, .int .i64 number, .int .i64 now] w fun e w' => ∃ v', e = .returned (.tuple #[.agg #[v', .int .i64 (upRes (finErr u who number now) (finU u who number now)).next, .int .i64 (upRes (finErr u who number now) (finU u who number now)).lasts, .int .i64 (upRes (finErr u who number now) (finU u who number now)).room], .string ⟨(finText u who number now).toArray⟩, .int .i64 (finErr u who number now)]) ∧ Own Sess.cells 44 5 w' w.heap.size v' (upRes (finErr u who number now) (finU u who number now)).sess ∧ Below w.heap.size w w' := by
  have hs1 := hs.more hB
  by_cases he : mineErr u who number now = 0
  · obtain ⟨_, _, i, hi⟩ := mine_zero he
    have hlt := mine_lt hi
    have hM := Lib.hid (fun (v : Value) (W : World) (h1 : Sl Sess.cells 5 W w.heap.size v u.sess) (h2 : w.heap.size ≤ W.heap.size) => mine_ok v u who number now W w.heap.size h1 h2 ho hw he i hi)
    have hok := swept_ok (now := now) ho _ (List.getElem_mem hlt)
    by_cases hsz : ((sweptL u.sess now)[i].text.length : Int) < (sweptL u.sess now)[i].size
    · have HN : finErr u who number now = 4 := by
        simp only [finErr, he, if_true, hi, Option.bind_some]
        rw [List.getElem?_eq_getElem hlt]; exact if_pos hsz
      have HT : finText u who number now = [] := by rw [finText, HN]; rfl
      rw [HT, HN]
      show Calls _ _ _ _ fun e w' => ∃ v', e = .returned (.tuple #[.agg #[v', .int .i64 0, .int .i64 0, .int .i64 0], .string ⟨#[]⟩, .int .i64 4]) ∧ Own Sess.cells 44 5 w' w.heap.size v' [] ∧ Below w.heap.size w w'
      clear he hi HN HT
      generalize sweptL u.sess now = L at *
      go_enter Try.func26, Try.ntmps26
      go_wp2_with (
        go_at_call 50
        go_must (
        refine (hM.out _ _ (hs1.below (by repeat (first | with_reducible exact Below.refl _ _ | with_reducible assumption | (with_reducible refine Below.alloc ?_ ?h _; case h => (first | omega | (simp <;> omega))) | (with_reducible refine Below.setCell ?_ ?h _; case h => (first | omega | (simp <;> omega))) | with_reducible refine Below.drew ?_ | with_reducible refine below_dn ?_ _))) (by simp only [als]; omega)).mono ?_
        rintro e w1 ⟨v1, rfl, ho1, hb1⟩
        obtain ⟨k1, f1, z1⟩ := after hb1
        simp only [als] at k1 f1 z1
        obtain ⟨A1, cap1, rfl⟩ := ho1.val
        have os := (Own.sl Sess.cells_len ho1)
        obtain ⟨_, _, _, hlen, _, _⟩ := os.form
        obtain ⟨b, off, rfl, hbb, c0, c1, c2, c3, c4⟩ := os.sess hlt
        replace ho1 := ho1.more (base' := w.heap.size + 2) (by simp)
        have hg1 := ho1.gt b rfl
        have hne1 : b ≠ w.heap.size := by omega
        have hne2 : b ≠ w.heap.size + 1 := by omega
        have y1 : w.heap.size + 1 < w1.heap.size := by omega
        have y2 : w.heap.size < w1.heap.size := by omega
        have hx : Below w.heap.size w w1 := Below.trans (by repeat (first | with_reducible exact Below.refl _ _ | with_reducible assumption | (with_reducible refine Below.alloc ?_ ?h _; case h => (first | omega | (simp <;> omega))) | (with_reducible refine Below.setCell ?_ ?h _; case h => (first | omega | (simp <;> omega))) | with_reducible refine Below.drew ?_ | with_reducible refine below_dn ?_ _)) (hb1.mono (by simp only [als]; omega))
        have : w1.cell? ⟨w.heap.size + 1, 0, none⟩ = some (.slice none 0 0) := (by simp [k1, go_sem]); have : w1.cell? ⟨w.heap.size + 1, 1, none⟩ = some (.int .i64 0) := (by simp [k1, go_sem]); have : w1.cell? ⟨w.heap.size + 1, 2, none⟩ = some (.int .i64 0) := (by simp [k1, go_sem]); have : w1.cell? ⟨w.heap.size + 1, 3, none⟩ = some (.int .i64 0) := (by simp [k1, go_sem])
        have : ∀ o, w1.frozen? ⟨w.heap.size + 1, o, none⟩ = false := fun o => (by rw [f1 _ _ (by omega)]; simp [fz_alc, fz_out])
        have : w1.cell? ⟨w.heap.size, 0, none⟩ = some v := (by simp [k1, go_sem]); have : w1.cell? ⟨w.heap.size, 1, none⟩ = some (.int .i64 u.next) := (by simp [k1, go_sem]); have : w1.cell? ⟨w.heap.size, 2, none⟩ = some (.int .i64 u.lasts) := (by simp [k1, go_sem]); have : w1.cell? ⟨w.heap.size, 3, none⟩ = some (.int .i64 u.room) := (by simp [k1, go_sem])
        have : ∀ o, w1.frozen? ⟨w.heap.size, o, none⟩ = false := fun o => (by rw [f1 _ _ (by omega)]; simp [fz_alc, fz_out])
        clear k1 f1))
      refine bodyPost_ret (v := .tuple #[.agg #[.slice none 0 0, .int .i64 0, .int .i64 0, .int .i64 0], .string ⟨#[]⟩, .int .i64 4]) ?_ rfl ⟨_, rfl, Own.nil', (by repeat (first | with_reducible exact Below.refl _ _ | with_reducible assumption | (with_reducible refine Below.alloc ?_ ?h _; case h => (first | omega | (simp <;> omega))) | (with_reducible refine Below.setCell ?_ ?h _; case h => (first | omega | (simp <;> omega))) | with_reducible refine Below.drew ?_ | with_reducible refine below_dn ?_ _))⟩
      simp [results, Try.results26, go_sem, *]
    · have HN : finErr u who number now = 0 := by
        simp only [finErr, he, if_true, hi, Option.bind_some]
        rw [List.getElem?_eq_getElem hlt]; exact if_neg hsz
      have HT : finText u who number now = (sweptL u.sess now)[i].text := by
        rw [finText, if_pos HN, hi, Option.bind_some, List.getElem?_eq_getElem hlt]; rfl
      have HU : finU u who number now = { u with sess := (sweptL u.sess now).take i ++ (sweptL u.sess now).drop (i + 1) } := by
        rw [finU, hi]; rfl
      rw [HT, HN, HU]
      show Calls _ _ _ _ fun e w' => ∃ v', e = .returned (.tuple #[.agg #[v', .int .i64 u.next, .int .i64 u.lasts, .int .i64 u.room], .string ⟨(sweptL u.sess now)[i].text.toArray⟩, .int .i64 0]) ∧ Own Sess.cells 44 5 w' w.heap.size v' ((sweptL u.sess now).take i ++ (sweptL u.sess now).drop (i + 1)) ∧ Below w.heap.size w w'
      clear he hi HN HT HU
      have hsz' : (sweptL u.sess now)[i].size ≤ ((sweptL u.sess now)[i].text.length : Int) := by omega
      clear hsz
      generalize sweptL u.sess now = L at *
      obtain ⟨M, hMM⟩ : ∃ M, M = L.take i ++ L.drop (i + 1) := ⟨_, rfl⟩
      rw [← hMM]
      have HM := Lib.hid hMM
      clear hMM
      go_enter Try.func26, Try.ntmps26
      go_wp2_with (
        go_at_call 50
        go_must (
        refine (hM.out _ _ (hs1.below (by repeat (first | with_reducible exact Below.refl _ _ | with_reducible assumption | (with_reducible refine Below.alloc ?_ ?h _; case h => (first | omega | (simp <;> omega))) | (with_reducible refine Below.setCell ?_ ?h _; case h => (first | omega | (simp <;> omega))) | with_reducible refine Below.drew ?_ | with_reducible refine below_dn ?_ _))) (by simp only [als]; omega)).mono ?_
        rintro e w1 ⟨v1, rfl, ho1, hb1⟩
        obtain ⟨k1, f1, z1⟩ := after hb1
        simp only [als] at k1 f1 z1
        obtain ⟨A1, cap1, rfl⟩ := ho1.val
        have os := (Own.sl Sess.cells_len ho1)
        obtain ⟨_, _, _, hlen, _, _⟩ := os.form
        obtain ⟨b, off, rfl, hbb, c0, c1, c2, c3, c4⟩ := os.sess hlt
        replace ho1 := ho1.more (base' := w.heap.size + 2) (by simp)
        have hg1 := ho1.gt b rfl
        have hne1 : b ≠ w.heap.size := by omega
        have hne2 : b ≠ w.heap.size + 1 := by omega
        have y1 : w.heap.size + 1 < w1.heap.size := by omega
        have y2 : w.heap.size < w1.heap.size := by omega
        have hx : Below w.heap.size w w1 := Below.trans (by repeat (first | with_reducible exact Below.refl _ _ | with_reducible assumption | (with_reducible refine Below.alloc ?_ ?h _; case h => (first | omega | (simp <;> omega))) | (with_reducible refine Below.setCell ?_ ?h _; case h => (first | omega | (simp <;> omega))) | with_reducible refine Below.drew ?_ | with_reducible refine below_dn ?_ _)) (hb1.mono (by simp only [als]; omega))
        have : w1.cell? ⟨w.heap.size + 1, 0, none⟩ = some (.slice none 0 0) := (by simp [k1, go_sem]); have : w1.cell? ⟨w.heap.size + 1, 1, none⟩ = some (.int .i64 0) := (by simp [k1, go_sem]); have : w1.cell? ⟨w.heap.size + 1, 2, none⟩ = some (.int .i64 0) := (by simp [k1, go_sem]); have : w1.cell? ⟨w.heap.size + 1, 3, none⟩ = some (.int .i64 0) := (by simp [k1, go_sem])
        have : ∀ o, w1.frozen? ⟨w.heap.size + 1, o, none⟩ = false := fun o => (by rw [f1 _ _ (by omega)]; simp [fz_alc, fz_out])
        have : w1.cell? ⟨w.heap.size, 0, none⟩ = some v := (by simp [k1, go_sem]); have : w1.cell? ⟨w.heap.size, 1, none⟩ = some (.int .i64 u.next) := (by simp [k1, go_sem]); have : w1.cell? ⟨w.heap.size, 2, none⟩ = some (.int .i64 u.lasts) := (by simp [k1, go_sem]); have : w1.cell? ⟨w.heap.size, 3, none⟩ = some (.int .i64 u.room) := (by simp [k1, go_sem])
        have : ∀ o, w1.frozen? ⟨w.heap.size, o, none⟩ = false := fun o => (by rw [f1 _ _ (by omega)]; simp [fz_alc, fz_out])
        clear k1 f1))
      refine (deleteS_any (w.heap.size + 2) _ L i _ ?_ hlt).mono ?_
      · repeat (first | with_reducible exact ho1 | (with_reducible refine Own.setB ?_ ?h _; case h => (first | omega | (simp <;> omega))) | with_reducible refine Own.allc ?_ _ | with_reducible refine Own.dn ?_ _ | with_reducible refine Own.d1 ?_)
      rintro e w2 ⟨v2, rfl, ho2, hb2, hk2⟩
      rw [← HM.out] at ho2
      obtain ⟨k2, f2, z2⟩ := after' hb2
      obtain ⟨A2, cap2, rfl⟩ := ho2.val
      have hy : Below w.heap.size w w2 := Below.trans (by repeat (first | with_reducible exact Below.refl _ _ | with_reducible assumption | (with_reducible refine Below.alloc ?_ ?h _; case h => (first | omega | (simp <;> omega))) | (with_reducible refine Below.setCell ?_ ?h _; case h => (first | omega | (simp <;> omega))) | with_reducible refine Below.drew ?_ | with_reducible refine below_dn ?_ _)) (hb2.mono (by omega))
      have hsb : b ≠ w1.heap.size := by omega
      have d0 : w2.cell? ⟨w1.heap.size, 2, none⟩ = some (.string ⟨L[i].text.toArray⟩) := by
        rw [World.cell?_of_block (w := _) (hk2 w1.heap.size (by simp [Value.ownBlock]; omega))]; simp [go_sem]
      have : w2.cell? ⟨w.heap.size, 0, none⟩ = some (.slice (some ⟨b, off, none⟩) L.length cap1) := by rw [k2 _ _ (by omega)]; simp [*, go_sem]
      have : w2.cell? ⟨w.heap.size, 1, none⟩ = some (.int .i64 u.next) := by rw [k2 _ _ (by omega)]; simp [*, go_sem]
      have : w2.cell? ⟨w.heap.size, 2, none⟩ = some (.int .i64 u.lasts) := by rw [k2 _ _ (by omega)]; simp [*, go_sem]
      have : w2.cell? ⟨w.heap.size, 3, none⟩ = some (.int .i64 u.room) := by rw [k2 _ _ (by omega)]; simp [*, go_sem]
      have : ∀ o, w2.frozen? ⟨w.heap.size, o, none⟩ = false := fun o => (by rw [f2 _ _ (by omega)]; simp [*, go_sem])
      have : w2.cell? ⟨w.heap.size + 1, 0, none⟩ = some (.slice none 0 0) := (by rw [k2 _ _ (by omega)]; simp [*, go_sem]); have : w2.cell? ⟨w.heap.size + 1, 1, none⟩ = some (.int .i64 0) := (by rw [k2 _ _ (by omega)]; simp [*, go_sem]); have : w2.cell? ⟨w.heap.size + 1, 2, none⟩ = some (.int .i64 0) := (by rw [k2 _ _ (by omega)]; simp [*, go_sem]); have : w2.cell? ⟨w.heap.size + 1, 3, none⟩ = some (.int .i64 0) := (by rw [k2 _ _ (by omega)]; simp [*, go_sem])
      have : ∀ o, w2.frozen? ⟨w.heap.size + 1, o, none⟩ = false := fun o => (by rw [f2 _ _ (by omega)]; simp [*, go_sem])
      have z3 : w1.heap.size + 1 ≤ w2.heap.size := by simpa using z2
      have y3 : w.heap.size + 1 < w2.heap.size := by omega
      have y4 : w.heap.size < w2.heap.size := by omega
      have n1 : w1.heap.size ≠ w.heap.size := by omega
      have n2 : w1.heap.size ≠ w.heap.size + 1 := by omega
      clear k2 f2 hk2 z2 hb2 hM
      go_wp2_with fail
      go_region
      go_wp2_with fail
      refine bodyPost_ret (v := .tuple #[.agg #[.slice A2 M.length cap2, .int .i64 u.next, .int .i64 u.lasts, .int .i64 u.room], .string ⟨L[i].text.toArray⟩, .int .i64 0]) ?_ rfl ⟨_, rfl, ?_, (by repeat (first | with_reducible exact Below.refl _ _ | with_reducible assumption | (with_reducible refine Below.alloc ?_ ?h _; case h => (first | omega | (simp <;> omega))) | (with_reducible refine Below.setCell ?_ ?h _; case h => (first | omega | (simp <;> omega))) | with_reducible refine Below.drew ?_ | with_reducible refine below_dn ?_ _))⟩
      · simp [results, Try.results26, go_sem, *]
      · exact (Own.more (base := w.heap.size + 2) (by repeat (first | with_reducible exact ho2 | (with_reducible refine Own.setB ?_ ?h _; case h => (first | omega | (simp <;> omega))) | with_reducible refine Own.allc ?_ _ | with_reducible refine Own.dn ?_ _ | with_reducible refine Own.d1 ?_)) (by omega))
  · have HN : finErr u who number now = mineErr u who number now := by
      simp only [finErr, if_neg he]
    have HT : finText u who number now = [] := by rw [finText, HN, if_neg he]
    rw [HT, HN, show upRes (mineErr u who number now) (finU u who number now) = noUp from if_neg he]
    show Calls _ _ _ _ fun e w' => ∃ v', e = .returned (.tuple #[.agg #[v', .int .i64 0, .int .i64 0, .int .i64 0], .string ⟨#[]⟩, .int .i64 (mineErr u who number now)]) ∧ Own Sess.cells 44 5 w' w.heap.size v' [] ∧ Below w.heap.size w w'
    have hM := Lib.hid (fun (v : Value) (W : World) (h1 : Sl Sess.cells 5 W w.heap.size v u.sess) (h2 : w.heap.size ≤ W.heap.size) => mine_bad v u who number now W w.heap.size h1 h2 ho hw he)
    have he' : (mineErr u who number now != 0) = true := by simpa using he
    clear he HN HT
    go_enter Try.func26, Try.ntmps26
    go_wp2_with (
      go_at_call 50
      go_must (
      refine (hM.out _ _ (hs1.below (by repeat (first | with_reducible exact Below.refl _ _ | with_reducible assumption | (with_reducible refine Below.alloc ?_ ?h _; case h => (first | omega | (simp <;> omega))) | (with_reducible refine Below.setCell ?_ ?h _; case h => (first | omega | (simp <;> omega))) | with_reducible refine Below.drew ?_ | with_reducible refine below_dn ?_ _))) (by simp only [als]; omega)).mono ?_
      rintro e w1 ⟨rfl, hb1⟩
      obtain ⟨k1, f1, z1⟩ := after hb1
      simp only [als] at k1 f1 z1
      have hx : Below w.heap.size w w1 := Below.trans (by repeat (first | with_reducible exact Below.refl _ _ | with_reducible assumption | (with_reducible refine Below.alloc ?_ ?h _; case h => (first | omega | (simp <;> omega))) | (with_reducible refine Below.setCell ?_ ?h _; case h => (first | omega | (simp <;> omega))) | with_reducible refine Below.drew ?_ | with_reducible refine below_dn ?_ _)) (hb1.mono (by simp only [als]; omega))
      have y1 : w.heap.size + 1 < w1.heap.size := by omega
      have y2 : w.heap.size < w1.heap.size := by omega
      have : w1.cell? ⟨w.heap.size + 1, 0, none⟩ = some (.slice none 0 0) := (by simp [k1, go_sem]); have : w1.cell? ⟨w.heap.size + 1, 1, none⟩ = some (.int .i64 0) := (by simp [k1, go_sem]); have : w1.cell? ⟨w.heap.size + 1, 2, none⟩ = some (.int .i64 0) := (by simp [k1, go_sem]); have : w1.cell? ⟨w.heap.size + 1, 3, none⟩ = some (.int .i64 0) := (by simp [k1, go_sem])
      have : ∀ o, w1.frozen? ⟨w.heap.size + 1, o, none⟩ = false := fun o => (by rw [f1 _ _ (by omega)]; simp [fz_alc, fz_out])
      have : w1.cell? ⟨w.heap.size, 0, none⟩ = some v := (by simp [k1, go_sem]); have : w1.cell? ⟨w.heap.size, 1, none⟩ = some (.int .i64 u.next) := (by simp [k1, go_sem]); have : w1.cell? ⟨w.heap.size, 2, none⟩ = some (.int .i64 u.lasts) := (by simp [k1, go_sem]); have : w1.cell? ⟨w.heap.size, 3, none⟩ = some (.int .i64 u.room) := (by simp [k1, go_sem])
      have : ∀ o, w1.frozen? ⟨w.heap.size, o, none⟩ = false := fun o => (by rw [f1 _ _ (by omega)]; simp [fz_alc, fz_out])
      clear k1 f1))
    refine bodyPost_ret (v := .tuple #[.agg #[.slice none 0 0, .int .i64 0, .int .i64 0, .int .i64 0], .string ⟨#[]⟩, .int .i64 (mineErr u who number now)]) ?_ rfl ⟨_, rfl, Own.nil', (by repeat (first | with_reducible exact Below.refl _ _ | with_reducible assumption | (with_reducible refine Below.alloc ?_ ?h _; case h => (first | omega | (simp <;> omega))) | (with_reducible refine Below.setCell ?_ ?h _; case h => (first | omega | (simp <;> omega))) | with_reducible refine Below.drew ?_ | with_reducible refine below_dn ?_ _))⟩
    simp [results, Try.results26, go_sem, *]
end Go.Proofs.Ytdcigjpanpcaaaa
