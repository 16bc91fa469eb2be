/- Uploads, the reference: FinishUpload, whole; and Finish in the same form. -/
import Derived.Test.YtdcigjpanpcaaaaUpFR
namespace Go.Proofs.Ytdcigjpanpcaaaa
open Go.RowKit

theorem finishP (v : Value) (u : Upl) (who : Str) (number now : Int) (w : World) (B : Nat) (hs : Sl Sess.cells 5 w B v u.sess) (hB : B ≤ w.heap.size) (ho : ∀ s ∈ u.sess, s.ok) (hw : who.length ≤ 9223372036854775807) :
    Calls Try.prog 26 #[.agg #[v, .int .i64 u.next, .int .i64 u.lasts, .int .i64 u.room], .string ⟨who.toArray⟩, .int .i64 number, .int .i64 now] w
      (FinPost w (upRes (finErr u who number now) (finU u who number now)).next (upRes (finErr u who number now) (finU u who number now)).lasts (upRes (finErr u who number now) (finU u who number now)).room (finText u who number now) (finErr u who number now) (upRes (finErr u who number now) (finU u who number now)).sess) :=
  finish_any v u who number now w B hs hB ho hw

theorem finishR_any (v : Value) (u : Upl) (who : Str) (number now : Int) (w : World) (B : Nat) (hs : Sl Sess.cells 5 w B v u.sess) (hB : B ≤ w.heap.size) (ho : ∀ s ∈ u.sess, s.ok) (hw : who.length ≤ 9223372036854775807) :
    Calls Try.prog 28 #[.agg #[v, .int .i64 u.next, .int .i64 u.lasts, .int .i64 u.room], .string ⟨who.toArray⟩, .int .i64 number, .int .i64 now] w
      (FinPost w (upRes (finErr u who number now) (finU u who number now)).next (upRes (finErr u who number now) (finU u who number now)).lasts (upRes (finErr u who number now) (finU u who number now)).room (finText u who number now) (finErr u who number now) (upRes (finErr u who number now) (finU u who number now)).sess) := by
  by_cases he : mineErr u who number now = 0
  · obtain ⟨h0, _, i, hi⟩ := mine_zero he
    have hlt := mine_lt hi
    obtain ⟨a, b, c, d, e⟩ := u_bounds h0
    have hl := (upErr_zero (begin_zero h0).1).2.1
    have hlen : (sweptL u.sess now).length ≤ 20 := Nat.le_trans (List.length_filter_le _ _) hl
    have hsb := sess_bounds (e _ (List.mem_filter.1 (List.getElem_mem hlt)).1)
    have hM := Lib.hid fun (v : Value) (W : World) (h1 : Sl Sess.cells 5 W w.heap.size v u.sess) (h2 : w.heap.size ≤ W.heap.size) => mineR_ok v u who number now W w.heap.size h1 h2 ho hw he i hi
    by_cases hsz : ((sweptL u.sess now)[i].text.length : Int) < (sweptL u.sess now)[i].size
    · have HN : finErr u who number now = 4 := by
        simp only [finErr, he, if_true, hi, Option.bind_some]
        rw [List.getElem?_eq_getElem hlt]; exact if_pos hsz
      have HT : finText u who number now = [] := by rw [finText, HN]; rfl
      rw [HT, HN]
      exact finR_4 v u who number now w i (sweptL u.sess now) hlt (hs.more hB) hM (by rw [bne_iff_ne]; omega)
    · have HN : finErr u who number now = 0 := by
        simp only [finErr, he, if_true, hi, Option.bind_some]
        rw [List.getElem?_eq_getElem hlt]; exact if_neg hsz
      have HT : finText u who number now = (sweptL u.sess now)[i].text := by
        rw [finText, if_pos HN, hi, Option.bind_some, List.getElem?_eq_getElem hlt]; rfl
      have HU : finU u who number now = { u with sess := (sweptL u.sess now).take i ++ (sweptL u.sess now).drop (i + 1) } := by
        rw [finU, hi]; rfl
      rw [HT, HN, HU]
      exact finR_ok v u who number now w i (sweptL u.sess now) hlt (hs.more hB) hM hlen (by rw [bne_eq_false_iff_eq]; omega)
  · have HN : finErr u who number now = mineErr u who number now := by
      simp only [finErr, if_neg he]
    have HT : finText u who number now = [] := by rw [finText, HN, if_neg he]
    rw [HT, HN, show upRes (mineErr u who number now) (finU u who number now) = noUp from if_neg he]
    exact finR_nomine v u who number now w (hs.more hB) ho hw he
end Go.Proofs.Ytdcigjpanpcaaaa
