/- Uploads: Query, Finish. -/
import Derived.Test.YtdcigjpanpcaaaaUpG
import Derived.Test.YtdcigjpanpcaaaaUpH
namespace Go.Proofs.Ytdcigjpanpcaaaa
open Go.RowKit

theorem mine_lt {u : Upl} {who : Str} {number now : Int} {i : Nat} (h : mineAt u who number now = some i) : i < (sweptL u.sess now).length := by
  unfold mineAt at h
  rw [List.findIdx?_eq_some_iff_getElem] at h
  exact h.1
theorem swept_ok {l : List Sess} {now : Int} (ho : ∀ s ∈ l, s.ok) : ∀ s ∈ sweptL l now, s.ok := fun s hs => ho s (List.mem_filter.1 hs).1

def queryN (u : Upl) (who : Str) (number now : Int) : Int :=
  if mineErr u who number now = 0 then (((mineAt u who number now).bind fun i => (sweptL u.sess now)[i]?).elim 0 (fun s => (s.text.length : Int))) else 0

set_option maxRecDepth 100000 in
set_option maxHeartbeats 1000000 in
theorem query_any (v : Value) (u : Upl) (who : Str) (number now : Int) (w : World) (B : Nat) (hs : Sl Sess.cells 5 w B v u.sess) (hB : B ≤ w.heap.size) (ho : ∀ s ∈ u.sess, s.ok) (hw : who.length ≤ 9223372036854775807) :
    Calls Try.prog 25 #[.agg #[v, .int .i64 u.next, .int .i64 u.lasts, .int .i64 u.room], .string ⟨who.toArray⟩, .int .i64 number, .int .i64 now] w fun e w' => e = .returned (.tuple #[.int .i64 (queryN u who number now), .int .i64 (mineErr u who number now)]) ∧ Below w.heap.size w w' := by
  have hs1 := hs.more hB
  by_cases he : mineErr u who number now = 0
  · obtain ⟨_, _, i, hi⟩ := mine_zero he
    have hlt := mine_lt hi
    have HN : Hid (queryN u who number now = ((sweptL u.sess now)[i].text.length : Int)) := by
      show queryN u who number now = _
      simp only [queryN, he, if_true, hi, Option.bind_some]
      rw [List.getElem?_eq_getElem hlt]; rfl
    have hM := Lib.hid (fun (v : Value) (W : World) (h1 : Sl Sess.cells 5 W w.heap.size v u.sess) (h2 : w.heap.size ≤ W.heap.size) => mine_ok v u who number now W w.heap.size h1 h2 ho hw he i hi)
    have HE := Lib.hid he
    clear he hi
    go_enter Try.func25, Try.ntmps25
    go_wp2_with (
      go_at_call 50
      go_must (
      refine (hM.out _ _ (hs1.below (by repeat (first | with_reducible exact Below.refl _ _ | with_reducible assumption | (with_reducible refine Below.alloc ?_ ?h _; case h => (first | omega | (simp <;> omega))) | (with_reducible refine Below.setCell ?_ ?h _; case h => (first | omega | (simp <;> omega))) | with_reducible refine Below.drew ?_ | with_reducible refine below_dn ?_ _))) (by simp only [als]; omega)).mono ?_
      rintro e w1 ⟨v1, rfl, ho1, hb1⟩
      obtain ⟨k1, f1, z1⟩ := after hb1
      simp only [als] at k1 f1 z1
      obtain ⟨A1, cap1, rfl⟩ := ho1.val
      have os := (Own.sl Sess.cells_len ho1)
      obtain ⟨_, _, _, hlen, _, _⟩ := os.form
      obtain ⟨b, off, rfl, hbb, c0, c1, c2, c3, c4⟩ := os.sess hlt
      replace ho1 := ho1.more (base' := w.heap.size + 1) (by simp)
      have hne : b ≠ w.heap.size := by
        have := ho1.gt b rfl
        omega
      have hx : Below w.heap.size w w1 := Below.trans (by repeat (first | with_reducible exact Below.refl _ _ | with_reducible assumption | (with_reducible refine Below.alloc ?_ ?h _; case h => (first | omega | (simp <;> omega))) | (with_reducible refine Below.setCell ?_ ?h _; case h => (first | omega | (simp <;> omega))) | with_reducible refine Below.drew ?_ | with_reducible refine below_dn ?_ _)) (hb1.mono (by simp only [als]; omega))
      have : w1.cell? ⟨w.heap.size, 0, none⟩ = some v := (by simp [k1, go_sem]); have : w1.cell? ⟨w.heap.size, 1, none⟩ = some (.int .i64 u.next) := (by simp [k1, go_sem]); have : w1.cell? ⟨w.heap.size, 2, none⟩ = some (.int .i64 u.lasts) := (by simp [k1, go_sem]); have : w1.cell? ⟨w.heap.size, 3, none⟩ = some (.int .i64 u.room) := (by simp [k1, go_sem])
      have : ∀ o, w1.frozen? ⟨w.heap.size, o, none⟩ = false := fun o => (by rw [f1 _ _ (by omega)]; simp [fz_alc, fz_out])
      clear k1 f1))
    go_ret2
    exact ⟨by rw [HN.out, HE.out]; rfl, (by repeat (first | with_reducible exact Below.refl _ _ | with_reducible assumption | (with_reducible refine Below.alloc ?_ ?h _; case h => (first | omega | (simp <;> omega))) | (with_reducible refine Below.setCell ?_ ?h _; case h => (first | omega | (simp <;> omega))) | with_reducible refine Below.drew ?_ | with_reducible refine below_dn ?_ _))⟩
  · have HN : Hid (queryN u who number now = 0) := by show queryN u who number now = 0; simp [queryN, he]
    have hM := Lib.hid (fun (v : Value) (W : World) (h1 : Sl Sess.cells 5 W w.heap.size v u.sess) (h2 : w.heap.size ≤ W.heap.size) => mine_bad v u who number now W w.heap.size h1 h2 ho hw he)
    have he' : (mineErr u who number now != 0) = true := by simpa using he
    clear he
    go_enter Try.func25, Try.ntmps25
    go_wp2_with (
      go_at_call 50
      go_must (
      refine (hM.out _ _ (hs1.below (by repeat (first | with_reducible exact Below.refl _ _ | with_reducible assumption | (with_reducible refine Below.alloc ?_ ?h _; case h => (first | omega | (simp <;> omega))) | (with_reducible refine Below.setCell ?_ ?h _; case h => (first | omega | (simp <;> omega))) | with_reducible refine Below.drew ?_ | with_reducible refine below_dn ?_ _))) (by simp only [als]; omega)).mono ?_
      rintro e w1 ⟨rfl, hb1⟩
      obtain ⟨k1, f1, z1⟩ := after hb1
      simp only [als] at k1 f1 z1
      have hx : Below w.heap.size w w1 := Below.trans (by repeat (first | with_reducible exact Below.refl _ _ | with_reducible assumption | (with_reducible refine Below.alloc ?_ ?h _; case h => (first | omega | (simp <;> omega))) | (with_reducible refine Below.setCell ?_ ?h _; case h => (first | omega | (simp <;> omega))) | with_reducible refine Below.drew ?_ | with_reducible refine below_dn ?_ _)) (hb1.mono (by simp only [als]; omega))
      have : w1.cell? ⟨w.heap.size, 0, none⟩ = some v := (by simp [k1, go_sem]); have : w1.cell? ⟨w.heap.size, 1, none⟩ = some (.int .i64 u.next) := (by simp [k1, go_sem]); have : w1.cell? ⟨w.heap.size, 2, none⟩ = some (.int .i64 u.lasts) := (by simp [k1, go_sem]); have : w1.cell? ⟨w.heap.size, 3, none⟩ = some (.int .i64 u.room) := (by simp [k1, go_sem])
      have : ∀ o, w1.frozen? ⟨w.heap.size, o, none⟩ = false := fun o => (by rw [f1 _ _ (by omega)]; simp [fz_alc, fz_out])
      clear k1 f1))
    go_ret2
    exact ⟨by rw [HN.out]; rfl, (by repeat (first | with_reducible exact Below.refl _ _ | with_reducible assumption | (with_reducible refine Below.alloc ?_ ?h _; case h => (first | omega | (simp <;> omega))) | (with_reducible refine Below.setCell ?_ ?h _; case h => (first | omega | (simp <;> omega))) | with_reducible refine Below.drew ?_ | with_reducible refine below_dn ?_ _))⟩

end Go.Proofs.Ytdcigjpanpcaaaa
