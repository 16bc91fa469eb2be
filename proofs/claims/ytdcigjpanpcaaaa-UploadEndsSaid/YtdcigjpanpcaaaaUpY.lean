/- Uploads, the reference: AppendUpload that appends. -/
import Derived.Test.YtdcigjpanpcaaaaUpX
import Derived.Test.YtdcigjpanpcaaaaUpN
namespace Go.Proofs.Ytdcigjpanpcaaaa
open Go.RowKit

theorem own_lit0 {W : World} {E n : Nat} (h : W.heap.size = n) : Own Sess.cells E 5 (W.alloc (.cells #[] E)) n (.slice (some ⟨n, 0, none⟩) 0 0) [] := by
  subst h
  exact World.ownsRow_lit W #[] 0 (Nat.le_refl _) (Nat.zero_le _) rfl

theorem Own.setSess {E base g n cap : Nat} {w : World} {l : List Sess} (h : Own Sess.cells E 5 w base (.slice (some ⟨g, 0, none⟩) n cap) l) {k : Nat} (hk : k < l.length) (s : Sess) :
    Own Sess.cells E 5 (((((w.setCell ⟨g, k * 5, none⟩ (.int .i64 s.number)).setCell ⟨g, k * 5 + 1, none⟩ (.string ⟨s.who.toArray⟩)).setCell ⟨g, k * 5 + 2, none⟩ (.string ⟨s.text.toArray⟩)).setCell ⟨g, k * 5 + 3, none⟩ (.int .i64 s.size)).setCell ⟨g, k * 5 + 4, none⟩ (.int .i64 s.till)) base (.slice (some ⟨g, 0, none⟩) n cap) (l.set k s) := by
  have o0 := Own.setOne Sess.cells_len h hk (j := 0) (u := .int .i64 s.number) (a := { l[k] with number := s.number }) (by omega) rfl
  have o1 := Own.setOne Sess.cells_len o0 (k := k) (by rw [List.length_set]; exact hk) (j := 1) (u := .string ⟨s.who.toArray⟩) (a := { l[k] with number := s.number, who := s.who }) (by omega) (by simp [Sess.cells])
  rw [List.set_set] at o1
  have o2 := Own.setOne Sess.cells_len o1 (k := k) (by rw [List.length_set]; exact hk) (j := 2) (u := .string ⟨s.text.toArray⟩) (a := { l[k] with number := s.number, who := s.who, text := s.text }) (by omega) (by simp [Sess.cells])
  rw [List.set_set] at o2
  have o3 := Own.setOne Sess.cells_len o2 (k := k) (by rw [List.length_set]; exact hk) (j := 3) (u := .int .i64 s.size) (a := { l[k] with number := s.number, who := s.who, text := s.text, size := s.size }) (by omega) (by simp [Sess.cells])
  rw [List.set_set] at o3
  have o4 := Own.setOne Sess.cells_len o3 (k := k) (by rw [List.length_set]; exact hk) (j := 4) (u := .int .i64 s.till) (a := s) (by omega) (by simp [Sess.cells])
  rw [List.set_set] at o4
  exact o4

set_option maxRecDepth 100000 in
set_option maxHeartbeats 4000000 in
theorem appR_ok (v : Value) (u : Upl) (who : Str) (number : Int) (text : Str) (now : Int) (w : World) (i : Nat) (L : List Sess) (hlt : i < L.length)
    (hs1 : Sl Sess.cells 5 w w.heap.size v u.sess)
    (hM : Hid (∀ (v : Value) (W : World), Sl Sess.cells 5 W w.heap.size v u.sess → w.heap.size ≤ W.heap.size → Calls Try.prog 27 #[.agg #[v, .int .i64 u.next, .int .i64 u.lasts, .int .i64 u.room], .string ⟨who.toArray⟩, .int .i64 number, .int .i64 now] W fun e w' => ∃ v', e = .returned (.tuple #[.agg #[v', .int .i64 u.next, .int .i64 u.lasts, .int .i64 u.room], .int .i64 i, .int .i64 0]) ∧ Own Sess.cells 44 5 w' W.heap.size v' L ∧ Below W.heap.size W w'))
    (hL : L.length ≤ 20) (htl : L[i].text.length ≤ 300) (hsz : L[i].size ≤ 300) (hn0 : 0 ≤ now) (hn1 : now ≤ 1099511627776) (hl0 : 1 ≤ u.lasts) (hl1 : u.lasts ≤ 1000000)
    (hte : text.isEmpty = false) (h4 : (L[i].text.length : Int) + text.length ≤ L[i].size) :
    Calls Try.prog 19 #[.agg #[v, .int .i64 u.next, .int .i64 u.lasts, .int .i64 u.room], .string ⟨who.toArray⟩, .int .i64 number, .int .i64 L[i].text.length, .string ⟨text.toArray⟩, .int .i64 now] w
      (AppPost w u.next u.lasts u.room (L[i].text ++ text).length 0 (L.set i { L[i] with text := L[i].text ++ text, till := now + u.lasts })) := by
  have hcap : ([] : List Sess).length + L.length ≤ maxLen := by unfold maxLen; simp; omega
  have HC := Lib.hid hcap
  have hnot : ¬ (L[i].size < (L[i].text.length : Int) + text.length) := by omega
  clear hcap
  go_enter Try.func19, Try.ntmps19
  go_wp2_with (first
        | (go_at_call 27
           go_must (
           refine (hM.out _ _ (hs1.below (by repeat (first | with_reducible exact Below.refl _ _ | with_reducible assumption | (with_reducible refine Below.alloc ?_ ?h _; case h => (first | omega | (simp <;> omega))) | (with_reducible refine Below.setCell ?_ ?h _; case h => (first | omega | (simp <;> omega))) | with_reducible refine Below.drew ?_ | with_reducible refine below_dn ?_ _))) (by simp only [als]; omega)).mono ?_
           rintro e w1 ⟨v1, rfl, ho1, hb1⟩
           obtain ⟨k1, f1, z1⟩ := after hb1
           simp only [als] at k1 f1 z1
           obtain ⟨A1, cap1, rfl⟩ := ho1.val
           have os := (Own.sl Sess.cells_len ho1)
           obtain ⟨_, _, _, hlen, _, _⟩ := os.form
           obtain ⟨b, off, rfl, hbb, c0, c1, c2, c3, c4⟩ := os.sess hlt
           replace ho1 := ho1.more (base' := w.heap.size + 2) (by simp)
           have hg1 := ho1.gt b rfl
           have hne1 : b ≠ w.heap.size := by omega
           have hne2 : b ≠ w.heap.size + 1 := by omega
           have y1 : w.heap.size + 1 < w1.heap.size := by omega
           have y2 : w.heap.size < w1.heap.size := by omega
           have hx : Below w.heap.size w w1 := Below.trans (by repeat (first | with_reducible exact Below.refl _ _ | with_reducible assumption | (with_reducible refine Below.alloc ?_ ?h _; case h => (first | omega | (simp <;> omega))) | (with_reducible refine Below.setCell ?_ ?h _; case h => (first | omega | (simp <;> omega))) | with_reducible refine Below.drew ?_ | with_reducible refine below_dn ?_ _)) (hb1.mono (by simp only [als]; omega))
           have : w1.cell? ⟨w.heap.size + 1, 0, none⟩ = some (.slice none 0 0) := (by simp [k1, go_sem]); have : w1.cell? ⟨w.heap.size + 1, 1, none⟩ = some (.int .i64 0) := (by simp [k1, go_sem]); have : w1.cell? ⟨w.heap.size + 1, 2, none⟩ = some (.int .i64 0) := (by simp [k1, go_sem]); have : w1.cell? ⟨w.heap.size + 1, 3, none⟩ = some (.int .i64 0) := (by simp [k1, go_sem])
           have : ∀ o, w1.frozen? ⟨w.heap.size + 1, o, none⟩ = false := fun o => (by rw [f1 _ _ (by omega)]; simp [fz_alc, fz_out])
           have : w1.cell? ⟨w.heap.size, 0, none⟩ = some v := (by simp [k1, go_sem]); have : w1.cell? ⟨w.heap.size, 1, none⟩ = some (.int .i64 u.next) := (by simp [k1, go_sem]); have : w1.cell? ⟨w.heap.size, 2, none⟩ = some (.int .i64 u.lasts) := (by simp [k1, go_sem]); have : w1.cell? ⟨w.heap.size, 3, none⟩ = some (.int .i64 u.room) := (by simp [k1, go_sem])
           have : ∀ o, w1.frozen? ⟨w.heap.size, o, none⟩ = false := fun o => (by rw [f1 _ _ (by omega)]; simp [fz_alc, fz_out])
           have HO1 := Lib.hid ho1
           clear k1 f1 ho1 os))
        | (at_builtin
           go_must (
           have ho1 := HO1.out
           have hW1 : Own Sess.cells 44 5 ((((((w1.setCell ⟨w.heap.size, 0, none⟩ (.slice (some ⟨b, off, none⟩) L.length cap1)).setCell ⟨w.heap.size, 1, none⟩ (.int .i64 u.next)).setCell ⟨w.heap.size, 2, none⟩ (.int .i64 u.lasts)).setCell ⟨w.heap.size, 3, none⟩ (.int .i64 u.room)).alloc (.cells #[.int .i64 L[i].number, .string ⟨L[i].who.toArray⟩, .string ⟨(L[i].text ++ text).toArray⟩, .int .i64 L[i].size, .int .i64 (now + u.lasts)] 44)).alloc (.cells #[] 44)) (w.heap.size + 2) (.slice (some ⟨b, off, none⟩) L.length cap1) L := by
             repeat (first | with_reducible exact ho1 | (with_reducible refine Own.setB ?_ ?h _; case h => (first | omega | (simp <;> omega))) | with_reducible refine Own.allc ?_ _ | with_reducible refine Own.dn ?_ _ | with_reducible refine Own.d1 ?_)
           have hW2 : Own Sess.cells 44 5 ((((((w1.setCell ⟨w.heap.size, 0, none⟩ (.slice (some ⟨b, off, none⟩) L.length cap1)).setCell ⟨w.heap.size, 1, none⟩ (.int .i64 u.next)).setCell ⟨w.heap.size, 2, none⟩ (.int .i64 u.lasts)).setCell ⟨w.heap.size, 3, none⟩ (.int .i64 u.room)).alloc (.cells #[.int .i64 L[i].number, .string ⟨L[i].who.toArray⟩, .string ⟨(L[i].text ++ text).toArray⟩, .int .i64 L[i].size, .int .i64 (now + u.lasts)] 44)).alloc (.cells #[] 44)) (w1.heap.size + 1) (.slice (some ⟨w1.heap.size + 1, 0, none⟩) 0 0) [] := own_lit0 (by simp)
           refine wpList_app rfl _ _ rfl Sess.cells_len Sess.one elSess rfl rfl hW2 (Own.sl Sess.cells_len hW1) (by simp; omega) HC.out (by simp) ?_
           intro v4 w4 h4o h4b _
           replace h4o := h4o.to (List.nil_append L)
           obtain ⟨k4, f4, z4⟩ := after' h4b
           obtain ⟨A4, cap4, rfl⟩ := h4o.val
           have os4 := (Own.sl Sess.cells_len h4o)
           obtain ⟨b4, off4, rfl, hbb4, d0, d1, d2, d3, d4⟩ := os4.sess hlt
           obtain ⟨g', cap', hv', _, _, _, _, _, hfz⟩ := h4o.form (by omega)
           obtain ⟨rfl, rfl, rfl⟩ : b4 = g' ∧ off4 = 0 ∧ cap4 = cap' := by
             simp only [Value.slice.injEq, Option.some.injEq, Addr.mk.injEq, and_true, true_and] at hv'
             exact ⟨hv'.1.1, hv'.1.2, hv'.2⟩
           rw [Nat.zero_add] at d0 d1 d2 d3 d4
           have hg4 := h4o.gt b4 rfl
           have hne3 : b4 ≠ w.heap.size := by omega
           have hne4 : b4 ≠ w.heap.size + 1 := by omega
           have hne5 : b4 ≠ w1.heap.size := by omega
           have : w4.cell? ⟨w.heap.size, 0, none⟩ = some (.slice (some ⟨b, off, none⟩) L.length cap1) := by rw [k4 _ _ (by omega)]; simp [*, go_sem]
           have : w4.cell? ⟨w.heap.size, 1, none⟩ = some (.int .i64 u.next) := by rw [k4 _ _ (by omega)]; simp [*, go_sem]
           have : w4.cell? ⟨w.heap.size, 2, none⟩ = some (.int .i64 u.lasts) := by rw [k4 _ _ (by omega)]; simp [*, go_sem]
           have : w4.cell? ⟨w.heap.size, 3, none⟩ = some (.int .i64 u.room) := by rw [k4 _ _ (by omega)]; simp [*, go_sem]
           have : ∀ o, w4.frozen? ⟨w.heap.size, o, none⟩ = false := fun o => by rw [f4 _ _ (by omega)]; simp [*, go_sem, fz_alc]
           have : w4.cell? ⟨w.heap.size + 1, 0, none⟩ = some (.slice none 0 0) := (by rw [k4 _ _ (by omega)]; simp [*, go_sem]); have : w4.cell? ⟨w.heap.size + 1, 1, none⟩ = some (.int .i64 0) := (by rw [k4 _ _ (by omega)]; simp [*, go_sem]); have : w4.cell? ⟨w.heap.size + 1, 2, none⟩ = some (.int .i64 0) := (by rw [k4 _ _ (by omega)]; simp [*, go_sem]); have : w4.cell? ⟨w.heap.size + 1, 3, none⟩ = some (.int .i64 0) := (by rw [k4 _ _ (by omega)]; simp [*, go_sem])
           have : ∀ o, w4.frozen? ⟨w.heap.size + 1, o, none⟩ = false := fun o => (by rw [f4 _ _ (by omega)]; simp [*, go_sem, fz_alc])
           have : w4.cell? ⟨w1.heap.size, 0, none⟩ = some (.int .i64 L[i].number) := by rw [k4 _ _ (by omega)]; simp [go_sem]
           have : w4.cell? ⟨w1.heap.size, 1, none⟩ = some (.string ⟨L[i].who.toArray⟩) := by rw [k4 _ _ (by omega)]; simp [go_sem]
           have : w4.cell? ⟨w1.heap.size, 2, none⟩ = some (.string ⟨(L[i].text ++ text).toArray⟩) := by rw [k4 _ _ (by omega)]; simp [go_sem]
           have : w4.cell? ⟨w1.heap.size, 3, none⟩ = some (.int .i64 L[i].size) := by rw [k4 _ _ (by omega)]; simp [go_sem]
           have : w4.cell? ⟨w1.heap.size, 4, none⟩ = some (.int .i64 (now + u.lasts)) := by rw [k4 _ _ (by omega)]; simp [go_sem]
           have hy4 : Below w.heap.size w w4 := Below.trans (by repeat (first | with_reducible exact Below.refl _ _ | with_reducible assumption | (with_reducible refine Below.alloc ?_ ?h _; case h => (first | omega | (simp <;> omega))) | (with_reducible refine Below.setCell ?_ ?h _; case h => (first | omega | (simp <;> omega))) | with_reducible refine Below.drew ?_ | with_reducible refine below_dn ?_ _)) (h4b.mono (by omega))
           have z5 : w1.heap.size + 2 ≤ w4.heap.size := by simpa using z4
           have y5 : w.heap.size + 1 < w4.heap.size := by omega
           have y6 : w.heap.size < w4.heap.size := by omega
           have y7 : w1.heap.size < w4.heap.size := by omega
           have HO4 := Lib.hid h4o
           clear k4 f4 z4 h4b hv' os4 h4o)))
  go_region
  go_wp2_with fail
  refine bodyPost_ret (v := .tuple #[.agg #[.slice (some ⟨b4, 0, none⟩) L.length cap4, .int .i64 u.next, .int .i64 u.lasts, .int .i64 u.room], .int .i64 (L[i].text ++ text).length, .int .i64 0]) ?_ rfl ⟨_, rfl, ?_, ?_⟩
  · simp [results, Try.results19, go_sem, *]
  · have o5 := Own.setSess HO4.out hlt { L[i] with text := L[i].text ++ text, till := now + u.lasts }
    exact (Own.more (base := w1.heap.size + 1) (by repeat (first | with_reducible exact o5 | (with_reducible refine Own.setB ?_ ?h _; case h => (first | omega | (simp <;> omega))) | with_reducible refine Own.allc ?_ _ | with_reducible refine Own.dn ?_ _ | with_reducible refine Own.d1 ?_)) (by omega))
  · have hbb' : w.heap.size ≤ b4 := by omega
    exact (by repeat (first | with_reducible exact Below.refl _ _ | with_reducible assumption | (with_reducible refine Below.alloc ?_ ?h _; case h => (first | omega | (simp <;> omega))) | (with_reducible refine Below.setCell ?_ ?h _; case h => (first | omega | (simp <;> omega))) | with_reducible refine Below.drew ?_ | with_reducible refine below_dn ?_ _))
end Go.Proofs.Ytdcigjpanpcaaaa
