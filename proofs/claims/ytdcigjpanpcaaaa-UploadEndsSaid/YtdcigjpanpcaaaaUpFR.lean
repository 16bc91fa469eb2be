/- Uploads, the reference: FinishUpload. -/
import Derived.Test.YtdcigjpanpcaaaaUpZ
import Derived.Test.YtdcigjpanpcaaaaUpJ
namespace Go.Proofs.Ytdcigjpanpcaaaa
open Go.RowKit

theorem Sl.pre {α : Type} {c : α → List Value} {sz : Nat} {w : World} {B : Nat} {A : Option Addr} {n cap : Nat} {l : List α} (h : Sl c sz w B (.slice A n cap) l) {i : Nat} (hi : i ≤ l.length) : Sl c sz w B (.slice A i cap) (l.take i) := by
  obtain ⟨A', cap', hv, h1, h2, h3⟩ := h
  injection hv with e1 e2 e3
  subst e1 e2 e3
  have e : (l.take i).length = i := by rw [List.length_take]; omega
  refine ⟨A, cap, by rw [e], by omega, h2, fun k hk => ?_⟩
  obtain ⟨b, off, hA, hb, hc⟩ := h3 k (by omega)
  exact ⟨b, off, hA, hb, by rw [List.getElem_take]; exact hc⟩

theorem Sl.post {α : Type} {c : α → List Value} {sz : Nat} {w : World} {B b off : Nat} {n cap : Nat} {l : List α} (h : Sl c sz w B (.slice (some ⟨b, off, none⟩) n cap) l) {i : Nat} (hi : i ≤ l.length) {A : Option Addr} (hA : i < l.length → A = some ⟨b, off + i * sz, none⟩) :
    Sl c sz w B (.slice A (l.length - i) (cap - i)) (l.drop i) := by
  obtain ⟨A', cap', hv, h1, h2, h3⟩ := h
  injection hv with e1 e2 e3
  subst e1 e2 e3
  refine ⟨A, cap - i, by rw [List.length_drop], by rw [List.length_drop]; omega, by omega, fun k hk => ?_⟩
  rw [List.length_drop] at hk
  obtain ⟨b', off', hA', hb, hc⟩ := h3 (i + k) (by omega)
  injection hA' with hA'
  injection hA' with e1 e2
  subst e1 e2
  refine ⟨b, off + i * sz, hA (by omega), hb, fun j u hj => ?_⟩
  rw [List.getElem_drop] at hj
  rw [show off + i * sz + k * sz + j = off + (i + k) * sz + j from by rw [Nat.add_mul]; omega]
  exact hc j u hj

/-- What FinishUpload ends with. -/
def FinPost (w : World) (next lasts room : Int) (t : Str) (e : Int) (l : List Sess) : Ending → World → Prop := fun e' w' =>
  ∃ v', e' = .returned (.tuple #[.agg #[v', .int .i64 next, .int .i64 lasts, .int .i64 room], .string ⟨t.toArray⟩, .int .i64 e]) ∧ Own Sess.cells 44 5 w' w.heap.size v' l ∧ Below w.heap.size w w'

set_option maxRecDepth 100000 in
set_option maxHeartbeats 4000000 in
theorem finR_4 (v : Value) (u : Upl) (who : Str) (number now : Int) (w : World) (i : Nat) (L : List Sess) (hlt : i < L.length) (hs1 : Sl Sess.cells 5 w w.heap.size v u.sess)
    (hM : Hid (∀ (v : Value) (W : World), Sl Sess.cells 5 W w.heap.size v u.sess → w.heap.size ≤ W.heap.size → Calls Try.prog 27 #[.agg #[v, .int .i64 u.next, .int .i64 u.lasts, .int .i64 u.room], .string ⟨who.toArray⟩, .int .i64 number, .int .i64 now] W fun e w' => ∃ v', e = .returned (.tuple #[.agg #[v', .int .i64 u.next, .int .i64 u.lasts, .int .i64 u.room], .int .i64 i, .int .i64 0]) ∧ Own Sess.cells 44 5 w' W.heap.size v' L ∧ Below W.heap.size W w'))
    (h4 : ((L[i].text.length : Int) != L[i].size) = true) : Calls Try.prog 28 #[.agg #[v, .int .i64 u.next, .int .i64 u.lasts, .int .i64 u.room], .string ⟨who.toArray⟩, .int .i64 number, .int .i64 now] w (FinPost w 0 0 0 [] 4 []) := by
  go_enter Try.func28, Try.ntmps28
  go_wp2_with (
    (go_at_call 27
     go_must (
     refine (hM.out _ _ (hs1.below (by repeat (first | with_reducible exact Below.refl _ _ | with_reducible assumption | (with_reducible refine Below.alloc ?_ ?h _; case h => (first | omega | (simp <;> omega))) | (with_reducible refine Below.setCell ?_ ?h _; case h => (first | omega | (simp <;> omega))) | with_reducible refine Below.drew ?_ | with_reducible refine below_dn ?_ _))) (by simp only [als]; omega)).mono ?_
     rintro e w1 ⟨v1, rfl, ho1, hb1⟩
     obtain ⟨k1, f1, z1⟩ := after hb1
     simp only [als] at k1 f1 z1
     obtain ⟨A1, cap1, rfl⟩ := ho1.val
     have os := (Own.sl Sess.cells_len ho1)
     obtain ⟨_, _, _, hlen, _, _⟩ := os.form
     obtain ⟨b, off, rfl, hbb, c0, c1, c2, c3, c4⟩ := os.sess hlt
     replace ho1 := ho1.more (base' := w.heap.size + 2) (by simp)
     have hg1 := ho1.gt b rfl
     have hne1 : b ≠ w.heap.size := by omega
     have hne2 : b ≠ w.heap.size + 1 := by omega
     have y1 : w.heap.size + 1 < w1.heap.size := by omega
     have y2 : w.heap.size < w1.heap.size := by omega
     have hx : Below w.heap.size w w1 := Below.trans (by repeat (first | with_reducible exact Below.refl _ _ | with_reducible assumption | (with_reducible refine Below.alloc ?_ ?h _; case h => (first | omega | (simp <;> omega))) | (with_reducible refine Below.setCell ?_ ?h _; case h => (first | omega | (simp <;> omega))) | with_reducible refine Below.drew ?_ | with_reducible refine below_dn ?_ _)) (hb1.mono (by simp only [als]; omega))
     have : w1.cell? ⟨w.heap.size + 1, 0, none⟩ = some (.slice none 0 0) := (by simp [k1, go_sem]); have : w1.cell? ⟨w.heap.size + 1, 1, none⟩ = some (.int .i64 0) := (by simp [k1, go_sem]); have : w1.cell? ⟨w.heap.size + 1, 2, none⟩ = some (.int .i64 0) := (by simp [k1, go_sem]); have : w1.cell? ⟨w.heap.size + 1, 3, none⟩ = some (.int .i64 0) := (by simp [k1, go_sem])
     have : ∀ o, w1.frozen? ⟨w.heap.size + 1, o, none⟩ = false := fun o => (by rw [f1 _ _ (by omega)]; simp [fz_alc, fz_out])
     have : w1.cell? ⟨w.heap.size, 0, none⟩ = some v := (by simp [k1, go_sem]); have : w1.cell? ⟨w.heap.size, 1, none⟩ = some (.int .i64 u.next) := (by simp [k1, go_sem]); have : w1.cell? ⟨w.heap.size, 2, none⟩ = some (.int .i64 u.lasts) := (by simp [k1, go_sem]); have : w1.cell? ⟨w.heap.size, 3, none⟩ = some (.int .i64 u.room) := (by simp [k1, go_sem])
     have : ∀ o, w1.frozen? ⟨w.heap.size, o, none⟩ = false := fun o => (by rw [f1 _ _ (by omega)]; simp [fz_alc, fz_out])
     clear k1 f1)))
  refine bodyPost_ret (v := .tuple #[.agg #[.slice none 0 0, .int .i64 0, .int .i64 0, .int .i64 0], .string ⟨#[]⟩, .int .i64 4]) ?_ rfl ⟨_, rfl, Own.nil', (by repeat (first | with_reducible exact Below.refl _ _ | with_reducible assumption | (with_reducible refine Below.alloc ?_ ?h _; case h => (first | omega | (simp <;> omega))) | (with_reducible refine Below.setCell ?_ ?h _; case h => (first | omega | (simp <;> omega))) | with_reducible refine Below.drew ?_ | with_reducible refine below_dn ?_ _))⟩
  simp [results, Try.results28, go_sem, *]

set_option maxRecDepth 100000 in
set_option maxHeartbeats 4000000 in
theorem finR_ok (v : Value) (u : Upl) (who : Str) (number now : Int) (w : World) (i : Nat) (L : List Sess) (hlt : i < L.length) (hs1 : Sl Sess.cells 5 w w.heap.size v u.sess)
    (hM : Hid (∀ (v : Value) (W : World), Sl Sess.cells 5 W w.heap.size v u.sess → w.heap.size ≤ W.heap.size → Calls Try.prog 27 #[.agg #[v, .int .i64 u.next, .int .i64 u.lasts, .int .i64 u.room], .string ⟨who.toArray⟩, .int .i64 number, .int .i64 now] W fun e w' => ∃ v', e = .returned (.tuple #[.agg #[v', .int .i64 u.next, .int .i64 u.lasts, .int .i64 u.room], .int .i64 i, .int .i64 0]) ∧ Own Sess.cells 44 5 w' W.heap.size v' L ∧ Below W.heap.size W w'))
    (hL : L.length ≤ 20) (h4 : ((L[i].text.length : Int) != L[i].size) = false) : Calls Try.prog 28 #[.agg #[v, .int .i64 u.next, .int .i64 u.lasts, .int .i64 u.room], .string ⟨who.toArray⟩, .int .i64 number, .int .i64 now] w (FinPost w u.next u.lasts u.room L[i].text 0 (L.take i ++ L.drop (i + 1))) := by
  obtain ⟨M, hMM⟩ : ∃ M, M = L.take i ++ L.drop (i + 1) := ⟨_, rfl⟩
  rw [← hMM]
  have HMM := Lib.hid hMM
  clear hMM
  have hp0 : (0 : Int) ≤ (i : Int) + 1 := by omega
  have hp2 : ((i : Int) + 1).toNat = i + 1 := by omega
  go_enter Try.func28, Try.ntmps28
  go_wp2_with (
    (go_at_call 27
     go_must (
     refine (hM.out _ _ (hs1.below (by repeat (first | with_reducible exact Below.refl _ _ | with_reducible assumption | (with_reducible refine Below.alloc ?_ ?h _; case h => (first | omega | (simp <;> omega))) | (with_reducible refine Below.setCell ?_ ?h _; case h => (first | omega | (simp <;> omega))) | with_reducible refine Below.drew ?_ | with_reducible refine below_dn ?_ _))) (by simp only [als]; omega)).mono ?_
     rintro e w1 ⟨v1, rfl, ho1, hb1⟩
     obtain ⟨k1, f1, z1⟩ := after hb1
     simp only [als] at k1 f1 z1
     obtain ⟨A1, cap1, rfl⟩ := ho1.val
     have os := (Own.sl Sess.cells_len ho1)
     obtain ⟨_, _, _, hlen, _, _⟩ := os.form
     obtain ⟨b, off, rfl, hbb, c0, c1, c2, c3, c4⟩ := os.sess hlt
     replace ho1 := ho1.more (base' := w.heap.size + 2) (by simp)
     have hg1 := ho1.gt b rfl
     have hne1 : b ≠ w.heap.size := by omega
     have hne2 : b ≠ w.heap.size + 1 := by omega
     have y1 : w.heap.size + 1 < w1.heap.size := by omega
     have y2 : w.heap.size < w1.heap.size := by omega
     have hx : Below w.heap.size w w1 := Below.trans (by repeat (first | with_reducible exact Below.refl _ _ | with_reducible assumption | (with_reducible refine Below.alloc ?_ ?h _; case h => (first | omega | (simp <;> omega))) | (with_reducible refine Below.setCell ?_ ?h _; case h => (first | omega | (simp <;> omega))) | with_reducible refine Below.drew ?_ | with_reducible refine below_dn ?_ _)) (hb1.mono (by simp only [als]; omega))
     have : w1.cell? ⟨w.heap.size + 1, 0, none⟩ = some (.slice none 0 0) := (by simp [k1, go_sem]); have : w1.cell? ⟨w.heap.size + 1, 1, none⟩ = some (.int .i64 0) := (by simp [k1, go_sem]); have : w1.cell? ⟨w.heap.size + 1, 2, none⟩ = some (.int .i64 0) := (by simp [k1, go_sem]); have : w1.cell? ⟨w.heap.size + 1, 3, none⟩ = some (.int .i64 0) := (by simp [k1, go_sem])
     have : ∀ o, w1.frozen? ⟨w.heap.size + 1, o, none⟩ = false := fun o => (by rw [f1 _ _ (by omega)]; simp [fz_alc, fz_out])
     have : w1.cell? ⟨w.heap.size, 0, none⟩ = some v := (by simp [k1, go_sem]); have : w1.cell? ⟨w.heap.size, 1, none⟩ = some (.int .i64 u.next) := (by simp [k1, go_sem]); have : w1.cell? ⟨w.heap.size, 2, none⟩ = some (.int .i64 u.lasts) := (by simp [k1, go_sem]); have : w1.cell? ⟨w.heap.size, 3, none⟩ = some (.int .i64 u.room) := (by simp [k1, go_sem])
     have : ∀ o, w1.frozen? ⟨w.heap.size, o, none⟩ = false := fun o => (by rw [f1 _ _ (by omega)]; simp [fz_alc, fz_out])
     obtain ⟨g', cap', hv', hgA, hgB, hgC, _, _, hfz⟩ := ho1.form (by omega)
     obtain ⟨rfl, rfl, rfl⟩ : b = g' ∧ off = 0 ∧ cap1 = cap' := by
       simp only [Value.slice.injEq, Option.some.injEq, Addr.mk.injEq, and_true, true_and] at hv'
       exact ⟨hv'.1.1, hv'.1.2, hv'.2⟩
     rw [Nat.zero_add] at c0 c1 c2 c3 c4
     clear hv'
     clear k1 f1)))
  have hic : i ≤ cap1 := by omega
  have hp1 : (i : Int) + 1 ≤ (L.length : Int) := by omega
  have hp3 : i + 1 ≤ cap1 := by omega
  have hwr : IntKind.i64.wrap ((i : Int) + 1) = (i : Int) + 1 := IntWalk.i64_in _ (by omega)
  obtain ⟨W, hW⟩ : ∃ W, W = ((((w1.setCell ⟨w.heap.size, 0, none⟩ (.slice (some ⟨b, 0, none⟩) L.length cap1)).setCell ⟨w.heap.size, 1, none⟩ (.int .i64 u.next)).setCell ⟨w.heap.size, 2, none⟩ (.int .i64 u.lasts)).setCell ⟨w.heap.size, 3, none⟩ (.int .i64 u.room)).alloc (.cells #[.int .i64 L[i].number, .string ⟨L[i].who.toArray⟩, .string ⟨L[i].text.toArray⟩, .int .i64 L[i].size, .int .i64 L[i].till] 44) := ⟨_, rfl⟩
  rw [← hW]
  have hWs : W.heap.size = w1.heap.size + 1 := by rw [hW]; simp
  have hWB : Below w.heap.size w W := by rw [hW]; exact (by repeat (first | with_reducible exact Below.refl _ _ | with_reducible assumption | (with_reducible refine Below.alloc ?_ ?h _; case h => (first | omega | (simp <;> omega))) | (with_reducible refine Below.setCell ?_ ?h _; case h => (first | omega | (simp <;> omega))) | with_reducible refine Below.drew ?_ | with_reducible refine below_dn ?_ _))
  have hWo : Own Sess.cells 44 5 W (w.heap.size + 2) (.slice (some ⟨b, 0, none⟩) L.length cap1) L := by
    rw [hW]
    repeat (first | with_reducible exact ho1 | (with_reducible refine Own.setB ?_ ?h _; case h => (first | omega | (simp <;> omega))) | with_reducible refine Own.allc ?_ _ | with_reducible refine Own.dn ?_ _ | with_reducible refine Own.d1 ?_)
  have e0 : W.cell? ⟨w.heap.size, 0, none⟩ = some (.slice (some ⟨b, 0, none⟩) L.length cap1) := by rw [hW]; simp [*, go_sem]
  have e1 : W.cell? ⟨w.heap.size, 1, none⟩ = some (.int .i64 u.next) := by rw [hW]; simp [*, go_sem]
  have e2 : W.cell? ⟨w.heap.size, 2, none⟩ = some (.int .i64 u.lasts) := by rw [hW]; simp [*, go_sem]
  have e3 : W.cell? ⟨w.heap.size, 3, none⟩ = some (.int .i64 u.room) := by rw [hW]; simp [*, go_sem]
  have ef : ∀ o, W.frozen? ⟨w.heap.size, o, none⟩ = false := fun o => by rw [hW]; simp [*, go_sem]
  have q0 : W.cell? ⟨w.heap.size + 1, 0, none⟩ = some (.slice none 0 0) := by rw [hW]; simp [*, go_sem]
  have q1 : W.cell? ⟨w.heap.size + 1, 1, none⟩ = some (.int .i64 0) := by rw [hW]; simp [*, go_sem]
  have q2 : W.cell? ⟨w.heap.size + 1, 2, none⟩ = some (.int .i64 0) := by rw [hW]; simp [*, go_sem]
  have q3 : W.cell? ⟨w.heap.size + 1, 3, none⟩ = some (.int .i64 0) := by rw [hW]; simp [*, go_sem]
  have qf : ∀ o, W.frozen? ⟨w.heap.size + 1, o, none⟩ = false := fun o => by rw [hW]; simp [*, go_sem]
  have s2 : W.cell? ⟨w1.heap.size, 2, none⟩ = some (.string ⟨L[i].text.toArray⟩) := by rw [hW]; simp [go_sem]
  obtain ⟨A, hA, hA'⟩ : ∃ A : Addr, (if cap1 = i + 1 then some (⟨b, 0, none⟩ : Addr) else some ⟨b, (i + 1) * 5, none⟩) = some A ∧ (i + 1 < L.length → some A = some ⟨b, 0 + (i + 1) * 5, none⟩) := by
    by_cases h : cap1 = i + 1
    · exact ⟨⟨b, 0, none⟩, by simp [h], fun h => by omega⟩
    · exact ⟨⟨b, (i + 1) * 5, none⟩, by simp [h], fun _ => by simp⟩
  have HWo := Lib.hid hWo
  have HS := Lib.hid (Own.sl Sess.cells_len hWo)
  have hcap : ([] : List Sess).length + (L.take i).length ≤ maxLen := by unfold maxLen; simp; omega
  have hcap2 : (([] : List Sess) ++ L.take i).length + (L.drop (i + 1)).length ≤ maxLen := by unfold maxLen; simp; omega
  have HC := Lib.hid hcap
  have HC2 := Lib.hid hcap2
  clear hW hWo hcap hcap2 ho1 os
  go_region_law (first
    | (refine step_app rfl (.tmp 39) (.tmp 43) rfl Sess.cells_len Sess.one elSess (v := .slice (some ⟨w1.heap.size + 1, 0, none⟩) 0 0) (src := .slice (some ⟨b, 0, none⟩) i cap1) (l := []) (m := L.take i) (base := w1.heap.size + 1) (B := W.heap.size) ?_ ?_ ?_ ?_ ?_ HC.out ?_ ?_
       go_must (
       · simp [Act.eval, Act.put]
       · simp [Act.eval, Act.put]
       · exact own_lit0 (by simp [hWs])
       · exact (HS.out.below (by repeat (first | with_reducible exact Below.refl _ _ | with_reducible assumption | (with_reducible refine Below.alloc ?_ ?h _; case h => (first | omega | (simp <;> omega))) | (with_reducible refine Below.setCell ?_ ?h _; case h => (first | omega | (simp <;> omega))) | with_reducible refine Below.drew ?_ | with_reducible refine below_dn ?_ _))).pre (by omega)
       · first | omega | (simp; omega)
       · first | omega | (simp; omega)
       intro v4 w4 h4o h4b _
       obtain ⟨A4, cap4, rfl⟩ := h4o.val
       have g0 : w4.cell? ⟨w.heap.size, 0, none⟩ = some (.slice (some ⟨b, 0, none⟩) L.length cap1) := bcs h4b (by omega) (alc _ e0)
       have g1 : w4.cell? ⟨w.heap.size, 1, none⟩ = some (.int .i64 u.next) := bcs h4b (by omega) (alc _ e1)
       have g2 : w4.cell? ⟨w.heap.size, 2, none⟩ = some (.int .i64 u.lasts) := bcs h4b (by omega) (alc _ e2)
       have g3 : w4.cell? ⟨w.heap.size, 3, none⟩ = some (.int .i64 u.room) := bcs h4b (by omega) (alc _ e3)
       have t0 : w4.cell? ⟨w.heap.size + 1, 0, none⟩ = some (.slice none 0 0) := bcs h4b (by omega) (alc _ q0)
       have t1 : w4.cell? ⟨w.heap.size + 1, 1, none⟩ = some (.int .i64 0) := bcs h4b (by omega) (alc _ q1)
       have t2 : w4.cell? ⟨w.heap.size + 1, 2, none⟩ = some (.int .i64 0) := bcs h4b (by omega) (alc _ q2)
       have t3 : w4.cell? ⟨w.heap.size + 1, 3, none⟩ = some (.int .i64 0) := bcs h4b (by omega) (alc _ q3)
       have r2 : w4.cell? ⟨w1.heap.size, 2, none⟩ = some (.string ⟨L[i].text.toArray⟩) := bcs h4b (by omega) (alc _ s2)
       have gf : ∀ o, w4.frozen? ⟨w.heap.size, o, none⟩ = false := fun o => (bfz h4b (by omega) o).trans ((fz_alc _ _ _ _).trans (ef o))
       have tf : ∀ o, w4.frozen? ⟨w.heap.size + 1, o, none⟩ = false := fun o => (bfz h4b (by omega) o).trans ((fz_alc _ _ _ _).trans (qf o))
       have z4 := h4b.size
       simp only [World.drew_heap', als, hWs] at z4
       have hy4 : Below w.heap.size w w4 := Below.trans hWB (Below.trans (by repeat (first | with_reducible exact Below.refl _ _ | with_reducible assumption | (with_reducible refine Below.alloc ?_ ?h _; case h => (first | omega | (simp <;> omega))) | (with_reducible refine Below.setCell ?_ ?h _; case h => (first | omega | (simp <;> omega))) | with_reducible refine Below.drew ?_ | with_reducible refine below_dn ?_ _)) (h4b.mono (by omega)))
       have y41 : w.heap.size < w4.heap.size := by omega
       have y42 : w.heap.size + 1 < w4.heap.size := by omega
       have y43 : w1.heap.size < w4.heap.size := by omega))
    | (refine step_app rfl (.tmp 44) (.tmp 49) rfl Sess.cells_len Sess.one elSess (v := .slice A4 ([] ++ L.take i).length cap4) (src := .slice (some A) (L.length - (i + 1)) (cap1 - (i + 1))) (l := [] ++ L.take i) (m := L.drop (i + 1)) (base := w1.heap.size + 1) (B := W.heap.size) ?_ ?_ ?_ ?_ ?_ HC2.out ?_ ?_
       go_must (
       · simp [Act.eval, Act.put]
       · simp [Act.eval, Act.put]
       · exact h4o
       · exact (HS.out.below (Below.trans (by repeat (first | with_reducible exact Below.refl _ _ | with_reducible assumption | (with_reducible refine Below.alloc ?_ ?h _; case h => (first | omega | (simp <;> omega))) | (with_reducible refine Below.setCell ?_ ?h _; case h => (first | omega | (simp <;> omega))) | with_reducible refine Below.drew ?_ | with_reducible refine below_dn ?_ _)) (h4b.mono (by first | omega | (simp; omega))))).post (by omega) hA'
       · first | omega | (simp; omega)
       · first | omega | (simp; omega)
       intro v5 w5 h5o h5b _
       replace h5o := h5o.to (show [] ++ L.take i ++ L.drop (i + 1) = M by rw [HMM.out]; rfl)
       obtain ⟨A5, cap5, rfl⟩ := h5o.val
       have m0 : w5.cell? ⟨w.heap.size, 0, none⟩ = some (.slice (some ⟨b, 0, none⟩) L.length cap1) := bcs h5b (by omega) g0
       have m1 : w5.cell? ⟨w.heap.size, 1, none⟩ = some (.int .i64 u.next) := bcs h5b (by omega) g1
       have m2 : w5.cell? ⟨w.heap.size, 2, none⟩ = some (.int .i64 u.lasts) := bcs h5b (by omega) g2
       have m3 : w5.cell? ⟨w.heap.size, 3, none⟩ = some (.int .i64 u.room) := bcs h5b (by omega) g3
       have n0 : w5.cell? ⟨w.heap.size + 1, 0, none⟩ = some (.slice none 0 0) := bcs h5b (by omega) t0
       have n1 : w5.cell? ⟨w.heap.size + 1, 1, none⟩ = some (.int .i64 0) := bcs h5b (by omega) t1
       have n2 : w5.cell? ⟨w.heap.size + 1, 2, none⟩ = some (.int .i64 0) := bcs h5b (by omega) t2
       have n3 : w5.cell? ⟨w.heap.size + 1, 3, none⟩ = some (.int .i64 0) := bcs h5b (by omega) t3
       have k2 : w5.cell? ⟨w1.heap.size, 2, none⟩ = some (.string ⟨L[i].text.toArray⟩) := bcs h5b (by omega) r2
       have mf : ∀ o, w5.frozen? ⟨w.heap.size, o, none⟩ = false := fun o => (bfz h5b (by omega) o).trans (gf o)
       have nf : ∀ o, w5.frozen? ⟨w.heap.size + 1, o, none⟩ = false := fun o => (bfz h5b (by omega) o).trans (tf o)
       have z5 := h5b.size
       have hy5 : Below w.heap.size w w5 := Below.trans hy4 (h5b.mono (by omega))
       have y51 : w.heap.size < w5.heap.size := by omega
       have y52 : w.heap.size + 1 < w5.heap.size := by omega
       have y53 : w1.heap.size < w5.heap.size := by omega)))
  all_goals (
    have hnq : w1.heap.size ≠ w.heap.size := by omega
    go_wp2_with fail
    go_region
    go_wp2_with fail
    refine bodyPost_ret (v := .tuple #[.agg #[.slice A5 M.length cap5, .int .i64 u.next, .int .i64 u.lasts, .int .i64 u.room], .string ⟨L[i].text.toArray⟩, .int .i64 0]) ?_ rfl ⟨_, rfl, ?_, (by repeat (first | with_reducible exact Below.refl _ _ | with_reducible assumption | (with_reducible refine Below.alloc ?_ ?h _; case h => (first | omega | (simp <;> omega))) | (with_reducible refine Below.setCell ?_ ?h _; case h => (first | omega | (simp <;> omega))) | with_reducible refine Below.drew ?_ | with_reducible refine below_dn ?_ _))⟩
    · simp [results, Try.results28, go_sem, *]
    · exact (Own.more (base := w1.heap.size + 1) (by repeat (first | with_reducible exact h5o | (with_reducible refine Own.setB ?_ ?h _; case h => (first | omega | (simp <;> omega))) | with_reducible refine Own.allc ?_ _ | with_reducible refine Own.dn ?_ _ | with_reducible refine Own.d1 ?_)) (by omega)))

set_option maxRecDepth 100000 in
set_option maxHeartbeats 1000000 in
theorem finR_nomine (v : Value) (u : Upl) (who : Str) (number now : Int) (w : World) (hs1 : Sl Sess.cells 5 w w.heap.size v u.sess) (ho : ∀ s ∈ u.sess, s.ok) (hw : who.length ≤ 9223372036854775807) (he : mineErr u who number now ≠ 0) :
    Calls Try.prog 28 #[.agg #[v, .int .i64 u.next, .int .i64 u.lasts, .int .i64 u.room], .string ⟨who.toArray⟩, .int .i64 number, .int .i64 now] w
      (FinPost w 0 0 0 [] (mineErr u who number now) []) := by
  have hM := Lib.hid (fun (v : Value) (W : World) (h1 : Sl Sess.cells 5 W w.heap.size v u.sess) (h2 : w.heap.size ≤ W.heap.size) => mineR_bad v u who number now W w.heap.size h1 h2 ho hw he)
  have he' : (mineErr u who number now != 0) = true := by simpa using he
  clear he
  go_enter Try.func28, Try.ntmps28
  go_wp2_with (
      go_at_call 27
      go_must (
      refine (hM.out _ _ (hs1.below (by repeat (first | with_reducible exact Below.refl _ _ | with_reducible assumption | (with_reducible refine Below.alloc ?_ ?h _; case h => (first | omega | (simp <;> omega))) | (with_reducible refine Below.setCell ?_ ?h _; case h => (first | omega | (simp <;> omega))) | with_reducible refine Below.drew ?_ | with_reducible refine below_dn ?_ _))) (by simp only [als]; omega)).mono ?_
      rintro e w1 ⟨A9, n9, c9, rfl, hb1⟩
      obtain ⟨k1, f1, z1⟩ := after hb1
      simp only [als] at k1 f1 z1
      have hx : Below w.heap.size w w1 := Below.trans (by repeat (first | with_reducible exact Below.refl _ _ | with_reducible assumption | (with_reducible refine Below.alloc ?_ ?h _; case h => (first | omega | (simp <;> omega))) | (with_reducible refine Below.setCell ?_ ?h _; case h => (first | omega | (simp <;> omega))) | with_reducible refine Below.drew ?_ | with_reducible refine below_dn ?_ _)) (hb1.mono (by simp only [als]; omega))
      have y1 : w.heap.size + 1 < w1.heap.size := by omega
      have y2 : w.heap.size < w1.heap.size := by omega
      have : w1.cell? ⟨w.heap.size + 1, 0, none⟩ = some (.slice none 0 0) := (by simp [k1, go_sem]); have : w1.cell? ⟨w.heap.size + 1, 1, none⟩ = some (.int .i64 0) := (by simp [k1, go_sem]); have : w1.cell? ⟨w.heap.size + 1, 2, none⟩ = some (.int .i64 0) := (by simp [k1, go_sem]); have : w1.cell? ⟨w.heap.size + 1, 3, none⟩ = some (.int .i64 0) := (by simp [k1, go_sem])
      have : ∀ o, w1.frozen? ⟨w.heap.size + 1, o, none⟩ = false := fun o => (by rw [f1 _ _ (by omega)]; simp [fz_alc, fz_out])
      have : w1.cell? ⟨w.heap.size, 0, none⟩ = some v := (by simp [k1, go_sem]); have : w1.cell? ⟨w.heap.size, 1, none⟩ = some (.int .i64 u.next) := (by simp [k1, go_sem]); have : w1.cell? ⟨w.heap.size, 2, none⟩ = some (.int .i64 u.lasts) := (by simp [k1, go_sem]); have : w1.cell? ⟨w.heap.size, 3, none⟩ = some (.int .i64 u.room) := (by simp [k1, go_sem])
      have : ∀ o, w1.frozen? ⟨w.heap.size, o, none⟩ = false := fun o => (by rw [f1 _ _ (by omega)]; simp [fz_alc, fz_out])
      clear k1 f1))
  refine bodyPost_ret (v := .tuple #[.agg #[.slice none 0 0, .int .i64 0, .int .i64 0, .int .i64 0], .string ⟨#[]⟩, .int .i64 (mineErr u who number now)]) ?_ rfl ⟨_, rfl, Own.nil', (by repeat (first | with_reducible exact Below.refl _ _ | with_reducible assumption | (with_reducible refine Below.alloc ?_ ?h _; case h => (first | omega | (simp <;> omega))) | (with_reducible refine Below.setCell ?_ ?h _; case h => (first | omega | (simp <;> omega))) | with_reducible refine Below.drew ?_ | with_reducible refine below_dn ?_ _))⟩
  simp [results, Try.results28, go_sem, *]

end Go.Proofs.Ytdcigjpanpcaaaa
