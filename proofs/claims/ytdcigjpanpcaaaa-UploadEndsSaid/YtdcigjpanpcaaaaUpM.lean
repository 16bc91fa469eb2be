/- Uploads: Open. -/
import Derived.Test.YtdcigjpanpcaaaaUpL
namespace Go.Proofs.Ytdcigjpanpcaaaa
open Go.RowKit

def openErr (u : Upl) (who : Str) (size now : Int) : Int :=
  if beginErr u now = 0 then
    if isName who then
      if withinB size 0 300 && u.next != 1099511627776 then
        if (sweptL u.sess now).length = 20 then 2
        else if u.room < openOf (sweptL u.sess now) who + size then 10 else 0
      else 3
    else 1
  else beginErr u now
def openN (u : Upl) (who : Str) (size now : Int) : Int := if openErr u who size now = 0 then u.next else 0
def openU (u : Upl) (who : Str) (size now : Int) : Upl := { u with sess := sweptL u.sess now ++ [⟨u.next, who, [], size, now + u.lasts⟩], next := u.next + 1 }

theorem openOf_bd {l : List Sess} (who : Str) (h : ∀ s ∈ l, 0 ≤ s.size ∧ s.size ≤ 300) (hl : l.length ≤ 1000000) : 0 ≤ openOf l who ∧ openOf l who ≤ 300 * l.length := by
  have hk : ∀ k, k ≤ l.length → 0 ≤ openOf (l.take k) who ∧ openOf (l.take k) who ≤ 300 * k := by
    intro k
    induction k with
    | zero => intro _; simp [openOf]
    | succ k ih =>
      intro hk
      have ih := ih (by omega)
      rw [openOf_succ l who k (by omega)]
      have hs := h _ (List.getElem_mem (by omega : k < l.length))
      split
      · rw [IntWalk.wrap64_in _ ⟨by omega, by omega⟩]; omega
      · omega
  have := hk l.length (Nat.le_refl _)
  rw [List.take_length] at this
  exact this

set_option maxRecDepth 100000 in
set_option maxHeartbeats 4000000 in
theorem open_err (v : Value) (u : Upl) (who : Str) (size now : Int) (w : World) (hs1 : Sl Sess.cells 5 w w.heap.size v u.sess) (ho : ∀ s ∈ u.sess, s.ok) (he : beginErr u now ≠ 0) :
    Calls Try.prog 14 #[.agg #[v, .int .i64 u.next, .int .i64 u.lasts, .int .i64 u.room], .string ⟨who.toArray⟩, .int .i64 size, .int .i64 now] w
      (AppPost w 0 0 0 0 (beginErr u now) []) := by
  have hM := Lib.hid (fun (v : Value) (W : World) (h1 : Sl Sess.cells 5 W w.heap.size v u.sess) (h2 : w.heap.size ≤ W.heap.size) => begin_bad v u now W w.heap.size h1 h2 ho he)
  have he' : (beginErr u now != 0) = true := by simpa using he
  clear he
  go_enter Try.func14, Try.ntmps14
  go_wp2_with (
      go_at_call 45
      go_must (
      refine (hM.out _ _ (hs1.below (by repeat (first | with_reducible exact Below.refl _ _ | with_reducible assumption | (with_reducible refine Below.alloc ?_ ?h _; case h => (first | omega | (simp <;> omega))) | (with_reducible refine Below.setCell ?_ ?h _; case h => (first | omega | (simp <;> omega))) | with_reducible refine Below.drew ?_ | with_reducible refine below_dn ?_ _))) (by simp only [als]; omega)).mono ?_
      rintro e w1 ⟨rfl, hb1⟩
      obtain ⟨k1, f1, z1⟩ := after hb1
      simp only [als] at k1 f1 z1
      have hx : Below w.heap.size w w1 := Below.trans (by repeat (first | with_reducible exact Below.refl _ _ | with_reducible assumption | (with_reducible refine Below.alloc ?_ ?h _; case h => (first | omega | (simp <;> omega))) | (with_reducible refine Below.setCell ?_ ?h _; case h => (first | omega | (simp <;> omega))) | with_reducible refine Below.drew ?_ | with_reducible refine below_dn ?_ _)) (hb1.mono (by simp only [als]; omega))
      have y1 : w.heap.size + 1 < w1.heap.size := by omega
      have y2 : w.heap.size < w1.heap.size := by omega
      have : w1.cell? ⟨w.heap.size + 1, 0, none⟩ = some (.slice none 0 0) := (by simp [k1, go_sem]); have : w1.cell? ⟨w.heap.size + 1, 1, none⟩ = some (.int .i64 0) := (by simp [k1, go_sem]); have : w1.cell? ⟨w.heap.size + 1, 2, none⟩ = some (.int .i64 0) := (by simp [k1, go_sem]); have : w1.cell? ⟨w.heap.size + 1, 3, none⟩ = some (.int .i64 0) := (by simp [k1, go_sem])
      have : ∀ o, w1.frozen? ⟨w.heap.size + 1, o, none⟩ = false := fun o => (by rw [f1 _ _ (by omega)]; simp [fz_alc, fz_out])
      have : w1.cell? ⟨w.heap.size, 0, none⟩ = some v := (by simp [k1, go_sem]); have : w1.cell? ⟨w.heap.size, 1, none⟩ = some (.int .i64 u.next) := (by simp [k1, go_sem]); have : w1.cell? ⟨w.heap.size, 2, none⟩ = some (.int .i64 u.lasts) := (by simp [k1, go_sem]); have : w1.cell? ⟨w.heap.size, 3, none⟩ = some (.int .i64 u.room) := (by simp [k1, go_sem])
      have : ∀ o, w1.frozen? ⟨w.heap.size, o, none⟩ = false := fun o => (by rw [f1 _ _ (by omega)]; simp [fz_alc, fz_out])
      clear k1 f1))
  refine bodyPost_ret (v := .tuple #[.agg #[.slice none 0 0, .int .i64 0, .int .i64 0, .int .i64 0], .int .i64 0, .int .i64 (beginErr u now)]) ?_ rfl ⟨_, rfl, Own.nil', (by repeat (first | with_reducible exact Below.refl _ _ | with_reducible assumption | (with_reducible refine Below.alloc ?_ ?h _; case h => (first | omega | (simp <;> omega))) | (with_reducible refine Below.setCell ?_ ?h _; case h => (first | omega | (simp <;> omega))) | with_reducible refine Below.drew ?_ | with_reducible refine below_dn ?_ _))⟩
  simp [results, Try.results14, go_sem, *]

set_option maxRecDepth 100000 in
set_option maxHeartbeats 4000000 in
theorem open_one (v : Value) (u : Upl) (who : Str) (size now : Int) (w : World) (L : List Sess) (hs1 : Sl Sess.cells 5 w w.heap.size v u.sess) (hw : who.length ≤ 9223372036854775807)
    (hM : Hid (∀ (v : Value) (W : World), Sl Sess.cells 5 W w.heap.size v u.sess → w.heap.size ≤ W.heap.size → Calls Try.prog 45 #[.agg #[v, .int .i64 u.next, .int .i64 u.lasts, .int .i64 u.room], .int .i64 now] W fun e w' => ∃ v', e = .returned (.tuple #[.agg #[v', .int .i64 u.next, .int .i64 u.lasts, .int .i64 u.room], .int .i64 0]) ∧ Own Sess.cells 44 5 w' W.heap.size v' L ∧ Below W.heap.size W w'))
    (ho0 : 0 ≤ openOf L who) (ho1 : openOf L who ≤ 6000) (E : Int)
    (hE : E = if isName who then if withinB size 0 300 && u.next != 1099511627776 then if L.length = 20 then 2 else if u.room < openOf L who + size then 10 else 0 else 3 else 1) (hne : E ≠ 0) :
    Calls Try.prog 14 #[.agg #[v, .int .i64 u.next, .int .i64 u.lasts, .int .i64 u.room], .string ⟨who.toArray⟩, .int .i64 size, .int .i64 now] w
      (AppPost w 0 0 0 0 E []) := by
  cases h1 : isName who with
  | false =>
    obtain rfl : E = 1 := by rw [hE, h1]; rfl
    clear hE hne
    go_enter Try.func14, Try.ntmps14
    go_wp2_with (first
      | (go_at_call 45
         go_must (
         refine (hM.out _ _ (hs1.below (by repeat (first | with_reducible exact Below.refl _ _ | with_reducible assumption | (with_reducible refine Below.alloc ?_ ?h _; case h => (first | omega | (simp <;> omega))) | (with_reducible refine Below.setCell ?_ ?h _; case h => (first | omega | (simp <;> omega))) | with_reducible refine Below.drew ?_ | with_reducible refine below_dn ?_ _))) (by simp only [als]; omega)).mono ?_
         rintro e w1 ⟨v1, rfl, hown, hb1⟩
         obtain ⟨k1, f1, z1⟩ := after hb1
         simp only [als] at k1 f1 z1
         obtain ⟨A1, cap1, rfl⟩ := hown.val
         have hx : Below w.heap.size w w1 := Below.trans (by repeat (first | with_reducible exact Below.refl _ _ | with_reducible assumption | (with_reducible refine Below.alloc ?_ ?h _; case h => (first | omega | (simp <;> omega))) | (with_reducible refine Below.setCell ?_ ?h _; case h => (first | omega | (simp <;> omega))) | with_reducible refine Below.drew ?_ | with_reducible refine below_dn ?_ _)) (hb1.mono (by simp only [als]; omega))
         have y1 : w.heap.size + 1 < w1.heap.size := by omega
         have y2 : w.heap.size < w1.heap.size := by omega
         have : w1.cell? ⟨w.heap.size + 1, 0, none⟩ = some (.slice none 0 0) := (by simp [k1, go_sem]); have : w1.cell? ⟨w.heap.size + 1, 1, none⟩ = some (.int .i64 0) := (by simp [k1, go_sem]); have : w1.cell? ⟨w.heap.size + 1, 2, none⟩ = some (.int .i64 0) := (by simp [k1, go_sem]); have : w1.cell? ⟨w.heap.size + 1, 3, none⟩ = some (.int .i64 0) := (by simp [k1, go_sem])
         have : ∀ o, w1.frozen? ⟨w.heap.size + 1, o, none⟩ = false := fun o => (by rw [f1 _ _ (by omega)]; simp [fz_alc, fz_out])
         have : w1.cell? ⟨w.heap.size, 0, none⟩ = some v := (by simp [k1, go_sem]); have : w1.cell? ⟨w.heap.size, 1, none⟩ = some (.int .i64 u.next) := (by simp [k1, go_sem]); have : w1.cell? ⟨w.heap.size, 2, none⟩ = some (.int .i64 u.lasts) := (by simp [k1, go_sem]); have : w1.cell? ⟨w.heap.size, 3, none⟩ = some (.int .i64 u.room) := (by simp [k1, go_sem])
         have : ∀ o, w1.frozen? ⟨w.heap.size, o, none⟩ = false := fun o => (by rw [f1 _ _ (by omega)]; simp [fz_alc, fz_out])
         clear k1 f1))
      | (go_at_call 46; refine (isName_any _ _ hw).mono ?_; rintro e w' ⟨rfl, rfl⟩))
    refine bodyPost_ret (v := .tuple #[.agg #[.slice none 0 0, .int .i64 0, .int .i64 0, .int .i64 0], .int .i64 0, .int .i64 1]) ?_ rfl ⟨_, rfl, Own.nil', (by repeat (first | with_reducible exact Below.refl _ _ | with_reducible assumption | (with_reducible refine Below.alloc ?_ ?h _; case h => (first | omega | (simp <;> omega))) | (with_reducible refine Below.setCell ?_ ?h _; case h => (first | omega | (simp <;> omega))) | with_reducible refine Below.drew ?_ | with_reducible refine below_dn ?_ _))⟩
    simp [results, Try.results14, go_sem, *]
  | true =>
  cases h2 : withinB size 0 300 with
  | false =>
    obtain rfl : E = 3 := by rw [hE, h1, h2]; rfl
    clear hE hne
    go_enter Try.func14, Try.ntmps14
    go_wp2_with (first
      | (go_at_call 45
         go_must (
         refine (hM.out _ _ (hs1.below (by repeat (first | with_reducible exact Below.refl _ _ | with_reducible assumption | (with_reducible refine Below.alloc ?_ ?h _; case h => (first | omega | (simp <;> omega))) | (with_reducible refine Below.setCell ?_ ?h _; case h => (first | omega | (simp <;> omega))) | with_reducible refine Below.drew ?_ | with_reducible refine below_dn ?_ _))) (by simp only [als]; omega)).mono ?_
         rintro e w1 ⟨v1, rfl, hown, hb1⟩
         obtain ⟨k1, f1, z1⟩ := after hb1
         simp only [als] at k1 f1 z1
         obtain ⟨A1, cap1, rfl⟩ := hown.val
         have hx : Below w.heap.size w w1 := Below.trans (by repeat (first | with_reducible exact Below.refl _ _ | with_reducible assumption | (with_reducible refine Below.alloc ?_ ?h _; case h => (first | omega | (simp <;> omega))) | (with_reducible refine Below.setCell ?_ ?h _; case h => (first | omega | (simp <;> omega))) | with_reducible refine Below.drew ?_ | with_reducible refine below_dn ?_ _)) (hb1.mono (by simp only [als]; omega))
         have y1 : w.heap.size + 1 < w1.heap.size := by omega
         have y2 : w.heap.size < w1.heap.size := by omega
         have : w1.cell? ⟨w.heap.size + 1, 0, none⟩ = some (.slice none 0 0) := (by simp [k1, go_sem]); have : w1.cell? ⟨w.heap.size + 1, 1, none⟩ = some (.int .i64 0) := (by simp [k1, go_sem]); have : w1.cell? ⟨w.heap.size + 1, 2, none⟩ = some (.int .i64 0) := (by simp [k1, go_sem]); have : w1.cell? ⟨w.heap.size + 1, 3, none⟩ = some (.int .i64 0) := (by simp [k1, go_sem])
         have : ∀ o, w1.frozen? ⟨w.heap.size + 1, o, none⟩ = false := fun o => (by rw [f1 _ _ (by omega)]; simp [fz_alc, fz_out])
         have : w1.cell? ⟨w.heap.size, 0, none⟩ = some v := (by simp [k1, go_sem]); have : w1.cell? ⟨w.heap.size, 1, none⟩ = some (.int .i64 u.next) := (by simp [k1, go_sem]); have : w1.cell? ⟨w.heap.size, 2, none⟩ = some (.int .i64 u.lasts) := (by simp [k1, go_sem]); have : w1.cell? ⟨w.heap.size, 3, none⟩ = some (.int .i64 u.room) := (by simp [k1, go_sem])
         have : ∀ o, w1.frozen? ⟨w.heap.size, o, none⟩ = false := fun o => (by rw [f1 _ _ (by omega)]; simp [fz_alc, fz_out])
         clear k1 f1))
      | (go_at_call 46; refine (isName_any _ _ hw).mono ?_; rintro e w' ⟨rfl, rfl⟩)
      | (go_at_call 47; refine (within_any _ _ _ _).mono ?_; rintro e w' ⟨rfl, rfl⟩))
    refine bodyPost_ret (v := .tuple #[.agg #[.slice none 0 0, .int .i64 0, .int .i64 0, .int .i64 0], .int .i64 0, .int .i64 3]) ?_ rfl ⟨_, rfl, Own.nil', (by repeat (first | with_reducible exact Below.refl _ _ | with_reducible assumption | (with_reducible refine Below.alloc ?_ ?h _; case h => (first | omega | (simp <;> omega))) | (with_reducible refine Below.setCell ?_ ?h _; case h => (first | omega | (simp <;> omega))) | with_reducible refine Below.drew ?_ | with_reducible refine below_dn ?_ _))⟩
    simp [results, Try.results14, go_sem, *]
  | true =>
  cases h3 : (u.next == 1099511627776) with
  | true =>
    obtain rfl : E = 3 := by
      have h3' : (u.next != 1099511627776) = false := by rw [bne, h3]; rfl
      rw [hE, h1, h2, h3']; rfl
    clear hE hne
    go_enter Try.func14, Try.ntmps14
    go_wp2_with (first
      | (go_at_call 45
         go_must (
         refine (hM.out _ _ (hs1.below (by repeat (first | with_reducible exact Below.refl _ _ | with_reducible assumption | (with_reducible refine Below.alloc ?_ ?h _; case h => (first | omega | (simp <;> omega))) | (with_reducible refine Below.setCell ?_ ?h _; case h => (first | omega | (simp <;> omega))) | with_reducible refine Below.drew ?_ | with_reducible refine below_dn ?_ _))) (by simp only [als]; omega)).mono ?_
         rintro e w1 ⟨v1, rfl, hown, hb1⟩
         obtain ⟨k1, f1, z1⟩ := after hb1
         simp only [als] at k1 f1 z1
         obtain ⟨A1, cap1, rfl⟩ := hown.val
         have hx : Below w.heap.size w w1 := Below.trans (by repeat (first | with_reducible exact Below.refl _ _ | with_reducible assumption | (with_reducible refine Below.alloc ?_ ?h _; case h => (first | omega | (simp <;> omega))) | (with_reducible refine Below.setCell ?_ ?h _; case h => (first | omega | (simp <;> omega))) | with_reducible refine Below.drew ?_ | with_reducible refine below_dn ?_ _)) (hb1.mono (by simp only [als]; omega))
         have y1 : w.heap.size + 1 < w1.heap.size := by omega
         have y2 : w.heap.size < w1.heap.size := by omega
         have : w1.cell? ⟨w.heap.size + 1, 0, none⟩ = some (.slice none 0 0) := (by simp [k1, go_sem]); have : w1.cell? ⟨w.heap.size + 1, 1, none⟩ = some (.int .i64 0) := (by simp [k1, go_sem]); have : w1.cell? ⟨w.heap.size + 1, 2, none⟩ = some (.int .i64 0) := (by simp [k1, go_sem]); have : w1.cell? ⟨w.heap.size + 1, 3, none⟩ = some (.int .i64 0) := (by simp [k1, go_sem])
         have : ∀ o, w1.frozen? ⟨w.heap.size + 1, o, none⟩ = false := fun o => (by rw [f1 _ _ (by omega)]; simp [fz_alc, fz_out])
         have : w1.cell? ⟨w.heap.size, 0, none⟩ = some v := (by simp [k1, go_sem]); have : w1.cell? ⟨w.heap.size, 1, none⟩ = some (.int .i64 u.next) := (by simp [k1, go_sem]); have : w1.cell? ⟨w.heap.size, 2, none⟩ = some (.int .i64 u.lasts) := (by simp [k1, go_sem]); have : w1.cell? ⟨w.heap.size, 3, none⟩ = some (.int .i64 u.room) := (by simp [k1, go_sem])
         have : ∀ o, w1.frozen? ⟨w.heap.size, o, none⟩ = false := fun o => (by rw [f1 _ _ (by omega)]; simp [fz_alc, fz_out])
         clear k1 f1))
      | (go_at_call 46; refine (isName_any _ _ hw).mono ?_; rintro e w' ⟨rfl, rfl⟩)
      | (go_at_call 47; refine (within_any _ _ _ _).mono ?_; rintro e w' ⟨rfl, rfl⟩))
    refine bodyPost_ret (v := .tuple #[.agg #[.slice none 0 0, .int .i64 0, .int .i64 0, .int .i64 0], .int .i64 0, .int .i64 3]) ?_ rfl ⟨_, rfl, Own.nil', (by repeat (first | with_reducible exact Below.refl _ _ | with_reducible assumption | (with_reducible refine Below.alloc ?_ ?h _; case h => (first | omega | (simp <;> omega))) | (with_reducible refine Below.setCell ?_ ?h _; case h => (first | omega | (simp <;> omega))) | with_reducible refine Below.drew ?_ | with_reducible refine below_dn ?_ _))⟩
    simp [results, Try.results14, go_sem, *]
  | false =>
  have h3' : (u.next != 1099511627776) = true := by rw [bne, h3]; rfl
  rw [h1, h2, h3'] at hE
  clear h3'
  by_cases h4 : L.length = 20
  · obtain rfl : E = 2 := by rw [hE, if_pos h4]; rfl
    have h4' : ((L.length : Int) == 20) = true := by rw [beq_iff_eq]; omega
    clear hE hne h4
    go_enter Try.func14, Try.ntmps14
    go_wp2_with (first
      | (go_at_call 45
         go_must (
         refine (hM.out _ _ (hs1.below (by repeat (first | with_reducible exact Below.refl _ _ | with_reducible assumption | (with_reducible refine Below.alloc ?_ ?h _; case h => (first | omega | (simp <;> omega))) | (with_reducible refine Below.setCell ?_ ?h _; case h => (first | omega | (simp <;> omega))) | with_reducible refine Below.drew ?_ | with_reducible refine below_dn ?_ _))) (by simp only [als]; omega)).mono ?_
         rintro e w1 ⟨v1, rfl, hown, hb1⟩
         obtain ⟨k1, f1, z1⟩ := after hb1
         simp only [als] at k1 f1 z1
         obtain ⟨A1, cap1, rfl⟩ := hown.val
         have hx : Below w.heap.size w w1 := Below.trans (by repeat (first | with_reducible exact Below.refl _ _ | with_reducible assumption | (with_reducible refine Below.alloc ?_ ?h _; case h => (first | omega | (simp <;> omega))) | (with_reducible refine Below.setCell ?_ ?h _; case h => (first | omega | (simp <;> omega))) | with_reducible refine Below.drew ?_ | with_reducible refine below_dn ?_ _)) (hb1.mono (by simp only [als]; omega))
         have y1 : w.heap.size + 1 < w1.heap.size := by omega
         have y2 : w.heap.size < w1.heap.size := by omega
         have : w1.cell? ⟨w.heap.size + 1, 0, none⟩ = some (.slice none 0 0) := (by simp [k1, go_sem]); have : w1.cell? ⟨w.heap.size + 1, 1, none⟩ = some (.int .i64 0) := (by simp [k1, go_sem]); have : w1.cell? ⟨w.heap.size + 1, 2, none⟩ = some (.int .i64 0) := (by simp [k1, go_sem]); have : w1.cell? ⟨w.heap.size + 1, 3, none⟩ = some (.int .i64 0) := (by simp [k1, go_sem])
         have : ∀ o, w1.frozen? ⟨w.heap.size + 1, o, none⟩ = false := fun o => (by rw [f1 _ _ (by omega)]; simp [fz_alc, fz_out])
         have : w1.cell? ⟨w.heap.size, 0, none⟩ = some v := (by simp [k1, go_sem]); have : w1.cell? ⟨w.heap.size, 1, none⟩ = some (.int .i64 u.next) := (by simp [k1, go_sem]); have : w1.cell? ⟨w.heap.size, 2, none⟩ = some (.int .i64 u.lasts) := (by simp [k1, go_sem]); have : w1.cell? ⟨w.heap.size, 3, none⟩ = some (.int .i64 u.room) := (by simp [k1, go_sem])
         have : ∀ o, w1.frozen? ⟨w.heap.size, o, none⟩ = false := fun o => (by rw [f1 _ _ (by omega)]; simp [fz_alc, fz_out])
         clear k1 f1))
      | (go_at_call 46; refine (isName_any _ _ hw).mono ?_; rintro e w' ⟨rfl, rfl⟩)
      | (go_at_call 47; refine (within_any _ _ _ _).mono ?_; rintro e w' ⟨rfl, rfl⟩))
    refine bodyPost_ret (v := .tuple #[.agg #[.slice none 0 0, .int .i64 0, .int .i64 0, .int .i64 0], .int .i64 0, .int .i64 2]) ?_ rfl ⟨_, rfl, Own.nil', (by repeat (first | with_reducible exact Below.refl _ _ | with_reducible assumption | (with_reducible refine Below.alloc ?_ ?h _; case h => (first | omega | (simp <;> omega))) | (with_reducible refine Below.setCell ?_ ?h _; case h => (first | omega | (simp <;> omega))) | with_reducible refine Below.drew ?_ | with_reducible refine below_dn ?_ _))⟩
    simp [results, Try.results14, go_sem, *]
  · have h4' : ((L.length : Int) == 20) = false := by rw [beq_eq_false_iff_ne]; omega
    by_cases h5 : u.room < openOf L who + size
    · obtain rfl : E = 10 := by rw [hE, if_neg h4, if_pos h5]; rfl
      obtain ⟨hz0, hz1⟩ := within_true h2
      clear hE hne h4
      go_enter Try.func14, Try.ntmps14
      go_wp2_with (first
        | (go_at_call 45
           go_must (
           refine (hM.out _ _ (hs1.below (by repeat (first | with_reducible exact Below.refl _ _ | with_reducible assumption | (with_reducible refine Below.alloc ?_ ?h _; case h => (first | omega | (simp <;> omega))) | (with_reducible refine Below.setCell ?_ ?h _; case h => (first | omega | (simp <;> omega))) | with_reducible refine Below.drew ?_ | with_reducible refine below_dn ?_ _))) (by simp only [als]; omega)).mono ?_
           rintro e w1 ⟨v1, rfl, hown, hb1⟩
           obtain ⟨k1, f1, z1⟩ := after hb1
           simp only [als] at k1 f1 z1
           obtain ⟨A1, cap1, rfl⟩ := hown.val
           have hx : Below w.heap.size w w1 := Below.trans (by repeat (first | with_reducible exact Below.refl _ _ | with_reducible assumption | (with_reducible refine Below.alloc ?_ ?h _; case h => (first | omega | (simp <;> omega))) | (with_reducible refine Below.setCell ?_ ?h _; case h => (first | omega | (simp <;> omega))) | with_reducible refine Below.drew ?_ | with_reducible refine below_dn ?_ _)) (hb1.mono (by simp only [als]; omega))
           have y1 : w.heap.size + 1 < w1.heap.size := by omega
           have y2 : w.heap.size < w1.heap.size := by omega
           have : w1.cell? ⟨w.heap.size + 1, 0, none⟩ = some (.slice none 0 0) := (by simp [k1, go_sem]); have : w1.cell? ⟨w.heap.size + 1, 1, none⟩ = some (.int .i64 0) := (by simp [k1, go_sem]); have : w1.cell? ⟨w.heap.size + 1, 2, none⟩ = some (.int .i64 0) := (by simp [k1, go_sem]); have : w1.cell? ⟨w.heap.size + 1, 3, none⟩ = some (.int .i64 0) := (by simp [k1, go_sem])
           have : ∀ o, w1.frozen? ⟨w.heap.size + 1, o, none⟩ = false := fun o => (by rw [f1 _ _ (by omega)]; simp [fz_alc, fz_out])
           have : w1.cell? ⟨w.heap.size, 0, none⟩ = some v := (by simp [k1, go_sem]); have : w1.cell? ⟨w.heap.size, 1, none⟩ = some (.int .i64 u.next) := (by simp [k1, go_sem]); have : w1.cell? ⟨w.heap.size, 2, none⟩ = some (.int .i64 u.lasts) := (by simp [k1, go_sem]); have : w1.cell? ⟨w.heap.size, 3, none⟩ = some (.int .i64 u.room) := (by simp [k1, go_sem])
           have : ∀ o, w1.frozen? ⟨w.heap.size, o, none⟩ = false := fun o => (by rw [f1 _ _ (by omega)]; simp [fz_alc, fz_out])
           clear k1 f1))
        | (go_at_call 46; refine (isName_any _ _ hw).mono ?_; rintro e w' ⟨rfl, rfl⟩)
        | (go_at_call 47; refine (within_any _ _ _ _).mono ?_; rintro e w' ⟨rfl, rfl⟩))
      obtain ⟨W, hW⟩ : ∃ W, W = (((w1.setCell ⟨w.heap.size, 0, none⟩ (.slice A1 L.length cap1)).setCell ⟨w.heap.size, 1, none⟩ (.int .i64 u.next)).setCell ⟨w.heap.size, 2, none⟩ (.int .i64 u.lasts)).setCell ⟨w.heap.size, 3, none⟩ (.int .i64 u.room) := ⟨_, rfl⟩
      rw [← hW]
      have hWs : W.heap.size = w1.heap.size := by rw [hW]; simp
      have hWB : Below w.heap.size w W := by rw [hW]; exact (by repeat (first | with_reducible exact Below.refl _ _ | with_reducible assumption | (with_reducible refine Below.alloc ?_ ?h _; case h => (first | omega | (simp <;> omega))) | (with_reducible refine Below.setCell ?_ ?h _; case h => (first | omega | (simp <;> omega))) | with_reducible refine Below.drew ?_ | with_reducible refine below_dn ?_ _))
      have hown2 := hown.more (base' := w.heap.size + 2) (by simp)
      have hWo : Own Sess.cells 44 5 W (w.heap.size + 2) (.slice A1 L.length cap1) L := by
        rw [hW]
        repeat (first | with_reducible exact hown2 | (with_reducible refine Own.setB ?_ ?h _; case h => (first | omega | (simp <;> omega))) | with_reducible refine Own.allc ?_ _ | with_reducible refine Own.dn ?_ _ | with_reducible refine Own.d1 ?_)
      have e0 : W.cell? ⟨w.heap.size, 0, none⟩ = some (.slice A1 L.length cap1) := by rw [hW]; simp [*, go_sem]
      have e1 : W.cell? ⟨w.heap.size, 1, none⟩ = some (.int .i64 u.next) := by rw [hW]; simp [*, go_sem]
      have e2 : W.cell? ⟨w.heap.size, 2, none⟩ = some (.int .i64 u.lasts) := by rw [hW]; simp [*, go_sem]
      have e3 : W.cell? ⟨w.heap.size, 3, none⟩ = some (.int .i64 u.room) := by rw [hW]; simp [*, go_sem]
      have ef : ∀ o, W.frozen? ⟨w.heap.size, o, none⟩ = false := fun o => by rw [hW]; simp [*, go_sem]
      have q0 : W.cell? ⟨w.heap.size + 1, 0, none⟩ = some (.slice none 0 0) := by rw [hW]; simp [*, go_sem]
      have q1 : W.cell? ⟨w.heap.size + 1, 1, none⟩ = some (.int .i64 0) := by rw [hW]; simp [*, go_sem]
      have q2 : W.cell? ⟨w.heap.size + 1, 2, none⟩ = some (.int .i64 0) := by rw [hW]; simp [*, go_sem]
      have q3 : W.cell? ⟨w.heap.size + 1, 3, none⟩ = some (.int .i64 0) := by rw [hW]; simp [*, go_sem]
      have qf : ∀ o, W.frozen? ⟨w.heap.size + 1, o, none⟩ = false := fun o => by rw [hW]; simp [*, go_sem]
      have hsum : IntKind.i64.wrap (openOf L who + size) = openOf L who + size := IntWalk.i64_in _ (by omega)
      have hWl := Own.sl Sess.cells_len hWo
      clear hW hb1 hx hown hown2
      go_region_held3 (fun w' => w'.cell? ⟨w.heap.size, 0, none⟩ = some (.slice A1 L.length cap1) ∧ w'.cell? ⟨w.heap.size, 3, none⟩ = some (.int .i64 u.room) ∧ Below W.heap.size W w')
        (first
          | exact ⟨e0, e3, (Below.refl _ W).drew⟩
          | exact ⟨bcs hb2 (by rw [World.drew_heap']; omega) e0, bcs hb2 (by rw [World.drew_heap']; omega) e3, (Below.refl _ W).drew.trans hb2⟩)
        (first
          | (go_at_call 48; refine (open_any _ L _ _ W.heap.size (hWl.below (Below.refl _ W).drew) (Nat.le_refl _)).mono ?_; rintro e w2 ⟨rfl, hb2⟩))
      rename_i hS
      obtain ⟨_, _, hb3⟩ := hS
      obtain ⟨k3, f3, z3⟩ := after hb3
      have : w2.cell? ⟨w.heap.size, 0, none⟩ = some (.slice A1 L.length cap1) := by rw [k3 _ _ (by omega)]; exact e0
      have : w2.cell? ⟨w.heap.size, 1, none⟩ = some (.int .i64 u.next) := by rw [k3 _ _ (by omega)]; exact e1
      have : w2.cell? ⟨w.heap.size, 2, none⟩ = some (.int .i64 u.lasts) := by rw [k3 _ _ (by omega)]; exact e2
      have : ∀ o, w2.frozen? ⟨w.heap.size, o, none⟩ = false := fun o => by rw [f3 _ _ (by omega)]; exact ef o
      have : w2.cell? ⟨w.heap.size + 1, 0, none⟩ = some (.slice none 0 0) := by rw [k3 _ _ (by omega)]; exact q0
      have : w2.cell? ⟨w.heap.size + 1, 1, none⟩ = some (.int .i64 0) := by rw [k3 _ _ (by omega)]; exact q1
      have : w2.cell? ⟨w.heap.size + 1, 2, none⟩ = some (.int .i64 0) := by rw [k3 _ _ (by omega)]; exact q2
      have : w2.cell? ⟨w.heap.size + 1, 3, none⟩ = some (.int .i64 0) := by rw [k3 _ _ (by omega)]; exact q3
      have : ∀ o, w2.frozen? ⟨w.heap.size + 1, o, none⟩ = false := fun o => by rw [f3 _ _ (by omega)]; exact qf o
      have hy : Below w.heap.size w w2 := hWB.trans (hb3.mono (by omega))
      have y3 : w.heap.size + 1 < w2.heap.size := by omega
      have y4 : w.heap.size < w2.heap.size := by omega
      clear k3 f3 ef qf hsum
      go_wp2_with fail
      refine bodyPost_ret (v := .tuple #[.agg #[.slice none 0 0, .int .i64 0, .int .i64 0, .int .i64 0], .int .i64 0, .int .i64 10]) ?_ rfl ⟨_, rfl, Own.nil', (by repeat (first | with_reducible exact Below.refl _ _ | with_reducible assumption | (with_reducible refine Below.alloc ?_ ?h _; case h => (first | omega | (simp <;> omega))) | (with_reducible refine Below.setCell ?_ ?h _; case h => (first | omega | (simp <;> omega))) | with_reducible refine Below.drew ?_ | with_reducible refine below_dn ?_ _))⟩
      simp [results, Try.results14, go_sem, *]
    · exfalso
      rw [if_neg h4, if_neg h5] at hE
      exact hne hE
end Go.Proofs.Ytdcigjpanpcaaaa
