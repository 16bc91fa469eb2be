/- uploadBegun answers true. -/
import Derived.Test.YtdcigjpanpcaaaaUpT
import Derived.Test.YtdcigjpanpcaaaaUpJ
namespace Go.Proofs.Ytdcigjpanpcaaaa
open Go.RowKit

def bu0 : Upl := ⟨[], 1, 5, 10⟩
def bu1 : Upl := ⟨[⟨1, [97], [], 2, 5⟩], 2, 5, 10⟩
def bu2 : Upl := ⟨[⟨1, [97], [120, 121], 2, 6⟩], 2, 5, 10⟩

theorem begun_open (w : World) :
    Calls Try.prog 14 #[.agg #[.slice none 0 0, .int .i64 1, .int .i64 5, .int .i64 10], .string ⟨#[97]⟩, .int .i64 2, .int .i64 0] w fun e w' => ∃ A c, e = .returned (.tuple #[.agg #[.slice A 1 c, .int .i64 2, .int .i64 5, .int .i64 10], .int .i64 1, .int .i64 0]) ∧ Own Sess.cells 44 5 w' w.heap.size (.slice A 1 c) bu1.sess ∧ Below w.heap.size w w' := by
  have h := openUp_any (.slice none 0 0) bu0 [97] 2 0 w w.heap.size Sl.nil (Nat.le_refl _) (by intro s hs; cases hs) (by decide)
  have e1 : openErr bu0 [97] 2 0 = 0 := by decide +kernel
  have e2 : openN bu0 [97] 2 0 = 1 := by decide +kernel
  have e3 : openU bu0 [97] 2 0 = bu1 := by decide +kernel
  rw [e1, e2, e3] at h
  refine h.mono fun e w' ⟨v', h1, h2, h3⟩ => ?_
  obtain ⟨A, c, rfl⟩ := h2.val
  exact ⟨A, c, h1, h2, h3⟩

theorem begun_append (A : Option Addr) (c : Nat) (w : World) (hs : Sl Sess.cells 5 w w.heap.size (.slice A 1 c) bu1.sess) :
    Calls Try.prog 18 #[.agg #[.slice A 1 c, .int .i64 2, .int .i64 5, .int .i64 10], .string ⟨#[97]⟩, .int .i64 1, .int .i64 0, .string ⟨#[120, 121]⟩, .int .i64 1] w fun e w' => ∃ A c, e = .returned (.tuple #[.agg #[.slice A 1 c, .int .i64 2, .int .i64 5, .int .i64 10], .int .i64 2, .int .i64 0]) ∧ Own Sess.cells 44 5 w' w.heap.size (.slice A 1 c) bu2.sess ∧ Below w.heap.size w w' := by
  have h := append_any (.slice A 1 c) bu1 [97] 1 0 [120, 121] 1 w w.heap.size hs (Nat.le_refl _) (by intro s hs; simp [bu1] at hs; subst hs; exact ⟨by decide, by decide⟩) (by decide) (by decide)
  have e1 : appErr bu1 [97] 1 0 [120, 121] 1 = 0 := by decide +kernel
  have e2 : appN bu1 [97] 1 0 [120, 121] 1 = 2 := by decide +kernel
  have e3 : appU bu1 [97] 1 0 [120, 121] 1 = bu2 := by decide +kernel
  rw [e1, e2, e3] at h
  refine h.mono fun e w' ⟨v', h1, h2, h3⟩ => ?_
  obtain ⟨A, c, rfl⟩ := h2.val
  exact ⟨A, c, h1, h2, h3⟩

theorem begun_finish (A : Option Addr) (c : Nat) (w : World) (hs : Sl Sess.cells 5 w w.heap.size (.slice A 1 c) bu2.sess) :
    Calls Try.prog 26 #[.agg #[.slice A 1 c, .int .i64 2, .int .i64 5, .int .i64 10], .string ⟨#[97]⟩, .int .i64 1, .int .i64 2] w fun e w' => ∃ A n c, e = .returned (.tuple #[.agg #[.slice A n c, .int .i64 2, .int .i64 5, .int .i64 10], .string ⟨#[120, 121]⟩, .int .i64 0]) ∧ Below w.heap.size w w' := by
  have h := finish_any (.slice A 1 c) bu2 [97] 1 2 w w.heap.size hs (Nat.le_refl _) (by intro s hs; simp [bu2] at hs; subst hs; exact ⟨by decide, by decide⟩) (by decide)
  have e1 : finErr bu2 [97] 1 2 = 0 := by decide +kernel
  have e2 : finText bu2 [97] 1 2 = [120, 121] := by decide +kernel
  have e3 : finU bu2 [97] 1 2 = ⟨[], 2, 5, 10⟩ := by decide +kernel
  rw [e1, e2, e3] at h
  refine h.mono fun e w' ⟨v', h1, h2, h3⟩ => ?_
  obtain ⟨A, c, rfl⟩ := h2.val
  exact ⟨A, _, c, h1, h3⟩

set_option maxRecDepth 100000 in
set_option maxHeartbeats 1000000 in
theorem uploadBegun_any (w : World) : Calls Try.prog 16 #[] w fun e w' => e = .returned (.bool true) ∧ Below w.heap.size w w' := by
  go_enter Try.func16, Try.ntmps16
  go_wp2_with (first
    | (go_at_call 14
       go_must (
       refine (begun_open _).mono ?_
       rintro e w1 ⟨A1, c1, rfl, ho1, hb1⟩
       have zz := hb1.size
       have os1 := Own.sl Sess.cells_len ho1))
    | (go_at_call 18
       go_must (
       refine (begun_append _ _ _ ((os1.below (by repeat (first | with_reducible exact Below.refl _ _ | with_reducible assumption | (with_reducible refine Below.alloc ?_ ?h _; case h => (first | omega | (simp <;> omega))) | (with_reducible refine Below.setCell ?_ ?h _; case h => (first | omega | (simp <;> omega))) | with_reducible refine Below.drew ?_ | with_reducible refine below_dn ?_ _))).more (by simp))).mono ?_
       rintro e w2 ⟨A2, c2, rfl, ho2, hb2⟩
       obtain ⟨k2, f2, z2⟩ := after hb2
       simp only [als] at k2 f2 z2
       replace ho2 := ho2.more (base' := w1.heap.size + 1) (by simp)
       have : w2.cell? ⟨w1.heap.size, 0, none⟩ = some (.slice A1 1 c1) := (by simp [k2, go_sem])
       have : w2.cell? ⟨w1.heap.size, 1, none⟩ = some (.int .i64 2) := (by simp [k2, go_sem])
       have : w2.cell? ⟨w1.heap.size, 2, none⟩ = some (.int .i64 5) := (by simp [k2, go_sem])
       have : w2.cell? ⟨w1.heap.size, 3, none⟩ = some (.int .i64 10) := (by simp [k2, go_sem])
       have : ∀ o, w2.frozen? ⟨w1.heap.size, o, none⟩ = false := fun o => (by rw [f2 _ _ (by omega)]; simp [fz_alc, fz_out])
       have hy : Below w.heap.size w w2 := Below.trans (by repeat (first | with_reducible exact Below.refl _ _ | with_reducible assumption | (with_reducible refine Below.alloc ?_ ?h _; case h => (first | omega | (simp <;> omega))) | (with_reducible refine Below.setCell ?_ ?h _; case h => (first | omega | (simp <;> omega))) | with_reducible refine Below.drew ?_ | with_reducible refine below_dn ?_ _)) (hb2.mono (by simp only [als]; have := hb1.size; omega))
       clear k2 f2))
    | (go_at_call 26
       go_must (
       refine (begun_finish _ _ _ (Own.sl (E := 44) (base := w1.heap.size + 1) Sess.cells_len ?_)).mono ?_
       · repeat (first | with_reducible exact ho2 | (with_reducible refine Own.setB ?_ ?h _; case h => (first | omega | (simp <;> omega))) | with_reducible refine Own.allc ?_ _ | with_reducible refine Own.dn ?_ _ | with_reducible refine Own.d1 ?_)
       rintro e w3 ⟨A3, n3, c3, rfl, hb3⟩)))
  go_ret
  refine ⟨rfl, ?_⟩
  have hz : Below w.heap.size w w3 := Below.trans (by repeat (first | with_reducible exact Below.refl _ _ | with_reducible assumption | (with_reducible refine Below.alloc ?_ ?h _; case h => (first | omega | (simp <;> omega))) | (with_reducible refine Below.setCell ?_ ?h _; case h => (first | omega | (simp <;> omega))) | with_reducible refine Below.drew ?_ | with_reducible refine below_dn ?_ _)) (hb3.mono (by have := hy.size; simp; omega))
  have hzs := hz.size
  exact (by repeat (first | with_reducible exact Below.refl _ _ | with_reducible assumption | (with_reducible refine Below.alloc ?_ ?h _; case h => (first | omega | (simp <;> omega))) | (with_reducible refine Below.setCell ?_ ?h _; case h => (first | omega | (simp <;> omega))) | with_reducible refine Below.drew ?_ | with_reducible refine below_dn ?_ _))
end Go.Proofs.Ytdcigjpanpcaaaa
