/- Uploads: slices.Delete over sessions that the call owns. -/
import Derived.Test.YtdcigjpanpcaaaaDel
import Derived.Test.YtdcigjpanpcaaaaUpE
namespace Go.Proofs.Ytdcigjpanpcaaaa
open Go.RowKit

theorem heap_setCells_other {g k : Nat} (hk : k ≠ g) : ∀ {vs : List Value} {o : Nat} {w : World}, (w.setCells g o vs).heap[k]? = w.heap[k]?
  | [], _, _ => rfl
  | _ :: r, o, w => (heap_setCells_other hk (vs := r) (o := o + 1)).trans (Below.heap_setCell w ⟨g, o, none⟩ _ k hk)

set_option maxRecDepth 100000 in
set_option maxHeartbeats 1000000 in
theorem deleteS_any (base : Nat) (v : Value) (l : List Sess) (i : Nat) (w : World) (hown : Own Sess.cells 44 5 w base v l) (hi : i < l.length) :
    Calls Try.prog 53 #[v, .int .i64 i, .int .i64 (i + 1)] w fun e w' => ∃ v', e = .returned v' ∧ Own Sess.cells 44 5 w' base v' (l.take i ++ l.drop (i + 1)) ∧ Below base w w' ∧ ∀ k, v.ownBlock ≠ some k → w'.heap[k]? = w.heap[k]? := by
  obtain ⟨g, cap, rfl, hg, hg2, hnc, hcm, hcs, hfz⟩ := hown.form (by omega)
  obtain ⟨ti, z, hti, hz, hs1, hs2, hs3⟩ := elSess.ex
  have hne : ((i : Int) == (i : Int) + 1) = false := by rw [beq_eq_false_iff_ne]; omega
  have Hown := Lib.hid hown
  have Hcs := Lib.hid hcs
  have Hfz := Lib.hid hfz
  clear hown hcs hfz
  have hcap : cap ≠ i := by omega
  have hlen5 : ∀ s : Sess, s.cells.length = 5 := Sess.cells_len
  have hN : ((l.drop (i + 1)).flatMap Sess.cells).length = (l.length - (i + 1)) * 5 := by rw [flat_len Sess.cells_len, List.length_drop]
  have h1c : ∀ u ∈ (l.drop (i + 1)).flatMap Sess.cells, u.oneCell' = true := by intro u hu; obtain ⟨a, _, ha⟩ := List.mem_flatMap.1 hu; exact Sess.one a u ha
  have hsp : ∀ j, j < ((l.drop (i + 1)).flatMap Sess.cells).length → (w.cell? ⟨g, 0 + i * 5 + j, none⟩).isSome = true ∧ w.frozen? ⟨g, 0 + i * 5 + j, none⟩ = false := by
    intro j hj
    rw [hN] at hj
    exact ⟨Hcs.out _ (by omega), Hfz.out _⟩
  have S1 := Lib.hid hN
  have S2 := Lib.hid h1c
  have S3 := Lib.hid hsp
  have S4 := Lib.hid (Own.del Sess.cells_len Hown.out hi)
  have S5 := Lib.hid (below_setCells (B := base) (a := w) hg ((l.drop (i + 1)).flatMap Sess.cells) (i * 5) w (Below.refl _ _))
  clear hN h1c hsp hlen5
  obtain ⟨A, hA, S6⟩ : ∃ A : Addr, (if cap = i + 1 then some (⟨g, 0, none⟩ : Addr) else some ⟨g, (i + 1) * 5, none⟩) = some A ∧ Hid (∀ j u, ((l.drop (i + 1)).flatMap Sess.cells)[j]? = some u → w.drew.cell? (A.add j) = some u) := by
    by_cases h : cap = i + 1
    · exact ⟨⟨g, 0, none⟩, by simp [h], Own.rest Sess.cells_len (by omega) Hown.out (i + 1) (fun h => by omega)⟩
    · exact ⟨⟨g, (i + 1) * 5, none⟩, by simp [h], Own.rest Sess.cells_len (by omega) Hown.out (i + 1) (fun _ => rfl)⟩
  have hic : i ≤ cap := by omega
  have hp0 : (0 : Int) ≤ (i : Int) + 1 := by omega
  have hp1 : (i : Int) + 1 ≤ (l.length : Int) := by omega
  have hp2 : ((i : Int) + 1).toNat = i + 1 := by omega
  clear hcap
  go_enter Try.func53, Try.ntmps53
  go_wp2_with fail
  go_region_law (refine step_append_room rfl (.tmp 22) (.tmp 25) 22 rfl 44 ti 5 Try.underlying22 hti hs1 g 0 i cap (by simp [Act.eval, Act.put]) A (l.length - (i + 1)) (cap - (i + 1)) ((l.drop (i + 1)).flatMap Sess.cells) (by simp [Act.eval, Act.put]) S1.out S6.out S2.out (by omega) S3.out ?_)
  have hO : Own Sess.cells 44 5 (w.drew.setCells g (i * 5) ((l.drop (i + 1)).flatMap Sess.cells)) base (.slice (some ⟨g, 0, none⟩) (l.length - 1) cap) (l.take i ++ l.drop (i + 1)) := by
    exact Own.del Sess.cells_len (w := w.drew) Hown.out hi
  have hbw : Below base w (w.drew.setCells g (i * 5) ((l.drop (i + 1)).flatMap Sess.cells)) := below_setCells hg _ _ _ (Below.refl _ w).drew
  have hO1 := own_setCells ((l.drop (i + 1)).flatMap Sess.cells) (i * 5) w.drew _ Hown.out (by rw [S1.out, flat_len Sess.cells_len]; omega)
  obtain ⟨W1, hW1⟩ : ∃ W1, W1 = w.drew.setCells g (i * 5) ((l.drop (i + 1)).flatMap Sess.cells) := ⟨_, rfl⟩
  rw [← hW1] at hO hbw hO1
  have hcl : ∀ ty, (Builtin.clear_ #[22] ty #[.slice (some ⟨g, (i + (l.length - (i + 1))) * 5, none⟩) (l.length - (i + (l.length - (i + 1)))) (cap - (i + (l.length - (i + 1))))]).run Try.prog W1 = .ok (.tuple #[]) (W1.setCells g ((i + (l.length - (i + 1))) * 5) (Builtin.zeroCells #[.int .i64 0, .string ⟨#[]⟩, .string ⟨#[]⟩, .int .i64 0, .int .i64 0] (l.length - (i + (l.length - (i + 1))))).toList) := fun ty =>
    run_clear_rows (sz := 5) Try.underlying22 zeroSess rfl (by intro u hu; simp [Value.cells] at hu; rcases hu with rfl | rfl | rfl | rfl | rfl <;> rfl) (fun r hr => by
      rcases hO1.2 with ⟨hv, _⟩ | ⟨g', cap', cur, hv, _, hh, hnc', _, hcs', _⟩
      · cases hv
      · simp only [Value.slice.injEq, Option.some.injEq, Addr.mk.injEq, and_true, true_and] at hv
        obtain ⟨rfl, rfl⟩ := hv
        rw [cell_of_row W1 g _ cur _ (0, 0) hh, Array.getElem?_eq_getElem (by omega)]
        rfl) (fun r _ => by
      rcases hO1.2 with ⟨hv, _⟩ | ⟨g', cap', cur, hv, _, hh, hnc', _, hcs', _⟩
      · cases hv
      · simp only [Value.slice.injEq, Option.some.injEq, Addr.mk.injEq, and_true, true_and] at hv
        obtain ⟨rfl, rfl⟩ := hv
        exact frozen_of_row W1 g _ cur _ hh)
  have hfin : Own Sess.cells 44 5 (W1.setCells g ((i + (l.length - (i + 1))) * 5) (Builtin.zeroCells #[.int .i64 0, .string ⟨#[]⟩, .string ⟨#[]⟩, .int .i64 0, .int .i64 0] (l.length - (i + (l.length - (i + 1))))).toList) base (.slice (some ⟨g, 0, none⟩) (i + (l.length - (i + 1))) cap) (l.take i ++ l.drop (i + 1)) := by
    have e : i + (l.length - (i + 1)) = l.length - 1 := by omega
    have e2 : (l.take i ++ l.drop (i + 1)).length = l.length - 1 := by rw [List.length_append, List.length_take, List.length_drop]; omega
    unfold Own at hO ⊢
    rw [e]
    rw [e2] at hO ⊢
    exact own_setCells_out _ _ _ hO (Nat.le_refl _)
  have hbf : Below base w (W1.setCells g ((i + (l.length - (i + 1))) * 5) (Builtin.zeroCells #[.int .i64 0, .string ⟨#[]⟩, .string ⟨#[]⟩, .int .i64 0, .int .i64 0] (l.length - (i + (l.length - (i + 1))))).toList) := below_setCells hg _ _ _ hbw
  have hkk : ∀ k, k ≠ g → (W1.setCells g ((i + (l.length - (i + 1))) * 5) (Builtin.zeroCells #[.int .i64 0, .string ⟨#[]⟩, .string ⟨#[]⟩, .int .i64 0, .int .i64 0] (l.length - (i + (l.length - (i + 1))))).toList).heap[k]? = w.heap[k]? := fun k hk => by
    rw [heap_setCells_other hk, hW1, heap_setCells_other hk]; rfl
  have HK := Lib.hid hkk
  have HF := Lib.hid hfin
  clear hkk hO hO1 hfin
  generalize (W1.setCells g ((i + (l.length - (i + 1))) * 5) (Builtin.zeroCells #[.int .i64 0, .string ⟨#[]⟩, .string ⟨#[]⟩, .int .i64 0, .int .i64 0] (l.length - (i + (l.length - (i + 1))))).toList) = W2 at *
  rw [hW1] at hcl
  clear hW1
  have hn1 : i + (l.length - (i + 1)) ≤ l.length := by omega
  have hn2 : ¬ cap = i + (l.length - (i + 1)) := by omega
  go_wp2_with (simp only [hcl])
  go_ret
  exact ⟨_, rfl, HF.out, hbf, fun k hk => HK.out k (fun e => hk (by rw [e]; rfl))⟩
end Go.Proofs.Ytdcigjpanpcaaaa
