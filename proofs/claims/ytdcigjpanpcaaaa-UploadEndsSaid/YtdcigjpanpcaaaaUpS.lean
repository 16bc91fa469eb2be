/- Uploads, the reference: SweepOf. -/
import Derived.Test.YtdcigjpanpcaaaaUpN
namespace Go.Proofs.Ytdcigjpanpcaaaa
open Go.RowKit

set_option maxRecDepth 100000 in
set_option maxHeartbeats 4000000 in
theorem sweepR_any (v : Value) (l : List Sess) (next lasts room now : Int) (w : World) (B : Nat) (hs : Sl Sess.cells 5 w B v l) (hB : B ≤ w.heap.size) (hl : l.length ≤ 1000000) :
    Calls Try.prog 22 #[.agg #[v, .int .i64 next, .int .i64 lasts, .int .i64 room], .int .i64 now] w fun e w' => ∃ v', e = .returned (.agg #[v', .int .i64 next, .int .i64 lasts, .int .i64 room]) ∧ Own Sess.cells 44 5 w' w.heap.size v' (sweptL l now) ∧ Below w.heap.size w w' := by
  obtain ⟨A, cap, rfl, _, hcap, hcap2⟩ := hs.form
  replace hs := hs.more hB
  go_enter Try.func22, Try.ntmps22
  go_wp2
  obtain ⟨W, hW⟩ : ∃ W, W = (w.alloc (.cells #[.slice A l.length cap, .int .i64 next, .int .i64 lasts, .int .i64 room] 24)).alloc (.cells #[.slice none 0 0, .int .i64 0, .int .i64 0, .int .i64 0] 24) := ⟨_, rfl⟩
  rw [← hW]
  have hWs : W.heap.size = w.heap.size + 2 := by rw [hW]; simp
  have hWB : Below w.heap.size w W := by rw [hW]; exact (by repeat (first | with_reducible exact Below.refl _ _ | with_reducible assumption | (with_reducible refine Below.alloc ?_ ?h _; case h => (first | omega | (simp <;> omega))) | (with_reducible refine Below.setCell ?_ ?h _; case h => (first | omega | (simp <;> omega))) | with_reducible refine Below.drew ?_ | with_reducible refine below_dn ?_ _))
  have e0 : W.cell? ⟨w.heap.size, 0, none⟩ = some (.slice A l.length cap) := by rw [hW]; simp [go_sem]
  have e1 : W.cell? ⟨w.heap.size, 1, none⟩ = some (.int .i64 next) := by rw [hW]; simp [go_sem]
  have e2 : W.cell? ⟨w.heap.size, 2, none⟩ = some (.int .i64 lasts) := by rw [hW]; simp [go_sem]
  have e3 : W.cell? ⟨w.heap.size, 3, none⟩ = some (.int .i64 room) := by rw [hW]; simp [go_sem]
  have ef : ∀ o, W.frozen? ⟨w.heap.size, o, none⟩ = false := fun o => by rw [hW]; simp [fz_alc, fz_out]
  have q0 : W.cell? ⟨w.heap.size + 1, 0, none⟩ = some (.slice none 0 0) := by rw [hW]; simp [go_sem]
  have q1 : W.cell? ⟨w.heap.size + 1, 1, none⟩ = some (.int .i64 0) := by rw [hW]; simp [go_sem]
  have q2 : W.cell? ⟨w.heap.size + 1, 2, none⟩ = some (.int .i64 0) := by rw [hW]; simp [go_sem]
  have q3 : W.cell? ⟨w.heap.size + 1, 3, none⟩ = some (.int .i64 0) := by rw [hW]; simp [go_sem]
  have qf : ∀ o, W.frozen? ⟨w.heap.size + 1, o, none⟩ = false := fun o => by rw [hW]; simp [fz_alc, fz_out]
  have HQ := Lib.hid (And.intro (And.intro e0 (And.intro e1 (And.intro e2 e3))) (And.intro ef (And.intro (And.intro q0 (And.intro q1 (And.intro q2 q3))) qf)))
  clear hW e0 e1 e2 e3 ef q0 q1 q2 q3 qf
  go_loopw [5, 6] (fun ll i wr => ∃ k : Nat, k ≤ l.length ∧ i = .int .i64 k ∧ Hid (Own Sess.cells 44 5 wr (w.heap.size + 2) ll ((l.take k).filter (stays now))) ∧ Hid (Below (w.heap.size + 2) W wr)) (fun _ i _ => l.length - (intOf i).toNat)
  case atStart => exact ⟨0, Nat.zero_le _, rfl, Own.nil', Below.refl _ _⟩
  case round =>
    obtain ⟨k, hk, rfl, ho, hb⟩ := hrel
    obtain ⟨⟨e0, e1, e2, e3⟩, ef, ⟨q0, q1, q2, q3⟩, qf⟩ := HQ.out
    have hz := hb.out.size
    have e0 := bcs hb.out (by omega) e0
    have e1 := bcs hb.out (by omega) e1
    have e2 := bcs hb.out (by omega) e2
    have e3 := bcs hb.out (by omega) e3
    have q0 := bcs hb.out (by omega) q0
    have q1 := bcs hb.out (by omega) q1
    have q2 := bcs hb.out (by omega) q2
    have q3 := bcs hb.out (by omega) q3
    have ef' : ∀ o, wr.frozen? ⟨w.heap.size, o, none⟩ = false := fun o => (bfz hb.out (by omega) o).trans (ef o)
    have qf' : ∀ o, wr.frozen? ⟨w.heap.size + 1, o, none⟩ = false := fun o => (bfz hb.out (by omega) o).trans (qf o)
    clear ef qf
    have hbw : Below w.heap.size w wr := hWB.trans (hb.out.mono (by omega))
    have y1 : w.heap.size + 1 < wr.heap.size := by omega
    have y2 : w.heap.size < wr.heap.size := by omega
    by_cases hlt : k < l.length
    · obtain ⟨b, off, rfl, hBb, c0, c1, c2, c3, c4⟩ := (hs.below hbw).sess hlt
      cases hp : gone now l[k] with
      | true =>
        have HS : Hid ((l.take (k + 1)).filter (stays now) = (l.take k).filter (stays now)) := filter_miss hlt (by simp only [stays, hp]; rfl)
        have hp' : l[k].till < now := of_decide_eq_true hp
        clear hp
        go_wp2
        go_roundw
        case rel => exact ⟨k + 1, by omega, by go_num, by rw [HS.out]; exact ho, hb⟩
        case measure => simp [intOf]; omega
      | false =>
        have HS : Hid ((l.take (k + 1)).filter (stays now) = (l.take k).filter (stays now) ++ [l[k]]) := filter_hit hlt (by simp only [stays, hp]; rfl)
        have hp' : ¬ l[k].till < now := of_decide_eq_false hp
        have hp2 : now ≤ l[k].till := by omega
        clear hp
        have hfl : ((l.take k).filter (stays now)).length ≤ 1000000 := Nat.le_trans (List.length_filter_le _ _) (by rw [List.length_take]; omega)
        have HO3 : Hid (Own Sess.cells 44 5 (wr.alloc (.cells #[.int .i64 l[k].number, .string ⟨l[k].who.toArray⟩, .string ⟨l[k].text.toArray⟩, .int .i64 l[k].size, .int .i64 l[k].till] 44)) (w.heap.size + 2) u5 ((l.take k).filter (stays now))) := Own.allc ho.out _
        have HS3 := Lib.hid (sl_one (c := Sess.cells) (sz := 5) (E := 44) wr l[k] rfl)
        have HC : Hid (((l.take k).filter (stays now)).length + [l[k]].length ≤ maxLen) := by show _ ≤ maxLen; unfold maxLen; simp only [List.length_cons, List.length_nil]; omega
        go_wp2_with (
          at_builtin
          refine wpList_app rfl _ _ rfl Sess.cells_len Sess.one elSess rfl rfl HO3.out HS3.out (by simp only [List.length_cons, List.length_nil]; omega) HC.out (by simp; omega) ?_
          intro v4 w4 h4o h4b _
          have H4 := Lib.hid h4o
          have H5 : Hid (Below (w.heap.size + 2) W w4) := (hb.out.alloc (by omega) _).trans h4b
          clear h4o h4b HO3 HS3 HC)
        go_roundw
        case rel => exact ⟨k + 1, by omega, by go_num, by rw [HS.out]; exact H4.out, H5⟩
        case measure => simp [intOf]; omega
    · obtain ⟨A4, cap4, rfl⟩ := ho.out.val
      have HL : Hid ((l.take k).filter (stays now) = sweptL l now) := by
        show (l.take k).filter (stays now) = sweptL l now
        rw [List.take_of_length_le (by omega)]
      have ho' := ho.out
      rw [HL.out] at ho'
      rw [HL.out]
      go_wp2
      refine bodyPost_ret (v := .agg #[.slice A4 (sweptL l now).length cap4, .int .i64 next, .int .i64 lasts, .int .i64 room]) ?_ rfl ⟨_, rfl, ?_, (by repeat (first | with_reducible exact Below.refl _ _ | with_reducible assumption | (with_reducible refine Below.alloc ?_ ?h _; case h => (first | omega | (simp <;> omega))) | (with_reducible refine Below.setCell ?_ ?h _; case h => (first | omega | (simp <;> omega))) | with_reducible refine Below.drew ?_ | with_reducible refine below_dn ?_ _))⟩
      · simp [results, Try.results22, go_sem, *]
      · exact (Own.more (base := w.heap.size + 2) (by repeat (first | with_reducible exact ho' | (with_reducible refine Own.setB ?_ ?h _; case h => (first | omega | (simp <;> omega))) | with_reducible refine Own.allc ?_ _ | with_reducible refine Own.dn ?_ _ | with_reducible refine Own.d1 ?_)) (by omega))
end Go.Proofs.Ytdcigjpanpcaaaa
