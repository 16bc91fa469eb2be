/- Uploads: Append. -/
import Derived.Test.YtdcigjpanpcaaaaUpI
import Derived.Test.YtdcigjpanpcaaaaStr
namespace Go.Proofs.Ytdcigjpanpcaaaa
open Go.RowKit

theorem flat_set_cell {α : Type} {c : α → List Value} {sz : Nat} (hc : ∀ a, (c a).length = sz) {l : List α} {k j : Nat} (hk : k < l.length) (hj : j < sz) {u : Value} {a : α} (ha : c a = (c l[k]).set j u) :
    (l.flatMap c).set (k * sz + j) u = (l.set k a).flatMap c := by
  induction l generalizing k with
  | nil => simp at hk
  | cons b t ih =>
    cases k with
    | zero =>
      have ha' : c a = (c b).set j u := ha
      simp only [List.flatMap_cons, List.set_cons_zero, Nat.zero_mul, Nat.zero_add]
      rw [List.set_append_left _ _ (by rw [hc]; exact hj), ha']
    | succ k =>
      have hk' : k < t.length := by simpa using hk
      simp only [List.flatMap_cons, List.set_cons_succ]
      rw [List.set_append_right _ _ (by rw [hc, Nat.succ_mul]; omega), hc, show (k + 1) * sz + j - sz = k * sz + j from by rw [Nat.succ_mul]; omega, ih hk' (by simpa using ha)]

theorem Own.setOne {α : Type} {c : α → List Value} {E sz base g n cap : Nat} {w : World} (hc : ∀ a, (c a).length = sz) {l : List α} (h : Own c E sz w base (.slice (some ⟨g, 0, none⟩) n cap) l) {k j : Nat} (hk : k < l.length) (hj : j < sz) {u : Value} {a : α} (ha : c a = (c l[k]).set j u) :
    Own c E sz (w.setCell ⟨g, k * sz + j, none⟩ u) base (.slice (some ⟨g, 0, none⟩) n cap) (l.set k a) := by
  have hn : n = l.length := by
    rcases h.2 with ⟨hv, _⟩ | ⟨_, _, _, hv, _⟩
    · cases hv
    · injection hv
  subst hn
  unfold Own at h ⊢
  rw [List.length_set, ← flat_set_cell hc hk hj ha]
  exact (World.ownsRow.stored h _ _).1

/-- What Append makes of a session: an error, or the session then. -/
def appS (s : Sess) (offset : Int) (text : Str) (till : Int) : Int × Sess :=
  if withinB offset 0 s.text.length && s.text.drop offset.toNat == text then (0, s)
  else if offset = s.text.length then
    if s.size < (s.text.length : Int) + text.length then (2, s)
    else (0, { s with text := s.text ++ text, till := till })
  else (4, s)
def appErr (u : Upl) (who : Str) (number offset : Int) (text : Str) (now : Int) : Int :=
  if mineErr u who number now = 0 then (((mineAt u who number now).bind fun i => (sweptL u.sess now)[i]?).elim 0 (fun s => (appS s offset text (now + u.lasts)).1)) else mineErr u who number now
def appN (u : Upl) (who : Str) (number offset : Int) (text : Str) (now : Int) : Int :=
  if appErr u who number offset text now = 0 then (((mineAt u who number now).bind fun i => (sweptL u.sess now)[i]?).elim 0 (fun s => ((appS s offset text (now + u.lasts)).2.text.length : Int))) else 0
def appU (u : Upl) (who : Str) (number offset : Int) (text : Str) (now : Int) : Upl :=
  { u with sess := (mineAt u who number now).elim [] (fun i => ((sweptL u.sess now)[i]?).elim [] fun s => (sweptL u.sess now).set i (appS s offset text (now + u.lasts)).2) }

section
variable (v : Value) (u : Upl) (who : Str) (number offset : Int) (text : Str) (now : Int) (w : World)
/-- What Append ends with. -/
def AppPost (next lasts room n e : Int) (l : List Sess) : Ending → World → Prop := fun e' w' =>
  ∃ v', e' = .returned (.tuple #[.agg #[v', .int .i64 next, .int .i64 lasts, .int .i64 room], .int .i64 n, .int .i64 e]) ∧ Own Sess.cells 44 5 w' w.heap.size v' l ∧ Below w.heap.size w w'
end

set_option maxRecDepth 100000 in
set_option maxHeartbeats 4000000 in
theorem append_one (v : Value) (u : Upl) (who : Str) (number offset : Int) (text : Str) (now : Int) (w : World) (i : Nat) (L : List Sess) (hlt : i < L.length)
    (hs1 : Sl Sess.cells 5 w w.heap.size v u.sess)
    (hM : Hid (∀ (v : Value) (W : World), Sl Sess.cells 5 W w.heap.size v u.sess → w.heap.size ≤ W.heap.size → Calls Try.prog 50 #[.agg #[v, .int .i64 u.next, .int .i64 u.lasts, .int .i64 u.room], .string ⟨who.toArray⟩, .int .i64 number, .int .i64 now] W fun e w' => ∃ v', e = .returned (.tuple #[.agg #[v', .int .i64 u.next, .int .i64 u.lasts, .int .i64 u.room], .int .i64 i, .int .i64 0]) ∧ Own Sess.cells 44 5 w' W.heap.size v' L ∧ Below W.heap.size W w'))
    (htl : L[i].text.length ≤ 300) (htx : text.length ≤ 9223372036854775000) (hn0 : 0 ≤ now) (hn1 : now ≤ 1099511627776) (hl0 : 1 ≤ u.lasts) (hl1 : u.lasts ≤ 1000000)
    (hap : ((appS L[i] offset text (now + u.lasts)).1 = 0)) :
    Calls Try.prog 18 #[.agg #[v, .int .i64 u.next, .int .i64 u.lasts, .int .i64 u.room], .string ⟨who.toArray⟩, .int .i64 number, .int .i64 offset, .string ⟨text.toArray⟩, .int .i64 now] w
      (AppPost w u.next u.lasts u.room ((appS L[i] offset text (now + u.lasts)).2.text.length) 0 (L.set i (appS L[i] offset text (now + u.lasts)).2)) := by
  cases h1 : withinB offset 0 L[i].text.length with
  | true =>
    obtain ⟨ho0, ho1⟩ := within_true h1
    obtain ⟨o, rfl⟩ := Int.eq_ofNat_of_zero_le ho0
    cases h2 : (L[i].text.drop o == text) with
    | true =>
      have hA : appS L[i] (o : Int) text (now + u.lasts) = (0, L[i]) := by simp only [appS, h1, Int.toNat_natCast, h2, Bool.and_self, if_true]
      rw [hA]
      clear hA hap
      go_enter Try.func18, Try.ntmps18
      go_wp2_with (first
        | (
        go_at_call 50
        go_must (
        refine (hM.out _ _ (hs1.below (by repeat (first | with_reducible exact Below.refl _ _ | with_reducible assumption | (with_reducible refine Below.alloc ?_ ?h _; case h => (first | omega | (simp <;> omega))) | (with_reducible refine Below.setCell ?_ ?h _; case h => (first | omega | (simp <;> omega))) | with_reducible refine Below.drew ?_ | with_reducible refine below_dn ?_ _))) (by simp only [als]; omega)).mono ?_
        rintro e w1 ⟨v1, rfl, ho1, hb1⟩
        obtain ⟨k1, f1, z1⟩ := after hb1
        simp only [als] at k1 f1 z1
        obtain ⟨A1, cap1, rfl⟩ := ho1.val
        have os := (Own.sl Sess.cells_len ho1)
        obtain ⟨_, _, _, hlen, _, _⟩ := os.form
        obtain ⟨b, off, rfl, hbb, c0, c1, c2, c3, c4⟩ := os.sess hlt
        replace ho1 := ho1.more (base' := w.heap.size + 2) (by simp)
        have hg1 := ho1.gt b rfl
        have hne1 : b ≠ w.heap.size := by omega
        have hne2 : b ≠ w.heap.size + 1 := by omega
        have y1 : w.heap.size + 1 < w1.heap.size := by omega
        have y2 : w.heap.size < w1.heap.size := by omega
        have hx : Below w.heap.size w w1 := Below.trans (by repeat (first | with_reducible exact Below.refl _ _ | with_reducible assumption | (with_reducible refine Below.alloc ?_ ?h _; case h => (first | omega | (simp <;> omega))) | (with_reducible refine Below.setCell ?_ ?h _; case h => (first | omega | (simp <;> omega))) | with_reducible refine Below.drew ?_ | with_reducible refine below_dn ?_ _)) (hb1.mono (by simp only [als]; omega))
        have : w1.cell? ⟨w.heap.size + 1, 0, none⟩ = some (.slice none 0 0) := (by simp [k1, go_sem]); have : w1.cell? ⟨w.heap.size + 1, 1, none⟩ = some (.int .i64 0) := (by simp [k1, go_sem]); have : w1.cell? ⟨w.heap.size + 1, 2, none⟩ = some (.int .i64 0) := (by simp [k1, go_sem]); have : w1.cell? ⟨w.heap.size + 1, 3, none⟩ = some (.int .i64 0) := (by simp [k1, go_sem])
        have : ∀ o, w1.frozen? ⟨w.heap.size + 1, o, none⟩ = false := fun o => (by rw [f1 _ _ (by omega)]; simp [fz_alc, fz_out])
        have : w1.cell? ⟨w.heap.size, 0, none⟩ = some v := (by simp [k1, go_sem]); have : w1.cell? ⟨w.heap.size, 1, none⟩ = some (.int .i64 u.next) := (by simp [k1, go_sem]); have : w1.cell? ⟨w.heap.size, 2, none⟩ = some (.int .i64 u.lasts) := (by simp [k1, go_sem]); have : w1.cell? ⟨w.heap.size, 3, none⟩ = some (.int .i64 u.room) := (by simp [k1, go_sem])
        have : ∀ o, w1.frozen? ⟨w.heap.size, o, none⟩ = false := fun o => (by rw [f1 _ _ (by omega)]; simp [fz_alc, fz_out])
        clear k1 f1))
        | (go_at_call 47; refine (within_any _ _ _ _).mono ?_; rintro e w' ⟨rfl, rfl⟩))
      go_region
      go_wp2_with fail
      refine bodyPost_ret (v := .tuple #[.agg #[.slice (some ⟨b, off, none⟩) L.length cap1, .int .i64 u.next, .int .i64 u.lasts, .int .i64 u.room], .int .i64 L[i].text.length, .int .i64 0]) ?_ rfl ⟨_, rfl, ?_, (by repeat (first | with_reducible exact Below.refl _ _ | with_reducible assumption | (with_reducible refine Below.alloc ?_ ?h _; case h => (first | omega | (simp <;> omega))) | (with_reducible refine Below.setCell ?_ ?h _; case h => (first | omega | (simp <;> omega))) | with_reducible refine Below.drew ?_ | with_reducible refine below_dn ?_ _))⟩
      · simp [results, Try.results18, go_sem, *]
      · exact (Own.more (base := w.heap.size + 2) (by repeat (first | with_reducible exact (ho1.to (List.set_getElem_self hlt).symm) | (with_reducible refine Own.setB ?_ ?h _; case h => (first | omega | (simp <;> omega))) | with_reducible refine Own.allc ?_ _ | with_reducible refine Own.dn ?_ _ | with_reducible refine Own.d1 ?_)) (by omega))
    | false =>
      have hne : ¬ (withinB (o : Int) 0 L[i].text.length && List.drop (Int.toNat o) L[i].text == text) = true := by
        rw [h1, Int.toNat_natCast, h2]; simp
      by_cases h3 : (o : Int) = L[i].text.length
      · by_cases h4 : L[i].size < (L[i].text.length : Int) + text.length
        · exfalso
          simp only [appS, if_neg hne, if_pos h3, if_pos h4] at hap
          omega
        · have hA : appS L[i] (o : Int) text (now + u.lasts) = (0, { L[i] with text := L[i].text ++ text, till := now + u.lasts }) := by
            simp only [appS, if_neg hne, if_pos h3, if_neg h4]
          rw [hA]
          clear hA hap hne
          obtain rfl : o = L[i].text.length := by omega
          have h4' : (L[i].text.length : Int) + text.length ≤ L[i].size := by omega
          have hte : text.isEmpty = false := by
            rw [List.drop_length] at h2
            cases text with
            | nil => simp at h2
            | cons a t => rfl
          clear h3 h4 h2
          go_enter Try.func18, Try.ntmps18
          go_wp2_with (first
        | (
        go_at_call 50
        go_must (
        refine (hM.out _ _ (hs1.below (by repeat (first | with_reducible exact Below.refl _ _ | with_reducible assumption | (with_reducible refine Below.alloc ?_ ?h _; case h => (first | omega | (simp <;> omega))) | (with_reducible refine Below.setCell ?_ ?h _; case h => (first | omega | (simp <;> omega))) | with_reducible refine Below.drew ?_ | with_reducible refine below_dn ?_ _))) (by simp only [als]; omega)).mono ?_
        rintro e w1 ⟨v1, rfl, ho1, hb1⟩
        obtain ⟨k1, f1, z1⟩ := after hb1
        simp only [als] at k1 f1 z1
        obtain ⟨A1, cap1, rfl⟩ := ho1.val
        have os := (Own.sl Sess.cells_len ho1)
        obtain ⟨_, _, _, hlen, _, _⟩ := os.form
        obtain ⟨b, off, rfl, hbb, c0, c1, c2, c3, c4⟩ := os.sess hlt
        replace ho1 := ho1.more (base' := w.heap.size + 2) (by simp)
        have hg1 := ho1.gt b rfl
        have hne1 : b ≠ w.heap.size := by omega
        have hne2 : b ≠ w.heap.size + 1 := by omega
        have y1 : w.heap.size + 1 < w1.heap.size := by omega
        have y2 : w.heap.size < w1.heap.size := by omega
        have hx : Below w.heap.size w w1 := Below.trans (by repeat (first | with_reducible exact Below.refl _ _ | with_reducible assumption | (with_reducible refine Below.alloc ?_ ?h _; case h => (first | omega | (simp <;> omega))) | (with_reducible refine Below.setCell ?_ ?h _; case h => (first | omega | (simp <;> omega))) | with_reducible refine Below.drew ?_ | with_reducible refine below_dn ?_ _)) (hb1.mono (by simp only [als]; omega))
        have : w1.cell? ⟨w.heap.size + 1, 0, none⟩ = some (.slice none 0 0) := (by simp [k1, go_sem]); have : w1.cell? ⟨w.heap.size + 1, 1, none⟩ = some (.int .i64 0) := (by simp [k1, go_sem]); have : w1.cell? ⟨w.heap.size + 1, 2, none⟩ = some (.int .i64 0) := (by simp [k1, go_sem]); have : w1.cell? ⟨w.heap.size + 1, 3, none⟩ = some (.int .i64 0) := (by simp [k1, go_sem])
        have : ∀ o, w1.frozen? ⟨w.heap.size + 1, o, none⟩ = false := fun o => (by rw [f1 _ _ (by omega)]; simp [fz_alc, fz_out])
        have : w1.cell? ⟨w.heap.size, 0, none⟩ = some v := (by simp [k1, go_sem]); have : w1.cell? ⟨w.heap.size, 1, none⟩ = some (.int .i64 u.next) := (by simp [k1, go_sem]); have : w1.cell? ⟨w.heap.size, 2, none⟩ = some (.int .i64 u.lasts) := (by simp [k1, go_sem]); have : w1.cell? ⟨w.heap.size, 3, none⟩ = some (.int .i64 u.room) := (by simp [k1, go_sem])
        have : ∀ o, w1.frozen? ⟨w.heap.size, o, none⟩ = false := fun o => (by rw [f1 _ _ (by omega)]; simp [fz_alc, fz_out])
        obtain ⟨g', cap', hv', _, _, _, _, _, hfz⟩ := ho1.form (by omega)
        obtain ⟨rfl, rfl, rfl⟩ : b = g' ∧ off = 0 ∧ cap1 = cap' := by
          simp only [Value.slice.injEq, Option.some.injEq, Addr.mk.injEq, and_true, true_and] at hv'
          exact ⟨hv'.1.1, hv'.1.2, hv'.2⟩
        rw [Nat.zero_add] at c0 c1 c2 c3 c4
        clear k1 f1 hv'))
        | (go_at_call 47; refine (within_any _ _ _ _).mono ?_; rintro e w' ⟨rfl, rfl⟩))
          go_quiet (fail)
          go_wp2_with fail
          go_region
          go_wp2_with fail
          refine bodyPost_ret (v := .tuple #[.agg #[.slice (some ⟨b, 0, none⟩) L.length cap1, .int .i64 u.next, .int .i64 u.lasts, .int .i64 u.room], .int .i64 (L[i].text ++ text).length, .int .i64 0]) ?_ rfl ⟨_, rfl, ?_, ?_⟩
          · simp [results, Try.results18, go_sem, *]
          · have o1 : Own Sess.cells 44 5 (((((w1.setCell ⟨w.heap.size, 0, none⟩ (.slice (some ⟨b, 0, none⟩) L.length cap1)).setCell ⟨w.heap.size, 1, none⟩ (.int .i64 u.next)).setCell ⟨w.heap.size, 2, none⟩ (.int .i64 u.lasts)).setCell ⟨w.heap.size, 3, none⟩ (.int .i64 u.room)).drewN nq) (w.heap.size + 2) (.slice (some ⟨b, 0, none⟩) L.length cap1) L := by repeat (first | with_reducible exact ho1 | (with_reducible refine Own.setB ?_ ?h _; case h => (first | omega | (simp <;> omega))) | with_reducible refine Own.allc ?_ _ | with_reducible refine Own.dn ?_ _ | with_reducible refine Own.d1 ?_)
            have o2 := Own.setOne Sess.cells_len o1 hlt (j := 2) (u := .string ⟨(L[i].text ++ text).toArray⟩) (a := { L[i] with text := L[i].text ++ text }) (by omega) rfl
            have o3 := Own.setOne Sess.cells_len o2 (k := i) (by rw [List.length_set]; exact hlt) (j := 4) (u := .int .i64 (now + u.lasts)) (a := { L[i] with text := L[i].text ++ text, till := now + u.lasts }) (by omega) (by simp [Sess.cells])
            rw [List.set_set] at o3
            exact (Own.more (base := w.heap.size + 2) (by repeat (first | with_reducible exact o3 | (with_reducible refine Own.setB ?_ ?h _; case h => (first | omega | (simp <;> omega))) | with_reducible refine Own.allc ?_ _ | with_reducible refine Own.dn ?_ _ | with_reducible refine Own.d1 ?_)) (by omega))
          · have hbb' : w.heap.size ≤ b := by omega
            exact (by repeat (first | with_reducible exact Below.refl _ _ | with_reducible assumption | (with_reducible refine Below.alloc ?_ ?h _; case h => (first | omega | (simp <;> omega))) | (with_reducible refine Below.setCell ?_ ?h _; case h => (first | omega | (simp <;> omega))) | with_reducible refine Below.drew ?_ | with_reducible refine below_dn ?_ _))
      · exfalso
        simp only [appS, if_neg hne, if_neg h3] at hap
        omega
  | false =>
    exfalso
    have hne : ¬ (withinB offset 0 L[i].text.length && List.drop offset.toNat L[i].text == text) = true := by rw [h1]; simp
    by_cases h3 : offset = L[i].text.length
    · rw [h3] at h1
      have := within_mk (n := (L[i].text.length : Int)) (a := 0) (b := L[i].text.length) (by omega) (by omega)
      rw [this] at h1
      cases h1
    · simp only [appS, if_neg hne, if_neg h3] at hap
      omega

theorem u_bounds {u : Upl} {now : Int} (h : beginErr u now = 0) : (0 ≤ now ∧ now ≤ 1099511627776) ∧ (1 ≤ u.lasts ∧ u.lasts ≤ 1000000) ∧ (0 ≤ u.room ∧ u.room ≤ 100000) ∧ (1 ≤ u.next ∧ u.next ≤ 1099511627776) ∧ ∀ s ∈ u.sess, sessErr u.next s = 0 := by
  obtain ⟨h0, h1⟩ := begin_zero h
  obtain ⟨a, b, c⟩ := upHead_true (upErr_zero h0).1
  exact ⟨within_true h1, a, b, c, firstErr_zero (upErr_zero h0).2.2.1⟩
theorem sess_bounds {next : Int} {s : Sess} (h : sessErr next s = 0) : (1 ≤ s.number ∧ s.number ≤ next - 1) ∧ (0 ≤ s.size ∧ s.size ≤ 300) ∧ (0 ≤ s.till ∧ s.till ≤ 2199023255552) ∧ isName s.who = true ∧ (s.text.length : Int) ≤ s.size := by
  unfold sessErr at h
  split at h
  · rename_i hw
    simp only [Bool.and_eq_true] at hw
    split at h
    · rename_i hn
      split at h
      · omega
      · exact ⟨within_true hw.1.1, within_true hw.1.2, within_true hw.2, hn, by omega⟩
    · omega
  · omega

theorem append_ok (v : Value) (u : Upl) (who : Str) (number offset : Int) (text : Str) (now : Int) (w : World) (B : Nat) (hs : Sl Sess.cells 5 w B v u.sess) (hB : B ≤ w.heap.size) (ho : ∀ s ∈ u.sess, s.ok) (hw : who.length ≤ 9223372036854775807) (htx : text.length ≤ 9223372036854775000)
    (he : mineErr u who number now = 0) (i : Nat) (hi : mineAt u who number now = some i) (hap : (appS ((sweptL u.sess now)[i]'(mine_lt hi)) offset text (now + u.lasts)).1 = 0) :
    Calls Try.prog 18 #[.agg #[v, .int .i64 u.next, .int .i64 u.lasts, .int .i64 u.room], .string ⟨who.toArray⟩, .int .i64 number, .int .i64 offset, .string ⟨text.toArray⟩, .int .i64 now] w
      (AppPost w u.next u.lasts u.room ((appS ((sweptL u.sess now)[i]'(mine_lt hi)) offset text (now + u.lasts)).2.text.length) 0 ((sweptL u.sess now).set i (appS ((sweptL u.sess now)[i]'(mine_lt hi)) offset text (now + u.lasts)).2)) := by
  obtain ⟨h0, _, _⟩ := mine_zero he
  obtain ⟨a, b, c, d, e⟩ := u_bounds h0
  have hsb := sess_bounds (e _ (List.mem_filter.1 (List.getElem_mem (mine_lt hi))).1)
  exact append_one v u who number offset text now w i (sweptL u.sess now) (mine_lt hi) (hs.more hB)
    (Lib.hid fun (v : Value) (W : World) (h1 : Sl Sess.cells 5 W w.heap.size v u.sess) (h2 : w.heap.size ≤ W.heap.size) => mine_ok v u who number now W w.heap.size h1 h2 ho hw he i hi)
    (by omega) htx a.1 a.2 b.1 b.2 hap
end Go.Proofs.Ytdcigjpanpcaaaa
