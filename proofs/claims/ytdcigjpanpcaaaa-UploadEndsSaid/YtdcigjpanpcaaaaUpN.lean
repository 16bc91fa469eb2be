/- Uploads: Open that succeeds. -/
import Derived.Test.YtdcigjpanpcaaaaUpM
namespace Go.Proofs.Ytdcigjpanpcaaaa
open Go.RowKit

theorem sl_one {α : Type} {c : α → List Value} {sz E : Nat} (w : World) (a : α) {n : Nat} (hn : n = w.heap.size) : Sl c sz (w.alloc (.cells (c a).toArray E)) (w.heap.size + 1) (.slice (some ⟨n, 0, none⟩) 1 1) [a] := by
  subst hn
  refine ⟨some ⟨w.heap.size, 0, none⟩, 1, rfl, Nat.le_refl _, by unfold maxLen; omega, fun k hk => ⟨w.heap.size, 0, rfl, by omega, fun j u hu => ?_⟩⟩
  have hk0 : k = 0 := by simp at hk; exact hk
  subst hk0
  rw [show 0 + 0 * sz + j = j from by omega, World.cell?_alloc_new]
  simpa using hu

set_option maxRecDepth 100000 in
set_option maxHeartbeats 8000000 in
theorem open_two (v : Value) (u : Upl) (who : Str) (size now : Int) (w : World) (L : List Sess) (hs1 : Sl Sess.cells 5 w w.heap.size v u.sess) (hw : who.length ≤ 9223372036854775807)
    (hM : Hid (∀ (v : Value) (W : World), Sl Sess.cells 5 W w.heap.size v u.sess → w.heap.size ≤ W.heap.size → Calls Try.prog 45 #[.agg #[v, .int .i64 u.next, .int .i64 u.lasts, .int .i64 u.room], .int .i64 now] W fun e w' => ∃ v', e = .returned (.tuple #[.agg #[v', .int .i64 u.next, .int .i64 u.lasts, .int .i64 u.room], .int .i64 0]) ∧ Own Sess.cells 44 5 w' W.heap.size v' L ∧ Below W.heap.size W w'))
    (hn0 : 0 ≤ now) (hn1 : now ≤ 1099511627776) (hl0 : 1 ≤ u.lasts) (hl1 : u.lasts ≤ 1000000) (hx0 : 1 ≤ u.next) (hx1 : u.next ≤ 1099511627776) (hL : L.length ≤ 20) (ho0 : 0 ≤ openOf L who) (ho1 : openOf L who ≤ 6000)
    (h1 : isName who = true) (h2 : withinB size 0 300 = true) (h3 : (u.next == 1099511627776) = false) (h4 : ((L.length : Int) == 20) = false) (h5 : openOf L who + size ≤ u.room) :
    Calls Try.prog 14 #[.agg #[v, .int .i64 u.next, .int .i64 u.lasts, .int .i64 u.room], .string ⟨who.toArray⟩, .int .i64 size, .int .i64 now] w
      (AppPost w (u.next + 1) u.lasts u.room u.next 0 (L ++ [⟨u.next, who, [], size, now + u.lasts⟩])) := by
      obtain ⟨hz0, hz1⟩ := within_true h2
      go_enter Try.func14, Try.ntmps14
      go_wp2_with (first
      | (go_at_call 45
         go_must (
         refine (hM.out _ _ (hs1.below (by repeat (first | with_reducible exact Below.refl _ _ | with_reducible assumption | (with_reducible refine Below.alloc ?_ ?h _; case h => (first | omega | (simp <;> omega))) | (with_reducible refine Below.setCell ?_ ?h _; case h => (first | omega | (simp <;> omega))) | with_reducible refine Below.drew ?_ | with_reducible refine below_dn ?_ _))) (by simp only [als]; omega)).mono ?_
         rintro e w1 ⟨v1, rfl, hown, hb1⟩
         obtain ⟨k1, f1, z1⟩ := after hb1
         simp only [als] at k1 f1 z1
         obtain ⟨A1, cap1, rfl⟩ := hown.val
         have hx : Below w.heap.size w w1 := Below.trans (by repeat (first | with_reducible exact Below.refl _ _ | with_reducible assumption | (with_reducible refine Below.alloc ?_ ?h _; case h => (first | omega | (simp <;> omega))) | (with_reducible refine Below.setCell ?_ ?h _; case h => (first | omega | (simp <;> omega))) | with_reducible refine Below.drew ?_ | with_reducible refine below_dn ?_ _)) (hb1.mono (by simp only [als]; omega))
         have y1 : w.heap.size + 1 < w1.heap.size := by omega
         have y2 : w.heap.size < w1.heap.size := by omega
         have : w1.cell? ⟨w.heap.size + 1, 0, none⟩ = some (.slice none 0 0) := (by simp [k1, go_sem]); have : w1.cell? ⟨w.heap.size + 1, 1, none⟩ = some (.int .i64 0) := (by simp [k1, go_sem]); have : w1.cell? ⟨w.heap.size + 1, 2, none⟩ = some (.int .i64 0) := (by simp [k1, go_sem]); have : w1.cell? ⟨w.heap.size + 1, 3, none⟩ = some (.int .i64 0) := (by simp [k1, go_sem])
         have : ∀ o, w1.frozen? ⟨w.heap.size + 1, o, none⟩ = false := fun o => (by rw [f1 _ _ (by omega)]; simp [fz_alc, fz_out])
         have : w1.cell? ⟨w.heap.size, 0, none⟩ = some v := (by simp [k1, go_sem]); have : w1.cell? ⟨w.heap.size, 1, none⟩ = some (.int .i64 u.next) := (by simp [k1, go_sem]); have : w1.cell? ⟨w.heap.size, 2, none⟩ = some (.int .i64 u.lasts) := (by simp [k1, go_sem]); have : w1.cell? ⟨w.heap.size, 3, none⟩ = some (.int .i64 u.room) := (by simp [k1, go_sem])
         have : ∀ o, w1.frozen? ⟨w.heap.size, o, none⟩ = false := fun o => (by rw [f1 _ _ (by omega)]; simp [fz_alc, fz_out])
         clear k1 f1))
      | (go_at_call 46; refine (isName_any _ _ hw).mono ?_; rintro e w' ⟨rfl, rfl⟩)
      | (go_at_call 47; refine (within_any _ _ _ _).mono ?_; rintro e w' ⟨rfl, rfl⟩))
      obtain ⟨W, hW⟩ : ∃ W, W = (((w1.setCell ⟨w.heap.size, 0, none⟩ (.slice A1 L.length cap1)).setCell ⟨w.heap.size, 1, none⟩ (.int .i64 u.next)).setCell ⟨w.heap.size, 2, none⟩ (.int .i64 u.lasts)).setCell ⟨w.heap.size, 3, none⟩ (.int .i64 u.room) := ⟨_, rfl⟩
      rw [← hW]
      have hWs : W.heap.size = w1.heap.size := by rw [hW]; simp
      have hWB : Below w.heap.size w W := by rw [hW]; exact (by repeat (first | with_reducible exact Below.refl _ _ | with_reducible assumption | (with_reducible refine Below.alloc ?_ ?h _; case h => (first | omega | (simp <;> omega))) | (with_reducible refine Below.setCell ?_ ?h _; case h => (first | omega | (simp <;> omega))) | with_reducible refine Below.drew ?_ | with_reducible refine below_dn ?_ _))
      have hown2 := hown.more (base' := w.heap.size + 2) (by simp)
      have hWo : Own Sess.cells 44 5 W (w.heap.size + 2) (.slice A1 L.length cap1) L := by
        rw [hW]
        repeat (first | with_reducible exact hown2 | (with_reducible refine Own.setB ?_ ?h _; case h => (first | omega | (simp <;> omega))) | with_reducible refine Own.allc ?_ _ | with_reducible refine Own.dn ?_ _ | with_reducible refine Own.d1 ?_)
      have e0 : W.cell? ⟨w.heap.size, 0, none⟩ = some (.slice A1 L.length cap1) := by rw [hW]; simp [*, go_sem]
      have e1 : W.cell? ⟨w.heap.size, 1, none⟩ = some (.int .i64 u.next) := by rw [hW]; simp [*, go_sem]
      have e2 : W.cell? ⟨w.heap.size, 2, none⟩ = some (.int .i64 u.lasts) := by rw [hW]; simp [*, go_sem]
      have e3 : W.cell? ⟨w.heap.size, 3, none⟩ = some (.int .i64 u.room) := by rw [hW]; simp [*, go_sem]
      have ef : ∀ o, W.frozen? ⟨w.heap.size, o, none⟩ = false := fun o => by rw [hW]; simp [*, go_sem]
      have q0 : W.cell? ⟨w.heap.size + 1, 0, none⟩ = some (.slice none 0 0) := by rw [hW]; simp [*, go_sem]
      have q1 : W.cell? ⟨w.heap.size + 1, 1, none⟩ = some (.int .i64 0) := by rw [hW]; simp [*, go_sem]
      have q2 : W.cell? ⟨w.heap.size + 1, 2, none⟩ = some (.int .i64 0) := by rw [hW]; simp [*, go_sem]
      have q3 : W.cell? ⟨w.heap.size + 1, 3, none⟩ = some (.int .i64 0) := by rw [hW]; simp [*, go_sem]
      have qf : ∀ o, W.frozen? ⟨w.heap.size + 1, o, none⟩ = false := fun o => by rw [hW]; simp [*, go_sem]
      have hsum : IntKind.i64.wrap (openOf L who + size) = openOf L who + size := IntWalk.i64_in _ (by omega)
      have hWl := Own.sl Sess.cells_len hWo
      clear hW hb1 hx hown hown2
      go_region_held3 (fun w' => w'.cell? ⟨w.heap.size, 0, none⟩ = some (.slice A1 L.length cap1) ∧ w'.cell? ⟨w.heap.size, 3, none⟩ = some (.int .i64 u.room) ∧ Below W.heap.size W w')
        (first
          | exact ⟨e0, e3, (Below.refl _ W).drew⟩
          | exact ⟨bcs hb2 (by rw [World.drew_heap']; omega) e0, bcs hb2 (by rw [World.drew_heap']; omega) e3, (Below.refl _ W).drew.trans hb2⟩)
        (first
          | (go_at_call 48; refine (open_any _ L _ _ W.heap.size (hWl.below (Below.refl _ W).drew) (Nat.le_refl _)).mono ?_; rintro e w2 ⟨rfl, hb2⟩))
      rename_i hS
      obtain ⟨_, _, hb3⟩ := hS
      obtain ⟨k3, f3, z3⟩ := after hb3
      have : w2.cell? ⟨w.heap.size, 0, none⟩ = some (.slice A1 L.length cap1) := by rw [k3 _ _ (by omega)]; exact e0
      have : w2.cell? ⟨w.heap.size, 1, none⟩ = some (.int .i64 u.next) := by rw [k3 _ _ (by omega)]; exact e1
      have : w2.cell? ⟨w.heap.size, 2, none⟩ = some (.int .i64 u.lasts) := by rw [k3 _ _ (by omega)]; exact e2
      have : ∀ o, w2.frozen? ⟨w.heap.size, o, none⟩ = false := fun o => by rw [f3 _ _ (by omega)]; exact ef o
      have : w2.cell? ⟨w.heap.size + 1, 0, none⟩ = some (.slice none 0 0) := by rw [k3 _ _ (by omega)]; exact q0
      have : w2.cell? ⟨w.heap.size + 1, 1, none⟩ = some (.int .i64 0) := by rw [k3 _ _ (by omega)]; exact q1
      have : w2.cell? ⟨w.heap.size + 1, 2, none⟩ = some (.int .i64 0) := by rw [k3 _ _ (by omega)]; exact q2
      have : w2.cell? ⟨w.heap.size + 1, 3, none⟩ = some (.int .i64 0) := by rw [k3 _ _ (by omega)]; exact q3
      have : ∀ o, w2.frozen? ⟨w.heap.size + 1, o, none⟩ = false := fun o => by rw [f3 _ _ (by omega)]; exact qf o
      have hy : Below w.heap.size w w2 := hWB.trans (hb3.mono (by omega))
      have y3 : w.heap.size + 1 < w2.heap.size := by omega
      have y4 : w.heap.size < w2.heap.size := by omega
      have hO2 : Own Sess.cells 44 5 w2 (w.heap.size + 2) (.slice A1 L.length cap1) L := Own.below hWo hb3
      have hO3 : Own Sess.cells 44 5 ((w2.setCell ⟨w.heap.size, 1, none⟩ (.int .i64 (u.next + 1))).alloc (.cells #[.int .i64 u.next, .string ⟨who.toArray⟩, .string ⟨#[]⟩, .int .i64 size, .int .i64 (now + u.lasts)] 44)) (w.heap.size + 2) (.slice A1 L.length cap1) L := by
        repeat (first | with_reducible exact hO2 | (with_reducible refine Own.setB ?_ ?h _; case h => (first | omega | (simp <;> omega))) | with_reducible refine Own.allc ?_ _ | with_reducible refine Own.dn ?_ _ | with_reducible refine Own.d1 ?_)
      have hS3 : Sl Sess.cells 5 ((w2.setCell ⟨w.heap.size, 1, none⟩ (.int .i64 (u.next + 1))).alloc (.cells #[.int .i64 u.next, .string ⟨who.toArray⟩, .string ⟨#[]⟩, .int .i64 size, .int .i64 (now + u.lasts)] 44)) ((w2.setCell ⟨w.heap.size, 1, none⟩ (.int .i64 (u.next + 1))).heap.size + 1) (.slice (some ⟨w2.heap.size, 0, none⟩) 1 1) [⟨u.next, who, [], size, now + u.lasts⟩] :=
        sl_one _ (⟨u.next, who, [], size, now + u.lasts⟩ : Sess) (by simp)
      have hcap : L.length + ([(⟨u.next, who, [], size, now + u.lasts⟩ : Sess)]).length ≤ maxLen := by unfold maxLen; simp; omega
      have HO3 := Lib.hid hO3
      have HS3 := Lib.hid hS3
      have HC := Lib.hid hcap
      clear k3 f3 ef qf hsum hO2 hO3 hS3 hWo hWl hcap
      go_wp2_with (
        at_builtin
        refine wpList_app rfl _ _ rfl Sess.cells_len Sess.one elSess rfl rfl HO3.out HS3.out (by simp; omega) HC.out (by simp; omega) ?_
        intro v4 w4 h4o h4b _
        obtain ⟨k4, f4, z4⟩ := after' h4b
        obtain ⟨A4, cap4, rfl⟩ := h4o.val
        have : w4.cell? ⟨w.heap.size, 0, none⟩ = some (.slice A1 L.length cap1) := by rw [k4 _ _ (by omega)]; simp [*, go_sem]
        have : w4.cell? ⟨w.heap.size, 1, none⟩ = some (.int .i64 (u.next + 1)) := by rw [k4 _ _ (by omega)]; simp [*, go_sem]
        have : w4.cell? ⟨w.heap.size, 2, none⟩ = some (.int .i64 u.lasts) := by rw [k4 _ _ (by omega)]; simp [*, go_sem]
        have : w4.cell? ⟨w.heap.size, 3, none⟩ = some (.int .i64 u.room) := by rw [k4 _ _ (by omega)]; simp [*, go_sem]
        have : ∀ o, w4.frozen? ⟨w.heap.size, o, none⟩ = false := fun o => by rw [f4 _ _ (by omega)]; simp [*, go_sem]
        have : w4.cell? ⟨w.heap.size + 1, 0, none⟩ = some (.slice none 0 0) := (by rw [k4 _ _ (by omega)]; simp [*, go_sem]); have : w4.cell? ⟨w.heap.size + 1, 1, none⟩ = some (.int .i64 0) := (by rw [k4 _ _ (by omega)]; simp [*, go_sem]); have : w4.cell? ⟨w.heap.size + 1, 2, none⟩ = some (.int .i64 0) := (by rw [k4 _ _ (by omega)]; simp [*, go_sem]); have : w4.cell? ⟨w.heap.size + 1, 3, none⟩ = some (.int .i64 0) := (by rw [k4 _ _ (by omega)]; simp [*, go_sem])
        have : ∀ o, w4.frozen? ⟨w.heap.size + 1, o, none⟩ = false := fun o => (by rw [f4 _ _ (by omega)]; simp [*, go_sem])
        have hy4 : Below w.heap.size w w4 := Below.trans (by repeat (first | with_reducible exact Below.refl _ _ | with_reducible assumption | (with_reducible refine Below.alloc ?_ ?h _; case h => (first | omega | (simp <;> omega))) | (with_reducible refine Below.setCell ?_ ?h _; case h => (first | omega | (simp <;> omega))) | with_reducible refine Below.drew ?_ | with_reducible refine below_dn ?_ _)) (h4b.mono (by omega))
        have z5 : w2.heap.size + 1 ≤ w4.heap.size := by simpa using z4
        have y5 : w.heap.size + 1 < w4.heap.size := by omega
        have y6 : w.heap.size < w4.heap.size := by omega
        clear k4 f4 z4 h4b)
      refine bodyPost_ret (v := .tuple #[.agg #[.slice A4 (L ++ [(⟨u.next, who, [], size, now + u.lasts⟩ : Sess)]).length cap4, .int .i64 (u.next + 1), .int .i64 u.lasts, .int .i64 u.room], .int .i64 u.next, .int .i64 0]) ?_ rfl ⟨_, rfl, ?_, (by repeat (first | with_reducible exact Below.refl _ _ | with_reducible assumption | (with_reducible refine Below.alloc ?_ ?h _; case h => (first | omega | (simp <;> omega))) | (with_reducible refine Below.setCell ?_ ?h _; case h => (first | omega | (simp <;> omega))) | with_reducible refine Below.drew ?_ | with_reducible refine below_dn ?_ _))⟩
      · simp [results, Try.results14, go_sem, *]
      · exact (Own.more (base := w.heap.size + 2) (by repeat (first | with_reducible exact h4o | (with_reducible refine Own.setB ?_ ?h _; case h => (first | omega | (simp <;> omega))) | with_reducible refine Own.allc ?_ _ | with_reducible refine Own.dn ?_ _ | with_reducible refine Own.d1 ?_)) (by omega))

theorem sumOf {l : List Sess} {next : Int} (h : ∀ s ∈ l, sessErr next s = 0) (now : Int) (who : Str) (hl : l.length ≤ 20) : 0 ≤ openOf (sweptL l now) who ∧ openOf (sweptL l now) who ≤ 6000 := by
  have hlen : (sweptL l now).length ≤ 20 := Nat.le_trans (List.length_filter_le _ _) hl
  have := openOf_bd (l := sweptL l now) who (fun s hs => (sess_bounds (h s (List.mem_filter.1 hs).1)).2.1) (by omega)
  omega

theorem openUp_any (v : Value) (u : Upl) (who : Str) (size now : Int) (w : World) (B : Nat) (hs : Sl Sess.cells 5 w B v u.sess) (hB : B ≤ w.heap.size) (ho : ∀ s ∈ u.sess, s.ok) (hw : who.length ≤ 9223372036854775807) :
    Calls Try.prog 14 #[.agg #[v, .int .i64 u.next, .int .i64 u.lasts, .int .i64 u.room], .string ⟨who.toArray⟩, .int .i64 size, .int .i64 now] w
      (AppPost w (upRes (openErr u who size now) (openU u who size now)).next (upRes (openErr u who size now) (openU u who size now)).lasts (upRes (openErr u who size now) (openU u who size now)).room (openN u who size now) (openErr u who size now) (upRes (openErr u who size now) (openU u who size now)).sess) := by
  by_cases h0 : beginErr u now = 0
  · obtain ⟨a, b, c, d, e⟩ := u_bounds h0
    have hl := (upErr_zero (begin_zero h0).1).2.1
    obtain ⟨s0, s1⟩ := sumOf e now who hl
    have hlen : (sweptL u.sess now).length ≤ 20 := Nat.le_trans (List.length_filter_le _ _) hl
    have hM := Lib.hid (fun (v : Value) (W : World) (h1 : Sl Sess.cells 5 W w.heap.size v u.sess) (h2 : w.heap.size ≤ W.heap.size) => begin_ok v u now W w.heap.size h1 h2 ho h0)
    have hE : openErr u who size now = if isName who then if withinB size 0 300 && u.next != 1099511627776 then if (sweptL u.sess now).length = 20 then 2 else if u.room < openOf (sweptL u.sess now) who + size then 10 else 0 else 3 else 1 := by
      rw [openErr, if_pos h0]
    by_cases hz : openErr u who size now = 0
    · rw [openN, if_pos hz, hz]
      rw [hz] at hE
      split at hE
      · rename_i h1
        split at hE
        · rename_i h2
          simp only [Bool.and_eq_true, bne_iff_ne] at h2
          split at hE
          · omega
          · rename_i h4
            split at hE
            · omega
            · rename_i h5
              exact open_two v u who size now w (sweptL u.sess now) (hs.more hB) hw hM a.1 a.2 b.1 b.2 d.1 d.2 hlen s0 s1 h1 h2.1 (by simpa using h2.2) (by rw [beq_eq_false_iff_ne]; omega) (by omega)
        · omega
      · omega
    · rw [openN, if_neg hz, show upRes (openErr u who size now) (openU u who size now) = noUp from if_neg hz]
      exact open_one v u who size now w (sweptL u.sess now) (hs.more hB) hw hM s0 s1 _ hE hz
  · have hE : openErr u who size now = beginErr u now := by rw [openErr, if_neg h0]
    rw [openN, hE, if_neg h0, show upRes (beginErr u now) (openU u who size now) = noUp from if_neg h0]
    exact open_err v u who size now w (hs.more hB) ho h0
end Go.Proofs.Ytdcigjpanpcaaaa
