/- Uploads: begin whole, Sweep, IndexFunc at somebody's session, mine, Query. -/
import Derived.Test.YtdcigjpanpcaaaaUpF
namespace Go.Proofs.Ytdcigjpanpcaaaa
open Go.RowKit

def noUp : Upl := ⟨[], 0, 0, 0⟩
/-- Uploads after a call, or none. -/
def upRes (e : Int) (u : Upl) : Upl := if e = 0 then u else noUp
def sweptU (u : Upl) (now : Int) : Upl := { u with sess := sweptL u.sess now }

theorem begin_any (v : Value) (u : Upl) (now : Int) (w : World) (B : Nat) (hs : Sl Sess.cells 5 w B v u.sess) (hB : B ≤ w.heap.size) (ho : ∀ s ∈ u.sess, s.ok) :
    Calls Try.prog 45 #[.agg #[v, .int .i64 u.next, .int .i64 u.lasts, .int .i64 u.room], .int .i64 now] w fun e w' => ∃ v', e = .returned (.tuple #[.agg #[v', .int .i64 (upRes (beginErr u now) (sweptU u now)).next, .int .i64 (upRes (beginErr u now) (sweptU u now)).lasts, .int .i64 (upRes (beginErr u now) (sweptU u now)).room], .int .i64 (beginErr u now)]) ∧ Own Sess.cells 44 5 w' w.heap.size v' (upRes (beginErr u now) (sweptU u now)).sess ∧ Below w.heap.size w w' := by
  by_cases h : beginErr u now = 0
  · simp only [upRes, h, if_true]
    exact begin_ok v u now w B hs hB ho h
  · simp only [upRes, if_neg h]
    exact (begin_bad v u now w B hs hB ho h).mono fun e w' ⟨h1, h2⟩ => ⟨_, h1, Own.nil', h2⟩

set_option maxRecDepth 100000 in
set_option maxHeartbeats 1000000 in
theorem sweep_any (v : Value) (u : Upl) (now : Int) (w : World) (B : Nat) (hs : Sl Sess.cells 5 w B v u.sess) (hB : B ≤ w.heap.size) (ho : ∀ s ∈ u.sess, s.ok) :
    Calls Try.prog 20 #[.agg #[v, .int .i64 u.next, .int .i64 u.lasts, .int .i64 u.room], .int .i64 now] w fun e w' => ∃ v', e = .returned (.tuple #[.agg #[v', .int .i64 (upRes (beginErr u now) (sweptU u now)).next, .int .i64 (upRes (beginErr u now) (sweptU u now)).lasts, .int .i64 (upRes (beginErr u now) (sweptU u now)).room], .int .i64 (beginErr u now)]) ∧ Own Sess.cells 44 5 w' w.heap.size v' (upRes (beginErr u now) (sweptU u now)).sess ∧ Below w.heap.size w w' := by
  have hs1 := hs.more hB
  generalize hR : upRes (beginErr u now) (sweptU u now) = R
  have HR := Lib.hid hR
  clear hR
  go_enter Try.func20, Try.ntmps20
  go_wp2_with (
       go_at_call 45
       refine (begin_any _ u _ _ w.heap.size (hs1.below (by repeat (first | with_reducible exact Below.refl _ _ | with_reducible assumption | (with_reducible refine Below.alloc ?_ ?h _; case h => (first | omega | (simp <;> omega))) | (with_reducible refine Below.setCell ?_ ?h _; case h => (first | omega | (simp <;> omega))) | with_reducible refine Below.drew ?_ | with_reducible refine below_dn ?_ _))) (by simp only [als]; omega) ho).mono ?_
       rintro e w1 ⟨v1, rfl, ho1, hb1⟩
       rw [HR.out] at ho1 ⊢
       obtain ⟨k1, f1, z1⟩ := after hb1
       simp only [als] at k1 f1 z1
       obtain ⟨A1, cap1, rfl⟩ := ho1.val
       replace ho1 := ho1.more (base' := w.heap.size + 1 + 1) (by simp)
       have hx : Below w.heap.size w w1 := Below.trans (by repeat (first | with_reducible exact Below.refl _ _ | with_reducible assumption | (with_reducible refine Below.alloc ?_ ?h _; case h => (first | omega | (simp <;> omega))) | (with_reducible refine Below.setCell ?_ ?h _; case h => (first | omega | (simp <;> omega))) | with_reducible refine Below.drew ?_ | with_reducible refine below_dn ?_ _)) (hb1.mono (by simp only [als]; omega))
       have c0 : w1.cell? ⟨w.heap.size + 1, 0, none⟩ = some (.slice none 0 0) := by simp [k1, go_sem]
       have c1 : w1.cell? ⟨w.heap.size + 1, 1, none⟩ = some (.int .i64 0) := by simp [k1, go_sem]
       have c2 : w1.cell? ⟨w.heap.size + 1, 2, none⟩ = some (.int .i64 0) := by simp [k1, go_sem]
       have c3 : w1.cell? ⟨w.heap.size + 1, 3, none⟩ = some (.int .i64 0) := by simp [k1, go_sem]
       have g0 : ∀ o, w1.frozen? ⟨w.heap.size + 1, o, none⟩ = false := fun o => by simp [f1, go_sem])
  refine bodyPost_ret (v := .tuple #[.agg #[.slice A1 R.sess.length cap1, .int .i64 R.next, .int .i64 R.lasts, .int .i64 R.room], .int .i64 (beginErr u now)]) ?_ rfl ⟨_, rfl, ?_, ?_⟩
  · simp [results, Try.results20, go_sem, c0, c1, c2, c3]
  · exact (Own.more (base := w.heap.size + 1 + 1) (by repeat (first | with_reducible exact ho1 | (with_reducible refine Own.setB ?_ ?h _; case h => (first | omega | (simp <;> omega))) | with_reducible refine Own.allc ?_ _ | with_reducible refine Own.dn ?_ _ | with_reducible refine Own.d1 ?_)) (by omega))
  · exact (by repeat (first | with_reducible exact Below.refl _ _ | with_reducible assumption | (with_reducible refine Below.alloc ?_ ?h _; case h => (first | omega | (simp <;> omega))) | (with_reducible refine Below.setCell ?_ ?h _; case h => (first | omega | (simp <;> omega))) | with_reducible refine Below.drew ?_ | with_reducible refine below_dn ?_ _))

set_option maxRecDepth 100000 in
set_option maxHeartbeats 1000000 in
theorem indexF_mine (number : Int) (who : Str) (b0 b1 : Nat) (v : Value) (l : List Sess) (w : World) (B : Nat) (hs : Sl Sess.cells 5 w B v l) (hB : B ≤ w.heap.size) (hn : w.cell? ⟨b0, 0, none⟩ = some (.int .i64 number)) (hn' : w.cell? ⟨b1, 0, none⟩ = some (.string ⟨who.toArray⟩)) (hb0 : b0 < w.heap.size) (hb1 : b1 < w.heap.size) :
    Calls Try.prog 68 #[v, .func (.func 69) #[] #[.pointer (some ⟨b0, 0, none⟩), .pointer (some ⟨b1, 0, none⟩)]] w fun e w' => e = .returned (.int .i64 ((l.findIdx? (isMine number who)).elim (-1) (fun i => (i : Int)))) ∧ Below w.heap.size w w' := by
  obtain ⟨A, cap, rfl, hl, hcap, hcap2⟩ := hs.form
  replace hs := hs.more hB
  go_enter Try.func68, Try.ntmps68
  go_wp2
  go_loopw [5, 8] (fun _ i wr => ∃ k : Nat, k ≤ l.length ∧ i = .int .i64 k ∧ (l.take k).all (fun s => !isMine number who s) = true ∧ Below w.heap.size w wr) (fun _ i _ => l.length - (intOf i).toNat)
  case atStart => exact ⟨0, Nat.zero_le _, rfl, rfl, Below.refl _ _⟩
  case round =>
    obtain ⟨k, hk, rfl, ha, hb⟩ := hrel
    have HA := Lib.hid ha
    clear ha
    have hn1 := bcs hb hb0 hn
    have hn2 := bcs hb hb1 hn'
    have hz := hb.size
    by_cases hlt : k < l.length
    · obtain ⟨b, off, rfl, hB, c0, c1, c2, c3, c4⟩ := (hs.below hb).sess hlt
      cases hp : isMine number who l[k] with
      | true =>
        have HF : Hid (l.findIdx? (isMine number who) = some k) := findIdx_hit hlt HA.out hp
        go_wp2_with (go_at_call 69; refine (mineC_any _ _ _ _ _ _ hn1 hn2 (by omega) (by omega)).mono ?_; rintro e w1 ⟨rfl, hb1⟩)
        go_ret
        exact ⟨ret_int (by rw [HF.out]; rfl), hb.trans (hb1.mono hz)⟩
      | false =>
        have HS := Lib.hid (all_succ (p := fun s => !isMine number who s) hlt HA.out (by simp [hp]))
        go_wp2_with (go_at_call 69; refine (mineC_any _ _ _ _ _ _ hn1 hn2 (by omega) (by omega)).mono ?_; rintro e w1 ⟨rfl, hb1⟩)
        go_roundw
        case rel => exact ⟨k + 1, by omega, by go_num, HS.out, hb.trans (hb1.mono hz)⟩
        case measure => simp [intOf]; omega
    · have HF : Hid (l.findIdx? (isMine number who) = none) := findIdx_miss hlt HA.out
      go_wp2
      go_ret
      exact ⟨ret_int (by rw [HF.out]; rfl), hb⟩

def mineAt (u : Upl) (who : Str) (number now : Int) : Option Nat := (sweptL u.sess now).findIdx? (isMine number who)
def mineErr (u : Upl) (who : Str) (number now : Int) : Int :=
  if beginErr u now = 0 then if isName who then if (mineAt u who number now).isSome then 0 else 5 else 1 else beginErr u now
def mineI (u : Upl) (who : Str) (number now : Int) : Int := if mineErr u who number now = 0 then ((mineAt u who number now).getD 0 : Nat) else 0

set_option maxRecDepth 100000 in
set_option maxHeartbeats 1000000 in
theorem mine_bad (v : Value) (u : Upl) (who : Str) (number now : Int) (w : World) (B : Nat) (hs : Sl Sess.cells 5 w B v u.sess) (hB : B ≤ w.heap.size) (ho : ∀ s ∈ u.sess, s.ok) (hw : who.length ≤ 9223372036854775807) (he : mineErr u who number now ≠ 0) :
    Calls Try.prog 50 #[.agg #[v, .int .i64 u.next, .int .i64 u.lasts, .int .i64 u.room], .string ⟨who.toArray⟩, .int .i64 number, .int .i64 now] w fun e w' => e = .returned (.tuple #[.agg #[.slice none 0 0, .int .i64 0, .int .i64 0, .int .i64 0], .int .i64 0, .int .i64 (mineErr u who number now)]) ∧ Below w.heap.size w w' := by
  have hs1 := hs.more hB
  have HB : Hid (∀ (v : Value) (W : World), Sl Sess.cells 5 W w.heap.size v u.sess → w.heap.size ≤ W.heap.size → _) := fun v W h1 h2 => begin_any v u now W w.heap.size h1 h2 ho
  by_cases h0 : beginErr u now = 0
  · simp only [upRes, h0, if_true, sweptU] at HB
    cases h1 : isName who with
    | false =>
    have HE : Hid (mineErr u who number now = 1) := by show mineErr u who number now = 1; simp [mineErr, h0, h1]
    clear he h0
    go_enter Try.func50, Try.ntmps50
    go_wp2_with (first
      | (go_at_call 45
         go_must (
         refine (HB.out _ _ (hs1.below (by repeat (first | with_reducible exact Below.refl _ _ | with_reducible assumption | (with_reducible refine Below.alloc ?_ ?h _; case h => (first | omega | (simp <;> omega))) | (with_reducible refine Below.setCell ?_ ?h _; case h => (first | omega | (simp <;> omega))) | with_reducible refine Below.drew ?_ | with_reducible refine below_dn ?_ _))) (by simp only [als]; omega)).mono ?_
         rintro e w1 ⟨v1, rfl, ho1, hb1⟩
         obtain ⟨k1, f1, z1⟩ := after hb1
         simp only [als] at k1 f1 z1
         obtain ⟨A1, cap1, rfl⟩ := ho1.val
         replace ho1 := ho1.more (base' := w.heap.size + 4) (by simp)
         have hx : Below w.heap.size w w1 := Below.trans (by repeat (first | with_reducible exact Below.refl _ _ | with_reducible assumption | (with_reducible refine Below.alloc ?_ ?h _; case h => (first | omega | (simp <;> omega))) | (with_reducible refine Below.setCell ?_ ?h _; case h => (first | omega | (simp <;> omega))) | with_reducible refine Below.drew ?_ | with_reducible refine below_dn ?_ _)) (hb1.mono (by simp only [als]; omega))
         have : w1.cell? ⟨w.heap.size, 0, none⟩ = some v := (by simp [k1, go_sem]); have : w1.cell? ⟨w.heap.size, 1, none⟩ = some (.int .i64 u.next) := (by simp [k1, go_sem]); have : w1.cell? ⟨w.heap.size, 2, none⟩ = some (.int .i64 u.lasts) := (by simp [k1, go_sem]); have : w1.cell? ⟨w.heap.size, 3, none⟩ = some (.int .i64 u.room) := (by simp [k1, go_sem])
         have : ∀ o, w1.frozen? ⟨w.heap.size, o, none⟩ = false := fun o => (by rw [f1 _ _ (by omega)]; simp [fz_alc, fz_out])
         have : w1.cell? ⟨w.heap.size + 1 + 1 + 1, 0, none⟩ = some (.slice none 0 0) := (by simp [k1, go_sem]); have : w1.cell? ⟨w.heap.size + 1 + 1 + 1, 1, none⟩ = some (.int .i64 0) := (by simp [k1, go_sem]); have : w1.cell? ⟨w.heap.size + 1 + 1 + 1, 2, none⟩ = some (.int .i64 0) := (by simp [k1, go_sem]); have : w1.cell? ⟨w.heap.size + 1 + 1 + 1, 3, none⟩ = some (.int .i64 0) := (by simp [k1, go_sem])
         have : ∀ o, w1.frozen? ⟨w.heap.size + 1 + 1 + 1, o, none⟩ = false := fun o => (by rw [f1 _ _ (by omega)]; simp [fz_alc, fz_out])
         have q1 : w1.cell? ⟨w.heap.size + 1, 0, none⟩ = some (.string ⟨who.toArray⟩) := by simp [k1, go_sem]
         have q2 : w1.cell? ⟨w.heap.size + 1 + 1, 0, none⟩ = some (.int .i64 number) := by simp [k1, go_sem]
         clear k1 f1))
      | (go_at_call 46; refine (isName_any _ _ hw).mono ?_; rintro e w' ⟨rfl, rfl⟩))
    refine bodyPost_ret (v := .tuple #[.agg #[.slice none 0 0, .int .i64 0, .int .i64 0, .int .i64 0], .int .i64 0, .int .i64 1]) ?_ rfl ⟨by rw [HE.out], ?_⟩
    · simp [results, Try.results50, go_sem, *]
    · exact (by repeat (first | with_reducible exact Below.refl _ _ | with_reducible assumption | (with_reducible refine Below.alloc ?_ ?h _; case h => (first | omega | (simp <;> omega))) | (with_reducible refine Below.setCell ?_ ?h _; case h => (first | omega | (simp <;> omega))) | with_reducible refine Below.drew ?_ | with_reducible refine below_dn ?_ _))
    | true =>
    have h2 : mineAt u who number now = none := by
      cases h : mineAt u who number now with
      | none => rfl
      | some i => exact absurd (by simp [mineErr, h0, h1, h]) he
    have HE : Hid (mineErr u who number now = 5) := by show mineErr u who number now = 5; simp [mineErr, h0, h1, h2]
    unfold mineAt at h2
    have H2 := Lib.hid h2
    clear he h0 h2
    go_enter Try.func50, Try.ntmps50
    go_wp2_with (first
      | (go_at_call 45
         go_must (
         refine (HB.out _ _ (hs1.below (by repeat (first | with_reducible exact Below.refl _ _ | with_reducible assumption | (with_reducible refine Below.alloc ?_ ?h _; case h => (first | omega | (simp <;> omega))) | (with_reducible refine Below.setCell ?_ ?h _; case h => (first | omega | (simp <;> omega))) | with_reducible refine Below.drew ?_ | with_reducible refine below_dn ?_ _))) (by simp only [als]; omega)).mono ?_
         rintro e w1 ⟨v1, rfl, ho1, hb1⟩
         obtain ⟨k1, f1, z1⟩ := after hb1
         simp only [als] at k1 f1 z1
         obtain ⟨A1, cap1, rfl⟩ := ho1.val
         replace ho1 := ho1.more (base' := w.heap.size + 4) (by simp)
         have hx : Below w.heap.size w w1 := Below.trans (by repeat (first | with_reducible exact Below.refl _ _ | with_reducible assumption | (with_reducible refine Below.alloc ?_ ?h _; case h => (first | omega | (simp <;> omega))) | (with_reducible refine Below.setCell ?_ ?h _; case h => (first | omega | (simp <;> omega))) | with_reducible refine Below.drew ?_ | with_reducible refine below_dn ?_ _)) (hb1.mono (by simp only [als]; omega))
         have : w1.cell? ⟨w.heap.size, 0, none⟩ = some v := (by simp [k1, go_sem]); have : w1.cell? ⟨w.heap.size, 1, none⟩ = some (.int .i64 u.next) := (by simp [k1, go_sem]); have : w1.cell? ⟨w.heap.size, 2, none⟩ = some (.int .i64 u.lasts) := (by simp [k1, go_sem]); have : w1.cell? ⟨w.heap.size, 3, none⟩ = some (.int .i64 u.room) := (by simp [k1, go_sem])
         have : ∀ o, w1.frozen? ⟨w.heap.size, o, none⟩ = false := fun o => (by rw [f1 _ _ (by omega)]; simp [fz_alc, fz_out])
         have : w1.cell? ⟨w.heap.size + 1 + 1 + 1, 0, none⟩ = some (.slice none 0 0) := (by simp [k1, go_sem]); have : w1.cell? ⟨w.heap.size + 1 + 1 + 1, 1, none⟩ = some (.int .i64 0) := (by simp [k1, go_sem]); have : w1.cell? ⟨w.heap.size + 1 + 1 + 1, 2, none⟩ = some (.int .i64 0) := (by simp [k1, go_sem]); have : w1.cell? ⟨w.heap.size + 1 + 1 + 1, 3, none⟩ = some (.int .i64 0) := (by simp [k1, go_sem])
         have : ∀ o, w1.frozen? ⟨w.heap.size + 1 + 1 + 1, o, none⟩ = false := fun o => (by rw [f1 _ _ (by omega)]; simp [fz_alc, fz_out])
         have q1 : w1.cell? ⟨w.heap.size + 1, 0, none⟩ = some (.string ⟨who.toArray⟩) := by simp [k1, go_sem]
         have q2 : w1.cell? ⟨w.heap.size + 1 + 1, 0, none⟩ = some (.int .i64 number) := by simp [k1, go_sem]
         clear k1 f1))
      | (go_at_call 46; refine (isName_any _ _ hw).mono ?_; rintro e w' ⟨rfl, rfl⟩)
      | (go_at_call 68
         go_must (
         refine (indexF_mine number who _ _ _ (sweptL u.sess now) _ _ (Own.sl (E := 44) (base := w.heap.size + 4) Sess.cells_len ?_) (Nat.le_refl _) ?_ ?_ ?_ ?_).mono ?_
         · repeat (first | with_reducible exact ho1 | (with_reducible refine Own.setB ?_ ?h _; case h => (first | omega | (simp <;> omega))) | with_reducible refine Own.allc ?_ _ | with_reducible refine Own.dn ?_ _ | with_reducible refine Own.d1 ?_)
         · simp [*, go_sem]
         · simp [*, go_sem]
         · simp; omega
         · simp; omega
         rintro e w2 ⟨rfl, hb2⟩
         rw [H2.out]
         obtain ⟨k2, f2, z2⟩ := after hb2
         have hy : Below w.heap.size w w2 := Below.trans (by repeat (first | with_reducible exact Below.refl _ _ | with_reducible assumption | (with_reducible refine Below.alloc ?_ ?h _; case h => (first | omega | (simp <;> omega))) | (with_reducible refine Below.setCell ?_ ?h _; case h => (first | omega | (simp <;> omega))) | with_reducible refine Below.drew ?_ | with_reducible refine below_dn ?_ _)) (hb2.mono (by simp; omega))
         have : w2.cell? ⟨w.heap.size + 1 + 1 + 1, 0, none⟩ = some (.slice none 0 0) := (by rw [k2 _ _ (by simp; omega)]; simp [*, go_sem]); have : w2.cell? ⟨w.heap.size + 1 + 1 + 1, 1, none⟩ = some (.int .i64 0) := (by rw [k2 _ _ (by simp; omega)]; simp [*, go_sem]); have : w2.cell? ⟨w.heap.size + 1 + 1 + 1, 2, none⟩ = some (.int .i64 0) := (by rw [k2 _ _ (by simp; omega)]; simp [*, go_sem]); have : w2.cell? ⟨w.heap.size + 1 + 1 + 1, 3, none⟩ = some (.int .i64 0) := (by rw [k2 _ _ (by simp; omega)]; simp [*, go_sem])
         have : ∀ o, w2.frozen? ⟨w.heap.size + 1 + 1 + 1, o, none⟩ = false := fun o => (by rw [f2 _ _ (by simp; omega)]; simp [*, go_sem])
         clear k2 f2)))
    refine bodyPost_ret (v := .tuple #[.agg #[.slice none 0 0, .int .i64 0, .int .i64 0, .int .i64 0], .int .i64 0, .int .i64 5]) ?_ rfl ⟨by rw [HE.out], ?_⟩
    · simp [results, Try.results50, go_sem, *]
    · exact (by repeat (first | with_reducible exact Below.refl _ _ | with_reducible assumption | (with_reducible refine Below.alloc ?_ ?h _; case h => (first | omega | (simp <;> omega))) | (with_reducible refine Below.setCell ?_ ?h _; case h => (first | omega | (simp <;> omega))) | with_reducible refine Below.drew ?_ | with_reducible refine below_dn ?_ _))
  · simp only [upRes, if_neg h0, noUp] at HB
    have HE : Hid (mineErr u who number now = beginErr u now) := by show mineErr u who number now = beginErr u now; simp [mineErr, h0]
    have h0' : (beginErr u now != 0) = true := by simpa using h0
    clear he h0
    go_enter Try.func50, Try.ntmps50
    go_wp2_with (first
      | (go_at_call 45
         go_must (
         refine (HB.out _ _ (hs1.below (by repeat (first | with_reducible exact Below.refl _ _ | with_reducible assumption | (with_reducible refine Below.alloc ?_ ?h _; case h => (first | omega | (simp <;> omega))) | (with_reducible refine Below.setCell ?_ ?h _; case h => (first | omega | (simp <;> omega))) | with_reducible refine Below.drew ?_ | with_reducible refine below_dn ?_ _))) (by simp only [als]; omega)).mono ?_
         rintro e w1 ⟨v1, rfl, ho1, hb1⟩
         obtain ⟨k1, f1, z1⟩ := after hb1
         simp only [als] at k1 f1 z1
         obtain ⟨A1, cap1, rfl⟩ := ho1.val
         replace ho1 := ho1.more (base' := w.heap.size + 4) (by simp)
         have hx : Below w.heap.size w w1 := Below.trans (by repeat (first | with_reducible exact Below.refl _ _ | with_reducible assumption | (with_reducible refine Below.alloc ?_ ?h _; case h => (first | omega | (simp <;> omega))) | (with_reducible refine Below.setCell ?_ ?h _; case h => (first | omega | (simp <;> omega))) | with_reducible refine Below.drew ?_ | with_reducible refine below_dn ?_ _)) (hb1.mono (by simp only [als]; omega))
         have : w1.cell? ⟨w.heap.size, 0, none⟩ = some v := (by simp [k1, go_sem]); have : w1.cell? ⟨w.heap.size, 1, none⟩ = some (.int .i64 u.next) := (by simp [k1, go_sem]); have : w1.cell? ⟨w.heap.size, 2, none⟩ = some (.int .i64 u.lasts) := (by simp [k1, go_sem]); have : w1.cell? ⟨w.heap.size, 3, none⟩ = some (.int .i64 u.room) := (by simp [k1, go_sem])
         have : ∀ o, w1.frozen? ⟨w.heap.size, o, none⟩ = false := fun o => (by rw [f1 _ _ (by omega)]; simp [fz_alc, fz_out])
         have : w1.cell? ⟨w.heap.size + 1 + 1 + 1, 0, none⟩ = some (.slice none 0 0) := (by simp [k1, go_sem]); have : w1.cell? ⟨w.heap.size + 1 + 1 + 1, 1, none⟩ = some (.int .i64 0) := (by simp [k1, go_sem]); have : w1.cell? ⟨w.heap.size + 1 + 1 + 1, 2, none⟩ = some (.int .i64 0) := (by simp [k1, go_sem]); have : w1.cell? ⟨w.heap.size + 1 + 1 + 1, 3, none⟩ = some (.int .i64 0) := (by simp [k1, go_sem])
         have : ∀ o, w1.frozen? ⟨w.heap.size + 1 + 1 + 1, o, none⟩ = false := fun o => (by rw [f1 _ _ (by omega)]; simp [fz_alc, fz_out])
         have q1 : w1.cell? ⟨w.heap.size + 1, 0, none⟩ = some (.string ⟨who.toArray⟩) := by simp [k1, go_sem]
         have q2 : w1.cell? ⟨w.heap.size + 1 + 1, 0, none⟩ = some (.int .i64 number) := by simp [k1, go_sem]
         clear k1 f1)))
    refine bodyPost_ret (v := .tuple #[.agg #[.slice none 0 0, .int .i64 0, .int .i64 0, .int .i64 0], .int .i64 0, .int .i64 (beginErr u now)]) ?_ rfl ⟨by rw [HE.out], ?_⟩
    · simp [results, Try.results50, go_sem, *]
    · exact (by repeat (first | with_reducible exact Below.refl _ _ | with_reducible assumption | (with_reducible refine Below.alloc ?_ ?h _; case h => (first | omega | (simp <;> omega))) | (with_reducible refine Below.setCell ?_ ?h _; case h => (first | omega | (simp <;> omega))) | with_reducible refine Below.drew ?_ | with_reducible refine below_dn ?_ _))

theorem mine_zero {u : Upl} {who : Str} {number now : Int} (h : mineErr u who number now = 0) : beginErr u now = 0 ∧ isName who = true ∧ ∃ i, mineAt u who number now = some i := by
  unfold mineErr at h
  split at h
  · rename_i h0
    split at h
    · rename_i h1
      split at h
      · rename_i h2
        exact ⟨h0, h1, Option.isSome_iff_exists.1 h2⟩
      · omega
    · omega
  · exact absurd h ‹_›

set_option maxRecDepth 100000 in
set_option maxHeartbeats 1000000 in
theorem mine_ok (v : Value) (u : Upl) (who : Str) (number now : Int) (w : World) (B : Nat) (hs : Sl Sess.cells 5 w B v u.sess) (hB : B ≤ w.heap.size) (ho : ∀ s ∈ u.sess, s.ok) (hw : who.length ≤ 9223372036854775807) (he : mineErr u who number now = 0) (i : Nat) (hi : mineAt u who number now = some i) :
    Calls Try.prog 50 #[.agg #[v, .int .i64 u.next, .int .i64 u.lasts, .int .i64 u.room], .string ⟨who.toArray⟩, .int .i64 number, .int .i64 now] w fun e w' => ∃ v', e = .returned (.tuple #[.agg #[v', .int .i64 u.next, .int .i64 u.lasts, .int .i64 u.room], .int .i64 i, .int .i64 0]) ∧ Own Sess.cells 44 5 w' w.heap.size v' (sweptL u.sess now) ∧ Below w.heap.size w w' := by
  have hs1 := hs.more hB
  obtain ⟨h0, h1, _⟩ := mine_zero he
  have HB : Hid (∀ (v : Value) (W : World), Sl Sess.cells 5 W w.heap.size v u.sess → w.heap.size ≤ W.heap.size → _) := fun v W h1 h2 => begin_any v u now W w.heap.size h1 h2 ho
  simp only [upRes, h0, if_true, sweptU] at HB
  unfold mineAt at hi
  have H2 := Lib.hid hi
  clear he h0 hi
  have hnn : ¬ ((i : Int) < 0) := by omega
  go_enter Try.func50, Try.ntmps50
  go_wp2_with (first
      | (go_at_call 45
         go_must (
         refine (HB.out _ _ (hs1.below (by repeat (first | with_reducible exact Below.refl _ _ | with_reducible assumption | (with_reducible refine Below.alloc ?_ ?h _; case h => (first | omega | (simp <;> omega))) | (with_reducible refine Below.setCell ?_ ?h _; case h => (first | omega | (simp <;> omega))) | with_reducible refine Below.drew ?_ | with_reducible refine below_dn ?_ _))) (by simp only [als]; omega)).mono ?_
         rintro e w1 ⟨v1, rfl, ho1, hb1⟩
         obtain ⟨k1, f1, z1⟩ := after hb1
         simp only [als] at k1 f1 z1
         obtain ⟨A1, cap1, rfl⟩ := ho1.val
         replace ho1 := ho1.more (base' := w.heap.size + 4) (by simp)
         have hx : Below w.heap.size w w1 := Below.trans (by repeat (first | with_reducible exact Below.refl _ _ | with_reducible assumption | (with_reducible refine Below.alloc ?_ ?h _; case h => (first | omega | (simp <;> omega))) | (with_reducible refine Below.setCell ?_ ?h _; case h => (first | omega | (simp <;> omega))) | with_reducible refine Below.drew ?_ | with_reducible refine below_dn ?_ _)) (hb1.mono (by simp only [als]; omega))
         have : w1.cell? ⟨w.heap.size, 0, none⟩ = some v := (by simp [k1, go_sem]); have : w1.cell? ⟨w.heap.size, 1, none⟩ = some (.int .i64 u.next) := (by simp [k1, go_sem]); have : w1.cell? ⟨w.heap.size, 2, none⟩ = some (.int .i64 u.lasts) := (by simp [k1, go_sem]); have : w1.cell? ⟨w.heap.size, 3, none⟩ = some (.int .i64 u.room) := (by simp [k1, go_sem])
         have : ∀ o, w1.frozen? ⟨w.heap.size, o, none⟩ = false := fun o => (by rw [f1 _ _ (by omega)]; simp [fz_alc, fz_out])
         have : w1.cell? ⟨w.heap.size + 1 + 1 + 1, 0, none⟩ = some (.slice none 0 0) := (by simp [k1, go_sem]); have : w1.cell? ⟨w.heap.size + 1 + 1 + 1, 1, none⟩ = some (.int .i64 0) := (by simp [k1, go_sem]); have : w1.cell? ⟨w.heap.size + 1 + 1 + 1, 2, none⟩ = some (.int .i64 0) := (by simp [k1, go_sem]); have : w1.cell? ⟨w.heap.size + 1 + 1 + 1, 3, none⟩ = some (.int .i64 0) := (by simp [k1, go_sem])
         have : ∀ o, w1.frozen? ⟨w.heap.size + 1 + 1 + 1, o, none⟩ = false := fun o => (by rw [f1 _ _ (by omega)]; simp [fz_alc, fz_out])
         have q1 : w1.cell? ⟨w.heap.size + 1, 0, none⟩ = some (.string ⟨who.toArray⟩) := by simp [k1, go_sem]
         have q2 : w1.cell? ⟨w.heap.size + 1 + 1, 0, none⟩ = some (.int .i64 number) := by simp [k1, go_sem]
         clear k1 f1))
      | (go_at_call 46; refine (isName_any _ _ hw).mono ?_; rintro e w' ⟨rfl, rfl⟩)
      | (go_at_call 68
         go_must (
         refine (indexF_mine number who _ _ _ (sweptL u.sess now) _ _ (Own.sl (E := 44) (base := w.heap.size + 4) Sess.cells_len ?_) (Nat.le_refl _) ?_ ?_ ?_ ?_).mono ?_
         · repeat (first | with_reducible exact ho1 | (with_reducible refine Own.setB ?_ ?h _; case h => (first | omega | (simp <;> omega))) | with_reducible refine Own.allc ?_ _ | with_reducible refine Own.dn ?_ _ | with_reducible refine Own.d1 ?_)
         · simp [*, go_sem]
         · simp [*, go_sem]
         · simp; omega
         · simp; omega
         rintro e w2 ⟨rfl, hb2⟩
         rw [H2.out]
         obtain ⟨k2, f2, z2⟩ := after hb2
         have hy : Below w.heap.size w w2 := Below.trans (by repeat (first | with_reducible exact Below.refl _ _ | with_reducible assumption | (with_reducible refine Below.alloc ?_ ?h _; case h => (first | omega | (simp <;> omega))) | (with_reducible refine Below.setCell ?_ ?h _; case h => (first | omega | (simp <;> omega))) | with_reducible refine Below.drew ?_ | with_reducible refine below_dn ?_ _)) (hb2.mono (by simp; omega))
         have : w2.cell? ⟨w.heap.size + 1 + 1 + 1, 0, none⟩ = some (.slice none 0 0) := (by rw [k2 _ _ (by simp; omega)]; simp [*, go_sem]); have : w2.cell? ⟨w.heap.size + 1 + 1 + 1, 1, none⟩ = some (.int .i64 0) := (by rw [k2 _ _ (by simp; omega)]; simp [*, go_sem]); have : w2.cell? ⟨w.heap.size + 1 + 1 + 1, 2, none⟩ = some (.int .i64 0) := (by rw [k2 _ _ (by simp; omega)]; simp [*, go_sem]); have : w2.cell? ⟨w.heap.size + 1 + 1 + 1, 3, none⟩ = some (.int .i64 0) := (by rw [k2 _ _ (by simp; omega)]; simp [*, go_sem])
         have : ∀ o, w2.frozen? ⟨w.heap.size + 1 + 1 + 1, o, none⟩ = false := fun o => (by rw [f2 _ _ (by simp; omega)]; simp [*, go_sem])
         have : w2.cell? ⟨w.heap.size, 0, none⟩ = some (.slice A1 (sweptL u.sess now).length cap1) := (by rw [k2 _ _ (by simp; omega)]; simp [*, go_sem])
         have : w2.cell? ⟨w.heap.size, 1, none⟩ = some (.int .i64 u.next) := (by rw [k2 _ _ (by simp; omega)]; simp [*, go_sem])
         have : w2.cell? ⟨w.heap.size, 2, none⟩ = some (.int .i64 u.lasts) := (by rw [k2 _ _ (by simp; omega)]; simp [*, go_sem])
         have : w2.cell? ⟨w.heap.size, 3, none⟩ = some (.int .i64 u.room) := (by rw [k2 _ _ (by simp; omega)]; simp [*, go_sem])
         have ho2 : Own Sess.cells 44 5 w2 (w.heap.size + 4) (.slice A1 (sweptL u.sess now).length cap1) (sweptL u.sess now) := Own.below (by repeat (first | with_reducible exact ho1 | (with_reducible refine Own.setB ?_ ?h _; case h => (first | omega | (simp <;> omega))) | with_reducible refine Own.allc ?_ _ | with_reducible refine Own.dn ?_ _ | with_reducible refine Own.d1 ?_)) hb2
         clear k2 f2)))
  refine bodyPost_ret (v := .tuple #[.agg #[.slice A1 (sweptL u.sess now).length cap1, .int .i64 u.next, .int .i64 u.lasts, .int .i64 u.room], .int .i64 i, .int .i64 0]) ?_ rfl ⟨_, rfl, ?_, ?_⟩
  · simp [results, Try.results50, go_sem, *]
  · exact (Own.more (base := w.heap.size + 4) (by repeat (first | with_reducible exact ho2 | (with_reducible refine Own.setB ?_ ?h _; case h => (first | omega | (simp <;> omega))) | with_reducible refine Own.allc ?_ _ | with_reducible refine Own.dn ?_ _ | with_reducible refine Own.d1 ?_)) (by omega))
  · exact (by repeat (first | with_reducible exact Below.refl _ _ | with_reducible assumption | (with_reducible refine Below.alloc ?_ ?h _; case h => (first | omega | (simp <;> omega))) | (with_reducible refine Below.setCell ?_ ?h _; case h => (first | omega | (simp <;> omega))) | with_reducible refine Below.drew ?_ | with_reducible refine below_dn ?_ _))

end Go.Proofs.Ytdcigjpanpcaaaa
