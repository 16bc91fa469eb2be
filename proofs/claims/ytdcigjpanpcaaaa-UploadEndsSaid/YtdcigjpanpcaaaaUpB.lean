/- Uploads: Check: what it answers. -/
import Derived.Test.YtdcigjpanpcaaaaUpA
namespace Go.Proofs.Ytdcigjpanpcaaaa
open Go.RowKit

def numsUp (p : Sess × Sess) : Bool := decide (p.1.number < p.2.number)
def roomOk (l : List Sess) (room : Int) (s : Sess) : Bool := decide (openOf l s.who ≤ room)
def upHead (u : Upl) : Bool := withinB u.lasts 1 1000000 && withinB u.room 0 100000 && withinB u.next 1 1099511627776
def upErr (u : Upl) : Int :=
  if upHead u then
    if 20 < u.sess.length then 2
    else if firstErr (sessErr u.next) u.sess = 0 then
      if (pairs u.sess).all numsUp then
        if u.sess.all (roomOk u.sess u.room) then 0 else 10
      else 4
    else firstErr (sessErr u.next) u.sess
  else 3

set_option maxRecDepth 100000 in
set_option maxHeartbeats 1000000 in
theorem check_head (v : Value) (u : Upl) (w : World) (h : upHead u = false) :
    Calls Try.prog 23 #[.agg #[v, .int .i64 u.next, .int .i64 u.lasts, .int .i64 u.room]] w fun e w' => e = .returned (.int .i64 (upErr u)) ∧ Below w.heap.size w w' := by
  have H : Hid (upErr u = 3) := by show upErr u = 3; simp [upErr, h]
  simp only [upHead, Bool.and_eq_false_iff] at h
  have h' := Lib.hid h
  clear h
  go_enter Try.func23, Try.ntmps23
  go_wp2_with (go_at_call 47; refine (within_any _ _ _ _).mono ?_; rintro e w' ⟨rfl, rfl⟩)
  all_goals first
    | (exfalso; have hh := h'.out; simp_all; done)
    | (go_ret
       exact ⟨ret_int H.out.symm, (by repeat (first | exact Below.refl _ _ | assumption | refine Below.alloc ?_ (by simp; try omega) _ | refine Below.setCell ?_ (by simp; try omega) _ | refine Below.drew ?_))⟩)

theorem upHead_true {u : Upl} (h : upHead u = true) : (1 ≤ u.lasts ∧ u.lasts ≤ 1000000) ∧ (0 ≤ u.room ∧ u.room ≤ 100000) ∧ (1 ≤ u.next ∧ u.next ≤ 1099511627776) := by
  simp only [upHead, Bool.and_eq_true] at h
  exact ⟨within_true h.1.1, within_true h.1.2, within_true h.2⟩

set_option maxRecDepth 100000 in
set_option maxHeartbeats 1000000 in
theorem check_rest (v : Value) (u : Upl) (w : World) (B : Nat) (h : upHead u = true) (hs0 : Sl Sess.cells 5 w B v u.sess) (hB0 : B ≤ w.heap.size) (ho : ∀ s ∈ u.sess, s.ok) :
    Calls Try.prog 23 #[.agg #[v, .int .i64 u.next, .int .i64 u.lasts, .int .i64 u.room]] w fun e w' => e = .returned (.int .i64 (upErr u)) ∧ Below w.heap.size w w' := by
  have hs := hs0.more hB0
  clear hs0
  obtain ⟨_, _, hn1, hn2⟩ := upHead_true h
  have k1 : withinB u.lasts 1 1000000 = true := by simp only [upHead, Bool.and_eq_true] at h; exact h.1.1
  have k2 : withinB u.room 0 100000 = true := by simp only [upHead, Bool.and_eq_true] at h; exact h.1.2
  have k3 : withinB u.next 1 1099511627776 = true := by simp only [upHead, Bool.and_eq_true] at h; exact h.2
  obtain ⟨A, cap, rfl, hl, _, _⟩ := hs.form
  by_cases hlen : 20 < u.sess.length
  · have H : Hid (upErr u = 2) := by show upErr u = 2; simp [upErr, h, hlen]
    clear h
    go_enter Try.func23, Try.ntmps23
    go_wp2_with (go_at_call 47; refine (within_any _ _ _ _).mono ?_; rintro e w' ⟨rfl, rfl⟩)
    go_ret
    exact ⟨ret_int H.out.symm, (by repeat (first | exact Below.refl _ _ | assumption | refine Below.alloc ?_ (by simp; try omega) _ | refine Below.setCell ?_ (by simp; try omega) _ | refine Below.drew ?_))⟩
  have H : Hid (upErr u = if firstErr (sessErr u.next) u.sess = 0 then (if (pairs u.sess).all numsUp then (if u.sess.all (roomOk u.sess u.room) then 0 else 10) else 4) else firstErr (sessErr u.next) u.sess) := by
    show upErr u = _
    simp only [upErr, h, if_neg hlen, if_true]
  clear h
  go_enter Try.func23, Try.ntmps23
  go_wp2_with (go_at_call 47; refine (within_any _ _ _ _).mono ?_; rintro e w' ⟨rfl, rfl⟩)
  clear k1 k2 k3
  go_loopw [4, 5, 34] (fun _ _ i wr => ∃ k : Nat, k ≤ u.sess.length ∧ i = .int .i64 k ∧ (u.sess.take k).all (fun s => sessErr u.next s == 0) = true ∧ Below (w.heap.size + 1) (w.alloc (.cells #[.slice A u.sess.length cap, .int .i64 u.next, .int .i64 u.lasts, .int .i64 u.room] 24)) wr) (fun _ _ i _ => u.sess.length - (intOf i).toNat)
  case atStart => exact ⟨0, Nat.zero_le _, rfl, rfl, Below.refl _ _⟩
  case round =>
    obtain ⟨k, hk, rfl, ha, hb⟩ := hrel
    have HA := Lib.hid ha
    clear ha
    have b0 := box_cell hb (by omega) 0 _ rfl
    have b1 := box_cell hb (by omega) 1 _ rfl
    have b2 := box_cell hb (by omega) 2 _ rfl
    have b3 := box_cell hb (by omega) 3 _ rfl
    have hz : w.heap.size < wr.heap.size := by have := hb.size; simp at this; omega
    by_cases hlt : k < u.sess.length
    · have hbw : Below w.heap.size w wr := ((Below.refl _ w).alloc (Nat.le_refl _) _).trans (hb.mono (by omega))
      obtain ⟨b, off, rfl, hB, c0, c1, c2, c3, c4⟩ := (hs.below hbw).sess hlt
      have hok := ho _ (List.getElem_mem hlt)
      by_cases he : sessErr u.next u.sess[k] = 0
      · have heb : (sessErr u.next u.sess[k] == 0) = true := by rw [he]; rfl
        have HS := Lib.hid (all_succ (p := fun s => sessErr u.next s == 0) hlt HA.out heb)
        go_wp2_with (go_at_call 51; refine (session_any _ _ _ _ _ _ hn1 hn2 hok).mono ?_; rintro e w1 ⟨rfl, hb1⟩)
        go_roundw
        case rel => exact ⟨k + 1, by omega, by go_num, HS.out, (hb.alloc (by omega) _).trans (hb1.mono (by simp; omega))⟩
        case measure => simp [intOf]; omega
      · have HF := Lib.hid (firstErr_hit (f := sessErr u.next) hlt HA.out he)
        have he' : (sessErr u.next u.sess[k] != 0) = true := by simpa using he
        go_wp2_with (go_at_call 51; refine (session_any _ _ _ _ _ _ hn1 hn2 hok).mono ?_; rintro e w1 ⟨rfl, hb1⟩)
        go_ret
        refine ⟨ret_int ?_, ?_⟩
        · rw [H.out, HF.out, if_neg he]
        · exact (hbw.alloc (by omega) _).trans (hb1.mono (by simp; omega))
    · have HE := Lib.hid (firstErr_none (f := sessErr u.next) hlt HA.out)
      go_wp2
      clear HA b0 b1 b2 b3 hz hlt
      obtain ⟨w2, hw2⟩ : ∃ w2, w2 = wr := ⟨_, rfl⟩
      subst hw2
      go_loopw [6] (fun i wr => ∃ k : Nat, 1 ≤ k ∧ k ≤ u.sess.length + 1 ∧ i = .int .i64 k ∧ ((pairs u.sess).take (k - 1)).all numsUp = true ∧ Below w2.heap.size w2 wr) (fun i _ => u.sess.length + 1 - (intOf i).toNat)
      case atStart => exact ⟨1, by omega, by omega, rfl, by simp, Below.refl _ _⟩
      case round =>
        obtain ⟨i, hi1, hi2, rfl, ha, hb2⟩ := hrel
        have HA := Lib.hid ha
        clear ha
        have hb3 := hb.trans (hb2.mono (by have := hb.size; simp at this; omega))
        have b0 := box_cell hb3 (by omega) 0 _ rfl
        have b1 := box_cell hb3 (by omega) 1 _ rfl
        have b2 := box_cell hb3 (by omega) 2 _ rfl
        have b3 := box_cell hb3 (by omega) 3 _ rfl
        have hz : w.heap.size < wr.heap.size := by have := hb3.size; simp at this; omega
        have hbw : Below w.heap.size w wr := ((Below.refl _ w).alloc (Nat.le_refl _) _).trans (hb3.mono (by omega))
        by_cases hlt : i < u.sess.length
        · obtain ⟨b, off, rfl, hB, c0, _, _, _, _⟩ := (hs.below hbw).sess hlt
          obtain ⟨b', off', hA', _, d0, _, _, _, _⟩ := (hs.below hbw).sess (k := i - 1) (by omega)
          obtain ⟨rfl, rfl⟩ : b' = b ∧ off' = off := by injection hA' with h; injection h with h1 h2; exact ⟨h1.symm, h2.symm⟩
          clear hA'
          have hpl : i - 1 < (pairs u.sess).length := by rw [pairs_len]; omega
          have hpg : (pairs u.sess)[i - 1] = (u.sess[i - 1], u.sess[i]) := by
            rw [pairs_get hpl]; simp only [Nat.sub_add_cancel hi1]
          by_cases hc : u.sess[i].number ≤ u.sess[i - 1].number
          · have HF : Hid ((pairs u.sess).all numsUp = false) := all_bad hpl (by rw [hpg]; simp only [numsUp, decide_eq_false_iff_not]; omega)
            have HZ := Lib.hid HE
            clear hpl hpg
            go_wp2
            go_quiet (fail)
            go_wp2
            go_ret
            refine ⟨ret_int ?_, ?_⟩
            · rw [H.out, if_pos (HE.out), HF.out]; rfl
            · exact below_dn hbw _
          · have HS : Hid (((pairs u.sess).take (i - 1 + 1)).all numsUp = true) := all_succ hpl HA.out (by rw [hpg]; simp only [numsUp, decide_eq_true_eq]; omega)
            clear hpl hpg
            go_wp2
            go_quiet (fail)
            go_wp2
            go_roundw
            case rel => exact ⟨i + 1, by omega, by omega, by go_num, by rw [show i + 1 - 1 = i - 1 + 1 from by omega]; exact HS.out, below_dn hb2 _⟩
            case measure => simp [intOf]; omega
        · have HP : Hid ((pairs u.sess).all numsUp = true) := all_end (k := i - 1) (by rw [pairs_len]; omega) HA.out
          go_wp2
          clear HA b0 b1 b2 b3 hz hlt
          obtain ⟨w3, hw3⟩ : ∃ w3, w3 = wr := ⟨_, rfl⟩
          subst hw3
          go_loopw [8, 69] (fun _ i wr => ∃ k : Nat, k ≤ u.sess.length ∧ i = .int .i64 k ∧ (u.sess.take k).all (roomOk u.sess u.room) = true ∧ Below w3.heap.size w3 wr) (fun _ i _ => u.sess.length - (intOf i).toNat)
          case atStart => exact ⟨0, by omega, rfl, by simp, Below.refl _ _⟩
          case round =>
            obtain ⟨k, hk, rfl, ha, hb4⟩ := hrel
            have HA := Lib.hid ha
            clear ha
            have hb5 := hb3.trans (hb4.mono (by have := hb3.size; simp at this; omega))
            have b0 := box_cell hb5 (by omega) 0 _ rfl
            have b1 := box_cell hb5 (by omega) 1 _ rfl
            have b2 := box_cell hb5 (by omega) 2 _ rfl
            have b3 := box_cell hb5 (by omega) 3 _ rfl
            have hz : w.heap.size < wr.heap.size := by have := hb5.size; simp at this; omega
            have hbw5 : Below w.heap.size w wr := ((Below.refl _ w).alloc (Nat.le_refl _) _).trans (hb5.mono (by omega))
            by_cases hlt : k < u.sess.length
            · have hsr := (hs.below hbw5)
              obtain ⟨b, off, rfl, hB, c0, c1, c2, c3, c4⟩ := hsr.sess hlt
              go_wp2
              go_region_held3 (fun w' => w'.cell? ⟨w.heap.size, 0, none⟩ = some (.slice (some ⟨b, off, none⟩) u.sess.length cap) ∧ w'.cell? ⟨w.heap.size, 3, none⟩ = some (.int .i64 u.room) ∧ w'.cell? ⟨wr.heap.size, 1, none⟩ = some (.string ⟨u.sess[k].who.toArray⟩) ∧ Below w.heap.size w w' ∧ Below w3.heap.size w3 w' ∧ w.heap.size ≤ w'.heap.size)
                (first
                  | exact ⟨by simp [*, World.cell?_alloc_some], by simp [*, World.cell?_alloc_some], by simp [*], (hbw5.alloc (by omega) _).drew, (hb4.alloc hb4.size _).drew, by simp; omega⟩
                  | exact ⟨by rw [hb1.cell (by simp; omega)]; simp [*], by rw [hb1.cell (by simp; omega)]; simp [*], by rw [hb1.cell (by simp)]; simp [*], (hbw5.alloc (by omega) _).drew.trans (hb1.mono (by simp; omega)), (hb4.alloc hb4.size _).drew.trans (hb1.mono (by simp; have := hb4.size; omega)), by have := hb1.size; simp at this; omega⟩)
                (first
                  | (go_at_call 48; refine (open_any _ u.sess _ _ w.heap.size ((hs.below (hbw5.alloc (by omega) _)).below (Below.refl _ _).drew) (by simp; omega)).mono ?_; rintro e w1 ⟨rfl, hb1⟩))
              rename_i hS
              obtain ⟨_, _, _, q1, q2, _⟩ := hS
              by_cases hc : openOf u.sess u.sess[k].who ≤ u.room
              · have HS := Lib.hid (all_succ (p := roomOk u.sess u.room) hlt HA.out (by simpa [roomOk] using hc))
                go_wp2
                go_roundw
                case rel => exact ⟨k + 1, by omega, by go_num, HS.out, q2⟩
                case measure => simp [intOf]; omega
              · have HF := Lib.hid (all_bad (p := roomOk u.sess u.room) hlt (by simpa [roomOk] using hc))
                go_wp2
                go_ret
                exact ⟨ret_int (by rw [H.out, if_pos HE.out, if_pos HP.out, HF.out]; rfl), q1⟩
            · have HF := Lib.hid (all_end hlt HA.out)
              go_wp2
              go_ret
              exact ⟨ret_int (by rw [H.out, if_pos HE.out, if_pos HP.out, if_pos HF.out]), hbw5⟩
end Go.Proofs.Ytdcigjpanpcaaaa
