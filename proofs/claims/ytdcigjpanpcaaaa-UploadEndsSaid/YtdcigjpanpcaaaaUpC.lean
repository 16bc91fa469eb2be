/- Uploads: the reference's CheckUploads answers the same. -/
import Derived.Test.YtdcigjpanpcaaaaUpB
namespace Go.Proofs.Ytdcigjpanpcaaaa
open Go.RowKit

theorem check_any (v : Value) (u : Upl) (w : World) (B : Nat) (hs0 : Sl Sess.cells 5 w B v u.sess) (hB0 : B ≤ w.heap.size) (ho : ∀ s ∈ u.sess, s.ok) :
    Calls Try.prog 23 #[.agg #[v, .int .i64 u.next, .int .i64 u.lasts, .int .i64 u.room]] w fun e w' => e = .returned (.int .i64 (upErr u)) ∧ Below w.heap.size w w' := by
  cases h : upHead u with
  | true => exact check_rest v u w B h hs0 hB0 ho
  | false => exact check_head v u w h

set_option maxRecDepth 100000 in
set_option maxHeartbeats 1000000 in
theorem checkR_head (v : Value) (u : Upl) (w : World) (h : upHead u = false) :
    Calls Try.prog 24 #[.agg #[v, .int .i64 u.next, .int .i64 u.lasts, .int .i64 u.room]] w fun e w' => e = .returned (.int .i64 (upErr u)) ∧ Below w.heap.size w w' := by
  have H : Hid (upErr u = 3) := by show upErr u = 3; simp [upErr, h]
  simp only [upHead, Bool.and_eq_false_iff] at h
  have h' := Lib.hid h
  clear h
  go_enter Try.func24, Try.ntmps24
  go_wp2_with (go_at_call 52; refine (withinR_any _ _ _ _).mono ?_; rintro e w' ⟨rfl, rfl⟩)
  all_goals first
    | (exfalso; have hh := h'.out; simp_all; done)
    | (go_ret
       exact ⟨ret_int H.out.symm, (by repeat (first | exact Below.refl _ _ | assumption | refine Below.alloc ?_ (by simp; try omega) _ | refine Below.setCell ?_ (by simp; try omega) _ | refine Below.drew ?_))⟩)

theorem sessErr_3 {next : Int} {s : Sess} (h : withinB s.number 1 (next - 1) = false ∨ withinB s.size 0 300 = false ∨ withinB s.till 0 2199023255552 = false) : sessErr next s = 3 := by
  rcases h with h | h | h <;> simp [sessErr, h]
theorem sessErr_n {next : Int} {s : Sess} (h1 : withinB s.number 1 (next - 1) = true) (h2 : withinB s.size 0 300 = true) (h3 : withinB s.till 0 2199023255552 = true) :
    sessErr next s = if isName s.who then if s.size < s.text.length then 2 else 0 else 1 := by
  simp [sessErr, h1, h2, h3]

set_option maxRecDepth 100000 in
set_option maxHeartbeats 8000000 in
theorem checkR_rest (v : Value) (u : Upl) (w : World) (B : Nat) (h : upHead u = true) (hs0 : Sl Sess.cells 5 w B v u.sess) (hB0 : B ≤ w.heap.size) (ho : ∀ s ∈ u.sess, s.ok) :
    Calls Try.prog 24 #[.agg #[v, .int .i64 u.next, .int .i64 u.lasts, .int .i64 u.room]] w fun e w' => e = .returned (.int .i64 (upErr u)) ∧ Below w.heap.size w w' := by
  have hs := hs0.more hB0
  clear hs0
  obtain ⟨_, _, hn1, hn2⟩ := upHead_true h
  have k1 : withinB u.lasts 1 1000000 = true := by simp only [upHead, Bool.and_eq_true] at h; exact h.1.1
  have k2 : withinB u.room 0 100000 = true := by simp only [upHead, Bool.and_eq_true] at h; exact h.1.2
  have k3 : withinB u.next 1 1099511627776 = true := by simp only [upHead, Bool.and_eq_true] at h; exact h.2
  obtain ⟨A, cap, rfl, hl, _, _⟩ := hs.form
  by_cases hlen : 20 < u.sess.length
  · have H : Hid (upErr u = 2) := by show upErr u = 2; simp [upErr, h, hlen]
    clear h
    go_enter Try.func24, Try.ntmps24
    go_wp2_with (go_at_call 52; refine (withinR_any _ _ _ _).mono ?_; rintro e w' ⟨rfl, rfl⟩)
    go_ret
    exact ⟨ret_int H.out.symm, (by repeat (first | exact Below.refl _ _ | assumption | refine Below.alloc ?_ (by simp; try omega) _ | refine Below.setCell ?_ (by simp; try omega) _ | refine Below.drew ?_))⟩
  have H : Hid (upErr u = if firstErr (sessErr u.next) u.sess = 0 then (if (pairs u.sess).all numsUp then (if u.sess.all (roomOk u.sess u.room) then 0 else 10) else 4) else firstErr (sessErr u.next) u.sess) := by
    show upErr u = _
    simp only [upErr, h, if_neg hlen, if_true]
  clear h
  go_enter Try.func24, Try.ntmps24
  go_wp2_with (go_at_call 52; refine (withinR_any _ _ _ _).mono ?_; rintro e w' ⟨rfl, rfl⟩)
  clear k1 k2 k3
  go_loopw [4, 5, 43, 62, 67] (fun i _ _ _ _ wr => ∃ k : Nat, k ≤ u.sess.length ∧ i = .int .i64 k ∧ (u.sess.take k).all (fun s => sessErr u.next s == 0) = true ∧ Below (w.heap.size + 1) (w.alloc (.cells #[.slice A u.sess.length cap, .int .i64 u.next, .int .i64 u.lasts, .int .i64 u.room] 24)) wr) (fun i _ _ _ _ _ => u.sess.length - (intOf i).toNat)
  case atStart => exact ⟨0, Nat.zero_le _, rfl, rfl, Below.refl _ _⟩
  case round =>
    obtain ⟨k, hk, rfl, ha, hb⟩ := hrel
    have HA := Lib.hid ha
    clear ha
    have b0 := box_cell hb (by omega) 0 _ rfl
    have b1 := box_cell hb (by omega) 1 _ rfl
    have b2 := box_cell hb (by omega) 2 _ rfl
    have b3 := box_cell hb (by omega) 3 _ rfl
    have hz : w.heap.size < wr.heap.size := by have := hb.size; simp at this; omega
    have hbw : Below w.heap.size w wr := ((Below.refl _ w).alloc (Nat.le_refl _) _).trans (hb.mono (by omega))
    by_cases hlt : k < u.sess.length
    · obtain ⟨b, off, rfl, hB, c0, c1, c2, c3, c4⟩ := (hs.below hbw).sess hlt
      obtain ⟨ho1, ho2⟩ := ho _ (List.getElem_mem hlt)
      cases e1 : withinB u.sess[k].number 1 (u.next - 1) with
      | false =>
        have HX := Lib.hid (sessErr_3 (next := u.next) (.inl e1))
        have HF := Lib.hid (firstErr_hit (f := sessErr u.next) hlt HA.out (by rw [HX.out]; decide))
        go_wp2_with (first
          | (go_at_call 52; refine (withinR_any _ _ _ _).mono ?_; rintro e w' ⟨rfl, rfl⟩)
          | (go_at_call 29; refine (isNameR_any _ _ ho1).mono ?_; rintro e w' ⟨rfl, rfl⟩))
        go_ret
        exact ⟨ret_int (by rw [H.out, HF.out, HX.out]; rfl), hbw.alloc (by omega) _⟩
      | true =>
      cases e2 : withinB u.sess[k].size 0 300 with
      | false =>
        have HX := Lib.hid (sessErr_3 (next := u.next) (.inr (.inl e2)))
        have HF := Lib.hid (firstErr_hit (f := sessErr u.next) hlt HA.out (by rw [HX.out]; decide))
        go_wp2_with (first
          | (go_at_call 52; refine (withinR_any _ _ _ _).mono ?_; rintro e w' ⟨rfl, rfl⟩)
          | (go_at_call 29; refine (isNameR_any _ _ ho1).mono ?_; rintro e w' ⟨rfl, rfl⟩))
        go_ret
        exact ⟨ret_int (by rw [H.out, HF.out, HX.out]; rfl), hbw.alloc (by omega) _⟩
      | true =>
      cases e3 : withinB u.sess[k].till 0 2199023255552 with
      | false =>
        have HX := Lib.hid (sessErr_3 (next := u.next) (.inr (.inr e3)))
        have HF := Lib.hid (firstErr_hit (f := sessErr u.next) hlt HA.out (by rw [HX.out]; decide))
        go_wp2_with (first
          | (go_at_call 52; refine (withinR_any _ _ _ _).mono ?_; rintro e w' ⟨rfl, rfl⟩)
          | (go_at_call 29; refine (isNameR_any _ _ ho1).mono ?_; rintro e w' ⟨rfl, rfl⟩))
        go_ret
        exact ⟨ret_int (by rw [H.out, HF.out, HX.out]; rfl), hbw.alloc (by omega) _⟩
      | true =>
      have HN := sessErr_n e1 e2 e3
      cases e4 : isName u.sess[k].who with
      | false =>
        have HX : Hid (sessErr u.next u.sess[k] = 1) := by show sessErr u.next u.sess[k] = 1; rw [HN, e4]; rfl
        clear HN
        have HF := Lib.hid (firstErr_hit (f := sessErr u.next) hlt HA.out (by rw [HX.out]; decide))
        go_wp2_with (first
          | (go_at_call 52; refine (withinR_any _ _ _ _).mono ?_; rintro e w' ⟨rfl, rfl⟩)
          | (go_at_call 29; refine (isNameR_any _ _ ho1).mono ?_; rintro e w' ⟨rfl, rfl⟩))
        go_ret
        exact ⟨ret_int (by rw [H.out, HF.out, HX.out]; rfl), hbw.alloc (by omega) _⟩
      | true =>
      rw [e4, if_pos rfl] at HN
      by_cases e5 : u.sess[k].size < (u.sess[k].text.length : Int)
      · have HX : Hid (sessErr u.next u.sess[k] = 2) := by show sessErr u.next u.sess[k] = 2; rw [HN, if_pos e5]
        clear HN
        have HF := Lib.hid (firstErr_hit (f := sessErr u.next) hlt HA.out (by rw [HX.out]; decide))
        go_wp2_with (first
          | (go_at_call 52; refine (withinR_any _ _ _ _).mono ?_; rintro e w' ⟨rfl, rfl⟩)
          | (go_at_call 29; refine (isNameR_any _ _ ho1).mono ?_; rintro e w' ⟨rfl, rfl⟩))
        go_ret
        exact ⟨ret_int (by rw [H.out, HF.out, HX.out]; rfl), hbw.alloc (by omega) _⟩
      · have HS := Lib.hid (all_succ (p := fun s => sessErr u.next s == 0) hlt HA.out (by rw [beq_iff_eq, HN, if_neg e5]))
        clear HN
        go_wp2_with (first
          | (go_at_call 52; refine (withinR_any _ _ _ _).mono ?_; rintro e w' ⟨rfl, rfl⟩)
          | (go_at_call 29; refine (isNameR_any _ _ ho1).mono ?_; rintro e w' ⟨rfl, rfl⟩))
        go_roundw
        case rel => exact ⟨k + 1, by omega, by go_num, HS.out, hb.alloc (by omega) _⟩
        case measure => simp [intOf]; omega
    · have HE := Lib.hid (firstErr_none (f := sessErr u.next) hlt HA.out)
      go_wp2
      clear HA b0 b1 b2 b3 hz hlt hbw
      obtain ⟨w2, hw2⟩ : ∃ w2, w2 = wr := ⟨_, rfl⟩
      subst hw2
      go_loopw [6] (fun i wr => ∃ k : Nat, 1 ≤ k ∧ k ≤ u.sess.length + 1 ∧ i = .int .i64 k ∧ ((pairs u.sess).take (k - 1)).all numsUp = true ∧ Below w2.heap.size w2 wr) (fun i _ => u.sess.length + 1 - (intOf i).toNat)
      case atStart => exact ⟨1, by omega, by omega, rfl, by simp, Below.refl _ _⟩
      case round =>
        obtain ⟨i, hi1, hi2, rfl, ha, hb2⟩ := hrel
        have HA := Lib.hid ha
        clear ha
        have hb3 := hb.trans (hb2.mono (by have := hb.size; simp at this; omega))
        have b0 := box_cell hb3 (by omega) 0 _ rfl
        have b1 := box_cell hb3 (by omega) 1 _ rfl
        have b2 := box_cell hb3 (by omega) 2 _ rfl
        have b3 := box_cell hb3 (by omega) 3 _ rfl
        have hz : w.heap.size < wr.heap.size := by have := hb3.size; simp at this; omega
        have hbw : Below w.heap.size w wr := ((Below.refl _ w).alloc (Nat.le_refl _) _).trans (hb3.mono (by omega))
        by_cases hlt : i < u.sess.length
        · obtain ⟨b, off, rfl, hB, c0, _, _, _, _⟩ := (hs.below hbw).sess hlt
          obtain ⟨b', off', hA', _, d0, _, _, _, _⟩ := (hs.below hbw).sess (k := i - 1) (by omega)
          obtain ⟨rfl, rfl⟩ : b' = b ∧ off' = off := by injection hA' with h; injection h with h1 h2; exact ⟨h1.symm, h2.symm⟩
          clear hA'
          have hpl : i - 1 < (pairs u.sess).length := by rw [pairs_len]; omega
          have hpg : (pairs u.sess)[i - 1] = (u.sess[i - 1], u.sess[i]) := by
            rw [pairs_get hpl]; simp only [Nat.sub_add_cancel hi1]
          by_cases hc : u.sess[i].number ≤ u.sess[i - 1].number
          · have HF : Hid ((pairs u.sess).all numsUp = false) := all_bad hpl (by rw [hpg]; simp only [numsUp, decide_eq_false_iff_not]; omega)
            clear hpl hpg
            go_wp2
            go_quiet (fail)
            go_wp2
            go_ret
            refine ⟨ret_int ?_, ?_⟩
            · rw [H.out, if_pos (HE.out), HF.out]; rfl
            · exact below_dn hbw _
          · have HS : Hid (((pairs u.sess).take (i - 1 + 1)).all numsUp = true) := all_succ hpl HA.out (by rw [hpg]; simp only [numsUp, decide_eq_true_eq]; omega)
            clear hpl hpg
            go_wp2
            go_quiet (fail)
            go_wp2
            go_roundw
            case rel => exact ⟨i + 1, by omega, by omega, by go_num, by rw [show i + 1 - 1 = i - 1 + 1 from by omega]; exact HS.out, below_dn hb2 _⟩
            case measure => simp [intOf]; omega
        · have HP : Hid ((pairs u.sess).all numsUp = true) := all_end (k := i - 1) (by rw [pairs_len]; omega) HA.out
          go_wp2
          clear HA b0 b1 b2 b3 hz hlt hbw
          obtain ⟨w3, hw3⟩ : ∃ w3, w3 = wr := ⟨_, rfl⟩
          subst hw3
          go_loopw [7] (fun i wr => ∃ k : Nat, k ≤ u.sess.length ∧ i = .int .i64 k ∧ (u.sess.take k).all (roomOk u.sess u.room) = true ∧ Below w3.heap.size w3 wr) (fun i _ => u.sess.length - (intOf i).toNat)
          case atStart => exact ⟨0, by omega, rfl, by simp, Below.refl _ _⟩
          case round =>
            obtain ⟨k, hk, rfl, ha, hb4⟩ := hrel
            have HA := Lib.hid ha
            clear ha
            have hb5 := hb3.trans (hb4.mono (by have := hb3.size; simp at this; omega))
            have b0 := box_cell hb5 (by omega) 0 _ rfl
            have b1 := box_cell hb5 (by omega) 1 _ rfl
            have b2 := box_cell hb5 (by omega) 2 _ rfl
            have b3 := box_cell hb5 (by omega) 3 _ rfl
            have hz : w.heap.size < wr.heap.size := by have := hb5.size; simp at this; omega
            have hbw5 : Below w.heap.size w wr := ((Below.refl _ w).alloc (Nat.le_refl _) _).trans (hb5.mono (by omega))
            by_cases hlt : k < u.sess.length
            · have hsr := (hs.below hbw5)
              obtain ⟨b, off, rfl, hB, c0, c1, c2, c3, c4⟩ := hsr.sess hlt
              by_cases hc : openOf u.sess u.sess[k].who ≤ u.room
              · have HS := Lib.hid (all_succ (p := roomOk u.sess u.room) hlt HA.out (by simpa [roomOk] using hc))
                go_wp2
                go_quiet ((go_at_call 49; exact quiet_eq (openR_any _ u.sess _ _ w.heap.size (hsr.drewN' _))))
                go_wp2
                go_roundw
                case rel => exact ⟨k + 1, by omega, by go_num, HS.out, below_dn hb4 _⟩
                case measure => simp [intOf]; omega
              · have HF := Lib.hid (all_bad (p := roomOk u.sess u.room) hlt (by simpa [roomOk] using hc))
                go_wp2
                go_quiet ((go_at_call 49; exact quiet_eq (openR_any _ u.sess _ _ w.heap.size (hsr.drewN' _))))
                go_wp2
                go_ret
                exact ⟨ret_int (by rw [H.out, if_pos HE.out, if_pos HP.out, HF.out]; rfl), below_dn hbw5 _⟩
            · have HF := Lib.hid (all_end hlt HA.out)
              go_wp2
              go_ret
              exact ⟨ret_int (by rw [H.out, if_pos HE.out, if_pos HP.out, if_pos HF.out]), hbw5⟩

theorem checkR_any (v : Value) (u : Upl) (w : World) (B : Nat) (hs0 : Sl Sess.cells 5 w B v u.sess) (hB0 : B ≤ w.heap.size) (ho : ∀ s ∈ u.sess, s.ok) :
    Calls Try.prog 24 #[.agg #[v, .int .i64 u.next, .int .i64 u.lasts, .int .i64 u.room]] w fun e w' => e = .returned (.int .i64 (upErr u)) ∧ Below w.heap.size w w' := by
  cases h : upHead u with
  | true => exact checkR_rest v u w B h hs0 hB0 ho
  | false => exact checkR_head v u w h
end Go.Proofs.Ytdcigjpanpcaaaa
