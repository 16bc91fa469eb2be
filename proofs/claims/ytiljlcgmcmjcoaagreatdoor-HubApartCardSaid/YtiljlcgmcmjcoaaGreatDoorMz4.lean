import Derived.Test.YtiljlcgmcmjcoaaGreatDoorRows
import Derived.Test.YtiljlcgmcmjcoaaGreatDoorMz0
import Derived.Test.YtiljlcgmcmjcoaaGreatDoorMz3
import Derived.WalkSpells
import Derived.WalkLawsBesides
import Derived.Lib.Hide
import Derived.Deep.DeepCutAuto
/- path.IsName and the reference's IsName: both answer isName. -/
namespace Go.Proofs.YtiljlcgmcmjcoaaGreatDoor
open Go.RowKit

theorem idx_ok : ∀ c : UInt8, decide (0 ≤ Lib.indexByte [45, 95, 46, 40, 41, 32] c) = (c.toNat == 45 || c.toNat == 95 || c.toNat == 46 || c.toNat == 40 || c.toNat == 41 || c.toNat == 32) := by
  intro c
  have h : ∀ i : Fin 256, decide (0 ≤ Lib.indexByte [45, 95, 46, 40, 41, 32] (UInt8.ofNat i.val)) = ((UInt8.ofNat i.val).toNat == 45 || (UInt8.ofNat i.val).toNat == 95 || (UInt8.ofNat i.val).toNat == 46 || (UInt8.ofNat i.val).toNat == 40 || (UInt8.ofNat i.val).toNat == 41 || (UInt8.ofNat i.val).toNat == 32) := by
    decide +kernel
  have := h ⟨c.toNat, c.toNat_lt⟩
  simpa using this

theorem ret_bool {a b : Bool} (h : a = b) : Ending.returned (.bool a) = .returned (.bool b) := by rw [h]
set_option maxHeartbeats 400000 in
theorem okc_any (c : UInt8) (w : World) :
    Calls Tryz.prog 72 #[.int .u8 c.toNat] w fun e w' => e = .returned (.bool (okB c)) ∧ w = w' := by
  go_enter Tryz.func72, Tryz.ntmps72
  go_wp2_with (go_at_call 73; refine (Tryz.strings_IndexByte _ _ _).mono ?_; rintro e w' ⟨rfl, rfl⟩)
  all_goals
    go_ret
    refine ⟨ret_bool ?_, rfl⟩
    try rw [idx_ok]
    rw [Bool.eq_iff_iff]
    simp [okB]
    try omega

theorem isName_len {s : Str} (h : isName s = true) : 0 < s.length ∧ s.length ≤ 20 := by
  simp [isName] at h
  have := List.length_pos_iff.2 h.1.1.1.1.1.1
  omega

set_option maxHeartbeats 400000 in
theorem isName_any (s : Str) (w : World) (hs : s.length ≤ 9223372036854775807) :
    Calls Tryz.prog 37 #[.string ⟨s.toArray⟩] w fun e w' => e = .returned (.bool (isName s)) ∧ w = w' := by
  by_cases h0 : s = []
  · subst h0
    go_enter Tryz.func37, Tryz.ntmps37
    go_wp2
    go_ret
    exact ⟨rfl, rfl⟩
  by_cases h1 : 20 < s.length
  · go_enter Tryz.func37, Tryz.ntmps37
    go_wp2
    go_ret
    exact ⟨ret_bool (by have : ¬ s.length ≤ 20 := by omega
                        simp [isName, this]), rfl⟩
  by_cases h2 : s = [46]
  · subst h2
    go_enter Tryz.func37, Tryz.ntmps37
    go_wp2
    go_ret
    exact ⟨rfl, rfl⟩
  by_cases h3 : s = [46, 46]
  · subst h3
    go_enter Tryz.func37, Tryz.ntmps37
    go_wp2
    go_ret
    exact ⟨rfl, rfl⟩
  have hp := List.length_pos_iff.2 h0
  have g0 : s.isEmpty = false := by simpa using h0
  have g2 : (s == [46]) = false := by simpa using h2
  have g3 : (s == [46, 46]) = false := by simpa using h3
  by_cases h4 : s[0] = 32
  · have H : Hid (isName s = false) := by
      show isName s = false
      cases s with
      | nil => simp at hp
      | cons a t => simp at h4; simp [isName, h4]
    have f4 : (((ByteArray.mk s.toArray)[0]'hp).toNat : Int) = 32 := by
      show ((s[0].toNat : Nat) : Int) = 32
      rw [h4]; rfl
    clear h0 h2 h3 h4
    go_enter Tryz.func37, Tryz.ntmps37
    go_wp2
    go_ret
    exact ⟨ret_bool (by rw [H.out]), rfl⟩
  have f4 : ((((ByteArray.mk s.toArray)[0]'hp).toNat : Int) == 32) = false := by
    show (((s[0].toNat : Nat) : Int) == 32) = false
    rw [beq_eq_false_iff_ne]; intro h; exact h4 (by have : s[0].toNat = 32 := by omega
                                                    exact UInt8.toNat_inj.1 this)
  have f4' : ¬ ((((ByteArray.mk s.toArray)[0]'hp).toNat : Int) = 32) := by simpa using f4
  by_cases h5 : s[s.length - 1] = 32
  · have H : Hid (isName s = false) := by
      show isName s = false
      have : s.getLast? = some 32 := by rw [List.getLast?_eq_getElem?, List.getElem?_eq_getElem (by omega), h5]
      simp [isName, this]
    have f5 : (((ByteArray.mk s.toArray)[s.length - 1]'(by show s.length - 1 < s.length; omega)).toNat : Int) = 32 := by
      show ((s[s.length - 1].toNat : Nat) : Int) = 32
      rw [h5]; rfl
    clear h0 h2 h3 h4 h5
    go_enter Tryz.func37, Tryz.ntmps37
    go_wp2
    go_ret
    exact ⟨ret_bool (by rw [H.out]), rfl⟩
  have f5 : ((((ByteArray.mk s.toArray)[s.length - 1]'(by show s.length - 1 < s.length; omega)).toNat : Int) == 32) = false := by
    show (((s[s.length - 1].toNat : Nat) : Int) == 32) = false
    rw [beq_eq_false_iff_ne]; intro h; exact h5 (by have : s[s.length - 1].toNat = 32 := by omega
                                                    exact UInt8.toNat_inj.1 this)
  have f5' : ¬ ((((ByteArray.mk s.toArray)[s.length - 1]'(by show s.length - 1 < s.length; omega)).toNat : Int) = 32) := by simpa using f5
  have H : Hid (isName s = s.all okB) := by
    show isName s = s.all okB
    have e4 : s.head? ≠ some 32 := by rw [List.head?_eq_getElem?, List.getElem?_eq_getElem hp]; simpa using h4
    have e5 : s.getLast? ≠ some 32 := by rw [List.getLast?_eq_getElem?, List.getElem?_eq_getElem (by omega)]; simpa using h5
    simp [isName, h0, h2, h3, e4, e5, Nat.le_of_not_lt h1]
  clear h0 h2 h3 h4 h5
  go_enter Tryz.func37, Tryz.ntmps37
  go_wp2
  go_loop [4, 35] (fun _ i => ∃ k : Nat, k ≤ s.length ∧ i = .int .i64 k ∧ (s.take k).all okB = true) (fun _ i => s.length - (intOf i).toNat)
  case atStart => exact ⟨0, Nat.zero_le _, rfl, rfl⟩
  case round =>
    obtain ⟨k, hk, rfl, ha⟩ := hrel
    have HA := Lib.hid ha
    clear ha f4 f4' f5 f5' g0 g2 g3
    by_cases hlt : k < s.length
    · cases hb : okB s[k] with
      | true =>
        have hb1 : okB ((ByteArray.mk s.toArray)[k]'hlt) = true := hb
        have HB := Lib.hid hb
        clear hb
        go_wp2_with (go_at_call 72; refine (okc_any _ _).mono ?_; rintro e w' ⟨rfl, rfl⟩)
        go_round
        case rel => exact ⟨k + 1, by omega, by go_num, by rw [take_succ' hlt, List.all_append, HA.out]; simp [HB.out]⟩
        case measure => simp [intOf]; omega
      | false =>
        have hb1 : okB ((ByteArray.mk s.toArray)[k]'hlt) = false := hb
        have HB := Lib.hid hb
        clear hb
        go_wp2_with (go_at_call 72; refine (okc_any _ _).mono ?_; rintro e w' ⟨rfl, rfl⟩)
        go_ret
        refine ⟨ret_bool ?_, rfl⟩
        rw [H.out]
        symm
        rw [List.all_eq_false]
        exact ⟨s[k], List.getElem_mem hlt, by simp [HB.out]⟩
    · go_wp2
      go_ret
      obtain rfl : k = s.length := by omega
      refine ⟨ret_bool ?_, rfl⟩
      rw [H.out, ← HA.out, List.take_length]
end Go.Proofs.YtiljlcgmcmjcoaaGreatDoor

/- The reference's IsName answers isName. -/
namespace Go.Proofs.YtiljlcgmcmjcoaaGreatDoor
open Go.RowKit

end Go.Proofs.YtiljlcgmcmjcoaaGreatDoor
