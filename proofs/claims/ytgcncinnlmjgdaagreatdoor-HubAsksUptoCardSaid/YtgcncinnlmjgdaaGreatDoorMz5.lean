import Derived.Test.YtgcncinnlmjgdaaGreatDoorRows
import Derived.Test.YtgcncinnlmjgdaaGreatDoorMz0
import Derived.Test.YtgcncinnlmjgdaaGreatDoorMz4
import Derived.WalkSpells
import Derived.WalkLawsBesides
import Derived.Lib.Hide
import Derived.Deep.DeepCutAuto
set_option maxHeartbeats 400000
namespace Go.Proofs.YtgcncinnlmjgdaaGreatDoor
open Go.RowKit
theorem qom : ∀ c:UInt8,decide (0 ≤ Lib.indexByte [45,95,46,40,41,32] c) = (c.toNat == 45 || c.toNat == 95 || c.toNat == 46 || c.toNat == 40 || c.toNat == 41 || c.toNat == 32):=by
 intro c
 have h : ∀ i:Fin 256,decide (0 ≤ Lib.indexByte [45,95,46,40,41,32] (UInt8.ofNat i.val)) = ((UInt8.ofNat i.val).toNat == 45 || (UInt8.ofNat i.val).toNat == 95 || (UInt8.ofNat i.val).toNat == 46 || (UInt8.ofNat i.val).toNat == 40 || (UInt8.ofNat i.val).toNat == 41 || (UInt8.ofNat i.val).toNat == 32):=by
  decide +kernel
 have:=h ⟨c.toNat,c.toNat_lt⟩;simpa using this
theorem Jz {a b:Bool} (h:a = b):Ending.returned (.bool a) = .returned (.bool b):=by rw [h]
theorem qhE (c:UInt8) (w:World) :
  Calls Tryz.prog 113 #[.int .u8 c.toNat] w fun e w'=>e = .returned (.bool (okB c)) ∧ w = w':=by
 go_enter Tryz.func113,Tryz.ntmps113
 go_wp2_with (go_at_call 114;refine (Tryz.strings_IndexByte _ _ _).mono ?_;rintro e w' ⟨rfl,rfl⟩)
 all_goals
  go_ret
  refine ⟨Jz ?_,rfl⟩
  try rw [qom]
  rw [Bool.eq_iff_iff];simp [okB]
  try omega
theorem qfP {s:qb} (h:qj s = true):0 < s.length ∧ s.length ≤ 20:=by
 simp [qj] at h;have:=List.length_pos_iff.2 h.1.1.1.1.1.1;omega
theorem JZ (s:qb) (w:World) (hs:s.length ≤ 9223372036854775807) :
  Calls Tryz.prog 49 #[.string ⟨s.toArray⟩] w fun e w'=>e = .returned (.bool (qj s)) ∧ w = w':=by
 by_cases h0:s = []
 ·subst h0
  go_enter Tryz.func49,Tryz.ntmps49
  go_wp2
  go_ret
  exact ⟨rfl,rfl⟩
 by_cases h1:20 < s.length
 ·go_enter Tryz.func49,Tryz.ntmps49
  go_wp2
  go_ret
  exact ⟨Jz (by have:¬ s.length ≤ 20:=by omega
                simp [qj,this]),rfl⟩
 by_cases h2:s = [46]
 ·subst h2
  go_enter Tryz.func49,Tryz.ntmps49
  go_wp2
  go_ret
  exact ⟨rfl,rfl⟩
 by_cases h3:s = [46,46]
 ·subst h3
  go_enter Tryz.func49,Tryz.ntmps49
  go_wp2
  go_ret
  exact ⟨rfl,rfl⟩
 have hp:=List.length_pos_iff.2 h0;have g0:s.isEmpty = false:=by simpa using h0
 have g2:(s == [46]) = false:=by simpa using h2
 have g3:(s == [46,46]) = false:=by simpa using h3
 by_cases h4:s[0] = 32
 ·have H:Hid (qj s = false):=by
   show qj s = false
   cases s with
   | nil=>simp at hp
   | cons a t=>simp at h4;simp [qj,h4]
  have f4:(((ByteArray.mk s.toArray)[0]'hp).toNat:Int) = 32:=by
   show ((s[0].toNat:Nat):Int) = 32;rw [h4];rfl
  clear h0 h2 h3 h4
  go_enter Tryz.func49,Tryz.ntmps49
  go_wp2
  go_ret
  exact ⟨Jz (by rw [H.out]),rfl⟩
 have f4:((((ByteArray.mk s.toArray)[0]'hp).toNat:Int) == 32) = false:=by
  show (((s[0].toNat:Nat):Int) == 32) = false
  rw [beq_eq_false_iff_ne];intro h;exact h4 (by have:s[0].toNat = 32:=by omega
                                                exact UInt8.toNat_inj.1 this)
 have f4' : ¬ ((((ByteArray.mk s.toArray)[0]'hp).toNat:Int) = 32):=by simpa using f4
 by_cases h5:s[s.length - 1] = 32
 ·have H:Hid (qj s = false):=by
   show qj s = false;have:s.getLast? = some 32:=by rw [List.getLast?_eq_getElem?,List.getElem?_eq_getElem (by omega),h5]
   simp [qj,this]
  have f5:(((ByteArray.mk s.toArray)[s.length - 1]'(by show s.length - 1 < s.length;omega)).toNat:Int) = 32:=by
   show ((s[s.length - 1].toNat:Nat):Int) = 32;rw [h5];rfl
  clear h0 h2 h3 h4 h5
  go_enter Tryz.func49,Tryz.ntmps49
  go_wp2
  go_ret
  exact ⟨Jz (by rw [H.out]),rfl⟩
 have f5:((((ByteArray.mk s.toArray)[s.length - 1]'(by show s.length - 1 < s.length;omega)).toNat:Int) == 32) = false:=by
  show (((s[s.length - 1].toNat:Nat):Int) == 32) = false
  rw [beq_eq_false_iff_ne];intro h;exact h5 (by have:s[s.length - 1].toNat = 32:=by omega
                                                exact UInt8.toNat_inj.1 this)
 have f5' : ¬ ((((ByteArray.mk s.toArray)[s.length - 1]'(by show s.length - 1 < s.length;omega)).toNat:Int) = 32):=by simpa using f5
 have H:Hid (qj s = s.all okB):=by
  show qj s = s.all okB;have e4:s.head? ≠ some 32:=by rw [List.head?_eq_getElem?,List.getElem?_eq_getElem hp];simpa using h4
  have e5:s.getLast? ≠ some 32:=by rw [List.getLast?_eq_getElem?,List.getElem?_eq_getElem (by omega)];simpa using h5
  simp [qj,h0,h2,h3,e4,e5,Nat.le_of_not_lt h1]
 clear h0 h2 h3 h4 h5
 go_enter Tryz.func49,Tryz.ntmps49
 go_wp2
 go_loop [4,35] (fun _ i => ∃ k:Nat,k ≤ s.length ∧ i = .int .i64 k ∧ (s.take k).all okB = true) (fun _ i=>s.length - (intOf i).toNat)
 case atStart=>exact ⟨0,Nat.zero_le _,rfl,rfl⟩
 case round =>
  obtain ⟨k,hk,rfl,ha⟩:=hrel;have HA:=Lib.hid ha;clear ha f4 f4' f5 f5' g0 g2 g3;by_cases hlt:k < s.length
  ·cases hb:okB s[k] with
   | true =>
     have hb1:okB ((ByteArray.mk s.toArray)[k]'hlt) = true:=hb;have HB:=Lib.hid hb;clear hb
     go_wp2_with (go_at_call 113;refine (qhE _ _).mono ?_;rintro e w' ⟨rfl,rfl⟩)
     go_round
     case rel=>exact ⟨k + 1,by omega,by go_num,by rw [qgM hlt,List.all_append,HA.out];simp [HB.out]⟩
     case measure=>simp [intOf];omega
   | false =>
     have hb1:okB ((ByteArray.mk s.toArray)[k]'hlt) = false:=hb;have HB:=Lib.hid hb;clear hb
     go_wp2_with (go_at_call 113;refine (qhE _ _).mono ?_;rintro e w' ⟨rfl,rfl⟩)
     go_ret
     refine ⟨Jz ?_,rfl⟩;rw [H.out];symm;rw [List.all_eq_false];exact ⟨s[k],List.getElem_mem hlt,by simp [HB.out]⟩
  ·go_wp2
   go_ret
   obtain rfl:k = s.length:=by omega
   refine ⟨Jz ?_,rfl⟩;rw [H.out, ← HA.out,List.take_length]
end Go.Proofs.YtgcncinnlmjgdaaGreatDoor
