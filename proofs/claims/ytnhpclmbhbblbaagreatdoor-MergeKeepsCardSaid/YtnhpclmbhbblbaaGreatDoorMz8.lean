import Derived.Test.YtnhpclmbhbblbaaGreatDoorRows
import Derived.Test.YtnhpclmbhbblbaaGreatDoorMz1
import Derived.Test.YtnhpclmbhbblbaaGreatDoorMz7
import Derived.WalkSpells
import Derived.WalkLawsBesides
import Derived.Lib.Hide
import Derived.Deep.DeepCutAuto
namespace Go.Proofs.YtnhpclmbhbblbaaGreatDoor
open Go.RowKit
theorem qbw : ∀ c:UInt8,decide (0 ≤ Lib.indexByte [45,95,46,40,41,32] c) = (c.toNat == 45 || c.toNat == 95 || c.toNat == 46 || c.toNat == 40 || c.toNat == 41 || c.toNat == 32):=by
 intro c
 have h : ∀ i:Fin 256,decide (0 ≤ Lib.indexByte [45,95,46,40,41,32] (UInt8.ofNat i.val)) = ((UInt8.ofNat i.val).toNat == 45 || (UInt8.ofNat i.val).toNat == 95 || (UInt8.ofNat i.val).toNat == 46 || (UInt8.ofNat i.val).toNat == 40 || (UInt8.ofNat i.val).toNat == 41 || (UInt8.ofNat i.val).toNat == 32):=by
  decide +kernel
 have:=h ⟨c.toNat,c.toNat_lt⟩
 simpa using this
theorem zN {a b:Bool} (h:a = b):Ending.returned (.bool a) = .returned (.bool b):=by rw [h]
set_option maxHeartbeats 400000 in
theorem Z1 (c:UInt8) (w:World) :
  Calls Tryz.prog 83 #[.int .u8 c.toNat] w fun e w'=>e = .returned (.bool (KH c)) ∧ w = w':=by
 go_enter Tryz.func83,Tryz.ntmps83
 go_wp2_with (go_at_call 84;refine (Tryz.strings_IndexByte _ _ _).mono ?_;rintro e w' ⟨rfl,rfl⟩)
 all_goals
  go_ret
  refine ⟨zN ?_,rfl⟩
  try rw [qbw]
  rw [Bool.eq_iff_iff]
  simp [KH]
  try omega
set_option maxHeartbeats 400000 in
theorem J2 (s:qx) (w:World) (hs:s.length ≤ 9223372036854775807) :
  Calls Tryz.prog 53 #[.string ⟨s.toArray⟩] w fun e w'=>e = .returned (.bool (yb s)) ∧ w = w':=by
 by_cases h0:s = []
 ·subst h0
  go_enter Tryz.func53,Tryz.ntmps53
  go_wp2
  go_ret
  exact ⟨rfl,rfl⟩
 by_cases h1:20 < s.length
 ·go_enter Tryz.func53,Tryz.ntmps53
  go_wp2
  go_ret
  exact ⟨zN (by have:¬ s.length ≤ 20:=by omega
                simp [yb,this]),rfl⟩
 by_cases h2:s = [46]
 ·subst h2
  go_enter Tryz.func53,Tryz.ntmps53
  go_wp2
  go_ret
  exact ⟨rfl,rfl⟩
 by_cases h3:s = [46,46]
 ·subst h3
  go_enter Tryz.func53,Tryz.ntmps53
  go_wp2
  go_ret
  exact ⟨rfl,rfl⟩
 have hp:=List.length_pos_iff.2 h0
 have g0:s.isEmpty = false:=by simpa using h0
 have g2:(s == [46]) = false:=by simpa using h2
 have g3:(s == [46,46]) = false:=by simpa using h3
 by_cases h4:s[0] = 32
 ·have H:Hid (yb s = false):=by
   show yb s = false
   cases s with
   | nil=>simp at hp
   | cons a t=>simp at h4;simp [yb,h4]
  have f4:(((ByteArray.mk s.toArray)[0]'hp).toNat:Int) = 32:=by
   show ((s[0].toNat:Nat):Int) = 32
   rw [h4];rfl
  clear h0 h2 h3 h4
  go_enter Tryz.func53,Tryz.ntmps53
  go_wp2
  go_ret
  exact ⟨zN (by rw [H.out]),rfl⟩
 have f4:((((ByteArray.mk s.toArray)[0]'hp).toNat:Int) == 32) = false:=by
  show (((s[0].toNat:Nat):Int) == 32) = false
  rw [beq_eq_false_iff_ne];intro h;exact h4 (by have:s[0].toNat = 32:=by omega
                                                exact UInt8.toNat_inj.1 this)
 have f4' : ¬ ((((ByteArray.mk s.toArray)[0]'hp).toNat:Int) = 32):=by simpa using f4
 by_cases h5:s[s.length - 1] = 32
 ·have H:Hid (yb s = false):=by
   show yb s = false
   have:s.getLast? = some 32:=by rw [List.getLast?_eq_getElem?,List.getElem?_eq_getElem (by omega),h5]
   simp [yb,this]
  have f5:(((ByteArray.mk s.toArray)[s.length - 1]'(by show s.length - 1 < s.length;omega)).toNat:Int) = 32:=by
   show ((s[s.length - 1].toNat:Nat):Int) = 32
   rw [h5];rfl
  clear h0 h2 h3 h4 h5
  go_enter Tryz.func53,Tryz.ntmps53
  go_wp2
  go_ret
  exact ⟨zN (by rw [H.out]),rfl⟩
 have f5:((((ByteArray.mk s.toArray)[s.length - 1]'(by show s.length - 1 < s.length;omega)).toNat:Int) == 32) = false:=by
  show (((s[s.length - 1].toNat:Nat):Int) == 32) = false
  rw [beq_eq_false_iff_ne];intro h;exact h5 (by have:s[s.length - 1].toNat = 32:=by omega
                                                exact UInt8.toNat_inj.1 this)
 have f5' : ¬ ((((ByteArray.mk s.toArray)[s.length - 1]'(by show s.length - 1 < s.length;omega)).toNat:Int) = 32):=by simpa using f5
 have H:Hid (yb s = s.all KH):=by
  show yb s = s.all KH
  have e4:s.head? ≠ some 32:=by rw [List.head?_eq_getElem?,List.getElem?_eq_getElem hp];simpa using h4
  have e5:s.getLast? ≠ some 32:=by rw [List.getLast?_eq_getElem?,List.getElem?_eq_getElem (by omega)];simpa using h5
  simp [yb,h0,h2,h3,e4,e5,Nat.le_of_not_lt h1]
 clear h0 h2 h3 h4 h5
 go_enter Tryz.func53,Tryz.ntmps53
 go_wp2
 go_loop [4,35] (fun _ i => ∃ k:Nat,k ≤ s.length ∧ i = .int .i64 k ∧ (s.take k).all KH = true) (fun _ i=>s.length - (intOf i).toNat)
 case atStart=>exact ⟨0,Nat.zero_le _,rfl,rfl⟩
 case round =>
  obtain ⟨k,hk,rfl,ha⟩:=hrel
  have HA:=Lib.hid ha
  clear ha f4 f4' f5 f5' g0 g2 g3
  by_cases hlt:k < s.length
  ·cases hb:KH s[k] with
   | true =>
     have hb1:KH ((ByteArray.mk s.toArray)[k]'hlt) = true:=hb
     have HB:=Lib.hid hb
     clear hb
     go_wp2_with (go_at_call 83;refine (Z1 _ _).mono ?_;rintro e w' ⟨rfl,rfl⟩)
     go_round
     case rel=>exact ⟨k + 1,by omega,by go_num,by rw [ZI hlt,List.all_append,HA.out];simp [HB.out]⟩
     case measure=>simp [intOf];omega
   | false =>
     have hb1:KH ((ByteArray.mk s.toArray)[k]'hlt) = false:=hb
     have HB:=Lib.hid hb
     clear hb
     go_wp2_with (go_at_call 83;refine (Z1 _ _).mono ?_;rintro e w' ⟨rfl,rfl⟩)
     go_ret
     refine ⟨zN ?_,rfl⟩
     rw [H.out]
     symm
     rw [List.all_eq_false]
     exact ⟨s[k],List.getElem_mem hlt,by simp [HB.out]⟩
  ·go_wp2
   go_ret
   obtain rfl:k = s.length:=by omega
   refine ⟨zN ?_,rfl⟩
   rw [H.out, ← HA.out,List.take_length]
end Go.Proofs.YtnhpclmbhbblbaaGreatDoor
namespace Go.Proofs.YtnhpclmbhbblbaaGreatDoor
open Go.RowKit
end Go.Proofs.YtnhpclmbhbblbaaGreatDoor
