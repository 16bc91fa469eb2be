import Derived.Test.YtamejbkifpjhiaaGreatDoorRows
import Derived.Test.YtamejbkifpjhiaaGreatDoorMz1
import Derived.Test.YtamejbkifpjhiaaGreatDoorMz3
import Derived.WalkSpells
import Derived.WalkLawsBesides
import Derived.Lib.Hide
import Derived.Deep.DeepCutAuto
namespace Go.Proofs.YtamejbkifpjhiaaGreatDoor
open Go.RowKit
theorem qgl : ∀ c:UInt8,decide (0 ≤ Lib.indexByte [45,95,46,40,41,32] c) = (c.toNat == 45 || c.toNat == 95 || c.toNat == 46 || c.toNat == 40 || c.toNat == 41 || c.toNat == 32):=by
 intro c
 have h : ∀ i:Fin 256,decide (0 ≤ Lib.indexByte [45,95,46,40,41,32] (UInt8.ofNat i.val)) = ((UInt8.ofNat i.val).toNat == 45 || (UInt8.ofNat i.val).toNat == 95 || (UInt8.ofNat i.val).toNat == 46 || (UInt8.ofNat i.val).toNat == 40 || (UInt8.ofNat i.val).toNat == 41 || (UInt8.ofNat i.val).toNat == 32):=by
  decide +kernel
 have:=h ⟨c.toNat,c.toNat_lt⟩
 simpa using this
theorem zF {a b:Bool} (h:a = b):Ending.returned (.bool a) = .returned (.bool b):=by rw [h]
set_option maxHeartbeats 400000 in
theorem qbX (c:UInt8) (w:World) :
  Calls Tryz.prog 220 #[.int .u8 c.toNat] w fun e w'=>e = .returned (.bool (Zl c)) ∧ w = w':=by
 go_enter Tryz.func220,Tryz.ntmps220
 go_wp2_with (go_at_call 221;refine (Tryz.strings_IndexByte _ _ _).mono ?_;rintro e w' ⟨rfl,rfl⟩)
 all_goals
  go_ret
  refine ⟨zF ?_,rfl⟩
  try rw [qgl]
  rw [Bool.eq_iff_iff]
  simp [Zl]
  try omega
set_option maxHeartbeats 400000 in
theorem VN (s:qP) (w:World) (hs:s.length ≤ 9223372036854775807) :
  Calls Tryz.prog 191 #[.string ⟨s.toArray⟩] w fun e w'=>e = .returned (.bool (yq s)) ∧ w = w':=by
 by_cases h0:s = []
 ·subst h0
  go_enter Tryz.func191,Tryz.ntmps191
  go_wp2
  go_ret
  exact ⟨rfl,rfl⟩
 by_cases h1:20 < s.length
 ·go_enter Tryz.func191,Tryz.ntmps191
  go_wp2
  go_ret
  exact ⟨zF (by have:¬ s.length ≤ 20:=by omega
                simp [yq,this]),rfl⟩
 by_cases h2:s = [46]
 ·subst h2
  go_enter Tryz.func191,Tryz.ntmps191
  go_wp2
  go_ret
  exact ⟨rfl,rfl⟩
 by_cases h3:s = [46,46]
 ·subst h3
  go_enter Tryz.func191,Tryz.ntmps191
  go_wp2
  go_ret
  exact ⟨rfl,rfl⟩
 have hp:=List.length_pos_iff.2 h0
 have g0:s.isEmpty = false:=by simpa using h0
 have g2:(s == [46]) = false:=by simpa using h2
 have g3:(s == [46,46]) = false:=by simpa using h3
 by_cases h4:s[0] = 32
 ·have H:Hid (yq s = false):=by
   show yq s = false
   cases s with
   | nil=>simp at hp
   | cons a t=>simp at h4;simp [yq,h4]
  have f4:(((ByteArray.mk s.toArray)[0]'hp).toNat:Int) = 32:=by
   show ((s[0].toNat:Nat):Int) = 32
   rw [h4];rfl
  clear h0 h2 h3 h4
  go_enter Tryz.func191,Tryz.ntmps191
  go_wp2
  go_ret
  exact ⟨zF (by rw [H.out]),rfl⟩
 have f4:((((ByteArray.mk s.toArray)[0]'hp).toNat:Int) == 32) = false:=by
  show (((s[0].toNat:Nat):Int) == 32) = false
  rw [beq_eq_false_iff_ne];intro h;exact h4 (by have:s[0].toNat = 32:=by omega
                                                exact UInt8.toNat_inj.1 this)
 have f4' : ¬ ((((ByteArray.mk s.toArray)[0]'hp).toNat:Int) = 32):=by simpa using f4
 by_cases h5:s[s.length - 1] = 32
 ·have H:Hid (yq s = false):=by
   show yq s = false
   have:s.getLast? = some 32:=by rw [List.getLast?_eq_getElem?,List.getElem?_eq_getElem (by omega),h5]
   simp [yq,this]
  have f5:(((ByteArray.mk s.toArray)[s.length - 1]'(by show s.length - 1 < s.length;omega)).toNat:Int) = 32:=by
   show ((s[s.length - 1].toNat:Nat):Int) = 32
   rw [h5];rfl
  clear h0 h2 h3 h4 h5
  go_enter Tryz.func191,Tryz.ntmps191
  go_wp2
  go_ret
  exact ⟨zF (by rw [H.out]),rfl⟩
 have f5:((((ByteArray.mk s.toArray)[s.length - 1]'(by show s.length - 1 < s.length;omega)).toNat:Int) == 32) = false:=by
  show (((s[s.length - 1].toNat:Nat):Int) == 32) = false
  rw [beq_eq_false_iff_ne];intro h;exact h5 (by have:s[s.length - 1].toNat = 32:=by omega
                                                exact UInt8.toNat_inj.1 this)
 have f5' : ¬ ((((ByteArray.mk s.toArray)[s.length - 1]'(by show s.length - 1 < s.length;omega)).toNat:Int) = 32):=by simpa using f5
 have H:Hid (yq s = s.all Zl):=by
  show yq s = s.all Zl
  have e4:s.head? ≠ some 32:=by rw [List.head?_eq_getElem?,List.getElem?_eq_getElem hp];simpa using h4
  have e5:s.getLast? ≠ some 32:=by rw [List.getLast?_eq_getElem?,List.getElem?_eq_getElem (by omega)];simpa using h5
  simp [yq,h0,h2,h3,e4,e5,Nat.le_of_not_lt h1]
 clear h0 h2 h3 h4 h5
 go_enter Tryz.func191,Tryz.ntmps191
 go_wp2
 go_loop [4,35] (fun _ i => ∃ k:Nat,k ≤ s.length ∧ i = .int .i64 k ∧ (s.take k).all Zl = true) (fun _ i=>s.length - (intOf i).toNat)
 case atStart=>exact ⟨0,Nat.zero_le _,rfl,rfl⟩
 case round =>
  obtain ⟨k,hk,rfl,ha⟩:=hrel
  have HA:=Lib.hid ha
  clear ha f4 f4' f5 f5' g0 g2 g3
  by_cases hlt:k < s.length
  ·cases hb:Zl s[k] with
   | true =>
     have hb1:Zl ((ByteArray.mk s.toArray)[k]'hlt) = true:=hb
     have HB:=Lib.hid hb
     clear hb
     go_wp2_with (go_at_call 220;refine (qbX _ _).mono ?_;rintro e w' ⟨rfl,rfl⟩)
     go_round
     case rel=>exact ⟨k + 1,by omega,by go_num,by rw [Zh hlt,List.all_append,HA.out];simp [HB.out]⟩
     case measure=>simp [intOf];omega
   | false =>
     have hb1:Zl ((ByteArray.mk s.toArray)[k]'hlt) = false:=hb
     have HB:=Lib.hid hb
     clear hb
     go_wp2_with (go_at_call 220;refine (qbX _ _).mono ?_;rintro e w' ⟨rfl,rfl⟩)
     go_ret
     refine ⟨zF ?_,rfl⟩
     rw [H.out]
     symm
     rw [List.all_eq_false]
     exact ⟨s[k],List.getElem_mem hlt,by simp [HB.out]⟩
  ·go_wp2
   go_ret
   obtain rfl:k = s.length:=by omega
   refine ⟨zF ?_,rfl⟩
   rw [H.out, ← HA.out,List.take_length]
end Go.Proofs.YtamejbkifpjhiaaGreatDoor
namespace Go.Proofs.YtamejbkifpjhiaaGreatDoor
open Go.RowKit
def Kw (s:qP) (k:Nat):Bool:=(s.take k).all Zl && (k == 0 || s.head? != some 32) && (decide (k < s.length) || s.getLast? != some 32)
theorem qcM {s:qP} {k:Nat} (hk:k < s.length) (h:Kw s k = true) (hb:Zl s[k] = true) (hs:(s[k].toNat:Int) = 32 → ¬ k = 0 ∧ ¬ k + 1 = s.length):Kw s (k + 1) = true:=by
 have hs' : s[k] = 32 → ¬ k = 0 ∧ ¬ k + 1 = s.length:=fun e=>hs (by rw [e];rfl)
 simp only [Kw,Bool.and_eq_true] at h ⊢
 obtain ⟨⟨h1,h2⟩,h3⟩:=h
 refine ⟨⟨?_,?_⟩,?_⟩
 ·rw [Zh hk,List.all_append,h1];simp [hb]
 ·rcases Nat.eq_zero_or_pos k with rfl|hp
  ·rw [List.head?_eq_getElem?,List.getElem?_eq_getElem hk]
   simp only [bne_iff_ne,Bool.or_eq_true,ne_eq,Option.some.injEq]
   exact .inr fun e=>(hs' e).1 rfl
  ·simp only [Bool.or_eq_true,beq_iff_eq] at h2 ⊢
   rcases h2 with h2|h2
   ·omega
   ·exact .inr h2
 ·by_cases he:k + 1 = s.length
  ·rw [List.getLast?_eq_getElem?, ← he,Nat.add_sub_cancel,List.getElem?_eq_getElem hk]
   simp only [bne_iff_ne,Bool.or_eq_true,ne_eq,Option.some.injEq]
   exact .inr fun e=>(hs' e).2 he
  ·simp only [Bool.or_eq_true,decide_eq_true_eq];exact .inl (by omega)
theorem qei {s:qP} {k:Nat} (hk:k < s.length) (hb:Zl s[k] = false):yq s = false:=by
 have:s.all Zl = false:=by rw [List.all_eq_false];exact ⟨_,List.getElem_mem hk,by simp [hb]⟩
 simp [yq,this]
theorem qcJ {s:qP} {k:Nat} (hk:k < s.length) (hb:(s[k].toNat:Int) = 32) (h:k = 0 ∨ k + 1 = s.length):yq s = false:=by
 have hb' : s[k] = 32:=UInt8.toNat_inj.1 (by show s[k].toNat = 32;omega)
 rcases h with rfl|h
 ·have:s.head? = some 32:=by rw [List.head?_eq_getElem?,List.getElem?_eq_getElem hk,hb']
  simp [yq,this]
 ·have:s.getLast? = some 32:=by rw [List.getLast?_eq_getElem?, ← h,Nat.add_sub_cancel,List.getElem?_eq_getElem hk,hb']
  simp [yq,this]
theorem qej {s:qP} (h:Kw s s.length = true):yq s = (!s.isEmpty && decide (s.length ≤ 20) && s != [46] && s != [46,46]):=by
 simp only [Kw,Bool.and_eq_true,List.take_length] at h
 obtain ⟨⟨h1,h2⟩,h3⟩:=h
 cases s with
 | nil=>rfl
 | cons a t =>
   have h2' : (List.head? (a :: t) != some 32) = true:=by simpa using h2
   have h3' : (List.getLast? (a :: t) != some 32) = true:=by simpa using h3
   simp only [yq,h1,h2',h3',Bool.and_true]
theorem qcN (s:qP):Kw s 0 = true:=by
 cases s<;>simp [Kw]
set_option maxRecDepth 100000 in
set_option maxHeartbeats 4000000 in
theorem WC (s:qP) (w:World) (hs:s.length ≤ 9223372036854775807) :
  Calls Tryz.prog 125 #[.string ⟨s.toArray⟩] w fun e w'=>e = .returned (.bool (yq s)) ∧ w = w':=by
 go_enter Tryz.func125,Tryz.ntmps125
 go_wp2
 go_loop [3,4,5] (fun i _ _ => ∃ k:Nat,k ≤ s.length ∧ i = .int .i64 k ∧ Kw s k = true) (fun i _ _=>s.length - (intOf i).toNat)
 case atStart=>exact ⟨0,Nat.zero_le _,rfl,qcN s⟩
 case round =>
  obtain ⟨k,hk,rfl,ha⟩:=hrel
  have HA:=Lib.hid ha
  clear ha
  by_cases hlt:k < s.length
  ·generalize hc:(ByteArray.mk s.toArray)[k]'hlt = c
   have hc':=Lib.hid hc
   go_upto_region 5 with (fail)
   clear hc
   go_cut [4,5] (fun s4 s5 wx=>s4 = .int .u8 c.toNat ∧ s5 = .bool (Zl c) ∧ wx = w)
   case first =>
    go_wp2
    all_goals go_meet
    all_goals
     case rel =>
      refine ⟨by first|rfl|simp [*],?_,rfl⟩
      congr 1
      rw [Bool.eq_iff_iff]
      simp [Zl]
      try omega
   case rest =>
    obtain ⟨rfl,rfl,rfl⟩:=hcut
    have hcs:s[k] = c:=hc'.out
    have B1:Hid (Zl c = true → ((c.toNat:Int) = 32 → ¬ k = 0 ∧ ¬ k + 1 = s.length) → Kw s (k + 1) = true):=fun h1 h2=>qcM hlt HA.out (by rw [hcs];exact h1) (by rw [hcs];exact h2)
    have B2:Hid (¬ Zl c = true → yq s = false):=fun h=>qei hlt (by rw [hcs];simpa using h)
    have B3:Hid ((c.toNat:Int) = 32 → (k = 0 ∨ k + 1 = s.length) → yq s = false):=fun h1 h2=>qcJ hlt (by rw [hcs];exact h1) h2
    clear hcs hc'
    by_cases h1:Zl c = true
    ·by_cases h2:(c.toNat:Int) = 32
     ·by_cases h3:k = 0
      ·go_wp2
       go_ret
       exact ⟨zF (B3.out h2 (.inl h3)).symm,rfl⟩
      ·by_cases h4:k + 1 = s.length
       ·have h4' : ((k:Int) == (s.length:Int) - 1) = true:=by rw [beq_iff_eq];omega
        have H4:=Lib.hid h4
        clear h4
        go_wp2
        go_ret
        exact ⟨zF (B3.out h2 (.inr H4.out)).symm,rfl⟩
       ·have h4' : ((k:Int) == (s.length:Int) - 1) = false:=by rw [beq_eq_false_iff_ne];omega
        go_wp2
        go_round
        case rel=>exact ⟨k + 1,by omega,by go_num,B1.out h1 (fun _=>⟨h3,h4⟩)⟩
        case measure=>simp [intOf];omega
     ·go_wp2
      go_round
      case rel=>exact ⟨k + 1,by omega,by go_num,B1.out h1 (fun h=>absurd h h2)⟩
      case measure=>simp [intOf];omega
    ·go_wp2
     go_ret
     exact ⟨zF (B2.out h1).symm,rfl⟩
  ·obtain rfl:k = s.length:=by omega
   have HE:=Lib.hid (qej HA.out)
   go_wp2
   all_goals
    go_ret
    refine ⟨zF ?_,rfl⟩
    first
     | rfl
     | (rw [HE.out,show decide (List.length s ≤ 20) = true from by rw [decide_eq_true_iff];omega,Bool.and_true];rfl)
     | (rw [HE.out,show decide (List.length s ≤ 20) = false from by rw [decide_eq_false_iff_not];omega];simp;done)
end Go.Proofs.YtamejbkifpjhiaaGreatDoor
