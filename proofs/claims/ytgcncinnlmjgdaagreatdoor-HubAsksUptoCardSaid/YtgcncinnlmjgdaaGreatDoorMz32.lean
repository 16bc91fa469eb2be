import Derived.Test.YtgcncinnlmjgdaaGreatDoorMz30
import Derived.Test.YtgcncinnlmjgdaaGreatDoorMz8
import Derived.Test.YtgcncinnlmjgdaaGreatDoorMz31
import Derived.Test.YtgcncinnlmjgdaaGreatDoorMz7
set_option linter.unusedSimpArgs false
set_option linter.unnecessarySimpa false
set_option linter.unusedVariables false
set_option maxHeartbeats 1000000
set_option maxRecDepth 10000
namespace Go.Proofs.YtgcncinnlmjgdaaGreatDoor
open Go.Ab Go.RowKit
attribute [local irreducible] Awp j9 jr ye Red qz Go.Ab.Fin qf Rz wz jF jU ResOk yA j1 xR qX
def qgF:qb:=[59]
theorem qcr : ∀ (s:qb),(Yn s = none ∧ Lib.indexByte s 59 = -1) ∨ ∃ t r,Yn s = some (t,r) ∧ Lib.indexByte s 59 = (t.length:Int) ∧ s = t ++ 59 :: r
 | [] => .inl ⟨rfl,rfl⟩
 | c :: s=>by
   by_cases hc:c = 59
   ·subst hc;exact .inr ⟨[],s,by simp [Yn],by simp [Lib.indexByte],rfl⟩
   ·have hb:(c == 59) = false:=by simp [hc]
    rcases qcr s with ⟨h1,h2⟩|⟨t,r,h1,h2,h3⟩
    ·left;refine ⟨by unfold Yn;rw [if_neg hc,h1],?_⟩;unfold Lib.indexByte;rw [hb,h2];rfl
    ·right;refine ⟨c :: t,r,by unfold Yn;rw [if_neg hc,h1],?_,by rw [h3];rfl⟩;unfold Lib.indexByte;rw [hb,h2];have h9:((t.length:Int) == -1) = false:=by rw [beq_eq_false_iff_ne];omega
     rw [h9];simp
theorem qdj (s:qb):jN C.P 183 [.v (str s),.v (str qgF)] (.v (.int .i64 (Lib.indexByte s 59))):=by
 refine qJ 0 ?_
 repeat' (first|refine qg ?_|(first|refine jT (qdg s 59 ..) ?_)|(refine xsS ?_ ?_;all_goals first|exact False.elim|intro hp hc)|refine xsA ?_ ?_)
 all_goals try (exfalso;simp_all [qgF];done)
 all_goals (apply qI;rfl;first|rfl|(have e:qgF = s:=(by assumption);subst e;rfl))
theorem qnV (s:qb) (h:Yn s = none):jN C.P 151 [.v (str s),.v (str qgF)] (.tup [.v (str s),.v (str []),.v (.bool false)]):=by
 have hi:=qdj s
 have e:Lib.indexByte s 59 = -1:=by
  rcases qcr s with ⟨_,h2⟩|⟨t,r,h1,_⟩
  ·exact h2
  ·rw [h] at h1;cases h1
 rw [e] at hi;refine qJ 0 ?_
 repeat' (first|refine qg ?_|(first|refine jT (hi ..) ?_)|(refine xsS ?_ ?_;all_goals first|exact False.elim|intro hp hc)|refine xsA ?_ ?_)
 all_goals try (exfalso;simp_all;done)
 all_goals ((exact Jd (rs:=[.tmp 4,.tmp 5,.tmp 6]) (hz:=Vb)))
theorem qnW (s t r:qb) (hs:s.length ≤ 1000000000) (h:Yn s = some (t,r)):jN C.P 151 [.v (str s),.v (str qgF)] (.tup [.v (str t),.v (str r),.v (.bool true)]):=by
 have hi:=qdj s
 obtain ⟨e,e2⟩ : Lib.indexByte s 59 = (t.length:Int) ∧ s = t ++ 59 :: r:=by
  rcases qcr s with ⟨h2,_⟩|⟨t',r',h1,h2,h3⟩
  ·rw [h] at h2;cases h2
  ·rw [h] at h1;injection h1 with h1;injection h1 with a b;subst a b;exact ⟨h2,h3⟩
 rw [e] at hi;have hsl:s.length = t.length + (r.length + 1):=by rw [e2];simp
 have t1:(s.take t.length).drop 0 = t:=by rw [e2];simp
 have t2:(s.take s.length).drop (t.length + 1) = r:=by rw [List.take_length,e2,List.drop_append];simp
 clear h;refine qJ 0 ?_
 repeat' (first|refine qg ?_|(first|refine jT (hi ..) ?_|(refine qhD ?_))|(refine xsS ?_ ?_;all_goals first|exact False.elim|intro hp hc)|refine xsA ?_ ?_)
 all_goals try (exfalso;omega)
 all_goals ((exact Jd (rs:=[.tmp 4,.tmp 5,.tmp 6]) (hz:=by (repeat' (first|exact jX|apply qH|exact ju rfl|exact zP|exact Kc|apply vn|apply kP|apply vo|apply kN|apply vR|apply kO|refine Kb ?_|apply JD));all_goals first|exact t1|exact t2|rfl|trace_state)))
theorem qmf (s:qb) (h:Yn s = none):jN C.P 108 [.v (str s),.v (str qgF)] (.tup [.v (str s),.v (str []),.v (.bool false)]):=by
 have hi:=qnV s h;refine qJ 0 ?_
 repeat' (first|refine qg ?_|(first|refine jT (hi ..) ?_)|(refine xsS ?_ ?_;all_goals first|exact False.elim|intro hp hc)|refine xsA ?_ ?_)
 all_goals ((exact Jd (rs:=[.tmp 4,.tmp 5,.tmp 6]) (hz:=Vb)))
theorem qgZ (s t r:qb) (hs:s.length ≤ 1000000000) (h:Yn s = some (t,r)):jN C.P 108 [.v (str s),.v (str qgF)] (.tup [.v (str t),.v (str r),.v (.bool true)]):=by
 have hi:=qnW s t r hs h;refine qJ 0 ?_
 repeat' (first|refine qg ?_|(first|refine jT (hi ..) ?_)|(refine xsS ?_ ?_;all_goals first|exact False.elim|intro hp hc)|refine xsA ?_ ?_)
 all_goals ((exact Jd (rs:=[.tmp 4,.tmp 5,.tmp 6]) (hz:=Vb)))
theorem qdw {w w' : World} {e:TypeId} (h:w' = w ∨ ∃ t,w' = Lib.bytesWorld w e t):Below w.heap.size w w':=by
 rcases h with rfl|⟨t,rfl⟩
 ·exact Below.refl _ _
 ·exact Lib.bytesWorld_below _ _ _
theorem qhQ {F:Still} {w:World} {g:Nat} (hg:vY g = some QE) (hF : ∀ b o,F b = some o → w.heap[b]? = some o) (hT : ∀ b p,vY b = some p → ∃ cs e fr,p cs ∧ F b = some (.cells cs e fr)) : ∃ te pe,w.cell? ⟨g,0,none⟩ = some (.iface te pe):=by
 obtain ⟨cs,e,fr,⟨te,pe,rfl⟩,h⟩:=hT g _ hg;exact ⟨te,pe,by simp [World.cell?,hF _ _ h]⟩
theorem qgP {F:Still} {vs:List Value} {x:Value} (hm:AllM F noPlaces vs [.v x]):vs = [x]:=by
 match vs,hm with
 | [v],hm=>rw [(hm.2 0 v (.v x) rfl rfl).v_inv.1]
theorem qgX (t:qb) (n:Int) (ht:t.length ≤ 1000000000) (h:Lib.atoiAll t = .ok n):jN C.P 109 [.v (str t)] (.tup [.v (.int .i64 n),.v .nilIface]):=by
 refine qb1 (by simp [AV.pure,AV.pure.pureL]) (.inl rfl) fun F w vs hF hT hm=>?_
 rw [qgP hm]
 refine (Tryz.strconv_Atoi_ok ⟨t.toArray⟩ (by rw [kr];omega) n (by simpa using h) w).mono fun e w' ⟨he,hw⟩=>⟨⟨.nilIface,he,.v _ _ rfl⟩,qdw hw⟩
theorem qmb (t:qb) (ht:t.length ≤ 1000000000) (h:Lib.atoiAll t = Lib.NumEnd.syntax):jN C.P 109 [.v (str t)] (.tup [.v (.int .i64 0),.errv]):=by
 refine qb1 (by simp [AV.pure,AV.pure.pureL]) (.inr rfl) fun F w vs hF hT hm=>?_
 rw [qgP hm];obtain ⟨te,pe,hc⟩:=qhQ (g:=1) (by simp [vY,qlM]) hF hT
 refine (Tryz.strconv_Atoi_syntax ⟨t.toArray⟩ (by rw [kr];omega) (by simpa using h) _ w hc (.inr ⟨te,pe,rfl⟩)).mono fun e w' ⟨N,he,_,_,hw⟩=>⟨⟨_,he,.errv _ _ _⟩,hw⟩
theorem qma (t:qb) (ht:t.length ≤ 1000000000) (h:Lib.atoiAll t = .range):jN C.P 109 [.v (str t)] (.tup [.v (.int .i64 (Lib.atoiSat t)),.errv]):=by
 refine qb1 (by simp [AV.pure,AV.pure.pureL]) (.inr rfl) fun F w vs hF hT hm=>?_
 rw [qgP hm];obtain ⟨te,pe,hc⟩:=qhQ (g:=2) (by simp [vY,qlM]) hF hT
 refine (Tryz.strconv_Atoi_range ⟨t.toArray⟩ (by rw [kr];omega) (by simpa using h) _ w hc (.inr ⟨te,pe,rfl⟩)).mono fun e w' ⟨N,he,_,_,hw⟩=>⟨⟨_,by simpa using he,.errv _ _ _⟩,hw⟩
end Go.Proofs.YtgcncinnlmjgdaaGreatDoor
