import Derived.Test.YtahbbnfmbohmmaaDoorMz15
import Derived.Test.YtahbbnfmbohmmaaDoorMz13
import Derived.Test.YtahbbnfmbohmmaaDoorMz16
import Derived.Test.YtahbbnfmbohmmaaDoorMz5
set_option linter.unusedSimpArgs false
set_option linter.unnecessarySimpa false
set_option linter.unusedVariables false
set_option maxHeartbeats 1000000
namespace Go.Proofs.YtahbbnfmbohmmaaDoor
open Go.Ab Go.RowKit
set_option maxRecDepth 10000
attribute [local irreducible] Awp jE qY qK Red qA Go.Ab.Fin qp Rz yL qJ qE ResOk jl qL jA qB
def X8:qj:=[59]
theorem J8 : ∀ (s:qj),(zg s = none ∧ Lib.indexByte s 59 = -1) ∨ ∃ t r,zg s = some (t,r) ∧ Lib.indexByte s 59 = (t.length:Int) ∧ s = t ++ 59 :: r
 | [] => .inl ⟨rfl,rfl⟩
 | c :: s=>by
   by_cases hc:c = 59
   ·subst hc
    exact .inr ⟨[],s,by simp [zg],by simp [Lib.indexByte],rfl⟩
   ·have hb:(c == 59) = false:=by simp [hc]
    rcases J8 s with ⟨h1,h2⟩|⟨t,r,h1,h2,h3⟩
    ·left
     refine ⟨by unfold zg;rw [if_neg hc,h1],?_⟩
     unfold Lib.indexByte
     rw [hb,h2]
     rfl
    ·right
     refine ⟨c :: t,r,by unfold zg;rw [if_neg hc,h1],?_,by rw [h3];rfl⟩
     unfold Lib.indexByte
     rw [hb,h2]
     have h9:((t.length:Int) == -1) = false:=by rw [beq_eq_false_iff_ne];omega
     rw [h9]
     simp
theorem Yu (s:qj):zb C.P 73 [.v (str s),.v (str X8)] (.v (.int .i64 (Lib.indexByte s 59))):=by
 refine qf Tryd.func73 rfl _ Tryd.ntmps73 (Nat.le_of_ble_eq_true rfl) _ Tryd.results73 0 rfl rfl ?_
 repeat' (first|refine zi ?_|(first|refine xsF Tryd.func83 (Yt s 59 ..) ?_)|((first|(apply qb;rfl;rfl;exact nle rfl)|(apply qa;rfl;rfl;exact nle rfl)|refine xsC ?_ ?_);all_goals (intro hc;have hp:=hc;try simp at hp;try (exfalso;omega)))|refine jm ?_ ?_)
 all_goals try (exfalso;simp_all [X8];done)
 all_goals (apply Vx;rfl;first|rfl|(have e:X8 = s:=(by assumption);subst e;rfl))
theorem WR (s:qj) (h:zg s = none):zb C.P 68 [.v (str s),.v (str X8)] (.tup [.v (str s),.v (str []),.v (.bool false)]):=by
 have hi:=Yu s
 have e:Lib.indexByte s 59 = -1:=by
  rcases J8 s with ⟨_,h2⟩|⟨t,r,h1,_⟩
  ·exact h2
  ·rw [h] at h1;cases h1
 rw [e] at hi
 refine qf Tryd.func68 rfl _ Tryd.ntmps68 (Nat.le_of_ble_eq_true rfl) _ Tryd.results68 0 rfl rfl ?_
 repeat' (first|refine zi ?_|(first|refine xsF Tryd.func73 (hi ..) ?_)|((first|refine xsC ?_ ?_);all_goals (intro hc;have hp:=hc;try simp at hp;try (exfalso;omega)))|refine jm ?_ ?_)
 all_goals try (exfalso;simp_all;done)
 all_goals ((refine yd (rs:=[.tmp 4,.tmp 5,.tmp 6]) ?_;(repeat' (first|exact jC|apply jp|exact jg rfl|exact yo|exact vo|apply jS|apply j7|apply jT|apply j5|apply jG|apply j6|refine vn ?_|apply yM));all_goals rfl))
theorem WT (s t r:qj) (hs:s.length ≤ 1000000000) (h:zg s = some (t,r)):zb C.P 68 [.v (str s),.v (str X8)] (.tup [.v (str t),.v (str r),.v (.bool true)]):=by
 have hi:=Yu s
 obtain ⟨e,e2⟩ : Lib.indexByte s 59 = (t.length:Int) ∧ s = t ++ 59 :: r:=by
  rcases J8 s with ⟨h2,_⟩|⟨t',r',h1,h2,h3⟩
  ·rw [h] at h2;cases h2
  ·rw [h] at h1
   injection h1 with h1
   injection h1 with a b
   subst a b
   exact ⟨h2,h3⟩
 rw [e] at hi
 have hsl:s.length = t.length + (r.length + 1):=by rw [e2];simp
 have t1:(s.take t.length).drop 0 = t:=by rw [e2];simp
 have t2:(s.take s.length).drop (t.length + 1) = r:=by rw [List.take_length,e2,List.drop_append];simp
 clear h
 refine qf Tryd.func68 rfl _ Tryd.ntmps68 (Nat.le_of_ble_eq_true rfl) _ Tryd.results68 0 rfl rfl ?_
 repeat' (first|refine zi ?_|(first|refine xsF Tryd.func73 (hi ..) ?_|(refine Ks ?_))|((first|refine xsC ?_ ?_);all_goals (intro hc;have hp:=hc;try simp at hp;try (exfalso;omega)))|refine jm ?_ ?_)
 all_goals try (exfalso;omega)
 all_goals ((refine yd (rs:=[.tmp 4,.tmp 5,.tmp 6]) ?_;(repeat' (first|exact jC|apply jp|exact jg rfl|exact yo|exact vo|apply jS|apply j7|apply jT|apply j5|apply jG|apply j6|refine vn ?_|apply yM));all_goals first|exact t1|exact t2|rfl|trace_state))
theorem K1 (s:qj) (h:zg s = none):zb C.P 59 [.v (str s),.v (str X8)] (.tup [.v (str s),.v (str []),.v (.bool false)]):=by
 have hi:=WR s h
 refine qf Tryd.func59 rfl _ Tryd.ntmps59 (Nat.le_of_ble_eq_true rfl) _ Tryd.results59 0 rfl rfl ?_
 repeat' (first|refine zi ?_|(first|refine xsF Tryd.func68 (hi ..) ?_)|((first|refine xsC ?_ ?_);all_goals (intro hc;have hp:=hc;try simp at hp;try (exfalso;omega)))|refine jm ?_ ?_)
 all_goals ((refine yd (rs:=[.tmp 4,.tmp 5,.tmp 6]) ?_;(repeat' (first|exact jC|apply jp|exact jg rfl|exact yo|exact vo|apply jS|apply j7|apply jT|apply j5|apply jG|apply j6|refine vn ?_|apply yM));all_goals rfl))
theorem Vj (s t r:qj) (hs:s.length ≤ 1000000000) (h:zg s = some (t,r)):zb C.P 59 [.v (str s),.v (str X8)] (.tup [.v (str t),.v (str r),.v (.bool true)]):=by
 have hi:=WT s t r hs h
 refine qf Tryd.func59 rfl _ Tryd.ntmps59 (Nat.le_of_ble_eq_true rfl) _ Tryd.results59 0 rfl rfl ?_
 repeat' (first|refine zi ?_|(first|refine xsF Tryd.func68 (hi ..) ?_)|((first|refine xsC ?_ ?_);all_goals (intro hc;have hp:=hc;try simp at hp;try (exfalso;omega)))|refine jm ?_ ?_)
 all_goals ((refine yd (rs:=[.tmp 4,.tmp 5,.tmp 6]) ?_;(repeat' (first|exact jC|apply jp|exact jg rfl|exact yo|exact vo|apply jS|apply j7|apply jT|apply j5|apply jG|apply j6|refine vn ?_|apply yM));all_goals rfl))
theorem YB {w w' : World} {e:TypeId} (h:w' = w ∨ ∃ t,w' = Lib.bytesWorld w e t):Below w.heap.size w w':=by
 rcases h with rfl|⟨t,rfl⟩
 ·exact Below.refl _ _
 ·exact Lib.bytesWorld_below _ _ _
theorem VK {F:Still} {w:World} {g:Nat} (hg:yZ g = some QA) (hF : ∀ b o,F b = some o → w.heap[b]? = some o) (hT : ∀ b p,yZ b = some p → ∃ cs e fr,p cs ∧ F b = some (.cells cs e fr)) : ∃ te pe,w.cell? ⟨g,0,none⟩ = some (.iface te pe):=by
 obtain ⟨cs,e,fr,⟨te,pe,rfl⟩,h⟩:=hT g _ hg
 exact ⟨te,pe,by simp [World.cell?,hF _ _ h]⟩
theorem Vc {F:Still} {vs:List Value} {x:Value} (hm:AllM F noPlaces vs [.v x]):vs = [x]:=by
 match vs,hm with
 | [v],hm=>rw [(hm.2 0 v (.v x) rfl rfl).v_inv.1]
theorem Vi (t:qj) (n:Int) (ht:t.length ≤ 1000000000) (h:Lib.atoiAll t = .ok n):zb C.P 60 [.v (str t)] (.tup [.v (.int .i64 n),.v .nilIface]):=by
 refine JH (by simp [AV.pure,AV.pure.pureL]) (.inl rfl) fun F w vs hF hT hm=>?_
 rw [Vc hm]
 refine (Tryd.strconv_Atoi_ok ⟨t.toArray⟩ (by rw [xn];omega) n (by simpa using h) w).mono fun e w' ⟨he,hw⟩=>⟨⟨.nilIface,he,.v _ _ rfl⟩,YB hw⟩
theorem KY (t:qj) (ht:t.length ≤ 1000000000) (h:Lib.atoiAll t = Lib.NumEnd.syntax):zb C.P 60 [.v (str t)] (.tup [.v (.int .i64 0),.errv]):=by
 refine JH (by simp [AV.pure,AV.pure.pureL]) (.inr rfl) fun F w vs hF hT hm=>?_
 rw [Vc hm]
 obtain ⟨te,pe,hc⟩:=VK (g:=1) (by simp [yZ,KJ]) hF hT
 refine (Tryd.strconv_Atoi_syntax ⟨t.toArray⟩ (by rw [xn];omega) (by simpa using h) _ w hc (.inr ⟨te,pe,rfl⟩)).mono fun e w' ⟨N,he,_,_,hw⟩=>⟨⟨_,he,.errv _ _ _⟩,hw⟩
theorem KX (t:qj) (ht:t.length ≤ 1000000000) (h:Lib.atoiAll t = .range):zb C.P 60 [.v (str t)] (.tup [.v (.int .i64 (Lib.atoiSat t)),.errv]):=by
 refine JH (by simp [AV.pure,AV.pure.pureL]) (.inr rfl) fun F w vs hF hT hm=>?_
 rw [Vc hm]
 obtain ⟨te,pe,hc⟩:=VK (g:=2) (by simp [yZ,KJ]) hF hT
 refine (Tryd.strconv_Atoi_range ⟨t.toArray⟩ (by rw [xn];omega) (by simpa using h) _ w hc (.inr ⟨te,pe,rfl⟩)).mono fun e w' ⟨N,he,_,_,hw⟩=>⟨⟨_,by simpa using he,.errv _ _ _⟩,hw⟩
end Go.Proofs.YtahbbnfmbohmmaaDoor
