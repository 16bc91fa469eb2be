import Derived.Test.YtahbbnfmbohmmaaDoorMz14
import Derived.Test.YtahbbnfmbohmmaaDoorMz8
import Derived.Test.YtahbbnfmbohmmaaDoorMz15
import Derived.Test.YtahbbnfmbohmmaaDoorMz7
set_option linter.unusedSimpArgs false
set_option linter.unnecessarySimpa false
set_option linter.unusedVariables false
set_option maxHeartbeats 1000000
namespace Go.Proofs.YtahbbnfmbohmmaaDoor
open Go.Ab Go.RowKit
set_option maxRecDepth 10000
attribute [local irreducible] Awp jU jo jz Red qt Go.Ab.Fin qr Rz vl jt jj ResOk jy jg yi qN
def Q6:qh:=[59]
theorem wx : ∀ (s:qh),(xJ s = none ∧ Lib.indexByte s 59 = -1) ∨ ∃ t r,xJ s = some (t,r) ∧ Lib.indexByte s 59 = (t.length:Int) ∧ s = t ++ 59 :: r
 | [] => .inl ⟨rfl,rfl⟩
 | c :: s=>by
   by_cases hc:c = 59
   ·subst hc
    exact .inr ⟨[],s,by simp [xJ],by simp [Lib.indexByte],rfl⟩
   ·have hb:(c == 59) = false:=by simp [hc]
    rcases wx s with ⟨h1,h2⟩|⟨t,r,h1,h2,h3⟩
    ·left
     refine ⟨by unfold xJ;rw [if_neg hc,h1],?_⟩
     unfold Lib.indexByte
     rw [hb,h2]
     rfl
    ·right
     refine ⟨c :: t,r,by unfold xJ;rw [if_neg hc,h1],?_,by rw [h3];rfl⟩
     unfold Lib.indexByte
     rw [hb,h2]
     have h9:((t.length:Int) == -1) = false:=by rw [beq_eq_false_iff_ne];omega
     rw [h9]
     simp
theorem wQ (s:qh):zp C.P 73 [.v (str s),.v (str Q6)] (.v (.int .i64 (Lib.indexByte s 59))):=by
 refine qc Tryd.func73 rfl _ Tryd.ntmps73 (Nat.le_of_ble_eq_true rfl) _ Tryd.results73 0 rfl rfl ?_
 repeat' (first|refine kJ ?_|(first|refine xsF Tryd.func83 (wP s 59 ..) ?_)|((first|refine g_sp_t ?_ ?_|refine g_sp_f ?_ ?_|refine xsC ?_ ?_);all_goals (intro hc;have hp:=hc;try simp at hp;try (exfalso;omega)))|refine jl ?_ ?_)
 all_goals try (exfalso;simp_all [Q6];done)
 all_goals (apply Jq;rfl;first|rfl|(have e:Q6 = s:=(by assumption);subst e;rfl))
theorem X9 (s:qh) (h:xJ s = none):zp C.P 68 [.v (str s),.v (str Q6)] (.tup [.v (str s),.v (str []),.v (.bool false)]):=by
 have hi:=wQ s
 have e:Lib.indexByte s 59 = -1:=by
  rcases wx s with ⟨_,h2⟩|⟨t,r,h1,_⟩
  ·exact h2
  ·rw [h] at h1;cases h1
 rw [e] at hi
 refine qc Tryd.func68 rfl _ Tryd.ntmps68 (Nat.le_of_ble_eq_true rfl) _ Tryd.results68 0 rfl rfl ?_
 repeat' (first|refine kJ ?_|(first|refine xsF Tryd.func73 (hi ..) ?_)|((first|refine xsC ?_ ?_);all_goals (intro hc;have hp:=hc;try simp at hp;try (exfalso;omega)))|refine jl ?_ ?_)
 all_goals try (exfalso;simp_all;done)
 all_goals ((refine jN (rs:=[.tmp 4,.tmp 5,.tmp 6]) ?_;(repeat' (first|exact jd|apply qQ|exact qL rfl|exact jX|exact xn|apply jv|apply jK|apply jw|apply jI|apply ji|apply jJ|refine xm ?_|apply yg));all_goals rfl))
theorem Va (s t r:qh) (hs:s.length ≤ 1000000000) (h:xJ s = some (t,r)):zp C.P 68 [.v (str s),.v (str Q6)] (.tup [.v (str t),.v (str r),.v (.bool true)]):=by
 have hi:=wQ s
 obtain ⟨e,e2⟩ : Lib.indexByte s 59 = (t.length:Int) ∧ s = t ++ 59 :: r:=by
  rcases wx s with ⟨h2,_⟩|⟨t',r',h1,h2,h3⟩
  ·rw [h] at h2;cases h2
  ·rw [h] at h1
   injection h1 with h1
   injection h1 with a b
   subst a b
   exact ⟨h2,h3⟩
 rw [e] at hi
 have hsl:s.length = t.length + (r.length + 1):=by rw [e2];simp
 have t1:(s.take t.length).drop 0 = t:=by rw [e2];simp
 have t2:(s.take s.length).drop (t.length + 1) = r:=by rw [List.take_length,e2,List.drop_append];simp
 clear h
 refine qc Tryd.func68 rfl _ Tryd.ntmps68 (Nat.le_of_ble_eq_true rfl) _ Tryd.results68 0 rfl rfl ?_
 repeat' (first|refine kJ ?_|(first|refine xsF Tryd.func73 (hi ..) ?_|(refine YU ?_))|((first|refine xsC ?_ ?_);all_goals (intro hc;have hp:=hc;try simp at hp;try (exfalso;omega)))|refine jl ?_ ?_)
 all_goals try (exfalso;omega)
 all_goals ((refine jN (rs:=[.tmp 4,.tmp 5,.tmp 6]) ?_;(repeat' (first|exact jd|apply qQ|exact qL rfl|exact jX|exact xn|apply jv|apply jK|apply jw|apply jI|apply ji|apply jJ|refine xm ?_|apply yg));all_goals first|exact t1|exact t2|rfl|trace_state))
theorem Xs (s:qh) (h:xJ s = none):zp C.P 59 [.v (str s),.v (str Q6)] (.tup [.v (str s),.v (str []),.v (.bool false)]):=by
 have hi:=X9 s h
 refine qc Tryd.func59 rfl _ Tryd.ntmps59 (Nat.le_of_ble_eq_true rfl) _ Tryd.results59 0 rfl rfl ?_
 repeat' (first|refine kJ ?_|(first|refine xsF Tryd.func68 (hi ..) ?_)|((first|refine xsC ?_ ?_);all_goals (intro hc;have hp:=hc;try simp at hp;try (exfalso;omega)))|refine jl ?_ ?_)
 all_goals ((refine jN (rs:=[.tmp 4,.tmp 5,.tmp 6]) ?_;(repeat' (first|exact jd|apply qQ|exact qL rfl|exact jX|exact xn|apply jv|apply jK|apply jw|apply jI|apply ji|apply jJ|refine xm ?_|apply yg));all_goals rfl))
theorem Je (s t r:qh) (hs:s.length ≤ 1000000000) (h:xJ s = some (t,r)):zp C.P 59 [.v (str s),.v (str Q6)] (.tup [.v (str t),.v (str r),.v (.bool true)]):=by
 have hi:=Va s t r hs h
 refine qc Tryd.func59 rfl _ Tryd.ntmps59 (Nat.le_of_ble_eq_true rfl) _ Tryd.results59 0 rfl rfl ?_
 repeat' (first|refine kJ ?_|(first|refine xsF Tryd.func68 (hi ..) ?_)|((first|refine xsC ?_ ?_);all_goals (intro hc;have hp:=hc;try simp at hp;try (exfalso;omega)))|refine jl ?_ ?_)
 all_goals ((refine jN (rs:=[.tmp 4,.tmp 5,.tmp 6]) ?_;(repeat' (first|exact jd|apply qQ|exact qL rfl|exact jX|exact xn|apply jv|apply jK|apply jw|apply jI|apply ji|apply jJ|refine xm ?_|apply yg));all_goals rfl))
theorem wV {w w' : World} {e:TypeId} (h:w' = w ∨ ∃ t,w' = Lib.bytesWorld w e t):Below w.heap.size w w':=by
 rcases h with rfl|⟨t,rfl⟩
 ·exact Below.refl _ _
 ·exact Lib.bytesWorld_below _ _ _
theorem JC {F:Still} {w:World} {g:Nat} (hg:yb g = some Jr) (hF : ∀ b o,F b = some o → w.heap[b]? = some o) (hT : ∀ b p,yb b = some p → ∃ cs e fr,p cs ∧ F b = some (.cells cs e fr)) : ∃ te pe,w.cell? ⟨g,0,none⟩ = some (.iface te pe):=by
 obtain ⟨cs,e,fr,⟨te,pe,rfl⟩,h⟩:=hT g _ hg
 exact ⟨te,pe,by simp [World.cell?,hF _ _ h]⟩
theorem Q8 {F:Still} {vs:List Value} {x:Value} (hm:AllM F noPlaces vs [.v x]):vs = [x]:=by
 match vs,hm with
 | [v],hm=>rw [(hm.2 0 v (.v x) rfl rfl).v_inv.1]
theorem Jd (t:qh) (n:Int) (ht:t.length ≤ 1000000000) (h:Lib.atoiAll t = .ok n):zp C.P 60 [.v (str t)] (.tup [.v (.int .i64 n),.v .nilIface]):=by
 refine kZ (by simp [AV.pure,AV.pure.pureL]) (.inl rfl) fun F w vs hF hT hm=>?_
 rw [Q8 hm]
 refine (Tryd.strconv_Atoi_ok ⟨t.toArray⟩ (by rw [yo];omega) n (by simpa using h) w).mono fun e w' ⟨he,hw⟩=>⟨⟨.nilIface,he,.v _ _ rfl⟩,wV hw⟩
theorem Xp (t:qh) (ht:t.length ≤ 1000000000) (h:Lib.atoiAll t = .«syntax»):zp C.P 60 [.v (str t)] (.tup [.v (.int .i64 0),.errv]):=by
 refine kZ (by simp [AV.pure,AV.pure.pureL]) (.inr rfl) fun F w vs hF hT hm=>?_
 rw [Q8 hm]
 obtain ⟨te,pe,hc⟩:=JC (g:=1) (by simp [yb,Xb]) hF hT
 refine (Tryd.strconv_Atoi_syntax ⟨t.toArray⟩ (by rw [yo];omega) (by simpa using h) _ w hc (.inr ⟨te,pe,rfl⟩)).mono fun e w' ⟨N,he,_,_,hw⟩=>⟨⟨_,he,.errv _ _ _⟩,hw⟩
theorem Xo (t:qh) (ht:t.length ≤ 1000000000) (h:Lib.atoiAll t = .range):zp C.P 60 [.v (str t)] (.tup [.v (.int .i64 (Lib.atoiSat t)),.errv]):=by
 refine kZ (by simp [AV.pure,AV.pure.pureL]) (.inr rfl) fun F w vs hF hT hm=>?_
 rw [Q8 hm]
 obtain ⟨te,pe,hc⟩:=JC (g:=2) (by simp [yb,Xb]) hF hT
 refine (Tryd.strconv_Atoi_range ⟨t.toArray⟩ (by rw [yo];omega) (by simpa using h) _ w hc (.inr ⟨te,pe,rfl⟩)).mono fun e w' ⟨N,he,_,_,hw⟩=>⟨⟨_,by simpa using he,.errv _ _ _⟩,hw⟩
end Go.Proofs.YtahbbnfmbohmmaaDoor
