import Derived.Test.YtnhpclmbhbblbaaGreatDoorMz33
import Derived.Test.YtnhpclmbhbblbaaGreatDoorMz15
import Derived.Test.YtnhpclmbhbblbaaGreatDoorMz14
import Derived.Test.YtnhpclmbhbblbaaGreatDoorMz31
import Derived.Test.YtnhpclmbhbblbaaGreatDoorMz26
import Derived.Test.YtnhpclmbhbblbaaGreatDoorMz9
import Derived.Test.YtnhpclmbhbblbaaGreatDoorMz12
import Derived.Test.YtnhpclmbhbblbaaGreatDoorMz16
set_option linter.unusedSimpArgs false
set_option linter.unnecessarySimpa false
set_option linter.unusedVariables false
namespace Go.Proofs.YtnhpclmbhbblbaaGreatDoor
open Go.Ab Go.RowKit
set_option maxRecDepth 10000
attribute [local irreducible] Awp yl jE jl Red qX Go.Ab.Fin qW Rz vl jj ji ResOk jV jz yb jv
theorem qgL (t:List Ent) (p:qQ):(xa (atP p) t = -1 ∧ stT t p = noT) ∨ ∃ (k:Nat) (h:k < t.length),xa (atP p) t = k ∧ stT t p = xO t[k]:=by
 rcases Yb (atP p) t with ⟨h1,h2⟩|⟨k,hk,h1,h2⟩
 ·exact .inl ⟨h1,by unfold stT q7;rw [h2]⟩
 ·exact .inr ⟨k,hk,h1,by unfold stT q7;rw [h2]⟩
end Go.Proofs.YtnhpclmbhbblbaaGreatDoor
set_option linter.unusedSimpArgs false
set_option linter.unnecessarySimpa false
set_option linter.unusedVariables false
namespace Go.Proofs.YtnhpclmbhbblbaaGreatDoor
open Go.Ab
theorem Zd {l:List qQ} {s:qQ} {k:Nat} (hs:¬ s ∈ l) (hk:k ≤ l.length) (h1 : ∀ x,x ∈ l.take k → Op.bytesLess x s = true) (h2 : ∀ h:k < l.length,Op.bytesLess l[k] s = false):zE l s = l.take k ++ s :: l.drop k:=by
 unfold zE
 rw [if_neg hs]
 have hl:l = l.take k ++ l.drop k:=(List.take_append_drop k l).symm
 have e1:l.takeWhile (fun x=>Op.bytesLess x s) = l.take k:=by
  conv=>lhs;rw [hl]
  rw [List.takeWhile_append_of_pos h1]
  by_cases hlt:k < l.length
  ·rw [List.drop_eq_getElem_cons hlt,List.takeWhile_cons_of_neg (by rw [h2 hlt];decide),List.append_nil]
  ·rw [List.drop_eq_nil_of_le (by omega)];simp
 have e2:l.dropWhile (fun x=>Op.bytesLess x s) = l.drop k:=by
  have h:=List.takeWhile_append_dropWhile (p:=fun x=>Op.bytesLess x s) (l:=l)
  rw [e1] at h
  exact List.append_cancel_left (h.trans hl)
 rw [e1,e2]
end Go.Proofs.YtnhpclmbhbblbaaGreatDoor
set_option linter.unusedSimpArgs false
set_option linter.unnecessarySimpa false
set_option linter.unusedVariables false
set_option maxHeartbeats 1000000
namespace Go.Proofs.YtnhpclmbhbblbaaGreatDoor
open Go.Ab Go.RowKit
set_option maxRecDepth 10000
attribute [local irreducible] Awp yl jE jl Red qX Go.Ab.Fin qW Rz vl jj ji ResOk jV jz yb jv
def Yi (l:List qQ):AV := .sl false (l.map qN)
theorem qb7 (l:List qQ) (s:qQ) (hl:l.length ≤ 1000000000):yO C.P 68 [Yi l,.v (str s)] (.v (.bool (decide (s ∈ l)))):=by
 unfold Yi
 refine qa Tryz.func68 rfl _ Tryz.ntmps68 (Nat.le_of_ble_eq_true rfl) _ Tryz.results68 0 rfl rfl ?_
 repeat' (first|refine qm ?_|fail|((first|refine xsC ?_ ?_);all_goals (intro hc;have hp:=hc;try simp at hp;try (exfalso;omega)))|refine qO ?_ ?_)
 (refine Awp.red (qv (ts:=[(0,.sl false (l.map qN)),(1,.v (str s)),(5,.v (.int .i64 ((0:Nat):Int)))]) ?_) ?_;((repeat (first|exact qg|refine qn ?_|refine qS ?_ ?_))))
 refine qP (fun n σ => ∃ i:Nat,i ≤ l.length ∧ n = l.length - i ∧ (∀ x,x ∈ l.take i → ¬ x = s) ∧ σ = ⟨[(0,.sl false (l.map qN)),(1,.v (str s)),(5,.v (.int .i64 (i:Int)))],[],C.nh⟩) l.length ⟨0,Nat.zero_le _,rfl,(by simp),rfl⟩ ?_
 rintro n σ ⟨i,hi,rfl,hsofar,rfl⟩
 by_cases hlt:i < l.length
 ·have hr:=js (f:=qN) hlt
  have hnx:=fun h=>jU (p:=fun x => ¬ x = s) hlt hsofar h
  repeat' (first|refine qm ?_|fail|((first|refine xsC ?_ ?_);all_goals (intro hc;have hp:=hc;try simp at hp;try (exfalso;omega)))|refine qO ?_ ?_)
  all_goals try (exfalso;omega)
  ·have hm:s ∈ l:=by
    have e:l[i] = s:=by first|assumption|simp_all
    exact e ▸ List.getElem_mem hlt
   apply jB
   rfl
   exact (decide_eq_true hm).symm
  ·refine ⟨l.length - (i + 1),_,by omega,qv (ts:=[(0,.sl false (l.map qN)),(1,.v (str s)),(5,.v (.int .i64 ((i + 1:Nat):Int)))]) ?_,i + 1,by omega,rfl,hnx (by first|assumption|simp_all),rfl⟩;((repeat (first|exact qg|refine qn ?_|refine qS ?_ ?_)))
 obtain rfl:i = l.length:=by omega
 repeat' (first|refine qm ?_|fail|((first|refine xsC ?_ ?_);all_goals (intro hc;have hp:=hc;try simp at hp;try (exfalso;omega)))|refine qO ?_ ?_)
 all_goals try (exfalso;omega)
 apply jB
 rfl
 exact (decide_eq_false fun hm=>hsofar s (by rw [List.take_length];exact hm) rfl).symm
theorem qer (l:List qQ) (s:qQ) (i:Nat):List.drop 0 (List.take i (l.map qN)) ++ List.take ([[AV.v (str s)]].length + (List.drop i (List.take (l.map qN).length (l.map qN))).length) (List.drop 0 ([[AV.v (str s)]] ++ List.drop i (List.take (l.map qN).length (l.map qN)))) = (l.take i ++ s :: l.drop i).map qN:=by
 rw [List.take_length,List.drop_zero,List.drop_zero,List.take_of_length_le (l:=[[AV.v (str s)]] ++ _) (by simp;omega),List.map_append,List.map_cons,List.map_take,List.map_drop]
 rfl
set_option maxHeartbeats 2000000 in
theorem qcc (l:List qQ) (s:qQ) (hl:l.length ≤ 1000000):yO C.P 29 [Yi l,.v (str s)] (Yi (zE l s)):=by
 have h1:=qb7 l s (by omega)
 have hml:(l.map qN).length = l.length:=List.length_map ..
 have hrk : ∀ row,row ∈ l.map qN → row.length = 1:=by
  intro row h
  obtain ⟨s,_,rfl⟩:=List.mem_map.1 h
  rfl
 by_cases hm:s ∈ l
 ·rw [decide_eq_true hm] at h1
  rw [show zE l s = l from by unfold zE;rw [if_pos hm]]
  unfold Yi at *
  refine qa Tryz.func29 rfl _ Tryz.ntmps29 (Nat.le_of_ble_eq_true rfl) _ Tryz.results29 0 rfl rfl ?_
  repeat' (first|refine qm ?_|(first|refine jc Tryz.func68 (h1 ..) ?_)|((first|refine qd ?_ ?_|refine qc ?_ ?_|refine xsC ?_ ?_);all_goals (intro hc;have hp:=hc;try simp at hp;try (exfalso;omega)))|refine qO ?_ ?_)
  all_goals try (exfalso;first|omega|contradiction)
  all_goals ((exact xE (rs:=[.tmp 4])))
 rw [decide_eq_false hm] at h1
 unfold Yi at *
 refine qa Tryz.func29 rfl _ Tryz.ntmps29 (Nat.le_of_ble_eq_true rfl) _ Tryz.results29 0 rfl rfl ?_
 repeat' (first|refine qm ?_|(first|refine jc Tryz.func68 (h1 ..) ?_)|((first|refine qd ?_ ?_|refine qc ?_ ?_|refine xsC ?_ ?_);all_goals (intro hc;have hp:=hc;try simp at hp;try (exfalso;omega)))|refine qO ?_ ?_)
 all_goals try (exfalso;first|omega|contradiction)
 (refine Awp.red (qv (ts:=[(0,.sl false (l.map qN)),(1,.v (str s)),(5,.v (.int .i64 ((0:Nat):Int)))]) ?_) ?_;((repeat (first|exact qg|refine qn ?_|refine qS ?_ ?_))))
 refine qP (fun n σ => ∃ i:Nat,i ≤ l.length ∧ n = l.length - i ∧ (∀ x,x ∈ l.take i → Op.bytesLess x s = true) ∧ σ = ⟨[(0,.sl false (l.map qN)),(1,.v (str s)),(5,.v (.int .i64 (i:Int)))],[],C.nh⟩) l.length ⟨0,Nat.zero_le _,rfl,(by simp),rfl⟩ ?_
 rintro n σ ⟨i,hi,rfl,hsofar,rfl⟩
 have hil:i ≤ (l.map qN).length:=by omega
 by_cases hlt:i < l.length
 ·have hr:=js (f:=qN) hlt
  cases hless:Op.bytesLess l[i] s with
  | true =>
    have hnx:=jU (p:=fun x=>Op.bytesLess x s = true) hlt hsofar hless
    repeat' (first|refine qm ?_|fail|((first|refine qd ?_ ?_|refine qc ?_ ?_|refine xsC ?_ ?_);all_goals (intro hc;have hp:=hc;try simp at hp;try (exfalso;omega)))|refine qO ?_ ?_)
    all_goals try (exfalso;first|omega|contradiction|simp_all;done)
    refine ⟨l.length - (i + 1),_,by omega,qv (ts:=[(0,.sl false (l.map qN)),(1,.v (str s)),(5,.v (.int .i64 ((i + 1:Nat):Int)))]) ?_,i + 1,by omega,rfl,hnx,rfl⟩;((repeat (first|exact qg|refine qn ?_|refine qS ?_ ?_)))
  | false =>
    rw [Zd hm hi hsofar (fun _=>hless)]
    clear hsofar
    repeat' (first|refine qm ?_|(first|(refine jM ?_)|(apply qf;apply xU (ex':=true) (a:=0) (b:=i) (m:=i);(case hx=>rfl);(case hT=>rfl);(case he=>rfl);(case hE=>rfl);(case ha=>rfl);(case hb=>exact ⟨_,rfl⟩);(case hm=>exact ⟨⟨_,rfl⟩,Nat.le_refl _,hil,rfl⟩);(case hab=>exact Nat.zero_le _);(case hbl=>exact hil);(case hrk=>exact hrk);(case hex=>exact fun _=>rfl);(case hN=>exact nle rfl))|(apply qf;apply xU (ex':=false) (a:=i) (b:=(l.map qN).length) (m:=0);(case hx=>rfl);(case hT=>rfl);(case he=>rfl);(case hE=>rfl);(case ha=>exact ⟨_,rfl⟩);(case hb=>rfl);(case hm=>trivial);(case hab=>(first|omega|(simp;done)|(simp only [List.length_cons,List.length_nil,List.length_map];omega)|(simp;omega)));(case hbl=>(first|omega|(simp;done)|(simp only [List.length_cons,List.length_nil,List.length_map];omega)|(simp;omega)));(case hrk=>exact hrk);(case hex=>exact nofun);(case hN=>exact nle rfl))|(apply xq;apply Qz;(case hx=>rfl);(case hT=>rfl);(case he=>rfl);(case hE=>rfl);(case hz=>rfl);(case hk0=>(intro row h;rw [List.mem_singleton.1 h];rfl));(case hc0=>(intro row h;rw [List.mem_singleton.1 h];rfl));(case hsrc=>(apply zL;rfl;exact Kg (ve fun _=>rfl) Qn));(case hne=>(simp;omega));(case hsz=>(first|omega|(simp only [List.length_append,List.length_drop,List.length_take,List.length_map,List.length_cons,List.length_nil];omega)|(simp;omega)));(case hlen=>(first|omega|(simp only [List.length_append,List.length_drop,List.length_take,List.length_map,List.length_cons,List.length_nil];omega)|(simp;omega)));(case hN=>exact nle rfl))|(apply xq;apply Qz;(case hx=>rfl);(case hT=>rfl);(case he=>rfl);(case hE=>rfl);(case hz=>rfl);(case hk0=>(intro row h;exact hrk row (Qn row h)));(case hc0=>(intro row h;obtain ⟨x,_,rfl⟩:=List.mem_map.1 (Qn row h);rfl));(case hsrc=>(apply QV;rfl;rfl;exact Nat.le_of_eq (by simp;omega);rfl;(rw [List.all_append,Bool.and_eq_true];exact ⟨rfl,Kg (ve fun _=>rfl) Qn⟩)));(case hne=>(simp;omega));(case hsz=>(first|omega|(simp only [List.length_append,List.length_drop,List.length_take,List.length_map,List.length_cons,List.length_nil];omega)|(simp;omega)));(case hlen=>(first|omega|(simp only [List.length_append,List.length_drop,List.length_take,List.length_map,List.length_cons,List.length_nil];omega)|(simp;omega)));(case hN=>exact nle rfl)))|((first|refine qd ?_ ?_|refine qc ?_ ?_|refine xsC ?_ ?_);all_goals (intro hc;have hp:=hc;try simp at hp;try (exfalso;omega)))|refine qO ?_ ?_)
    all_goals try (exfalso;first|omega|contradiction|simp_all;done)
    (refine yP (rs:=[.tmp 4]) ?_;(repeat' (first|exact q5|apply qH|exact q8 rfl|exact yn|exact zA|apply jR|apply yL|apply jJ|apply yJ|apply ya|apply yK|refine zi ?_|apply va));all_goals exact qer l s i)
 obtain rfl:i = l.length:=by omega
 rw [Zd hm hi hsofar (fun h=>absurd h (Nat.lt_irrefl _))]
 clear hsofar
 repeat' (first|refine qm ?_|(first|(refine jM ?_)|(apply qf;apply xU (ex':=true) (a:=0) (b:=l.length) (m:=l.length);(case hx=>rfl);(case hT=>rfl);(case he=>rfl);(case hE=>rfl);(case ha=>rfl);(case hb=>exact ⟨_,rfl⟩);(case hm=>exact ⟨⟨_,rfl⟩,Nat.le_refl _,hil,rfl⟩);(case hab=>exact Nat.zero_le _);(case hbl=>exact hil);(case hrk=>exact hrk);(case hex=>exact fun _=>rfl);(case hN=>exact nle rfl))|(apply qf;apply xU (ex':=false) (a:=l.length) (b:=(l.map qN).length) (m:=0);(case hx=>rfl);(case hT=>rfl);(case he=>rfl);(case hE=>rfl);(case ha=>exact ⟨_,rfl⟩);(case hb=>rfl);(case hm=>trivial);(case hab=>(first|omega|(simp;done)|(simp only [List.length_cons,List.length_nil,List.length_map];omega)|(simp;omega)));(case hbl=>(first|omega|(simp;done)|(simp only [List.length_cons,List.length_nil,List.length_map];omega)|(simp;omega)));(case hrk=>exact hrk);(case hex=>exact nofun);(case hN=>exact nle rfl))|(apply qf;apply Zu;(case hx=>rfl);(case hT=>rfl);(case he=>rfl);(case hE=>rfl);(case hy=>rfl);(case h0=>(simp;done));(case hN=>exact nle rfl))|(apply xq;apply Qz;(case hx=>rfl);(case hT=>rfl);(case he=>rfl);(case hE=>rfl);(case hz=>rfl);(case hk0=>(intro row h;exact hrk row (Qn row h)));(case hc0=>(intro row h;obtain ⟨x,_,rfl⟩:=List.mem_map.1 (Qn row h);rfl));(case hsrc=>(apply zL;rfl;rfl));(case hne=>(exact Nat.one_pos));(case hsz=>(first|omega|(simp only [List.length_append,List.length_drop,List.length_take,List.length_map,List.length_cons,List.length_nil];omega)|(simp;omega)));(case hlen=>(first|omega|(simp only [List.length_append,List.length_drop,List.length_take,List.length_map,List.length_cons,List.length_nil];omega)|(simp;omega)));(case hN=>exact nle rfl)))|((first|refine qd ?_ ?_|refine qc ?_ ?_|refine xsC ?_ ?_);all_goals (intro hc;have hp:=hc;try simp at hp;try (exfalso;omega)))|refine qO ?_ ?_)
 all_goals try (exfalso;first|omega|contradiction|simp_all;done)
 (refine yP (rs:=[.tmp 4]) ?_;(repeat' (first|exact q5|apply qH|exact q8 rfl|exact yn|exact zA|apply jR|apply yL|apply jJ|apply yJ|apply ya|apply yK|refine zi ?_|apply va));all_goals (show List.drop 0 (List.take l.length (l.map qN)) ++ [[.v (str s)]] = _;rw [List.drop_zero,List.take_of_length_le (by simp),List.take_length,List.drop_length,List.map_append];rfl))
end Go.Proofs.YtnhpclmbhbblbaaGreatDoor
set_option linter.unusedSimpArgs false
set_option linter.unnecessarySimpa false
set_option linter.unusedVariables false
set_option maxHeartbeats 1000000
namespace Go.Proofs.YtnhpclmbhbblbaaGreatDoor
open Go.Ab Go.RowKit
set_option maxRecDepth 10000
attribute [local irreducible] Awp yl jE jl Red qX Go.Ab.Fin qW Rz vl jj ji ResOk jV jz yb jv
theorem Qa (t:List Ent) (p:qQ) (hl:t.length ≤ 1000000000):yO C.P 35 [qb t,.v (str p)] (.tup [.v (.int .i64 (stT t p).kind),.v (str (stT t p).text)]):=by
 have hea:=j8 t p hl
 rcases qgL t p with ⟨h1,h2⟩|⟨k,hk,h1,h2⟩
 ·rw [h1] at hea
  rw [h2]
  unfold noT
  refine qa Tryz.func35 rfl _ Tryz.ntmps35 (Nat.le_of_ble_eq_true rfl) _ Tryz.results35 0 rfl rfl ?_
  repeat' (first|refine qm ?_|(first|refine jc Tryz.func34 (hea ..) ?_)|((first|refine xsC ?_ ?_);all_goals (intro hc;have hp:=hc;try simp at hp;try (exfalso;omega)))|refine qO ?_ ?_)
  all_goals try (exfalso;omega)
  all_goals ((exact xE (rs:=[.tmp 4,.tmp 5])))
 ·rw [h1] at hea
  have hr:=js (f:=Ent.row) hk
  rw [h2]
  generalize t[k] = x at *
  obtain ⟨xp,xf,xt,xv⟩:=x
  cases xf
  ·rw [show xO ⟨xp,false,xt,xv⟩ = ⟨2,xt⟩ from rfl]
   refine qa Tryz.func35 rfl _ Tryz.ntmps35 (Nat.le_of_ble_eq_true rfl) _ Tryz.results35 0 rfl rfl ?_
   repeat' (first|refine qm ?_|(first|refine jc Tryz.func34 (hea ..) ?_)|((first|refine xsC ?_ ?_);all_goals (intro hc;have hp:=hc;try simp at hp;try (exfalso;omega)))|refine qO ?_ ?_)
   all_goals try (exfalso;first|omega|contradiction)
   all_goals ((exact xE (rs:=[.tmp 4,.tmp 5])))
  ·rw [show xO ⟨xp,true,xt,xv⟩ = ⟨1,[]⟩ from rfl]
   refine qa Tryz.func35 rfl _ Tryz.ntmps35 (Nat.le_of_ble_eq_true rfl) _ Tryz.results35 0 rfl rfl ?_
   repeat' (first|refine qm ?_|(first|refine jc Tryz.func34 (hea ..) ?_)|((first|refine xsC ?_ ?_);all_goals (intro hc;have hp:=hc;try simp at hp;try (exfalso;omega)))|refine qO ?_ ?_)
   all_goals try (exfalso;first|omega|contradiction)
   all_goals ((exact xE (rs:=[.tmp 4,.tmp 5])))
theorem Yl (a b:List Ent) (p:qQ) (ha:a.length ≤ 1000000000) (hb:b.length ≤ 1000000000):yO C.P 36 [qb a,qb b,.v (str p)] (.v (.bool (decide (stT a p = stT b p)))):=by
 have h1:=Qa a p ha
 have h2:=Qa b p hb
 generalize stT a p = x at *
 generalize stT b p = y at *
 obtain ⟨xk,xt⟩:=x
 obtain ⟨yk,yt⟩:=y
 dsimp only at h1 h2
 have hE:decide ((⟨xk,xt⟩ : Thg) = ⟨yk,yt⟩) = (decide (xk = yk) && decide (xt = yt)):=by
  by_cases e1:xk = yk<;>by_cases e2:xt = yt<;>simp [e1,e2]
 rw [hE]
 refine qa Tryz.func36 rfl _ Tryz.ntmps36 (Nat.le_of_ble_eq_true rfl) _ Tryz.results36 0 rfl rfl ?_
 repeat' (first|refine qm ?_|(first|refine xsQ Tryz.func35 (h1 ..) ?_|refine xsQ Tryz.func35 (h2 ..) ?_)|((first|refine qd ?_ ?_|refine qc ?_ ?_|refine xsC ?_ ?_);all_goals (intro hc;have hp:=hc;try simp at hp;try (exfalso;omega)))|refine qO ?_ ?_)
 all_goals try (exfalso;first|omega|contradiction)
 all_goals (apply jB;rfl;first|rfl|(simp_all;done))
theorem qfc:qcm C.P 69 = some [1,1]:=by kernel_rfl
theorem qcY (a b:Cpy):Qm [1,1] a.row b.row = some (decide (a = b)):=by
 obtain ⟨a1,a2⟩:=a
 obtain ⟨b1,b2⟩:=b
 simp only [Cpy.row,Qm,Qw,str,Cpy.mk.injEq,if_true,Option.some.injEq]
 by_cases h1:a1 = b1<;>by_cases h2:a2 = b2<;>simp [h1,h2]
theorem Yn (a:List Cpy) (ha:a.length ≤ 1000000000):yO C.P 13 [vf a,vf a] (.v (.bool true)):=by
 have hma:(a.map Cpy.row).length = a.length:=List.length_map ..
 unfold vf
 refine qa Tryz.func13 rfl _ Tryz.ntmps13 (Nat.le_of_ble_eq_true rfl) _ Tryz.results13 0 rfl rfl ?_
 repeat' (first|refine qm ?_|fail|((first|refine xsC ?_ ?_);all_goals (intro hc;have hp:=hc;try simp at hp;try (exfalso;omega)))|refine qO ?_ ?_)
 all_goals try (exfalso;first|omega|simp_all;done)
 (refine Awp.red (qv (ts:=[(0,.sl false (a.map Cpy.row)),(1,.sl false (a.map Cpy.row)),(5,.v (.int .i64 ((0:Nat):Int)))]) ?_) ?_;((repeat (first|exact qg|refine qn ?_|refine qS ?_ ?_))))
 refine qP (fun n σ => ∃ i:Nat,i ≤ a.length ∧ n = a.length - i ∧ (True) ∧ σ = ⟨[(0,.sl false (a.map Cpy.row)),(1,.sl false (a.map Cpy.row)),(5,.v (.int .i64 (i:Int)))],[],C.nh⟩) a.length ⟨0,Nat.zero_le _,rfl,trivial,rfl⟩ ?_
 rintro n σ ⟨i,hi,rfl, -,rfl⟩
 by_cases hlt:i < a.length
 ·have hr:=js (f:=Cpy.row) hlt
  repeat' (first|refine qm ?_|(first|(apply qf;apply xJ;rfl;rfl;exact qfc;exact qcY _ _;(first|exact .inl ⟨rfl,rfl⟩|exact .inr ⟨rfl,rfl⟩);exact nle rfl))|((first|refine xsC ?_ ?_);all_goals (intro hc;have hp:=hc;try simp at hp;try (exfalso;omega)))|refine qO ?_ ?_)
  all_goals try (exfalso;first|omega|simp_all;done)
  refine ⟨a.length - (i + 1),_,by omega,qv (ts:=[(0,.sl false (a.map Cpy.row)),(1,.sl false (a.map Cpy.row)),(5,.v (.int .i64 ((i + 1:Nat):Int)))]) ?_,i + 1,by omega,rfl,trivial,rfl⟩;((repeat (first|exact qg|refine qn ?_|refine qS ?_ ?_)))
 obtain rfl:i = a.length:=by omega
 repeat' (first|refine qm ?_|fail|((first|refine xsC ?_ ?_);all_goals (intro hc;have hp:=hc;try simp at hp;try (exfalso;omega)))|refine qO ?_ ?_)
 all_goals try (exfalso;omega)
 apply jB
 rfl
 rfl
end Go.Proofs.YtnhpclmbhbblbaaGreatDoor
set_option linter.unusedSimpArgs false
set_option linter.unnecessarySimpa false
set_option linter.unusedVariables false
set_option maxHeartbeats 1000000
namespace Go.Proofs.YtnhpclmbhbblbaaGreatDoor
open Go.Ab Go.RowKit
set_option maxRecDepth 10000
attribute [local irreducible] Awp yl jE jl Red qX Go.Ab.Fin qW Rz vl jj ji ResOk jV jz yb jv
def qhh:List (Nat × TRec):=(64,⟨.other,false,1,8,[.nilFunc]⟩) :: tab
theorem qfR:qbw Tryz.prog qhh:=⟨by kernel_rfl,qgd⟩
noncomputable def CF:Cx:=⟨Tryz.prog,qhh,Yj qfR,by kernel_rfl,0⟩
noncomputable def CF5:Cx := { CF with nh:=5 }
theorem Wp (t:List Ent) (x:Ent) (hl:t.length ≤ 400000):qW C1.P 31 [.os 0 0 t.length,.agg x.row] [.own false 4 (t.map Ent.row)] (.os 1 0 (XA t x).length) [.own false 4 (t.map Ent.row),.own false 4 ((XA t x).map Ent.row)]:=by
 refine qa (C:=C1) Tryz.func31 rfl _ Tryz.ntmps31 (Nat.le_of_ble_eq_true rfl) _ Tryz.results31 1 rfl rfl ?_
 repeat' (first|refine qm ?_|(first|fail)|((first|refine qd ?_ ?_|refine qc ?_ ?_|refine xsC ?_ ?_);all_goals (intro hc;have hp:=hc;try simp at hp;try (exfalso;omega)))|refine qO ?_ ?_)
 refine Awp.red (vX 5 4 rfl (Nat.le_of_ble_eq_true rfl)) ?_
 (refine Awp.red (qC (τ:=⟨[(0,.os 0 0 t.length),(3,.op 1 0 0),(5,.os 2 0 0),(6,.v (.bool false)),(7,.v (.int .i64 ((0:Nat):Int)))],[(0,.own false 4 (t.map Ent.row)),(1,.own false 4 [x.row]),(2,.own false 4 [])],3⟩) [(1,1),(2,2)] rfl ?gts ?ghs) ?gmain;(case gts=>(repeat (first|exact qg|refine qn ?_|refine ye ?_|refine vj ?_|refine qS ?_ ?_));all_goals skip);(case ghs=>(repeat (first|exact qj|refine yA ?_|refine q9 ?_ ?_))))
 refine qP (fun n σ => ∃ i:Nat,i ≤ t.length ∧ n = t.length - i ∧ (True) ∧ σ = ⟨[(0,.os 0 0 t.length),(3,.op 1 0 0),(5,.os 2 0 (xd (t.take i) x).1.length),(6,.v (.bool (xd (t.take i) x).2)),(7,.v (.int .i64 (i:Int)))],[(0,.own false 4 (t.map Ent.row)),(1,.own false 4 [x.row]),(2,.own false 4 ((xd (t.take i) x).1.map Ent.row))],3⟩) t.length ⟨0,Nat.zero_le _,rfl,trivial,rfl⟩ ?_
 rintro n σ ⟨i,hi,rfl, -,rfl⟩
 have hgl:=qaj (t.take i) x
 have htl:(t.take i).length ≤ t.length:=by simp;omega
 by_cases hlt:i < t.length
 ·have hr:=js (f:=Ent.row) hlt
  have hgs := @Kc t x i hlt
  generalize xd (t.take i) x = G at *
  obtain ⟨o,b⟩:=G
  simp only [x9] at hgs
  have hgl:o.length ≤ 2 * (t.take i).length:=hgl
  cases b<;>cases hless:Op.bytesLess t[i].path x.path<;>by_cases hpe:t[i].path = x.path
  all_goals try (exfalso;rw [hpe,zj] at hless;exact absurd hless (by decide))
  all_goals simp only [hless,hpe,zj,if_true,if_false,and_true,and_false,and_self,Bool.false_or,Bool.true_or,Bool.not_true,Bool.not_false,List.append_nil,Bool.true_eq_false,Bool.false_eq_true,List.append_assoc] at hgs
  all_goals (
   repeat' (first|refine qm ?_|(first|(refine jM ?_)|(refine yg ?_)|(refine xX ?_))|((first|refine qd ?_ ?_|refine qc ?_ ?_|refine xsC ?_ ?_);all_goals (intro hc;have hp:=hc;try simp at hp;try (exfalso;omega)))|refine qO ?_ ?_))
  all_goals try (exfalso;first|omega|contradiction|(simp_all;done))
  ·refine ⟨t.length - (i + 1),_,by omega,qC (τ:=⟨[(0,.os 0 0 t.length),(3,.op 1 0 0),(5,.os 2 0 (xd (t.take (i + 1)) x).1.length),(6,.v (.bool (xd (t.take (i + 1)) x).2)),(7,.v (.int .i64 ((i + 1:Nat):Int)))],[(0,.own false 4 (t.map Ent.row)),(1,.own false 4 [x.row]),(2,.own false 4 ((xd (t.take (i + 1)) x).1.map Ent.row))],3⟩) [(1,1),(3,2)] rfl ?gts ?ghs,i + 1,by omega,rfl,trivial,rfl⟩;(case gts=>(repeat (first|exact qg|refine qn ?_|refine ye ?_|refine vj ?_|refine qS ?_ ?_));all_goals (rw [hgs];try first|(simp only [List.length_append,List.length_cons,List.length_nil,List.map_append,List.map_cons,List.map_nil,List.append_assoc,List.cons_append,List.nil_append];done)|(rw [List.take_of_length_le (by simp)];simp;done)|(simp;done)|exact yB o x.row _));(case ghs=>(repeat (first|exact qj|refine yA ?_|refine q9 ?_ ?_));all_goals (rw [hgs];try first|(simp only [List.length_append,List.length_cons,List.length_nil,List.map_append,List.map_cons,List.map_nil,List.append_assoc,List.cons_append,List.nil_append];done)|(rw [List.take_of_length_le (by simp)];simp;done)|(simp;done)|exact yB o x.row _))
  ·refine ⟨t.length - (i + 1),_,by omega,qC (τ:=⟨[(0,.os 0 0 t.length),(3,.op 1 0 0),(5,.os 2 0 (xd (t.take (i + 1)) x).1.length),(6,.v (.bool (xd (t.take (i + 1)) x).2)),(7,.v (.int .i64 ((i + 1:Nat):Int)))],[(0,.own false 4 (t.map Ent.row)),(1,.own false 4 [x.row]),(2,.own false 4 ((xd (t.take (i + 1)) x).1.map Ent.row))],3⟩) [(1,1),(4,2)] rfl ?gts ?ghs,i + 1,by omega,rfl,trivial,rfl⟩;(case gts=>(repeat (first|exact qg|refine qn ?_|refine ye ?_|refine vj ?_|refine qS ?_ ?_));all_goals (rw [hgs];try first|(simp only [List.length_append,List.length_cons,List.length_nil,List.map_append,List.map_cons,List.map_nil,List.append_assoc,List.cons_append,List.nil_append];done)|(rw [List.take_of_length_le (by simp)];simp;done)|(simp;done)|exact yB o x.row _));(case ghs=>(repeat (first|exact qj|refine yA ?_|refine q9 ?_ ?_));all_goals (rw [hgs];try first|(simp only [List.length_append,List.length_cons,List.length_nil,List.map_append,List.map_cons,List.map_nil,List.append_assoc,List.cons_append,List.nil_append];done)|(rw [List.take_of_length_le (by simp)];simp;done)|(simp;done)|exact yB o x.row _))
  ·refine ⟨t.length - (i + 1),_,by omega,qC (τ:=⟨[(0,.os 0 0 t.length),(3,.op 1 0 0),(5,.os 2 0 (xd (t.take (i + 1)) x).1.length),(6,.v (.bool (xd (t.take (i + 1)) x).2)),(7,.v (.int .i64 ((i + 1:Nat):Int)))],[(0,.own false 4 (t.map Ent.row)),(1,.own false 4 [x.row]),(2,.own false 4 ((xd (t.take (i + 1)) x).1.map Ent.row))],3⟩) [(1,1),(3,2)] rfl ?gts ?ghs,i + 1,by omega,rfl,trivial,rfl⟩;(case gts=>(repeat (first|exact qg|refine qn ?_|refine ye ?_|refine vj ?_|refine qS ?_ ?_));all_goals (rw [hgs];try first|(simp only [List.length_append,List.length_cons,List.length_nil,List.map_append,List.map_cons,List.map_nil,List.append_assoc,List.cons_append,List.nil_append];done)|(rw [List.take_of_length_le (by simp)];simp;done)|(simp;done)|exact yB o x.row _));(case ghs=>(repeat (first|exact qj|refine yA ?_|refine q9 ?_ ?_));all_goals (rw [hgs];try first|(simp only [List.length_append,List.length_cons,List.length_nil,List.map_append,List.map_cons,List.map_nil,List.append_assoc,List.cons_append,List.nil_append];done)|(rw [List.take_of_length_le (by simp)];simp;done)|(simp;done)|exact yB o x.row _))
  ·refine ⟨t.length - (i + 1),_,by omega,qC (τ:=⟨[(0,.os 0 0 t.length),(3,.op 1 0 0),(5,.os 2 0 (xd (t.take (i + 1)) x).1.length),(6,.v (.bool (xd (t.take (i + 1)) x).2)),(7,.v (.int .i64 ((i + 1:Nat):Int)))],[(0,.own false 4 (t.map Ent.row)),(1,.own false 4 [x.row]),(2,.own false 4 ((xd (t.take (i + 1)) x).1.map Ent.row))],3⟩) [(1,1),(2,2)] rfl ?gts ?ghs,i + 1,by omega,rfl,trivial,rfl⟩;(case gts=>(repeat (first|exact qg|refine qn ?_|refine ye ?_|refine vj ?_|refine qS ?_ ?_));all_goals (rw [hgs];try first|(simp only [List.length_append,List.length_cons,List.length_nil,List.map_append,List.map_cons,List.map_nil,List.append_assoc,List.cons_append,List.nil_append];done)|(rw [List.take_of_length_le (by simp)];simp;done)|(simp;done)|exact yB o x.row _));(case ghs=>(repeat (first|exact qj|refine yA ?_|refine q9 ?_ ?_));all_goals (rw [hgs];try first|(simp only [List.length_append,List.length_cons,List.length_nil,List.map_append,List.map_cons,List.map_nil,List.append_assoc,List.cons_append,List.nil_append];done)|(rw [List.take_of_length_le (by simp)];simp;done)|(simp;done)|exact yB o x.row _))
  ·refine ⟨t.length - (i + 1),_,by omega,qC (τ:=⟨[(0,.os 0 0 t.length),(3,.op 1 0 0),(5,.os 2 0 (xd (t.take (i + 1)) x).1.length),(6,.v (.bool (xd (t.take (i + 1)) x).2)),(7,.v (.int .i64 ((i + 1:Nat):Int)))],[(0,.own false 4 (t.map Ent.row)),(1,.own false 4 [x.row]),(2,.own false 4 ((xd (t.take (i + 1)) x).1.map Ent.row))],3⟩) [(1,1),(3,2)] rfl ?gts ?ghs,i + 1,by omega,rfl,trivial,rfl⟩;(case gts=>(repeat (first|exact qg|refine qn ?_|refine ye ?_|refine vj ?_|refine qS ?_ ?_));all_goals (rw [hgs];try first|(simp only [List.length_append,List.length_cons,List.length_nil,List.map_append,List.map_cons,List.map_nil,List.append_assoc,List.cons_append,List.nil_append];done)|(rw [List.take_of_length_le (by simp)];simp;done)|(simp;done)|exact yB o x.row _));(case ghs=>(repeat (first|exact qj|refine yA ?_|refine q9 ?_ ?_));all_goals (rw [hgs];try first|(simp only [List.length_append,List.length_cons,List.length_nil,List.map_append,List.map_cons,List.map_nil,List.append_assoc,List.cons_append,List.nil_append];done)|(rw [List.take_of_length_le (by simp)];simp;done)|(simp;done)|exact yB o x.row _))
  ·refine ⟨t.length - (i + 1),_,by omega,qC (τ:=⟨[(0,.os 0 0 t.length),(3,.op 1 0 0),(5,.os 2 0 (xd (t.take (i + 1)) x).1.length),(6,.v (.bool (xd (t.take (i + 1)) x).2)),(7,.v (.int .i64 ((i + 1:Nat):Int)))],[(0,.own false 4 (t.map Ent.row)),(1,.own false 4 [x.row]),(2,.own false 4 ((xd (t.take (i + 1)) x).1.map Ent.row))],3⟩) [(1,1),(3,2)] rfl ?gts ?ghs,i + 1,by omega,rfl,trivial,rfl⟩;(case gts=>(repeat (first|exact qg|refine qn ?_|refine ye ?_|refine vj ?_|refine qS ?_ ?_));all_goals (rw [hgs];try first|(simp only [List.length_append,List.length_cons,List.length_nil,List.map_append,List.map_cons,List.map_nil,List.append_assoc,List.cons_append,List.nil_append];done)|(rw [List.take_of_length_le (by simp)];simp;done)|(simp;done)|exact yB o x.row _));(case ghs=>(repeat (first|exact qj|refine yA ?_|refine q9 ?_ ?_));all_goals (rw [hgs];try first|(simp only [List.length_append,List.length_cons,List.length_nil,List.map_append,List.map_cons,List.map_nil,List.append_assoc,List.cons_append,List.nil_append];done)|(rw [List.take_of_length_le (by simp)];simp;done)|(simp;done)|exact yB o x.row _))
 obtain rfl:i = t.length:=by omega
 rw [List.take_length] at *
 have hR:XA t x = if (xd t x).2 = true then (xd t x).1 else (xd t x).1 ++ [x]:=rfl
 generalize xd t x = G at *
 obtain ⟨o,b⟩:=G
 have hgl:o.length ≤ 2 * t.length:=hgl
 cases b
 ·have hR:XA t x = o ++ [x]:=hR
  rw [hR]
  repeat' (first|refine qm ?_|(first|(refine jM ?_)|(refine yg ?_)|(refine xX ?_))|((first|refine qd ?_ ?_|refine qc ?_ ?_|refine xsC ?_ ?_);all_goals (intro hc;have hp:=hc;try simp at hp;try (exfalso;omega)))|refine qO ?_ ?_)
  all_goals try (exfalso;omega)
  (apply jH (rs:=[.tmp 4]) [(3,1)] 2;(case hr=>(repeat (first|exact jp|(apply jq;rfl)|(apply jg;rfl;rfl;rfl;rfl;rfl))));(case hL=>rfl);(case hh=>(repeat (first|exact qj|refine yA ?_|refine q9 ?_ ?_));all_goals (show (o.map Ent.row).take o.length ++ [x.row] = _;rw [List.take_of_length_le (by simp)];simp));(case hi=>first|exact (rfl:_ = ([]:List (Nat × Nat)))|exact (rfl:_ = [((0:Nat),(0:Nat))])|exact (rfl:_ = [((0:Nat),(0:Nat)),(1,1)]));(case hz=>first|rfl|(simp [j6,AV.ren,AV.ren.renL,jD,qR,jA];done)|(simp [j6,AV.ren,AV.ren.renL,jD,qR,jA, *];done)|(simp [j6,AV.ren,AV.ren.renL,jD,qR,jA])))
 ·have hR:XA t x = o:=hR
  rw [hR]
  repeat' (first|refine qm ?_|(first|(refine jM ?_)|(refine yg ?_)|(refine xX ?_))|((first|refine qd ?_ ?_|refine qc ?_ ?_|refine xsC ?_ ?_);all_goals (intro hc;have hp:=hc;try simp at hp;try (exfalso;omega)))|refine qO ?_ ?_)
  all_goals try (exfalso;omega)
  (refine Wb (rs:=[.tmp 4]) [(2,1)] 2 ?_;(repeat (first|exact qj|refine yA ?_|refine q9 ?_ ?_));all_goals trace_state)
theorem qgp (O:List Ent) (x:Ent) (hO:q4 jr O = true) (hl:O.length ≤ 400000):qW C1.P 31 [.os 0 0 O.length,.agg x.row] [.own false 4 (O.map Ent.row)] (.os 1 0 (jN O x).length) [.own false 4 (O.map Ent.row),.own false 4 ((jN O x).map Ent.row)]:=by
 have h:=Wp O x hl
 rw [Qk hO] at h
 exact h
theorem Vx (O N:List Ent) (p:qQ) (k:Int) (x:qQ) (hk:0 < k) (hO:q4 jr O = true) (lO:O.length ≤ 400000) (hN:jN O ⟨p,decide (k = 1),x,1⟩ = N) :
  qW C2.P 30 [.v (str p),.v (.int .i64 k),.v (str x),.op 0 0 0] [.own false 1 [[.os 1 0 O.length]],.own false 4 (O.map Ent.row)] (.tup []) [.own false 1 [[.os 2 0 N.length]],.dead,.own false 4 (N.map Ent.row)]:=by
 have h1:=qgp O ⟨p,decide (k = 1),x,1⟩ hO lO
 rw [hN] at h1
 have hrow:Ent.row ⟨p,decide (k = 1),x,1⟩ = [.v (str p),.v (.bool (decide (k = 1))),.v (str x),.v (.int .i64 1)]:=rfl
 rw [hrow] at h1
 refine qa (C:=C2) Tryz.func30 rfl _ Tryz.ntmps30 (Nat.le_of_ble_eq_true rfl) _ Tryz.results30 2 rfl rfl ?_
 repeat' (first|refine qm ?_|(first|fail)|((first|refine qd ?_ ?_|refine qc ?_ ?_|refine xsC ?_ ?_);all_goals (intro hc;have hp:=hc;try simp at hp;try (exfalso;omega)))|refine qO ?_ ?_)
 all_goals try (exfalso;omega)
 apply jT Tryz.func31 rfl rfl
 intro hIsFn
 refine xQ [1] [2] [(1,.own false 4 (O.map Ent.row)),(2,.own false 4 (N.map Ent.row))] 3 (.os 2 0 N.length) hIsFn (h1) (by ((repeat' (first|exact jf|apply q6|exact je rfl|exact jG|(apply qp;apply qI;exact .inr (of_decide_eq_true rfl))|(apply qp;apply qw;exact .inr (of_decide_eq_true rfl))|(apply qp;apply qF;exact .inr (of_decide_eq_true rfl))|apply jw|apply jx)))<;>fail) (by ((repeat' (first|exact qL|exact qK|refine qA _ ?_ ?_|refine qz ?_ ?_|exact qt|exact qe (qi _)|exact qe (qU _)|exact qe (qr _)|exact qx (fun _=>rfl)|refine qB ?_|exact ql|apply qh|exact qk rfl|(apply qw;exact .inr (of_decide_eq_true rfl))|(apply qF;exact .inr (of_decide_eq_true rfl))|(apply qI;exact .inr (of_decide_eq_true rfl))|exact qZ (qE fun _=>rfl))))<;>fail) (by ((repeat' (first|exact qL|exact qK|refine qA _ ?_ ?_|refine qz ?_ ?_|exact qt|exact qe (qi _)|exact qe (qU _)|exact qe (qr _)|exact qx (fun _=>rfl)|refine qB ?_|exact ql|apply qh|exact qk rfl|(apply qw;exact .inr (of_decide_eq_true rfl))|(apply qF;exact .inr (of_decide_eq_true rfl))|(apply qI;exact .inr (of_decide_eq_true rfl))|exact qZ (qE fun _=>rfl))))<;>fail) ?_
 repeat' (first|refine qm ?_|(first|fail)|((first|refine qd ?_ ?_|refine qc ?_ ?_|refine xsC ?_ ?_);all_goals (intro hc;have hp:=hc;try simp at hp;try (exfalso;omega)))|refine qO ?_ ?_)
 all_goals try (exfalso;omega)
 all_goals ((apply jH (rs:=[]) [(2,2)] 3;(case hr=>(repeat (first|exact jp|(apply jq;rfl)|(apply jg;rfl;rfl;rfl;rfl;rfl))));(case hL=>rfl);(case hh=>(repeat' (first|exact qj|refine jt ?_|refine yH ?_ ?_|refine zz ?_|refine q9 ?_ ?_|exact ql|apply qh|exact qk rfl|exact jn rfl|refine jn ?_|(apply yI;(first|exact qJ rfl|exact .inr (List.mem_cons_self ..)|exact .inr (List.mem_cons_of_mem _ (List.mem_cons_self ..))|exact .inr (List.mem_cons_of_mem _ (List.mem_cons_of_mem _ (List.mem_cons_self ..)))|exact .inr (List.mem_cons_of_mem _ (List.mem_cons_of_mem _ (List.mem_cons_of_mem _ (List.mem_cons_self ..))))))));all_goals trace_state);(case hi=>exact rfl);(case hz=>first|rfl|(simp [j6,AV.ren,AV.ren.renL,jD,qR,jA];done))))
theorem qcd (O:List Ent) (p:qQ) (k:Int) (x:qQ) (hk:¬ 0 < k) :
  qW C2.P 30 [.v (str p),.v (.int .i64 k),.v (str x),.op 0 0 0] [.own false 1 [[.os 1 0 O.length]],.own false 4 (O.map Ent.row)] (.tup []) [.own false 1 [[.os 1 0 O.length]],.own false 4 (O.map Ent.row)]:=by
 refine qa (C:=C2) Tryz.func30 rfl _ Tryz.ntmps30 (Nat.le_of_ble_eq_true rfl) _ Tryz.results30 2 rfl rfl ?_
 repeat' (first|refine qm ?_|(first|fail)|((first|refine qd ?_ ?_|refine qc ?_ ?_|refine xsC ?_ ?_);all_goals (intro hc;have hp:=hc;try simp at hp;try (exfalso;omega)))|refine qO ?_ ?_)
 all_goals try (exfalso;omega)
 all_goals ((apply jH (rs:=[]) [] 2;(case hr=>(repeat (first|exact jp|(apply jq;rfl)|(apply jg;rfl;rfl;rfl;rfl;rfl))));(case hL=>rfl);(case hh=>(repeat' (first|exact qj|refine jt ?_|refine yH ?_ ?_|refine zz ?_|refine q9 ?_ ?_|exact ql|apply qh|exact qk rfl|exact jn rfl|refine jn ?_|(apply yI;(first|exact qJ rfl|exact .inr (List.mem_cons_self ..)|exact .inr (List.mem_cons_of_mem _ (List.mem_cons_self ..))|exact .inr (List.mem_cons_of_mem _ (List.mem_cons_of_mem _ (List.mem_cons_self ..)))|exact .inr (List.mem_cons_of_mem _ (List.mem_cons_of_mem _ (List.mem_cons_of_mem _ (List.mem_cons_self ..))))))));all_goals trace_state);(case hi=>exact rfl);(case hz=>first|rfl|(simp [j6,AV.ren,AV.ren.renL,jD,qR,jA];done))))
end Go.Proofs.YtnhpclmbhbblbaaGreatDoor
set_option linter.unusedSimpArgs false
set_option linter.unnecessarySimpa false
set_option linter.unusedVariables false
set_option maxHeartbeats 1000000
namespace Go.Proofs.YtnhpclmbhbblbaaGreatDoor
open Go.Ab Go.RowKit
set_option maxRecDepth 10000
attribute [local irreducible] Awp yl jE jl Red qX Go.Ab.Fin qW Rz vl jj ji ResOk jV jz yb jv
def hA (O:List Ent) (cs:List Cpy):List HB:=[.own false 1 [[.os 1 0 O.length]],.own false 4 (O.map Ent.row),.own false 1 [[.clo (.func 30) [] [.op 0 0 0]]],.own false 1 [[.os 4 0 cs.length]],.own false 2 (cs.map Cpy.row)]
theorem Xs (t:List Ent) (q:qQ):xa (atP q) t < 0 ↔ jW t q = false:=by
 have h:=Xr (atP q) t
 unfold jW
 constructor
 ·intro h1
  rw [← h]
  exact decide_eq_false (by omega)
 ·intro h1
  rw [h1] at h
  have:=of_decide_eq_false h
  omega
theorem VD {m t o:List Ent} {p:qQ} {i:Nat} (h:i < 99):xS m t o p (99 - i) (i + 1) = if vz p ((i + 1:Nat):Int) = 0 then (if JW m t o (yr p ((i + 1:Nat):Int)) = true then some (yr p ((i + 1:Nat):Int)) else xS m t o p (99 - (i + 1)) (i + 1 + 1)) else none:=by
 rw [show 99 - i = (99 - (i + 1)) + 1 from by omega]
 rfl
theorem qdK (cs:List Cpy) (p q:qQ):(cs.map Cpy.row).take cs.length ++ [[.v (str p),.v (str q)]] = (cs ++ [(⟨p,q⟩ : Cpy)]).map Cpy.row:=by
 rw [List.take_of_length_le (by simp),List.map_append];rfl
set_option maxHeartbeats 4000000 in
theorem JT (M T O:List Ent) (cs:List Cpy) (p x:qQ) (lp:p.length ≤ 1000000000) (lM:M.length ≤ 60) (lT:T.length ≤ 60) (lO:O.length ≤ 400000) (h:xS M T O p 99 1 = none) :
  qW CF5.P 32 [.v (str p),.v (str x),.fp [[qb M]] 0 0,.fp [[qb T]] 0 0,.op 0 0 0,.op 2 0 0,.op 3 0 0] (hA O cs) (.v (.bool false)) (hA O cs):=by
 refine qa (C:=CF5) Tryz.func32 rfl _ Tryz.ntmps32 (Nat.le_of_ble_eq_true rfl) _ Tryz.results32 5 rfl rfl ?_
 repeat' (first|refine qm ?_|(first|fail)|((first|refine qd ?_ ?_|refine qc ?_ ?_|refine xsC ?_ ?_);all_goals (intro hc;have hp:=hc;try simp at hp;try (exfalso;omega)))|refine qO ?_ ?_)
 all_goals try (exfalso;omega)
 (refine Awp.red (qC (τ:=⟨[(0,.v (str p)),(1,.v (str x)),(2,.fp [[qb M]] 0 0),(3,.fp [[qb T]] 0 0),(4,.op 0 0 0),(5,.op 2 0 0),(6,.op 3 0 0),(10,.v (.int .i64 ((0 + 1:Nat):Int)))],zY 0 (hA O cs),5⟩) [] rfl ?gts2 ?ghs2) ?_;(case gts2=>(repeat (first|exact qg|refine qn ?_|refine ye ?_|refine xr ?_|refine ze ?_|refine xw ?_ ?_|refine qS ?_ ?_));all_goals trace_state);(case ghs2=>(repeat' (first|exact qj|refine jt ?_|refine yH ?_ ?_|refine zz ?_|refine q9 ?_ ?_|exact ql|apply qh|exact qk rfl|exact jn rfl|refine jn ?_|(apply yI;(first|exact qJ rfl|exact .inr (List.mem_cons_self ..)|exact .inr (List.mem_cons_of_mem _ (List.mem_cons_self ..))|exact .inr (List.mem_cons_of_mem _ (List.mem_cons_of_mem _ (List.mem_cons_self ..)))|exact .inr (List.mem_cons_of_mem _ (List.mem_cons_of_mem _ (List.mem_cons_of_mem _ (List.mem_cons_self ..))))))));all_goals trace_state))
 refine qP (fun n σ => ∃ i:Nat,i ≤ 99 ∧ n = 99 - i ∧ xS M T O p (99 - i) (i + 1) = none ∧ σ = ⟨[(0,.v (str p)),(1,.v (str x)),(2,.fp [[qb M]] 0 0),(3,.fp [[qb T]] 0 0),(4,.op 0 0 0),(5,.op 2 0 0),(6,.op 3 0 0),(10,.v (.int .i64 ((i + 1:Nat):Int)))],zY 0 (hA O cs),5⟩) 99 ⟨0,by omega,rfl,h,rfl⟩ ?_
 rintro n σ ⟨i,hi,rfl,hn,rfl⟩
 by_cases hlt:i < 99
 ·rw [VD hlt] at hn
  have h1:=ZA p (i + 1) (by omega) lp
  have h2:=j8 M (yr p ((i + 1:Nat):Int)) (by omega)
  have h3:=j8 T (yr p ((i + 1:Nat):Int)) (by omega)
  have h4:=j8 O (yr p ((i + 1:Nat):Int)) (by omega)
  have i2:=Xs M (yr p ((i + 1:Nat):Int))
  have i3:=Xs T (yr p ((i + 1:Nat):Int))
  have i4:=Xs O (yr p ((i + 1:Nat):Int))
  unfold JW at hn
  generalize vz p ((i + 1:Nat):Int) = E at *
  generalize yr p ((i + 1:Nat):Int) = Q at *
  generalize xa (atP Q) M = kM at *
  generalize xa (atP Q) T = kT at *
  generalize xa (atP Q) O = kO at *
  generalize jW M Q = bM at *
  generalize jW T Q = bT at *
  generalize jW O Q = bO at *
  by_cases hE:E = 0
  ·subst hE
   rw [show JP 0 Q = Q from rfl] at h1
   rw [if_pos rfl] at hn
   generalize hAn:xS M T O p (99 - (i + 1)) (i + 1 + 1) = An at hn
   have hnf:(0 ≤ kM ∨ 0 ≤ kT ∨ 0 ≤ kO) ∧ An = none:=by
    cases bM<;>cases bT<;>cases bO<;>simp at hn i2 i3 i4<;>exact ⟨by omega,hn⟩
   obtain ⟨hnf,hn⟩:=hnf
   have hn:=hAn.trans hn
   clear i2 i3 i4
   repeat' (first|refine qm ?_|(first|refine xsQ Tryz.func33 (h1 ..) ?_|refine jc Tryz.func34 (h2 ..) ?_|refine jc Tryz.func34 (h3 ..) ?_|(apply qf;apply yu ([1]);exact j1 Tryz.func34 rfl rfl;apply h4;(case hz=>(repeat' (first|exact q5|apply qH|exact q8 rfl|exact yn|(apply jY;(case hn=>rfl);(case hl=>first|with_reducible rfl|(simp;done)|(simp [*];done)|omega);(case hp=>(first|assumption|exact jX rfl|exact qE fun _=>rfl)))|apply jR|apply jJ)));(case hfl=>rfl);(case hN=>exact nle rfl)))|((first|refine qd ?_ ?_|refine qc ?_ ?_|refine xsC ?_ ?_);all_goals (intro hc;have hp:=hc;try simp at hp;try (exfalso;omega)))|refine qO ?_ ?_)
   all_goals try (exfalso;first|omega|contradiction)
   all_goals (refine ⟨99 - (i + 1),⟨[(0,.v (str p)),(1,.v (str x)),(2,.fp [[qb M]] 0 0),(3,.fp [[qb T]] 0 0),(4,.op 0 0 0),(5,.op 2 0 0),(6,.op 3 0 0),(10,.v (.int .i64 ((i + 1 + 1:Nat):Int)))],zY 0 (hA O cs),5⟩,by omega,?_,i + 1,by omega,rfl,hn,rfl⟩;refine qC [] rfl ?gts ?ghs;(case gts=>(repeat (first|exact qg|refine qn ?_|refine ye ?_|refine xr ?_|refine ze ?_|refine xw ?_ ?_|refine qS ?_ ?_));all_goals trace_state);(case ghs=>(repeat' (first|exact qj|refine jt ?_|refine yH ?_ ?_|refine zz ?_|refine q9 ?_ ?_|exact ql|apply qh|exact qk rfl|exact jn rfl|refine jn ?_|(apply yI;(first|exact qJ rfl|exact .inr (List.mem_cons_self ..)|exact .inr (List.mem_cons_of_mem _ (List.mem_cons_self ..))|exact .inr (List.mem_cons_of_mem _ (List.mem_cons_of_mem _ (List.mem_cons_self ..)))|exact .inr (List.mem_cons_of_mem _ (List.mem_cons_of_mem _ (List.mem_cons_of_mem _ (List.mem_cons_self ..))))))));all_goals trace_state))
  ·repeat' (first|refine qm ?_|(first|refine xsQ Tryz.func33 (h1 ..) ?_)|((first|refine qd ?_ ?_|refine qc ?_ ?_|refine xsC ?_ ?_);all_goals (intro hc;have hp:=hc;try simp at hp;try (exfalso;omega)))|refine qO ?_ ?_)
   all_goals try (exfalso;first|omega|contradiction)
   all_goals ((apply jH (rs:=[.tmp 9]) [] 5;(case hr=>(repeat (first|exact jp|(apply jq;rfl)|(apply jg;rfl;rfl;rfl;rfl;rfl))));(case hL=>rfl);(case hh=>(repeat' (first|exact qj|refine jt ?_|refine yH ?_ ?_|refine zz ?_|refine q9 ?_ ?_|exact ql|apply qh|exact qk rfl|exact jn rfl|refine jn ?_|(apply yI;(first|exact qJ rfl|exact .inr (List.mem_cons_self ..)|exact .inr (List.mem_cons_of_mem _ (List.mem_cons_self ..))|exact .inr (List.mem_cons_of_mem _ (List.mem_cons_of_mem _ (List.mem_cons_self ..)))|exact .inr (List.mem_cons_of_mem _ (List.mem_cons_of_mem _ (List.mem_cons_of_mem _ (List.mem_cons_self ..))))))));all_goals trace_state);(case hi=>exact rfl);(case hz=>first|rfl|(simp [j6,AV.ren,AV.ren.renL,jD,qR,jA];done))))
 ·obtain rfl:i = 99:=by omega
  repeat' (first|refine qm ?_|(first|fail)|((first|refine qd ?_ ?_|refine qc ?_ ?_|refine xsC ?_ ?_);all_goals (intro hc;have hp:=hc;try simp at hp;try (exfalso;omega)))|refine qO ?_ ?_)
  all_goals try (exfalso;omega)
  all_goals ((apply jH (rs:=[.tmp 9]) [] 5;(case hr=>(repeat (first|exact jp|(apply jq;rfl)|(apply jg;rfl;rfl;rfl;rfl;rfl))));(case hL=>rfl);(case hh=>(repeat' (first|exact qj|refine jt ?_|refine yH ?_ ?_|refine zz ?_|refine q9 ?_ ?_|exact ql|apply qh|exact qk rfl|exact jn rfl|refine jn ?_|(apply yI;(first|exact qJ rfl|exact .inr (List.mem_cons_self ..)|exact .inr (List.mem_cons_of_mem _ (List.mem_cons_self ..))|exact .inr (List.mem_cons_of_mem _ (List.mem_cons_of_mem _ (List.mem_cons_self ..)))|exact .inr (List.mem_cons_of_mem _ (List.mem_cons_of_mem _ (List.mem_cons_of_mem _ (List.mem_cons_self ..))))))));all_goals trace_state);(case hi=>exact rfl);(case hz=>first|rfl|(simp [j6,AV.ren,AV.ren.renL,jD,qR,jA];done))))
set_option maxHeartbeats 4000000 in
theorem Q8 (M T O:List Ent) (cs:List Cpy) (p x q:qQ) (lp:p.length ≤ 1000000000) (lM:M.length ≤ 60) (lT:T.length ≤ 60) (lO:O.length ≤ 400000) (hO:q4 jr O = true) (lc:cs.length ≤ 1000000) (h:xS M T O p 99 1 = some q) (N:List Ent) (hN:jN O ⟨q,false,x,1⟩ = N) :
  qW CF5.P 32 [.v (str p),.v (str x),.fp [[qb M]] 0 0,.fp [[qb T]] 0 0,.op 0 0 0,.op 2 0 0,.op 3 0 0] (hA O cs) (.v (.bool true)) [.own false 1 [[.os 5 0 N.length]],.dead,.own false 1 [[.clo (.func 30) [] [.op 0 0 0]]],.own false 1 [[.os 6 0 (cs ++ [(⟨p,q⟩ : Cpy)]).length]],.dead,.own false 4 (N.map Ent.row),.own false 2 ((cs ++ [(⟨p,q⟩ : Cpy)]).map Cpy.row)]:=by
 refine qa (C:=CF5) Tryz.func32 rfl _ Tryz.ntmps32 (Nat.le_of_ble_eq_true rfl) _ Tryz.results32 5 rfl rfl ?_
 repeat' (first|refine qm ?_|(first|fail)|((first|refine qd ?_ ?_|refine qc ?_ ?_|refine xsC ?_ ?_);all_goals (intro hc;have hp:=hc;try simp at hp;try (exfalso;omega)))|refine qO ?_ ?_)
 all_goals try (exfalso;omega)
 (refine Awp.red (qC (τ:=⟨[(0,.v (str p)),(1,.v (str x)),(2,.fp [[qb M]] 0 0),(3,.fp [[qb T]] 0 0),(4,.op 0 0 0),(5,.op 2 0 0),(6,.op 3 0 0),(10,.v (.int .i64 ((0 + 1:Nat):Int)))],zY 0 (hA O cs),5⟩) [] rfl ?gts2 ?ghs2) ?_;(case gts2=>(repeat (first|exact qg|refine qn ?_|refine ye ?_|refine xr ?_|refine ze ?_|refine xw ?_ ?_|refine qS ?_ ?_));all_goals trace_state);(case ghs2=>(repeat' (first|exact qj|refine jt ?_|refine yH ?_ ?_|refine zz ?_|refine q9 ?_ ?_|exact ql|apply qh|exact qk rfl|exact jn rfl|refine jn ?_|(apply yI;(first|exact qJ rfl|exact .inr (List.mem_cons_self ..)|exact .inr (List.mem_cons_of_mem _ (List.mem_cons_self ..))|exact .inr (List.mem_cons_of_mem _ (List.mem_cons_of_mem _ (List.mem_cons_self ..)))|exact .inr (List.mem_cons_of_mem _ (List.mem_cons_of_mem _ (List.mem_cons_of_mem _ (List.mem_cons_self ..))))))));all_goals trace_state))
 refine qP (fun n σ => ∃ i:Nat,i ≤ 99 ∧ n = 99 - i ∧ xS M T O p (99 - i) (i + 1) = some q ∧ σ = ⟨[(0,.v (str p)),(1,.v (str x)),(2,.fp [[qb M]] 0 0),(3,.fp [[qb T]] 0 0),(4,.op 0 0 0),(5,.op 2 0 0),(6,.op 3 0 0),(10,.v (.int .i64 ((i + 1:Nat):Int)))],zY 0 (hA O cs),5⟩) 99 ⟨0,by omega,rfl,h,rfl⟩ ?_
 rintro n σ ⟨i,hi,rfl,hn,rfl⟩
 by_cases hlt:i < 99
 ·rw [VD hlt] at hn
  have h1:=ZA p (i + 1) (by omega) lp
  have h2:=j8 M (yr p ((i + 1:Nat):Int)) (by omega)
  have h3:=j8 T (yr p ((i + 1:Nat):Int)) (by omega)
  have h4:=j8 O (yr p ((i + 1:Nat):Int)) (by omega)
  have i2:=Xs M (yr p ((i + 1:Nat):Int))
  have i3:=Xs T (yr p ((i + 1:Nat):Int))
  have i4:=Xs O (yr p ((i + 1:Nat):Int))
  unfold JW at hn
  generalize vz p ((i + 1:Nat):Int) = E at *
  generalize yr p ((i + 1:Nat):Int) = Q at *
  generalize xa (atP Q) M = kM at *
  generalize xa (atP Q) T = kT at *
  generalize xa (atP Q) O = kO at *
  generalize jW M Q = bM at *
  generalize jW T Q = bT at *
  generalize jW O Q = bO at *
  by_cases hE:E = 0
  case neg=>rw [if_neg hE] at hn;cases hn
  subst hE
  rw [show JP 0 Q = Q from rfl] at h1
  rw [if_pos rfl] at hn
  generalize hAn:xS M T O p (99 - (i + 1)) (i + 1 + 1) = An at hn
  by_cases hf:bM = false ∧ bT = false ∧ bO = false
  ·obtain ⟨rfl,rfl,rfl⟩:=hf
   have hq:Q = q:=by simpa using hn
   subst hq
   have kM0:=i2.2 rfl
   have kT0:=i3.2 rfl
   have kO0:=i4.2 rfl
   have hput:=Vx O N Q 2 x (by decide) hO lO hN
   clear hn i2 i3 i4 h
   repeat' (first|refine qm ?_|(first|refine xsQ Tryz.func33 (h1 ..) ?_|refine jc Tryz.func34 (h2 ..) ?_|refine jc Tryz.func34 (h3 ..) ?_|(apply qf;apply yu ([1]);exact j1 Tryz.func34 rfl rfl;apply h4;(case hz=>(repeat' (first|exact q5|apply qH|exact q8 rfl|exact yn|(apply jY;(case hn=>rfl);(case hl=>first|with_reducible rfl|(simp;done)|(simp [*];done)|omega);(case hp=>(first|assumption|exact jX rfl|exact qE fun _=>rfl)))|apply jR|apply jJ)));(case hfl=>rfl);(case hN=>exact nle rfl)))|((first|refine qd ?_ ?_|refine qc ?_ ?_|refine xsC ?_ ?_);all_goals (intro hc;have hp:=hc;try simp at hp;try (exfalso;omega)))|refine qO ?_ ?_)
   all_goals try (exfalso;first|omega|contradiction)
   refine yZ (C:=CF5) (first:=[]) (cap:=[.op 0 0 0]) [0,1] [5] [(0,.own false 1 [[.os 5 0 N.length]]),(1,.dead),(5,.own false 4 (N.map Ent.row))] 6 (.tup []) Tryz.func30 (hput) (by ((repeat' (first|exact jf|apply q6|exact je rfl|exact jG|(apply qp;apply qI;exact .inr (of_decide_eq_true rfl))|(apply qp;apply qw;exact .inr (of_decide_eq_true rfl))|(apply qp;apply qF;exact .inr (of_decide_eq_true rfl))|apply jw|apply jx)))<;>fail) (by ((repeat' (first|exact qL|exact qK|refine qA _ ?_ ?_|refine qz ?_ ?_|exact qt|exact qe (qi _)|exact qe (qU _)|exact qe (qr _)|exact qx (fun _=>rfl)|refine qB ?_|exact ql|apply qh|exact qk rfl|(apply qw;exact .inr (of_decide_eq_true rfl))|(apply qF;exact .inr (of_decide_eq_true rfl))|(apply qI;exact .inr (of_decide_eq_true rfl))|exact qZ (qE fun _=>rfl))))<;>fail) (by ((repeat' (first|exact qL|exact qK|refine qA _ ?_ ?_|refine qz ?_ ?_|exact qt|exact qe (qi _)|exact qe (qU _)|exact qe (qr _)|exact qx (fun _=>rfl)|refine qB ?_|exact ql|apply qh|exact qk rfl|(apply qw;exact .inr (of_decide_eq_true rfl))|(apply qF;exact .inr (of_decide_eq_true rfl))|(apply qI;exact .inr (of_decide_eq_true rfl))|exact qZ (qE fun _=>rfl))))<;>fail) ?_
   repeat' (first|refine qm ?_|(first|(refine jM ?_)|(refine yg ?_))|((first|refine qd ?_ ?_|refine qc ?_ ?_|refine xsC ?_ ?_);all_goals (intro hc;have hp:=hc;try simp at hp;try (exfalso;omega)))|refine qO ?_ ?_)
   all_goals try (exfalso;first|omega|contradiction)
   all_goals ((apply jH (rs:=[.tmp 9]) [(5,5),(6,6)] 7;(case hr=>(repeat (first|exact jp|(apply jq;rfl)|(apply jg;rfl;rfl;rfl;rfl;rfl))));(case hL=>rfl);(case hh=>(repeat' (first|exact qj|refine jt ?_|refine yH ?_ ?_|refine zz ?_|refine q9 ?_ ?_|exact ql|apply qh|exact qk rfl|exact jn rfl|refine jn ?_|(apply yI;(first|exact qJ rfl|exact .inr (List.mem_cons_self ..)|exact .inr (List.mem_cons_of_mem _ (List.mem_cons_self ..))|exact .inr (List.mem_cons_of_mem _ (List.mem_cons_of_mem _ (List.mem_cons_self ..)))|exact .inr (List.mem_cons_of_mem _ (List.mem_cons_of_mem _ (List.mem_cons_of_mem _ (List.mem_cons_self ..))))))));all_goals first|exact qdK _ _ _|(simp;done)|trace_state);(case hi=>exact rfl);(case hz=>first|rfl|(simp [j6,AV.ren,AV.ren.renL,jD,qR,jA];done))))
  ·have hn2:(0 ≤ kM ∨ 0 ≤ kT ∨ 0 ≤ kO) ∧ An = some q:=by
    cases bM<;>cases bT<;>cases bO<;>simp at hn i2 i3 i4 hf<;>exact ⟨by omega,hn⟩
   obtain ⟨hnf,hn⟩:=hn2
   have hn:=hAn.trans hn
   clear i2 i3 i4
   repeat' (first|refine qm ?_|(first|refine xsQ Tryz.func33 (h1 ..) ?_|refine jc Tryz.func34 (h2 ..) ?_|refine jc Tryz.func34 (h3 ..) ?_|(apply qf;apply yu ([1]);exact j1 Tryz.func34 rfl rfl;apply h4;(case hz=>(repeat' (first|exact q5|apply qH|exact q8 rfl|exact yn|(apply jY;(case hn=>rfl);(case hl=>first|with_reducible rfl|(simp;done)|(simp [*];done)|omega);(case hp=>(first|assumption|exact jX rfl|exact qE fun _=>rfl)))|apply jR|apply jJ)));(case hfl=>rfl);(case hN=>exact nle rfl)))|((first|refine qd ?_ ?_|refine qc ?_ ?_|refine xsC ?_ ?_);all_goals (intro hc;have hp:=hc;try simp at hp;try (exfalso;omega)))|refine qO ?_ ?_)
   all_goals try (exfalso;first|omega|contradiction)
   all_goals (refine ⟨99 - (i + 1),⟨[(0,.v (str p)),(1,.v (str x)),(2,.fp [[qb M]] 0 0),(3,.fp [[qb T]] 0 0),(4,.op 0 0 0),(5,.op 2 0 0),(6,.op 3 0 0),(10,.v (.int .i64 ((i + 1 + 1:Nat):Int)))],zY 0 (hA O cs),5⟩,by omega,?_,i + 1,by omega,rfl,hn,rfl⟩;refine qC [] rfl ?gts ?ghs;(case gts=>(repeat (first|exact qg|refine qn ?_|refine ye ?_|refine xr ?_|refine ze ?_|refine xw ?_ ?_|refine qS ?_ ?_));all_goals trace_state);(case ghs=>(repeat' (first|exact qj|refine jt ?_|refine yH ?_ ?_|refine zz ?_|refine q9 ?_ ?_|exact ql|apply qh|exact qk rfl|exact jn rfl|refine jn ?_|(apply yI;(first|exact qJ rfl|exact .inr (List.mem_cons_self ..)|exact .inr (List.mem_cons_of_mem _ (List.mem_cons_self ..))|exact .inr (List.mem_cons_of_mem _ (List.mem_cons_of_mem _ (List.mem_cons_self ..)))|exact .inr (List.mem_cons_of_mem _ (List.mem_cons_of_mem _ (List.mem_cons_of_mem _ (List.mem_cons_self ..))))))));all_goals trace_state))
 ·obtain rfl:i = 99:=by omega
  exact absurd hn (by unfold xS;simp)
end Go.Proofs.YtnhpclmbhbblbaaGreatDoor
