import Derived.Test.YtnhpclmbhbblbaaGreatDoorMz26
import Derived.Test.YtnhpclmbhbblbaaGreatDoorMz15
import Derived.Test.YtnhpclmbhbblbaaGreatDoorMz16
import Derived.Test.YtnhpclmbhbblbaaGreatDoorMz14
import Derived.Test.YtnhpclmbhbblbaaGreatDoorMz24
import Derived.Test.YtnhpclmbhbblbaaGreatDoorMz19
import Derived.Test.YtnhpclmbhbblbaaGreatDoorMz11
import Derived.Test.YtnhpclmbhbblbaaGreatDoorMz17
set_option linter.unusedSimpArgs false
set_option linter.unnecessarySimpa false
set_option linter.unusedVariables false
namespace Go.Proofs.YtnhpclmbhbblbaaGreatDoor
open Go.Ab Go.RowKit
set_option maxRecDepth 10000
attribute [local irreducible] Awp j4 jw js Red qU Go.Ab.Fin q6 Rz x6 jp jo ResOk jJ ju yb jx
theorem qbV (t:List Ent) (p:qJ):(xh (atP p) t = -1 ∧ stT t p = noT) ∨ ∃ (k:Nat) (h:k < t.length),xh (atP p) t = k ∧ stT t p = yL t[k]:=by
 rcases wP (atP p) t with ⟨h1,h2⟩|⟨k,hk,h1,h2⟩
 ·exact .inl ⟨h1,by unfold stT q5;rw [h2]⟩
 ·exact .inr ⟨k,hk,h1,by unfold stT q5;rw [h2]⟩
end Go.Proofs.YtnhpclmbhbblbaaGreatDoor
set_option linter.unusedSimpArgs false
set_option linter.unnecessarySimpa false
set_option linter.unusedVariables false
namespace Go.Proofs.YtnhpclmbhbblbaaGreatDoor
open Go.Ab
theorem Yw {l:List qJ} {s:qJ} {k:Nat} (hs:¬ s ∈ l) (hk:k ≤ l.length) (h1 : ∀ x,x ∈ l.take k → Op.bytesLess x s = true) (h2 : ∀ h:k < l.length,Op.bytesLess l[k] s = false):vf l s = l.take k ++ s :: l.drop k:=by
 unfold vf
 rw [if_neg hs]
 have hl:l = l.take k ++ l.drop k:=(List.take_append_drop k l).symm
 have e1:l.takeWhile (fun x=>Op.bytesLess x s) = l.take k:=by
  conv=>lhs;rw [hl]
  rw [List.takeWhile_append_of_pos h1]
  by_cases hlt:k < l.length
  ·rw [List.drop_eq_getElem_cons hlt,List.takeWhile_cons_of_neg (by rw [h2 hlt];decide),List.append_nil]
  ·rw [List.drop_eq_nil_of_le (by omega)];simp
 have e2:l.dropWhile (fun x=>Op.bytesLess x s) = l.drop k:=by
  have h:=List.takeWhile_append_dropWhile (p:=fun x=>Op.bytesLess x s) (l:=l)
  rw [e1] at h
  exact List.append_cancel_left (h.trans hl)
 rw [e1,e2]
end Go.Proofs.YtnhpclmbhbblbaaGreatDoor
set_option linter.unusedSimpArgs false
set_option linter.unnecessarySimpa false
set_option linter.unusedVariables false
set_option maxHeartbeats 1000000
namespace Go.Proofs.YtnhpclmbhbblbaaGreatDoor
open Go.Ab Go.RowKit
set_option maxRecDepth 10000
attribute [local irreducible] Awp j4 jw js Red qU Go.Ab.Fin q6 Rz x6 jp jo ResOk jJ ju yb jx
def wV (l:List qJ):AV := .sl false (l.map qV)
theorem KQ (l:List qJ) (s:qJ) (hl:l.length ≤ 1000000000):vg C.P 68 [wV l,.v (str s)] (.v (.bool (decide (s ∈ l)))):=by
 unfold wV
 refine qh Tryz.func68 rfl _ Tryz.ntmps68 (Nat.le_of_ble_eq_true rfl) _ Tryz.results68 0 rfl rfl ?_
 repeat' (first|refine qA ?_|fail|((first|refine jg ?_ ?_);all_goals (intro hc;have hp:=hc;try simp at hp;try (exfalso;omega)))|refine jh ?_ ?_)
 (refine Awp.red (qX (ts:=[(0,.sl false (l.map qV)),(1,.v (str s)),(5,.v (.int .i64 ((0:Nat):Int)))]) ?_) ?_;((repeat (first|exact qi|refine qz ?_|refine ji ?_ ?_))))
 refine jf (fun n σ => ∃ i:Nat,i ≤ l.length ∧ n = l.length - i ∧ (∀ x,x ∈ l.take i → ¬ x = s) ∧ σ = ⟨[(0,.sl false (l.map qV)),(1,.v (str s)),(5,.v (.int .i64 (i:Int)))],[],C.nh⟩) l.length ⟨0,Nat.zero_le _,rfl,(by simp),rfl⟩ ?_
 rintro n σ ⟨i,hi,rfl,hsofar,rfl⟩
 by_cases hlt:i < l.length
 ·have hr:=j3 (f:=qV) hlt
  have hnx:=fun h=>ya (p:=fun x => ¬ x = s) hlt hsofar h
  repeat' (first|refine qA ?_|fail|((first|refine jg ?_ ?_);all_goals (intro hc;have hp:=hc;try simp at hp;try (exfalso;omega)))|refine jh ?_ ?_)
  all_goals try (exfalso;omega)
  ·have hm:s ∈ l:=by
    have e:l[i] = s:=by first|assumption|simp_all
    exact e ▸ List.getElem_mem hlt
   apply yE
   rfl
   exact (decide_eq_true hm).symm
  ·refine ⟨l.length - (i + 1),_,by omega,qX (ts:=[(0,.sl false (l.map qV)),(1,.v (str s)),(5,.v (.int .i64 ((i + 1:Nat):Int)))]) ?_,i + 1,by omega,rfl,hnx (by first|assumption|simp_all),rfl⟩;((repeat (first|exact qi|refine qz ?_|refine ji ?_ ?_)))
 obtain rfl:i = l.length:=by omega
 repeat' (first|refine qA ?_|fail|((first|refine jg ?_ ?_);all_goals (intro hc;have hp:=hc;try simp at hp;try (exfalso;omega)))|refine jh ?_ ?_)
 all_goals try (exfalso;omega)
 apply yE
 rfl
 exact (decide_eq_false fun hm=>hsofar s (by rw [List.take_length];exact hm) rfl).symm
theorem WY (l:List qJ) (s:qJ) (i:Nat):List.drop 0 (List.take i (l.map qV)) ++ List.take ([[AV.v (str s)]].length + (List.drop i (List.take (l.map qV).length (l.map qV))).length) (List.drop 0 ([[AV.v (str s)]] ++ List.drop i (List.take (l.map qV).length (l.map qV)))) = (l.take i ++ s :: l.drop i).map qV:=by
 rw [List.take_length,List.drop_zero,List.drop_zero,List.take_of_length_le (l:=[[AV.v (str s)]] ++ _) (by simp;omega),List.map_append,List.map_cons,List.map_take,List.map_drop]
 rfl
set_option maxHeartbeats 2000000 in
theorem Wl (l:List qJ) (s:qJ) (hl:l.length ≤ 1000000):vg C.P 29 [wV l,.v (str s)] (wV (vf l s)):=by
 have h1:=KQ l s (by omega)
 have hml:(l.map qV).length = l.length:=List.length_map ..
 have hrk : ∀ row,row ∈ l.map qV → row.length = 1:=by
  intro row h
  obtain ⟨s,_,rfl⟩:=List.mem_map.1 h
  rfl
 by_cases hm:s ∈ l
 ·rw [decide_eq_true hm] at h1
  rw [show vf l s = l from by unfold vf;rw [if_pos hm]]
  unfold wV at *
  refine qh Tryz.func29 rfl _ Tryz.ntmps29 (Nat.le_of_ble_eq_true rfl) _ Tryz.results29 0 rfl rfl ?_
  repeat' (first|refine qA ?_|(first|refine jM Tryz.func68 (h1 ..) ?_)|((first|refine qk ?_ ?_|refine ql ?_ ?_|refine jg ?_ ?_);all_goals (intro hc;have hp:=hc;try simp at hp;try (exfalso;omega)))|refine jh ?_ ?_)
  all_goals try (exfalso;first|omega|contradiction)
  all_goals ((exact QE (rs:=[.tmp 4])))
 rw [decide_eq_false hm] at h1
 unfold wV at *
 refine qh Tryz.func29 rfl _ Tryz.ntmps29 (Nat.le_of_ble_eq_true rfl) _ Tryz.results29 0 rfl rfl ?_
 repeat' (first|refine qA ?_|(first|refine jM Tryz.func68 (h1 ..) ?_)|((first|refine qk ?_ ?_|refine ql ?_ ?_|refine jg ?_ ?_);all_goals (intro hc;have hp:=hc;try simp at hp;try (exfalso;omega)))|refine jh ?_ ?_)
 all_goals try (exfalso;first|omega|contradiction)
 (refine Awp.red (qX (ts:=[(0,.sl false (l.map qV)),(1,.v (str s)),(5,.v (.int .i64 ((0:Nat):Int)))]) ?_) ?_;((repeat (first|exact qi|refine qz ?_|refine ji ?_ ?_))))
 refine jf (fun n σ => ∃ i:Nat,i ≤ l.length ∧ n = l.length - i ∧ (∀ x,x ∈ l.take i → Op.bytesLess x s = true) ∧ σ = ⟨[(0,.sl false (l.map qV)),(1,.v (str s)),(5,.v (.int .i64 (i:Int)))],[],C.nh⟩) l.length ⟨0,Nat.zero_le _,rfl,(by simp),rfl⟩ ?_
 rintro n σ ⟨i,hi,rfl,hsofar,rfl⟩
 have hil:i ≤ (l.map qV).length:=by omega
 by_cases hlt:i < l.length
 ·have hr:=j3 (f:=qV) hlt
  cases hless:Op.bytesLess l[i] s with
  | true =>
    have hnx:=ya (p:=fun x=>Op.bytesLess x s = true) hlt hsofar hless
    repeat' (first|refine qA ?_|fail|((first|refine qk ?_ ?_|refine ql ?_ ?_|refine jg ?_ ?_);all_goals (intro hc;have hp:=hc;try simp at hp;try (exfalso;omega)))|refine jh ?_ ?_)
    all_goals try (exfalso;first|omega|contradiction|simp_all;done)
    refine ⟨l.length - (i + 1),_,by omega,qX (ts:=[(0,.sl false (l.map qV)),(1,.v (str s)),(5,.v (.int .i64 ((i + 1:Nat):Int)))]) ?_,i + 1,by omega,rfl,hnx,rfl⟩;((repeat (first|exact qi|refine qz ?_|refine ji ?_ ?_)))
  | false =>
    rw [Yw hm hi hsofar (fun _=>hless)]
    clear hsofar
    repeat' (first|refine qA ?_|(first|(refine yh ?_)|(apply qd;apply xM (ex':=true) (a:=0) (b:=i) (m:=i);(case hx=>rfl);(case hT=>rfl);(case he=>rfl);(case hE=>rfl);(case ha=>rfl);(case hb=>exact ⟨_,rfl⟩);(case hm=>exact ⟨⟨_,rfl⟩,Nat.le_refl _,hil,rfl⟩);(case hab=>exact Nat.zero_le _);(case hbl=>exact hil);(case hrk=>exact hrk);(case hex=>exact fun _=>rfl);(case hN=>exact nle rfl))|(apply qd;apply xM (ex':=false) (a:=i) (b:=(l.map qV).length) (m:=0);(case hx=>rfl);(case hT=>rfl);(case he=>rfl);(case hE=>rfl);(case ha=>exact ⟨_,rfl⟩);(case hb=>rfl);(case hm=>trivial);(case hab=>(first|omega|(simp;done)|(simp only [List.length_cons,List.length_nil,List.length_map];omega)|(simp;omega)));(case hbl=>(first|omega|(simp;done)|(simp only [List.length_cons,List.length_nil,List.length_map];omega)|(simp;omega)));(case hrk=>exact hrk);(case hex=>exact nofun);(case hN=>exact nle rfl))|(apply y2;apply kv;(case hx=>rfl);(case hT=>rfl);(case he=>rfl);(case hE=>rfl);(case hz=>rfl);(case hk0=>(intro row h;rw [List.mem_singleton.1 h];rfl));(case hc0=>(intro row h;rw [List.mem_singleton.1 h];rfl));(case hsrc=>(apply JK;rfl;exact Y1 (vO fun _=>rfl) zN));(case hne=>(simp;omega));(case hsz=>(first|omega|(simp only [List.length_append,List.length_drop,List.length_take,List.length_map,List.length_cons,List.length_nil];omega)|(simp;omega)));(case hlen=>(first|omega|(simp only [List.length_append,List.length_drop,List.length_take,List.length_map,List.length_cons,List.length_nil];omega)|(simp;omega)));(case hN=>exact nle rfl))|(apply y2;apply kv;(case hx=>rfl);(case hT=>rfl);(case he=>rfl);(case hE=>rfl);(case hz=>rfl);(case hk0=>(intro row h;exact hrk row (zN row h)));(case hc0=>(intro row h;obtain ⟨x,_,rfl⟩:=List.mem_map.1 (zN row h);rfl));(case hsrc=>(apply Xr;rfl;rfl;exact Nat.le_of_eq (by simp;omega);rfl;(rw [List.all_append,Bool.and_eq_true];exact ⟨rfl,Y1 (vO fun _=>rfl) zN⟩)));(case hne=>(simp;omega));(case hsz=>(first|omega|(simp only [List.length_append,List.length_drop,List.length_take,List.length_map,List.length_cons,List.length_nil];omega)|(simp;omega)));(case hlen=>(first|omega|(simp only [List.length_append,List.length_drop,List.length_take,List.length_map,List.length_cons,List.length_nil];omega)|(simp;omega)));(case hN=>exact nle rfl)))|((first|refine qk ?_ ?_|refine ql ?_ ?_|refine jg ?_ ?_);all_goals (intro hc;have hp:=hc;try simp at hp;try (exfalso;omega)))|refine jh ?_ ?_)
    all_goals try (exfalso;first|omega|contradiction|simp_all;done)
    (refine y7 (rs:=[.tmp 4]) ?_;(repeat' (first|exact jv|apply q8|exact jj rfl|exact yg|exact vZ|apply jI|apply y1|apply jH|apply y0|apply ye|apply yY|refine vM ?_|apply xS));all_goals exact WY l s i)
 obtain rfl:i = l.length:=by omega
 rw [Yw hm hi hsofar (fun h=>absurd h (Nat.lt_irrefl _))]
 clear hsofar
 repeat' (first|refine qA ?_|(first|(refine yh ?_)|(apply qd;apply xM (ex':=true) (a:=0) (b:=l.length) (m:=l.length);(case hx=>rfl);(case hT=>rfl);(case he=>rfl);(case hE=>rfl);(case ha=>rfl);(case hb=>exact ⟨_,rfl⟩);(case hm=>exact ⟨⟨_,rfl⟩,Nat.le_refl _,hil,rfl⟩);(case hab=>exact Nat.zero_le _);(case hbl=>exact hil);(case hrk=>exact hrk);(case hex=>exact fun _=>rfl);(case hN=>exact nle rfl))|(apply qd;apply xM (ex':=false) (a:=l.length) (b:=(l.map qV).length) (m:=0);(case hx=>rfl);(case hT=>rfl);(case he=>rfl);(case hE=>rfl);(case ha=>exact ⟨_,rfl⟩);(case hb=>rfl);(case hm=>trivial);(case hab=>(first|omega|(simp;done)|(simp only [List.length_cons,List.length_nil,List.length_map];omega)|(simp;omega)));(case hbl=>(first|omega|(simp;done)|(simp only [List.length_cons,List.length_nil,List.length_map];omega)|(simp;omega)));(case hrk=>exact hrk);(case hex=>exact nofun);(case hN=>exact nle rfl))|(apply qd;apply YI;(case hx=>rfl);(case hT=>rfl);(case he=>rfl);(case hE=>rfl);(case hy=>rfl);(case h0=>(simp;done));(case hN=>exact nle rfl))|(apply y2;apply kv;(case hx=>rfl);(case hT=>rfl);(case he=>rfl);(case hE=>rfl);(case hz=>rfl);(case hk0=>(intro row h;exact hrk row (zN row h)));(case hc0=>(intro row h;obtain ⟨x,_,rfl⟩:=List.mem_map.1 (zN row h);rfl));(case hsrc=>(apply JK;rfl;rfl));(case hne=>(exact Nat.one_pos));(case hsz=>(first|omega|(simp only [List.length_append,List.length_drop,List.length_take,List.length_map,List.length_cons,List.length_nil];omega)|(simp;omega)));(case hlen=>(first|omega|(simp only [List.length_append,List.length_drop,List.length_take,List.length_map,List.length_cons,List.length_nil];omega)|(simp;omega)));(case hN=>exact nle rfl)))|((first|refine qk ?_ ?_|refine ql ?_ ?_|refine jg ?_ ?_);all_goals (intro hc;have hp:=hc;try simp at hp;try (exfalso;omega)))|refine jh ?_ ?_)
 all_goals try (exfalso;first|omega|contradiction|simp_all;done)
 (refine y7 (rs:=[.tmp 4]) ?_;(repeat' (first|exact jv|apply q8|exact jj rfl|exact yg|exact vZ|apply jI|apply y1|apply jH|apply y0|apply ye|apply yY|refine vM ?_|apply xS));all_goals (show List.drop 0 (List.take l.length (l.map qV)) ++ [[.v (str s)]] = _;rw [List.drop_zero,List.take_of_length_le (by simp),List.take_length,List.drop_length,List.map_append];rfl))
end Go.Proofs.YtnhpclmbhbblbaaGreatDoor
set_option linter.unusedSimpArgs false
set_option linter.unnecessarySimpa false
set_option linter.unusedVariables false
set_option maxHeartbeats 1000000
namespace Go.Proofs.YtnhpclmbhbblbaaGreatDoor
open Go.Ab Go.RowKit
set_option maxRecDepth 10000
attribute [local irreducible] Awp j4 jw js Red qU Go.Ab.Fin q6 Rz x6 jp jo ResOk jJ ju yb jx
theorem zQ (t:List Ent) (p:qJ) (hl:t.length ≤ 1000000000):vg C.P 35 [qe t,.v (str p)] (.tup [.v (.int .i64 (stT t p).kind),.v (str (stT t p).text)]):=by
 have hea:=xV t p hl
 rcases qbV t p with ⟨h1,h2⟩|⟨k,hk,h1,h2⟩
 ·rw [h1] at hea
  rw [h2]
  unfold noT
  refine qh Tryz.func35 rfl _ Tryz.ntmps35 (Nat.le_of_ble_eq_true rfl) _ Tryz.results35 0 rfl rfl ?_
  repeat' (first|refine qA ?_|(first|refine jM Tryz.func34 (hea ..) ?_)|((first|refine jg ?_ ?_);all_goals (intro hc;have hp:=hc;try simp at hp;try (exfalso;omega)))|refine jh ?_ ?_)
  all_goals try (exfalso;omega)
  all_goals ((exact QE (rs:=[.tmp 4,.tmp 5])))
 ·rw [h1] at hea
  have hr:=j3 (f:=Ent.row) hk
  rw [h2]
  generalize t[k] = x at *
  obtain ⟨xp,xf,xt,xv⟩:=x
  cases xf
  ·rw [show yL ⟨xp,false,xt,xv⟩ = ⟨2,xt⟩ from rfl]
   refine qh Tryz.func35 rfl _ Tryz.ntmps35 (Nat.le_of_ble_eq_true rfl) _ Tryz.results35 0 rfl rfl ?_
   repeat' (first|refine qA ?_|(first|refine jM Tryz.func34 (hea ..) ?_)|((first|refine jg ?_ ?_);all_goals (intro hc;have hp:=hc;try simp at hp;try (exfalso;omega)))|refine jh ?_ ?_)
   all_goals try (exfalso;first|omega|contradiction)
   all_goals ((exact QE (rs:=[.tmp 4,.tmp 5])))
  ·rw [show yL ⟨xp,true,xt,xv⟩ = ⟨1,[]⟩ from rfl]
   refine qh Tryz.func35 rfl _ Tryz.ntmps35 (Nat.le_of_ble_eq_true rfl) _ Tryz.results35 0 rfl rfl ?_
   repeat' (first|refine qA ?_|(first|refine jM Tryz.func34 (hea ..) ?_)|((first|refine jg ?_ ?_);all_goals (intro hc;have hp:=hc;try simp at hp;try (exfalso;omega)))|refine jh ?_ ?_)
   all_goals try (exfalso;first|omega|contradiction)
   all_goals ((exact QE (rs:=[.tmp 4,.tmp 5])))
theorem Qk (a b:List Ent) (p:qJ) (ha:a.length ≤ 1000000000) (hb:b.length ≤ 1000000000):vg C.P 36 [qe a,qe b,.v (str p)] (.v (.bool (decide (stT a p = stT b p)))):=by
 have h1:=zQ a p ha
 have h2:=zQ b p hb
 generalize stT a p = x at *
 generalize stT b p = y at *
 obtain ⟨xk,xt⟩:=x
 obtain ⟨yk,yt⟩:=y
 dsimp only at h1 h2
 have hE:decide ((⟨xk,xt⟩ : Thg) = ⟨yk,yt⟩) = (decide (xk = yk) && decide (xt = yt)):=by
  by_cases e1:xk = yk<;>by_cases e2:xt = yt<;>simp [e1,e2]
 rw [hE]
 refine qh Tryz.func36 rfl _ Tryz.ntmps36 (Nat.le_of_ble_eq_true rfl) _ Tryz.results36 0 rfl rfl ?_
 repeat' (first|refine qA ?_|(first|refine xB Tryz.func35 (h1 ..) ?_|refine xB Tryz.func35 (h2 ..) ?_)|((first|refine qk ?_ ?_|refine ql ?_ ?_|refine jg ?_ ?_);all_goals (intro hc;have hp:=hc;try simp at hp;try (exfalso;omega)))|refine jh ?_ ?_)
 all_goals try (exfalso;first|omega|contradiction)
 all_goals (apply yE;rfl;first|rfl|(simp_all;done))
theorem qaQ:qaq C.P 69 = some [1,1]:=by kernel_rfl
theorem KD (a b:Cpy):kF [1,1] a.row b.row = some (decide (a = b)):=by
 obtain ⟨a1,a2⟩:=a
 obtain ⟨b1,b2⟩:=b
 simp only [Cpy.row,kF,kB,str,Cpy.mk.injEq,if_true,Option.some.injEq]
 by_cases h1:a1 = b1<;>by_cases h2:a2 = b2<;>simp [h1,h2]
theorem Qq (a:List Cpy) (ha:a.length ≤ 1000000000):vg C.P 13 [vy a,vy a] (.v (.bool true)):=by
 have hma:(a.map Cpy.row).length = a.length:=List.length_map ..
 unfold vy
 refine qh Tryz.func13 rfl _ Tryz.ntmps13 (Nat.le_of_ble_eq_true rfl) _ Tryz.results13 0 rfl rfl ?_
 repeat' (first|refine qA ?_|fail|((first|refine jg ?_ ?_);all_goals (intro hc;have hp:=hc;try simp at hp;try (exfalso;omega)))|refine jh ?_ ?_)
 all_goals try (exfalso;first|omega|simp_all;done)
 (refine Awp.red (qX (ts:=[(0,.sl false (a.map Cpy.row)),(1,.sl false (a.map Cpy.row)),(5,.v (.int .i64 ((0:Nat):Int)))]) ?_) ?_;((repeat (first|exact qi|refine qz ?_|refine ji ?_ ?_))))
 refine jf (fun n σ => ∃ i:Nat,i ≤ a.length ∧ n = a.length - i ∧ (True) ∧ σ = ⟨[(0,.sl false (a.map Cpy.row)),(1,.sl false (a.map Cpy.row)),(5,.v (.int .i64 (i:Int)))],[],C.nh⟩) a.length ⟨0,Nat.zero_le _,rfl,trivial,rfl⟩ ?_
 rintro n σ ⟨i,hi,rfl, -,rfl⟩
 by_cases hlt:i < a.length
 ·have hr:=j3 (f:=Cpy.row) hlt
  repeat' (first|refine qA ?_|(first|(apply qd;apply yQ;rfl;rfl;exact qaQ;exact KD _ _;(first|exact .inl ⟨rfl,rfl⟩|exact .inr ⟨rfl,rfl⟩);exact nle rfl))|((first|refine jg ?_ ?_);all_goals (intro hc;have hp:=hc;try simp at hp;try (exfalso;omega)))|refine jh ?_ ?_)
  all_goals try (exfalso;first|omega|simp_all;done)
  refine ⟨a.length - (i + 1),_,by omega,qX (ts:=[(0,.sl false (a.map Cpy.row)),(1,.sl false (a.map Cpy.row)),(5,.v (.int .i64 ((i + 1:Nat):Int)))]) ?_,i + 1,by omega,rfl,trivial,rfl⟩;((repeat (first|exact qi|refine qz ?_|refine ji ?_ ?_)))
 obtain rfl:i = a.length:=by omega
 repeat' (first|refine qA ?_|fail|((first|refine jg ?_ ?_);all_goals (intro hc;have hp:=hc;try simp at hp;try (exfalso;omega)))|refine jh ?_ ?_)
 all_goals try (exfalso;omega)
 apply yE
 rfl
 rfl
theorem XM (a b c:List Ent) (ha:EBig a) (hb:EBig b) (hc:EBig c):vg C.P 9 [qe a,qe b,qe c] (.v (.int .i64 (jd qI [a,b,c]))):=by
 have h1:=Zw a b ha hb
 have h2:=ko c hc
 have hE:jd qI [a,b,c] = if jd qI [a,b] = 0 then qI c else jd qI [a,b]:=by
  simp only [jd]
  by_cases h3:qI a = 0<;>by_cases h4:qI b = 0<;>by_cases h5:qI c = 0<;>simp [h3,h4,h5]
 rw [hE]
 generalize jd qI [a,b] = E at *
 generalize qI c = G at *
 by_cases h0:E = 0
 ·subst h0
  rw [if_pos rfl]
  refine qh Tryz.func9 rfl _ Tryz.ntmps9 (Nat.le_of_ble_eq_true rfl) _ Tryz.results9 0 rfl rfl ?_
  repeat' (first|refine qA ?_|(first|refine jM Tryz.func27 (h1 ..) ?_|refine jM Tryz.func28 (h2 ..) ?_)|((first|refine jg ?_ ?_);all_goals (intro hc;have hp:=hc;try simp at hp;try (exfalso;omega)))|refine jh ?_ ?_)
  all_goals try (exfalso;first|omega|contradiction)
  all_goals (apply jL;rfl;rfl)
 ·rw [if_neg h0]
  refine qh Tryz.func9 rfl _ Tryz.ntmps9 (Nat.le_of_ble_eq_true rfl) _ Tryz.results9 0 rfl rfl ?_
  repeat' (first|refine qA ?_|(first|refine jM Tryz.func27 (h1 ..) ?_|refine jM Tryz.func28 (h2 ..) ?_)|((first|refine jg ?_ ?_);all_goals (intro hc;have hp:=hc;try simp at hp;try (exfalso;omega)))|refine jh ?_ ?_)
  all_goals try (exfalso;first|omega|contradiction)
  all_goals (apply jL;rfl;rfl)
theorem qbg (b m t:List Ent) (hb:EBig b) (hm:EBig m) (ht:EBig t):vg C.P 8 [qe b,qe m,qe t] (.tup [.v (.bool (decide ((xi b m t).2.2 = 0) && decide ((xi b m t).2.1.length = 0))),.v (.int .i64 (xi b m t).2.2)]):=by
 have h1:=XZ b m t hb hm ht
 generalize xi b m t = r at *
 obtain ⟨X,l,E⟩:=r
 unfold zT vy at h1
 dsimp only at *
 have hml:(l.map Cpy.row).length = l.length:=List.length_map ..
 have hd:decide (((l.map Cpy.row).length:Int) = 0) = decide (l.length = 0):=by rw [hml];simp
 rw [← hd]
 by_cases hE:E = 0
 ·rw [decide_eq_true hE,Bool.true_and]
  refine qh Tryz.func8 rfl _ Tryz.ntmps8 (Nat.le_of_ble_eq_true rfl) _ Tryz.results8 0 rfl rfl ?_
  repeat' (first|refine qA ?_|(first|refine xB Tryz.func7 (h1 ..) ?_)|((first|refine qk ?_ ?_|refine ql ?_ ?_|refine jg ?_ ?_);all_goals (intro hc;have hp:=hc;try simp at hp;try (exfalso;omega)))|refine jh ?_ ?_)
  all_goals try (exfalso;first|omega|contradiction)
  all_goals ((exact QE (rs:=[.tmp 6,.tmp 7])))
 ·rw [decide_eq_false hE,Bool.false_and]
  refine qh Tryz.func8 rfl _ Tryz.ntmps8 (Nat.le_of_ble_eq_true rfl) _ Tryz.results8 0 rfl rfl ?_
  repeat' (first|refine qA ?_|(first|refine xB Tryz.func7 (h1 ..) ?_)|((first|refine qk ?_ ?_|refine ql ?_ ?_|refine jg ?_ ?_);all_goals (intro hc;have hp:=hc;try simp at hp;try (exfalso;omega)))|refine jh ?_ ?_)
  all_goals try (exfalso;first|omega|contradiction)
  all_goals ((exact QE (rs:=[.tmp 6,.tmp 7])))
end Go.Proofs.YtnhpclmbhbblbaaGreatDoor
set_option linter.unusedSimpArgs false
set_option linter.unnecessarySimpa false
set_option linter.unusedVariables false
set_option maxHeartbeats 1000000
namespace Go.Proofs.YtnhpclmbhbblbaaGreatDoor
open Go.Ab Go.RowKit
set_option maxRecDepth 10000
attribute [local irreducible] Awp j4 jw js Red qU Go.Ab.Fin q6 Rz x6 jp jo ResOk jJ ju yb jx
def qb1:List (Nat × TRec):=(64,⟨.other,false,1,8,[.nilFunc]⟩) :: tab
theorem qaT:Z3 Tryz.prog qb1:=⟨by kernel_rfl,qbq⟩
noncomputable def CF:Cx:=⟨Tryz.prog,qb1,wK qaT,by kernel_rfl,0⟩
noncomputable def CF5:Cx := { CF with nh:=5 }
theorem Vd (t:List Ent) (x:Ent) (hl:t.length ≤ 400000):q6 C1.P 31 [.os 0 0 t.length,.agg x.row] [.own false 4 (t.map Ent.row)] (.os 1 0 (Xy t x).length) [.own false 4 (t.map Ent.row),.own false 4 ((Xy t x).map Ent.row)]:=by
 refine qh (C:=C1) Tryz.func31 rfl _ Tryz.ntmps31 (Nat.le_of_ble_eq_true rfl) _ Tryz.results31 1 rfl rfl ?_
 repeat' (first|refine qA ?_|(first|fail)|((first|refine qk ?_ ?_|refine ql ?_ ?_|refine jg ?_ ?_);all_goals (intro hc;have hp:=hc;try simp at hp;try (exfalso;omega)))|refine jh ?_ ?_)
 refine Awp.red (we 5 4 rfl (Nat.le_of_ble_eq_true rfl)) ?_
 (refine Awp.red (qL (τ:=⟨[(0,.os 0 0 t.length),(3,.op 1 0 0),(5,.os 2 0 0),(6,.v (.bool false)),(7,.v (.int .i64 ((0:Nat):Int)))],[(0,.own false 4 (t.map Ent.row)),(1,.own false 4 [x.row]),(2,.own false 4 [])],3⟩) [(1,1),(2,2)] rfl ?gts ?ghs) ?gmain;(case gts=>(repeat (first|exact qi|refine qz ?_|refine xb ?_|refine YJ ?_|refine ji ?_ ?_));all_goals skip);(case ghs=>(repeat (first|exact qq|refine Jo ?_|refine jC ?_ ?_))))
 refine jf (fun n σ => ∃ i:Nat,i ≤ t.length ∧ n = t.length - i ∧ (True) ∧ σ = ⟨[(0,.os 0 0 t.length),(3,.op 1 0 0),(5,.os 2 0 (x4 (t.take i) x).1.length),(6,.v (.bool (x4 (t.take i) x).2)),(7,.v (.int .i64 (i:Int)))],[(0,.own false 4 (t.map Ent.row)),(1,.own false 4 [x.row]),(2,.own false 4 ((x4 (t.take i) x).1.map Ent.row))],3⟩) t.length ⟨0,Nat.zero_le _,rfl,trivial,rfl⟩ ?_
 rintro n σ ⟨i,hi,rfl, -,rfl⟩
 have hgl:=WG (t.take i) x
 have htl:(t.take i).length ≤ t.length:=by simp;omega
 by_cases hlt:i < t.length
 ·have hr:=j3 (f:=Ent.row) hlt
  have hgs := @Kv t x i hlt
  generalize x4 (t.take i) x = G at *
  obtain ⟨o,b⟩:=G
  simp only [y5] at hgs
  have hgl:o.length ≤ 2 * (t.take i).length:=hgl
  cases b<;>cases hless:Op.bytesLess t[i].path x.path<;>by_cases hpe:t[i].path = x.path
  all_goals try (exfalso;rw [hpe,vG] at hless;exact absurd hless (by decide))
  all_goals simp only [hless,hpe,vG,if_true,if_false,and_true,and_false,and_self,Bool.false_or,Bool.true_or,Bool.not_true,Bool.not_false,List.append_nil,Bool.true_eq_false,Bool.false_eq_true,List.append_assoc] at hgs
  all_goals (
   repeat' (first|refine qA ?_|(first|(refine yh ?_)|(refine yX ?_)|(refine x8 ?_))|((first|refine qk ?_ ?_|refine ql ?_ ?_|refine jg ?_ ?_);all_goals (intro hc;have hp:=hc;try simp at hp;try (exfalso;omega)))|refine jh ?_ ?_))
  all_goals try (exfalso;first|omega|contradiction|(simp_all;done))
  ·refine ⟨t.length - (i + 1),_,by omega,qL (τ:=⟨[(0,.os 0 0 t.length),(3,.op 1 0 0),(5,.os 2 0 (x4 (t.take (i + 1)) x).1.length),(6,.v (.bool (x4 (t.take (i + 1)) x).2)),(7,.v (.int .i64 ((i + 1:Nat):Int)))],[(0,.own false 4 (t.map Ent.row)),(1,.own false 4 [x.row]),(2,.own false 4 ((x4 (t.take (i + 1)) x).1.map Ent.row))],3⟩) [(1,1),(3,2)] rfl ?gts ?ghs,i + 1,by omega,rfl,trivial,rfl⟩;(case gts=>(repeat (first|exact qi|refine qz ?_|refine xb ?_|refine YJ ?_|refine ji ?_ ?_));all_goals (rw [hgs];try first|(simp only [List.length_append,List.length_cons,List.length_nil,List.map_append,List.map_cons,List.map_nil,List.append_assoc,List.cons_append,List.nil_append];done)|(rw [List.take_of_length_le (by simp)];simp;done)|(simp;done)|exact xU o x.row _));(case ghs=>(repeat (first|exact qq|refine Jo ?_|refine jC ?_ ?_));all_goals (rw [hgs];try first|(simp only [List.length_append,List.length_cons,List.length_nil,List.map_append,List.map_cons,List.map_nil,List.append_assoc,List.cons_append,List.nil_append];done)|(rw [List.take_of_length_le (by simp)];simp;done)|(simp;done)|exact xU o x.row _))
  ·refine ⟨t.length - (i + 1),_,by omega,qL (τ:=⟨[(0,.os 0 0 t.length),(3,.op 1 0 0),(5,.os 2 0 (x4 (t.take (i + 1)) x).1.length),(6,.v (.bool (x4 (t.take (i + 1)) x).2)),(7,.v (.int .i64 ((i + 1:Nat):Int)))],[(0,.own false 4 (t.map Ent.row)),(1,.own false 4 [x.row]),(2,.own false 4 ((x4 (t.take (i + 1)) x).1.map Ent.row))],3⟩) [(1,1),(4,2)] rfl ?gts ?ghs,i + 1,by omega,rfl,trivial,rfl⟩;(case gts=>(repeat (first|exact qi|refine qz ?_|refine xb ?_|refine YJ ?_|refine ji ?_ ?_));all_goals (rw [hgs];try first|(simp only [List.length_append,List.length_cons,List.length_nil,List.map_append,List.map_cons,List.map_nil,List.append_assoc,List.cons_append,List.nil_append];done)|(rw [List.take_of_length_le (by simp)];simp;done)|(simp;done)|exact xU o x.row _));(case ghs=>(repeat (first|exact qq|refine Jo ?_|refine jC ?_ ?_));all_goals (rw [hgs];try first|(simp only [List.length_append,List.length_cons,List.length_nil,List.map_append,List.map_cons,List.map_nil,List.append_assoc,List.cons_append,List.nil_append];done)|(rw [List.take_of_length_le (by simp)];simp;done)|(simp;done)|exact xU o x.row _))
  ·refine ⟨t.length - (i + 1),_,by omega,qL (τ:=⟨[(0,.os 0 0 t.length),(3,.op 1 0 0),(5,.os 2 0 (x4 (t.take (i + 1)) x).1.length),(6,.v (.bool (x4 (t.take (i + 1)) x).2)),(7,.v (.int .i64 ((i + 1:Nat):Int)))],[(0,.own false 4 (t.map Ent.row)),(1,.own false 4 [x.row]),(2,.own false 4 ((x4 (t.take (i + 1)) x).1.map Ent.row))],3⟩) [(1,1),(3,2)] rfl ?gts ?ghs,i + 1,by omega,rfl,trivial,rfl⟩;(case gts=>(repeat (first|exact qi|refine qz ?_|refine xb ?_|refine YJ ?_|refine ji ?_ ?_));all_goals (rw [hgs];try first|(simp only [List.length_append,List.length_cons,List.length_nil,List.map_append,List.map_cons,List.map_nil,List.append_assoc,List.cons_append,List.nil_append];done)|(rw [List.take_of_length_le (by simp)];simp;done)|(simp;done)|exact xU o x.row _));(case ghs=>(repeat (first|exact qq|refine Jo ?_|refine jC ?_ ?_));all_goals (rw [hgs];try first|(simp only [List.length_append,List.length_cons,List.length_nil,List.map_append,List.map_cons,List.map_nil,List.append_assoc,List.cons_append,List.nil_append];done)|(rw [List.take_of_length_le (by simp)];simp;done)|(simp;done)|exact xU o x.row _))
  ·refine ⟨t.length - (i + 1),_,by omega,qL (τ:=⟨[(0,.os 0 0 t.length),(3,.op 1 0 0),(5,.os 2 0 (x4 (t.take (i + 1)) x).1.length),(6,.v (.bool (x4 (t.take (i + 1)) x).2)),(7,.v (.int .i64 ((i + 1:Nat):Int)))],[(0,.own false 4 (t.map Ent.row)),(1,.own false 4 [x.row]),(2,.own false 4 ((x4 (t.take (i + 1)) x).1.map Ent.row))],3⟩) [(1,1),(2,2)] rfl ?gts ?ghs,i + 1,by omega,rfl,trivial,rfl⟩;(case gts=>(repeat (first|exact qi|refine qz ?_|refine xb ?_|refine YJ ?_|refine ji ?_ ?_));all_goals (rw [hgs];try first|(simp only [List.length_append,List.length_cons,List.length_nil,List.map_append,List.map_cons,List.map_nil,List.append_assoc,List.cons_append,List.nil_append];done)|(rw [List.take_of_length_le (by simp)];simp;done)|(simp;done)|exact xU o x.row _));(case ghs=>(repeat (first|exact qq|refine Jo ?_|refine jC ?_ ?_));all_goals (rw [hgs];try first|(simp only [List.length_append,List.length_cons,List.length_nil,List.map_append,List.map_cons,List.map_nil,List.append_assoc,List.cons_append,List.nil_append];done)|(rw [List.take_of_length_le (by simp)];simp;done)|(simp;done)|exact xU o x.row _))
  ·refine ⟨t.length - (i + 1),_,by omega,qL (τ:=⟨[(0,.os 0 0 t.length),(3,.op 1 0 0),(5,.os 2 0 (x4 (t.take (i + 1)) x).1.length),(6,.v (.bool (x4 (t.take (i + 1)) x).2)),(7,.v (.int .i64 ((i + 1:Nat):Int)))],[(0,.own false 4 (t.map Ent.row)),(1,.own false 4 [x.row]),(2,.own false 4 ((x4 (t.take (i + 1)) x).1.map Ent.row))],3⟩) [(1,1),(3,2)] rfl ?gts ?ghs,i + 1,by omega,rfl,trivial,rfl⟩;(case gts=>(repeat (first|exact qi|refine qz ?_|refine xb ?_|refine YJ ?_|refine ji ?_ ?_));all_goals (rw [hgs];try first|(simp only [List.length_append,List.length_cons,List.length_nil,List.map_append,List.map_cons,List.map_nil,List.append_assoc,List.cons_append,List.nil_append];done)|(rw [List.take_of_length_le (by simp)];simp;done)|(simp;done)|exact xU o x.row _));(case ghs=>(repeat (first|exact qq|refine Jo ?_|refine jC ?_ ?_));all_goals (rw [hgs];try first|(simp only [List.length_append,List.length_cons,List.length_nil,List.map_append,List.map_cons,List.map_nil,List.append_assoc,List.cons_append,List.nil_append];done)|(rw [List.take_of_length_le (by simp)];simp;done)|(simp;done)|exact xU o x.row _))
  ·refine ⟨t.length - (i + 1),_,by omega,qL (τ:=⟨[(0,.os 0 0 t.length),(3,.op 1 0 0),(5,.os 2 0 (x4 (t.take (i + 1)) x).1.length),(6,.v (.bool (x4 (t.take (i + 1)) x).2)),(7,.v (.int .i64 ((i + 1:Nat):Int)))],[(0,.own false 4 (t.map Ent.row)),(1,.own false 4 [x.row]),(2,.own false 4 ((x4 (t.take (i + 1)) x).1.map Ent.row))],3⟩) [(1,1),(3,2)] rfl ?gts ?ghs,i + 1,by omega,rfl,trivial,rfl⟩;(case gts=>(repeat (first|exact qi|refine qz ?_|refine xb ?_|refine YJ ?_|refine ji ?_ ?_));all_goals (rw [hgs];try first|(simp only [List.length_append,List.length_cons,List.length_nil,List.map_append,List.map_cons,List.map_nil,List.append_assoc,List.cons_append,List.nil_append];done)|(rw [List.take_of_length_le (by simp)];simp;done)|(simp;done)|exact xU o x.row _));(case ghs=>(repeat (first|exact qq|refine Jo ?_|refine jC ?_ ?_));all_goals (rw [hgs];try first|(simp only [List.length_append,List.length_cons,List.length_nil,List.map_append,List.map_cons,List.map_nil,List.append_assoc,List.cons_append,List.nil_append];done)|(rw [List.take_of_length_le (by simp)];simp;done)|(simp;done)|exact xU o x.row _))
 obtain rfl:i = t.length:=by omega
 rw [List.take_length] at *
 have hR:Xy t x = if (x4 t x).2 = true then (x4 t x).1 else (x4 t x).1 ++ [x]:=rfl
 generalize x4 t x = G at *
 obtain ⟨o,b⟩:=G
 have hgl:o.length ≤ 2 * t.length:=hgl
 cases b
 ·have hR:Xy t x = o ++ [x]:=hR
  rw [hR]
  repeat' (first|refine qA ?_|(first|(refine yh ?_)|(refine yX ?_)|(refine x8 ?_))|((first|refine qk ?_ ?_|refine ql ?_ ?_|refine jg ?_ ?_);all_goals (intro hc;have hp:=hc;try simp at hp;try (exfalso;omega)))|refine jh ?_ ?_)
  all_goals try (exfalso;omega)
  (apply jA (rs:=[.tmp 4]) [(3,1)] 2;(case hr=>(repeat (first|exact jm|(apply jl;rfl)|(apply q9;rfl;rfl;rfl;rfl;rfl))));(case hL=>rfl);(case hh=>(repeat (first|exact qq|refine Jo ?_|refine jC ?_ ?_));all_goals (show (o.map Ent.row).take o.length ++ [x.row] = _;rw [List.take_of_length_le (by simp)];simp));(case hi=>first|exact (rfl:_ = ([]:List (Nat × Nat)))|exact (rfl:_ = [((0:Nat),(0:Nat))])|exact (rfl:_ = [((0:Nat),(0:Nat)),(1,1)]));(case hz=>first|rfl|(simp [j1,AV.ren,AV.ren.renL,jz,qN,jy];done)|(simp [j1,AV.ren,AV.ren.renL,jz,qN,jy, *];done)|(simp [j1,AV.ren,AV.ren.renL,jz,qN,jy])))
 ·have hR:Xy t x = o:=hR
  rw [hR]
  repeat' (first|refine qA ?_|(first|(refine yh ?_)|(refine yX ?_)|(refine x8 ?_))|((first|refine qk ?_ ?_|refine ql ?_ ?_|refine jg ?_ ?_);all_goals (intro hc;have hp:=hc;try simp at hp;try (exfalso;omega)))|refine jh ?_ ?_)
  all_goals try (exfalso;omega)
  (refine xsO (rs:=[.tmp 4]) [(2,1)] 2 ?_;(repeat (first|exact qq|refine Jo ?_|refine jC ?_ ?_));all_goals trace_state)
theorem qbT (O:List Ent) (x:Ent) (hO:qY jn O = true) (hl:O.length ≤ 400000):q6 C1.P 31 [.os 0 0 O.length,.agg x.row] [.own false 4 (O.map Ent.row)] (.os 1 0 (jX O x).length) [.own false 4 (O.map Ent.row),.own false 4 ((jX O x).map Ent.row)]:=by
 have h:=Vd O x hl
 rw [K5 hO] at h
 exact h
theorem JN (O N:List Ent) (p:qJ) (k:Int) (x:qJ) (hk:0 < k) (hO:qY jn O = true) (lO:O.length ≤ 400000) (hN:jX O ⟨p,decide (k = 1),x,1⟩ = N) :
  q6 C2.P 30 [.v (str p),.v (.int .i64 k),.v (str x),.op 0 0 0] [.own false 1 [[.os 1 0 O.length]],.own false 4 (O.map Ent.row)] (.tup []) [.own false 1 [[.os 2 0 N.length]],.dead,.own false 4 (N.map Ent.row)]:=by
 have h1:=qbT O ⟨p,decide (k = 1),x,1⟩ hO lO
 rw [hN] at h1
 have hrow:Ent.row ⟨p,decide (k = 1),x,1⟩ = [.v (str p),.v (.bool (decide (k = 1))),.v (str x),.v (.int .i64 1)]:=rfl
 rw [hrow] at h1
 refine qh (C:=C2) Tryz.func30 rfl _ Tryz.ntmps30 (Nat.le_of_ble_eq_true rfl) _ Tryz.results30 2 rfl rfl ?_
 repeat' (first|refine qA ?_|(first|fail)|((first|refine qk ?_ ?_|refine ql ?_ ?_|refine jg ?_ ?_);all_goals (intro hc;have hp:=hc;try simp at hp;try (exfalso;omega)))|refine jh ?_ ?_)
 all_goals try (exfalso;omega)
 apply xe Tryz.func31 rfl rfl
 intro hIsFn
 refine yN [1] [2] [(1,.own false 4 (O.map Ent.row)),(2,.own false 4 (N.map Ent.row))] 3 (.os 2 0 N.length) hIsFn (h1) (by ((repeat' (first|exact q1|apply qP|exact qZ rfl|exact jt|(apply qj;apply qB;exact .inr (of_decide_eq_true rfl))|(apply qj;apply qr;exact .inr (of_decide_eq_true rfl))|(apply qj;apply qy;exact .inr (of_decide_eq_true rfl))|apply jc|apply jb)))<;>fail) (by ((repeat' (first|exact qC|exact qD|refine qu _ ?_ ?_|refine qv ?_ ?_|exact qp|exact qa (qc _)|exact qa (qG _)|exact qa (qo _)|exact qt (fun _=>rfl)|refine qw ?_|exact qg|apply qb|exact qf rfl|(apply qr;exact .inr (of_decide_eq_true rfl))|(apply qy;exact .inr (of_decide_eq_true rfl))|(apply qB;exact .inr (of_decide_eq_true rfl))|exact qQ (qF fun _=>rfl))))<;>fail) (by ((repeat' (first|exact qC|exact qD|refine qu _ ?_ ?_|refine qv ?_ ?_|exact qp|exact qa (qc _)|exact qa (qG _)|exact qa (qo _)|exact qt (fun _=>rfl)|refine qw ?_|exact qg|apply qb|exact qf rfl|(apply qr;exact .inr (of_decide_eq_true rfl))|(apply qy;exact .inr (of_decide_eq_true rfl))|(apply qB;exact .inr (of_decide_eq_true rfl))|exact qQ (qF fun _=>rfl))))<;>fail) ?_
 repeat' (first|refine qA ?_|(first|fail)|((first|refine qk ?_ ?_|refine ql ?_ ?_|refine jg ?_ ?_);all_goals (intro hc;have hp:=hc;try simp at hp;try (exfalso;omega)))|refine jh ?_ ?_)
 all_goals try (exfalso;omega)
 all_goals ((apply jA (rs:=[]) [(2,2)] 3;(case hr=>(repeat (first|exact jm|(apply jl;rfl)|(apply q9;rfl;rfl;rfl;rfl;rfl))));(case hL=>rfl);(case hh=>(repeat' (first|exact qq|refine q4 ?_|refine jW ?_ ?_|refine vd ?_|refine jC ?_ ?_|exact qg|apply qb|exact qf rfl|exact q3 rfl|refine q3 ?_|(apply jR;(first|exact qH rfl|exact .inr (List.mem_cons_self ..)|exact .inr (List.mem_cons_of_mem _ (List.mem_cons_self ..))|exact .inr (List.mem_cons_of_mem _ (List.mem_cons_of_mem _ (List.mem_cons_self ..)))|exact .inr (List.mem_cons_of_mem _ (List.mem_cons_of_mem _ (List.mem_cons_of_mem _ (List.mem_cons_self ..))))))));all_goals trace_state);(case hi=>exact rfl);(case hz=>first|rfl|(simp [j1,AV.ren,AV.ren.renL,jz,qN,jy];done))))
theorem K8 (O:List Ent) (p:qJ) (k:Int) (x:qJ) (hk:¬ 0 < k) :
  q6 C2.P 30 [.v (str p),.v (.int .i64 k),.v (str x),.op 0 0 0] [.own false 1 [[.os 1 0 O.length]],.own false 4 (O.map Ent.row)] (.tup []) [.own false 1 [[.os 1 0 O.length]],.own false 4 (O.map Ent.row)]:=by
 refine qh (C:=C2) Tryz.func30 rfl _ Tryz.ntmps30 (Nat.le_of_ble_eq_true rfl) _ Tryz.results30 2 rfl rfl ?_
 repeat' (first|refine qA ?_|(first|fail)|((first|refine qk ?_ ?_|refine ql ?_ ?_|refine jg ?_ ?_);all_goals (intro hc;have hp:=hc;try simp at hp;try (exfalso;omega)))|refine jh ?_ ?_)
 all_goals try (exfalso;omega)
 all_goals ((apply jA (rs:=[]) [] 2;(case hr=>(repeat (first|exact jm|(apply jl;rfl)|(apply q9;rfl;rfl;rfl;rfl;rfl))));(case hL=>rfl);(case hh=>(repeat' (first|exact qq|refine q4 ?_|refine jW ?_ ?_|refine vd ?_|refine jC ?_ ?_|exact qg|apply qb|exact qf rfl|exact q3 rfl|refine q3 ?_|(apply jR;(first|exact qH rfl|exact .inr (List.mem_cons_self ..)|exact .inr (List.mem_cons_of_mem _ (List.mem_cons_self ..))|exact .inr (List.mem_cons_of_mem _ (List.mem_cons_of_mem _ (List.mem_cons_self ..)))|exact .inr (List.mem_cons_of_mem _ (List.mem_cons_of_mem _ (List.mem_cons_of_mem _ (List.mem_cons_self ..))))))));all_goals trace_state);(case hi=>exact rfl);(case hz=>first|rfl|(simp [j1,AV.ren,AV.ren.renL,jz,qN,jy];done))))
end Go.Proofs.YtnhpclmbhbblbaaGreatDoor
set_option linter.unusedSimpArgs false
set_option linter.unnecessarySimpa false
set_option linter.unusedVariables false
set_option maxHeartbeats 1000000
namespace Go.Proofs.YtnhpclmbhbblbaaGreatDoor
open Go.Ab Go.RowKit
set_option maxRecDepth 10000
attribute [local irreducible] Awp j4 jw js Red qU Go.Ab.Fin q6 Rz x6 jp jo ResOk jJ ju yb jx
def hA (O:List Ent) (cs:List Cpy):List HB:=[.own false 1 [[.os 1 0 O.length]],.own false 4 (O.map Ent.row),.own false 1 [[.clo (.func 30) [] [.op 0 0 0]]],.own false 1 [[.os 4 0 cs.length]],.own false 2 (cs.map Cpy.row)]
theorem QS (t:List Ent) (q:qJ):xh (atP q) t < 0 ↔ yJ t q = false:=by
 have h:=Wj (atP q) t
 unfold yJ
 constructor
 ·intro h1
  rw [← h]
  exact decide_eq_false (by omega)
 ·intro h1
  rw [h1] at h
  have:=of_decide_eq_false h
  omega
theorem Ym {m t o:List Ent} {p:qJ} {i:Nat} (h:i < 99):yS m t o p (99 - i) (i + 1) = if xw p ((i + 1:Nat):Int) = 0 then (if wy m t o (jK p ((i + 1:Nat):Int)) = true then some (jK p ((i + 1:Nat):Int)) else yS m t o p (99 - (i + 1)) (i + 1 + 1)) else none:=by
 rw [show 99 - i = (99 - (i + 1)) + 1 from by omega]
 rfl
theorem Wp (cs:List Cpy) (p q:qJ):(cs.map Cpy.row).take cs.length ++ [[.v (str p),.v (str q)]] = (cs ++ [(⟨p,q⟩ : Cpy)]).map Cpy.row:=by
 rw [List.take_of_length_le (by simp),List.map_append];rfl
set_option maxHeartbeats 4000000 in
theorem wC (M T O:List Ent) (cs:List Cpy) (p x:qJ) (lp:p.length ≤ 1000000000) (lM:M.length ≤ 60) (lT:T.length ≤ 60) (lO:O.length ≤ 400000) (h:yS M T O p 99 1 = none) :
  q6 CF5.P 32 [.v (str p),.v (str x),.fp [[qe M]] 0 0,.fp [[qe T]] 0 0,.op 0 0 0,.op 2 0 0,.op 3 0 0] (hA O cs) (.v (.bool false)) (hA O cs):=by
 refine qh (C:=CF5) Tryz.func32 rfl _ Tryz.ntmps32 (Nat.le_of_ble_eq_true rfl) _ Tryz.results32 5 rfl rfl ?_
 repeat' (first|refine qA ?_|(first|fail)|((first|refine qk ?_ ?_|refine ql ?_ ?_|refine jg ?_ ?_);all_goals (intro hc;have hp:=hc;try simp at hp;try (exfalso;omega)))|refine jh ?_ ?_)
 all_goals try (exfalso;omega)
 (refine Awp.red (qL (τ:=⟨[(0,.v (str p)),(1,.v (str x)),(2,.fp [[qe M]] 0 0),(3,.fp [[qe T]] 0 0),(4,.op 0 0 0),(5,.op 2 0 0),(6,.op 3 0 0),(10,.v (.int .i64 ((0 + 1:Nat):Int)))],vA 0 (hA O cs),5⟩) [] rfl ?gts2 ?ghs2) ?_;(case gts2=>(repeat (first|exact qi|refine qz ?_|refine xb ?_|refine yF ?_|refine xY ?_|refine yG ?_ ?_|refine ji ?_ ?_));all_goals trace_state);(case ghs2=>(repeat' (first|exact qq|refine q4 ?_|refine jW ?_ ?_|refine vd ?_|refine jC ?_ ?_|exact qg|apply qb|exact qf rfl|exact q3 rfl|refine q3 ?_|(apply jR;(first|exact qH rfl|exact .inr (List.mem_cons_self ..)|exact .inr (List.mem_cons_of_mem _ (List.mem_cons_self ..))|exact .inr (List.mem_cons_of_mem _ (List.mem_cons_of_mem _ (List.mem_cons_self ..)))|exact .inr (List.mem_cons_of_mem _ (List.mem_cons_of_mem _ (List.mem_cons_of_mem _ (List.mem_cons_self ..))))))));all_goals trace_state))
 refine jf (fun n σ => ∃ i:Nat,i ≤ 99 ∧ n = 99 - i ∧ yS M T O p (99 - i) (i + 1) = none ∧ σ = ⟨[(0,.v (str p)),(1,.v (str x)),(2,.fp [[qe M]] 0 0),(3,.fp [[qe T]] 0 0),(4,.op 0 0 0),(5,.op 2 0 0),(6,.op 3 0 0),(10,.v (.int .i64 ((i + 1:Nat):Int)))],vA 0 (hA O cs),5⟩) 99 ⟨0,by omega,rfl,h,rfl⟩ ?_
 rintro n σ ⟨i,hi,rfl,hn,rfl⟩
 by_cases hlt:i < 99
 ·rw [Ym hlt] at hn
  have h1:=Y0 p (i + 1) (by omega) lp
  have h2:=xV M (jK p ((i + 1:Nat):Int)) (by omega)
  have h3:=xV T (jK p ((i + 1:Nat):Int)) (by omega)
  have h4:=xV O (jK p ((i + 1:Nat):Int)) (by omega)
  have i2:=QS M (jK p ((i + 1:Nat):Int))
  have i3:=QS T (jK p ((i + 1:Nat):Int))
  have i4:=QS O (jK p ((i + 1:Nat):Int))
  unfold wy at hn
  generalize xw p ((i + 1:Nat):Int) = E at *
  generalize jK p ((i + 1:Nat):Int) = Q at *
  generalize xh (atP Q) M = kM at *
  generalize xh (atP Q) T = kT at *
  generalize xh (atP Q) O = kO at *
  generalize yJ M Q = bM at *
  generalize yJ T Q = bT at *
  generalize yJ O Q = bO at *
  by_cases hE:E = 0
  ·subst hE
   rw [show QF 0 Q = Q from rfl] at h1
   rw [if_pos rfl] at hn
   generalize hAn:yS M T O p (99 - (i + 1)) (i + 1 + 1) = An at hn
   have hnf:(0 ≤ kM ∨ 0 ≤ kT ∨ 0 ≤ kO) ∧ An = none:=by
    cases bM<;>cases bT<;>cases bO<;>simp at hn i2 i3 i4<;>exact ⟨by omega,hn⟩
   obtain ⟨hnf,hn⟩:=hnf
   have hn:=hAn.trans hn
   clear i2 i3 i4
   repeat' (first|refine qA ?_|(first|refine xB Tryz.func33 (h1 ..) ?_|refine jM Tryz.func34 (h2 ..) ?_|refine jM Tryz.func34 (h3 ..) ?_|(apply qd;apply xE ([1]);exact y4 Tryz.func34 rfl rfl;apply h4;(case hz=>(repeat' (first|exact jv|apply q8|exact jj rfl|exact yg|(apply yn;(case hn=>rfl);(case hl=>first|with_reducible rfl|(simp;done)|(simp [*];done)|omega);(case hp=>(first|assumption|exact jY rfl|exact qF fun _=>rfl)))|apply jI|apply jH)));(case hfl=>rfl);(case hN=>exact nle rfl)))|((first|refine qk ?_ ?_|refine ql ?_ ?_|refine jg ?_ ?_);all_goals (intro hc;have hp:=hc;try simp at hp;try (exfalso;omega)))|refine jh ?_ ?_)
   all_goals try (exfalso;first|omega|contradiction)
   all_goals (refine ⟨99 - (i + 1),⟨[(0,.v (str p)),(1,.v (str x)),(2,.fp [[qe M]] 0 0),(3,.fp [[qe T]] 0 0),(4,.op 0 0 0),(5,.op 2 0 0),(6,.op 3 0 0),(10,.v (.int .i64 ((i + 1 + 1:Nat):Int)))],vA 0 (hA O cs),5⟩,by omega,?_,i + 1,by omega,rfl,hn,rfl⟩;refine qL [] rfl ?gts ?ghs;(case gts=>(repeat (first|exact qi|refine qz ?_|refine xb ?_|refine yF ?_|refine xY ?_|refine yG ?_ ?_|refine ji ?_ ?_));all_goals trace_state);(case ghs=>(repeat' (first|exact qq|refine q4 ?_|refine jW ?_ ?_|refine vd ?_|refine jC ?_ ?_|exact qg|apply qb|exact qf rfl|exact q3 rfl|refine q3 ?_|(apply jR;(first|exact qH rfl|exact .inr (List.mem_cons_self ..)|exact .inr (List.mem_cons_of_mem _ (List.mem_cons_self ..))|exact .inr (List.mem_cons_of_mem _ (List.mem_cons_of_mem _ (List.mem_cons_self ..)))|exact .inr (List.mem_cons_of_mem _ (List.mem_cons_of_mem _ (List.mem_cons_of_mem _ (List.mem_cons_self ..))))))));all_goals trace_state))
  ·repeat' (first|refine qA ?_|(first|refine xB Tryz.func33 (h1 ..) ?_)|((first|refine qk ?_ ?_|refine ql ?_ ?_|refine jg ?_ ?_);all_goals (intro hc;have hp:=hc;try simp at hp;try (exfalso;omega)))|refine jh ?_ ?_)
   all_goals try (exfalso;first|omega|contradiction)
   all_goals ((apply jA (rs:=[.tmp 9]) [] 5;(case hr=>(repeat (first|exact jm|(apply jl;rfl)|(apply q9;rfl;rfl;rfl;rfl;rfl))));(case hL=>rfl);(case hh=>(repeat' (first|exact qq|refine q4 ?_|refine jW ?_ ?_|refine vd ?_|refine jC ?_ ?_|exact qg|apply qb|exact qf rfl|exact q3 rfl|refine q3 ?_|(apply jR;(first|exact qH rfl|exact .inr (List.mem_cons_self ..)|exact .inr (List.mem_cons_of_mem _ (List.mem_cons_self ..))|exact .inr (List.mem_cons_of_mem _ (List.mem_cons_of_mem _ (List.mem_cons_self ..)))|exact .inr (List.mem_cons_of_mem _ (List.mem_cons_of_mem _ (List.mem_cons_of_mem _ (List.mem_cons_self ..))))))));all_goals trace_state);(case hi=>exact rfl);(case hz=>first|rfl|(simp [j1,AV.ren,AV.ren.renL,jz,qN,jy];done))))
 ·obtain rfl:i = 99:=by omega
  repeat' (first|refine qA ?_|(first|fail)|((first|refine qk ?_ ?_|refine ql ?_ ?_|refine jg ?_ ?_);all_goals (intro hc;have hp:=hc;try simp at hp;try (exfalso;omega)))|refine jh ?_ ?_)
  all_goals try (exfalso;omega)
  all_goals ((apply jA (rs:=[.tmp 9]) [] 5;(case hr=>(repeat (first|exact jm|(apply jl;rfl)|(apply q9;rfl;rfl;rfl;rfl;rfl))));(case hL=>rfl);(case hh=>(repeat' (first|exact qq|refine q4 ?_|refine jW ?_ ?_|refine vd ?_|refine jC ?_ ?_|exact qg|apply qb|exact qf rfl|exact q3 rfl|refine q3 ?_|(apply jR;(first|exact qH rfl|exact .inr (List.mem_cons_self ..)|exact .inr (List.mem_cons_of_mem _ (List.mem_cons_self ..))|exact .inr (List.mem_cons_of_mem _ (List.mem_cons_of_mem _ (List.mem_cons_self ..)))|exact .inr (List.mem_cons_of_mem _ (List.mem_cons_of_mem _ (List.mem_cons_of_mem _ (List.mem_cons_self ..))))))));all_goals trace_state);(case hi=>exact rfl);(case hz=>first|rfl|(simp [j1,AV.ren,AV.ren.renL,jz,qN,jy];done))))
set_option maxHeartbeats 4000000 in
theorem kQ (M T O:List Ent) (cs:List Cpy) (p x q:qJ) (lp:p.length ≤ 1000000000) (lM:M.length ≤ 60) (lT:T.length ≤ 60) (lO:O.length ≤ 400000) (hO:qY jn O = true) (lc:cs.length ≤ 1000000) (h:yS M T O p 99 1 = some q) (N:List Ent) (hN:jX O ⟨q,false,x,1⟩ = N) :
  q6 CF5.P 32 [.v (str p),.v (str x),.fp [[qe M]] 0 0,.fp [[qe T]] 0 0,.op 0 0 0,.op 2 0 0,.op 3 0 0] (hA O cs) (.v (.bool true)) [.own false 1 [[.os 5 0 N.length]],.dead,.own false 1 [[.clo (.func 30) [] [.op 0 0 0]]],.own false 1 [[.os 6 0 (cs ++ [(⟨p,q⟩ : Cpy)]).length]],.dead,.own false 4 (N.map Ent.row),.own false 2 ((cs ++ [(⟨p,q⟩ : Cpy)]).map Cpy.row)]:=by
 refine qh (C:=CF5) Tryz.func32 rfl _ Tryz.ntmps32 (Nat.le_of_ble_eq_true rfl) _ Tryz.results32 5 rfl rfl ?_
 repeat' (first|refine qA ?_|(first|fail)|((first|refine qk ?_ ?_|refine ql ?_ ?_|refine jg ?_ ?_);all_goals (intro hc;have hp:=hc;try simp at hp;try (exfalso;omega)))|refine jh ?_ ?_)
 all_goals try (exfalso;omega)
 (refine Awp.red (qL (τ:=⟨[(0,.v (str p)),(1,.v (str x)),(2,.fp [[qe M]] 0 0),(3,.fp [[qe T]] 0 0),(4,.op 0 0 0),(5,.op 2 0 0),(6,.op 3 0 0),(10,.v (.int .i64 ((0 + 1:Nat):Int)))],vA 0 (hA O cs),5⟩) [] rfl ?gts2 ?ghs2) ?_;(case gts2=>(repeat (first|exact qi|refine qz ?_|refine xb ?_|refine yF ?_|refine xY ?_|refine yG ?_ ?_|refine ji ?_ ?_));all_goals trace_state);(case ghs2=>(repeat' (first|exact qq|refine q4 ?_|refine jW ?_ ?_|refine vd ?_|refine jC ?_ ?_|exact qg|apply qb|exact qf rfl|exact q3 rfl|refine q3 ?_|(apply jR;(first|exact qH rfl|exact .inr (List.mem_cons_self ..)|exact .inr (List.mem_cons_of_mem _ (List.mem_cons_self ..))|exact .inr (List.mem_cons_of_mem _ (List.mem_cons_of_mem _ (List.mem_cons_self ..)))|exact .inr (List.mem_cons_of_mem _ (List.mem_cons_of_mem _ (List.mem_cons_of_mem _ (List.mem_cons_self ..))))))));all_goals trace_state))
 refine jf (fun n σ => ∃ i:Nat,i ≤ 99 ∧ n = 99 - i ∧ yS M T O p (99 - i) (i + 1) = some q ∧ σ = ⟨[(0,.v (str p)),(1,.v (str x)),(2,.fp [[qe M]] 0 0),(3,.fp [[qe T]] 0 0),(4,.op 0 0 0),(5,.op 2 0 0),(6,.op 3 0 0),(10,.v (.int .i64 ((i + 1:Nat):Int)))],vA 0 (hA O cs),5⟩) 99 ⟨0,by omega,rfl,h,rfl⟩ ?_
 rintro n σ ⟨i,hi,rfl,hn,rfl⟩
 by_cases hlt:i < 99
 ·rw [Ym hlt] at hn
  have h1:=Y0 p (i + 1) (by omega) lp
  have h2:=xV M (jK p ((i + 1:Nat):Int)) (by omega)
  have h3:=xV T (jK p ((i + 1:Nat):Int)) (by omega)
  have h4:=xV O (jK p ((i + 1:Nat):Int)) (by omega)
  have i2:=QS M (jK p ((i + 1:Nat):Int))
  have i3:=QS T (jK p ((i + 1:Nat):Int))
  have i4:=QS O (jK p ((i + 1:Nat):Int))
  unfold wy at hn
  generalize xw p ((i + 1:Nat):Int) = E at *
  generalize jK p ((i + 1:Nat):Int) = Q at *
  generalize xh (atP Q) M = kM at *
  generalize xh (atP Q) T = kT at *
  generalize xh (atP Q) O = kO at *
  generalize yJ M Q = bM at *
  generalize yJ T Q = bT at *
  generalize yJ O Q = bO at *
  by_cases hE:E = 0
  case neg=>rw [if_neg hE] at hn;cases hn
  subst hE
  rw [show QF 0 Q = Q from rfl] at h1
  rw [if_pos rfl] at hn
  generalize hAn:yS M T O p (99 - (i + 1)) (i + 1 + 1) = An at hn
  by_cases hf:bM = false ∧ bT = false ∧ bO = false
  ·obtain ⟨rfl,rfl,rfl⟩:=hf
   have hq:Q = q:=by simpa using hn
   subst hq
   have kM0:=i2.2 rfl
   have kT0:=i3.2 rfl
   have kO0:=i4.2 rfl
   have hput:=JN O N Q 2 x (by decide) hO lO hN
   clear hn i2 i3 i4 h
   repeat' (first|refine qA ?_|(first|refine xB Tryz.func33 (h1 ..) ?_|refine jM Tryz.func34 (h2 ..) ?_|refine jM Tryz.func34 (h3 ..) ?_|(apply qd;apply xE ([1]);exact y4 Tryz.func34 rfl rfl;apply h4;(case hz=>(repeat' (first|exact jv|apply q8|exact jj rfl|exact yg|(apply yn;(case hn=>rfl);(case hl=>first|with_reducible rfl|(simp;done)|(simp [*];done)|omega);(case hp=>(first|assumption|exact jY rfl|exact qF fun _=>rfl)))|apply jI|apply jH)));(case hfl=>rfl);(case hN=>exact nle rfl)))|((first|refine qk ?_ ?_|refine ql ?_ ?_|refine jg ?_ ?_);all_goals (intro hc;have hp:=hc;try simp at hp;try (exfalso;omega)))|refine jh ?_ ?_)
   all_goals try (exfalso;first|omega|contradiction)
   refine j8 (C:=CF5) (first:=[]) (cap:=[.op 0 0 0]) [0,1] [5] [(0,.own false 1 [[.os 5 0 N.length]]),(1,.dead),(5,.own false 4 (N.map Ent.row))] 6 (.tup []) Tryz.func30 (hput) (by ((repeat' (first|exact q1|apply qP|exact qZ rfl|exact jt|(apply qj;apply qB;exact .inr (of_decide_eq_true rfl))|(apply qj;apply qr;exact .inr (of_decide_eq_true rfl))|(apply qj;apply qy;exact .inr (of_decide_eq_true rfl))|apply jc|apply jb)))<;>fail) (by ((repeat' (first|exact qC|exact qD|refine qu _ ?_ ?_|refine qv ?_ ?_|exact qp|exact qa (qc _)|exact qa (qG _)|exact qa (qo _)|exact qt (fun _=>rfl)|refine qw ?_|exact qg|apply qb|exact qf rfl|(apply qr;exact .inr (of_decide_eq_true rfl))|(apply qy;exact .inr (of_decide_eq_true rfl))|(apply qB;exact .inr (of_decide_eq_true rfl))|exact qQ (qF fun _=>rfl))))<;>fail) (by ((repeat' (first|exact qC|exact qD|refine qu _ ?_ ?_|refine qv ?_ ?_|exact qp|exact qa (qc _)|exact qa (qG _)|exact qa (qo _)|exact qt (fun _=>rfl)|refine qw ?_|exact qg|apply qb|exact qf rfl|(apply qr;exact .inr (of_decide_eq_true rfl))|(apply qy;exact .inr (of_decide_eq_true rfl))|(apply qB;exact .inr (of_decide_eq_true rfl))|exact qQ (qF fun _=>rfl))))<;>fail) ?_
   repeat' (first|refine qA ?_|(first|(refine yh ?_)|(refine yX ?_))|((first|refine qk ?_ ?_|refine ql ?_ ?_|refine jg ?_ ?_);all_goals (intro hc;have hp:=hc;try simp at hp;try (exfalso;omega)))|refine jh ?_ ?_)
   all_goals try (exfalso;first|omega|contradiction)
   all_goals ((apply jA (rs:=[.tmp 9]) [(5,5),(6,6)] 7;(case hr=>(repeat (first|exact jm|(apply jl;rfl)|(apply q9;rfl;rfl;rfl;rfl;rfl))));(case hL=>rfl);(case hh=>(repeat' (first|exact qq|refine q4 ?_|refine jW ?_ ?_|refine vd ?_|refine jC ?_ ?_|exact qg|apply qb|exact qf rfl|exact q3 rfl|refine q3 ?_|(apply jR;(first|exact qH rfl|exact .inr (List.mem_cons_self ..)|exact .inr (List.mem_cons_of_mem _ (List.mem_cons_self ..))|exact .inr (List.mem_cons_of_mem _ (List.mem_cons_of_mem _ (List.mem_cons_self ..)))|exact .inr (List.mem_cons_of_mem _ (List.mem_cons_of_mem _ (List.mem_cons_of_mem _ (List.mem_cons_self ..))))))));all_goals first|exact Wp _ _ _|(simp;done)|trace_state);(case hi=>exact rfl);(case hz=>first|rfl|(simp [j1,AV.ren,AV.ren.renL,jz,qN,jy];done))))
  ·have hn2:(0 ≤ kM ∨ 0 ≤ kT ∨ 0 ≤ kO) ∧ An = some q:=by
    cases bM<;>cases bT<;>cases bO<;>simp at hn i2 i3 i4 hf<;>exact ⟨by omega,hn⟩
   obtain ⟨hnf,hn⟩:=hn2
   have hn:=hAn.trans hn
   clear i2 i3 i4
   repeat' (first|refine qA ?_|(first|refine xB Tryz.func33 (h1 ..) ?_|refine jM Tryz.func34 (h2 ..) ?_|refine jM Tryz.func34 (h3 ..) ?_|(apply qd;apply xE ([1]);exact y4 Tryz.func34 rfl rfl;apply h4;(case hz=>(repeat' (first|exact jv|apply q8|exact jj rfl|exact yg|(apply yn;(case hn=>rfl);(case hl=>first|with_reducible rfl|(simp;done)|(simp [*];done)|omega);(case hp=>(first|assumption|exact jY rfl|exact qF fun _=>rfl)))|apply jI|apply jH)));(case hfl=>rfl);(case hN=>exact nle rfl)))|((first|refine qk ?_ ?_|refine ql ?_ ?_|refine jg ?_ ?_);all_goals (intro hc;have hp:=hc;try simp at hp;try (exfalso;omega)))|refine jh ?_ ?_)
   all_goals try (exfalso;first|omega|contradiction)
   all_goals (refine ⟨99 - (i + 1),⟨[(0,.v (str p)),(1,.v (str x)),(2,.fp [[qe M]] 0 0),(3,.fp [[qe T]] 0 0),(4,.op 0 0 0),(5,.op 2 0 0),(6,.op 3 0 0),(10,.v (.int .i64 ((i + 1 + 1:Nat):Int)))],vA 0 (hA O cs),5⟩,by omega,?_,i + 1,by omega,rfl,hn,rfl⟩;refine qL [] rfl ?gts ?ghs;(case gts=>(repeat (first|exact qi|refine qz ?_|refine xb ?_|refine yF ?_|refine xY ?_|refine yG ?_ ?_|refine ji ?_ ?_));all_goals trace_state);(case ghs=>(repeat' (first|exact qq|refine q4 ?_|refine jW ?_ ?_|refine vd ?_|refine jC ?_ ?_|exact qg|apply qb|exact qf rfl|exact q3 rfl|refine q3 ?_|(apply jR;(first|exact qH rfl|exact .inr (List.mem_cons_self ..)|exact .inr (List.mem_cons_of_mem _ (List.mem_cons_self ..))|exact .inr (List.mem_cons_of_mem _ (List.mem_cons_of_mem _ (List.mem_cons_self ..)))|exact .inr (List.mem_cons_of_mem _ (List.mem_cons_of_mem _ (List.mem_cons_of_mem _ (List.mem_cons_self ..))))))));all_goals trace_state))
 ·obtain rfl:i = 99:=by omega
  exact absurd hn (by unfold yS;simp)
end Go.Proofs.YtnhpclmbhbblbaaGreatDoor
