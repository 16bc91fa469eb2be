import Derived.Test.YtamejbkifpjhiaaGreatDoorMz25
import Derived.Test.YtamejbkifpjhiaaGreatDoorMz27
import Derived.Test.YtamejbkifpjhiaaGreatDoorMz14
import Derived.Test.YtamejbkifpjhiaaGreatDoorMz13
import Derived.Test.YtamejbkifpjhiaaGreatDoorMz21
import Derived.Test.YtamejbkifpjhiaaGreatDoorMz9
import Derived.Test.YtamejbkifpjhiaaGreatDoorMz11
import Derived.Test.YtamejbkifpjhiaaGreatDoorMz15
set_option linter.unusedSimpArgs false
set_option linter.unnecessarySimpa false
set_option linter.unusedVariables false
namespace Go.Proofs.YtamejbkifpjhiaaGreatDoor
open Go.Ab
theorem W6 (L l:List qP):(L.foldl zE l).length ≤ l.length + L.length:=by
 have:=wY L l
 omega
theorem qbD (b m t:List Ent):(ze b m t).length ≤ b.length + (m.length + t.length):=by
 have h:=W6 ((b ++ (m ++ t)).map Ent.path) []
 rw [List.length_map,List.length_append,List.length_append,List.length_nil,Nat.zero_add] at h
 exact h
theorem qfw {m t:List Ent} {s s' : MS} {q:qP} (h:YQ m t s q = some s'):s'.cps.length ≤ s.cps.length + 1:=by
 unfold YQ at h
 split at h
 ·injection h with h;subst h;omega
 ·split at h
  ·have:=XK h;simp at this;omega
  ·injection h with h;subst h;simp
theorem WX {m t:List Ent} : ∀ {qs:List qP} {s s' : MS},kn m t qs s = some s' → s'.cps.length ≤ s.cps.length + qs.length
 | [],s,s',h=>by injection h with h;subst h;simp
 | q :: qs,s,s',h=>by
   unfold kn at h
   cases h1:YQ m t s q with
   | none=>rw [h1] at h;cases h
   | some s1 =>
     rw [h1] at h
     have h2:=qfw h1
     have h3:=WX (qs:=qs) h
     simp only [List.length_cons]
     omega
theorem qbK : ∀ {L:List qP},(∀ p,p ∈ L → qH p = 0) → (L.flatMap jE).length ≤ 80 * L.length
 | [],_=>by simp
 | p :: L,h=>by
   have h1:=V3 (h p (List.mem_cons_self ..))
   have h2:=qbK (L:=L) fun q hq=>h q (List.mem_cons_of_mem _ hq)
   rw [List.flatMap_cons,List.length_append,List.length_cons]
   omega
theorem qaX {b m t:List Ent} {s:MS} (hb:Right b) (hm:Right m) (ht:Right t) (h:vG b m t = some s):s.cps.length ≤ 1000000:=by
 unfold vG at h
 have hP:=qbD b m t
 have lb:=hb.len
 have lm:=hm.len
 have lt:=ht.len
 cases h1:Vd m t (yK b m t (ze b m t)) ⟨xK b m t (ze b m t),[]⟩ with
 | none=>rw [h1] at h;cases h
 | some s1 =>
   rw [h1] at h
   have g1:=Wz h1
   have g2:=Kn h1
   have g3:=YC b m t (ze b m t)
   have g4:=YP b m t (ze b m t) []
   have g5:(xK b m t (ze b m t)).length ≤ 180:=by
    rw [List.length_nil,Nat.zero_add] at g4
    exact Nat.le_trans g4 (by omega)
   simp only [List.length_nil] at g1
   have hi:=YB (s:=⟨xK b m t (ze b m t),[]⟩) (Vl hb hm ht) (Qq hb hm ht) h1
   have f1:=qbK (L:=s1.out.map Ent.path) fun p hp=>by
    obtain ⟨x,hx,rfl⟩:=List.mem_map.1 hp
    exact (jz (hi.ent x hx)).1
   have h2:=WX h
   rw [List.length_map] at f1
   simp only at g2
   omega
theorem qaU {b m t:List Ent} (hb:Right b) (hm:Right m) (ht:Right t) (h:(zh b m t).2.2 = 0):(zh b m t).2.1.length ≤ 1000000:=by
 unfold zh at *
 cases hs:vG b m t with
 | none=>simp
 | some s =>
   simp only
   split
   ·simp
   ·exact qaX hb hm ht hs
theorem Qx {b m t:List Ent} (h:¬ (xP b m t).2.2 = 0):(xP b m t).1 = [] ∧ (xP b m t).2.1 = []:=by
 unfold xP at *
 split at h
 ·rename_i h1
  rw [if_pos h1]
  unfold zh at *
  cases hs:vG b m t with
  | none=>exact ⟨rfl,rfl⟩
  | some s =>
    rw [hs] at h
    simp only at h ⊢
    split at h
    ·rename_i h60;rw [if_pos h60];exact ⟨rfl,rfl⟩
    ·exact absurd rfl h
 ·rename_i h1
  rw [if_neg h1]
  exact ⟨rfl,rfl⟩
end Go.Proofs.YtamejbkifpjhiaaGreatDoor
set_option linter.unusedSimpArgs false
set_option linter.unnecessarySimpa false
set_option linter.unusedVariables false
namespace Go.Proofs.YtamejbkifpjhiaaGreatDoor
open Go.Ab Go.RowKit
set_option maxRecDepth 10000
attribute [local irreducible] Awp yH jH jw Red ja Go.Ab.Fin qZ Rz vn jr jp ResOk j3 jC yC jA
theorem qgy (t:List Ent) (p:qP):(xj (atP p) t = -1 ∧ stT t p = noT) ∨ ∃ (k:Nat) (h:k < t.length),xj (atP p) t = k ∧ stT t p = xS t[k]:=by
 rcases J4 (atP p) t with ⟨h1,h2⟩|⟨k,hk,h1,h2⟩
 ·exact .inl ⟨h1,by unfold stT qW;rw [h2]⟩
 ·exact .inr ⟨k,hk,h1,by unfold stT qW;rw [h2]⟩
end Go.Proofs.YtamejbkifpjhiaaGreatDoor
set_option linter.unusedSimpArgs false
set_option linter.unnecessarySimpa false
set_option linter.unusedVariables false
namespace Go.Proofs.YtamejbkifpjhiaaGreatDoor
open Go.Ab
theorem V4 {l:List qP} {s:qP} {k:Nat} (hs:¬ s ∈ l) (hk:k ≤ l.length) (h1 : ∀ x,x ∈ l.take k → Op.bytesLess x s = true) (h2 : ∀ h:k < l.length,Op.bytesLess l[k] s = false):zE l s = l.take k ++ s :: l.drop k:=by
 unfold zE
 rw [if_neg hs]
 have hl:l = l.take k ++ l.drop k:=(List.take_append_drop k l).symm
 have e1:l.takeWhile (fun x=>Op.bytesLess x s) = l.take k:=by
  conv=>lhs;rw [hl]
  rw [List.takeWhile_append_of_pos h1]
  by_cases hlt:k < l.length
  ·rw [List.drop_eq_getElem_cons hlt,List.takeWhile_cons_of_neg (by rw [h2 hlt];decide),List.append_nil]
  ·rw [List.drop_eq_nil_of_le (by omega)];simp
 have e2:l.dropWhile (fun x=>Op.bytesLess x s) = l.drop k:=by
  have h:=List.takeWhile_append_dropWhile (p:=fun x=>Op.bytesLess x s) (l:=l)
  rw [e1] at h
  exact List.append_cancel_left (h.trans hl)
 rw [e1,e2]
end Go.Proofs.YtamejbkifpjhiaaGreatDoor
set_option linter.unusedSimpArgs false
set_option linter.unnecessarySimpa false
set_option linter.unusedVariables false
set_option maxHeartbeats 1000000
namespace Go.Proofs.YtamejbkifpjhiaaGreatDoor
open Go.Ab Go.RowKit
set_option maxRecDepth 10000
attribute [local irreducible] Awp yH jH jw Red ja Go.Ab.Fin qZ Rz vn jr jp ResOk j3 jC yC jA
def Ya (l:List qP):AV := .sl false (l.map qO)
theorem qb9 (l:List qP) (s:qP) (hl:l.length ≤ 1000000000):xH C.P 126 [Ya l,.v (str s)] (.v (.bool (decide (s ∈ l)))):=by
 unfold Ya
 refine qc Tryz.func126 rfl _ Tryz.ntmps126 (Nat.le_of_ble_eq_true rfl) _ Tryz.results126 0 rfl rfl ?_
 repeat' (first|refine qn ?_|fail|((first|refine xsC ?_ ?_);all_goals (intro hc;have hp:=hc;try simp at hp;try (exfalso;omega)))|refine qX ?_ ?_)
 (refine Awp.red (qI (ts:=[(0,.sl false (l.map qO)),(1,.v (str s)),(5,.v (.int .i64 ((0:Nat):Int)))]) ?_) ?_;((repeat (first|exact qg|refine qo ?_|refine qY ?_ ?_))))
 refine qV (fun n σ => ∃ i:Nat,i ≤ l.length ∧ n = l.length - i ∧ (∀ x,x ∈ l.take i → ¬ x = s) ∧ σ = ⟨[(0,.sl false (l.map qO)),(1,.v (str s)),(5,.v (.int .i64 (i:Int)))],[],C.nh⟩) l.length ⟨0,Nat.zero_le _,rfl,(by simp),rfl⟩ ?_
 rintro n σ ⟨i,hi,rfl,hsofar,rfl⟩
 by_cases hlt:i < l.length
 ·have hr:=jB (f:=qO) hlt
  have hnx:=fun h=>ya (p:=fun x => ¬ x = s) hlt hsofar h
  repeat' (first|refine qn ?_|fail|((first|refine xsC ?_ ?_);all_goals (intro hc;have hp:=hc;try simp at hp;try (exfalso;omega)))|refine qX ?_ ?_)
  all_goals try (exfalso;omega)
  ·have hm:s ∈ l:=by
    have e:l[i] = s:=by first|assumption|simp_all
    exact e ▸ List.getElem_mem hlt
   apply j6
   rfl
   exact (decide_eq_true hm).symm
  ·refine ⟨l.length - (i + 1),_,by omega,qI (ts:=[(0,.sl false (l.map qO)),(1,.v (str s)),(5,.v (.int .i64 ((i + 1:Nat):Int)))]) ?_,i + 1,by omega,rfl,hnx (by first|assumption|simp_all),rfl⟩;((repeat (first|exact qg|refine qo ?_|refine qY ?_ ?_)))
 obtain rfl:i = l.length:=by omega
 repeat' (first|refine qn ?_|fail|((first|refine xsC ?_ ?_);all_goals (intro hc;have hp:=hc;try simp at hp;try (exfalso;omega)))|refine qX ?_ ?_)
 all_goals try (exfalso;omega)
 apply j6
 rfl
 exact (decide_eq_false fun hm=>hsofar s (by rw [List.take_length];exact hm) rfl).symm
theorem qet (l:List qP) (s:qP) (i:Nat):List.drop 0 (List.take i (l.map qO)) ++ List.take ([[AV.v (str s)]].length + (List.drop i (List.take (l.map qO).length (l.map qO))).length) (List.drop 0 ([[AV.v (str s)]] ++ List.drop i (List.take (l.map qO).length (l.map qO)))) = (l.take i ++ s :: l.drop i).map qO:=by
 rw [List.take_length,List.drop_zero,List.drop_zero,List.take_of_length_le (l:=[[AV.v (str s)]] ++ _) (by simp;omega),List.map_append,List.map_cons,List.map_take,List.map_drop]
 rfl
set_option maxHeartbeats 2000000 in
theorem qce (l:List qP) (s:qP) (hl:l.length ≤ 1000000):xH C.P 82 [Ya l,.v (str s)] (Ya (zE l s)):=by
 have h1:=qb9 l s (by omega)
 have hml:(l.map qO).length = l.length:=List.length_map ..
 have hrk : ∀ row,row ∈ l.map qO → row.length = 1:=by
  intro row h
  obtain ⟨s,_,rfl⟩:=List.mem_map.1 h
  rfl
 by_cases hm:s ∈ l
 ·rw [decide_eq_true hm] at h1
  rw [show zE l s = l from by unfold zE;rw [if_pos hm]]
  unfold Ya at *
  refine qc Tryz.func82 rfl _ Tryz.ntmps82 (Nat.le_of_ble_eq_true rfl) _ Tryz.results82 0 rfl rfl ?_
  repeat' (first|refine qn ?_|(first|refine jv Tryz.func126 (h1 ..) ?_)|((first|refine qf ?_ ?_|refine qe ?_ ?_|refine xsC ?_ ?_);all_goals (intro hc;have hp:=hc;try simp at hp;try (exfalso;omega)))|refine qX ?_ ?_)
  all_goals try (exfalso;first|omega|contradiction)
  all_goals ((exact zO (rs:=[.tmp 4])))
 rw [decide_eq_false hm] at h1
 unfold Ya at *
 refine qc Tryz.func82 rfl _ Tryz.ntmps82 (Nat.le_of_ble_eq_true rfl) _ Tryz.results82 0 rfl rfl ?_
 repeat' (first|refine qn ?_|(first|refine jv Tryz.func126 (h1 ..) ?_)|((first|refine qf ?_ ?_|refine qe ?_ ?_|refine xsC ?_ ?_);all_goals (intro hc;have hp:=hc;try simp at hp;try (exfalso;omega)))|refine qX ?_ ?_)
 all_goals try (exfalso;first|omega|contradiction)
 (refine Awp.red (qI (ts:=[(0,.sl false (l.map qO)),(1,.v (str s)),(5,.v (.int .i64 ((0:Nat):Int)))]) ?_) ?_;((repeat (first|exact qg|refine qo ?_|refine qY ?_ ?_))))
 refine qV (fun n σ => ∃ i:Nat,i ≤ l.length ∧ n = l.length - i ∧ (∀ x,x ∈ l.take i → Op.bytesLess x s = true) ∧ σ = ⟨[(0,.sl false (l.map qO)),(1,.v (str s)),(5,.v (.int .i64 (i:Int)))],[],C.nh⟩) l.length ⟨0,Nat.zero_le _,rfl,(by simp),rfl⟩ ?_
 rintro n σ ⟨i,hi,rfl,hsofar,rfl⟩
 have hil:i ≤ (l.map qO).length:=by omega
 by_cases hlt:i < l.length
 ·have hr:=jB (f:=qO) hlt
  cases hless:Op.bytesLess l[i] s with
  | true =>
    have hnx:=ya (p:=fun x=>Op.bytesLess x s = true) hlt hsofar hless
    repeat' (first|refine qn ?_|fail|((first|refine qf ?_ ?_|refine qe ?_ ?_|refine xsC ?_ ?_);all_goals (intro hc;have hp:=hc;try simp at hp;try (exfalso;omega)))|refine qX ?_ ?_)
    all_goals try (exfalso;first|omega|contradiction|simp_all;done)
    refine ⟨l.length - (i + 1),_,by omega,qI (ts:=[(0,.sl false (l.map qO)),(1,.v (str s)),(5,.v (.int .i64 ((i + 1:Nat):Int)))]) ?_,i + 1,by omega,rfl,hnx,rfl⟩;((repeat (first|exact qg|refine qo ?_|refine qY ?_ ?_)))
  | false =>
    rw [V4 hm hi hsofar (fun _=>hless)]
    clear hsofar
    repeat' (first|refine qn ?_|(first|(refine jL ?_)|(apply qi;apply xZ (ex':=true) (a:=0) (b:=i) (m:=i);(case hx=>rfl);(case hT=>rfl);(case he=>rfl);(case hE=>rfl);(case ha=>rfl);(case hb=>exact ⟨_,rfl⟩);(case hm=>exact ⟨⟨_,rfl⟩,Nat.le_refl _,hil,rfl⟩);(case hab=>exact Nat.zero_le _);(case hbl=>exact hil);(case hrk=>exact hrk);(case hex=>exact fun _=>rfl);(case hN=>exact nle rfl))|(apply qi;apply xZ (ex':=false) (a:=i) (b:=(l.map qO).length) (m:=0);(case hx=>rfl);(case hT=>rfl);(case he=>rfl);(case hE=>rfl);(case ha=>exact ⟨_,rfl⟩);(case hb=>rfl);(case hm=>trivial);(case hab=>(first|omega|(simp;done)|(simp only [List.length_cons,List.length_nil,List.length_map];omega)|(simp;omega)));(case hbl=>(first|omega|(simp;done)|(simp only [List.length_cons,List.length_nil,List.length_map];omega)|(simp;omega)));(case hrk=>exact hrk);(case hex=>exact nofun);(case hN=>exact nle rfl))|(apply xe;apply Qk;(case hx=>rfl);(case hT=>rfl);(case he=>rfl);(case hE=>rfl);(case hz=>rfl);(case hk0=>(intro row h;rw [List.mem_singleton.1 h];rfl));(case hc0=>(intro row h;rw [List.mem_singleton.1 h];rfl));(case hsrc=>(apply v6;rfl;exact ZV (xw fun _=>rfl) Qb));(case hne=>(simp;omega));(case hsz=>(first|omega|(simp only [List.length_append,List.length_drop,List.length_take,List.length_map,List.length_cons,List.length_nil];omega)|(simp;omega)));(case hlen=>(first|omega|(simp only [List.length_append,List.length_drop,List.length_take,List.length_map,List.length_cons,List.length_nil];omega)|(simp;omega)));(case hN=>exact nle rfl))|(apply xe;apply Qk;(case hx=>rfl);(case hT=>rfl);(case he=>rfl);(case hE=>rfl);(case hz=>rfl);(case hk0=>(intro row h;exact hrk row (Qb row h)));(case hc0=>(intro row h;obtain ⟨x,_,rfl⟩:=List.mem_map.1 (Qb row h);rfl));(case hsrc=>(apply QP;rfl;rfl;exact Nat.le_of_eq (by simp;omega);rfl;(rw [List.all_append,Bool.and_eq_true];exact ⟨rfl,ZV (xw fun _=>rfl) Qb⟩)));(case hne=>(simp;omega));(case hsz=>(first|omega|(simp only [List.length_append,List.length_drop,List.length_take,List.length_map,List.length_cons,List.length_nil];omega)|(simp;omega)));(case hlen=>(first|omega|(simp only [List.length_append,List.length_drop,List.length_take,List.length_map,List.length_cons,List.length_nil];omega)|(simp;omega)));(case hN=>exact nle rfl)))|((first|refine qf ?_ ?_|refine qe ?_ ?_|refine xsC ?_ ?_);all_goals (intro hc;have hp:=hc;try simp at hp;try (exfalso;omega)))|refine qX ?_ ?_)
    all_goals try (exfalso;first|omega|contradiction|simp_all;done)
    (refine xa (rs:=[.tmp 4]) ?_;(repeat' (first|exact q5|apply qA|exact q4 rfl|exact yE|exact zz|apply jX|apply y5|apply jO|apply y3|apply yz|apply y4|refine zr ?_|apply x8));all_goals exact qet l s i)
 obtain rfl:i = l.length:=by omega
 rw [V4 hm hi hsofar (fun h=>absurd h (Nat.lt_irrefl _))]
 clear hsofar
 repeat' (first|refine qn ?_|(first|(refine jL ?_)|(apply qi;apply xZ (ex':=true) (a:=0) (b:=l.length) (m:=l.length);(case hx=>rfl);(case hT=>rfl);(case he=>rfl);(case hE=>rfl);(case ha=>rfl);(case hb=>exact ⟨_,rfl⟩);(case hm=>exact ⟨⟨_,rfl⟩,Nat.le_refl _,hil,rfl⟩);(case hab=>exact Nat.zero_le _);(case hbl=>exact hil);(case hrk=>exact hrk);(case hex=>exact fun _=>rfl);(case hN=>exact nle rfl))|(apply qi;apply xZ (ex':=false) (a:=l.length) (b:=(l.map qO).length) (m:=0);(case hx=>rfl);(case hT=>rfl);(case he=>rfl);(case hE=>rfl);(case ha=>exact ⟨_,rfl⟩);(case hb=>rfl);(case hm=>trivial);(case hab=>(first|omega|(simp;done)|(simp only [List.length_cons,List.length_nil,List.length_map];omega)|(simp;omega)));(case hbl=>(first|omega|(simp;done)|(simp only [List.length_cons,List.length_nil,List.length_map];omega)|(simp;omega)));(case hrk=>exact hrk);(case hex=>exact nofun);(case hN=>exact nle rfl))|(apply qi;apply Zo;(case hx=>rfl);(case hT=>rfl);(case he=>rfl);(case hE=>rfl);(case hy=>rfl);(case h0=>(simp;done));(case hN=>exact nle rfl))|(apply xe;apply Qk;(case hx=>rfl);(case hT=>rfl);(case he=>rfl);(case hE=>rfl);(case hz=>rfl);(case hk0=>(intro row h;exact hrk row (Qb row h)));(case hc0=>(intro row h;obtain ⟨x,_,rfl⟩:=List.mem_map.1 (Qb row h);rfl));(case hsrc=>(apply v6;rfl;rfl));(case hne=>(exact Nat.one_pos));(case hsz=>(first|omega|(simp only [List.length_append,List.length_drop,List.length_take,List.length_map,List.length_cons,List.length_nil];omega)|(simp;omega)));(case hlen=>(first|omega|(simp only [List.length_append,List.length_drop,List.length_take,List.length_map,List.length_cons,List.length_nil];omega)|(simp;omega)));(case hN=>exact nle rfl)))|((first|refine qf ?_ ?_|refine qe ?_ ?_|refine xsC ?_ ?_);all_goals (intro hc;have hp:=hc;try simp at hp;try (exfalso;omega)))|refine qX ?_ ?_)
 all_goals try (exfalso;first|omega|contradiction|simp_all;done)
 (refine xa (rs:=[.tmp 4]) ?_;(repeat' (first|exact q5|apply qA|exact q4 rfl|exact yE|exact zz|apply jX|apply y5|apply jO|apply y3|apply yz|apply y4|refine zr ?_|apply x8));all_goals (show List.drop 0 (List.take l.length (l.map qO)) ++ [[.v (str s)]] = _;rw [List.drop_zero,List.take_of_length_le (by simp),List.take_length,List.drop_length,List.map_append];rfl))
end Go.Proofs.YtamejbkifpjhiaaGreatDoor
set_option linter.unusedSimpArgs false
set_option linter.unnecessarySimpa false
set_option linter.unusedVariables false
set_option maxHeartbeats 1000000
namespace Go.Proofs.YtamejbkifpjhiaaGreatDoor
open Go.Ab Go.RowKit
set_option maxRecDepth 10000
attribute [local irreducible] Awp yH jH jw Red ja Go.Ab.Fin qZ Rz vn jr jp ResOk j3 jC yC jA
theorem wV (t:List Ent) (p:qP) (hl:t.length ≤ 1000000000):xH C.P 86 [qa t,.v (str p)] (.tup [.v (.int .i64 (stT t p).kind),.v (str (stT t p).text)]):=by
 have hea:=yl t p hl
 rcases qgy t p with ⟨h1,h2⟩|⟨k,hk,h1,h2⟩
 ·rw [h1] at hea
  rw [h2]
  unfold noT
  refine qc Tryz.func86 rfl _ Tryz.ntmps86 (Nat.le_of_ble_eq_true rfl) _ Tryz.results86 0 rfl rfl ?_
  repeat' (first|refine qn ?_|(first|refine jv Tryz.func75 (hea ..) ?_)|((first|refine xsC ?_ ?_);all_goals (intro hc;have hp:=hc;try simp at hp;try (exfalso;omega)))|refine qX ?_ ?_)
  all_goals try (exfalso;omega)
  all_goals ((exact zO (rs:=[.tmp 4,.tmp 5])))
 ·rw [h1] at hea
  have hr:=jB (f:=Ent.row) hk
  rw [h2]
  generalize t[k] = x at *
  obtain ⟨xp,xf,xt,xv⟩:=x
  cases xf
  ·rw [show xS ⟨xp,false,xt,xv⟩ = ⟨2,xt⟩ from rfl]
   refine qc Tryz.func86 rfl _ Tryz.ntmps86 (Nat.le_of_ble_eq_true rfl) _ Tryz.results86 0 rfl rfl ?_
   repeat' (first|refine qn ?_|(first|refine jv Tryz.func75 (hea ..) ?_)|((first|refine xsC ?_ ?_);all_goals (intro hc;have hp:=hc;try simp at hp;try (exfalso;omega)))|refine qX ?_ ?_)
   all_goals try (exfalso;first|omega|contradiction)
   all_goals ((exact zO (rs:=[.tmp 4,.tmp 5])))
  ·rw [show xS ⟨xp,true,xt,xv⟩ = ⟨1,[]⟩ from rfl]
   refine qc Tryz.func86 rfl _ Tryz.ntmps86 (Nat.le_of_ble_eq_true rfl) _ Tryz.results86 0 rfl rfl ?_
   repeat' (first|refine qn ?_|(first|refine jv Tryz.func75 (hea ..) ?_)|((first|refine xsC ?_ ?_);all_goals (intro hc;have hp:=hc;try simp at hp;try (exfalso;omega)))|refine qX ?_ ?_)
   all_goals try (exfalso;first|omega|contradiction)
   all_goals ((exact zO (rs:=[.tmp 4,.tmp 5])))
theorem Ye (a b:List Ent) (p:qP) (ha:a.length ≤ 1000000000) (hb:b.length ≤ 1000000000):xH C.P 87 [qa a,qa b,.v (str p)] (.v (.bool (decide (stT a p = stT b p)))):=by
 have h1:=wV a p ha
 have h2:=wV b p hb
 generalize stT a p = x at *
 generalize stT b p = y at *
 obtain ⟨xk,xt⟩:=x
 obtain ⟨yk,yt⟩:=y
 dsimp only at h1 h2
 have hE:decide ((⟨xk,xt⟩ : Thg) = ⟨yk,yt⟩) = (decide (xk = yk) && decide (xt = yt)):=by
  by_cases e1:xk = yk<;>by_cases e2:xt = yt<;>simp [e1,e2]
 rw [hE]
 refine qc Tryz.func87 rfl _ Tryz.ntmps87 (Nat.le_of_ble_eq_true rfl) _ Tryz.results87 0 rfl rfl ?_
 repeat' (first|refine qn ?_|(first|refine j1 Tryz.func86 (h1 ..) ?_|refine j1 Tryz.func86 (h2 ..) ?_)|((first|refine qf ?_ ?_|refine qe ?_ ?_|refine xsC ?_ ?_);all_goals (intro hc;have hp:=hc;try simp at hp;try (exfalso;omega)))|refine qX ?_ ?_)
 all_goals try (exfalso;first|omega|contradiction)
 all_goals (apply j6;rfl;first|rfl|(simp_all;done))
theorem qe6:qdQ C.P 68 = some [1,1]:=by kernel_rfl
theorem qcZ (a b:Cpy):Jm [1,1] a.row b.row = some (decide (a = b)):=by
 obtain ⟨a1,a2⟩:=a
 obtain ⟨b1,b2⟩:=b
 simp only [Cpy.row,Jm,QZ,str,Cpy.mk.injEq,if_true,Option.some.injEq]
 by_cases h1:a1 = b1<;>by_cases h2:a2 = b2<;>simp [h1,h2]
theorem Z9 (a:List Cpy) (ha:a.length ≤ 1000000000):xH C.P 36 [we a,we a] (.v (.bool true)):=by
 have hma:(a.map Cpy.row).length = a.length:=List.length_map ..
 unfold we
 refine qc Tryz.func36 rfl _ Tryz.ntmps36 (Nat.le_of_ble_eq_true rfl) _ Tryz.results36 0 rfl rfl ?_
 repeat' (first|refine qn ?_|fail|((first|refine xsC ?_ ?_);all_goals (intro hc;have hp:=hc;try simp at hp;try (exfalso;omega)))|refine qX ?_ ?_)
 all_goals try (exfalso;first|omega|simp_all;done)
 (refine Awp.red (qI (ts:=[(0,.sl false (a.map Cpy.row)),(1,.sl false (a.map Cpy.row)),(5,.v (.int .i64 ((0:Nat):Int)))]) ?_) ?_;((repeat (first|exact qg|refine qo ?_|refine qY ?_ ?_))))
 refine qV (fun n σ => ∃ i:Nat,i ≤ a.length ∧ n = a.length - i ∧ (True) ∧ σ = ⟨[(0,.sl false (a.map Cpy.row)),(1,.sl false (a.map Cpy.row)),(5,.v (.int .i64 (i:Int)))],[],C.nh⟩) a.length ⟨0,Nat.zero_le _,rfl,trivial,rfl⟩ ?_
 rintro n σ ⟨i,hi,rfl, -,rfl⟩
 by_cases hlt:i < a.length
 ·have hr:=jB (f:=Cpy.row) hlt
  repeat' (first|refine qn ?_|(first|(apply qi;apply xY;rfl;rfl;exact qe6;exact qcZ _ _;(first|exact .inl ⟨rfl,rfl⟩|exact .inr ⟨rfl,rfl⟩);exact nle rfl))|((first|refine xsC ?_ ?_);all_goals (intro hc;have hp:=hc;try simp at hp;try (exfalso;omega)))|refine qX ?_ ?_)
  all_goals try (exfalso;first|omega|simp_all;done)
  refine ⟨a.length - (i + 1),_,by omega,qI (ts:=[(0,.sl false (a.map Cpy.row)),(1,.sl false (a.map Cpy.row)),(5,.v (.int .i64 ((i + 1:Nat):Int)))]) ?_,i + 1,by omega,rfl,trivial,rfl⟩;((repeat (first|exact qg|refine qo ?_|refine qY ?_ ?_)))
 obtain rfl:i = a.length:=by omega
 repeat' (first|refine qn ?_|fail|((first|refine xsC ?_ ?_);all_goals (intro hc;have hp:=hc;try simp at hp;try (exfalso;omega)))|refine qX ?_ ?_)
 all_goals try (exfalso;omega)
 apply j6
 rfl
 rfl
theorem Ka (a b c:List Ent) (ha:EBig a) (hb:EBig b) (hc:EBig c):xH C.P 34 [qa a,qa b,qa c] (.v (.int .i64 (jK qC [a,b,c]))):=by
 have h1:=qaw a b ha hb
 have h2:=kS c hc
 have hE:jK qC [a,b,c] = if jK qC [a,b] = 0 then qC c else jK qC [a,b]:=by
  simp only [jK]
  by_cases h3:qC a = 0<;>by_cases h4:qC b = 0<;>by_cases h5:qC c = 0<;>simp [h3,h4,h5]
 rw [hE]
 generalize jK qC [a,b] = E at *
 generalize qC c = G at *
 by_cases h0:E = 0
 ·subst h0
  rw [if_pos rfl]
  refine qc Tryz.func34 rfl _ Tryz.ntmps34 (Nat.le_of_ble_eq_true rfl) _ Tryz.results34 0 rfl rfl ?_
  repeat' (first|refine qn ?_|(first|refine jv Tryz.func81 (h1 ..) ?_|refine jv Tryz.func31 (h2 ..) ?_)|((first|refine xsC ?_ ?_);all_goals (intro hc;have hp:=hc;try simp at hp;try (exfalso;omega)))|refine qX ?_ ?_)
  all_goals try (exfalso;first|omega|contradiction)
  all_goals (apply jY;rfl;rfl)
 ·rw [if_neg h0]
  refine qc Tryz.func34 rfl _ Tryz.ntmps34 (Nat.le_of_ble_eq_true rfl) _ Tryz.results34 0 rfl rfl ?_
  repeat' (first|refine qn ?_|(first|refine jv Tryz.func81 (h1 ..) ?_|refine jv Tryz.func31 (h2 ..) ?_)|((first|refine xsC ?_ ?_);all_goals (intro hc;have hp:=hc;try simp at hp;try (exfalso;omega)))|refine qX ?_ ?_)
  all_goals try (exfalso;first|omega|contradiction)
  all_goals (apply jY;rfl;rfl)
end Go.Proofs.YtamejbkifpjhiaaGreatDoor
set_option linter.unusedSimpArgs false
set_option linter.unnecessarySimpa false
set_option linter.unusedVariables false
set_option maxHeartbeats 1000000
namespace Go.Proofs.YtamejbkifpjhiaaGreatDoor
open Go.Ab Go.RowKit
set_option maxRecDepth 10000
attribute [local irreducible] Awp yH jH jw Red ja Go.Ab.Fin qZ Rz vn jr jp ResOk j3 jC yC jA
def qhe:List (Nat × TRec):=(123,⟨.other,false,1,8,[.nilFunc]⟩) :: tab
theorem qfH:qbx Tryz.prog qhe:=⟨by kernel_rfl,qf2⟩
noncomputable def CF:Cx:=⟨Tryz.prog,qhe,Yb qfH,by kernel_rfl,0,fun _ _ _=>False⟩
noncomputable def CF5:Cx := { CF with nh:=5 }
theorem Wa (t:List Ent) (x:Ent) (hl:t.length ≤ 400000):qZ C1.P 77 [.os 0 0 t.length,.agg x.row] [.own false 4 (t.map Ent.row)] (.os 1 0 (Xx t x).length) [.own false 4 (t.map Ent.row),.own false 4 ((Xx t x).map Ent.row)]:=by
 refine qc (C:=C1) Tryz.func77 rfl _ Tryz.ntmps77 (Nat.le_of_ble_eq_true rfl) _ Tryz.results77 1 rfl rfl ?_
 repeat' (first|refine qn ?_|(first|fail)|((first|refine qf ?_ ?_|refine qe ?_ ?_|refine xsC ?_ ?_);all_goals (intro hc;have hp:=hc;try simp at hp;try (exfalso;omega)))|refine qX ?_ ?_)
 refine Awp.red (ye 5 4 rfl (Nat.le_of_ble_eq_true rfl)) ?_
 (refine Awp.red (qB (τ:=⟨[(0,.os 0 0 t.length),(3,.op 1 0 0),(5,.os 2 0 0),(6,.v (.bool false)),(7,.v (.int .i64 ((0:Nat):Int)))],[(0,.own false 4 (t.map Ent.row)),(1,.own false 4 [x.row]),(2,.own false 4 [])],3⟩) [(1,1),(2,2)] rfl ?gts ?ghs) ?gmain;(case gts=>(repeat (first|exact qg|refine qo ?_|refine yg ?_|refine x6 ?_|refine qY ?_ ?_));all_goals skip);(case ghs=>(repeat (first|exact qj|refine j4 ?_|refine q6 ?_ ?_))))
 refine qV (fun n σ => ∃ i:Nat,i ≤ t.length ∧ n = t.length - i ∧ (True) ∧ σ = ⟨[(0,.os 0 0 t.length),(3,.op 1 0 0),(5,.os 2 0 (xq (t.take i) x).1.length),(6,.v (.bool (xq (t.take i) x).2)),(7,.v (.int .i64 (i:Int)))],[(0,.own false 4 (t.map Ent.row)),(1,.own false 4 [x.row]),(2,.own false 4 ((xq (t.take i) x).1.map Ent.row))],3⟩) t.length ⟨0,Nat.zero_le _,rfl,trivial,rfl⟩ ?_
 rintro n σ ⟨i,hi,rfl, -,rfl⟩
 have hgl:=W4 (t.take i) x
 have htl:(t.take i).length ≤ t.length:=by simp;omega
 by_cases hlt:i < t.length
 ·have hr:=jB (f:=Ent.row) hlt
  have hgs := @ZU t x i hlt
  generalize xq (t.take i) x = G at *
  obtain ⟨o,b⟩:=G
  simp only [x4] at hgs
  have hgl:o.length ≤ 2 * (t.take i).length:=hgl
  cases b<;>cases hless:Op.bytesLess t[i].path x.path<;>by_cases hpe:t[i].path = x.path
  all_goals try (exfalso;rw [hpe,vD] at hless;exact absurd hless (by decide))
  all_goals simp only [hless,hpe,vD,if_true,if_false,and_true,and_false,and_self,Bool.false_or,Bool.true_or,Bool.not_true,Bool.not_false,List.append_nil,Bool.true_eq_false,Bool.false_eq_true,List.append_assoc] at hgs
  all_goals (
   repeat' (first|refine qn ?_|(first|(refine jL ?_)|(refine yi ?_)|(refine xC ?_))|((first|refine qf ?_ ?_|refine qe ?_ ?_|refine xsC ?_ ?_);all_goals (intro hc;have hp:=hc;try simp at hp;try (exfalso;omega)))|refine qX ?_ ?_))
  all_goals try (exfalso;first|omega|contradiction|(simp_all;done))
  ·refine ⟨t.length - (i + 1),_,by omega,qB (τ:=⟨[(0,.os 0 0 t.length),(3,.op 1 0 0),(5,.os 2 0 (xq (t.take (i + 1)) x).1.length),(6,.v (.bool (xq (t.take (i + 1)) x).2)),(7,.v (.int .i64 ((i + 1:Nat):Int)))],[(0,.own false 4 (t.map Ent.row)),(1,.own false 4 [x.row]),(2,.own false 4 ((xq (t.take (i + 1)) x).1.map Ent.row))],3⟩) [(1,1),(3,2)] rfl ?gts ?ghs,i + 1,by omega,rfl,trivial,rfl⟩;(case gts=>(repeat (first|exact qg|refine qo ?_|refine yg ?_|refine x6 ?_|refine qY ?_ ?_));all_goals (rw [hgs];try first|(simp only [List.length_append,List.length_cons,List.length_nil,List.map_append,List.map_cons,List.map_nil,List.append_assoc,List.cons_append,List.nil_append];done)|(rw [List.take_of_length_le (by simp)];simp;done)|(simp;done)|exact yR o x.row _));(case ghs=>(repeat (first|exact qj|refine j4 ?_|refine q6 ?_ ?_));all_goals (rw [hgs];try first|(simp only [List.length_append,List.length_cons,List.length_nil,List.map_append,List.map_cons,List.map_nil,List.append_assoc,List.cons_append,List.nil_append];done)|(rw [List.take_of_length_le (by simp)];simp;done)|(simp;done)|exact yR o x.row _))
  ·refine ⟨t.length - (i + 1),_,by omega,qB (τ:=⟨[(0,.os 0 0 t.length),(3,.op 1 0 0),(5,.os 2 0 (xq (t.take (i + 1)) x).1.length),(6,.v (.bool (xq (t.take (i + 1)) x).2)),(7,.v (.int .i64 ((i + 1:Nat):Int)))],[(0,.own false 4 (t.map Ent.row)),(1,.own false 4 [x.row]),(2,.own false 4 ((xq (t.take (i + 1)) x).1.map Ent.row))],3⟩) [(1,1),(4,2)] rfl ?gts ?ghs,i + 1,by omega,rfl,trivial,rfl⟩;(case gts=>(repeat (first|exact qg|refine qo ?_|refine yg ?_|refine x6 ?_|refine qY ?_ ?_));all_goals (rw [hgs];try first|(simp only [List.length_append,List.length_cons,List.length_nil,List.map_append,List.map_cons,List.map_nil,List.append_assoc,List.cons_append,List.nil_append];done)|(rw [List.take_of_length_le (by simp)];simp;done)|(simp;done)|exact yR o x.row _));(case ghs=>(repeat (first|exact qj|refine j4 ?_|refine q6 ?_ ?_));all_goals (rw [hgs];try first|(simp only [List.length_append,List.length_cons,List.length_nil,List.map_append,List.map_cons,List.map_nil,List.append_assoc,List.cons_append,List.nil_append];done)|(rw [List.take_of_length_le (by simp)];simp;done)|(simp;done)|exact yR o x.row _))
  ·refine ⟨t.length - (i + 1),_,by omega,qB (τ:=⟨[(0,.os 0 0 t.length),(3,.op 1 0 0),(5,.os 2 0 (xq (t.take (i + 1)) x).1.length),(6,.v (.bool (xq (t.take (i + 1)) x).2)),(7,.v (.int .i64 ((i + 1:Nat):Int)))],[(0,.own false 4 (t.map Ent.row)),(1,.own false 4 [x.row]),(2,.own false 4 ((xq (t.take (i + 1)) x).1.map Ent.row))],3⟩) [(1,1),(3,2)] rfl ?gts ?ghs,i + 1,by omega,rfl,trivial,rfl⟩;(case gts=>(repeat (first|exact qg|refine qo ?_|refine yg ?_|refine x6 ?_|refine qY ?_ ?_));all_goals (rw [hgs];try first|(simp only [List.length_append,List.length_cons,List.length_nil,List.map_append,List.map_cons,List.map_nil,List.append_assoc,List.cons_append,List.nil_append];done)|(rw [List.take_of_length_le (by simp)];simp;done)|(simp;done)|exact yR o x.row _));(case ghs=>(repeat (first|exact qj|refine j4 ?_|refine q6 ?_ ?_));all_goals (rw [hgs];try first|(simp only [List.length_append,List.length_cons,List.length_nil,List.map_append,List.map_cons,List.map_nil,List.append_assoc,List.cons_append,List.nil_append];done)|(rw [List.take_of_length_le (by simp)];simp;done)|(simp;done)|exact yR o x.row _))
  ·refine ⟨t.length - (i + 1),_,by omega,qB (τ:=⟨[(0,.os 0 0 t.length),(3,.op 1 0 0),(5,.os 2 0 (xq (t.take (i + 1)) x).1.length),(6,.v (.bool (xq (t.take (i + 1)) x).2)),(7,.v (.int .i64 ((i + 1:Nat):Int)))],[(0,.own false 4 (t.map Ent.row)),(1,.own false 4 [x.row]),(2,.own false 4 ((xq (t.take (i + 1)) x).1.map Ent.row))],3⟩) [(1,1),(2,2)] rfl ?gts ?ghs,i + 1,by omega,rfl,trivial,rfl⟩;(case gts=>(repeat (first|exact qg|refine qo ?_|refine yg ?_|refine x6 ?_|refine qY ?_ ?_));all_goals (rw [hgs];try first|(simp only [List.length_append,List.length_cons,List.length_nil,List.map_append,List.map_cons,List.map_nil,List.append_assoc,List.cons_append,List.nil_append];done)|(rw [List.take_of_length_le (by simp)];simp;done)|(simp;done)|exact yR o x.row _));(case ghs=>(repeat (first|exact qj|refine j4 ?_|refine q6 ?_ ?_));all_goals (rw [hgs];try first|(simp only [List.length_append,List.length_cons,List.length_nil,List.map_append,List.map_cons,List.map_nil,List.append_assoc,List.cons_append,List.nil_append];done)|(rw [List.take_of_length_le (by simp)];simp;done)|(simp;done)|exact yR o x.row _))
  ·refine ⟨t.length - (i + 1),_,by omega,qB (τ:=⟨[(0,.os 0 0 t.length),(3,.op 1 0 0),(5,.os 2 0 (xq (t.take (i + 1)) x).1.length),(6,.v (.bool (xq (t.take (i + 1)) x).2)),(7,.v (.int .i64 ((i + 1:Nat):Int)))],[(0,.own false 4 (t.map Ent.row)),(1,.own false 4 [x.row]),(2,.own false 4 ((xq (t.take (i + 1)) x).1.map Ent.row))],3⟩) [(1,1),(3,2)] rfl ?gts ?ghs,i + 1,by omega,rfl,trivial,rfl⟩;(case gts=>(repeat (first|exact qg|refine qo ?_|refine yg ?_|refine x6 ?_|refine qY ?_ ?_));all_goals (rw [hgs];try first|(simp only [List.length_append,List.length_cons,List.length_nil,List.map_append,List.map_cons,List.map_nil,List.append_assoc,List.cons_append,List.nil_append];done)|(rw [List.take_of_length_le (by simp)];simp;done)|(simp;done)|exact yR o x.row _));(case ghs=>(repeat (first|exact qj|refine j4 ?_|refine q6 ?_ ?_));all_goals (rw [hgs];try first|(simp only [List.length_append,List.length_cons,List.length_nil,List.map_append,List.map_cons,List.map_nil,List.append_assoc,List.cons_append,List.nil_append];done)|(rw [List.take_of_length_le (by simp)];simp;done)|(simp;done)|exact yR o x.row _))
  ·refine ⟨t.length - (i + 1),_,by omega,qB (τ:=⟨[(0,.os 0 0 t.length),(3,.op 1 0 0),(5,.os 2 0 (xq (t.take (i + 1)) x).1.length),(6,.v (.bool (xq (t.take (i + 1)) x).2)),(7,.v (.int .i64 ((i + 1:Nat):Int)))],[(0,.own false 4 (t.map Ent.row)),(1,.own false 4 [x.row]),(2,.own false 4 ((xq (t.take (i + 1)) x).1.map Ent.row))],3⟩) [(1,1),(3,2)] rfl ?gts ?ghs,i + 1,by omega,rfl,trivial,rfl⟩;(case gts=>(repeat (first|exact qg|refine qo ?_|refine yg ?_|refine x6 ?_|refine qY ?_ ?_));all_goals (rw [hgs];try first|(simp only [List.length_append,List.length_cons,List.length_nil,List.map_append,List.map_cons,List.map_nil,List.append_assoc,List.cons_append,List.nil_append];done)|(rw [List.take_of_length_le (by simp)];simp;done)|(simp;done)|exact yR o x.row _));(case ghs=>(repeat (first|exact qj|refine j4 ?_|refine q6 ?_ ?_));all_goals (rw [hgs];try first|(simp only [List.length_append,List.length_cons,List.length_nil,List.map_append,List.map_cons,List.map_nil,List.append_assoc,List.cons_append,List.nil_append];done)|(rw [List.take_of_length_le (by simp)];simp;done)|(simp;done)|exact yR o x.row _))
 obtain rfl:i = t.length:=by omega
 rw [List.take_length] at *
 have hR:Xx t x = if (xq t x).2 = true then (xq t x).1 else (xq t x).1 ++ [x]:=rfl
 generalize xq t x = G at *
 obtain ⟨o,b⟩:=G
 have hgl:o.length ≤ 2 * t.length:=hgl
 cases b
 ·have hR:Xx t x = o ++ [x]:=hR
  rw [hR]
  repeat' (first|refine qn ?_|(first|(refine jL ?_)|(refine yi ?_)|(refine xC ?_))|((first|refine qf ?_ ?_|refine qe ?_ ?_|refine xsC ?_ ?_);all_goals (intro hc;have hp:=hc;try simp at hp;try (exfalso;omega)))|refine qX ?_ ?_)
  all_goals try (exfalso;omega)
  (apply jM (rs:=[.tmp 4]) [(3,1)] 2;(case hr=>(repeat (first|exact js|(apply jt;rfl)|(apply jl;rfl;rfl;rfl;rfl;rfl))));(case hL=>rfl);(case hh=>(repeat (first|exact qj|refine j4 ?_|refine q6 ?_ ?_));all_goals (show (o.map Ent.row).take o.length ++ [x.row] = _;rw [List.take_of_length_le (by simp)];simp));(case hi=>first|exact (rfl:_ = ([]:List (Nat × Nat)))|exact (rfl:_ = [((0:Nat),(0:Nat))])|exact (rfl:_ = [((0:Nat),(0:Nat)),(1,1)]));(case hz=>first|rfl|(simp [yh,AV.ren,AV.ren.renL,jF,qS,jD];done)|(simp [yh,AV.ren,AV.ren.renL,jF,qS,jD, *];done)|(simp [yh,AV.ren,AV.ren.renL,jF,qS,jD])))
 ·have hR:Xx t x = o:=hR
  rw [hR]
  repeat' (first|refine qn ?_|(first|(refine jL ?_)|(refine yi ?_)|(refine xC ?_))|((first|refine qf ?_ ?_|refine qe ?_ ?_|refine xsC ?_ ?_);all_goals (intro hc;have hp:=hc;try simp at hp;try (exfalso;omega)))|refine qX ?_ ?_)
  all_goals try (exfalso;omega)
  (refine QV (rs:=[.tmp 4]) [(2,1)] 2 ?_;(repeat (first|exact qj|refine j4 ?_|refine q6 ?_ ?_));all_goals trace_state)
theorem qf9 (O:List Ent) (x:Ent) (hO:qU jf O = true) (hl:O.length ≤ 400000):qZ C1.P 77 [.os 0 0 O.length,.agg x.row] [.own false 4 (O.map Ent.row)] (.os 1 0 (jR O x).length) [.own false 4 (O.map Ent.row),.own false 4 ((jR O x).map Ent.row)]:=by
 have h:=Wa O x hl
 rw [w9 hO] at h
 exact h
theorem Vo (O N:List Ent) (p:qP) (k:Int) (x:qP) (hk:0 < k) (hO:qU jf O = true) (lO:O.length ≤ 400000) (hN:jR O ⟨p,decide (k = 1),x,1⟩ = N) :
  qZ C2.P 83 [.v (str p),.v (.int .i64 k),.v (str x),.op 0 0 0] [.own false 1 [[.os 1 0 O.length]],.own false 4 (O.map Ent.row)] (.tup []) [.own false 1 [[.os 2 0 N.length]],.dead,.own false 4 (N.map Ent.row)]:=by
 have h1:=qf9 O ⟨p,decide (k = 1),x,1⟩ hO lO
 rw [hN] at h1
 have hrow:Ent.row ⟨p,decide (k = 1),x,1⟩ = [.v (str p),.v (.bool (decide (k = 1))),.v (str x),.v (.int .i64 1)]:=rfl
 rw [hrow] at h1
 refine qc (C:=C2) Tryz.func83 rfl _ Tryz.ntmps83 (Nat.le_of_ble_eq_true rfl) _ Tryz.results83 2 rfl rfl ?_
 repeat' (first|refine qn ?_|(first|fail)|((first|refine qf ?_ ?_|refine qe ?_ ?_|refine xsC ?_ ?_);all_goals (intro hc;have hp:=hc;try simp at hp;try (exfalso;omega)))|refine qX ?_ ?_)
 all_goals try (exfalso;omega)
 apply jo Tryz.func77 rfl rfl
 intro hIsFn
 refine yD [1] [2] [(1,.own false 4 (O.map Ent.row)),(2,.own false 4 (N.map Ent.row))] 3 (.os 2 0 N.length) hIsFn (h1) (by ((repeat' (first|exact q9|apply qR|exact q8 rfl|exact jy|(apply qm;apply qD;exact .inr (of_decide_eq_true rfl))|(apply qm;apply qt;exact .inr (of_decide_eq_true rfl))|(apply qm;apply qz;exact .inr (of_decide_eq_true rfl))|apply jd|apply je)))<;>fail) (by ((repeat' (first|exact qG|exact qF|refine qx _ ?_ ?_|refine qw ?_ ?_|exact qq|exact qb (qh _)|exact qb (qL _)|exact qb (qp _)|exact qv (fun _=>rfl)|refine qy ?_|exact ql|apply qd|exact qk rfl|(apply qt;exact .inr (of_decide_eq_true rfl))|(apply qz;exact .inr (of_decide_eq_true rfl))|(apply qD;exact .inr (of_decide_eq_true rfl))|exact jc (qK fun _=>rfl))))<;>fail) (by ((repeat' (first|exact qG|exact qF|refine qx _ ?_ ?_|refine qw ?_ ?_|exact qq|exact qb (qh _)|exact qb (qL _)|exact qb (qp _)|exact qv (fun _=>rfl)|refine qy ?_|exact ql|apply qd|exact qk rfl|(apply qt;exact .inr (of_decide_eq_true rfl))|(apply qz;exact .inr (of_decide_eq_true rfl))|(apply qD;exact .inr (of_decide_eq_true rfl))|exact jc (qK fun _=>rfl))))<;>fail) ?_
 repeat' (first|refine qn ?_|(first|fail)|((first|refine qf ?_ ?_|refine qe ?_ ?_|refine xsC ?_ ?_);all_goals (intro hc;have hp:=hc;try simp at hp;try (exfalso;omega)))|refine qX ?_ ?_)
 all_goals try (exfalso;omega)
 all_goals ((apply jM (rs:=[]) [(2,2)] 3;(case hr=>(repeat (first|exact js|(apply jt;rfl)|(apply jl;rfl;rfl;rfl;rfl;rfl))));(case hL=>rfl);(case hh=>(repeat' (first|exact qj|refine jx ?_|refine yY ?_ ?_|refine zy ?_|refine q6 ?_ ?_|exact ql|apply qd|exact qk rfl|exact ju rfl|refine ju ?_|(apply yX;(first|exact qN rfl|exact .inr (List.mem_cons_self ..)|exact .inr (List.mem_cons_of_mem _ (List.mem_cons_self ..))|exact .inr (List.mem_cons_of_mem _ (List.mem_cons_of_mem _ (List.mem_cons_self ..)))|exact .inr (List.mem_cons_of_mem _ (List.mem_cons_of_mem _ (List.mem_cons_of_mem _ (List.mem_cons_self ..))))))));all_goals trace_state);(case hi=>exact rfl);(case hz=>first|rfl|(simp [yh,AV.ren,AV.ren.renL,jF,qS,jD];done))))
theorem qcf (O:List Ent) (p:qP) (k:Int) (x:qP) (hk:¬ 0 < k) :
  qZ C2.P 83 [.v (str p),.v (.int .i64 k),.v (str x),.op 0 0 0] [.own false 1 [[.os 1 0 O.length]],.own false 4 (O.map Ent.row)] (.tup []) [.own false 1 [[.os 1 0 O.length]],.own false 4 (O.map Ent.row)]:=by
 refine qc (C:=C2) Tryz.func83 rfl _ Tryz.ntmps83 (Nat.le_of_ble_eq_true rfl) _ Tryz.results83 2 rfl rfl ?_
 repeat' (first|refine qn ?_|(first|fail)|((first|refine qf ?_ ?_|refine qe ?_ ?_|refine xsC ?_ ?_);all_goals (intro hc;have hp:=hc;try simp at hp;try (exfalso;omega)))|refine qX ?_ ?_)
 all_goals try (exfalso;omega)
 all_goals ((apply jM (rs:=[]) [] 2;(case hr=>(repeat (first|exact js|(apply jt;rfl)|(apply jl;rfl;rfl;rfl;rfl;rfl))));(case hL=>rfl);(case hh=>(repeat' (first|exact qj|refine jx ?_|refine yY ?_ ?_|refine zy ?_|refine q6 ?_ ?_|exact ql|apply qd|exact qk rfl|exact ju rfl|refine ju ?_|(apply yX;(first|exact qN rfl|exact .inr (List.mem_cons_self ..)|exact .inr (List.mem_cons_of_mem _ (List.mem_cons_self ..))|exact .inr (List.mem_cons_of_mem _ (List.mem_cons_of_mem _ (List.mem_cons_self ..)))|exact .inr (List.mem_cons_of_mem _ (List.mem_cons_of_mem _ (List.mem_cons_of_mem _ (List.mem_cons_self ..))))))));all_goals trace_state);(case hi=>exact rfl);(case hz=>first|rfl|(simp [yh,AV.ren,AV.ren.renL,jF,qS,jD];done))))
end Go.Proofs.YtamejbkifpjhiaaGreatDoor
set_option linter.unusedSimpArgs false
set_option linter.unnecessarySimpa false
set_option linter.unusedVariables false
set_option maxHeartbeats 1000000
namespace Go.Proofs.YtamejbkifpjhiaaGreatDoor
open Go.Ab Go.RowKit
set_option maxRecDepth 10000
attribute [local irreducible] Awp yH jH jw Red ja Go.Ab.Fin qZ Rz vn jr jp ResOk j3 jC yC jA
def hA (O:List Ent) (cs:List Cpy):List HB:=[.own false 1 [[.os 1 0 O.length]],.own false 4 (O.map Ent.row),.own false 1 [[.clo (.func 83) [] [.op 0 0 0]]],.own false 1 [[.os 4 0 cs.length]],.own false 2 (cs.map Cpy.row)]
theorem Xi (t:List Ent) (q:qP):xj (atP q) t < 0 ↔ j0 t q = false:=by
 have h:=Xh (atP q) t
 unfold j0
 constructor
 ·intro h1
  rw [← h]
  exact decide_eq_false (by omega)
 ·intro h1
  rw [h1] at h
  have:=of_decide_eq_false h
  omega
theorem Vs {m t o:List Ent} {p:qP} {i:Nat} (h:i < 99):xX m t o p (99 - i) (i + 1) = if vC p ((i + 1:Nat):Int) = 0 then (if JQ m t o (yI p ((i + 1:Nat):Int)) = true then some (yI p ((i + 1:Nat):Int)) else xX m t o p (99 - (i + 1)) (i + 1 + 1)) else none:=by
 rw [show 99 - i = (99 - (i + 1)) + 1 from by omega]
 rfl
theorem qdJ (cs:List Cpy) (p q:qP):(cs.map Cpy.row).take cs.length ++ [[.v (str p),.v (str q)]] = (cs ++ [(⟨p,q⟩ : Cpy)]).map Cpy.row:=by
 rw [List.take_of_length_le (by simp),List.map_append];rfl
set_option maxHeartbeats 4000000 in
theorem JO (M T O:List Ent) (cs:List Cpy) (p x:qP) (lp:p.length ≤ 1000000000) (lM:M.length ≤ 60) (lT:T.length ≤ 60) (lO:O.length ≤ 400000) (h:xX M T O p 99 1 = none) :
  qZ CF5.P 84 [.v (str p),.v (str x),.fp [[qa M]] 0 0,.fp [[qa T]] 0 0,.op 0 0 0,.op 2 0 0,.op 3 0 0] (hA O cs) (.v (.bool false)) (hA O cs):=by
 refine qc (C:=CF5) Tryz.func84 rfl _ Tryz.ntmps84 (Nat.le_of_ble_eq_true rfl) _ Tryz.results84 5 rfl rfl ?_
 repeat' (first|refine qn ?_|(first|fail)|((first|refine qf ?_ ?_|refine qe ?_ ?_|refine xsC ?_ ?_);all_goals (intro hc;have hp:=hc;try simp at hp;try (exfalso;omega)))|refine qX ?_ ?_)
 all_goals try (exfalso;omega)
 (refine Awp.red (qB (τ:=⟨[(0,.v (str p)),(1,.v (str x)),(2,.fp [[qa M]] 0 0),(3,.fp [[qa T]] 0 0),(4,.op 0 0 0),(5,.op 2 0 0),(6,.op 3 0 0),(10,.v (.int .i64 ((0 + 1:Nat):Int)))],zQ 0 (hA O cs),5⟩) [] rfl ?gts2 ?ghs2) ?_;(case gts2=>(repeat (first|exact qg|refine qo ?_|refine yg ?_|refine xM ?_|refine zi ?_|refine xN ?_ ?_|refine qY ?_ ?_));all_goals trace_state);(case ghs2=>(repeat' (first|exact qj|refine jx ?_|refine yY ?_ ?_|refine zy ?_|refine q6 ?_ ?_|exact ql|apply qd|exact qk rfl|exact ju rfl|refine ju ?_|(apply yX;(first|exact qN rfl|exact .inr (List.mem_cons_self ..)|exact .inr (List.mem_cons_of_mem _ (List.mem_cons_self ..))|exact .inr (List.mem_cons_of_mem _ (List.mem_cons_of_mem _ (List.mem_cons_self ..)))|exact .inr (List.mem_cons_of_mem _ (List.mem_cons_of_mem _ (List.mem_cons_of_mem _ (List.mem_cons_self ..))))))));all_goals trace_state))
 refine qV (fun n σ => ∃ i:Nat,i ≤ 99 ∧ n = 99 - i ∧ xX M T O p (99 - i) (i + 1) = none ∧ σ = ⟨[(0,.v (str p)),(1,.v (str x)),(2,.fp [[qa M]] 0 0),(3,.fp [[qa T]] 0 0),(4,.op 0 0 0),(5,.op 2 0 0),(6,.op 3 0 0),(10,.v (.int .i64 ((i + 1:Nat):Int)))],zQ 0 (hA O cs),5⟩) 99 ⟨0,by omega,rfl,h,rfl⟩ ?_
 rintro n σ ⟨i,hi,rfl,hn,rfl⟩
 by_cases hlt:i < 99
 ·rw [Vs hlt] at hn
  have h1:=Zu p (i + 1) (by omega) lp
  have h2:=yl M (yI p ((i + 1:Nat):Int)) (by omega)
  have h3:=yl T (yI p ((i + 1:Nat):Int)) (by omega)
  have h4:=yl O (yI p ((i + 1:Nat):Int)) (by omega)
  have i2:=Xi M (yI p ((i + 1:Nat):Int))
  have i3:=Xi T (yI p ((i + 1:Nat):Int))
  have i4:=Xi O (yI p ((i + 1:Nat):Int))
  unfold JQ at hn
  generalize vC p ((i + 1:Nat):Int) = E at *
  generalize yI p ((i + 1:Nat):Int) = Q at *
  generalize xj (atP Q) M = kM at *
  generalize xj (atP Q) T = kT at *
  generalize xj (atP Q) O = kO at *
  generalize j0 M Q = bM at *
  generalize j0 T Q = bT at *
  generalize j0 O Q = bO at *
  by_cases hE:E = 0
  ·subst hE
   rw [show JK 0 Q = Q from rfl] at h1
   rw [if_pos rfl] at hn
   generalize hAn:xX M T O p (99 - (i + 1)) (i + 1 + 1) = An at hn
   have hnf:(0 ≤ kM ∨ 0 ≤ kT ∨ 0 ≤ kO) ∧ An = none:=by
    cases bM<;>cases bT<;>cases bO<;>simp at hn i2 i3 i4<;>exact ⟨by omega,hn⟩
   obtain ⟨hnf,hn⟩:=hnf
   have hn:=hAn.trans hn
   clear i2 i3 i4
   repeat' (first|refine qn ?_|(first|refine j1 Tryz.func85 (h1 ..) ?_|refine jv Tryz.func75 (h2 ..) ?_|refine jv Tryz.func75 (h3 ..) ?_|(apply qi;apply j9 ([1]);exact jW Tryz.func75 rfl rfl;apply h4;(case hz=>(repeat' (first|exact q5|apply qA|exact q4 rfl|exact yE|(apply jU;(case hn=>rfl);(case hl=>first|with_reducible rfl|(simp;done)|(simp [*];done)|omega);(case hp=>(first|assumption|exact jZ rfl|exact qK fun _=>rfl)))|apply jX|apply jO)));(case hfl=>rfl);(case hN=>exact nle rfl)))|((first|refine qf ?_ ?_|refine qe ?_ ?_|refine xsC ?_ ?_);all_goals (intro hc;have hp:=hc;try simp at hp;try (exfalso;omega)))|refine qX ?_ ?_)
   all_goals try (exfalso;first|omega|contradiction)
   all_goals (refine ⟨99 - (i + 1),⟨[(0,.v (str p)),(1,.v (str x)),(2,.fp [[qa M]] 0 0),(3,.fp [[qa T]] 0 0),(4,.op 0 0 0),(5,.op 2 0 0),(6,.op 3 0 0),(10,.v (.int .i64 ((i + 1 + 1:Nat):Int)))],zQ 0 (hA O cs),5⟩,by omega,?_,i + 1,by omega,rfl,hn,rfl⟩;refine qB [] rfl ?gts ?ghs;(case gts=>(repeat (first|exact qg|refine qo ?_|refine yg ?_|refine xM ?_|refine zi ?_|refine xN ?_ ?_|refine qY ?_ ?_));all_goals trace_state);(case ghs=>(repeat' (first|exact qj|refine jx ?_|refine yY ?_ ?_|refine zy ?_|refine q6 ?_ ?_|exact ql|apply qd|exact qk rfl|exact ju rfl|refine ju ?_|(apply yX;(first|exact qN rfl|exact .inr (List.mem_cons_self ..)|exact .inr (List.mem_cons_of_mem _ (List.mem_cons_self ..))|exact .inr (List.mem_cons_of_mem _ (List.mem_cons_of_mem _ (List.mem_cons_self ..)))|exact .inr (List.mem_cons_of_mem _ (List.mem_cons_of_mem _ (List.mem_cons_of_mem _ (List.mem_cons_self ..))))))));all_goals trace_state))
  ·repeat' (first|refine qn ?_|(first|refine j1 Tryz.func85 (h1 ..) ?_)|((first|refine qf ?_ ?_|refine qe ?_ ?_|refine xsC ?_ ?_);all_goals (intro hc;have hp:=hc;try simp at hp;try (exfalso;omega)))|refine qX ?_ ?_)
   all_goals try (exfalso;first|omega|contradiction)
   all_goals ((apply jM (rs:=[.tmp 9]) [] 5;(case hr=>(repeat (first|exact js|(apply jt;rfl)|(apply jl;rfl;rfl;rfl;rfl;rfl))));(case hL=>rfl);(case hh=>(repeat' (first|exact qj|refine jx ?_|refine yY ?_ ?_|refine zy ?_|refine q6 ?_ ?_|exact ql|apply qd|exact qk rfl|exact ju rfl|refine ju ?_|(apply yX;(first|exact qN rfl|exact .inr (List.mem_cons_self ..)|exact .inr (List.mem_cons_of_mem _ (List.mem_cons_self ..))|exact .inr (List.mem_cons_of_mem _ (List.mem_cons_of_mem _ (List.mem_cons_self ..)))|exact .inr (List.mem_cons_of_mem _ (List.mem_cons_of_mem _ (List.mem_cons_of_mem _ (List.mem_cons_self ..))))))));all_goals trace_state);(case hi=>exact rfl);(case hz=>first|rfl|(simp [yh,AV.ren,AV.ren.renL,jF,qS,jD];done))))
 ·obtain rfl:i = 99:=by omega
  repeat' (first|refine qn ?_|(first|fail)|((first|refine qf ?_ ?_|refine qe ?_ ?_|refine xsC ?_ ?_);all_goals (intro hc;have hp:=hc;try simp at hp;try (exfalso;omega)))|refine qX ?_ ?_)
  all_goals try (exfalso;omega)
  all_goals ((apply jM (rs:=[.tmp 9]) [] 5;(case hr=>(repeat (first|exact js|(apply jt;rfl)|(apply jl;rfl;rfl;rfl;rfl;rfl))));(case hL=>rfl);(case hh=>(repeat' (first|exact qj|refine jx ?_|refine yY ?_ ?_|refine zy ?_|refine q6 ?_ ?_|exact ql|apply qd|exact qk rfl|exact ju rfl|refine ju ?_|(apply yX;(first|exact qN rfl|exact .inr (List.mem_cons_self ..)|exact .inr (List.mem_cons_of_mem _ (List.mem_cons_self ..))|exact .inr (List.mem_cons_of_mem _ (List.mem_cons_of_mem _ (List.mem_cons_self ..)))|exact .inr (List.mem_cons_of_mem _ (List.mem_cons_of_mem _ (List.mem_cons_of_mem _ (List.mem_cons_self ..))))))));all_goals trace_state);(case hi=>exact rfl);(case hz=>first|rfl|(simp [yh,AV.ren,AV.ren.renL,jF,qS,jD];done))))
set_option maxHeartbeats 4000000 in
theorem QY (M T O:List Ent) (cs:List Cpy) (p x q:qP) (lp:p.length ≤ 1000000000) (lM:M.length ≤ 60) (lT:T.length ≤ 60) (lO:O.length ≤ 400000) (hO:qU jf O = true) (lc:cs.length ≤ 1000000) (h:xX M T O p 99 1 = some q) (N:List Ent) (hN:jR O ⟨q,false,x,1⟩ = N) :
  qZ CF5.P 84 [.v (str p),.v (str x),.fp [[qa M]] 0 0,.fp [[qa T]] 0 0,.op 0 0 0,.op 2 0 0,.op 3 0 0] (hA O cs) (.v (.bool true)) [.own false 1 [[.os 5 0 N.length]],.dead,.own false 1 [[.clo (.func 83) [] [.op 0 0 0]]],.own false 1 [[.os 6 0 (cs ++ [(⟨p,q⟩ : Cpy)]).length]],.dead,.own false 4 (N.map Ent.row),.own false 2 ((cs ++ [(⟨p,q⟩ : Cpy)]).map Cpy.row)]:=by
 refine qc (C:=CF5) Tryz.func84 rfl _ Tryz.ntmps84 (Nat.le_of_ble_eq_true rfl) _ Tryz.results84 5 rfl rfl ?_
 repeat' (first|refine qn ?_|(first|fail)|((first|refine qf ?_ ?_|refine qe ?_ ?_|refine xsC ?_ ?_);all_goals (intro hc;have hp:=hc;try simp at hp;try (exfalso;omega)))|refine qX ?_ ?_)
 all_goals try (exfalso;omega)
 (refine Awp.red (qB (τ:=⟨[(0,.v (str p)),(1,.v (str x)),(2,.fp [[qa M]] 0 0),(3,.fp [[qa T]] 0 0),(4,.op 0 0 0),(5,.op 2 0 0),(6,.op 3 0 0),(10,.v (.int .i64 ((0 + 1:Nat):Int)))],zQ 0 (hA O cs),5⟩) [] rfl ?gts2 ?ghs2) ?_;(case gts2=>(repeat (first|exact qg|refine qo ?_|refine yg ?_|refine xM ?_|refine zi ?_|refine xN ?_ ?_|refine qY ?_ ?_));all_goals trace_state);(case ghs2=>(repeat' (first|exact qj|refine jx ?_|refine yY ?_ ?_|refine zy ?_|refine q6 ?_ ?_|exact ql|apply qd|exact qk rfl|exact ju rfl|refine ju ?_|(apply yX;(first|exact qN rfl|exact .inr (List.mem_cons_self ..)|exact .inr (List.mem_cons_of_mem _ (List.mem_cons_self ..))|exact .inr (List.mem_cons_of_mem _ (List.mem_cons_of_mem _ (List.mem_cons_self ..)))|exact .inr (List.mem_cons_of_mem _ (List.mem_cons_of_mem _ (List.mem_cons_of_mem _ (List.mem_cons_self ..))))))));all_goals trace_state))
 refine qV (fun n σ => ∃ i:Nat,i ≤ 99 ∧ n = 99 - i ∧ xX M T O p (99 - i) (i + 1) = some q ∧ σ = ⟨[(0,.v (str p)),(1,.v (str x)),(2,.fp [[qa M]] 0 0),(3,.fp [[qa T]] 0 0),(4,.op 0 0 0),(5,.op 2 0 0),(6,.op 3 0 0),(10,.v (.int .i64 ((i + 1:Nat):Int)))],zQ 0 (hA O cs),5⟩) 99 ⟨0,by omega,rfl,h,rfl⟩ ?_
 rintro n σ ⟨i,hi,rfl,hn,rfl⟩
 by_cases hlt:i < 99
 ·rw [Vs hlt] at hn
  have h1:=Zu p (i + 1) (by omega) lp
  have h2:=yl M (yI p ((i + 1:Nat):Int)) (by omega)
  have h3:=yl T (yI p ((i + 1:Nat):Int)) (by omega)
  have h4:=yl O (yI p ((i + 1:Nat):Int)) (by omega)
  have i2:=Xi M (yI p ((i + 1:Nat):Int))
  have i3:=Xi T (yI p ((i + 1:Nat):Int))
  have i4:=Xi O (yI p ((i + 1:Nat):Int))
  unfold JQ at hn
  generalize vC p ((i + 1:Nat):Int) = E at *
  generalize yI p ((i + 1:Nat):Int) = Q at *
  generalize xj (atP Q) M = kM at *
  generalize xj (atP Q) T = kT at *
  generalize xj (atP Q) O = kO at *
  generalize j0 M Q = bM at *
  generalize j0 T Q = bT at *
  generalize j0 O Q = bO at *
  by_cases hE:E = 0
  case neg=>rw [if_neg hE] at hn;cases hn
  subst hE
  rw [show JK 0 Q = Q from rfl] at h1
  rw [if_pos rfl] at hn
  generalize hAn:xX M T O p (99 - (i + 1)) (i + 1 + 1) = An at hn
  by_cases hf:bM = false ∧ bT = false ∧ bO = false
  ·obtain ⟨rfl,rfl,rfl⟩:=hf
   have hq:Q = q:=by simpa using hn
   subst hq
   have kM0:=i2.2 rfl
   have kT0:=i3.2 rfl
   have kO0:=i4.2 rfl
   have hput:=Vo O N Q 2 x (by decide) hO lO hN
   clear hn i2 i3 i4 h
   repeat' (first|refine qn ?_|(first|refine j1 Tryz.func85 (h1 ..) ?_|refine jv Tryz.func75 (h2 ..) ?_|refine jv Tryz.func75 (h3 ..) ?_|(apply qi;apply j9 ([1]);exact jW Tryz.func75 rfl rfl;apply h4;(case hz=>(repeat' (first|exact q5|apply qA|exact q4 rfl|exact yE|(apply jU;(case hn=>rfl);(case hl=>first|with_reducible rfl|(simp;done)|(simp [*];done)|omega);(case hp=>(first|assumption|exact jZ rfl|exact qK fun _=>rfl)))|apply jX|apply jO)));(case hfl=>rfl);(case hN=>exact nle rfl)))|((first|refine qf ?_ ?_|refine qe ?_ ?_|refine xsC ?_ ?_);all_goals (intro hc;have hp:=hc;try simp at hp;try (exfalso;omega)))|refine qX ?_ ?_)
   all_goals try (exfalso;first|omega|contradiction)
   refine xd (C:=CF5) (first:=[]) (cap:=[.op 0 0 0]) [0,1] [5] [(0,.own false 1 [[.os 5 0 N.length]]),(1,.dead),(5,.own false 4 (N.map Ent.row))] 6 (.tup []) Tryz.func83 (hput) (by ((repeat' (first|exact q9|apply qR|exact q8 rfl|exact jy|(apply qm;apply qD;exact .inr (of_decide_eq_true rfl))|(apply qm;apply qt;exact .inr (of_decide_eq_true rfl))|(apply qm;apply qz;exact .inr (of_decide_eq_true rfl))|apply jd|apply je)))<;>fail) (by ((repeat' (first|exact qG|exact qF|refine qx _ ?_ ?_|refine qw ?_ ?_|exact qq|exact qb (qh _)|exact qb (qL _)|exact qb (qp _)|exact qv (fun _=>rfl)|refine qy ?_|exact ql|apply qd|exact qk rfl|(apply qt;exact .inr (of_decide_eq_true rfl))|(apply qz;exact .inr (of_decide_eq_true rfl))|(apply qD;exact .inr (of_decide_eq_true rfl))|exact jc (qK fun _=>rfl))))<;>fail) (by ((repeat' (first|exact qG|exact qF|refine qx _ ?_ ?_|refine qw ?_ ?_|exact qq|exact qb (qh _)|exact qb (qL _)|exact qb (qp _)|exact qv (fun _=>rfl)|refine qy ?_|exact ql|apply qd|exact qk rfl|(apply qt;exact .inr (of_decide_eq_true rfl))|(apply qz;exact .inr (of_decide_eq_true rfl))|(apply qD;exact .inr (of_decide_eq_true rfl))|exact jc (qK fun _=>rfl))))<;>fail) ?_
   repeat' (first|refine qn ?_|(first|(refine jL ?_)|(refine yi ?_))|((first|refine qf ?_ ?_|refine qe ?_ ?_|refine xsC ?_ ?_);all_goals (intro hc;have hp:=hc;try simp at hp;try (exfalso;omega)))|refine qX ?_ ?_)
   all_goals try (exfalso;first|omega|contradiction)
   all_goals ((apply jM (rs:=[.tmp 9]) [(5,5),(6,6)] 7;(case hr=>(repeat (first|exact js|(apply jt;rfl)|(apply jl;rfl;rfl;rfl;rfl;rfl))));(case hL=>rfl);(case hh=>(repeat' (first|exact qj|refine jx ?_|refine yY ?_ ?_|refine zy ?_|refine q6 ?_ ?_|exact ql|apply qd|exact qk rfl|exact ju rfl|refine ju ?_|(apply yX;(first|exact qN rfl|exact .inr (List.mem_cons_self ..)|exact .inr (List.mem_cons_of_mem _ (List.mem_cons_self ..))|exact .inr (List.mem_cons_of_mem _ (List.mem_cons_of_mem _ (List.mem_cons_self ..)))|exact .inr (List.mem_cons_of_mem _ (List.mem_cons_of_mem _ (List.mem_cons_of_mem _ (List.mem_cons_self ..))))))));all_goals first|exact qdJ _ _ _|(simp;done)|trace_state);(case hi=>exact rfl);(case hz=>first|rfl|(simp [yh,AV.ren,AV.ren.renL,jF,qS,jD];done))))
  ·have hn2:(0 ≤ kM ∨ 0 ≤ kT ∨ 0 ≤ kO) ∧ An = some q:=by
    cases bM<;>cases bT<;>cases bO<;>simp at hn i2 i3 i4 hf<;>exact ⟨by omega,hn⟩
   obtain ⟨hnf,hn⟩:=hn2
   have hn:=hAn.trans hn
   clear i2 i3 i4
   repeat' (first|refine qn ?_|(first|refine j1 Tryz.func85 (h1 ..) ?_|refine jv Tryz.func75 (h2 ..) ?_|refine jv Tryz.func75 (h3 ..) ?_|(apply qi;apply j9 ([1]);exact jW Tryz.func75 rfl rfl;apply h4;(case hz=>(repeat' (first|exact q5|apply qA|exact q4 rfl|exact yE|(apply jU;(case hn=>rfl);(case hl=>first|with_reducible rfl|(simp;done)|(simp [*];done)|omega);(case hp=>(first|assumption|exact jZ rfl|exact qK fun _=>rfl)))|apply jX|apply jO)));(case hfl=>rfl);(case hN=>exact nle rfl)))|((first|refine qf ?_ ?_|refine qe ?_ ?_|refine xsC ?_ ?_);all_goals (intro hc;have hp:=hc;try simp at hp;try (exfalso;omega)))|refine qX ?_ ?_)
   all_goals try (exfalso;first|omega|contradiction)
   all_goals (refine ⟨99 - (i + 1),⟨[(0,.v (str p)),(1,.v (str x)),(2,.fp [[qa M]] 0 0),(3,.fp [[qa T]] 0 0),(4,.op 0 0 0),(5,.op 2 0 0),(6,.op 3 0 0),(10,.v (.int .i64 ((i + 1 + 1:Nat):Int)))],zQ 0 (hA O cs),5⟩,by omega,?_,i + 1,by omega,rfl,hn,rfl⟩;refine qB [] rfl ?gts ?ghs;(case gts=>(repeat (first|exact qg|refine qo ?_|refine yg ?_|refine xM ?_|refine zi ?_|refine xN ?_ ?_|refine qY ?_ ?_));all_goals trace_state);(case ghs=>(repeat' (first|exact qj|refine jx ?_|refine yY ?_ ?_|refine zy ?_|refine q6 ?_ ?_|exact ql|apply qd|exact qk rfl|exact ju rfl|refine ju ?_|(apply yX;(first|exact qN rfl|exact .inr (List.mem_cons_self ..)|exact .inr (List.mem_cons_of_mem _ (List.mem_cons_self ..))|exact .inr (List.mem_cons_of_mem _ (List.mem_cons_of_mem _ (List.mem_cons_self ..)))|exact .inr (List.mem_cons_of_mem _ (List.mem_cons_of_mem _ (List.mem_cons_of_mem _ (List.mem_cons_self ..))))))));all_goals trace_state))
 ·obtain rfl:i = 99:=by omega
  exact absurd hn (by unfold xX;simp)
end Go.Proofs.YtamejbkifpjhiaaGreatDoor
