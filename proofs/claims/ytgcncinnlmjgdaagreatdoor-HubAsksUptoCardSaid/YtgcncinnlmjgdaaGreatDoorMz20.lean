import Derived.Test.YtgcncinnlmjgdaaGreatDoorMz19
import Derived.Test.YtgcncinnlmjgdaaGreatDoorMz3
set_option linter.unusedSimpArgs false
set_option linter.unnecessarySimpa false
set_option linter.unusedVariables false
namespace Go.Proofs.YtgcncinnlmjgdaaGreatDoor
open Go.Op
def yn (e:Int):Prop:=0 ≤ e ∧ e ≤ 20
theorem Qg:yn 0:=⟨by decide,by decide⟩
theorem qkK {e:Int} (h:yn e):zV e:=⟨by have:=h.1;omega,by have:=h.2;omega⟩
theorem yU:zV 0:=⟨by decide,by decide⟩
theorem qa2 {e n:Int} (he:zV e) (h:zV n):XH ⟨e,n,ze⟩:=⟨he,h,⟨Nat.zero_le _,fun x hx=>by cases hx⟩,⟨Nat.zero_le _,fun x hx=>by cases hx⟩,yU⟩
theorem zW {e:Int} (h:yn e):XH (QW e):=qa2 (qkK h) yU
theorem qh0:XH noAns:=qa2 yU yU
theorem qf9 (p:qb):yn (qA p):=by unfold qA yn;(repeat' split)<;>omega
theorem qkX (t:List Ent) (q:qb):yn (yX t q):=by unfold yX yn;(repeat' split)<;>omega
theorem qix (c:Chg):yn (wU c):=by unfold wU yn;(repeat' split)<;>omega
theorem qki (c:Chg):yn (xz c):=by
 have h1:=qf9 c.path;have h2:=qf9 c.to;have h3:=qix c;unfold xz
 repeat' split
 all_goals first|assumption|(unfold yn;omega)
theorem qmR (t:List Ent) (c:Chg):yn (QE t c):=by unfold QE yn;(repeat' split)<;>omega
theorem qm2 (t:List Ent) (c:Chg):yn (YI t c):=by unfold YI yn;(repeat' split)<;>omega
theorem qlc (t:List Ent) (c:Chg):yn (zv t c):=by
 have h1:=qkX t (qM (xB c));have h2:=qmR t c;have h3:=qm2 t c;unfold zv JF
 repeat' split
 all_goals first|assumption|(unfold yn;omega)
theorem qmB (t:List Ent) (c:Chg) (v:Int):yn (xG t c v):=by unfold xG yn;(repeat' split)<;>omega
theorem qoz (t:List Ent) (c:Chg) (v:Int):yn (Qb t c v):=by
 have h1:=qki c;have h2:=qlc t c;have h3:=qmB t c v;unfold Qb
 repeat' split
 all_goals assumption
theorem qj4 (v:Int) : ∀ (l:List Chg) (t:List Ent) (n:Nat),yn (Vl v t l n).2.2
 | [],t,n=>Qg
 | c :: l,t,n=>by
   unfold Vl;split
   ·exact qj4 v l _ _
   ·exact qoz t c v
theorem WK {α:Type} {f:α → Int} (h : ∀ x,yn (f x)) : ∀ l:List α,yn (jp f l)
 | []=>Qg
 | x :: l=>by
   unfold jp;split
   ·exact WK h l
   ·exact h x
theorem qkC (e:Ent):yn (xA e):=by
 have h1:=qf9 e.path;unfold xA
 repeat' split
 all_goals first|assumption|(unfold yn;omega)
theorem qjs (t:List Ent):yn (jv t):=by
 have h1:=WK qkC t;unfold jv
 repeat' split
 all_goals first|assumption|(unfold yn;omega)
theorem qn9 (v:Int) (t:List Ent) (l:List Chg):yn (ve v t l).2.2:=by
 have h1:=qjs t;have h2:=qj4 v l t 0;unfold ve
 repeat' split
 all_goals first|assumption|(unfold yn;dsimp only;omega)
theorem qae {p:qb} (h:qA p = 0):p.length ≤ 80:=by
 unfold qA at h
 repeat' (split at h)
 ·omega
 ·rename_i _ h2;rw [QS] at h2;simp at h2;omega
 ·omega
theorem qpk {c:Chg} (h:xz c = 0):qiv c:=by
 obtain ⟨h1,h2,h3,h4,h5⟩:=zz h;have l1:=qae h3;unfold wU at h5
 repeat' (split at h5)
 ·omega
 ·omega
 ·omega
 ·rename_i g1 g2 g3;simp only [not_or,not_and,Decidable.not_not] at g1 g3;refine ⟨⟨by omega,by omega⟩,?_,?_,?_,⟨by omega,by omega⟩⟩
  ·show c.path.length ≤ 1000;omega
  ·show c.to.length ≤ 1000;by_cases hk:c.kind = 3
   ·have:=qae (h4 hk);omega
   ·rw [g1.1 hk];decide
  ·show c.text.length ≤ 1000;omega
theorem qng {t:List Ent} {c:Chg} {v:Int} (h:Qb t c v = 0):xz c = 0:=by
 unfold Qb at h;split at h
 ·rename_i h1;exact absurd h h1
 ·rename_i h1;exact Decidable.not_not.1 h1
theorem qa8 (v:Int) : ∀ (l:List Chg) (t:List Ent) (n:Nat),(Vl v t l n).2.2 = 0 → ∀ c,c ∈ l → xz c = 0
 | [],t,n,_,c,hc=>by cases hc
 | x :: l,t,n,h,c,hc=>by
   unfold Vl at h;split at h
   ·rename_i hr;rcases List.mem_cons.1 hc with rfl|hc
    ·exact qng hr
    ·exact qa8 v l _ _ h c hc
   ·rename_i hr;exact absurd h hr
theorem qim {v:Int} {t:List Ent} {l:List Chg} (h:(ve v t l).2.2 = 0):l.length ≤ 20 ∧ ∀ c,c ∈ l → xz c = 0:=by
 unfold ve at h
 repeat' (split at h)
 ·rename_i h1;exact absurd h h1
 ·exact absurd h (by decide)
 ·exact absurd h (by decide)
 ·rename_i h1 h2 h3;exact ⟨by omega,qa8 v l t 0 h⟩
theorem qpm {e:Ent} (h:xA e = 0):qfu e:=by
 unfold xA at h;split at h
 ·rename_i hp;have:=qae hp
  repeat' (split at h)
  ·omega
  ·omega
  ·rename_i g1 g2 g3;unfold wN at g3;simp only [Bool.and_eq_true,decide_eq_true_eq] at g3;exact ⟨by show _ ≤ 1000;omega,by show _ ≤ 1000;omega,by omega,by omega⟩
  ·omega
 ·rename_i hp;exact absurd h hp
theorem qpM {t:List Ent} (h:Right t):XX qfu 60 t:=⟨h.len,fun x hx=>qpm (h.ent x hx)⟩
theorem qmU {k:qb} (h:kh k = true):k.length ≤ 20:=by
 unfold kh at h;simp only [Bool.and_eq_true,decide_eq_true_eq] at h;exact h.1.2
theorem qpl {n:Int} {c:Com} {t:List Ent} (hn:1 ≤ n) (h:zY n c = 0) (ha:(ve c.num t c.chs).2.2 = 0):qb9 c:=by
 unfold zY at h
 repeat' (split at h)
 ·omega
 ·omega
 ·omega
 ·rename_i g1 g2 g3
  have hk:kh c.key = true:=by
   cases hk:kh c.key with
   | true=>rfl
   | false=>exact absurd (.inl hk) g3
  have h2:=qmU hk;have h3:=qim ha;exact ⟨⟨by omega,by omega⟩,by show _ ≤ 1000;omega,h3.1,fun x hx=>qpk (h3.2 x hx)⟩
theorem Wz : ∀ {l:List Com} {n:Int} {t:List Ent},1 ≤ n → (yB n t l).2 = 0 → ∀ c,c ∈ l → qb9 c
 | [],n,t,_,_,c,hc=>by cases hc
 | x :: l,n,t,hn,h,c,hc=>by
   unfold yB at h
   repeat' (split at h)
   ·rename_i h1;exact absurd h h1
   ·rename_i h1;exact absurd h h1
   ·rename_i h1 h2;rcases List.mem_cons.1 hc with rfl|hc
    ·exact qpl hn (Decidable.not_not.1 h1) (Decidable.not_not.1 h2)
    ·exact Wz (by omega) h c hc
theorem qky {j:Jou} (h:JRight j) : ∀ c,c ∈ j.coms → qb9 c:=Wz h.lo h.run
theorem qox {j:Jou} (h:JRight j) (cursor:Int):XX qb9 10 (V5 j cursor 10):=by
 unfold V5;refine ⟨by rw [List.length_take];exact Nat.min_le_left _ _,fun c hc=>qky h c (List.mem_of_mem_drop (List.mem_of_mem_take hc))⟩
theorem qk9 {j:Jou} (h:JRight j):0 ≤ xp j ∧ xp j ≤ 1000030:=by
 have h1:=h.lo;have h2:=h.hi;have h3:=h.len;unfold xp;omega
theorem qoA {j:Jou} (h:JRight j) (cursor:Int):yn (Jw j cursor 10).2 ∧ XH ⟨0,0,(Jw j cursor 10).1⟩:=by
 obtain ⟨l1,l2⟩:=qk9 h;unfold Jw
 repeat' split
 ·exact ⟨by unfold yn;dsimp only;omega,qh0⟩
 ·exact ⟨by unfold yn;dsimp only;omega,qh0⟩
 ·exact ⟨by unfold yn;dsimp only;omega,yU,yU,qpM h.now,⟨Nat.zero_le _,fun x hx=>by cases hx⟩,by dsimp only;exact ⟨by omega,by omega⟩⟩
 ·rename_i g1 g2 g3;have hp:=qox h cursor;have hl:=hp.1;exact ⟨by unfold yn;dsimp only;omega,yU,yU,⟨Nat.zero_le _,fun x hx=>by cases hx⟩,hp,by dsimp only;exact ⟨by omega,by omega⟩⟩
theorem qkx {j:Jou} (h:JRight j) (key:qb) (l:List Chg):yn (xF j key l).2.2 ∧ zV (xF j key l).2.1:=by
 have hl:=qk9 h;unfold xF
 repeat' split
 ·exact ⟨by unfold yn;dsimp only;omega,yU⟩
 ·rename_i c hc;exact ⟨by unfold yn;dsimp only;omega,(qky h c (List.mem_of_find?_eq_some hc)).1⟩
 ·exact ⟨by unfold yn;dsimp only;omega,yU⟩
 ·exact ⟨by unfold yn;dsimp only;omega,yU⟩
 ·exact ⟨qn9 _ _ _,yU⟩
 ·rename_i g1 g2 g3;have:jV j = xp j + 1:=rfl;exact ⟨by unfold yn;dsimp only;omega,by dsimp only;exact ⟨by omega,by omega⟩⟩
theorem qdv {h:Hub} (hr:HRight h):qQ h.ups h.now = 0:=by
 unfold qQ;rw [if_pos hr.ups,if_pos hr.now]
theorem qcw {h:Hub} (hr:HRight h) (who:qb) (number:Int):yn (jM h.ups who number h.now):=by
 unfold jM;rw [if_pos (qdv hr)];unfold yn
 repeat' split
 all_goals omega
theorem qhU {u:Upl} (h:yu u = 0):(1 ≤ u.next ∧ u.next ≤ 1099511627776) ∧ ∀ s,s ∈ u.sess → s.size ≤ 300 ∧ (s.text.length:Int) ≤ s.size:=by
 unfold yu at h
 repeat' (split at h)
 all_goals first
  | (exfalso;omega)
  | skip
 ·rename_i g1 g2 g3 g4 g5;refine ⟨?_,fun s hs=>?_⟩
  ·unfold wL at g1;simp only [Bool.and_eq_true] at g1;exact zy.1 g1.2
  ·have:=jA.1 g3 s hs;unfold yj at this
   repeat' (split at this)
   all_goals first
    | (exfalso;omega)
    | skip
   rename_i k1 k2 k3;simp only [Bool.and_eq_true] at k1;have:=zy.1 k1.1.2;omega
 all_goals (rename_i g;exact absurd h g)
theorem qbs {h:Hub} (hr:HRight h) {who:qb} {number:Int} (hm:jM h.ups who number h.now = 0):(zd h.ups who number h.now).size ≤ 300 ∧ ((zd h.ups who number h.now).text.length:Int) ≤ (zd h.ups who number h.now).size:=by
 obtain ⟨_,_,_,h4,_⟩:=QH hm;have h1:=List.mem_of_getElem? h4;unfold qt at h1;exact (qhU hr.ups).2 _ (List.mem_filter.1 h1).1
theorem qhg {h:Hub} (hr:HRight h) (r:Rqt) (u:Upl) (l:List Chg):XH (Zy h r u l).2:=by
 unfold Zy;split
 ·exact qh0
 ·rename_i j hj;have hJ:=(hr.each _ (QF hj).1).2;have:=qkx hJ r.key l;split
  ·exact qa2 yU this.2
  ·exact zW this.1
theorem qpp {h:Hub} (hr:HRight h) (f b w:qb) (r:Int):yn (jl h.gras f b w r):=by
 unfold jl;rw [if_pos hr.gra];unfold yn
 repeat' split
 all_goals omega
theorem qoj (L:List Gra) (f:qb):yn (yh L f):=by
 unfold yh yn
 repeat' split
 all_goals omega
theorem qop {h:Hub} (hr:HRight h) (f w:qb):yn (jG h.gras f w):=by
 unfold jG;rw [if_pos hr.gra];unfold yn
 repeat' split
 all_goals omega
theorem qot {h:Hub} (hr:HRight h) (who:qb) (size:Int):yn (yi h.ups who size h.now):=by
 unfold yi;rw [if_pos (qdv hr)];unfold yn
 repeat' split
 all_goals omega
theorem qph (s:Sess) (offset:Int) (text:qb):yn (Jg s offset text):=by
 unfold Jg yn
 repeat' split
 all_goals omega
theorem qka {s:Sess} {offset till:Int} {text:qb} (h:Jg s offset text = 0) (h1:s.size ≤ 300) (h2:(s.text.length:Int) ≤ s.size):((Xs s offset text till).text.length:Int) ≤ 300:=by
 unfold Jg at h;unfold Xs
 repeat' (split at h)
 all_goals first
  | (exfalso;omega)
  | skip
 ·rename_i g;rw [if_pos g];omega
 ·rename_i g1 g2 g3;rw [if_neg g1];simp only [List.length_append];omega
theorem qhV {h:Hub} {x:Upl × Int × Int} (he:yn x.2.2) (hn:x.2.2 = 0 → zV x.2.1):XH (Zo h x).2:=by
 unfold Zo;split
 ·rename_i h0;exact qa2 yU (hn h0)
 ·exact zW he
theorem qam {h:Hub} (hr:HRight h) (r:Rqt):XH (y8 h r).2:=by
 unfold y8
 repeat' split
 ·exact zW (by unfold yn;omega)
 ·exact zW (by unfold yn;omega)
 ·unfold Q1
  repeat' split
  ·exact zW (by unfold yn;omega)
  ·exact qh0
  ·exact zW (qop hr _ _)
 ·unfold Ko
  repeat' split
  ·exact zW (by unfold yn;omega)
  ·exact qh0
  ·unfold zE;split
   ·exact zW (qoj _ _)
   ·exact zW (qpp hr _ _ _ _)
 ·unfold Kv;split
  ·exact zW (by unfold yn;omega)
  ·split
   ·exact qh0
   ·rename_i j hj;have hJ:=(hr.each _ (QF hj).1).2;have:=qoA hJ r.number;split
    ·exact this.2
    ·exact zW this.1
 ·refine qhV ?_ ?_
  ·unfold Ju;split
   ·exact Qg
   ·exact qot hr _ _
  ·unfold Ju;split
   ·intro _;have:=(qhU hr.ups).1;exact ⟨by dsimp only;omega,by dsimp only;omega⟩
   ·rename_i g;intro h0;exact absurd h0 g
 ·refine qhV ?_ ?_
  ·unfold Jh qj9
   repeat' split
   ·exact Qg
   ·exact qph _ _ _
   ·exact qcw hr _ _
  ·unfold Jh qj9
   repeat' split
   ·rename_i g1 g2;intro _;have hm:=qbs hr g1;have:=qka (till:=h.now + h.ups.lasts) g2 hm.1 hm.2;exact ⟨by dsimp only;omega,by dsimp only;omega⟩
   ·rename_i g;intro h0;exact absurd h0 g
   ·rename_i g;intro h0;exact absurd h0 g
 ·unfold qgd qag;split
  ·rename_i g1;split
   ·have hm:=qbs hr g1;exact qa2 yU ⟨by dsimp only;omega,by dsimp only;omega⟩
   ·exact zW Qg
  ·first
   | exact zW (qcw hr _ _)
   | (split
      ·exact qa2 yU yU
      ·exact zW (qcw hr _ _))
 ·unfold WC;split
  ·exact zW (by unfold yn;omega)
  ·split
   ·unfold qfA;split
    ·exact qhg hr _ _ _
    ·unfold ke
     repeat' split
     ·exact zW (by unfold yn;dsimp only;omega)
     ·exact zW Qg
     ·exact zW (qcw hr _ _)
   ·exact qhg hr _ _ _
end Go.Proofs.YtgcncinnlmjgdaaGreatDoor
