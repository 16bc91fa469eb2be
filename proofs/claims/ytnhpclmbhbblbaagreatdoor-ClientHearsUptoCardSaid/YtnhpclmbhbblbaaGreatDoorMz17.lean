import Derived.Test.YtnhpclmbhbblbaaGreatDoorMz9
import Derived.Test.YtnhpclmbhbblbaaGreatDoorMz6
import Derived.Shelf.Strings.FuncGrows
import Derived.Test.YtnhpclmbhbblbaaGreatDoorMz12
import Derived.Test.YtnhpclmbhbblbaaGreatDoorMz14
import Derived.Test.YtnhpclmbhbblbaaGreatDoorMz7
set_option linter.unusedSimpArgs false
set_option linter.unnecessarySimpa false
set_option linter.unusedVariables false
set_option maxHeartbeats 1000000
namespace Go.Proofs.YtnhpclmbhbblbaaGreatDoor
open Go.Ab Go.RowKit Go.Shelf
set_option maxRecDepth 10000
def JO (n:Nat):Bool:=decide (97 ≤ n) && decide (n ≤ 122) || decide (65 ≤ n) && decide (n ≤ 90) || decide (48 ≤ n) && decide (n ≤ 57) || decide (n = 45)
def kY (c:UInt8):Bool:=JO c.toNat
def zR (s:qQ):Bool:=decide (1 ≤ s.length) && decide (s.length ≤ 20) && s.all kY
def qcx:Go.Shelf.Ren:=⟨fun|15=>86|20=>108|n=>n,fun|0=>0|3=>3|4=>4|9=>9|21=>21|23=>126|n=>n,fun|n=>n⟩
theorem qg4:LaysGw.n15 Tryz.prog qcx := {
 mixed:=by kernel_rfl
 f15:=Tryz.func86.trans (congrArg some (by kernel_rfl))
 f20:=Tryz.func108.trans (congrArg some (by kernel_rfl))
 t0:=Tryz.underlying0
 a0:=Tryz.isAgg0
 z0:=Tryz.sizeOf0
 v0:=Tryz.zeroValue0
 i0:=by kernel_rfl
 t3:=Tryz.underlying3
 a3:=Tryz.isAgg3
 z3:=Tryz.sizeOf3
 v3:=Tryz.zeroValue3
 i3:=by kernel_rfl
 t4:=Tryz.underlying4
 a4:=Tryz.isAgg4
 z4:=Tryz.sizeOf4
 v4:=Tryz.zeroValue4
 i4:=by kernel_rfl
 t9:=Tryz.underlying9
 a9:=Tryz.isAgg9
 z9:=Tryz.sizeOf9
 v9:=Tryz.zeroValue9
 i9:=by kernel_rfl
 t21:=Tryz.underlying21
 a21:=Tryz.isAgg21
 z21:=Tryz.sizeOf21
 v21:=Tryz.zeroValue21
 i21:=by kernel_rfl
 t23:=Tryz.underlying126
 a23:=Tryz.isAgg126
 z23:=Tryz.sizeOf126
 v23:=Tryz.zeroValue126
 i23:=by kernel_rfl }
theorem Wl (p:Nat → Bool) (g:FuncId) (fn:Func) (hg:Tryz.prog.funcs[g]? = some fn) (hb:fn.body.isNone = false) (hn:(fn.name == "runtime.NumGoroutine") = false) (cap:List AV) (hcap:AV.pure.pureL cap = true) (hc : ∀ x:Nat,x ≤ 1114111 → yO C.P g (.v (.int .i32 (x:Int)) :: cap) (.v (.bool (p x)))) (s:qQ) :
  yO C.P 86 [.v (str s),.clo (.func g) [] cap] (.v (.int .i64 (Lib.idxFunc p true ⟨s.toArray⟩))):=by
 refine ZG (by simp [AV.pure,AV.pure.pureL,hcap]) rfl fun F w vs hF hT hm=>?_
 obtain ⟨hl,hm⟩:=hm
 match vs,hl,hm with
 | [v0,v1],_,hm =>
   have h0:=(hm 0 v0 _ rfl rfl).v_inv.1
   obtain ⟨fs,us,hv,hfs,hus⟩:=(hm 1 v1 _ rfl rfl).clo_inv
   obtain rfl:fs = []:=List.eq_nil_of_length_eq_zero hfs.1
   subst h0;subst hv
   refine Any.strings_IndexFunc_grows qg4 g us.toArray (Ys hg hb hn) p ⟨s.toArray⟩ w fun W x hx hbel=>?_
   have hAll:AllM F noPlaces (.int .i32 (x:Int) :: us) (.v (.int .i32 (x:Int)) :: cap):=AllM.cons (.v _ _ rfl) hus
   have:Calls Tryz.prog g (Value.int .i32 (x:Int) :: us).toArray W _:=qcj (hc x hx) (w:=W) (fun b o hb=>by
    have h0:=hF b o hb
    rw [hbel.block b (Array.getElem?_eq_some_iff.1 h0).1];exact h0) hT hAll
   simpa [encR] using this
theorem qea (s:qQ):decide (Lib.idxFunc (fun x => !JO x) true ⟨s.toArray⟩ < 0) = s.all kY:=by
 have hk : ∀ n,JO n = true → n < 128:=fun n h=>by simp [JO] at h;omega
 have step : ∀ (pos:Nat) (h:pos < s.length),(kY (s[pos]) = true → Utf8.decode ⟨s.toArray⟩ pos = (s[pos].toNat,1)) ∧ (kY (s[pos]) = false → JO (Utf8.decode ⟨s.toArray⟩ pos).1 = false):=by
  intro pos h
  have hget:((ByteArray.mk s.toArray).get! (pos + 0)) = s[pos]:=by
   simp [ByteArray.get!,h]
  constructor
  ·intro hb
   have:s[pos].toNat < 128:=hk _ hb
   unfold Utf8.decode
   simp only [hget]
   rw [if_pos this]
  ·intro hb
   by_cases h128:s[pos].toNat < 128
   ·unfold Utf8.decode
    simp only [hget]
    rw [if_pos h128]
    exact hb
   ·cases hd:JO (Utf8.decode ⟨s.toArray⟩ pos).1 with
    | false=>rfl
    | true =>
      have h1:=hk _ hd
      exfalso
      unfold Utf8.decode at h1
      simp only [hget] at h1
      rw [if_neg h128] at h1
      simp only [Utf8.runeError] at h1
      (repeat' split at h1)<;>simp_all<;>omega
 have main : ∀ (f pos:Nat),s.length ≤ pos + f → decide (Lib.idxFuncFrom (fun x => !JO x) true ⟨s.toArray⟩ f pos < 0) = (s.drop pos).all kY:=by
  intro f
  induction f with
  | zero =>
    intro pos hp
    rw [List.drop_eq_nil_of_le (by omega)]
    simp [Lib.idxFuncFrom]
  | succ f ih =>
    intro pos hp
    unfold Lib.idxFuncFrom
    by_cases h:pos < s.length
    ·rw [if_pos (by exact h),List.drop_eq_getElem_cons h,List.all_cons]
     cases hb:kY s[pos] with
     | true =>
       have hd:=(step pos h).1 hb
       have hb' : JO s[pos].toNat = true:=hb
       rw [hd]
       simp only [hb',Bool.not_true,Bool.false_eq_true,if_false,Bool.true_and]
       exact ih (pos + 1) (by omega)
     | false =>
       have hd:=(step pos h).2 hb
       simp only [hd,Bool.not_false,if_true,Bool.false_and]
       simp
    ·rw [if_neg (by exact h),List.drop_eq_nil_of_le (by omega)]
     simp
 exact main s.length 0 (by omega)
attribute [local irreducible] Awp yl jE jl Red qX Go.Ab.Fin qW Rz vl jj ji ResOk jV jz yb jv
theorem qdm (n:Nat):yO C.P 85 [.v (.int .i32 (n:Int))] (.v (.bool (JO n))):=by
 refine qa Tryz.func85 rfl _ Tryz.ntmps85 (Nat.le_of_ble_eq_true rfl) _ Tryz.results85 0 rfl rfl ?_
 repeat' (first|refine qm ?_|fail|((first|refine qd ?_ ?_|refine qc ?_ ?_|refine xsC ?_ ?_);all_goals (intro hc;have hp:=hc;try simp at hp;try (exfalso;omega)))|refine qO ?_ ?_)
 all_goals (apply jB;rfl;rw [Bool.eq_iff_iff];simp [JO];try omega)
theorem qdn (n:Nat):yO C.P 87 [.v (.int .i32 (n:Int)),.fp [[.clo (.func 85) [] []]] 0 0] (.v (.bool (!JO n))):=by
 have h1:=qdm n
 refine qa Tryz.func87 rfl _ Tryz.ntmps87 (Nat.le_of_ble_eq_true rfl) _ Tryz.results87 0 rfl rfl ?_
 repeat' (first|refine qm ?_|(first|(refine Vl Tryz.func85 (h1 ..) ?_))|((first|refine xsC ?_ ?_);all_goals (intro hc;have hp:=hc;try simp at hp;try (exfalso;omega)))|refine qO ?_ ?_)
 all_goals (apply jB;rfl;rfl)
theorem qbA (s:qQ):yO C.P 54 [.v (str s)] (.v (.bool (zR s))):=by
 have hi:=Wl (fun x => !JO x) 87 _ Tryz.func87 rfl rfl [.fp [[.clo (.func 85) [] []]] 0 0] rfl (fun x _=>qdn x) s
 have hk:=qea s
 generalize Lib.idxFunc (fun x => !JO x) true ⟨s.toArray⟩ = I at *
 refine qa Tryz.func54 rfl _ Tryz.ntmps54 (Nat.le_of_ble_eq_true rfl) _ Tryz.results54 0 rfl rfl ?_
 (repeat apply kW);apply vS;(repeat' (first|apply kh|refine qcK ?_|refine qcH ?_|refine qcI ?_|refine qcL ?_|refine qcJ ?_|refine qfD ?_|refine qek ?_|refine W4 ?_|(first|fail)|refine Kd ?_|refine Xp ?_|refine Xo ?_|refine JD ?_|refine JC ?_|refine ZW ?_|refine ZX ?_|refine Xn ?_|refine Xm ?_|((first|refine qd ?_ ?_|refine qc ?_ ?_);all_goals (intro hc;have hp:=hc;try simp at hp;try (exfalso;omega)))));show Awp _ _ _ _ _
 (repeat apply kW);apply vS;(repeat' (first|apply kh|refine qcK ?_|refine qcH ?_|refine qcI ?_|refine qcL ?_|refine qcJ ?_|refine qfD ?_|refine qek ?_|refine W4 ?_|(first|fail)|refine Kd ?_|refine Xp ?_|refine Xo ?_|refine JD ?_|refine JC ?_|refine ZW ?_|refine ZX ?_|refine Xn ?_|refine Xm ?_|((first|refine qd ?_ ?_|refine qc ?_ ?_);all_goals (intro hc;have hp:=hc;try simp at hp;try (exfalso;omega)))));show Awp _ _ _ _ _
 refine xsZ 3 0 ?_
 repeat' (first|refine qm ?_|(first|refine jc Tryz.func86 (hi ..) ?_)|((first|refine qd ?_ ?_|refine qc ?_ ?_|refine xsC ?_ ?_);all_goals (intro hc;have hp:=hc;try simp at hp;try (exfalso;omega)))|refine qO ?_ ?_)
 all_goals try (exfalso;omega)
 all_goals (apply jB;rfl;rw [Bool.eq_iff_iff];simp only [zR, ← hk];have h1:s.length = 0 ↔ s = []:=List.length_eq_zero_iff;clear hk hi;by_cases h3:s = []<;>first|(exfalso;contradiction)|(simp [h3];done)|(have h4:s.length ≠ 0:=fun e=>h3 (h1.1 e);simp;omega))
theorem Wn (s:qQ) (hs:s.length ≤ 4000000000):yO C.P 46 [.v (str s)] (.v (.bool (zR s))):=by
 refine qa Tryz.func46 rfl _ Tryz.ntmps46 (Nat.le_of_ble_eq_true rfl) _ Tryz.results46 0 rfl rfl ?_
 repeat' (first|refine qm ?_|fail|((first|refine qd ?_ ?_|refine qc ?_ ?_|refine xsC ?_ ?_);all_goals (intro hc;have hp:=hc;try simp at hp;try (exfalso;omega)))|refine qO ?_ ?_)
 (refine Awp.red (qv (ts:=[(0,.v (str s)),(3,.v (.int .i64 ((0:Nat):Int)))]) ?_) ?_;((repeat (first|exact qg|refine qn ?_|refine qS ?_ ?_))))
 refine qP (fun n σ => ∃ i:Nat,i ≤ s.length ∧ n = s.length - i ∧ (∀ c,c ∈ s.take i → kY c = true) ∧ σ = ⟨[(0,.v (str s)),(3,.v (.int .i64 (i:Int)))],[],C.nh⟩) s.length ⟨0,Nat.zero_le _,rfl,(by simp),rfl⟩ ?_
 rintro n σ ⟨i,hi,rfl,hsofar,rfl⟩
 by_cases hlt:i < s.length
 ·have hr:s[i]? = some s[i]:=List.getElem?_eq_getElem hlt
  have hnx:=jU (p:=fun c=>kY c = true) hlt hsofar
  have hk:kY s[i] = JO s[i].toNat:=rfl
  have hbad:kY s[i] = false → zR s = false:=fun h=>by
   have:s.all kY = false:=by rw [List.all_eq_false];exact ⟨s[i],List.getElem_mem _,by simp [h]⟩
   simp [zR,this]
  generalize kY s[i] = K at *
  generalize s[i] = c at *
  repeat' (first|refine qm ?_|fail|((first|refine qd ?_ ?_|refine qc ?_ ?_|refine xsC ?_ ?_);all_goals (intro hc;have hp:=hc;try simp at hp;try (exfalso;omega)))|refine qO ?_ ?_)
  all_goals try (exfalso;omega)
  all_goals first
   | (apply jB;rfl;exact (hbad (by rw [hk];simp only [JO];simp;omega)).symm)
   | (refine ⟨s.length - (i + 1),_,by omega,qv (ts:=[(0,.v (str s)),(3,.v (.int .i64 ((i + 1:Nat):Int)))]) ?_,i + 1,by omega,rfl,(hnx (by rw [hk];simp only [JO];simp;omega)),rfl⟩;((repeat (first|exact qg|refine qn ?_|refine qS ?_ ?_))))
 ·obtain rfl:i = s.length:=by omega
  rw [List.take_length] at hsofar
  have hall:s.all kY = true:=List.all_eq_true.2 hsofar
  repeat' (first|refine qm ?_|fail|((first|refine qd ?_ ?_|refine qc ?_ ?_|refine xsC ?_ ?_);all_goals (intro hc;have hp:=hc;try simp at hp;try (exfalso;omega)))|refine qO ?_ ?_)
  all_goals try (exfalso;omega)
  all_goals (apply jB;rfl;rw [Bool.eq_iff_iff];simp only [zR,hall];simp;try omega)
end Go.Proofs.YtnhpclmbhbblbaaGreatDoor
set_option linter.unusedSimpArgs false
set_option linter.unnecessarySimpa false
set_option linter.unusedVariables false
namespace Go.Proofs.YtnhpclmbhbblbaaGreatDoor
open Go.Op
structure Com where
 num:Int
 key:qQ
 chs:List Chg
 deriving DecidableEq
structure Jou where
 base:List Ent
 first:Int
 coms:List Com
 deriving DecidableEq
def qdH (n:Int) (c:Com):Int:=if ¬ c.num = n then 4 else if 1000000 < c.num then 3 else if zR c.key = false ∨ c.chs = [] then 1 else 0
def qf9:Int → List Ent → List Com → List Ent × Int
 | _,t,[]=>(t,0)
 | n,t,c :: l=>if ¬ qdH n c = 0 then ([],qdH n c) else if ¬ (Q3 c.num t c.chs).2.2 = 0 then ([],(Q3 c.num t c.chs).2.2) else qf9 (n + 1) (Q3 c.num t c.chs).1 l
theorem VB {v:Int} (hv:vH v = true) : ∀ {l:List Chg} {t:List Ent} {n:Nat},Right t → (X3 v t l n).2.2 = 0 → Right (X3 v t l n).1
 | [],t,n,h,_=>h
 | c :: l,t,n,h,hz=>by
   unfold X3 at hz ⊢
   by_cases hr:zB t c v = 0
   ·rw [if_pos hr] at hz ⊢
    exact VB hv (qaU h hv hr) hz
   ·rw [if_neg hr] at hz
    exact absurd hz hr
theorem Wr {v:Int} {t:List Ent} {l:List Chg} (h:Right t):Q3 v t l = qcf t l v:=by
 rw [qeW,if_neg (by rw [ju.2 h];simp)]
theorem J4 {v:Int} {t:List Ent} {l:List Chg} (h:Right t) (hz:(Q3 v t l).2.2 = 0):Right (Q3 v t l).1:=by
 rw [Wr h] at hz ⊢
 unfold qcf at hz ⊢
 split at hz
 ·exact absurd hz (by decide)
 ·split at hz
  ·exact absurd hz (by decide)
  ·rename_i h1 h2
   rw [if_neg h1,if_neg h2]
   cases l with
   | nil=>exact h
   | cons c l =>
     refine VB ?_ h hz
     cases hv:vH v with
     | true=>rfl
     | false=>exact absurd ⟨hv,by simp⟩ h2
structure JRight (j:Jou):Prop where
 base:Right j.base
 lo:1 ≤ j.first
 hi:j.first ≤ 1000000
 len:j.coms.length ≤ 30
 run:(qf9 j.first j.base j.coms).2 = 0
 keys:(j.coms.map Com.key).Nodup
structure Pag where
 reset:Bool
 tree:List Ent
 coms:List Com
 cur:Int
 more:Bool
 deriving DecidableEq
def ka (n:Int):Bool:=decide (0 ≤ n) && decide (n ≤ 1000000)
def kL:List Ent → List Com → List Ent × Int
 | t,[]=>(t,0)
 | t,c :: l=>if ¬ (Q3 c.num t c.chs).2.2 = 0 then ([],(Q3 c.num t c.chs).2.2) else kL (Q3 c.num t c.chs).1 l
def kg:Int → List Com → Bool
 | _,[]=>true
 | n,c :: l=>decide (c.num = n) && kg (n + 1) l
def j0 (t:List Ent) (cursor:Int) (p:Pag):List Ent × Int × Int :=
 if ¬ qD t = 0 then ([],0,qD t) else if ka cursor = false then ([],0,3)
 else if p.reset = true then (if ¬ qD p.tree = 0 then ([],0,qD p.tree) else if ka p.cur = false then ([],0,3) else if ¬ p.coms = [] ∨ p.more = true then ([],0,1) else (p.tree,p.cur,0))
 else if ¬ p.tree = [] then ([],0,1) else if 10 < p.coms.length then ([],0,2) else if kg (cursor + 1) p.coms = false then ([],0,4) else if ¬ p.cur = cursor + p.coms.length then ([],0,4)
 else if ¬ (kL t p.coms).2 = 0 then ([],0,(kL t p.coms).2) else ((kL t p.coms).1,p.cur,0)
theorem ZU {t:List Ent} {l:List Com} {i:Nat} (h:i < l.length):kL t (l.drop i) = if ¬ (Q3 l[i].num t l[i].chs).2.2 = 0 then ([],(Q3 l[i].num t l[i].chs).2.2) else kL (Q3 l[i].num t l[i].chs).1 (l.drop (i + 1)):=by
 rw [List.drop_eq_getElem_cons h];rfl
theorem XU {n:Int} {l:List Com} {i:Nat} (h:i < l.length):kg n (l.drop i) = (decide (l[i].num = n) && kg (n + 1) (l.drop (i + 1))):=by
 rw [List.drop_eq_getElem_cons h];rfl
theorem VP : ∀ {l:List Com} {t:List Ent},Right t → (kL t l).2 = 0 → Right (kL t l).1
 | [],_,h,_=>h
 | c :: l,t,h,hz=>by
   unfold kL at hz ⊢
   split at hz
   ·rename_i h1;exact absurd hz h1
   ·rename_i h1
    rw [if_neg h1]
    exact VP (J4 h (by simpa using h1)) hz
end Go.Proofs.YtnhpclmbhbblbaaGreatDoor
set_option linter.unusedSimpArgs false
set_option linter.unusedVariables false
namespace Go.Proofs.YtnhpclmbhbblbaaGreatDoor
open Go.Ab Go.RowKit
def Com.row (c:Com):List AV:=[.v (.int .i64 c.num),.v (str c.key),vM c.chs]
def vN (l:List Com):AV := .sl false (l.map Com.row)
def Jou.row (j:Jou):List AV:=[qb j.base,.v (.int .i64 j.first),vN j.coms]
def Pag.row (p:Pag):List AV:=[.v (.bool p.reset),qb p.tree,vN p.coms,.v (.int .i64 p.cur),.v (.bool p.more)]
structure Com.small (c:Com):Prop where
 key:c.key.length ≤ 1000000000
 chs:CBig c.chs
structure MBig (l:List Com):Prop where
 each : ∀ c,c ∈ l → c.small
 len:l.length ≤ 1000000000
structure JBig (j:Jou):Prop where
 base:EBig j.base
 coms:MBig j.coms
structure PBig (p:Pag):Prop where
 tree:EBig p.tree
 coms:MBig p.coms
theorem qf1 {n:Nat} {xs:List AV} (h:kV C.tab 1000000000 n 121 xs) : ∃ s:Com,xs = s.row ∧ s.small:=by
 cases n with
 | zero=>exact h.elim
 | succ n =>
   obtain ⟨_,_,rfl,h0,_,_,rfl,h1,_,_,rfl,h2,rfl⟩:=(show Q0 C.tab 0 _ = some _ → Kp (kV C.tab 1000000000 n) [(0,3),(1,9),(2,36)] xs from h) rfl
   obtain ⟨a0,rfl,_⟩:=wc h0
   obtain ⟨a1,rfl,l1⟩:=wd h1
   obtain ⟨a2,rfl,l2⟩:=qaz h2
   exact ⟨⟨a0,a1,a2⟩,rfl,l1,l2⟩
theorem qeD {n:Nat} {xs:List AV} (h:kV C.tab 1000000000 n 39 xs) : ∃ t:List Com,xs = [vN t] ∧ MBig t:=by
 cases n with
 | zero=>exact h.elim
 | succ n =>
   obtain ⟨rows,he,hb,hr⟩:=(show (3:Nat) ≠ 0 → ∃ rows,xs = [AV.sl false rows] ∧ rows.length * 48 ≤ 1000000000 ∧ ∀ row,row ∈ rows → kV C.tab 1000000000 n 121 row from h) (by decide)
   obtain ⟨l,rfl,hl⟩:=Y3 (f:=Com.row) (ok:=Com.small) (fun row hrow=>qf1 (hr row hrow))
   refine ⟨l,he,hl,?_⟩
   simp at hb;omega
theorem qeE {n:Nat} {xs:List AV} (h:kV C.tab 1000000000 n 41 xs) : ∃ p:Pag,xs = p.row ∧ PBig p:=by
 cases n with
 | zero=>exact h.elim
 | succ n =>
   obtain ⟨_,_,rfl,h0,_,_,rfl,h1,_,_,rfl,h2,_,_,rfl,h3,_,_,rfl,h4,rfl⟩:=(show Q0 C.tab 0 _ = some _ → Kp (kV C.tab 1000000000 n) [(0,4),(1,22),(2,39),(3,3),(4,4)] xs from h) rfl
   obtain ⟨a0,rfl⟩:=Zo h0
   obtain ⟨a1,rfl,l1⟩:=Zp h1
   obtain ⟨a2,rfl,l2⟩:=qeD h2
   obtain ⟨a3,rfl,_⟩:=wc h3
   obtain ⟨a4,rfl⟩:=Zo h4
   exact ⟨⟨a0,a1,a2,a3,a4⟩,rfl,l1,l2⟩
end Go.Proofs.YtnhpclmbhbblbaaGreatDoor
