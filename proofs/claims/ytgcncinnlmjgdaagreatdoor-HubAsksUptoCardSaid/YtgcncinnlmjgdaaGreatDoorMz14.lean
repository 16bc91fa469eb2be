import Derived.Test.YtgcncinnlmjgdaaGreatDoorMz13
import Derived.Test.YtgcncinnlmjgdaaGreatDoorMz7
import Derived.Shelf.Strings.FuncGrows
import Derived.Test.YtgcncinnlmjgdaaGreatDoorMz12
import Derived.Test.YtgcncinnlmjgdaaGreatDoorMz0
import Derived.Test.YtgcncinnlmjgdaaGreatDoorMz8
set_option linter.unusedSimpArgs false
set_option linter.unnecessarySimpa false
set_option linter.unusedVariables false
set_option maxHeartbeats 1000000
set_option maxRecDepth 10000
namespace Go.Proofs.YtgcncinnlmjgdaaGreatDoor
open Go.Ab Go.RowKit Go.Shelf
def ZN (n:Nat):Bool:=decide (97 ≤ n) && decide (n ≤ 122) || decide (65 ≤ n) && decide (n ≤ 90) || decide (48 ≤ n) && decide (n ≤ 57) || decide (n = 45)
def qfS (c:UInt8):Bool:=ZN c.toNat
def kh (s:qb):Bool:=decide (1 ≤ s.length) && decide (s.length ≤ 20) && s.all qfS
def qiU:Go.Shelf.Ren:=⟨fun|15=>192|20=>222|n=>n,fun|0=>0|3=>3|4=>4|9=>9|21=>21|23=>242|n=>n,fun|n=>n⟩
theorem qps:LaysGw.n15 Tryz.prog qiU := {
 mixed:=by kernel_rfl
 f15:=Tryz.func192.trans (congrArg some (by kernel_rfl))
 f20:=Tryz.func222.trans (congrArg some (by kernel_rfl))
 t0:=Tryz.underlying0
 a0:=Tryz.isAgg0
 z0:=Tryz.sizeOf0
 v0:=Tryz.zeroValue0
 i0:=by kernel_rfl
 t3:=Tryz.underlying3
 a3:=Tryz.isAgg3
 z3:=Tryz.sizeOf3
 v3:=Tryz.zeroValue3
 i3:=by kernel_rfl
 t4:=Tryz.underlying4
 a4:=Tryz.isAgg4
 z4:=Tryz.sizeOf4
 v4:=Tryz.zeroValue4
 i4:=by kernel_rfl
 t9:=Tryz.underlying9
 a9:=Tryz.isAgg9
 z9:=Tryz.sizeOf9
 v9:=Tryz.zeroValue9
 i9:=by kernel_rfl
 t21:=Tryz.underlying21
 a21:=Tryz.isAgg21
 z21:=Tryz.sizeOf21
 v21:=Tryz.zeroValue21
 i21:=by kernel_rfl
 t23:=Tryz.underlying242
 a23:=Tryz.isAgg242
 z23:=Tryz.sizeOf242
 v23:=Tryz.zeroValue242
 i23:=by kernel_rfl }
theorem qdi (p:Nat → Bool) (g:FuncId) (fn:Func) (hg:Tryz.prog.funcs[g]? = some fn) (hb:fn.body.isNone = false) (hn:(fn.name == "runtime.NumGoroutine") = false) (cap:List AV) (hcap:AV.pure.pureL cap = true) (hc : ∀ x:Nat,x ≤ 1114111 → jN C.P g (.v (.int .i32 (x:Int)) :: cap) (.v (.bool (p x)))) (s:qb) :
  jN C.P 192 [.v (str s),.clo (.func g) [] cap] (.v (.int .i64 (Lib.idxFunc p true ⟨s.toArray⟩))):=by
 refine qa5 (by simp [AV.pure,AV.pure.pureL,hcap]) rfl fun F w vs hF hT hm=>?_
 obtain ⟨hl,hm⟩:=hm
 match vs,hl,hm with
 | [v0,v1],_,hm =>
   have h0:=(hm 0 v0 _ rfl rfl).v_inv.1;obtain ⟨fs,us,hv,hfs,hus⟩:=(hm 1 v1 _ rfl rfl).clo_inv;obtain rfl:fs = []:=List.eq_nil_of_length_eq_zero hfs.1;subst h0;subst hv;refine Any.strings_IndexFunc_grows qps g us.toArray (Vp hg hb hn) p ⟨s.toArray⟩ w fun W x hx hbel=>?_
   have hAll:AllM F noPlaces (.int .i32 (x:Int) :: us) (.v (.int .i32 (x:Int)) :: cap):=AllM.cons (.v _ _ rfl) hus
   have:Calls Tryz.prog g (Value.int .i32 (x:Int) :: us).toArray W _:=qit (hc x hx) (w:=W) (fun b o hb=>by
    have h0:=hF b o hb
    rw [hbel.block b (Array.getElem?_eq_some_iff.1 h0).1];exact h0) hT hAll
   simpa [encR] using this
theorem qk5 (s:qb):decide (Lib.idxFunc (fun x => !ZN x) true ⟨s.toArray⟩ < 0) = s.all qfS:=by
 have hk : ∀ n,ZN n = true → n < 128:=fun n h=>by simp [ZN] at h;omega
 have step : ∀ (pos:Nat) (h:pos < s.length),(qfS (s[pos]) = true → Utf8.decode ⟨s.toArray⟩ pos = (s[pos].toNat,1)) ∧ (qfS (s[pos]) = false → ZN (Utf8.decode ⟨s.toArray⟩ pos).1 = false):=by
  intro pos h
  have hget:((ByteArray.mk s.toArray).get! (pos + 0)) = s[pos]:=by
   simp [ByteArray.get!,h]
  constructor
  ·intro hb;have:s[pos].toNat < 128:=hk _ hb;unfold Utf8.decode;simp only [hget];rw [if_pos this]
  ·intro hb;by_cases h128:s[pos].toNat < 128
   ·unfold Utf8.decode;simp only [hget];rw [if_pos h128];exact hb
   ·cases hd:ZN (Utf8.decode ⟨s.toArray⟩ pos).1 with
    | false=>rfl
    | true =>
      have h1:=hk _ hd;exfalso;unfold Utf8.decode at h1;simp only [hget] at h1;rw [if_neg h128] at h1;simp only [Utf8.runeError] at h1
      (repeat' split at h1)<;>simp_all<;>omega
 have main : ∀ (f pos:Nat),s.length ≤ pos + f → decide (Lib.idxFuncFrom (fun x => !ZN x) true ⟨s.toArray⟩ f pos < 0) = (s.drop pos).all qfS:=by
  intro f
  induction f with
  | zero =>
    intro pos hp;rw [List.drop_eq_nil_of_le (by omega)];simp [Lib.idxFuncFrom]
  | succ f ih =>
    intro pos hp;unfold Lib.idxFuncFrom;by_cases h:pos < s.length
    ·rw [if_pos (by exact h),List.drop_eq_getElem_cons h,List.all_cons]
     cases hb:qfS s[pos] with
     | true =>
       have hd:=(step pos h).1 hb;have hb' : ZN s[pos].toNat = true:=hb;rw [hd];simp only [hb',Bool.not_true,Bool.false_eq_true,if_false,Bool.true_and];exact ih (pos + 1) (by omega)
     | false =>
       have hd:=(step pos h).2 hb;simp only [hd,Bool.not_false,if_true,Bool.false_and];simp
    ·rw [if_neg (by exact h),List.drop_eq_nil_of_le (by omega)];simp
 exact main s.length 0 (by omega)
attribute [local irreducible] Awp j9 jr ye Red qz Go.Ab.Fin qf Rz wz jF jU ResOk yA j1 xR qX
theorem qjN (n:Nat):jN C.P 191 [.v (.int .i32 (n:Int))] (.v (.bool (ZN n))):=by
 refine qJ 0 ?_
 repeat' (first|refine qg ?_|fail|(refine xsS ?_ ?_;all_goals first|exact False.elim|intro hp hc)|refine xsA ?_ ?_)
 all_goals (apply qR;rfl;rw [Bool.eq_iff_iff];simp [ZN];try omega)
theorem qjO (n:Nat):jN C.P 193 [.v (.int .i32 (n:Int)),.fp [[.clo (.func 191) [] []]] 0 0] (.v (.bool (!ZN n))):=by
 have h1:=qjN n;refine qJ 0 ?_
 repeat' (first|refine qg ?_|(first|(refine kV Tryz.func191 (h1 ..) ?_))|(refine xsS ?_ ?_;all_goals first|exact False.elim|intro hp hc)|refine xsA ?_ ?_)
 all_goals (apply qR;rfl;rfl)
theorem KJ (s:qb):jN C.P 156 [.v (str s)] (.v (.bool (kh s))):=by
 have hi:=qdi (fun x => !ZN x) 193 _ Tryz.func193 rfl rfl [.fp [[.clo (.func 191) [] []]] 0 0] rfl (fun x _=>qjO x) s;have hk:=qk5 s;generalize Lib.idxFunc (fun x => !ZN x) true ⟨s.toArray⟩ = I at *;refine qJ 0 ?_
 (repeat apply jW);refine qO ?_;(repeat' (first|apply qF|refine wk ?_|refine we ?_|refine wi ?_|refine YO ?_|refine wj ?_|refine YN ?_|refine Jt ?_|refine zK ?_|(first|fail)|refine xY ?_|refine vA ?_|refine vz ?_|refine xL ?_|refine xK ?_|refine kZ ?_|refine k9 ?_|refine vy ?_|refine vx ?_|((first|refine vl ?_ ?_|refine vk ?_ ?_);all_goals (intro hc;have hp:=hc;first|(simp at hp;done)|((try simp at hp);first|(exfalso;omega)|skip)))));show Awp _ _ _ _ _
 (repeat apply jW);refine qO ?_;(repeat' (first|apply qF|refine wk ?_|refine we ?_|refine wi ?_|refine YO ?_|refine wj ?_|refine YN ?_|refine Jt ?_|refine zK ?_|(first|fail)|refine xY ?_|refine vA ?_|refine vz ?_|refine xL ?_|refine xK ?_|refine kZ ?_|refine k9 ?_|refine vy ?_|refine vx ?_|((first|refine vl ?_ ?_|refine vk ?_ ?_);all_goals (intro hc;have hp:=hc;first|(simp at hp;done)|((try simp at hp);first|(exfalso;omega)|skip)))));show Awp _ _ _ _ _
 refine Ym 3 0 ?_
 repeat' (first|refine qg ?_|(first|refine jT (hi ..) ?_)|(refine xsS ?_ ?_;all_goals first|exact False.elim|intro hp hc)|refine xsA ?_ ?_)
 all_goals try (exfalso;omega)
 all_goals (apply qR;rfl;rw [Bool.eq_iff_iff];simp only [kh, ← hk];have h1:s.length = 0 ↔ s = []:=List.length_eq_zero_iff;clear hk hi;by_cases h3:s = []<;>first|(exfalso;contradiction)|(simp [h3];done)|(have h4:s.length ≠ 0:=fun e=>h3 (h1.1 e);simp;omega))
end Go.Proofs.YtgcncinnlmjgdaaGreatDoor
namespace Go.Proofs.YtgcncinnlmjgdaaGreatDoor
open Go.Op
structure Jou where
 base:List Ent
 first:Int
 coms:List Com
 deriving DecidableEq
def zY (n:Int) (c:Com):Int:=if ¬ c.num = n then 4 else if 1000000 < c.num then 3 else if kh c.key = false ∨ c.chs = [] then 1 else 0
def yB:Int → List Ent → List Com → List Ent × Int
 | _,t,[]=>(t,0)
 | n,t,c :: l=>if ¬ zY n c = 0 then ([],zY n c) else if ¬ (ve c.num t c.chs).2.2 = 0 then ([],(ve c.num t c.chs).2.2) else yB (n + 1) (ve c.num t c.chs).1 l
def YD (l:List Com):Bool:=decide ((l.map Com.key).Nodup)
def ki (j:Jou):Int :=
 if ¬ jv j.base = 0 then jv j.base else if j.first < 1 ∨ 1000000 < j.first then 3 else if 30 < j.coms.length then 2
 else if ¬ (yB j.first j.base j.coms).2 = 0 then (yB j.first j.base j.coms).2 else if YD j.coms = true then 0 else 6
def vg (j:Jou):List Ent:=(yB j.first j.base j.coms).1
theorem Wk {v:Int} (hv:wN v = true) : ∀ {l:List Chg} {t:List Ent} {n:Nat},Right t → (Vl v t l n).2.2 = 0 → Right (Vl v t l n).1
 | [],t,n,h,_=>h
 | c :: l,t,n,h,hz=>by
   unfold Vl at hz ⊢;by_cases hr:Qb t c v = 0
   ·rw [if_pos hr] at hz ⊢;exact Wk hv (qft h hv hr) hz
   ·rw [if_neg hr] at hz;exact absurd hz hr
theorem qds {v:Int} {t:List Ent} {l:List Chg} (h:Right t):ve v t l = qmw t l v:=by
 rw [qmv,if_neg (by rw [JA.2 h];simp)]
theorem JL {v:Int} {t:List Ent} {l:List Chg} (h:Right t) (hz:(ve v t l).2.2 = 0):Right (ve v t l).1:=by
 rw [qds h] at hz ⊢;unfold qmw at hz ⊢;split at hz
 ·exact absurd hz (by decide)
 ·split at hz
  ·exact absurd hz (by decide)
  ·rename_i h1 h2;rw [if_neg h1,if_neg h2]
   cases l with
   | nil=>exact h
   | cons c l =>
     refine Wk ?_ h hz
     cases hv:wN v with
     | true=>rfl
     | false=>exact absurd ⟨hv,by simp⟩ h2
theorem Kj : ∀ {l:List Com} {n:Int} {t:List Ent},Right t → (yB n t l).2 = 0 → Right (yB n t l).1
 | [],_,_,h,_=>h
 | c :: l,n,t,h,hz=>by
   unfold yB at hz ⊢;split at hz
   ·rename_i h1;exact absurd hz h1
   ·split at hz
    ·rename_i h1 h2;exact absurd hz h2
    ·rename_i h1 h2;rw [if_neg h1,if_neg h2];exact Kj (JL h (by simpa using h2)) hz
theorem JU {n:Int} {t:List Ent} {c:Com} {l:List Com} (hz:(yB n t (c :: l)).2 = 0):zY n c = 0 ∧ (ve c.num t c.chs).2.2 = 0 ∧ yB n t (c :: l) = yB (n + 1) (ve c.num t c.chs).1 l:=by
 unfold yB at hz;split at hz
 ·rename_i h1;exact absurd hz h1
 ·split at hz
  ·rename_i h1 h2;exact absurd hz h2
  ·rename_i h1 h2;refine ⟨by simpa using h1,by simpa using h2,?_⟩;rw [yB,if_neg h1,if_neg h2]
theorem Yx {n:Int} {c:Com} (h:zY n c = 0):c.num = n ∧ n ≤ 1000000 ∧ kh c.key = true ∧ ¬ c.chs = []:=by
 unfold zY at h;split at h
 ·exact absurd h (by decide)
 ·split at h
  ·exact absurd h (by decide)
  ·split at h
   ·exact absurd h (by decide)
   ·rename_i h1 h2 h3;have h1:c.num = n:=by simpa using h1
    refine ⟨h1,by omega,?_,fun e=>h3 (.inr e)⟩
    cases hk:kh c.key with
    | true=>rfl
    | false=>exact absurd (.inl hk) h3
theorem qfr {n:Int} {t:List Ent} {l:List Com} {i:Nat} (h:i < l.length):yB n t (l.drop i) = if ¬ zY n l[i] = 0 then ([],zY n l[i]) else if ¬ (ve l[i].num t l[i].chs).2.2 = 0 then ([],(ve l[i].num t l[i].chs).2.2) else yB (n + 1) (ve l[i].num t l[i].chs).1 (l.drop (i + 1)):=by
 rw [List.drop_eq_getElem_cons h];rfl
theorem qbf : ∀ {a b:List Com} {n:Int} {t:List Ent},(yB n t a).2 = 0 → yB n t (a ++ b) = yB (n + a.length) (yB n t a).1 b
 | [],b,n,t,_=>by simp [yB]
 | c :: a,b,n,t,hz=>by
   obtain ⟨h1,h2,h3⟩:=JU hz;rw [h3] at hz ⊢;have:(c :: a) ++ b = c :: (a ++ b):=rfl;rw [this,yB,if_neg (by simp [h1]),if_neg (by simp [h2]),qbf hz];congr 1;simp;omega
theorem Wl {v:Int} {t:List Ent} {l:List Chg} (h:Right t) (hz:(ve v t l).2.2 = 0):l.length ≤ 20:=by
 rw [qds h] at hz;unfold qmw at hz;split at hz
 ·exact absurd hz (by decide)
 ·omega
theorem Qe : ∀ {l:List Com} {n:Int} {t:List Ent},Right t → (yB n t l).2 = 0 → ∀ c,c ∈ l → c.chs.length ≤ 20
 | c :: l,n,t,h,hz,d,hd=>by
   obtain ⟨h1,h2,h3⟩:=JU hz;rw [h3] at hz;rcases List.mem_cons.1 hd with rfl|hd
   ·exact Wl h h2
   ·exact Qe (JL h h2) hz d hd
structure JRight (j:Jou):Prop where
 base:Right j.base
 lo:1 ≤ j.first
 hi:j.first ≤ 1000000
 len:j.coms.length ≤ 30
 run:(yB j.first j.base j.coms).2 = 0
 keys:(j.coms.map Com.key).Nodup
theorem y0 {j:Jou}:ki j = 0 ↔ JRight j:=by
 unfold ki;constructor
 ·intro h;split at h
  ·rename_i h1;exact absurd h h1
  ·split at h
   ·exact absurd h (by decide)
   ·split at h
    ·exact absurd h (by decide)
    ·split at h
     ·rename_i h1;exact absurd h h1
     ·split at h
      ·rename_i h1 h2 h3 h4 h5;exact ⟨JA.1 (by simpa using h1),by omega,by omega,by omega,by simpa using h4,of_decide_eq_true h5⟩
      ·exact absurd h (by decide)
 ·intro h;rw [if_neg (by simp [JA.2 h.base]),if_neg (by have:=h.lo;have:=h.hi;omega),if_neg (by have:=h.len;omega),if_neg (by simp [h.run]),if_pos (by simp [YD,h.keys])]
theorem JRight.now {j:Jou} (h:JRight j):Right (vg j):=Kj h.base h.run
def xp (j:Jou):Int:=j.first + j.coms.length - 1
def YK:Jou:=⟨[],0,[]⟩
def isK (k:qb) (c:Com):Bool:=decide (c.key = k)
def jV (j:Jou):Int:=xp j + 1
theorem qec (j:Jou):jV j = j.first + j.coms.length:=by unfold jV xp;omega
def wQ (j:Jou) (c:Com):Jou :=
 if 30 < j.coms.length + 1 then ⟨match j.coms with | []=>j.base|d :: _=>(ve j.first j.base d.chs).1,j.first + 1,(j.coms ++ [c]).drop 1⟩ else ⟨j.base,j.first,j.coms ++ [c]⟩
def xF (j:Jou) (key:qb) (l:List Chg):Jou × Int × Int :=
 if kh key = false then (YK,0,1) else match j.coms.find? (isK key) with
 | some c=>(j,c.num,0)
 | none=>if l = [] then (YK,0,1) else if 1000000 < jV j then (YK,0,3) else if ¬ (ve (jV j) (vg j) l).2.2 = 0 then (YK,0,(ve (jV j) (vg j) l).2.2)
   else (wQ j ⟨jV j,key,l⟩,jV j,0)
def yx (j:Jou) (key:qb) (l:List Chg):Jou × Int × Int:=if ¬ ki j = 0 then (YK,0,ki j) else xF j key l
def V5 (j:Jou) (cursor most:Int):List Com:=(j.coms.drop (cursor - j.first + 1).toNat).take most.toNat
def Jw (j:Jou) (cursor most:Int):Pag × Int :=
 if most < 1 ∨ 10 < most ∨ cursor < 0 then (ze,3) else if xp j < cursor then (ze,5) else if cursor < j.first - 1 then (⟨true,vg j,[],xp j,false⟩,0)
 else (⟨false,[],V5 j cursor most,cursor + (V5 j cursor most).length,decide (cursor + (V5 j cursor most).length < xp j)⟩,0)
def V9 (j:Jou) (cursor most:Int):Pag × Int:=if ¬ ki j = 0 then (ze,ki j) else Jw j cursor most
theorem qkU {l:List Com} {k:qb} (h:l.find? (isK k) = none):¬ k ∈ l.map Com.key:=fun hm=>by
 obtain ⟨c,hc,rfl⟩:=List.mem_map.1 hm;have:=List.find?_eq_none.1 h c hc;simp [isK] at this
theorem qgc {j:Jou} {key:qb} {l:List Chg} (h:JRight j) (hk:kh key = true) (hf:j.coms.find? (isK key) = none) (hl:¬ l = []) (hn:jV j ≤ 1000000) (hz:(ve (jV j) (vg j) l).2.2 = 0):JRight (wQ j ⟨jV j,key,l⟩):=by
 have hrun:(yB j.first j.base (j.coms ++ [(⟨jV j,key,l⟩ : Com)])).2 = 0:=by
  rw [qbf h.run]
  have h0:zY (j.first + j.coms.length) ⟨jV j,key,l⟩ = 0:=by
   unfold zY;rw [qec] at hn ⊢;rw [if_neg (by simp),if_neg (by simp;omega),if_neg (by simp [hk,hl])]
  rw [yB,if_neg (by simp [h0]),if_neg (by rw [show (yB j.first j.base j.coms).1 = vg j from rfl];simp only;rw [hz];simp)];rfl
 have hkeys:((j.coms ++ [(⟨jV j,key,l⟩ : Com)]).map Com.key).Nodup:=by
  rw [List.map_append,List.nodup_append];refine ⟨h.keys,by simp,fun a ha b hb=>?_⟩;have hb:b = key:=by simpa using hb
  subst hb;rintro rfl;exact qkU hf ha
 unfold wQ;split
 ·rename_i h31
  cases hc:j.coms with
  | nil=>rw [hc] at h31;simp at h31
  | cons d r =>
    rw [hc] at hrun hkeys;obtain ⟨h1,h2,h3⟩:=JU (c:=d) (l:=r ++ [⟨jV j,key,l⟩]) hrun;rw [List.cons_append,h3] at hrun;have hd:=Yx h1;have hlen:=h.len;rw [hc] at hlen;refine ⟨?_,?_,?_,?_,?_,?_⟩
    ·show Right (ve j.first j.base d.chs).1;rw [← hd.1];exact JL h.base h2
    ·have:=h.lo;show 1 ≤ j.first + 1;omega
    ·show j.first + 1 ≤ 1000000;have:jV j = j.first + (j.coms.length:Int):=qec j;rw [hc] at this;simp at this;omega
    ·simp at hlen ⊢;omega
    ·show (yB (j.first + 1) (ve j.first j.base d.chs).1 (((d :: r) ++ [_]).drop 1)).2 = 0;rw [List.cons_append,List.drop_succ_cons,List.drop_zero];rw [← hd.1];rw [← hd.1] at hrun;exact hrun
    ·rw [List.cons_append,List.drop_succ_cons,List.drop_zero];rw [List.cons_append,List.map_cons,List.nodup_cons] at hkeys;exact hkeys.2
 ·refine ⟨h.base,h.lo,h.hi,?_,hrun,hkeys⟩;simp;omega
end Go.Proofs.YtgcncinnlmjgdaaGreatDoor
namespace Go.Proofs.YtgcncinnlmjgdaaGreatDoor
open Go.Ab Go.RowKit
def Jou.row (j:Jou):List AV:=[qU j.base,.v (.int .i64 j.first),yv j.coms]
structure Com.small (c:Com):Prop where
 key:c.key.length ≤ 1000000000
 chs:CBig c.chs
structure MBig (l:List Com):Prop where
 each : ∀ c,c ∈ l → c.small
 len:l.length ≤ 1000000000
structure JBig (j:Jou):Prop where
 base:EBig j.base
 coms:MBig j.coms
structure PBig (p:Pag):Prop where
 tree:EBig p.tree
 coms:MBig p.coms
theorem qnu {n:Nat} {xs:List AV} (h:vZ C.tab 1000000000 n 108 xs) : ∃ s:Com,xs = s.row ∧ s.small:=by
 cases n with
 | zero=>exact h.elim
 | succ n =>
   obtain ⟨_,_,rfl,h0,_,_,rfl,h1,_,_,rfl,h2,rfl⟩:=(show wx C.tab 0 _ = some _ → Vc (vZ C.tab 1000000000 n) [(0,3),(1,9),(2,38)] xs from h) rfl;obtain ⟨a0,rfl,_⟩:=y9 h0;obtain ⟨a1,rfl,l1⟩:=xa h1;obtain ⟨a2,rfl,l2⟩:=qlS h2;exact ⟨⟨a0,a1,a2⟩,rfl,l1,l2⟩
theorem qlT {n:Nat} {xs:List AV} (h:vZ C.tab 1000000000 n 44 xs) : ∃ t:List Com,xs = [yv t] ∧ MBig t:=by
 cases n with
 | zero=>exact h.elim
 | succ n =>
   obtain ⟨rows,he,hb,hr⟩:=(show (3:Nat) ≠ 0 → ∃ rows,xs = [AV.sl false rows] ∧ rows.length * 48 ≤ 1000000000 ∧ ∀ row,row ∈ rows → vZ C.tab 1000000000 n 108 row from h) (by decide)
   obtain ⟨l,rfl,hl⟩:=wv (f:=Com.row) (ok:=Com.small) (fun row hrow=>qnu (hr row hrow));refine ⟨l,he,hl,?_⟩;simp at hb;omega
theorem qnz {n:Nat} {xs:List AV} (h:vZ C.tab 1000000000 n 61 xs) : ∃ j:Jou,xs = j.row ∧ JBig j:=by
 cases n with
 | zero=>exact h.elim
 | succ n =>
   obtain ⟨_,_,rfl,h0,_,_,rfl,h1,_,_,rfl,h2,rfl⟩:=(show wx C.tab 0 _ = some _ → Vc (vZ C.tab 1000000000 n) [(0,43),(1,3),(2,44)] xs from h) rfl;obtain ⟨a0,rfl,l0⟩:=qlU h0;obtain ⟨a1,rfl,_⟩:=y9 h1;obtain ⟨a2,rfl,l2⟩:=qlT h2;exact ⟨⟨a0,a1,a2⟩,rfl,l0,l2⟩
end Go.Proofs.YtgcncinnlmjgdaaGreatDoor
namespace Go.Proofs.YtgcncinnlmjgdaaGreatDoor
theorem qi1:JBig YK:=⟨⟨by simp [YK],by simp [YK]⟩,⟨by simp [YK],by simp [YK]⟩⟩
theorem MBig.sub {a b:List Com} (h:MBig b) (hs : ∀ c,c ∈ a → c ∈ b) (hl:a.length ≤ b.length):MBig a:=⟨fun c hc=>h.each c (hs c hc),Nat.le_trans hl h.len⟩
theorem qlp {j:Jou} {c:Com} (h:MBig j.coms) (hr:JRight (wQ j c)) (hc:c.small):JBig (wQ j c):=by
 have hl:=hr.len;refine ⟨hr.base.big,⟨fun d hd=>?_,by omega⟩⟩
 have hm:d ∈ j.coms ++ [c]:=by
  unfold wQ at hd;split at hd
  ·exact List.mem_of_mem_drop hd
  ·exact hd
 rcases List.mem_append.1 hm with hm|hm
 ·exact h.each d hm
 ·rw [List.mem_singleton.1 hm];exact hc
theorem Vt {j:Jou} {key:qb} {l:List Chg}:(∃ e, ¬ e = 0 ∧ yx j key l = (YK,0,e)) ∨ (JRight j ∧ kh key = true ∧ ((∃ c,j.coms.find? (isK key) = some c ∧ yx j key l = (j,c.num,0)) ∨ (j.coms.find? (isK key) = none ∧ JRight (wQ j ⟨jV j,key,l⟩) ∧ yx j key l = (wQ j ⟨jV j,key,l⟩,jV j,0)))):=by
 unfold yx;by_cases hz:ki j = 0
 ·rw [if_neg (by simp [hz])];have hJ:=y0.1 hz;unfold xF
  cases hk:kh key with
  | false=>exact .inl ⟨1,by decide,by rw [if_pos rfl]⟩
  | true =>
    rw [if_neg (by decide)]
    cases hf:j.coms.find? (isK key) with
    | some c=>exact .inr ⟨hJ,(by first|rfl|trivial),.inl ⟨c,(by first|rfl|trivial),rfl⟩⟩
    | none =>
      simp only
      by_cases h1:l = []
      ·exact .inl ⟨1,by decide,by rw [if_pos h1]⟩
      ·rw [if_neg h1];by_cases h2:1000000 < jV j
       ·exact .inl ⟨3,by decide,by rw [if_pos h2]⟩
       ·rw [if_neg h2];by_cases h3:(ve (jV j) (vg j) l).2.2 = 0
        ·rw [if_neg (by simp [h3])];exact .inr ⟨hJ,(by first|rfl|trivial),.inr ⟨(by first|rfl|trivial),qgc hJ hk hf h1 (by omega) h3,rfl⟩⟩
        ·rw [if_pos h3];exact .inl ⟨_,h3,rfl⟩
 ·rw [if_pos hz];exact .inl ⟨_,hz,rfl⟩
theorem qfq {j:Jou} {key:qb} {l:List Chg} (hb:JBig j) (hcb:CBig l) (hk:key.length ≤ 1000000000):JBig (yx j key l).1:=by
 rcases Vt (j:=j) (key:=key) (l:=l) with ⟨e,_,h⟩|⟨hJ,_,⟨c,_,h⟩|⟨_,hR,h⟩⟩
 ·rw [h];exact qi1
 ·rw [h];exact hb
 ·rw [h];exact qlp hb.coms hR ⟨hk,hcb⟩
end Go.Proofs.YtgcncinnlmjgdaaGreatDoor
