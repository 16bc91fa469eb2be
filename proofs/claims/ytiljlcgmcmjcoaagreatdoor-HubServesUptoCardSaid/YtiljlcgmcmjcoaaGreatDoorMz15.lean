import Derived.Test.YtiljlcgmcmjcoaaGreatDoorMz14
import Derived.Test.YtiljlcgmcmjcoaaGreatDoorMz6
import Derived.Shelf.Strings.FuncGrows
import Derived.Test.YtiljlcgmcmjcoaaGreatDoorMz12
import Derived.Test.YtiljlcgmcmjcoaaGreatDoorMz7
set_option linter.unusedSimpArgs false
set_option linter.unnecessarySimpa false
set_option linter.unusedVariables false
set_option maxHeartbeats 1000000
namespace Go.Proofs.YtiljlcgmcmjcoaaGreatDoor
open Go.Ab Go.RowKit Go.Shelf
set_option maxRecDepth 10000
def Yk (n:Nat):Bool:=decide (97 ≤ n) && decide (n ≤ 122) || decide (65 ≤ n) && decide (n ≤ 90) || decide (48 ≤ n) && decide (n ≤ 57) || decide (n = 45)
def Y6 (c:UInt8):Bool:=Yk c.toNat
def zo (s:qC):Bool:=decide (1 ≤ s.length) && decide (s.length ≤ 20) && s.all Y6
def qeI:Go.Shelf.Ren:=⟨fun|15=>146|20=>172|n=>n,fun|0=>0|3=>3|4=>4|9=>9|21=>21|23=>187|n=>n,fun|n=>n⟩
theorem qi6:LaysGw.n15 Tryz.prog qeI := {
 mixed:=by kernel_rfl
 f15:=Tryz.func146.trans (congrArg some (by kernel_rfl))
 f20:=Tryz.func172.trans (congrArg some (by kernel_rfl))
 t0:=Tryz.underlying0
 a0:=Tryz.isAgg0
 z0:=Tryz.sizeOf0
 v0:=Tryz.zeroValue0
 i0:=by kernel_rfl
 t3:=Tryz.underlying3
 a3:=Tryz.isAgg3
 z3:=Tryz.sizeOf3
 v3:=Tryz.zeroValue3
 i3:=by kernel_rfl
 t4:=Tryz.underlying4
 a4:=Tryz.isAgg4
 z4:=Tryz.sizeOf4
 v4:=Tryz.zeroValue4
 i4:=by kernel_rfl
 t9:=Tryz.underlying9
 a9:=Tryz.isAgg9
 z9:=Tryz.sizeOf9
 v9:=Tryz.zeroValue9
 i9:=by kernel_rfl
 t21:=Tryz.underlying21
 a21:=Tryz.isAgg21
 z21:=Tryz.sizeOf21
 v21:=Tryz.zeroValue21
 i21:=by kernel_rfl
 t23:=Tryz.underlying187
 a23:=Tryz.isAgg187
 z23:=Tryz.sizeOf187
 v23:=Tryz.zeroValue187
 i23:=by kernel_rfl }
theorem qaL (p:Nat → Bool) (g:FuncId) (fn:Func) (hg:Tryz.prog.funcs[g]? = some fn) (hb:fn.body.isNone = false) (hn:(fn.name == "runtime.NumGoroutine") = false) (cap:List AV) (hcap:AV.pure.pureL cap = true) (hc : ∀ x:Nat,x ≤ 1114111 → jO C.P g (.v (.int .i32 (x:Int)) :: cap) (.v (.bool (p x)))) (s:qC) :
  jO C.P 146 [.v (str s),.clo (.func g) [] cap] (.v (.int .i64 (Lib.idxFunc p true ⟨s.toArray⟩))):=by
 refine qei (by simp [AV.pure,AV.pure.pureL,hcap]) rfl fun F w vs hF hT hm=>?_
 obtain ⟨hl,hm⟩:=hm
 match vs,hl,hm with
 | [v0,v1],_,hm =>
   have h0:=(hm 0 v0 _ rfl rfl).v_inv.1
   obtain ⟨fs,us,hv,hfs,hus⟩:=(hm 1 v1 _ rfl rfl).clo_inv
   obtain rfl:fs = []:=List.eq_nil_of_length_eq_zero hfs.1
   subst h0;subst hv
   refine Any.strings_IndexFunc_grows qi6 g us.toArray (YY hg hb hn) p ⟨s.toArray⟩ w fun W x hx hbel=>?_
   have hAll:AllM F noPlaces (.int .i32 (x:Int) :: us) (.v (.int .i32 (x:Int)) :: cap):=AllM.cons (.v _ _ rfl) hus
   have:Calls Tryz.prog g (Value.int .i32 (x:Int) :: us).toArray W _:=qeL (hc x hx) (w:=W) (fun b o hb=>by
    have h0:=hF b o hb
    rw [hbel.block b (Array.getElem?_eq_some_iff.1 h0).1];exact h0) hT hAll
   simpa [encR] using this
theorem qgh (s:qC):decide (Lib.idxFunc (fun x => !Yk x) true ⟨s.toArray⟩ < 0) = s.all Y6:=by
 have hk : ∀ n,Yk n = true → n < 128:=fun n h=>by simp [Yk] at h;omega
 have step : ∀ (pos:Nat) (h:pos < s.length),(Y6 (s[pos]) = true → Utf8.decode ⟨s.toArray⟩ pos = (s[pos].toNat,1)) ∧ (Y6 (s[pos]) = false → Yk (Utf8.decode ⟨s.toArray⟩ pos).1 = false):=by
  intro pos h
  have hget:((ByteArray.mk s.toArray).get! (pos + 0)) = s[pos]:=by
   simp [ByteArray.get!,h]
  constructor
  ·intro hb
   have:s[pos].toNat < 128:=hk _ hb
   unfold Utf8.decode
   simp only [hget]
   rw [if_pos this]
  ·intro hb
   by_cases h128:s[pos].toNat < 128
   ·unfold Utf8.decode
    simp only [hget]
    rw [if_pos h128]
    exact hb
   ·cases hd:Yk (Utf8.decode ⟨s.toArray⟩ pos).1 with
    | false=>rfl
    | true =>
      have h1:=hk _ hd
      exfalso
      unfold Utf8.decode at h1
      simp only [hget] at h1
      rw [if_neg h128] at h1
      simp only [Utf8.runeError] at h1
      (repeat' split at h1)<;>simp_all<;>omega
 have main : ∀ (f pos:Nat),s.length ≤ pos + f → decide (Lib.idxFuncFrom (fun x => !Yk x) true ⟨s.toArray⟩ f pos < 0) = (s.drop pos).all Y6:=by
  intro f
  induction f with
  | zero =>
    intro pos hp
    rw [List.drop_eq_nil_of_le (by omega)]
    simp [Lib.idxFuncFrom]
  | succ f ih =>
    intro pos hp
    unfold Lib.idxFuncFrom
    by_cases h:pos < s.length
    ·rw [if_pos (by exact h),List.drop_eq_getElem_cons h,List.all_cons]
     cases hb:Y6 s[pos] with
     | true =>
       have hd:=(step pos h).1 hb
       have hb' : Yk s[pos].toNat = true:=hb
       rw [hd]
       simp only [hb',Bool.not_true,Bool.false_eq_true,if_false,Bool.true_and]
       exact ih (pos + 1) (by omega)
     | false =>
       have hd:=(step pos h).2 hb
       simp only [hd,Bool.not_false,if_true,Bool.false_and]
       simp
    ·rw [if_neg (by exact h),List.drop_eq_nil_of_le (by omega)]
     simp
 exact main s.length 0 (by omega)
attribute [local irreducible] Awp ye ji qQ Red qF Go.Ab.Fin qo Rz xx qG qO ResOk jK je jX qW
theorem qfQ (n:Nat):jO C.P 145 [.v (.int .i32 (n:Int))] (.v (.bool (Yk n))):=by
 refine qa Tryz.func145 rfl _ Tryz.ntmps145 (Nat.le_of_ble_eq_true rfl) _ Tryz.results145 0 rfl rfl ?_
 repeat' (first|refine qe ?_|fail|((first|refine qb ?_ ?_|refine qc ?_ ?_|refine xsC ?_ ?_);all_goals (intro hc;have hp:=hc;try simp at hp;try (exfalso;omega)))|refine qp ?_ ?_)
 all_goals (apply jd;rfl;rw [Bool.eq_iff_iff];simp [Yk];try omega)
theorem qgZ (n:Nat):jO C.P 147 [.v (.int .i32 (n:Int)),.fp [[.clo (.func 145) [] []]] 0 0] (.v (.bool (!Yk n))):=by
 have h1:=qfQ n
 refine qa Tryz.func147 rfl _ Tryz.ntmps147 (Nat.le_of_ble_eq_true rfl) _ Tryz.results147 0 rfl rfl ?_
 repeat' (first|refine qe ?_|(first|(refine zO Tryz.func145 (h1 ..) ?_))|((first|refine xsC ?_ ?_);all_goals (intro hc;have hp:=hc;try simp at hp;try (exfalso;omega)))|refine qp ?_ ?_)
 all_goals (apply jd;rfl;rfl)
theorem V8 (s:qC):jO C.P 118 [.v (str s)] (.v (.bool (zo s))):=by
 have hi:=qaL (fun x => !Yk x) 147 _ Tryz.func147 rfl rfl [.fp [[.clo (.func 145) [] []]] 0 0] rfl (fun x _=>qgZ x) s
 have hk:=qgh s
 generalize Lib.idxFunc (fun x => !Yk x) true ⟨s.toArray⟩ = I at *
 refine qa Tryz.func118 rfl _ Tryz.ntmps118 (Nat.le_of_ble_eq_true rfl) _ Tryz.results118 0 rfl rfl ?_
 (repeat apply jg);apply qw;(repeat' (first|apply qT|refine xi ?_|refine xe ?_|refine xj ?_|refine vm ?_|refine xb ?_|refine vZ ?_|refine xX ?_|refine yG ?_|(first|fail)|refine yg ?_|refine j6 ?_|refine j4 ?_|refine jF ?_|refine jG ?_|refine yL ?_|refine yK ?_|refine j7 ?_|refine j8 ?_|((first|refine qb ?_ ?_|refine qc ?_ ?_);all_goals (intro hc;have hp:=hc;try simp at hp;try (exfalso;omega)))));show Awp _ _ _ _ _
 (repeat apply jg);apply qw;(repeat' (first|apply qT|refine xi ?_|refine xe ?_|refine xj ?_|refine vm ?_|refine xb ?_|refine vZ ?_|refine xX ?_|refine yG ?_|(first|fail)|refine yg ?_|refine j6 ?_|refine j4 ?_|refine jF ?_|refine jG ?_|refine yL ?_|refine yK ?_|refine j7 ?_|refine j8 ?_|((first|refine qb ?_ ?_|refine qc ?_ ?_);all_goals (intro hc;have hp:=hc;try simp at hp;try (exfalso;omega)))));show Awp _ _ _ _ _
 refine xV 3 0 ?_
 repeat' (first|refine qe ?_|(first|refine xsF Tryz.func146 (hi ..) ?_)|((first|refine qb ?_ ?_|refine qc ?_ ?_|refine xsC ?_ ?_);all_goals (intro hc;have hp:=hc;try simp at hp;try (exfalso;omega)))|refine qp ?_ ?_)
 all_goals try (exfalso;omega)
 all_goals (apply jd;rfl;rw [Bool.eq_iff_iff];simp only [zo, ← hk];have h1:s.length = 0 ↔ s = []:=List.length_eq_zero_iff;clear hk hi;by_cases h3:s = []<;>first|(exfalso;contradiction)|(simp [h3];done)|(have h4:s.length ≠ 0:=fun e=>h3 (h1.1 e);simp;omega))
theorem qbO (s:qC) (hs:s.length ≤ 4000000000):jO C.P 96 [.v (str s)] (.v (.bool (zo s))):=by
 refine qa Tryz.func96 rfl _ Tryz.ntmps96 (Nat.le_of_ble_eq_true rfl) _ Tryz.results96 0 rfl rfl ?_
 repeat' (first|refine qe ?_|fail|((first|refine qb ?_ ?_|refine qc ?_ ?_|refine xsC ?_ ?_);all_goals (intro hc;have hp:=hc;try simp at hp;try (exfalso;omega)))|refine qp ?_ ?_)
 (refine Awp.red (qg (ts:=[(0,.v (str s)),(3,.v (.int .i64 ((0:Nat):Int)))]) ?_) ?_;((repeat (first|exact qd|refine qi ?_|refine qI ?_ ?_))))
 refine qq (fun n σ => ∃ i:Nat,i ≤ s.length ∧ n = s.length - i ∧ (∀ c,c ∈ s.take i → Y6 c = true) ∧ σ = ⟨[(0,.v (str s)),(3,.v (.int .i64 (i:Int)))],[],C.nh⟩) s.length ⟨0,Nat.zero_le _,rfl,(by simp),rfl⟩ ?_
 rintro n σ ⟨i,hi,rfl,hsofar,rfl⟩
 by_cases hlt:i < s.length
 ·have hr:s[i]? = some s[i]:=List.getElem?_eq_getElem hlt
  have hnx:=qJ (p:=fun c=>Y6 c = true) hlt hsofar
  have hk:Y6 s[i] = Yk s[i].toNat:=rfl
  have hbad:Y6 s[i] = false → zo s = false:=fun h=>by
   have:s.all Y6 = false:=by rw [List.all_eq_false];exact ⟨s[i],List.getElem_mem _,by simp [h]⟩
   simp [zo,this]
  generalize Y6 s[i] = K at *
  generalize s[i] = c at *
  repeat' (first|refine qe ?_|fail|((first|refine qb ?_ ?_|refine qc ?_ ?_|refine xsC ?_ ?_);all_goals (intro hc;have hp:=hc;try simp at hp;try (exfalso;omega)))|refine qp ?_ ?_)
  all_goals try (exfalso;omega)
  all_goals first
   | (apply jd;rfl;exact (hbad (by rw [hk];simp only [Yk];simp;omega)).symm)
   | (refine ⟨s.length - (i + 1),_,by omega,qg (ts:=[(0,.v (str s)),(3,.v (.int .i64 ((i + 1:Nat):Int)))]) ?_,i + 1,by omega,rfl,(hnx (by rw [hk];simp only [Yk];simp;omega)),rfl⟩;((repeat (first|exact qd|refine qi ?_|refine qI ?_ ?_))))
 ·obtain rfl:i = s.length:=by omega
  rw [List.take_length] at hsofar
  have hall:s.all Y6 = true:=List.all_eq_true.2 hsofar
  repeat' (first|refine qe ?_|fail|((first|refine qb ?_ ?_|refine qc ?_ ?_|refine xsC ?_ ?_);all_goals (intro hc;have hp:=hc;try simp at hp;try (exfalso;omega)))|refine qp ?_ ?_)
  all_goals try (exfalso;omega)
  all_goals (apply jd;rfl;rw [Bool.eq_iff_iff];simp only [zo,hall];simp;try omega)
end Go.Proofs.YtiljlcgmcmjcoaaGreatDoor
set_option linter.unusedSimpArgs false
set_option linter.unnecessarySimpa false
set_option linter.unusedVariables false
namespace Go.Proofs.YtiljlcgmcmjcoaaGreatDoor
open Go.Op
structure Com where
 num:Int
 key:qC
 chs:List Chg
 deriving DecidableEq
structure Jou where
 base:List Ent
 first:Int
 coms:List Com
 deriving DecidableEq
def zS (n:Int) (c:Com):Int:=if ¬ c.num = n then 4 else if 1000000 < c.num then 3 else if zo c.key = false ∨ c.chs = [] then 1 else 0
def yP:Int → List Ent → List Com → List Ent × Int
 | _,t,[]=>(t,0)
 | n,t,c :: l=>if ¬ zS n c = 0 then ([],zS n c) else if ¬ (vF c.num t c.chs).2.2 = 0 then ([],(vF c.num t c.chs).2.2) else yP (n + 1) (vF c.num t c.chs).1 l
def kI:List Ent → List Com → List (List Ent)
 | _,[] => []
 | t,c :: l=>(vF c.num t c.chs).1 :: kI (vF c.num t c.chs).1 l
def kP (l:List Com):Bool:=decide ((l.map Com.key).Nodup)
def vM (j:Jou):Int :=
 if ¬ jJ j.base = 0 then jJ j.base else if j.first < 1 ∨ 1000000 < j.first then 3 else if 30 < j.coms.length then 2
 else if ¬ (yP j.first j.base j.coms).2 = 0 then (yP j.first j.base j.coms).2 else if kP j.coms = true then 0 else 6
def vc (j:Jou):List Ent:=(yP j.first j.base j.coms).1
theorem Ka {v:Int} (hv:v8 v = true) : ∀ {l:List Chg} {t:List Ent} {n:Nat},Right t → (VW v t l n).2.2 = 0 → Right (VW v t l n).1
 | [],t,n,h,_=>h
 | c :: l,t,n,h,hz=>by
   unfold VW at hz ⊢
   by_cases hr:kE t c v = 0
   ·rw [if_pos hr] at hz ⊢
    exact Ka hv (qc7 h hv hr) hz
   ·rw [if_neg hr] at hz
    exact absurd hz hr
theorem Jo {v:Int} {t:List Ent} {l:List Chg} (h:Right t):vF v t l = qcX t l v:=by
 rw [qhT,if_neg (by rw [zD.2 h];simp)]
theorem w5 {v:Int} {t:List Ent} {l:List Chg} (h:Right t) (hz:(vF v t l).2.2 = 0):Right (vF v t l).1:=by
 rw [Jo h] at hz ⊢
 unfold qcX at hz ⊢
 split at hz
 ·exact absurd hz (by decide)
 ·split at hz
  ·exact absurd hz (by decide)
  ·rename_i h1 h2
   rw [if_neg h1,if_neg h2]
   cases l with
   | nil=>exact h
   | cons c l =>
     refine Ka ?_ h hz
     cases hv:v8 v with
     | true=>rfl
     | false=>exact absurd ⟨hv,by simp⟩ h2
theorem Vy : ∀ {l:List Com} {n:Int} {t:List Ent},Right t → (yP n t l).2 = 0 → Right (yP n t l).1
 | [],_,_,h,_=>h
 | c :: l,n,t,h,hz=>by
   unfold yP at hz ⊢
   split at hz
   ·rename_i h1;exact absurd hz h1
   ·split at hz
    ·rename_i h1 h2;exact absurd hz h2
    ·rename_i h1 h2
     rw [if_neg h1,if_neg h2]
     exact Vy (w5 h (by simpa using h2)) hz
theorem zt {n:Int} {t:List Ent} {c:Com} {l:List Com} (hz:(yP n t (c :: l)).2 = 0):zS n c = 0 ∧ (vF c.num t c.chs).2.2 = 0 ∧ yP n t (c :: l) = yP (n + 1) (vF c.num t c.chs).1 l:=by
 unfold yP at hz
 split at hz
 ·rename_i h1;exact absurd hz h1
 ·split at hz
  ·rename_i h1 h2;exact absurd hz h2
  ·rename_i h1 h2
   refine ⟨by simpa using h1,by simpa using h2,?_⟩
   rw [yP,if_neg h1,if_neg h2]
theorem z8 {n:Int} {c:Com} (h:zS n c = 0):c.num = n ∧ n ≤ 1000000 ∧ zo c.key = true ∧ ¬ c.chs = []:=by
 unfold zS at h
 split at h
 ·exact absurd h (by decide)
 ·split at h
  ·exact absurd h (by decide)
  ·split at h
   ·exact absurd h (by decide)
   ·rename_i h1 h2 h3
    have h1:c.num = n:=by simpa using h1
    refine ⟨h1,by omega,?_,fun e=>h3 (.inr e)⟩
    cases hk:zo c.key with
    | true=>rfl
    | false=>exact absurd (.inl hk) h3
theorem ZL {n:Int} {t:List Ent} {l:List Com} {i:Nat} (h:i < l.length):yP n t (l.drop i) = if ¬ zS n l[i] = 0 then ([],zS n l[i]) else if ¬ (vF l[i].num t l[i].chs).2.2 = 0 then ([],(vF l[i].num t l[i].chs).2.2) else yP (n + 1) (vF l[i].num t l[i].chs).1 (l.drop (i + 1)):=by
 rw [List.drop_eq_getElem_cons h];rfl
theorem qda {t:List Ent} {l:List Com} {i:Nat} (h:i < l.length):kI t (l.drop i) = (vF l[i].num t l[i].chs).1 :: kI (vF l[i].num t l[i].chs).1 (l.drop (i + 1)):=by
 rw [List.drop_eq_getElem_cons h];rfl
theorem Wh : ∀ (l:List Com) (t:List Ent),(kI t l).length = l.length
 | [],_=>rfl
 | c :: l,t=>by simp [kI,Wh l]
theorem ZB : ∀ {l:List Com} {n:Int} {t:List Ent},(yP n t l).2 = 0 → (t :: kI t l).getLast (by simp) = (yP n t l).1
 | [],_,_,_=>rfl
 | c :: l,n,t,hz=>by
   obtain ⟨h1,h2,h3⟩:=zt hz
   rw [h3] at hz ⊢
   rw [← ZB hz]
   rfl
theorem KT : ∀ {a b:List Com} {n:Int} {t:List Ent},(yP n t a).2 = 0 → yP n t (a ++ b) = yP (n + a.length) (yP n t a).1 b
 | [],b,n,t,_=>by simp [yP]
 | c :: a,b,n,t,hz=>by
   obtain ⟨h1,h2,h3⟩:=zt hz
   rw [h3] at hz ⊢
   have:(c :: a) ++ b = c :: (a ++ b):=rfl
   rw [this,yP,if_neg (by simp [h1]),if_neg (by simp [h2]),KT hz]
   congr 1
   simp;omega
theorem KQ : ∀ {l:List Com} {n:Int} {t:List Ent},(yP n t l).2 = 0 → ∀ i (h:i < l.length),l[i].num = n + i ∧ n + i ≤ 1000000 ∧ zo l[i].key = true ∧ ¬ l[i].chs = []
 | c :: l,n,t,hz,0,h=>by
   have:=z8 (zt hz).1
   simpa using this
 | c :: l,n,t,hz,i + 1,h=>by
   obtain ⟨h1,h2,h3⟩:=zt hz
   rw [h3] at hz
   have:=KQ hz i (by simpa using h)
   simp only [List.getElem_cons_succ]
   refine ⟨by omega,by omega,this.2.2⟩
theorem Zb {v:Int} {t:List Ent} {l:List Chg} (h:Right t) (hz:(vF v t l).2.2 = 0):l.length ≤ 20:=by
 rw [Jo h] at hz
 unfold qcX at hz
 split at hz
 ·exact absurd hz (by decide)
 ·omega
theorem wP : ∀ {l:List Com} {n:Int} {t:List Ent},Right t → (yP n t l).2 = 0 → ∀ c,c ∈ l → c.chs.length ≤ 20
 | c :: l,n,t,h,hz,d,hd=>by
   obtain ⟨h1,h2,h3⟩:=zt hz
   rw [h3] at hz
   rcases List.mem_cons.1 hd with rfl|hd
   ·exact Zb h h2
   ·exact wP (w5 h h2) hz d hd
structure JRight (j:Jou):Prop where
 base:Right j.base
 lo:1 ≤ j.first
 hi:j.first ≤ 1000000
 len:j.coms.length ≤ 30
 run:(yP j.first j.base j.coms).2 = 0
 keys:(j.coms.map Com.key).Nodup
theorem xE {j:Jou}:vM j = 0 ↔ JRight j:=by
 unfold vM
 constructor
 ·intro h
  split at h
  ·rename_i h1;exact absurd h h1
  ·split at h
   ·exact absurd h (by decide)
   ·split at h
    ·exact absurd h (by decide)
    ·split at h
     ·rename_i h1;exact absurd h h1
     ·split at h
      ·rename_i h1 h2 h3 h4 h5
       exact ⟨zD.1 (by simpa using h1),by omega,by omega,by omega,by simpa using h4,of_decide_eq_true h5⟩
      ·exact absurd h (by decide)
 ·intro h
  rw [if_neg (by simp [zD.2 h.base]),if_neg (by have:=h.lo;have:=h.hi;omega),if_neg (by have:=h.len;omega),if_neg (by simp [h.run]),if_pos (by simp [kP,h.keys])]
theorem JRight.now {j:Jou} (h:JRight j):Right (vc j):=Vy h.base h.run
def vy (j:Jou):Int:=j.first + j.coms.length - 1
def kH:Jou:=⟨[],0,[]⟩
def isK (k:qC) (c:Com):Bool:=decide (c.key = k)
def ya (j:Jou):Int:=vy j + 1
theorem Zn (j:Jou):ya j = j.first + j.coms.length:=by unfold ya vy;omega
def kv (j:Jou) (c:Com):Jou :=
 if 30 < j.coms.length + 1 then ⟨match j.coms with | []=>j.base|d :: _=>(vF j.first j.base d.chs).1,j.first + 1,(j.coms ++ [c]).drop 1⟩ else ⟨j.base,j.first,j.coms ++ [c]⟩
def xU (j:Jou) (key:qC) (l:List Chg):Jou × Int × Int :=
 if zo key = false then (kH,0,1) else match j.coms.find? (isK key) with
 | some c=>(j,c.num,0)
 | none=>if l = [] then (kH,0,1) else if 1000000 < ya j then (kH,0,3) else if ¬ (vF (ya j) (vc j) l).2.2 = 0 then (kH,0,(vF (ya j) (vc j) l).2.2)
   else (kv j ⟨ya j,key,l⟩,ya j,0)
def xr (j:Jou) (key:qC) (l:List Chg):Jou × Int × Int:=if ¬ vM j = 0 then (kH,0,vM j) else xU j key l
structure Pag where
 reset:Bool
 tree:List Ent
 coms:List Com
 cur:Int
 more:Bool
 deriving DecidableEq
def wu:Pag:=⟨false,[],[],0,false⟩
def Xe (j:Jou) (cursor most:Int):List Com:=(j.coms.drop (cursor - j.first + 1).toNat).take most.toNat
def QA (j:Jou) (cursor most:Int):Pag × Int :=
 if most < 1 ∨ 10 < most ∨ cursor < 0 then (wu,3) else if vy j < cursor then (wu,5) else if cursor < j.first - 1 then (⟨true,vc j,[],vy j,false⟩,0)
 else (⟨false,[],Xe j cursor most,cursor + (Xe j cursor most).length,decide (cursor + (Xe j cursor most).length < vy j)⟩,0)
def Y3 (j:Jou) (cursor most:Int):Pag × Int:=if ¬ vM j = 0 then (wu,vM j) else QA j cursor most
theorem qgI {l:List Com} {k:qC} (h:l.find? (isK k) = none):¬ k ∈ l.map Com.key:=fun hm=>by
 obtain ⟨c,hc,rfl⟩:=List.mem_map.1 hm
 have:=List.find?_eq_none.1 h c hc
 simp [isK] at this
theorem qdc {j:Jou} {key:qC} {l:List Chg} (h:JRight j) (hk:zo key = true) (hf:j.coms.find? (isK key) = none) (hl:¬ l = []) (hn:ya j ≤ 1000000) (hz:(vF (ya j) (vc j) l).2.2 = 0):JRight (kv j ⟨ya j,key,l⟩):=by
 have hrun:(yP j.first j.base (j.coms ++ [(⟨ya j,key,l⟩ : Com)])).2 = 0:=by
  rw [KT h.run]
  have h0:zS (j.first + j.coms.length) ⟨ya j,key,l⟩ = 0:=by
   unfold zS
   rw [Zn] at hn ⊢
   rw [if_neg (by simp),if_neg (by simp;omega),if_neg (by simp [hk,hl])]
  rw [yP,if_neg (by simp [h0]),if_neg (by rw [show (yP j.first j.base j.coms).1 = vc j from rfl];simp only;rw [hz];simp)]
  rfl
 have hkeys:((j.coms ++ [(⟨ya j,key,l⟩ : Com)]).map Com.key).Nodup:=by
  rw [List.map_append,List.nodup_append]
  refine ⟨h.keys,by simp,fun a ha b hb=>?_⟩
  have hb:b = key:=by simpa using hb
  subst hb
  rintro rfl
  exact qgI hf ha
 unfold kv
 split
 ·rename_i h31
  cases hc:j.coms with
  | nil=>rw [hc] at h31;simp at h31
  | cons d r =>
    rw [hc] at hrun hkeys
    obtain ⟨h1,h2,h3⟩:=zt (c:=d) (l:=r ++ [⟨ya j,key,l⟩]) hrun
    rw [List.cons_append,h3] at hrun
    have hd:=z8 h1
    have hlen:=h.len
    rw [hc] at hlen
    refine ⟨?_,?_,?_,?_,?_,?_⟩
    ·show Right (vF j.first j.base d.chs).1
     rw [← hd.1];exact w5 h.base h2
    ·have:=h.lo;show 1 ≤ j.first + 1;omega
    ·show j.first + 1 ≤ 1000000
     have:ya j = j.first + (j.coms.length:Int):=Zn j
     rw [hc] at this
     simp at this;omega
    ·simp at hlen ⊢;omega
    ·show (yP (j.first + 1) (vF j.first j.base d.chs).1 (((d :: r) ++ [_]).drop 1)).2 = 0
     rw [List.cons_append,List.drop_succ_cons,List.drop_zero]
     rw [← hd.1]
     rw [← hd.1] at hrun
     exact hrun
    ·rw [List.cons_append,List.drop_succ_cons,List.drop_zero]
     rw [List.cons_append,List.map_cons,List.nodup_cons] at hkeys
     exact hkeys.2
 ·refine ⟨h.base,h.lo,h.hi,?_,hrun,hkeys⟩
  simp;omega
end Go.Proofs.YtiljlcgmcmjcoaaGreatDoor
set_option linter.unusedSimpArgs false
set_option linter.unusedVariables false
namespace Go.Proofs.YtiljlcgmcmjcoaaGreatDoor
open Go.Ab Go.RowKit
def Com.row (c:Com):List AV:=[.v (.int .i64 c.num),.v (str c.key),xu c.chs]
def kg (l:List Com):AV := .sl false (l.map Com.row)
def Jou.row (j:Jou):List AV:=[qr j.base,.v (.int .i64 j.first),kg j.coms]
def Pag.row (p:Pag):List AV:=[.v (.bool p.reset),qr p.tree,kg p.coms,.v (.int .i64 p.cur),.v (.bool p.more)]
structure Com.small (c:Com):Prop where
 key:c.key.length ≤ 1000000000
 chs:CBig c.chs
structure MBig (l:List Com):Prop where
 each : ∀ c,c ∈ l → c.small
 len:l.length ≤ 1000000000
structure JBig (j:Jou):Prop where
 base:EBig j.base
 coms:MBig j.coms
structure PBig (p:Pag):Prop where
 tree:EBig p.tree
 coms:MBig p.coms
theorem qhG {n:Nat} {xs:List AV} (h:kp C.tab 1000000000 n 70 xs) : ∃ s:Com,xs = s.row ∧ s.small:=by
 cases n with
 | zero=>exact h.elim
 | succ n =>
   obtain ⟨_,_,rfl,h0,_,_,rfl,h1,_,_,rfl,h2,rfl⟩:=(show wv C.tab 0 _ = some _ → X3 (kp C.tab 1000000000 n) [(0,3),(1,9),(2,38)] xs from h) rfl
   obtain ⟨a0,rfl,_⟩:=vu h0
   obtain ⟨a1,rfl,l1⟩:=vO h1
   obtain ⟨a2,rfl,l2⟩:=qaN h2
   exact ⟨⟨a0,a1,a2⟩,rfl,l1,l2⟩
theorem qgc {n:Nat} {xs:List AV} (h:kp C.tab 1000000000 n 42 xs) : ∃ t:List Com,xs = [kg t] ∧ MBig t:=by
 cases n with
 | zero=>exact h.elim
 | succ n =>
   obtain ⟨rows,he,hb,hr⟩:=(show (3:Nat) ≠ 0 → ∃ rows,xs = [AV.sl false rows] ∧ rows.length * 48 ≤ 1000000000 ∧ ∀ row,row ∈ rows → kp C.tab 1000000000 n 70 row from h) (by decide)
   obtain ⟨l,rfl,hl⟩:=w8 (f:=Com.row) (ok:=Com.small) (fun row hrow=>qhG (hr row hrow))
   refine ⟨l,he,hl,?_⟩
   simp at hb;omega
theorem qhh {n:Nat} {xs:List AV} (h:kp C.tab 1000000000 n 60 xs) : ∃ j:Jou,xs = j.row ∧ JBig j:=by
 cases n with
 | zero=>exact h.elim
 | succ n =>
   obtain ⟨_,_,rfl,h0,_,_,rfl,h1,_,_,rfl,h2,rfl⟩:=(show wv C.tab 0 _ = some _ → X3 (kp C.tab 1000000000 n) [(0,41),(1,3),(2,42)] xs from h) rfl
   obtain ⟨a0,rfl,l0⟩:=qf3 h0
   obtain ⟨a1,rfl,_⟩:=vu h1
   obtain ⟨a2,rfl,l2⟩:=qgc h2
   exact ⟨⟨a0,a1,a2⟩,rfl,l0,l2⟩
end Go.Proofs.YtiljlcgmcmjcoaaGreatDoor
set_option linter.unusedSimpArgs false
set_option linter.unnecessarySimpa false
set_option linter.unusedVariables false
namespace Go.Proofs.YtiljlcgmcmjcoaaGreatDoor
theorem qeb:JBig kH:=⟨⟨by simp [kH],by simp [kH]⟩,⟨by simp [kH],by simp [kH]⟩⟩
theorem MBig.sub {a b:List Com} (h:MBig b) (hs : ∀ c,c ∈ a → c ∈ b) (hl:a.length ≤ b.length):MBig a:=⟨fun c hc=>h.each c (hs c hc),Nat.le_trans hl h.len⟩
theorem qgn {j:Jou} {c:Com} (h:MBig j.coms) (hr:JRight (kv j c)) (hc:c.small):JBig (kv j c):=by
 have hl:=hr.len
 refine ⟨hr.base.big,⟨fun d hd=>?_,by omega⟩⟩
 have hm:d ∈ j.coms ++ [c]:=by
  unfold kv at hd
  split at hd
  ·exact List.mem_of_mem_drop hd
  ·exact hd
 rcases List.mem_append.1 hm with hm|hm
 ·exact h.each d hm
 ·rw [List.mem_singleton.1 hm];exact hc
theorem Xt {j:Jou} {key:qC} {l:List Chg}:(∃ e, ¬ e = 0 ∧ xr j key l = (kH,0,e)) ∨ (JRight j ∧ zo key = true ∧ ((∃ c,j.coms.find? (isK key) = some c ∧ xr j key l = (j,c.num,0)) ∨ (j.coms.find? (isK key) = none ∧ JRight (kv j ⟨ya j,key,l⟩) ∧ xr j key l = (kv j ⟨ya j,key,l⟩,ya j,0)))):=by
 unfold xr
 by_cases hz:vM j = 0
 ·rw [if_neg (by simp [hz])]
  have hJ:=xE.1 hz
  unfold xU
  cases hk:zo key with
  | false=>exact .inl ⟨1,by decide,by rw [if_pos rfl]⟩
  | true =>
    rw [if_neg (by decide)]
    cases hf:j.coms.find? (isK key) with
    | some c=>exact .inr ⟨hJ,(by first|rfl|trivial),.inl ⟨c,(by first|rfl|trivial),rfl⟩⟩
    | none =>
      simp only
      by_cases h1:l = []
      ·exact .inl ⟨1,by decide,by rw [if_pos h1]⟩
      ·rw [if_neg h1]
       by_cases h2:1000000 < ya j
       ·exact .inl ⟨3,by decide,by rw [if_pos h2]⟩
       ·rw [if_neg h2]
        by_cases h3:(vF (ya j) (vc j) l).2.2 = 0
        ·rw [if_neg (by simp [h3])]
         exact .inr ⟨hJ,(by first|rfl|trivial),.inr ⟨(by first|rfl|trivial),qdc hJ hk hf h1 (by omega) h3,rfl⟩⟩
        ·rw [if_pos h3]
         exact .inl ⟨_,h3,rfl⟩
 ·rw [if_pos hz]
  exact .inl ⟨_,hz,rfl⟩
theorem qcn {j:Jou} {key:qC} {l:List Chg} (hb:JBig j) (hcb:CBig l) (hk:key.length ≤ 1000000000):JBig (xr j key l).1:=by
 rcases Xt (j:=j) (key:=key) (l:=l) with ⟨e,_,h⟩|⟨hJ,_,⟨c,_,h⟩|⟨_,hR,h⟩⟩
 ·rw [h];exact qeb
 ·rw [h];exact hb
 ·rw [h];exact qgn hb.coms hR ⟨hk,hcb⟩
end Go.Proofs.YtiljlcgmcmjcoaaGreatDoor
