import Derived.Test.YtahbbnfmbohmmaaDoorMz1
import Derived.Lib.AtoiAllCases
import Derived.Lib.ItoaNum
set_option linter.unusedVariables false
set_option linter.unusedSimpArgs false
namespace Go.Proofs.YtahbbnfmbohmmaaDoor
theorem zN {k:Nat} (h:k < 10):Lib.decDigits k = [UInt8.ofNat (48 + k)]:=by rw [Lib.decDigits,dif_pos h]
theorem QY {k:Nat} (h:¬ k < 10):Lib.decDigits k = Lib.decDigits (k / 10) ++ [UInt8.ofNat (48 + k % 10)]:=by rw [Lib.decDigits,dif_neg h]
theorem vH (k:Nat) : ∀ c,c ∈ Lib.decDigits k → 48 ≤ c.toNat ∧ c.toNat ≤ 57:=by
 induction k using Nat.strongRecOn with
 | _ k ih =>
   intro c hc
   by_cases h:k < 10
   ·rw [zN h] at hc
    simp only [List.mem_singleton] at hc
    subst hc
    simp only [UInt8.toNat_ofNat']
    omega
   ·rw [QY h] at hc
    rcases List.mem_append.1 hc with hc|hc
    ·exact ih (k / 10) (by omega) c hc
    ·simp only [List.mem_singleton] at hc
     subst hc
     simp only [UInt8.toNat_ofNat']
     omega
theorem VD (k:Nat):Lib.decDigits k ≠ []:=by
 by_cases h:k < 10
 ·rw [zN h];simp
 ·rw [QY h];simp
theorem YB : ∀ (l:qh) (acc v:Nat) (c:UInt8),Lib.parseUint10 acc l = .ok v → 48 ≤ c.toNat → c.toNat ≤ 57 → v * 10 + (c.toNat - 48) < 18446744073709551616 → Lib.parseUint10 acc (l ++ [c]) = .ok (v * 10 + (c.toNat - 48))
 | [],acc,v,c,h,h1,h2,h3=>by
   simp only [Lib.parseUint10] at h
   injection h with h
   subst h
   simp only [List.nil_append,Lib.parseUint10,h1,h2,and_self,if_true]
   rw [if_neg (by omega),if_neg (by omega)]
 | b :: r,acc,v,c,h,h1,h2,h3=>by
   simp only [Lib.parseUint10,List.cons_append] at h ⊢
   split at h
   ·rename_i hb
    rw [if_pos hb]
    split at h
    ·cases h
    ·rename_i hb1
     rw [if_neg hb1]
     split at h
     ·cases h
     ·rename_i hb2
      rw [if_neg hb2]
      exact YB r _ v c h h1 h2 h3
   ·cases h
theorem Wf (u:Nat) (hu:u < 18446744073709551616):Lib.parseUint10 0 (Lib.decDigits u) = .ok u:=by
 induction u using Nat.strongRecOn with
 | _ u ih =>
   by_cases h:u < 10
   ·rw [zN h]
    have h1:(UInt8.ofNat (48 + u)).toNat = 48 + u:=by simp only [UInt8.toNat_ofNat'];omega
    have:=YB [] 0 0 (UInt8.ofNat (48 + u)) rfl (by omega) (by omega) (by omega)
    rw [List.nil_append] at this
    rw [this,h1]
    congr 1
    omega
   ·rw [QY h]
    have h1:(UInt8.ofNat (48 + u % 10)).toNat = 48 + u % 10:=by simp only [UInt8.toNat_ofNat'];omega
    rw [YB _ 0 (u / 10) _ (ih (u / 10) (by omega) (by omega)) (by omega) (by omega) (by omega),h1]
    congr 1
    omega
def xN (n:Int):Prop := -9223372036854775808 ≤ n ∧ n ≤ 9223372036854775807
theorem XD {n:Int} (h:xN n):Lib.atoiAll (Lib.itoa n) = .ok n:=by
 obtain ⟨h0,h1⟩:=h
 have pm : ∀ u,u < 18446744073709551616 → Lib.parseMag (Lib.decDigits u) = .ok u:=fun u hu=>by
  unfold Lib.parseMag
  rw [if_neg (VD u),Wf u hu]
 unfold Lib.itoa
 split
 ·rw [Lib.atoiAll_minus,pm _ (by omega)]
  simp only [Lib.signed]
  rw [if_neg (by omega)]
  congr 1
  omega
 ·have hpm:=pm n.toNat (by omega)
  have hd:=vH n.toNat
  cases hl:Lib.decDigits n.toNat with
  | nil=>exact absurd hl (VD _)
  | cons c r =>
    rw [hl] at hpm hd
    have:=hd c (by simp)
    rw [Lib.atoiAll_plain c r (by omega) (by omega),hpm]
    simp only [Lib.signless]
    rw [if_neg (by omega)]
    congr 1
    omega
theorem XX (n:Int):(59:UInt8) ∉ Lib.itoa n:=by
 intro h
 unfold Lib.itoa at h
 have hd : ∀ k,(59:UInt8) ∉ Lib.decDigits k:=fun k hk=>by
  have:=(vH k _ hk).2
  simp at this
 split at h
 ·rcases List.mem_cons.1 h with h|h
  ·cases h
  ·exact hd _ h
 ·exact hd _ h
def jJ (n:Int):qh:=Lib.itoa n ++ [59]
def vx:qh → Option (qh × qh)
 | []=>none
 | c :: r=>if c = 59 then some ([],r) else match vx r with
   | none=>none
   | some (a,b)=>some (c :: a,b)
theorem JB : ∀ (t r:qh),(59:UInt8) ∉ t → vx (t ++ 59 :: r) = some (t,r)
 | [],r,_=>by simp [vx]
 | c :: t,r,h=>by
   simp only [List.mem_cons,not_or] at h
   show (if c = 59 then some ([],t ++ 59 :: r) else match vx (t ++ 59 :: r) with|none=>none|some (a,b)=>some (c :: a,b)) = _
   rw [if_neg (fun e=>h.1 e.symm),JB t r h.2]
theorem zb : ∀ {s t r:qh},vx s = some (t,r) → s = t ++ 59 :: r ∧ (59:UInt8) ∉ t
 | [],t,r,h=>by cases h
 | c :: s,t,r,h=>by
   unfold vx at h
   split at h
   ·rename_i hc
    injection h with h
    injection h with h1 h2
    subst h1 h2 hc
    exact ⟨rfl,by simp⟩
   ·rename_i hc
    split at h
    ·cases h
    ·rename_i a b hab
     injection h with h
     injection h with h1 h2
     subst h1 h2
     obtain ⟨e,hn⟩:=zb hab
     rw [e]
     refine ⟨rfl,?_⟩
     simp only [List.mem_cons,not_or]
     exact ⟨fun e=>hc e.symm,hn⟩
def jd (s:qh):Option (Int × qh) :=
 match vx s with
 | none=>none
 | some (t,r)=>match Lib.atoiAll t with
   | .ok n=>if Lib.itoa n = t then some (n,r) else none
   | _=>none
theorem wQ {n:Int} (h:xN n) (r:qh):jd (jJ n ++ r) = some (n,r):=by
 have e:jJ n ++ r = Lib.itoa n ++ 59 :: r:=by simp [jJ]
 unfold jd
 rw [e,JB _ _ (XX n)]
 simp only [XD h,if_true]
theorem xZ {s r:qh} {n:Int} (h:jd s = some (n,r)):s = jJ n ++ r ∧ xN n:=by
 unfold jd at h
 split at h
 ·cases h
 ·rename_i t r' hc
  split at h
  ·rename_i m hm
   split at h
   ·rename_i he
    injection h with h
    injection h with h1 h2
    subst h1 h2
    exact ⟨by rw [(zb hc).1, ← he];simp [jJ],Lib.atoiAll_bounds hm⟩
   ·cases h
  ·cases h
structure Rd {α:Type} (p:qh → Option (α × qh)) (T:α → qh) (L:α → Prop):Prop where
 to : ∀ x r,L x → p (T x ++ r) = some (x,r)
 of : ∀ s x r,p s = some (x,r) → s = T x ++ r ∧ L x
theorem rd_num:Rd jd jJ xN:=⟨fun _ r h=>wQ h r,fun _ _ _ h=>xZ h⟩
def yK (most:Int) (s:qh):Option (Int × qh) :=
 match jd s with
 | none=>none
 | some (n,r)=>if n < 0 ∨ most < n then none else some (n,r)
theorem JA {n most:Int} (h0:0 ≤ n) (h1:n ≤ most) (h2:xN n) (r:qh):yK most (jJ n ++ r) = some (n,r):=by
 unfold yK
 rw [wQ h2]
 simp only
 rw [if_neg (by omega)]
theorem yL {most n:Int} {s r:qh} (h:yK most s = some (n,r)):s = jJ n ++ r ∧ xN n ∧ 0 ≤ n ∧ n ≤ most:=by
 unfold yK at h
 split at h
 ·cases h
 ·rename_i m r' hm
  split at h
  ·cases h
  ·rename_i hb
   injection h with h
   injection h with h1 h2
   subst h1 h2
   obtain ⟨e,hi⟩:=xZ hm
   exact ⟨e,hi,by omega,by omega⟩
def xM (t:qh):qh:=jJ t.length ++ t
def qI (s:qh):Option (qh × qh) :=
 match yK s.length s with
 | none=>none
 | some (n,r)=>if (r.length:Int) < n then none else some (r.take n.toNat,r.drop n.toNat)
def kC (t:qh):Prop:=t.length ≤ 9223372036854775807
theorem rd_txt:Rd qI xM kC where
 to t r h:=by
  unfold qI
  have e:xM t ++ r = jJ t.length ++ (t ++ r):=by simp [xM]
  rw [e,JA (by omega) (by simp;omega) ⟨by omega,by unfold kC at h;omega⟩]
  simp only
  rw [if_neg (by simp;omega)]
  simp
 of s t r h:=by
  unfold qI at h
  split at h
  ·cases h
  ·rename_i n r' hc
   split at h
   ·cases h
   ·rename_i hb
    injection h with h
    injection h with h1 h2
    subst h1 h2
    obtain ⟨e,hi,h0,_⟩:=yL hc
    have hl:(r'.take n.toNat).length = n.toNat:=by rw [List.length_take];omega
    refine ⟨?_,?_⟩
    ·unfold xM
     rw [hl,List.append_assoc,List.take_append_drop,e]
     congr 2
     omega
    ·unfold kC
     rw [hl]
     have:=hi.2
     omega
def jK {α:Type} (p:qh → Option (α × qh)) (s:qh):Nat → Option (List α × qh)
 | 0=>some ([],s)
 | i + 1=>match jK p s i with
   | none=>none
   | some (l,r)=>match p r with
     | none=>none
     | some (x,r')=>some (l ++ [x],r')
theorem Xn {α:Type} {p:qh → Option (α × qh)} {T:α → qh} {L:α → Prop} (h:Rd p T L) (l:List α) (hl : ∀ x,x ∈ l → L x) (rest:qh) : ∀ i,i ≤ l.length → jK p (l.flatMap T ++ rest) i = some (l.take i,(l.drop i).flatMap T ++ rest)
 | 0,_=>by simp [jK]
 | i + 1,hi=>by
   have hi' : i < l.length:=hi
   unfold jK
   rw [Xn h l hl rest i (by omega)]
   simp only
   rw [List.drop_eq_getElem_cons hi',List.flatMap_cons,List.append_assoc,h.to _ _ (hl _ (List.getElem_mem _))]
   simp only
   rw [List.take_succ_eq_append_getElem hi']
theorem Xm {α:Type} {p:qh → Option (α × qh)} {T:α → qh} {L:α → Prop} (h:Rd p T L) (s:qh) : ∀ i l r,jK p s i = some (l,r) → s = l.flatMap T ++ r ∧ l.length = i ∧ ∀ x,x ∈ l → L x
 | 0,l,r,hr=>by
   simp only [jK] at hr
   injection hr with hr
   injection hr with h1 h2
   subst h1 h2
   exact ⟨rfl,rfl,by simp⟩
 | i + 1,l,r,hr=>by
   unfold jK at hr
   split at hr
   ·cases hr
   ·rename_i l' r' hp
    split at hr
    ·cases hr
    ·rename_i x r'' hx
     injection hr with hr
     injection hr with h1 h2
     subst h1 h2
     obtain ⟨e,hl,ha⟩:=Xm h s i l' r' hp
     obtain ⟨e2,hx2⟩:=h.of _ _ _ hx
     refine ⟨?_,by simp [hl],?_⟩
     ·rw [e,e2];simp
     ·intro y hy
      rcases List.mem_append.1 hy with hy|hy
      ·exact ha y hy
      ·simp only [List.mem_singleton] at hy
       exact hy ▸ hx2
def wM {α:Type} (p:qh → Option (α × qh)) (most:Nat) (s:qh):Option (List α × qh) :=
 match yK most s with
 | none=>none
 | some (n,r)=>jK p r n.toNat
def JR {α:Type} (T:α → qh) (l:List α):qh:=jJ l.length ++ l.flatMap T
def JQ {α:Type} (L:α → Prop) (most:Nat) (l:List α):Prop:=l.length ≤ most ∧ ∀ x,x ∈ l → L x
theorem KK {α:Type} {p:qh → Option (α × qh)} {T:α → qh} {L:α → Prop} (h:Rd p T L) {most:Nat} (hm:most ≤ 1000):Rd (wM p most) (JR T) (JQ L most) where
 to l r hl:=by
  obtain ⟨h1,h2⟩:=hl
  unfold wM JR
  rw [List.append_assoc,JA (by omega) (by omega) ⟨by omega,by omega⟩]
  simp only
  rw [show ((l.length:Nat):Int).toNat = l.length by omega,Xn h l h2 r l.length (Nat.le_refl _)]
  simp
 of s l r hp:=by
  unfold wM at hp
  split at hp
  ·cases hp
  ·rename_i n r' hc
   obtain ⟨e,hi,h0,h1⟩:=yL hc
   obtain ⟨e2,hl,ha⟩:=Xm h r' n.toNat l r hp
   refine ⟨?_,by omega,ha⟩
   unfold JR
   rw [hl,List.append_assoc, ← e2,e]
   congr 2
   omega
def vw (s:qh):Option (Chg × qh) :=
 match jd s with
 | none=>none
 | some (a,s)=>match qI s with
   | none=>none
   | some (b,s)=>match qI s with
     | none=>none
     | some (c,s)=>match qI s with
       | none=>none
       | some (d,s)=>match jd s with
         | none=>none
         | some (e,s)=>some (⟨a,b,c,d,e⟩,s)
def QW (c:Chg):qh:=jJ c.kind ++ (xM c.path ++ (xM c.to ++ (xM c.text ++ jJ c.base)))
def ZB (c:Chg):Prop:=xN c.kind ∧ kC c.path ∧ kC c.to ∧ kC c.text ∧ xN c.base
theorem rd_chg:Rd vw QW ZB where
 to c r h:=by
  obtain ⟨h1,h2,h3,h4,h5⟩:=h
  unfold vw QW
  simp only [List.append_assoc,rd_num.to _ _ h1,rd_txt.to _ _ h2,rd_txt.to _ _ h3,rd_txt.to _ _ h4,rd_num.to _ _ h5]
 of s c r h:=by
  unfold vw at h
  repeat' (split at h)
  all_goals first
   | cases h;done
   | skip
  rename_i h1 _ _ _ h2 _ _ _ h3 _ _ _ h4 _ _ _ h5
  injection h with h
  injection h with e1 e2
  subst e1 e2
  obtain ⟨q1,l1⟩:=rd_num.of _ _ _ h1
  obtain ⟨q2,l2⟩:=rd_txt.of _ _ _ h2
  obtain ⟨q3,l3⟩:=rd_txt.of _ _ _ h3
  obtain ⟨q4,l4⟩:=rd_txt.of _ _ _ h4
  obtain ⟨q5,l5⟩:=rd_num.of _ _ _ h5
  refine ⟨?_,l1,l2,l3,l4,l5⟩
  rw [q1,q2,q3,q4,q5]
  simp [QW]
def vq (s:qh):Option (List Chg × qh):=wM vw 20 s
def Y9 (l:List Chg):qh:=JR QW l
def Vy (l:List Chg):Prop:=JQ ZB 20 l
theorem rd_chgs:Rd vq Y9 Vy:=KK rd_chg (by decide)
def zD (s:qh):Option (Rqt × qh) :=
 match jd s with
 | none=>none
 | some (a,s)=>match qI s with
   | none=>none
   | some (b,s)=>match qI s with
     | none=>none
     | some (c,s)=>match qI s with
       | none=>none
       | some (d,s)=>match qI s with
         | none=>none
         | some (e,s)=>match qI s with
           | none=>none
           | some (f,s)=>match jd s with
             | none=>none
             | some (g,s)=>match jd s with
               | none=>none
               | some (h,s)=>match jd s with
                 | none=>none
                 | some (i,s)=>match vq s with
                   | none=>none
                   | some (j,s)=>some (⟨a,b,c,d,e,f,g,h,i,j⟩,s)
def J7 (r:Rqt):qh:=jJ r.kind ++ (xM r.who ++ (xM r.folder ++ (xM r.name ++ (xM r.key ++ (xM r.text ++ (jJ r.number ++ (jJ r.offset ++ (jJ r.base ++ Y9 r.chs))))))))
def KL (r:Rqt):Prop:=xN r.kind ∧ kC r.who ∧ kC r.folder ∧ kC r.name ∧ kC r.key ∧ kC r.text ∧ xN r.number ∧ xN r.offset ∧ xN r.base ∧ Vy r.chs
theorem rd_rqt:Rd zD J7 KL where
 to c r h:=by
  obtain ⟨h1,h2,h3,h4,h5,h6,h7,h8,h9,h10⟩:=h
  unfold zD J7
  simp only [List.append_assoc,rd_num.to _ _ h1,rd_txt.to _ _ h2,rd_txt.to _ _ h3,rd_txt.to _ _ h4,rd_txt.to _ _ h5,rd_txt.to _ _ h6,rd_num.to _ _ h7,rd_num.to _ _ h8,rd_num.to _ _ h9,rd_chgs.to _ _ h10]
 of s c r h:=by
  unfold zD at h
  repeat' (split at h)
  all_goals first
   | cases h;done
   | skip
  rename_i h1 _ _ _ h2 _ _ _ h3 _ _ _ h4 _ _ _ h5 _ _ _ h6 _ _ _ h7 _ _ _ h8 _ _ _ h9 _ _ _ h10
  injection h with h
  injection h with e1 e2
  subst e1 e2
  obtain ⟨q1,l1⟩:=rd_num.of _ _ _ h1
  obtain ⟨q2,l2⟩:=rd_txt.of _ _ _ h2
  obtain ⟨q3,l3⟩:=rd_txt.of _ _ _ h3
  obtain ⟨q4,l4⟩:=rd_txt.of _ _ _ h4
  obtain ⟨q5,l5⟩:=rd_txt.of _ _ _ h5
  obtain ⟨q6,l6⟩:=rd_txt.of _ _ _ h6
  obtain ⟨q7,l7⟩:=rd_num.of _ _ _ h7
  obtain ⟨q8,l8⟩:=rd_num.of _ _ _ h8
  obtain ⟨q9,l9⟩:=rd_num.of _ _ _ h9
  obtain ⟨q10,l10⟩:=rd_chgs.of _ _ _ h10
  refine ⟨?_,l1,l2,l3,l4,l5,l6,l7,l8,l9,l10⟩
  rw [q1,q2,q3,q4,q5,q6,q7,q8,q9,q10]
  simp [J7]
structure WS where
 s:qh
 g:Bool
 f:Bool
def zA (n:Int):Bool:=decide (n < -1099511627776) || decide (1099511627776 < n)
def WS.num (w:WS) (n:Int):WS:=⟨w.s ++ jJ n,w.g,w.f || zA n⟩
def WS.nums (w:WS) (l:List Int):WS:=l.foldl WS.num w
def WS.txt (w:WS) (t:qh):WS:=⟨w.s ++ xM t,w.g || decide (1000 < t.length),w.f || zA t.length⟩
def WS.txts (w:WS) (l:List qh):WS:=l.foldl WS.txt w
def WS.lst {α:Type} (w:WS) (l:List α) (most:Nat) (step:WS → α → WS):WS:=if (w.g || decide (most < l.length)) = true then ⟨w.s,true,w.f⟩ else l.foldl step (w.num l.length)
def WS.chg (w:WS) (c:Chg):WS:=((w.nums [c.kind]).txts [c.path,c.to,c.text]).nums [c.base]
def WS.chgs (w:WS) (l:List Chg):WS:=w.lst l 20 WS.chg
def WS.done (w:WS):qh × Int:=if w.g = true then ([],2) else if w.f = true then ([],3) else (w.s,0)
def ws0:WS:=⟨[],false,false⟩
def WS.rqt (w:WS) (r:Rqt):WS:=(((w.nums [r.kind]).txts [r.who,r.folder,r.name,r.key,r.text]).nums [r.number,r.offset,r.base]).chgs r.chs
def vv (r:Rqt):qh × Int:=(ws0.rqt r).done
def WS.ok (w:WS):Prop:=w.g = false ∧ w.f = false
structure Wr {α:Type} (step:WS → α → WS) (T:α → qh) (L:α → Prop):Prop where
 ok : ∀ w x,(step w x).ok ↔ w.ok ∧ L x
 s : ∀ w x,w.ok → L x → (step w x).s = w.s ++ T x
def vM (n:Int):Prop := -1099511627776 ≤ n ∧ n ≤ 1099511627776
def ke (t:qh):Prop:=t.length ≤ 1000
theorem Jd (n:Int):zA n = false ↔ vM n:=by
 unfold zA vM
 rw [Bool.or_eq_false_iff,decide_eq_false_iff_not,decide_eq_false_iff_not]
 omega
theorem wr_num:Wr WS.num jJ vM where
 ok w n:=by
  rw [← Jd]
  unfold WS.ok WS.num
  simp only [Bool.or_eq_false_iff,and_assoc]
 s w n _ _:=rfl
theorem za:Wr WS.txt xM ke where
 ok w t:=by
  unfold WS.ok WS.txt ke
  simp only [Bool.or_eq_false_iff,Jd,vM,decide_eq_false_iff_not]
  constructor
  ·rintro ⟨⟨h1,h2⟩,h3,h4⟩
   exact ⟨⟨h1,h3⟩,by omega⟩
  ·rintro ⟨⟨h1,h2⟩,h3⟩
   exact ⟨⟨h1,by omega⟩,h2,by omega⟩
 s w t _ _:=rfl
theorem Xx {α:Type} {step:WS → α → WS} {T:α → qh} {L:α → Prop} (h:Wr step T L):Wr (fun w (l:List α)=>l.foldl step w) (fun l=>l.flatMap T) (fun l => ∀ x,x ∈ l → L x) where
 ok w l:=by
  induction l generalizing w with
  | nil=>simp
  | cons x l ih =>
    simp only [List.foldl_cons,List.mem_cons,forall_eq_or_imp]
    rw [ih,h.ok,and_assoc]
 s w l hw hl:=by
   induction l generalizing w with
   | nil=>simp
   | cons x l ih =>
     simp only [List.foldl_cons,List.flatMap_cons]
     rw [ih (step w x) ((h.ok w x).2 ⟨hw,hl x (by simp)⟩) (fun y hy=>hl y (by simp [hy])),h.s w x hw (hl x (by simp)),List.append_assoc]
theorem KU {α:Type} {step:WS → α → WS} {T:α → qh} {L:α → Prop} (h:Wr step T L) {most:Nat} (hm:most ≤ 1000):Wr (fun w (l:List α)=>w.lst l most step) (JR T) (JQ L most) where
 ok w l:=by
  show (WS.lst w l most step).ok ↔ _
  unfold WS.lst JQ
  by_cases hc:(w.g || decide (most < l.length)) = true
  ·rw [if_pos hc]
   unfold WS.ok
   simp only [Bool.or_eq_true,decide_eq_true_eq] at hc
   constructor
   ·rintro ⟨h1,_⟩;cases h1
   ·rintro ⟨⟨h1,_⟩,h2,_⟩
    rcases hc with hc|hc
    ·rw [h1] at hc;cases hc
    ·omega
  ·rw [if_neg hc]
   simp only [Bool.or_eq_true,decide_eq_true_eq,not_or] at hc
   rw [(Xx h).ok (w.num l.length) l,wr_num.ok,and_assoc]
   have:vM l.length ↔ l.length ≤ most:=by unfold vM;omega
   rw [this]
 s w l hw hl:=by
   show (WS.lst w l most step).s = _
   unfold WS.lst JR
   obtain ⟨h1,h2⟩:=hl
   rw [if_neg (by rw [hw.1];simp;exact h1)]
   have hn:vM l.length:=by unfold vM;omega
   rw [(Xx h).s (w.num l.length) l ((wr_num.ok w _).2 ⟨hw,hn⟩) h2,wr_num.s w _ hw hn,List.append_assoc]
theorem Wr.and {α β γ:Type} {f:WS → α → WS} {g:WS → β → WS} {T U:_} {L K:_} (hf:Wr f T L) (hg:Wr g U K) (p:γ → α) (q:γ → β):Wr (fun w z=>g (f w (p z)) (q z)) (fun z=>T (p z) ++ U (q z)) (fun z=>L (p z) ∧ K (q z)) where
 ok w z:=by rw [hg.ok,hf.ok,and_assoc]
 s w z hw hl:=by rw [hg.s _ _ ((hf.ok _ _).2 ⟨hw,hl.1⟩) hl.2,hf.s _ _ hw hl.1,List.append_assoc]
theorem Wr.of {α:Type} {f g:WS → α → WS} {T U:α → qh} {L K:α → Prop} (h:Wr f T L) (e : ∀ w x,g w x = f w x) (e2 : ∀ x,U x = T x) (e3 : ∀ x,K x ↔ L x):Wr g U K where
 ok w x:=by rw [e,h.ok,e3]
 s w x hw hx:=by rw [e,h.s w x hw ((e3 x).1 hx),e2]
def Vu (c:Chg):Prop:=vM c.kind ∧ ke c.path ∧ ke c.to ∧ ke c.text ∧ vM c.base
theorem KT:Wr WS.chg QW Vu :=
 Wr.of (Wr.and (Wr.and (Wr.and (Wr.and wr_num za Chg.kind Chg.path) za id Chg.to) za id Chg.text) wr_num id Chg.base)
  (fun w c=>rfl) (fun c=>by simp [QW]) (fun c=>by simp [Vu,and_assoc])
def Vz (l:List Chg):Prop:=JQ Vu 20 l
theorem Kc:Wr WS.chgs Y9 Vz:=KU KT (by decide)
def J6 (r:Rqt):Prop:=vM r.kind ∧ ke r.who ∧ ke r.folder ∧ ke r.name ∧ ke r.key ∧ ke r.text ∧ vM r.number ∧ vM r.offset ∧ vM r.base ∧ Vz r.chs
theorem wr_rqt:Wr WS.rqt J7 J6 :=
 Wr.of (Wr.and (Wr.and (Wr.and (Wr.and (Wr.and (Wr.and (Wr.and (Wr.and (Wr.and wr_num za Rqt.kind Rqt.who) za id Rqt.folder) za id Rqt.name) za id Rqt.key) za id Rqt.text) wr_num id Rqt.number) wr_num id Rqt.offset) wr_num id Rqt.base) Kc id Rqt.chs)
  (fun w c=>rfl) (fun c=>by simp [J7]) (fun c=>by simp [J6,and_assoc])
theorem YW (w:WS):w.done.2 = 0 ↔ w.ok:=by
 unfold WS.done WS.ok
 cases hg:w.g<;>cases hf:w.f<;>simp
theorem Ku {w:WS} (h:w.ok):w.done = (w.s,0):=by
 unfold WS.done
 rw [h.1,h.2]
 rfl
theorem Zr:ws0.ok:=⟨rfl,rfl⟩
theorem Vq {r:Rqt} (h:J6 r):vv r = (J7 r,0):=by
 unfold vv
 rw [Ku ((wr_rqt.ok _ _).2 ⟨Zr,h⟩),wr_rqt.s _ _ Zr h]
 rfl
theorem wd {r:Rqt} (h:(vv r).2 = 0):J6 r:=((wr_rqt.ok _ _).1 ((YW _).1 h)).2
theorem x0 {n:Int} (h:vM n):xN n:=by unfold vM at h;unfold xN;omega
theorem xd {t:qh} (h:ke t):kC t:=by unfold ke at h;unfold kC;omega
theorem VV {α:Type} {L K:α → Prop} (h : ∀ x,L x → K x) {m:Nat} {l:List α} (hl:JQ L m l):JQ K m l:=⟨hl.1,fun x hx=>h x (hl.2 x hx)⟩
theorem Vx {c:Chg} (h:Vu c):ZB c:=⟨x0 h.1,xd h.2.1,xd h.2.2.1,xd h.2.2.2.1,x0 h.2.2.2.2⟩
theorem Zh {r:Rqt} (h:J6 r):KL r:=by
 obtain ⟨h1,h2,h3,h4,h5,h6,h7,h8,h9,h10⟩:=h
 exact ⟨x0 h1,xd h2,xd h3,xd h4,xd h5,xd h6,x0 h7,x0 h8,x0 h9,VV (fun _=>Vx) h10⟩
def yD (s:qh):Rqt × Int :=
 match zD s with
 | none=>(noRqt,1)
 | some (r,rest)=>if rest = [] ∧ vv r = (s,0) then (r,0) else (noRqt,1)
theorem XC {r:Rqt} {t:qh} (h:vv r = (t,0)):yD t = (r,0):=by
 have ho:J6 r:=wd (by rw [h])
 have e:=Vq ho
 rw [h] at e
 injection e with e _
 have:=rd_rqt.to r [] (Zh ho)
 rw [List.append_nil, ← e] at this
 unfold yD
 rw [this]
 simp [h]
end Go.Proofs.YtahbbnfmbohmmaaDoor
set_option linter.unusedVariables false
set_option linter.unusedSimpArgs false
namespace Go.Proofs.YtahbbnfmbohmmaaDoor
def WS.numR (w:WS) (n:Int):WS:=if zA n = true then ⟨w.s,w.g,true⟩ else ⟨w.s ++ jJ n,w.g,w.f⟩
def WS.txtR (w:WS) (t:qh):WS:=if 1000 < t.length then ⟨w.s,true,w.f⟩ else let v:=w.numR t.length; ⟨v.s ++ t,v.g,v.f⟩
def WS.chgR (w:WS) (c:Chg):WS:=((((w.numR c.kind).txtR c.path).txtR c.to).txtR c.text).numR c.base
def WS.chgsR (w:WS) (l:List Chg):WS:=if 20 < l.length then ⟨w.s,true,w.f⟩ else l.foldl WS.chgR (w.numR l.length)
def WS.rqtR (w:WS) (r:Rqt):WS:=(((((((((w.numR r.kind).txtR r.who).txtR r.folder).txtR r.name).txtR r.key).txtR r.text).numR r.number).numR r.offset).numR r.base).chgsR r.chs
def Y3 (r:Rqt):qh × Int:=(ws0.rqtR r).done
def WS.rel (w v:WS):Prop:=w.g = v.g ∧ (w.g = false → w.f = v.f ∧ (w.f = false → w.s = v.s))
theorem Za {w v:WS} (h:w.rel v):w.done = v.done:=by
 obtain ⟨h1,h2⟩:=h
 unfold WS.done
 rw [← h1]
 cases hg:w.g with
 | true=>rfl
 | false =>
   obtain ⟨h3,h4⟩:=h2 hg
   rw [← h3]
   cases hf:w.f with
   | true=>rfl
   | false=>rw [h4 hf]
theorem vp {w v:WS} (h:w.rel v) (n:Int):(w.num n).rel (v.numR n):=by
 obtain ⟨h1,h2⟩:=h
 unfold WS.num WS.numR WS.rel
 cases hn:zA n with
 | true=>simp [h1]
 | false=>simp [h1] at h2 ⊢;exact fun hg=>⟨(h2 hg).1,fun hf=>(h2 hg).2 hf⟩
theorem xS {w v:WS} (h:w.rel v) (t:qh):(w.txt t).rel (v.txtR t):=by
 unfold WS.txtR
 by_cases ht:1000 < t.length
 ·rw [if_pos ht]
  unfold WS.txt WS.rel
  simp [ht]
 ·rw [if_neg ht]
  have hf:zA t.length = false:=(Jd _).2 ⟨by omega,by omega⟩
  obtain ⟨h1,h2⟩:=h
  unfold WS.txt WS.numR WS.rel
  simp [ht,hf,h1,xM] at h2 ⊢
  exact h2
theorem Zb {α:Type} {f g:WS → α → WS} (h : ∀ w v x,w.rel v → (f w x).rel (g v x)) (l:List α) : ∀ {w v:WS},w.rel v → (l.foldl f w).rel (l.foldl g v):=by
 induction l with
 | nil=>exact fun h=>h
 | cons x l ih=>exact fun hw=>ih (h _ _ x hw)
theorem ZZ (w v:WS) (c:Chg) (h:w.rel v):(w.chg c).rel (v.chgR c):=vp (xS (xS (xS (vp h _) _) _) _) _
def JK {α:Type} (f:WS → α → WS):Prop := ∀ w x,w.g = true → (f w x).g = true
theorem zh:JK WS.numR:=fun w n h=>by unfold WS.numR;split<;>exact h
theorem ku:JK WS.txtR:=fun w n h=>by unfold WS.txtR;split; · rfl
                                     ·exact zh w _ h
theorem XT {α:Type} {f:WS → α → WS} (h:JK f) (l:List α) : ∀ {w:WS},w.g = true → (l.foldl f w).g = true:=by
 induction l with
 | nil=>exact fun h=>h
 | cons x l ih=>exact fun hw=>ih (h _ x hw)
theorem XS:JK WS.chgR:=fun w c h=>zh _ _ (ku _ _ (ku _ _ (ku _ _ (zh _ _ h))))
theorem Z0 {α:Type} {f g:WS → α → WS} (h : ∀ w v x,w.rel v → (f w x).rel (g v x)) (hg:JK g) {w v:WS} (hw:w.rel v) (l:List α) {most:Nat} (hl:l.length ≤ most):(w.lst l most f).rel (l.foldl g (v.numR l.length)):=by
 unfold WS.lst
 rw [decide_eq_false (by omega),Bool.or_false]
 cases hwg:w.g with
 | true =>
   rw [if_pos rfl]
   exact ⟨(XT hg l (zh _ _ (hw.1 ▸ hwg))).symm,fun h=>by cases h⟩
 | false =>
   rw [if_neg (by decide)]
   exact Zb h l (vp hw _)
theorem V9 (w v:WS) (l:List Chg) (h:w.rel v):(w.chgs l).rel (v.chgsR l):=by
 unfold WS.chgsR
 by_cases hl:20 < l.length
 ·rw [if_pos hl]
  unfold WS.chgs WS.lst
  rw [if_pos (by simp [hl])]
  exact ⟨rfl,fun h=>by cases h⟩
 ·rw [if_neg hl]
  exact Z0 ZZ XS h l (by omega)
theorem zK (r:Rqt):Y3 r = vv r :=
 (Za (w:=ws0.rqt r) (V9 _ _ _ (vp (vp (vp (xS (xS (xS (xS (xS (vp ⟨rfl,fun _=>⟨rfl,fun _=>rfl⟩⟩ _) _) _) _) _) _) _) _) _))).symm
structure SC where
 rest:qh
 bad:Bool
def yv:qh → Nat → Nat × Nat
 | [],n=>(n,0)
 | c :: r,n=>if 48 ≤ c.toNat ∧ c.toNat ≤ 57 ∧ n < 1125899906842624 then ((yv r (10 * n + (c.toNat - 48))).1,(yv r (10 * n + (c.toNat - 48))).2 + 1) else (n,0)
def Yy:qh → Bool
 | []=>false
 | c :: _=>decide (c = 45)
def yB (s:qh):Nat:=if Yy s = true then 1 else 0
def vy (s:qh):Nat:=yB s + (yv (s.drop (yB s)) 0).2
def zI (s:qh):Int:=if Yy s = true then -((yv (s.drop (yB s)) 0).1:Int) else ((yv (s.drop (yB s)) 0).1:Int)
def yQ (x:SC):Int × SC :=
 if x.bad = true ∨ x.rest[vy x.rest]? ≠ some 59 ∨ x.rest.take (vy x.rest) ≠ Lib.itoa (zI x.rest) then (0,⟨x.rest.drop (vy x.rest),true⟩) else (zI x.rest,⟨x.rest.drop (vy x.rest + 1),false⟩)
theorem zc : ∀ (s:qh) (n:Nat),n ≤ 11258999068426240 → (yv s n).1 ≤ 11258999068426240
 | [],n,h=>h
 | c :: r,n,h=>by
   unfold yv
   split
   ·exact zc r _ (by omega)
   ·exact h
theorem Kb (s:qh):xN (zI s):=by
 have:=zc (s.drop (yB s)) 0 (by decide)
 unfold zI xN
 split<;>omega
def Zo (n:Nat) (l:qh):Nat:=l.foldl (fun a c=>10 * a + (c.toNat - 48)) n
theorem Xv : ∀ (l:qh) (n:Nat),n ≤ Zo n l
 | [],n=>Nat.le_refl _
 | c :: l,n=>Nat.le_trans (by omega) (Xv l (10 * n + (c.toNat - 48)))
theorem k6 (m:Nat):Zo 0 (Lib.decDigits m) = m:=by
 induction m using Nat.strongRecOn with
 | _ m ih =>
   by_cases h:m < 10
   ·rw [zN h]
    show 10 * 0 + ((UInt8.ofNat (48 + m)).toNat - 48) = m
    simp only [UInt8.toNat_ofNat']
    omega
   ·rw [QY h]
    unfold Zo at ih ⊢
    rw [List.foldl_append,ih (m / 10) (by omega)]
    show 10 * (m / 10) + ((UInt8.ofNat (48 + m % 10)).toNat - 48) = m
    simp only [UInt8.toNat_ofNat']
    omega
theorem wr : ∀ (l:qh) (n:Nat) (r:qh),(∀ c,c ∈ l → 48 ≤ c.toNat ∧ c.toNat ≤ 57) → Zo n l < 1125899906842624 → yv (l ++ 59 :: r) n = (Zo n l,l.length)
 | [],n,r,_,_=>by
   show yv (59 :: r) n = _
   unfold yv
   rw [if_neg (by simp)]
   rfl
 | c :: l,n,r,hd,hv=>by
   have hc:=hd c (by simp)
   have hn:n < 1125899906842624:=Nat.lt_of_le_of_lt (Xv (c :: l) n) hv
   show yv (c :: (l ++ 59 :: r)) n = _
   unfold yv
   rw [if_pos ⟨hc.1,hc.2,hn⟩,wr l (10 * n + (c.toNat - 48)) r (fun x hx=>hd x (by simp [hx])) hv]
   rfl
structure Sc {α:Type} (q:SC → α × SC) (p:qh → Option (α × qh)) (L:α → Prop):Prop where
 bad : ∀ s,(q ⟨s,true⟩).2.bad = true
 of : ∀ s,(q ⟨s,false⟩).2.bad = false → p s = some ((q ⟨s,false⟩).1,(q ⟨s,false⟩).2.rest)
 to : ∀ s x r,p s = some (x,r) → L x → q ⟨s,false⟩ = (x,⟨r,false⟩)
theorem Sc.back {α:Type} {q:SC → α × SC} {p:qh → Option (α × qh)} {L:α → Prop} (h:Sc q p L) {y:SC} (hb:(q y).2.bad = false):y.bad = false ∧ p y.rest = some ((q y).1,(q y).2.rest):=by
 obtain ⟨s,b⟩:=y
 cases b with
 | true=>rw [h.bad] at hb;cases hb
 | false=>exact ⟨rfl,h.of s hb⟩
theorem sc_num:Sc yQ jd vM where
 bad s:=by unfold yQ;rw [if_pos (.inl rfl)]
 of s h:=by
  unfold yQ at h ⊢
  split at h
  ·cases h
  ·rename_i hc
   rw [if_neg hc]
   simp only [not_or,Decidable.not_not] at hc
   obtain ⟨_,h1,h2⟩:=hc
   have hk:=(List.getElem?_eq_some_iff.1 h1).1
   have e:s = jJ (zI s) ++ s.drop (vy s + 1):=by
    unfold jJ
    rw [← h2,List.append_assoc]
    have h3:=List.drop_eq_getElem_cons hk
    rw [(List.getElem?_eq_some_iff.1 h1).2] at h3
    rw [List.singleton_append, ← h3,List.take_append_drop]
   have:=wQ (Kb s) (s.drop (vy s + 1))
   rw [← e] at this
   exact this
 to s n r hp hn:=by
  obtain ⟨e,_⟩:=xZ hp
  obtain ⟨h0,h1⟩:=hn
  have e' : s = Lib.itoa n ++ 59 :: r:=by rw [e];simp [jJ]
  have key:yB s + (yv (s.drop (yB s)) 0).2 = (Lib.itoa n).length ∧ zI s = n:=by
   by_cases hneg:n < 0
   ·have hi:Lib.itoa n = 45 :: Lib.decDigits n.natAbs:=by unfold Lib.itoa;rw [if_pos hneg]
    have hs:Yy s = true:=by rw [e',hi];rfl
    have hN:yB s = 1:=by unfold yB;rw [if_pos hs]
    have hd:s.drop 1 = Lib.decDigits n.natAbs ++ 59 :: r:=by rw [e',hi];rfl
    have:=wr (Lib.decDigits n.natAbs) 0 r (vH _) (by rw [k6];omega)
    rw [k6] at this
    unfold zI
    rw [hs,hN,hd,this,hi]
    exact ⟨by simp;omega,by simp;omega⟩
   ·have hi:Lib.itoa n = Lib.decDigits n.toNat:=by unfold Lib.itoa;rw [if_neg hneg]
    have hs:Yy s = false:=by
     rw [e',hi]
     have hd:=vH n.toNat
     cases hl:Lib.decDigits n.toNat with
     | nil=>exact absurd hl (VD _)
     | cons c l =>
       rw [hl] at hd
       have:=(hd c (by simp)).1
       show decide (c = 45) = false
       rw [decide_eq_false_iff_not]
       rintro rfl
       simp at this
    have hN:yB s = 0:=by unfold yB;rw [hs];rfl
    have hd:s.drop 0 = Lib.decDigits n.toNat ++ 59 :: r:=by rw [List.drop_zero,e',hi]
    have:=wr (Lib.decDigits n.toNat) 0 r (vH _) (by rw [k6];omega)
    rw [k6] at this
    unfold zI
    rw [hs,hN,hd,this,hi]
    exact ⟨by simp,by simp;omega⟩
  obtain ⟨hl,hv⟩:=key
  unfold yQ
  have hl' : vy s = (Lib.itoa n).length:=hl
  simp only
  rw [hl',hv]
  rw [if_neg]
  ·congr 2
   rw [e',List.drop_append,List.drop_eq_nil_of_le (by omega)]
   simp
  ·simp only [not_or,Decidable.not_not]
   refine ⟨by simp,?_,?_⟩
   ·rw [e',List.getElem?_append_right (Nat.le_refl _)];simp
   ·rw [e',List.take_left]
def zH (x:SC):qh × SC:=if (yQ x).2.bad = true ∨ (yQ x).1 < 0 ∨ ((yQ x).2.rest.length:Int) < (yQ x).1 then ([],⟨(yQ x).2.rest,true⟩) else ((yQ x).2.rest.take (yQ x).1.toNat,⟨(yQ x).2.rest.drop (yQ x).1.toNat,false⟩)
theorem sc_txt:Sc zH qI ke where
 bad s:=by unfold zH;rw [if_pos (.inl (sc_num.bad s))]
 of s h:=by
  unfold zH at h ⊢
  split at h
  ·cases h
  ·rename_i hc
   rw [if_neg hc]
   simp only [not_or,Bool.not_eq_true,Int.not_lt] at hc
   obtain ⟨h1,h2,h3⟩:=hc
   have hn:=sc_num.of s h1
   have hs:=(xZ hn).1
   have hl2:=congrArg List.length hs
   rw [List.length_append] at hl2
   unfold qI yK
   rw [hn]
   simp only
   rw [if_neg (by omega)]
   simp only
   rw [if_neg (by omega)]
 to s t r hp ht:=by
  unfold qI yK at hp
  cases hn:jd s with
  | none=>rw [hn] at hp;cases hp
  | some z =>
    obtain ⟨n,r'⟩:=z
    rw [hn] at hp
    simp only at hp
    by_cases hb:n < 0 ∨ (s.length:Int) < n
    ·rw [if_pos hb] at hp;cases hp
    ·rw [if_neg hb] at hp
     simp only at hp
     split at hp
     ·cases hp
     ·rename_i hb2
      injection hp with hp
      injection hp with h1 h2
      subst h1 h2
      unfold ke at ht
      rw [List.length_take] at ht
      have:=sc_num.to s n r' hn ⟨by omega,by omega⟩
      unfold zH
      rw [this]
      simp only
      rw [if_neg (by simp;omega)]
def Qn (most:Int) (x:SC):Int × SC:=if (yQ x).2.bad = true ∨ (yQ x).1 < 0 ∨ most < (yQ x).1 then (0,⟨(yQ x).2.rest,true⟩) else (yQ x)
theorem YQ {most:Int} (hm:most ≤ 1000):Sc (Qn most) (yK most) (fun _=>True) where
 bad s:=by unfold Qn;rw [if_pos (.inl (sc_num.bad s))]
 of s h:=by
  unfold Qn at h ⊢
  split at h
  ·cases h
  ·rename_i hc
   rw [if_neg hc]
   simp only [not_or,Bool.not_eq_true,Int.not_lt] at hc
   unfold yK
   rw [sc_num.of s hc.1]
   simp only
   rw [if_neg (by omega)]
 to s n r hp _:=by
  unfold yK at hp
  cases hn:jd s with
  | none=>rw [hn] at hp;cases hp
  | some z =>
    obtain ⟨m,r'⟩:=z
    rw [hn] at hp
    simp only at hp
    by_cases hb:m < 0 ∨ most < m
    ·rw [if_pos hb] at hp;cases hp
    ·rw [if_neg hb] at hp
     injection hp with hp
     injection hp with h1 h2
     subst h1 h2
     have:=sc_num.to s m r' hn ⟨by omega,by omega⟩
     unfold Qn
     rw [this]
     simp only
     rw [if_neg (by simp;omega)]
def xq {α:Type} (q:SC → α × SC) (y:SC):Nat → List α × SC
 | 0=>([],y)
 | i + 1=>if (xq q y i).2.bad = true then xq q y i else ((xq q y i).1 ++ [(q (xq q y i).2).1],(q (xq q y i).2).2)
theorem Xo {α:Type} {q:SC → α × SC} {p:qh → Option (α × qh)} {L:α → Prop} (h:Sc q p L) (y:SC) : ∀ i,(xq q y i).2.bad = false → y.bad = false ∧ jK p y.rest i = some ((xq q y i).1,(xq q y i).2.rest)
 | 0,hb=>⟨hb,rfl⟩
 | i + 1,hb=>by
   unfold xq at hb ⊢
   by_cases hc:(xq q y i).2.bad = true
   ·rw [if_pos hc] at hb;rw [hc] at hb;cases hb
   ·rw [if_neg hc] at hb ⊢
    simp only at hb ⊢
    obtain ⟨h1,h2⟩:=h.back hb
    obtain ⟨h3,h4⟩:=Xo h y i h1
    refine ⟨h3,?_⟩
    unfold jK
    rw [h4]
    simp only
    rw [h2]
theorem Xp {α:Type} {q:SC → α × SC} {p:qh → Option (α × qh)} {L:α → Prop} (h:Sc q p L) (s:qh) : ∀ i l r,jK p s i = some (l,r) → (∀ x,x ∈ l → L x) → xq q ⟨s,false⟩ i = (l,⟨r,false⟩)
 | 0,l,r,hr,_=>by
   simp only [jK] at hr
   injection hr with hr
   injection hr with h1 h2
   subst h1 h2
   rfl
 | i + 1,l,r,hr,hl=>by
   unfold jK at hr
   cases hp:jK p s i with
   | none=>rw [hp] at hr;cases hr
   | some z =>
     obtain ⟨l',r'⟩:=z
     rw [hp] at hr
     simp only at hr
     cases hx:p r' with
     | none=>rw [hx] at hr;cases hr
     | some z =>
       obtain ⟨x,r''⟩:=z
       rw [hx] at hr
       injection hr with hr
       injection hr with h1 h2
       subst h1 h2
       have:=Xp h s i l' r' hp (fun y hy=>hl y (by simp [hy]))
       unfold xq
       rw [this]
       simp only
       rw [if_neg (by decide),h.to _ _ _ hx (hl x (by simp))]
theorem J3 {α:Type} (q:SC → α × SC) (s:qh) : ∀ i,xq q ⟨s,true⟩ i = ([],⟨s,true⟩)
 | 0=>rfl
 | i + 1=>by
   unfold xq
   rw [J3 q s i]
   rfl
def QB {α:Type} (q:SC → α × SC) (most:Nat) (x:SC):List α × SC:=xq q (Qn most x).2 (Qn most x).1.toNat
theorem KO {α:Type} {q:SC → α × SC} {p:qh → Option (α × qh)} {L:α → Prop} (h:Sc q p L) {most:Nat} (hm:most ≤ 1000):Sc (QB q most) (wM p most) (JQ L most) where
 bad s:=by
  unfold QB
  have hb:=(YQ (most:=most) (by omega)).bad s
  cases hc:Qn most ⟨s,true⟩ with
  | mk n y =>
    obtain ⟨r,b⟩:=y
    rw [hc] at hb
    simp only at hb
    subst hb
    simp only
    rw [J3]
 of s hb:=by
  unfold QB at hb ⊢
  obtain ⟨h1,h2⟩:=Xo h _ _ hb
  unfold wM
  rw [(YQ (most:=most) (by omega)).of s h1]
  exact h2
 to s l r hp hl:=by
  unfold wM at hp
  cases hn:yK most s with
  | none=>rw [hn] at hp;cases hp
  | some z =>
    obtain ⟨n,r'⟩:=z
    rw [hn] at hp
    unfold QB
    rw [(YQ (most:=most) (by omega)).to s n r' hn trivial]
    exact Xp h r' _ _ _ hp hl.2
def Jz (x:SC):Chg × SC :=
 let a:=yQ x
 let b:=zH a.2
 let c:=zH b.2
 let d:=zH c.2
 let e:=yQ d.2
 (⟨a.1,b.1,c.1,d.1,e.1⟩,e.2)
theorem KM:Sc Jz vw Vu where
 bad s:=by
  cases h:(Jz ⟨s,true⟩).2.bad with
  | true=>rfl
  | false=>exact absurd ((sc_num.back (sc_txt.back (sc_txt.back (sc_txt.back (sc_num.back h).1).1).1).1).1) (by simp)
 of s h:=by
  obtain ⟨b5,p5⟩:=sc_num.back h
  obtain ⟨b4,p4⟩:=sc_txt.back b5
  obtain ⟨b3,p3⟩:=sc_txt.back b4
  obtain ⟨b2,p2⟩:=sc_txt.back b3
  obtain ⟨b1,p1⟩:=sc_num.back b2
  unfold vw
  rw [p1];simp only
  rw [p2];simp only
  rw [p3];simp only
  rw [p4];simp only
  rw [p5]
  rfl
 to s c r hp hl:=by
  unfold vw at hp
  repeat' (split at hp)
  all_goals first
   | cases hp;done
   | skip
  rename_i h1 _ _ _ h2 _ _ _ h3 _ _ _ h4 _ _ _ h5
  injection hp with hp
  injection hp with e1 e2
  subst e1 e2
  obtain ⟨l1,l2,l3,l4,l5⟩:=hl
  unfold Jz
  simp only [sc_num.to _ _ _ h1 l1,sc_txt.to _ _ _ h2 l2,sc_txt.to _ _ _ h3 l3,sc_txt.to _ _ _ h4 l4,sc_num.to _ _ _ h5 l5]
def Y8 (x:SC):List Chg × SC:=QB Jz 20 x
theorem sc_chgs:Sc Y8 vq Vz:=KO KM (by decide)
def kP (x:SC):Rqt × SC :=
 let a:=yQ x
 let b:=zH a.2
 let c:=zH b.2
 let d:=zH c.2
 let e:=zH d.2
 let f:=zH e.2
 let g:=yQ f.2
 let h:=yQ g.2
 let i:=yQ h.2
 let j:=Y8 i.2
 (⟨a.1,b.1,c.1,d.1,e.1,f.1,g.1,h.1,i.1,j.1⟩,j.2)
theorem sc_rqt:Sc kP zD J6 where
 bad s:=by
  cases h:(kP ⟨s,true⟩).2.bad with
  | true=>rfl
  | false=>exact absurd ((sc_num.back (sc_txt.back (sc_txt.back (sc_txt.back (sc_txt.back (sc_txt.back (sc_num.back (sc_num.back (sc_num.back (sc_chgs.back h).1).1).1).1).1).1).1).1).1).1) (by simp)
 of s h:=by
  obtain ⟨b10,p10⟩:=sc_chgs.back h
  obtain ⟨b9,p9⟩:=sc_num.back b10
  obtain ⟨b8,p8⟩:=sc_num.back b9
  obtain ⟨b7,p7⟩:=sc_num.back b8
  obtain ⟨b6,p6⟩:=sc_txt.back b7
  obtain ⟨b5,p5⟩:=sc_txt.back b6
  obtain ⟨b4,p4⟩:=sc_txt.back b5
  obtain ⟨b3,p3⟩:=sc_txt.back b4
  obtain ⟨b2,p2⟩:=sc_txt.back b3
  obtain ⟨b1,p1⟩:=sc_num.back b2
  unfold zD
  rw [p1];simp only
  rw [p2];simp only
  rw [p3];simp only
  rw [p4];simp only
  rw [p5];simp only
  rw [p6];simp only
  rw [p7];simp only
  rw [p8];simp only
  rw [p9];simp only
  rw [p10]
  rfl
 to s c r hp hl:=by
  unfold zD at hp
  repeat' (split at hp)
  all_goals first
   | cases hp;done
   | skip
  rename_i h1 _ _ _ h2 _ _ _ h3 _ _ _ h4 _ _ _ h5 _ _ _ h6 _ _ _ h7 _ _ _ h8 _ _ _ h9 _ _ _ h10
  injection hp with hp
  injection hp with e1 e2
  subst e1 e2
  obtain ⟨l1,l2,l3,l4,l5,l6,l7,l8,l9,l10⟩:=hl
  unfold kP
  simp only [sc_num.to _ _ _ h1 l1,sc_txt.to _ _ _ h2 l2,sc_txt.to _ _ _ h3 l3,sc_txt.to _ _ _ h4 l4,sc_txt.to _ _ _ h5 l5,sc_txt.to _ _ _ h6 l6,sc_num.to _ _ _ h7 l7,sc_num.to _ _ _ h8 l8,sc_num.to _ _ _ h9 l9,sc_chgs.to _ _ _ h10 l10]
def QQ (s:qh):Rqt × Int:=if (kP ⟨s,false⟩).2.bad = true ∨ (kP ⟨s,false⟩).2.rest ≠ [] ∨ (Y3 (kP ⟨s,false⟩).1).2 ≠ 0 then (noRqt,1) else ((kP ⟨s,false⟩).1,0)
theorem Yi (s:qh):QQ s = yD s:=by
 unfold QQ
 by_cases hc:(kP ⟨s,false⟩).2.bad = true ∨ (kP ⟨s,false⟩).2.rest ≠ [] ∨ (Y3 (kP ⟨s,false⟩).1).2 ≠ 0
 ·rw [if_pos hc]
  unfold yD
  cases hp:zD s with
  | none=>rfl
  | some z =>
    obtain ⟨r,rest⟩:=z
    simp only
    by_cases h2:rest = [] ∧ vv r = (s,0)
    ·obtain ⟨rfl,h2⟩:=h2
     have ho:J6 r:=wd (by rw [h2])
     rw [sc_rqt.to s r [] hp ho,zK,h2] at hc
     simp at hc
    ·rw [if_neg h2]
 ·rw [if_neg hc]
  simp only [not_or,Bool.not_eq_true,Decidable.not_not] at hc
  obtain ⟨h1,h2,h3⟩:=hc
  have hp:=sc_rqt.of s h1
  rw [h2] at hp
  have hs:=(rd_rqt.of _ _ _ hp).1
  rw [List.append_nil] at hs
  rw [zK] at h3
  have ha:=Vq (wd h3)
  unfold yD
  rw [hp]
  simp only
  rw [if_pos ⟨by trivial,by rw [ha, ← hs]⟩]
end Go.Proofs.YtahbbnfmbohmmaaDoor
