import Derived.Test.YtahbbnfmbohmmaaDoorMz0
import Derived.Lib.AtoiAllCases
import Derived.Lib.ItoaNum
set_option linter.unusedVariables false
set_option linter.unusedSimpArgs false
namespace Go.Proofs.YtahbbnfmbohmmaaDoor
theorem zW {k:Nat} (h:k < 10):Lib.decDigits k = [UInt8.ofNat (48 + k)]:=by rw [Lib.decDigits,dif_pos h]
theorem QL {k:Nat} (h:¬ k < 10):Lib.decDigits k = Lib.decDigits (k / 10) ++ [UInt8.ofNat (48 + k % 10)]:=by rw [Lib.decDigits,dif_neg h]
theorem Qb (k:Nat) : ∀ c,c ∈ Lib.decDigits k → 48 ≤ c.toNat ∧ c.toNat ≤ 57:=by
 induction k using Nat.strongRecOn with
 | _ k ih =>
   intro c hc
   by_cases h:k < 10
   ·rw [zW h] at hc
    simp only [List.mem_singleton] at hc
    subst hc
    simp only [UInt8.toNat_ofNat']
    omega
   ·rw [QL h] at hc
    rcases List.mem_append.1 hc with hc|hc
    ·exact ih (k / 10) (by omega) c hc
    ·simp only [List.mem_singleton] at hc
     subst hc
     simp only [UInt8.toNat_ofNat']
     omega
theorem X2 (k:Nat):Lib.decDigits k ≠ []:=by
 by_cases h:k < 10
 ·rw [zW h];simp
 ·rw [QL h];simp
theorem QV : ∀ (l:qj) (acc v:Nat) (c:UInt8),Lib.parseUint10 acc l = .ok v → 48 ≤ c.toNat → c.toNat ≤ 57 → v * 10 + (c.toNat - 48) < 18446744073709551616 → Lib.parseUint10 acc (l ++ [c]) = .ok (v * 10 + (c.toNat - 48))
 | [],acc,v,c,h,h1,h2,h3=>by
   simp only [Lib.parseUint10] at h
   injection h with h
   subst h
   simp only [List.nil_append,Lib.parseUint10,h1,h2,and_self,if_true]
   rw [if_neg (by omega),if_neg (by omega)]
 | b :: r,acc,v,c,h,h1,h2,h3=>by
   simp only [Lib.parseUint10,List.cons_append] at h ⊢
   split at h
   ·rename_i hb
    rw [if_pos hb]
    split at h
    ·cases h
    ·rename_i hb1
     rw [if_neg hb1]
     split at h
     ·cases h
     ·rename_i hb2
      rw [if_neg hb2]
      exact QV r _ v c h h1 h2 h3
   ·cases h
theorem VD (u:Nat) (hu:u < 18446744073709551616):Lib.parseUint10 0 (Lib.decDigits u) = .ok u:=by
 induction u using Nat.strongRecOn with
 | _ u ih =>
   by_cases h:u < 10
   ·rw [zW h]
    have h1:(UInt8.ofNat (48 + u)).toNat = 48 + u:=by simp only [UInt8.toNat_ofNat'];omega
    have:=QV [] 0 0 (UInt8.ofNat (48 + u)) rfl (by omega) (by omega) (by omega)
    rw [List.nil_append] at this
    rw [this,h1]
    congr 1
    omega
   ·rw [QL h]
    have h1:(UInt8.ofNat (48 + u % 10)).toNat = 48 + u % 10:=by simp only [UInt8.toNat_ofNat'];omega
    rw [QV _ 0 (u / 10) _ (ih (u / 10) (by omega) (by omega)) (by omega) (by omega) (by omega),h1]
    congr 1
    omega
def xi (n:Int):Prop := -9223372036854775808 ≤ n ∧ n ≤ 9223372036854775807
theorem JM {n:Int} (h:xi n):Lib.atoiAll (Lib.itoa n) = .ok n:=by
 obtain ⟨h0,h1⟩:=h
 have pm : ∀ u,u < 18446744073709551616 → Lib.parseMag (Lib.decDigits u) = .ok u:=fun u hu=>by
  unfold Lib.parseMag
  rw [if_neg (X2 u),VD u hu]
 unfold Lib.itoa
 split
 ·rw [Lib.atoiAll_minus,pm _ (by omega)]
  simp only [Lib.signed]
  rw [if_neg (by omega)]
  congr 1
  omega
 ·have hpm:=pm n.toNat (by omega)
  have hd:=Qb n.toNat
  cases hl:Lib.decDigits n.toNat with
  | nil=>exact absurd hl (X2 _)
  | cons c r =>
    rw [hl] at hpm hd
    have:=hd c (by simp)
    rw [Lib.atoiAll_plain c r (by omega) (by omega),hpm]
    simp only [Lib.signless]
    rw [if_neg (by omega)]
    congr 1
    omega
theorem J1 (n:Int):(59:UInt8) ∉ Lib.itoa n:=by
 intro h
 unfold Lib.itoa at h
 have hd : ∀ k,(59:UInt8) ∉ Lib.decDigits k:=fun k hk=>by
  have:=(Qb k _ hk).2
  simp at this
 split at h
 ·rcases List.mem_cons.1 h with h|h
  ·cases h
  ·exact hd _ h
 ·exact hd _ h
def jz (n:Int):qj:=Lib.itoa n ++ [59]
def xL:qj → Option (qj × qj)
 | []=>none
 | c :: r=>if c = 59 then some ([],r) else match xL r with
   | none=>none
   | some (a,b)=>some (c :: a,b)
theorem Qa : ∀ (t r:qj),(59:UInt8) ∉ t → xL (t ++ 59 :: r) = some (t,r)
 | [],r,_=>by simp [xL]
 | c :: t,r,h=>by
   simp only [List.mem_cons,not_or] at h
   show (if c = 59 then some ([],t ++ 59 :: r) else match xL (t ++ 59 :: r) with|none=>none|some (a,b)=>some (c :: a,b)) = _
   rw [if_neg (fun e=>h.1 e.symm),Qa t r h.2]
theorem vd : ∀ {s t r:qj},xL s = some (t,r) → s = t ++ 59 :: r ∧ (59:UInt8) ∉ t
 | [],t,r,h=>by cases h
 | c :: s,t,r,h=>by
   unfold xL at h
   split at h
   ·rename_i hc
    injection h with h
    injection h with h1 h2
    subst h1 h2 hc
    exact ⟨rfl,by simp⟩
   ·rename_i hc
    split at h
    ·cases h
    ·rename_i a b hab
     injection h with h
     injection h with h1 h2
     subst h1 h2
     obtain ⟨e,hn⟩:=vd hab
     rw [e]
     refine ⟨rfl,?_⟩
     simp only [List.mem_cons,not_or]
     exact ⟨fun e=>hc e.symm,hn⟩
def qY (s:qj):Option (Int × qj) :=
 match xL s with
 | none=>none
 | some (t,r)=>match Lib.atoiAll t with
   | .ok n=>if Lib.itoa n = t then some (n,r) else none
   | _=>none
theorem Qn {n:Int} (h:xi n) (r:qj):qY (jz n ++ r) = some (n,r):=by
 have e:jz n ++ r = Lib.itoa n ++ 59 :: r:=by simp [jz]
 unfold qY
 rw [e,Qa _ _ (J1 n)]
 simp only [JM h,if_true]
theorem zj {s r:qj} {n:Int} (h:qY s = some (n,r)):s = jz n ++ r ∧ xi n:=by
 unfold qY at h
 split at h
 ·cases h
 ·rename_i t r' hc
  split at h
  ·rename_i m hm
   split at h
   ·rename_i he
    injection h with h
    injection h with h1 h2
    subst h1 h2
    exact ⟨by rw [(vd hc).1, ← he];simp [jz],Lib.atoiAll_bounds hm⟩
   ·cases h
  ·cases h
structure Rd {α:Type} (p:qj → Option (α × qj)) (T:α → qj) (L:α → Prop):Prop where
 to : ∀ x r,L x → p (T x ++ r) = some (x,r)
 of : ∀ s x r,p s = some (x,r) → s = T x ++ r ∧ L x
theorem rd_num:Rd qY jz xi:=⟨fun _ r h=>Qn h r,fun _ _ _ h=>zj h⟩
def xg (most:Int) (s:qj):Option (Int × qj) :=
 match qY s with
 | none=>none
 | some (n,r)=>if n < 0 ∨ most < n then none else some (n,r)
theorem wZ {n most:Int} (h0:0 ≤ n) (h1:n ≤ most) (h2:xi n) (r:qj):xg most (jz n ++ r) = some (n,r):=by
 unfold xg
 rw [Qn h2]
 simp only
 rw [if_neg (by omega)]
theorem yt {most n:Int} {s r:qj} (h:xg most s = some (n,r)):s = jz n ++ r ∧ xi n ∧ 0 ≤ n ∧ n ≤ most:=by
 unfold xg at h
 split at h
 ·cases h
 ·rename_i m r' hm
  split at h
  ·cases h
  ·rename_i hb
   injection h with h
   injection h with h1 h2
   subst h1 h2
   obtain ⟨e,hi⟩:=zj hm
   exact ⟨e,hi,by omega,by omega⟩
def y9 (t:qj):qj:=jz t.length ++ t
def qB (s:qj):Option (qj × qj) :=
 match xg s.length s with
 | none=>none
 | some (n,r)=>if (r.length:Int) < n then none else some (r.take n.toNat,r.drop n.toNat)
def zq (t:qj):Prop:=t.length ≤ 9223372036854775807
theorem rd_txt:Rd qB y9 zq where
 to t r h:=by
  unfold qB
  have e:y9 t ++ r = jz t.length ++ (t ++ r):=by simp [y9]
  rw [e,wZ (by omega) (by simp;omega) ⟨by omega,by unfold zq at h;omega⟩]
  simp only
  rw [if_neg (by simp;omega)]
  simp
 of s t r h:=by
  unfold qB at h
  split at h
  ·cases h
  ·rename_i n r' hc
   split at h
   ·cases h
   ·rename_i hb
    injection h with h
    injection h with h1 h2
    subst h1 h2
    obtain ⟨e,hi,h0,_⟩:=yt hc
    have hl:(r'.take n.toNat).length = n.toNat:=by rw [List.length_take];omega
    refine ⟨?_,?_⟩
    ·unfold y9
     rw [hl,List.append_assoc,List.take_append_drop,e]
     congr 2
     omega
    ·unfold zq
     rw [hl]
     have:=hi.2
     omega
def jJ {α:Type} (p:qj → Option (α × qj)) (s:qj):Nat → Option (List α × qj)
 | 0=>some ([],s)
 | i + 1=>match jJ p s i with
   | none=>none
   | some (l,r)=>match p r with
     | none=>none
     | some (x,r')=>some (l ++ [x],r')
theorem JB {α:Type} {p:qj → Option (α × qj)} {T:α → qj} {L:α → Prop} (h:Rd p T L) (l:List α) (hl : ∀ x,x ∈ l → L x) (rest:qj) : ∀ i,i ≤ l.length → jJ p (l.flatMap T ++ rest) i = some (l.take i,(l.drop i).flatMap T ++ rest)
 | 0,_=>by simp [jJ]
 | i + 1,hi=>by
   have hi' : i < l.length:=hi
   unfold jJ
   rw [JB h l hl rest i (by omega)]
   simp only
   rw [List.drop_eq_getElem_cons hi',List.flatMap_cons,List.append_assoc,h.to _ _ (hl _ (List.getElem_mem _))]
   simp only
   rw [List.take_succ_eq_append_getElem hi']
theorem JA {α:Type} {p:qj → Option (α × qj)} {T:α → qj} {L:α → Prop} (h:Rd p T L) (s:qj) : ∀ i l r,jJ p s i = some (l,r) → s = l.flatMap T ++ r ∧ l.length = i ∧ ∀ x,x ∈ l → L x
 | 0,l,r,hr=>by
   simp only [jJ] at hr
   injection hr with hr
   injection hr with h1 h2
   subst h1 h2
   exact ⟨rfl,rfl,by simp⟩
 | i + 1,l,r,hr=>by
   unfold jJ at hr
   split at hr
   ·cases hr
   ·rename_i l' r' hp
    split at hr
    ·cases hr
    ·rename_i x r'' hx
     injection hr with hr
     injection hr with h1 h2
     subst h1 h2
     obtain ⟨e,hl,ha⟩:=JA h s i l' r' hp
     obtain ⟨e2,hx2⟩:=h.of _ _ _ hx
     refine ⟨?_,by simp [hl],?_⟩
     ·rw [e,e2];simp
     ·intro y hy
      rcases List.mem_append.1 hy with hy|hy
      ·exact ha y hy
      ·simp only [List.mem_singleton] at hy
       exact hy ▸ hx2
def Ql {α:Type} (p:qj → Option (α × qj)) (most:Nat) (s:qj):Option (List α × qj) :=
 match xg most s with
 | none=>none
 | some (n,r)=>jJ p r n.toNat
def Qm {α:Type} (T:α → qj) (l:List α):qj:=jz l.length ++ l.flatMap T
def QT {α:Type} (L:α → Prop) (most:Nat) (l:List α):Prop:=l.length ≤ most ∧ ∀ x,x ∈ l → L x
theorem Vk {α:Type} {p:qj → Option (α × qj)} {T:α → qj} {L:α → Prop} (h:Rd p T L) {most:Nat} (hm:most ≤ 1000):Rd (Ql p most) (Qm T) (QT L most) where
 to l r hl:=by
  obtain ⟨h1,h2⟩:=hl
  unfold Ql Qm
  rw [List.append_assoc,wZ (by omega) (by omega) ⟨by omega,by omega⟩]
  simp only
  rw [show ((l.length:Nat):Int).toNat = l.length by omega,JB h l h2 r l.length (Nat.le_refl _)]
  simp
 of s l r hp:=by
  unfold Ql at hp
  split at hp
  ·cases hp
  ·rename_i n r' hc
   obtain ⟨e,hi,h0,h1⟩:=yt hc
   obtain ⟨e2,hl,ha⟩:=JA h r' n.toNat l r hp
   refine ⟨?_,by omega,ha⟩
   unfold Qm
   rw [hl,List.append_assoc, ← e2,e]
   congr 2
   omega
def vA (s:qj):Option (Chg × qj) :=
 match qY s with
 | none=>none
 | some (a,s)=>match qB s with
   | none=>none
   | some (b,s)=>match qB s with
     | none=>none
     | some (c,s)=>match qB s with
       | none=>none
       | some (d,s)=>match qY s with
         | none=>none
         | some (e,s)=>some (⟨a,b,c,d,e⟩,s)
def wd (c:Chg):qj:=jz c.kind ++ (y9 c.path ++ (y9 c.to ++ (y9 c.text ++ jz c.base)))
def Xw (c:Chg):Prop:=xi c.kind ∧ zq c.path ∧ zq c.to ∧ zq c.text ∧ xi c.base
theorem rd_chg:Rd vA wd Xw where
 to c r h:=by
  obtain ⟨h1,h2,h3,h4,h5⟩:=h
  unfold vA wd
  simp only [List.append_assoc,rd_num.to _ _ h1,rd_txt.to _ _ h2,rd_txt.to _ _ h3,rd_txt.to _ _ h4,rd_num.to _ _ h5]
 of s c r h:=by
  unfold vA at h
  repeat' (split at h)
  all_goals first
   | cases h;done
   | skip
  rename_i h1 _ _ _ h2 _ _ _ h3 _ _ _ h4 _ _ _ h5
  injection h with h
  injection h with e1 e2
  subst e1 e2
  obtain ⟨q1,l1⟩:=rd_num.of _ _ _ h1
  obtain ⟨q2,l2⟩:=rd_txt.of _ _ _ h2
  obtain ⟨q3,l3⟩:=rd_txt.of _ _ _ h3
  obtain ⟨q4,l4⟩:=rd_txt.of _ _ _ h4
  obtain ⟨q5,l5⟩:=rd_num.of _ _ _ h5
  refine ⟨?_,l1,l2,l3,l4,l5⟩
  rw [q1,q2,q3,q4,q5]
  simp [wd]
def xR (s:qj):Option (List Chg × qj):=Ql vA 20 s
def Jm (l:List Chg):qj:=Qm wd l
def YC (l:List Chg):Prop:=QT Xw 20 l
theorem rd_chgs:Rd xR Jm YC:=Vk rd_chg (by decide)
def kv (s:qj):Option (Rqt × qj) :=
 match qY s with
 | none=>none
 | some (a,s)=>match qB s with
   | none=>none
   | some (b,s)=>match qB s with
     | none=>none
     | some (c,s)=>match qB s with
       | none=>none
       | some (d,s)=>match qB s with
         | none=>none
         | some (e,s)=>match qB s with
           | none=>none
           | some (f,s)=>match qY s with
             | none=>none
             | some (g,s)=>match qY s with
               | none=>none
               | some (h,s)=>match qY s with
                 | none=>none
                 | some (i,s)=>match xR s with
                   | none=>none
                   | some (j,s)=>some (⟨a,b,c,d,e,f,g,h,i,j⟩,s)
def Qz (r:Rqt):qj:=jz r.kind ++ (y9 r.who ++ (y9 r.folder ++ (y9 r.name ++ (y9 r.key ++ (y9 r.text ++ (jz r.number ++ (jz r.offset ++ (jz r.base ++ Jm r.chs))))))))
def Vm (r:Rqt):Prop:=xi r.kind ∧ zq r.who ∧ zq r.folder ∧ zq r.name ∧ zq r.key ∧ zq r.text ∧ xi r.number ∧ xi r.offset ∧ xi r.base ∧ YC r.chs
theorem rd_rqt:Rd kv Qz Vm where
 to c r h:=by
  obtain ⟨h1,h2,h3,h4,h5,h6,h7,h8,h9,h10⟩:=h
  unfold kv Qz
  simp only [List.append_assoc,rd_num.to _ _ h1,rd_txt.to _ _ h2,rd_txt.to _ _ h3,rd_txt.to _ _ h4,rd_txt.to _ _ h5,rd_txt.to _ _ h6,rd_num.to _ _ h7,rd_num.to _ _ h8,rd_num.to _ _ h9,rd_chgs.to _ _ h10]
 of s c r h:=by
  unfold kv at h
  repeat' (split at h)
  all_goals first
   | cases h;done
   | skip
  rename_i h1 _ _ _ h2 _ _ _ h3 _ _ _ h4 _ _ _ h5 _ _ _ h6 _ _ _ h7 _ _ _ h8 _ _ _ h9 _ _ _ h10
  injection h with h
  injection h with e1 e2
  subst e1 e2
  obtain ⟨q1,l1⟩:=rd_num.of _ _ _ h1
  obtain ⟨q2,l2⟩:=rd_txt.of _ _ _ h2
  obtain ⟨q3,l3⟩:=rd_txt.of _ _ _ h3
  obtain ⟨q4,l4⟩:=rd_txt.of _ _ _ h4
  obtain ⟨q5,l5⟩:=rd_txt.of _ _ _ h5
  obtain ⟨q6,l6⟩:=rd_txt.of _ _ _ h6
  obtain ⟨q7,l7⟩:=rd_num.of _ _ _ h7
  obtain ⟨q8,l8⟩:=rd_num.of _ _ _ h8
  obtain ⟨q9,l9⟩:=rd_num.of _ _ _ h9
  obtain ⟨q10,l10⟩:=rd_chgs.of _ _ _ h10
  refine ⟨?_,l1,l2,l3,l4,l5,l6,l7,l8,l9,l10⟩
  rw [q1,q2,q3,q4,q5,q6,q7,q8,q9,q10]
  simp [Qz]
structure WS where
 s:qj
 g:Bool
 f:Bool
def vF (n:Int):Bool:=decide (n < -1099511627776) || decide (1099511627776 < n)
def WS.num (w:WS) (n:Int):WS:=⟨w.s ++ jz n,w.g,w.f || vF n⟩
def WS.nums (w:WS) (l:List Int):WS:=l.foldl WS.num w
def WS.txt (w:WS) (t:qj):WS:=⟨w.s ++ y9 t,w.g || decide (1000 < t.length),w.f || vF t.length⟩
def WS.txts (w:WS) (l:List qj):WS:=l.foldl WS.txt w
def WS.lst {α:Type} (w:WS) (l:List α) (most:Nat) (step:WS → α → WS):WS:=if (w.g || decide (most < l.length)) = true then ⟨w.s,true,w.f⟩ else l.foldl step (w.num l.length)
def WS.chg (w:WS) (c:Chg):WS:=((w.nums [c.kind]).txts [c.path,c.to,c.text]).nums [c.base]
def WS.chgs (w:WS) (l:List Chg):WS:=w.lst l 20 WS.chg
def WS.done (w:WS):qj × Int:=if w.g = true then ([],2) else if w.f = true then ([],3) else (w.s,0)
def ws0:WS:=⟨[],false,false⟩
def WS.rqt (w:WS) (r:Rqt):WS:=(((w.nums [r.kind]).txts [r.who,r.folder,r.name,r.key,r.text]).nums [r.number,r.offset,r.base]).chgs r.chs
def yr (r:Rqt):qj × Int:=(ws0.rqt r).done
def WS.ok (w:WS):Prop:=w.g = false ∧ w.f = false
structure Wr {α:Type} (step:WS → α → WS) (T:α → qj) (L:α → Prop):Prop where
 ok : ∀ w x,(step w x).ok ↔ w.ok ∧ L x
 s : ∀ w x,w.ok → L x → (step w x).s = w.s ++ T x
def vp (n:Int):Prop := -1099511627776 ≤ n ∧ n ≤ 1099511627776
def zC (t:qj):Prop:=t.length ≤ 1000
theorem wy (n:Int):vF n = false ↔ vp n:=by
 unfold vF vp
 rw [Bool.or_eq_false_iff,decide_eq_false_iff_not,decide_eq_false_iff_not]
 omega
theorem wr_num:Wr WS.num jz vp where
 ok w n:=by
  rw [← wy]
  unfold WS.ok WS.num
  simp only [Bool.or_eq_false_iff,and_assoc]
 s w n _ _:=rfl
theorem vc:Wr WS.txt y9 zC where
 ok w t:=by
  unfold WS.ok WS.txt zC
  simp only [Bool.or_eq_false_iff,wy,vp,decide_eq_false_iff_not]
  constructor
  ·rintro ⟨⟨h1,h2⟩,h3,h4⟩
   exact ⟨⟨h1,h3⟩,by omega⟩
  ·rintro ⟨⟨h1,h2⟩,h3⟩
   exact ⟨⟨h1,by omega⟩,h2,by omega⟩
 s w t _ _:=rfl
theorem JH {α:Type} {step:WS → α → WS} {T:α → qj} {L:α → Prop} (h:Wr step T L):Wr (fun w (l:List α)=>l.foldl step w) (fun l=>l.flatMap T) (fun l => ∀ x,x ∈ l → L x) where
 ok w l:=by
  induction l generalizing w with
  | nil=>simp
  | cons x l ih =>
    simp only [List.foldl_cons,List.mem_cons,forall_eq_or_imp]
    rw [ih,h.ok,and_assoc]
 s w l hw hl:=by
   induction l generalizing w with
   | nil=>simp
   | cons x l ih =>
     simp only [List.foldl_cons,List.flatMap_cons]
     rw [ih (step w x) ((h.ok w x).2 ⟨hw,hl x (by simp)⟩) (fun y hy=>hl y (by simp [hy])),h.s w x hw (hl x (by simp)),List.append_assoc]
theorem Vs {α:Type} {step:WS → α → WS} {T:α → qj} {L:α → Prop} (h:Wr step T L) {most:Nat} (hm:most ≤ 1000):Wr (fun w (l:List α)=>w.lst l most step) (Qm T) (QT L most) where
 ok w l:=by
  show (WS.lst w l most step).ok ↔ _
  unfold WS.lst QT
  by_cases hc:(w.g || decide (most < l.length)) = true
  ·rw [if_pos hc]
   unfold WS.ok
   simp only [Bool.or_eq_true,decide_eq_true_eq] at hc
   constructor
   ·rintro ⟨h1,_⟩;cases h1
   ·rintro ⟨⟨h1,_⟩,h2,_⟩
    rcases hc with hc|hc
    ·rw [h1] at hc;cases hc
    ·omega
  ·rw [if_neg hc]
   simp only [Bool.or_eq_true,decide_eq_true_eq,not_or] at hc
   rw [(JH h).ok (w.num l.length) l,wr_num.ok,and_assoc]
   have:vp l.length ↔ l.length ≤ most:=by unfold vp;omega
   rw [this]
 s w l hw hl:=by
   show (WS.lst w l most step).s = _
   unfold WS.lst Qm
   obtain ⟨h1,h2⟩:=hl
   rw [if_neg (by rw [hw.1];simp;exact h1)]
   have hn:vp l.length:=by unfold vp;omega
   rw [(JH h).s (w.num l.length) l ((wr_num.ok w _).2 ⟨hw,hn⟩) h2,wr_num.s w _ hw hn,List.append_assoc]
theorem Wr.and {α β γ:Type} {f:WS → α → WS} {g:WS → β → WS} {T U:_} {L K:_} (hf:Wr f T L) (hg:Wr g U K) (p:γ → α) (q:γ → β):Wr (fun w z=>g (f w (p z)) (q z)) (fun z=>T (p z) ++ U (q z)) (fun z=>L (p z) ∧ K (q z)) where
 ok w z:=by rw [hg.ok,hf.ok,and_assoc]
 s w z hw hl:=by rw [hg.s _ _ ((hf.ok _ _).2 ⟨hw,hl.1⟩) hl.2,hf.s _ _ hw hl.1,List.append_assoc]
theorem Wr.of {α:Type} {f g:WS → α → WS} {T U:α → qj} {L K:α → Prop} (h:Wr f T L) (e : ∀ w x,g w x = f w x) (e2 : ∀ x,U x = T x) (e3 : ∀ x,K x ↔ L x):Wr g U K where
 ok w x:=by rw [e,h.ok,e3]
 s w x hw hx:=by rw [e,h.s w x hw ((e3 x).1 hx),e2]
def Xx (c:Chg):Prop:=vp c.kind ∧ zC c.path ∧ zC c.to ∧ zC c.text ∧ vp c.base
theorem Vr:Wr WS.chg wd Xx :=
 Wr.of (Wr.and (Wr.and (Wr.and (Wr.and wr_num vc Chg.kind Chg.path) vc id Chg.to) vc id Chg.text) wr_num id Chg.base)
  (fun w c=>rfl) (fun c=>by simp [wd]) (fun c=>by simp [Xx,and_assoc])
def X1 (l:List Chg):Prop:=QT Xx 20 l
theorem XY:Wr WS.chgs Jm X1:=Vs Vr (by decide)
def Yb (r:Rqt):Prop:=vp r.kind ∧ zC r.who ∧ zC r.folder ∧ zC r.name ∧ zC r.key ∧ zC r.text ∧ vp r.number ∧ vp r.offset ∧ vp r.base ∧ X1 r.chs
theorem wr_rqt:Wr WS.rqt Qz Yb :=
 Wr.of (Wr.and (Wr.and (Wr.and (Wr.and (Wr.and (Wr.and (Wr.and (Wr.and (Wr.and wr_num vc Rqt.kind Rqt.who) vc id Rqt.folder) vc id Rqt.name) vc id Rqt.key) vc id Rqt.text) wr_num id Rqt.number) wr_num id Rqt.offset) wr_num id Rqt.base) XY id Rqt.chs)
  (fun w c=>rfl) (fun c=>by simp [Qz]) (fun c=>by simp [Yb,and_assoc])
theorem Jd (w:WS):w.done.2 = 0 ↔ w.ok:=by
 unfold WS.done WS.ok
 cases hg:w.g<;>cases hf:w.f<;>simp
theorem Vc {w:WS} (h:w.ok):w.done = (w.s,0):=by
 unfold WS.done
 rw [h.1,h.2]
 rfl
theorem Xl:ws0.ok:=⟨rfl,rfl⟩
theorem Vb {r:Rqt} (h:Yb r):yr r = (Qz r,0):=by
 unfold yr
 rw [Vc ((wr_rqt.ok _ _).2 ⟨Xl,h⟩),wr_rqt.s _ _ Xl h]
 rfl
theorem Yv {r:Rqt} (h:(yr r).2 = 0):Yb r:=((wr_rqt.ok _ _).1 ((Jd _).1 h)).2
theorem xk {n:Int} (h:vp n):xi n:=by unfold vp at h;unfold xi;omega
theorem yG {t:qj} (h:zC t):zq t:=by unfold zC at h;unfold zq;omega
theorem YR {α:Type} {L K:α → Prop} (h : ∀ x,L x → K x) {m:Nat} {l:List α} (hl:QT L m l):QT K m l:=⟨hl.1,fun x hx=>h x (hl.2 x hx)⟩
theorem YB {c:Chg} (h:Xx c):Xw c:=⟨xk h.1,yG h.2.1,yG h.2.2.1,yG h.2.2.2.1,xk h.2.2.2.2⟩
theorem Xa {r:Rqt} (h:Yb r):Vm r:=by
 obtain ⟨h1,h2,h3,h4,h5,h6,h7,h8,h9,h10⟩:=h
 exact ⟨xk h1,yG h2,yG h3,yG h4,yG h5,yG h6,xk h7,xk h8,xk h9,YR (fun _=>YB) h10⟩
def vY (s:qj):Rqt × Int :=
 match kv s with
 | none=>(noRqt,1)
 | some (r,rest)=>if rest = [] ∧ yr r = (s,0) then (r,0) else (noRqt,1)
theorem JL {r:Rqt} {t:qj} (h:yr r = (t,0)):vY t = (r,0):=by
 have ho:Yb r:=Yv (by rw [h])
 have e:=Vb ho
 rw [h] at e
 injection e with e _
 have:=rd_rqt.to r [] (Xa ho)
 rw [List.append_nil, ← e] at this
 unfold vY
 rw [this]
 simp [h]
end Go.Proofs.YtahbbnfmbohmmaaDoor
set_option linter.unusedVariables false
set_option linter.unusedSimpArgs false
namespace Go.Proofs.YtahbbnfmbohmmaaDoor
def WS.numR (w:WS) (n:Int):WS:=if vF n = true then ⟨w.s,w.g,true⟩ else ⟨w.s ++ jz n,w.g,w.f⟩
def WS.txtR (w:WS) (t:qj):WS:=if 1000 < t.length then ⟨w.s,true,w.f⟩ else let v:=w.numR t.length; ⟨v.s ++ t,v.g,v.f⟩
def WS.chgR (w:WS) (c:Chg):WS:=((((w.numR c.kind).txtR c.path).txtR c.to).txtR c.text).numR c.base
def WS.chgsR (w:WS) (l:List Chg):WS:=if 20 < l.length then ⟨w.s,true,w.f⟩ else l.foldl WS.chgR (w.numR l.length)
def WS.rqtR (w:WS) (r:Rqt):WS:=(((((((((w.numR r.kind).txtR r.who).txtR r.folder).txtR r.name).txtR r.key).txtR r.text).numR r.number).numR r.offset).numR r.base).chgsR r.chs
def X0 (r:Rqt):qj × Int:=(ws0.rqtR r).done
def WS.rel (w v:WS):Prop:=w.g = v.g ∧ (w.g = false → w.f = v.f ∧ (w.f = false → w.s = v.s))
theorem Y4 {w v:WS} (h:w.rel v):w.done = v.done:=by
 obtain ⟨h1,h2⟩:=h
 unfold WS.done
 rw [← h1]
 cases hg:w.g with
 | true=>rfl
 | false =>
   obtain ⟨h3,h4⟩:=h2 hg
   rw [← h3]
   cases hf:w.f with
   | true=>rfl
   | false=>rw [h4 hf]
theorem xF {w v:WS} (h:w.rel v) (n:Int):(w.num n).rel (v.numR n):=by
 obtain ⟨h1,h2⟩:=h
 unfold WS.num WS.numR WS.rel
 cases hn:vF n with
 | true=>simp [h1]
 | false=>simp [h1] at h2 ⊢;exact fun hg=>⟨(h2 hg).1,fun hf=>(h2 hg).2 hf⟩
theorem xe {w v:WS} (h:w.rel v) (t:qj):(w.txt t).rel (v.txtR t):=by
 unfold WS.txtR
 by_cases ht:1000 < t.length
 ·rw [if_pos ht]
  unfold WS.txt WS.rel
  simp [ht]
 ·rw [if_neg ht]
  have hf:vF t.length = false:=(wy _).2 ⟨by omega,by omega⟩
  obtain ⟨h1,h2⟩:=h
  unfold WS.txt WS.numR WS.rel
  simp [ht,hf,h1,y9] at h2 ⊢
  exact h2
theorem Y5 {α:Type} {f g:WS → α → WS} (h : ∀ w v x,w.rel v → (f w x).rel (g v x)) (l:List α) : ∀ {w v:WS},w.rel v → (l.foldl f w).rel (l.foldl g v):=by
 induction l with
 | nil=>exact fun h=>h
 | cons x l ih=>exact fun hw=>ih (h _ _ x hw)
theorem XP (w v:WS) (c:Chg) (h:w.rel v):(w.chg c).rel (v.chgR c):=xF (xe (xe (xe (xF h _) _) _) _) _
def Qi {α:Type} (f:WS → α → WS):Prop := ∀ w x,w.g = true → (f w x).g = true
theorem vi:Qi WS.numR:=fun w n h=>by unfold WS.numR;split<;>exact h
theorem zh:Qi WS.txtR:=fun w n h=>by unfold WS.txtR;split; · rfl
                                     ·exact vi w _ h
theorem JY {α:Type} {f:WS → α → WS} (h:Qi f) (l:List α) : ∀ {w:WS},w.g = true → (l.foldl f w).g = true:=by
 induction l with
 | nil=>exact fun h=>h
 | cons x l ih=>exact fun hw=>ih (h _ x hw)
theorem JX:Qi WS.chgR:=fun w c h=>vi _ _ (zh _ _ (zh _ _ (zh _ _ (vi _ _ h))))
theorem XQ {α:Type} {f g:WS → α → WS} (h : ∀ w v x,w.rel v → (f w x).rel (g v x)) (hg:Qi g) {w v:WS} (hw:w.rel v) (l:List α) {most:Nat} (hl:l.length ≤ most):(w.lst l most f).rel (l.foldl g (v.numR l.length)):=by
 unfold WS.lst
 rw [decide_eq_false (by omega),Bool.or_false]
 cases hwg:w.g with
 | true =>
   rw [if_pos rfl]
   exact ⟨(JY hg l (vi _ _ (hw.1 ▸ hwg))).symm,fun h=>by cases h⟩
 | false =>
   rw [if_neg (by decide)]
   exact Y5 h l (xF hw _)
theorem Y3 (w v:WS) (l:List Chg) (h:w.rel v):(w.chgs l).rel (v.chgsR l):=by
 unfold WS.chgsR
 by_cases hl:20 < l.length
 ·rw [if_pos hl]
  unfold WS.chgs WS.lst
  rw [if_pos (by simp [hl])]
  exact ⟨rfl,fun h=>by cases h⟩
 ·rw [if_neg hl]
  exact XQ XP JX h l (by omega)
theorem Yu (r:Rqt):X0 r = yr r :=
 (Y4 (w:=ws0.rqt r) (Y3 _ _ _ (xF (xF (xF (xe (xe (xe (xe (xe (xF ⟨rfl,fun _=>⟨rfl,fun _=>rfl⟩⟩ _) _) _) _) _) _) _) _) _))).symm
structure SC where
 rest:qj
 bad:Bool
structure Sc {α:Type} (q:SC → α × SC) (p:qj → Option (α × qj)) (L:α → Prop):Prop where
 bad : ∀ s,(q ⟨s,true⟩).2.bad = true
 of : ∀ s,(q ⟨s,false⟩).2.bad = false → p s = some ((q ⟨s,false⟩).1,(q ⟨s,false⟩).2.rest)
 to : ∀ s x r,p s = some (x,r) → L x → q ⟨s,false⟩ = (x,⟨r,false⟩)
end Go.Proofs.YtahbbnfmbohmmaaDoor
