import Derived.Test.YtahbbnfmbohmmaaDoorMz1
import Derived.Lib.AtoiAllCases
import Derived.Lib.ItoaNum
set_option linter.unusedVariables false
set_option linter.unusedSimpArgs false
namespace Go.Proofs.YtahbbnfmbohmmaaDoor
theorem Qq {k:Nat} (h:k < 10):Lib.decDigits k = [UInt8.ofNat (48 + k)]:=by rw [Lib.decDigits,dif_pos h]
theorem Xy {k:Nat} (h:¬ k < 10):Lib.decDigits k = Lib.decDigits (k / 10) ++ [UInt8.ofNat (48 + k % 10)]:=by rw [Lib.decDigits,dif_neg h]
theorem YH (k:Nat) : ∀ c,c ∈ Lib.decDigits k → 48 ≤ c.toNat ∧ c.toNat ≤ 57:=by
 induction k using Nat.strongRecOn with
 | _ k ih =>
   intro c hc
   by_cases h:k < 10
   ·rw [Qq h] at hc
    simp only [List.mem_singleton] at hc
    subst hc
    simp only [UInt8.toNat_ofNat']
    omega
   ·rw [Xy h] at hc
    rcases List.mem_append.1 hc with hc|hc
    ·exact ih (k / 10) (by omega) c hc
    ·simp only [List.mem_singleton] at hc
     subst hc
     simp only [UInt8.toNat_ofNat']
     omega
theorem WK (k:Nat):Lib.decDigits k ≠ []:=by
 by_cases h:k < 10
 ·rw [Qq h];simp
 ·rw [Xy h];simp
theorem XL : ∀ (l:qj) (acc v:Nat) (c:UInt8),Lib.parseUint10 acc l = .ok v → 48 ≤ c.toNat → c.toNat ≤ 57 → v * 10 + (c.toNat - 48) < 18446744073709551616 → Lib.parseUint10 acc (l ++ [c]) = .ok (v * 10 + (c.toNat - 48))
 | [],acc,v,c,h,h1,h2,h3=>by
   simp only [Lib.parseUint10] at h
   injection h with h
   subst h
   simp only [List.nil_append,Lib.parseUint10,h1,h2,and_self,if_true]
   rw [if_neg (by omega),if_neg (by omega)]
 | b :: r,acc,v,c,h,h1,h2,h3=>by
   simp only [Lib.parseUint10,List.cons_append] at h ⊢
   split at h
   ·rename_i hb
    rw [if_pos hb]
    split at h
    ·cases h
    ·rename_i hb1
     rw [if_neg hb1]
     split at h
     ·cases h
     ·rename_i hb2
      rw [if_neg hb2]
      exact XL r _ v c h h1 h2 h3
   ·cases h
theorem qaw (u:Nat) (hu:u < 18446744073709551616):Lib.parseUint10 0 (Lib.decDigits u) = .ok u:=by
 induction u using Nat.strongRecOn with
 | _ u ih =>
   by_cases h:u < 10
   ·rw [Qq h]
    have h1:(UInt8.ofNat (48 + u)).toNat = 48 + u:=by simp only [UInt8.toNat_ofNat'];omega
    have:=XL [] 0 0 (UInt8.ofNat (48 + u)) rfl (by omega) (by omega) (by omega)
    rw [List.nil_append] at this
    rw [this,h1]
    congr 1
    omega
   ·rw [Xy h]
    have h1:(UInt8.ofNat (48 + u % 10)).toNat = 48 + u % 10:=by simp only [UInt8.toNat_ofNat'];omega
    rw [XL _ 0 (u / 10) _ (ih (u / 10) (by omega) (by omega)) (by omega) (by omega) (by omega),h1]
    congr 1
    omega
def xo (n:Int):Prop := -9223372036854775808 ≤ n ∧ n ≤ 9223372036854775807
theorem VX {n:Int} (h:xo n):Lib.atoiAll (Lib.itoa n) = .ok n:=by
 obtain ⟨h0,h1⟩:=h
 have pm : ∀ u,u < 18446744073709551616 → Lib.parseMag (Lib.decDigits u) = .ok u:=fun u hu=>by
  unfold Lib.parseMag
  rw [if_neg (WK u),qaw u hu]
 unfold Lib.itoa
 split
 ·rw [Lib.atoiAll_minus,pm _ (by omega)]
  simp only [Lib.signed]
  rw [if_neg (by omega)]
  congr 1
  omega
 ·have hpm:=pm n.toNat (by omega)
  have hd:=YH n.toNat
  cases hl:Lib.decDigits n.toNat with
  | nil=>exact absurd hl (WK _)
  | cons c r =>
    rw [hl] at hpm hd
    have:=hd c (by simp)
    rw [Lib.atoiAll_plain c r (by omega) (by omega),hpm]
    simp only [Lib.signless]
    rw [if_neg (by omega)]
    congr 1
    omega
theorem Ze (n:Int):(59:UInt8) ∉ Lib.itoa n:=by
 intro h
 unfold Lib.itoa at h
 have hd : ∀ k,(59:UInt8) ∉ Lib.decDigits k:=fun k hk=>by
  have:=(YH k _ hk).2
  simp at this
 split at h
 ·rcases List.mem_cons.1 h with h|h
  ·cases h
  ·exact hd _ h
 ·exact hd _ h
def jV (n:Int):qj:=Lib.itoa n ++ [59]
def zg:qj → Option (qj × qj)
 | []=>none
 | c :: r=>if c = 59 then some ([],r) else match zg r with
   | none=>none
   | some (a,b)=>some (c :: a,b)
theorem YG : ∀ (t r:qj),(59:UInt8) ∉ t → zg (t ++ 59 :: r) = some (t,r)
 | [],r,_=>by simp [zg]
 | c :: t,r,h=>by
   simp only [List.mem_cons,not_or] at h
   show (if c = 59 then some ([],t ++ 59 :: r) else match zg (t ++ 59 :: r) with|none=>none|some (a,b)=>some (c :: a,b)) = _
   rw [if_neg (fun e=>h.1 e.symm),YG t r h.2]
theorem zH : ∀ {s t r:qj},zg s = some (t,r) → s = t ++ 59 :: r ∧ (59:UInt8) ∉ t
 | [],t,r,h=>by cases h
 | c :: s,t,r,h=>by
   unfold zg at h
   split at h
   ·rename_i hc
    injection h with h
    injection h with h1 h2
    subst h1 h2 hc
    exact ⟨rfl,by simp⟩
   ·rename_i hc
    split at h
    ·cases h
    ·rename_i a b hab
     injection h with h
     injection h with h1 h2
     subst h1 h2
     obtain ⟨e,hn⟩:=zH hab
     rw [e]
     refine ⟨rfl,?_⟩
     simp only [List.mem_cons,not_or]
     exact ⟨fun e=>hc e.symm,hn⟩
def qO (s:qj):Option (Int × qj) :=
 match zg s with
 | none=>none
 | some (t,r)=>match Lib.atoiAll t with
   | .ok n=>if Lib.itoa n = t then some (n,r) else none
   | _=>none
theorem YX {n:Int} (h:xo n) (r:qj):qO (jV n ++ r) = some (n,r):=by
 have e:jV n ++ r = Lib.itoa n ++ 59 :: r:=by simp [jV]
 unfold qO
 rw [e,YG _ _ (Ze n)]
 simp only [VX h,if_true]
theorem wc {s r:qj} {n:Int} (h:qO s = some (n,r)):s = jV n ++ r ∧ xo n:=by
 unfold qO at h
 split at h
 ·cases h
 ·rename_i t r' hc
  split at h
  ·rename_i m hm
   split at h
   ·rename_i he
    injection h with h
    injection h with h1 h2
    subst h1 h2
    exact ⟨by rw [(zH hc).1, ← he];simp [jV],Lib.atoiAll_bounds hm⟩
   ·cases h
  ·cases h
structure Rd {α:Type} (p:qj → Option (α × qj)) (T:α → qj) (L:α → Prop):Prop where
 to : ∀ x r,L x → p (T x ++ r) = some (x,r)
 of : ∀ s x r,p s = some (x,r) → s = T x ++ r ∧ L x
theorem rd_num:Rd qO jV xo:=⟨fun _ r h=>YX h r,fun _ _ _ h=>wc h⟩
def xL (most:Int) (s:qj):Option (Int × qj) :=
 match qO s with
 | none=>none
 | some (n,r)=>if n < 0 ∨ most < n then none else some (n,r)
theorem ky {n most:Int} (h0:0 ≤ n) (h1:n ≤ most) (h2:xo n) (r:qj):xL most (jV n ++ r) = some (n,r):=by
 unfold xL
 rw [YX h2]
 simp only
 rw [if_neg (by omega)]
theorem y0 {most n:Int} {s r:qj} (h:xL most s = some (n,r)):s = jV n ++ r ∧ xo n ∧ 0 ≤ n ∧ n ≤ most:=by
 unfold xL at h
 split at h
 ·cases h
 ·rename_i m r' hm
  split at h
  ·cases h
  ·rename_i hb
   injection h with h
   injection h with h1 h2
   subst h1 h2
   obtain ⟨e,hi⟩:=wc hm
   exact ⟨e,hi,by omega,by omega⟩
def xI (t:qj):qj:=jV t.length ++ t
def qR (s:qj):Option (qj × qj) :=
 match xL s.length s with
 | none=>none
 | some (n,r)=>if (r.length:Int) < n then none else some (r.take n.toNat,r.drop n.toNat)
def zP (t:qj):Prop:=t.length ≤ 9223372036854775807
theorem rd_txt:Rd qR xI zP where
 to t r h:=by
  unfold qR
  have e:xI t ++ r = jV t.length ++ (t ++ r):=by simp [xI]
  rw [e,ky (by omega) (by simp;omega) ⟨by omega,by unfold zP at h;omega⟩]
  simp only
  rw [if_neg (by simp;omega)]
  simp
 of s t r h:=by
  unfold qR at h
  split at h
  ·cases h
  ·rename_i n r' hc
   split at h
   ·cases h
   ·rename_i hb
    injection h with h
    injection h with h1 h2
    subst h1 h2
    obtain ⟨e,hi,h0,_⟩:=y0 hc
    have hl:(r'.take n.toNat).length = n.toNat:=by rw [List.length_take];omega
    refine ⟨?_,?_⟩
    ·unfold xI
     rw [hl,List.append_assoc,List.take_append_drop,e]
     congr 2
     omega
    ·unfold zP
     rw [hl]
     have:=hi.2
     omega
def Xk (b:Bool):Int:=if b = true then 1 else 0
def Vh (b:Bool):qj:=jV (Xk b)
def xp (s:qj):Option (Bool × qj) :=
 match xL 1 s with
 | none=>none
 | some (n,r)=>some (decide (n = 1),r)
theorem rd_yes:Rd xp Vh (fun _=>True) where
 to b r _:=by
  unfold xp Vh
  cases b
  ·rw [ky (by decide) (by decide) (by unfold xo Xk;simp)];rfl
  ·rw [ky (by decide) (by decide) (by unfold xo Xk;simp)];rfl
 of s b r h:=by
  unfold xp at h
  split at h
  ·cases h
  ·rename_i n r' hc
   injection h with h
   injection h with h1 h2
   subst h1 h2
   obtain ⟨e,_,h0,h1⟩:=y0 hc
   refine ⟨?_,trivial⟩
   rw [e]
   unfold Vh Xk
   by_cases hn:n = 1
   ·subst hn;rfl
   ·have:n = 0:=by omega
    subst this;rfl
def jL {α:Type} (p:qj → Option (α × qj)) (s:qj):Nat → Option (List α × qj)
 | 0=>some ([],s)
 | i + 1=>match jL p s i with
   | none=>none
   | some (l,r)=>match p r with
     | none=>none
     | some (x,r')=>some (l ++ [x],r')
theorem VH {α:Type} {p:qj → Option (α × qj)} {T:α → qj} {L:α → Prop} (h:Rd p T L) (l:List α) (hl : ∀ x,x ∈ l → L x) (rest:qj) : ∀ i,i ≤ l.length → jL p (l.flatMap T ++ rest) i = some (l.take i,(l.drop i).flatMap T ++ rest)
 | 0,_=>by simp [jL]
 | i + 1,hi=>by
   have hi' : i < l.length:=hi
   unfold jL
   rw [VH h l hl rest i (by omega)]
   simp only
   rw [List.drop_eq_getElem_cons hi',List.flatMap_cons,List.append_assoc,h.to _ _ (hl _ (List.getElem_mem _))]
   simp only
   rw [List.take_succ_eq_append_getElem hi']
theorem VG {α:Type} {p:qj → Option (α × qj)} {T:α → qj} {L:α → Prop} (h:Rd p T L) (s:qj) : ∀ i l r,jL p s i = some (l,r) → s = l.flatMap T ++ r ∧ l.length = i ∧ ∀ x,x ∈ l → L x
 | 0,l,r,hr=>by
   simp only [jL] at hr
   injection hr with hr
   injection hr with h1 h2
   subst h1 h2
   exact ⟨rfl,rfl,by simp⟩
 | i + 1,l,r,hr=>by
   unfold jL at hr
   split at hr
   ·cases hr
   ·rename_i l' r' hp
    split at hr
    ·cases hr
    ·rename_i x r'' hx
     injection hr with hr
     injection hr with h1 h2
     subst h1 h2
     obtain ⟨e,hl,ha⟩:=VG h s i l' r' hp
     obtain ⟨e2,hx2⟩:=h.of _ _ _ hx
     refine ⟨?_,by simp [hl],?_⟩
     ·rw [e,e2];simp
     ·intro y hy
      rcases List.mem_append.1 hy with hy|hy
      ·exact ha y hy
      ·simp only [List.mem_singleton] at hy
       exact hy ▸ hx2
def Q7 {α:Type} (p:qj → Option (α × qj)) (most:Nat) (s:qj):Option (List α × qj) :=
 match xL most s with
 | none=>none
 | some (n,r)=>jL p r n.toNat
def kJ {α:Type} (T:α → qj) (l:List α):qj:=jV l.length ++ l.flatMap T
def k8 {α:Type} (L:α → Prop) (most:Nat) (l:List α):Prop:=l.length ≤ most ∧ ∀ x,x ∈ l → L x
theorem X3 {α:Type} {p:qj → Option (α × qj)} {T:α → qj} {L:α → Prop} (h:Rd p T L) {most:Nat} (hm:most ≤ 1000):Rd (Q7 p most) (kJ T) (k8 L most) where
 to l r hl:=by
  obtain ⟨h1,h2⟩:=hl
  unfold Q7 kJ
  rw [List.append_assoc,ky (by omega) (by omega) ⟨by omega,by omega⟩]
  simp only
  rw [show ((l.length:Nat):Int).toNat = l.length by omega,VH h l h2 r l.length (Nat.le_refl _)]
  simp
 of s l r hp:=by
  unfold Q7 at hp
  split at hp
  ·cases hp
  ·rename_i n r' hc
   obtain ⟨e,hi,h0,h1⟩:=y0 hc
   obtain ⟨e2,hl,ha⟩:=VG h r' n.toNat l r hp
   refine ⟨?_,by omega,ha⟩
   unfold kJ
   rw [hl,List.append_assoc, ← e2,e]
   congr 2
   omega
def kb (s:qj):Option (Chg × qj) :=
 match qO s with
 | none=>none
 | some (a,s)=>match qR s with
   | none=>none
   | some (b,s)=>match qR s with
     | none=>none
     | some (c,s)=>match qR s with
       | none=>none
       | some (d,s)=>match qO s with
         | none=>none
         | some (e,s)=>some (⟨a,b,c,d,e⟩,s)
def JN (c:Chg):qj:=jV c.kind ++ (xI c.path ++ (xI c.to ++ (xI c.text ++ jV c.base)))
def K4 (c:Chg):Prop:=xo c.kind ∧ zP c.path ∧ zP c.to ∧ zP c.text ∧ xo c.base
theorem rd_chg:Rd kb JN K4 where
 to c r h:=by
  obtain ⟨h1,h2,h3,h4,h5⟩:=h
  unfold kb JN
  simp only [List.append_assoc,rd_num.to _ _ h1,rd_txt.to _ _ h2,rd_txt.to _ _ h3,rd_txt.to _ _ h4,rd_num.to _ _ h5]
 of s c r h:=by
  unfold kb at h
  repeat' (split at h)
  all_goals first
   | cases h;done
   | skip
  rename_i h1 _ _ _ h2 _ _ _ h3 _ _ _ h4 _ _ _ h5
  injection h with h
  injection h with e1 e2
  subst e1 e2
  obtain ⟨q1,l1⟩:=rd_num.of _ _ _ h1
  obtain ⟨q2,l2⟩:=rd_txt.of _ _ _ h2
  obtain ⟨q3,l3⟩:=rd_txt.of _ _ _ h3
  obtain ⟨q4,l4⟩:=rd_txt.of _ _ _ h4
  obtain ⟨q5,l5⟩:=rd_num.of _ _ _ h5
  refine ⟨?_,l1,l2,l3,l4,l5⟩
  rw [q1,q2,q3,q4,q5]
  simp [JN]
def xZ (s:qj):Option (List Chg × qj):=Q7 kb 20 s
def YF (l:List Chg):qj:=kJ JN l
def Vq (l:List Chg):Prop:=k8 K4 20 l
theorem rd_chgs:Rd xZ YF Vq:=X3 rd_chg (by decide)
def kf (s:qj):Option (Ent × qj) :=
 match qR s with
 | none=>none
 | some (a,s)=>match xp s with
   | none=>none
   | some (b,s)=>match qR s with
     | none=>none
     | some (c,s)=>match qO s with
       | none=>none
       | some (d,s)=>some (⟨a,b,c,d⟩,s)
def zp (e:Ent):qj:=xI e.path ++ (Vh e.fold ++ (xI e.text ++ jV e.ver))
def Ka (e:Ent):Prop:=zP e.path ∧ zP e.text ∧ xo e.ver
theorem rd_ent:Rd kf zp Ka where
 to c r h:=by
  obtain ⟨h1,h2,h3⟩:=h
  unfold kf zp
  simp only [List.append_assoc,rd_num.to _ _ h3,rd_txt.to _ _ h2,rd_txt.to _ _ h1,rd_yes.to _ _ trivial]
 of s c r h:=by
  unfold kf at h
  repeat' (split at h)
  all_goals first
   | cases h;done
   | skip
  rename_i h1 _ _ _ h2 _ _ _ h3 _ _ _ h4
  injection h with h
  injection h with e1 e2
  subst e1 e2
  obtain ⟨q1,l1⟩:=rd_txt.of _ _ _ h1
  obtain ⟨q2,l2⟩:=rd_yes.of _ _ _ h2
  obtain ⟨q3,l3⟩:=rd_txt.of _ _ _ h3
  obtain ⟨q4,l4⟩:=rd_num.of _ _ _ h4
  refine ⟨?_,l1,l3,l4⟩
  rw [q1,q2,q3,q4]
  simp [zp]
def ke (s:qj):Option (Com × qj) :=
 match qO s with
 | none=>none
 | some (a,s)=>match qR s with
   | none=>none
   | some (b,s)=>match xZ s with
     | none=>none
     | some (c,s)=>some (⟨a,b,c⟩,s)
def Qp (c:Com):qj:=jV c.num ++ (xI c.key ++ YF c.chs)
def Z2 (c:Com):Prop:=xo c.num ∧ zP c.key ∧ Vq c.chs
theorem rd_com:Rd ke Qp Z2 where
 to c r h:=by
  obtain ⟨h1,h2,h3⟩:=h
  unfold ke Qp
  simp only [List.append_assoc,rd_num.to _ _ h1,rd_txt.to _ _ h2,rd_chgs.to _ _ h3]
 of s c r h:=by
  unfold ke at h
  repeat' (split at h)
  all_goals first
   | cases h;done
   | skip
  rename_i h1 _ _ _ h2 _ _ _ h3
  injection h with h
  injection h with e1 e2
  subst e1 e2
  obtain ⟨q1,l1⟩:=rd_num.of _ _ _ h1
  obtain ⟨q2,l2⟩:=rd_txt.of _ _ _ h2
  obtain ⟨q3,l3⟩:=rd_chgs.of _ _ _ h3
  refine ⟨?_,l1,l2,l3⟩
  rw [q1,q2,q3]
  simp [Qp]
def kT (s:qj):Option (List Ent × qj):=Q7 kf 60 s
def vz (s:qj):Option (List Com × qj):=Q7 ke 10 s
theorem rd_tre:Rd kT (kJ zp) (k8 Ka 60):=X3 rd_ent (by decide)
theorem rd_coms:Rd vz (kJ Qp) (k8 Z2 10):=X3 rd_com (by decide)
def QS (s:qj):Option (Rqt × qj) :=
 match qO s with
 | none=>none
 | some (a,s)=>match qR s with
   | none=>none
   | some (b,s)=>match qR s with
     | none=>none
     | some (c,s)=>match qR s with
       | none=>none
       | some (d,s)=>match qR s with
         | none=>none
         | some (e,s)=>match qR s with
           | none=>none
           | some (f,s)=>match qO s with
             | none=>none
             | some (g,s)=>match qO s with
               | none=>none
               | some (h,s)=>match qO s with
                 | none=>none
                 | some (i,s)=>match xZ s with
                   | none=>none
                   | some (j,s)=>some (⟨a,b,c,d,e,f,g,h,i,j⟩,s)
def Xd (r:Rqt):qj:=jV r.kind ++ (xI r.who ++ (xI r.folder ++ (xI r.name ++ (xI r.key ++ (xI r.text ++ (jV r.number ++ (jV r.offset ++ (jV r.base ++ YF r.chs))))))))
def W7 (r:Rqt):Prop:=xo r.kind ∧ zP r.who ∧ zP r.folder ∧ zP r.name ∧ zP r.key ∧ zP r.text ∧ xo r.number ∧ xo r.offset ∧ xo r.base ∧ Vq r.chs
theorem rd_rqt:Rd QS Xd W7 where
 to c r h:=by
  obtain ⟨h1,h2,h3,h4,h5,h6,h7,h8,h9,h10⟩:=h
  unfold QS Xd
  simp only [List.append_assoc,rd_num.to _ _ h1,rd_txt.to _ _ h2,rd_txt.to _ _ h3,rd_txt.to _ _ h4,rd_txt.to _ _ h5,rd_txt.to _ _ h6,rd_num.to _ _ h7,rd_num.to _ _ h8,rd_num.to _ _ h9,rd_chgs.to _ _ h10]
 of s c r h:=by
  unfold QS at h
  repeat' (split at h)
  all_goals first
   | cases h;done
   | skip
  rename_i h1 _ _ _ h2 _ _ _ h3 _ _ _ h4 _ _ _ h5 _ _ _ h6 _ _ _ h7 _ _ _ h8 _ _ _ h9 _ _ _ h10
  injection h with h
  injection h with e1 e2
  subst e1 e2
  obtain ⟨q1,l1⟩:=rd_num.of _ _ _ h1
  obtain ⟨q2,l2⟩:=rd_txt.of _ _ _ h2
  obtain ⟨q3,l3⟩:=rd_txt.of _ _ _ h3
  obtain ⟨q4,l4⟩:=rd_txt.of _ _ _ h4
  obtain ⟨q5,l5⟩:=rd_txt.of _ _ _ h5
  obtain ⟨q6,l6⟩:=rd_txt.of _ _ _ h6
  obtain ⟨q7,l7⟩:=rd_num.of _ _ _ h7
  obtain ⟨q8,l8⟩:=rd_num.of _ _ _ h8
  obtain ⟨q9,l9⟩:=rd_num.of _ _ _ h9
  obtain ⟨q10,l10⟩:=rd_chgs.of _ _ _ h10
  refine ⟨?_,l1,l2,l3,l4,l5,l6,l7,l8,l9,l10⟩
  rw [q1,q2,q3,q4,q5,q6,q7,q8,q9,q10]
  simp [Xd]
def wJ (s:qj):Option (Ans × qj) :=
 match qO s with
 | none=>none
 | some (a,s)=>match qO s with
   | none=>none
   | some (b,s)=>match xp s with
     | none=>none
     | some (c,s)=>match kT s with
       | none=>none
       | some (d,s)=>match vz s with
         | none=>none
         | some (e,s)=>match qO s with
           | none=>none
           | some (f,s)=>match xp s with
             | none=>none
             | some (g,s)=>some (⟨a,b,⟨c,d,e,f,g⟩⟩,s)
def VV (a:Ans):qj:=jV a.err ++ (jV a.num ++ (Vh a.page.reset ++ (kJ zp a.page.tree ++ (kJ Qp a.page.coms ++ (jV a.page.cur ++ Vh a.page.more)))))
def qaj (a:Ans):Prop:=xo a.err ∧ xo a.num ∧ k8 Ka 60 a.page.tree ∧ k8 Z2 10 a.page.coms ∧ xo a.page.cur
theorem rd_ans:Rd wJ VV qaj where
 to c r h:=by
  obtain ⟨h1,h2,h3,h4,h5⟩:=h
  unfold wJ VV
  simp only [List.append_assoc,rd_num.to _ _ h1,rd_num.to _ _ h2,rd_yes.to _ _ trivial,rd_tre.to _ _ h3,rd_coms.to _ _ h4,rd_num.to _ _ h5]
 of s c r h:=by
  unfold wJ at h
  repeat' (split at h)
  all_goals first
   | cases h;done
   | skip
  rename_i h1 _ _ _ h2 _ _ _ h3 _ _ _ h4 _ _ _ h5 _ _ _ h6 _ _ _ h7
  injection h with h
  injection h with e1 e2
  subst e1 e2
  obtain ⟨q1,l1⟩:=rd_num.of _ _ _ h1
  obtain ⟨q2,l2⟩:=rd_num.of _ _ _ h2
  obtain ⟨q3,l3⟩:=rd_yes.of _ _ _ h3
  obtain ⟨q4,l4⟩:=rd_tre.of _ _ _ h4
  obtain ⟨q5,l5⟩:=rd_coms.of _ _ _ h5
  obtain ⟨q6,l6⟩:=rd_num.of _ _ _ h6
  obtain ⟨q7,l7⟩:=rd_yes.of _ _ _ h7
  refine ⟨?_,l1,l2,l4,l5,l6⟩
  rw [q1,q2,q3,q4,q5,q6,q7]
  simp [VV]
structure WS where
 s:qj
 g:Bool
 f:Bool
def wK (n:Int):Bool:=decide (n < -1099511627776) || decide (1099511627776 < n)
def WS.num (w:WS) (n:Int):WS:=⟨w.s ++ jV n,w.g,w.f || wK n⟩
def WS.nums (w:WS) (l:List Int):WS:=l.foldl WS.num w
def WS.txt (w:WS) (t:qj):WS:=⟨w.s ++ xI t,w.g || decide (1000 < t.length),w.f || wK t.length⟩
def WS.txts (w:WS) (l:List qj):WS:=l.foldl WS.txt w
def WS.yes (w:WS) (b:Bool):WS:=w.num (Xk b)
def WS.lst {α:Type} (w:WS) (l:List α) (most:Nat) (step:WS → α → WS):WS:=if (w.g || decide (most < l.length)) = true then ⟨w.s,true,w.f⟩ else l.foldl step (w.num l.length)
def WS.chg (w:WS) (c:Chg):WS:=((w.nums [c.kind]).txts [c.path,c.to,c.text]).nums [c.base]
def WS.chgs (w:WS) (l:List Chg):WS:=w.lst l 20 WS.chg
def WS.ent (w:WS) (e:Ent):WS:=(((w.txts [e.path]).yes e.fold).txts [e.text]).nums [e.ver]
def WS.com (w:WS) (c:Com):WS:=((w.nums [c.num]).txts [c.key]).chgs c.chs
def WS.done (w:WS):qj × Int:=if w.g = true then ([],2) else if w.f = true then ([],3) else (w.s,0)
def ws0:WS:=⟨[],false,false⟩
def WS.rqt (w:WS) (r:Rqt):WS:=(((w.nums [r.kind]).txts [r.who,r.folder,r.name,r.key,r.text]).nums [r.number,r.offset,r.base]).chgs r.chs
def WS.ans (w:WS) (a:Ans):WS:=(((((w.nums [a.err,a.num]).yes a.page.reset).lst a.page.tree 60 WS.ent).lst a.page.coms 10 WS.com).nums [a.page.cur]).yes a.page.more
def vw (r:Rqt):qj × Int:=(ws0.rqt r).done
def xh (a:Ans):qj × Int:=(ws0.ans a).done
def WS.ok (w:WS):Prop:=w.g = false ∧ w.f = false
structure Wr {α:Type} (step:WS → α → WS) (T:α → qj) (L:α → Prop):Prop where
 ok : ∀ w x,(step w x).ok ↔ w.ok ∧ L x
 s : ∀ w x,w.ok → L x → (step w x).s = w.s ++ T x
def vg (n:Int):Prop := -1099511627776 ≤ n ∧ n ≤ 1099511627776
def kr (t:qj):Prop:=t.length ≤ 1000
theorem J5 (n:Int):wK n = false ↔ vg n:=by
 unfold wK vg
 rw [Bool.or_eq_false_iff,decide_eq_false_iff_not,decide_eq_false_iff_not]
 omega
theorem wr_num:Wr WS.num jV vg where
 ok w n:=by
  rw [← J5]
  unfold WS.ok WS.num
  simp only [Bool.or_eq_false_iff,and_assoc]
 s w n _ _:=rfl
theorem vk:Wr WS.txt xI kr where
 ok w t:=by
  unfold WS.ok WS.txt kr
  simp only [Bool.or_eq_false_iff,J5,vg,decide_eq_false_iff_not]
  constructor
  ·rintro ⟨⟨h1,h2⟩,h3,h4⟩
   exact ⟨⟨h1,h3⟩,by omega⟩
  ·rintro ⟨⟨h1,h2⟩,h3⟩
   exact ⟨⟨h1,by omega⟩,h2,by omega⟩
 s w t _ _:=rfl
theorem VP {α:Type} {step:WS → α → WS} {T:α → qj} {L:α → Prop} (h:Wr step T L):Wr (fun w (l:List α)=>l.foldl step w) (fun l=>l.flatMap T) (fun l => ∀ x,x ∈ l → L x) where
 ok w l:=by
  induction l generalizing w with
  | nil=>simp
  | cons x l ih =>
    simp only [List.foldl_cons,List.mem_cons,forall_eq_or_imp]
    rw [ih,h.ok,and_assoc]
 s w l hw hl:=by
   induction l generalizing w with
   | nil=>simp
   | cons x l ih =>
     simp only [List.foldl_cons,List.flatMap_cons]
     rw [ih (step w x) ((h.ok w x).2 ⟨hw,hl x (by simp)⟩) (fun y hy=>hl y (by simp [hy])),h.s w x hw (hl x (by simp)),List.append_assoc]
theorem Vf {α:Type} {step:WS → α → WS} {T:α → qj} {L:α → Prop} (h:Wr step T L) {most:Nat} (hm:most ≤ 1000):Wr (fun w (l:List α)=>w.lst l most step) (kJ T) (k8 L most) where
 ok w l:=by
  show (WS.lst w l most step).ok ↔ _
  unfold WS.lst k8
  by_cases hc:(w.g || decide (most < l.length)) = true
  ·rw [if_pos hc]
   unfold WS.ok
   simp only [Bool.or_eq_true,decide_eq_true_eq] at hc
   constructor
   ·rintro ⟨h1,_⟩;cases h1
   ·rintro ⟨⟨h1,_⟩,h2,_⟩
    rcases hc with hc|hc
    ·rw [h1] at hc;cases hc
    ·omega
  ·rw [if_neg hc]
   simp only [Bool.or_eq_true,decide_eq_true_eq,not_or] at hc
   rw [(VP h).ok (w.num l.length) l,wr_num.ok,and_assoc]
   have:vg l.length ↔ l.length ≤ most:=by unfold vg;omega
   rw [this]
 s w l hw hl:=by
   show (WS.lst w l most step).s = _
   unfold WS.lst kJ
   obtain ⟨h1,h2⟩:=hl
   rw [if_neg (by rw [hw.1];simp;exact h1)]
   have hn:vg l.length:=by unfold vg;omega
   rw [(VP h).s (w.num l.length) l ((wr_num.ok w _).2 ⟨hw,hn⟩) h2,wr_num.s w _ hw hn,List.append_assoc]
theorem Wr.and {α β γ:Type} {f:WS → α → WS} {g:WS → β → WS} {T U:_} {L K:_} (hf:Wr f T L) (hg:Wr g U K) (p:γ → α) (q:γ → β):Wr (fun w z=>g (f w (p z)) (q z)) (fun z=>T (p z) ++ U (q z)) (fun z=>L (p z) ∧ K (q z)) where
 ok w z:=by rw [hg.ok,hf.ok,and_assoc]
 s w z hw hl:=by rw [hg.s _ _ ((hf.ok _ _).2 ⟨hw,hl.1⟩) hl.2,hf.s _ _ hw hl.1,List.append_assoc]
theorem Wr.of {α:Type} {f g:WS → α → WS} {T U:α → qj} {L K:α → Prop} (h:Wr f T L) (e : ∀ w x,g w x = f w x) (e2 : ∀ x,U x = T x) (e3 : ∀ x,K x ↔ L x):Wr g U K where
 ok w x:=by rw [e,h.ok,e3]
 s w x hw hx:=by rw [e,h.s w x hw ((e3 x).1 hx),e2]
def K5 (c:Chg):Prop:=vg c.kind ∧ kr c.path ∧ kr c.to ∧ kr c.text ∧ vg c.base
theorem qac:Wr WS.chg JN K5 :=
 Wr.of (Wr.and (Wr.and (Wr.and (Wr.and wr_num vk Chg.kind Chg.path) vk id Chg.to) vk id Chg.text) wr_num id Chg.base)
  (fun w c=>rfl) (fun c=>by simp [JN]) (fun c=>by simp [K5,and_assoc])
def ZY (l:List Chg):Prop:=k8 K5 20 l
theorem VO:Wr WS.chgs YF ZY:=Vf qac (by decide)
theorem Vg:Wr WS.yes Vh (fun _=>True) where
 ok w b:=by
  unfold WS.yes
  rw [wr_num.ok]
  have:vg (Xk b):=by cases b<;>(unfold vg Xk;simp)
  simp [this]
 s w b _ _:=rfl
def K8 (e:Ent):Prop:=kr e.path ∧ kr e.text ∧ vg e.ver
theorem qae:Wr WS.ent zp K8 :=
 Wr.of (Wr.and (Wr.and (Wr.and vk Vg Ent.path Ent.fold) vk id Ent.text) wr_num id Ent.ver)
  (fun w c=>rfl) (fun c=>by simp [zp]) (fun c=>by simp [K8,and_assoc])
def K6 (c:Com):Prop:=vg c.num ∧ kr c.key ∧ ZY c.chs
theorem qad:Wr WS.com Qp K6 :=
 Wr.of (Wr.and (Wr.and wr_num vk Com.num Com.key) VO id Com.chs)
  (fun w c=>rfl) (fun c=>by simp [Qp]) (fun c=>by simp [K6,and_assoc])
def Zq (r:Rqt):Prop:=vg r.kind ∧ kr r.who ∧ kr r.folder ∧ kr r.name ∧ kr r.key ∧ kr r.text ∧ vg r.number ∧ vg r.offset ∧ vg r.base ∧ ZY r.chs
theorem wr_rqt:Wr WS.rqt Xd Zq :=
 Wr.of (Wr.and (Wr.and (Wr.and (Wr.and (Wr.and (Wr.and (Wr.and (Wr.and (Wr.and wr_num vk Rqt.kind Rqt.who) vk id Rqt.folder) vk id Rqt.name) vk id Rqt.key) vk id Rqt.text) wr_num id Rqt.number) wr_num id Rqt.offset) wr_num id Rqt.base) VO id Rqt.chs)
  (fun w c=>rfl) (fun c=>by simp [Xd]) (fun c=>by simp [Zq,and_assoc])
def VT (a:Ans):Prop:=vg a.err ∧ vg a.num ∧ k8 K8 60 a.page.tree ∧ k8 K6 10 a.page.coms ∧ vg a.page.cur
theorem wr_ans:Wr WS.ans VV VT :=
 Wr.of (Wr.and (Wr.and (Wr.and (Wr.and (Wr.and (Wr.and wr_num wr_num Ans.err Ans.num) Vg id (fun a=>a.page.reset)) (Vf qae (by decide:60 ≤ 1000)) id (fun a=>a.page.tree)) (Vf qad (by decide:10 ≤ 1000)) id (fun a=>a.page.coms)) wr_num id (fun a=>a.page.cur)) Vg id (fun a=>a.page.more))
  (fun w c=>rfl) (fun c=>by simp [VV]) (fun c=>by simp [VT,and_assoc])
theorem Q0 (w:WS):w.done.2 = 0 ↔ w.ok:=by
 unfold WS.done WS.ok
 cases hg:w.g<;>cases hf:w.f<;>simp
theorem Z9 {w:WS} (h:w.ok):w.done = (w.s,0):=by
 unfold WS.done
 rw [h.1,h.2]
 rfl
theorem Yq:ws0.ok:=⟨rfl,rfl⟩
theorem WU {r:Rqt} (h:Zq r):vw r = (Xd r,0):=by
 unfold vw
 rw [Z9 ((wr_rqt.ok _ _).2 ⟨Yq,h⟩),wr_rqt.s _ _ Yq h]
 rfl
theorem ZS {r:Rqt} (h:(vw r).2 = 0):Zq r:=((wr_rqt.ok _ _).1 ((Q0 _).1 h)).2
theorem WC {r:Ans} (h:VT r):xh r = (VV r,0):=by
 unfold xh
 rw [Z9 ((wr_ans.ok _ _).2 ⟨Yq,h⟩),wr_ans.s _ _ Yq h]
 rfl
theorem Zw {r:Ans} (h:(xh r).2 = 0):VT r:=((wr_ans.ok _ _).1 ((Q0 _).1 h)).2
theorem yy {n:Int} (h:vg n):xo n:=by unfold vg at h;unfold xo;omega
theorem yG {t:qj} (h:kr t):zP t:=by unfold kr at h;unfold zP;omega
theorem kK {α:Type} {L K:α → Prop} (h : ∀ x,L x → K x) {m:Nat} {l:List α} (hl:k8 L m l):k8 K m l:=⟨hl.1,fun x hx=>h x (hl.2 x hx)⟩
theorem YE {c:Chg} (h:K5 c):K4 c:=⟨yy h.1,yG h.2.1,yG h.2.2.1,yG h.2.2.2.1,yy h.2.2.2.2⟩
theorem Ke {c:Ent} (h:K8 c):Ka c:=⟨yG h.1,yG h.2.1,yy h.2.2⟩
theorem Z6 {c:Com} (h:K6 c):Z2 c:=⟨yy h.1,yG h.2.1,kK (fun _=>YE) h.2.2⟩
theorem KF {r:Rqt} (h:Zq r):W7 r:=by
 obtain ⟨h1,h2,h3,h4,h5,h6,h7,h8,h9,h10⟩:=h
 exact ⟨yy h1,yG h2,yG h3,yG h4,yG h5,yG h6,yy h7,yy h8,yy h9,kK (fun _=>YE) h10⟩
theorem ZP {r:Ans} (h:VT r):qaj r:=by
 obtain ⟨h1,h2,h3,h4,h5⟩:=h
 exact ⟨yy h1,yy h2,kK (fun _=>Ke) h3,kK (fun _=>Z6) h4,yy h5⟩
def yw (s:qj):Rqt × Int :=
 match QS s with
 | none=>(noRqt,1)
 | some (r,rest)=>if rest = [] ∧ vw r = (s,0) then (r,0) else (noRqt,1)
def xB (s:qj):Ans × Int :=
 match wJ s with
 | none=>(noAns,1)
 | some (r,rest)=>if rest = [] ∧ xh r = (s,0) then (r,0) else (noAns,1)
theorem Je {r:Rqt} {t:qj} (h:vw r = (t,0)):yw t = (r,0):=by
 have ho:Zq r:=ZS (by rw [h])
 have e:=WU ho
 rw [h] at e
 injection e with e _
 have:=rd_rqt.to r [] (KF ho)
 rw [List.append_nil, ← e] at this
 unfold yw
 rw [this]
 simp [h]
theorem VW {r:Rqt} {s:qj} (h:yw s = (r,0)):vw r = (s,0):=by
 unfold yw at h
 split at h
 ·injection h with _ h;cases h
 ·split at h
  ·rename_i hc
   injection h with h _
   subst h
   exact hc.2
  ·injection h with _ h;cases h
theorem Zz {r:Ans} {t:qj} (h:xh r = (t,0)):xB t = (r,0):=by
 have ho:VT r:=Zw (by rw [h])
 have e:=WC ho
 rw [h] at e
 injection e with e _
 have:=rd_ans.to r [] (ZP ho)
 rw [List.append_nil, ← e] at this
 unfold xB
 rw [this]
 simp [h]
theorem Zv {r:Ans} {s:qj} (h:xB s = (r,0)):xh r = (s,0):=by
 unfold xB at h
 split at h
 ·injection h with _ h;cases h
 ·split at h
  ·rename_i hc
   injection h with h _
   subst h
   exact hc.2
  ·injection h with _ h;cases h
end Go.Proofs.YtahbbnfmbohmmaaDoor
set_option linter.unusedVariables false
set_option linter.unusedSimpArgs false
namespace Go.Proofs.YtahbbnfmbohmmaaDoor
def WS.numR (w:WS) (n:Int):WS:=if wK n = true then ⟨w.s,w.g,true⟩ else ⟨w.s ++ jV n,w.g,w.f⟩
def WS.txtR (w:WS) (t:qj):WS:=if 1000 < t.length then ⟨w.s,true,w.f⟩ else let v:=w.numR t.length; ⟨v.s ++ t,v.g,v.f⟩
def WS.yesR (w:WS) (b:Bool):WS:=w.numR (Xk b)
def WS.chgR (w:WS) (c:Chg):WS:=((((w.numR c.kind).txtR c.path).txtR c.to).txtR c.text).numR c.base
def WS.chgsR (w:WS) (l:List Chg):WS:=if 20 < l.length then ⟨w.s,true,w.f⟩ else l.foldl WS.chgR (w.numR l.length)
def WS.entR (w:WS) (e:Ent):WS:=(((w.txtR e.path).yesR e.fold).txtR e.text).numR e.ver
def WS.comR (w:WS) (c:Com):WS:=((w.numR c.num).txtR c.key).chgsR c.chs
def WS.rqtR (w:WS) (r:Rqt):WS:=(((((((((w.numR r.kind).txtR r.who).txtR r.folder).txtR r.name).txtR r.key).txtR r.text).numR r.number).numR r.offset).numR r.base).chgsR r.chs
def qal (r:Rqt):qj × Int:=(ws0.rqtR r).done
def WS.ansR (w:WS) (a:Ans):WS:=((a.page.coms.foldl WS.comR ((a.page.tree.foldl WS.entR ((((w.numR a.err).numR a.num).yesR a.page.reset).numR a.page.tree.length)).numR a.page.coms.length)).numR a.page.cur).yesR a.page.more
def Va (a:Ans):qj × Int:=if 60 < a.page.tree.length ∨ 10 < a.page.coms.length then ([],2) else (ws0.ansR a).done
def WS.rel (w v:WS):Prop:=w.g = v.g ∧ (w.g = false → w.f = v.f ∧ (w.f = false → w.s = v.s))
theorem Y8 {w v:WS} (h:w.rel v):w.done = v.done:=by
 obtain ⟨h1,h2⟩:=h
 unfold WS.done
 rw [← h1]
 cases hg:w.g with
 | true=>rfl
 | false =>
   obtain ⟨h3,h4⟩:=h2 hg
   rw [← h3]
   cases hf:w.f with
   | true=>rfl
   | false=>rw [h4 hf]
theorem yK {w v:WS} (h:w.rel v) (n:Int):(w.num n).rel (v.numR n):=by
 obtain ⟨h1,h2⟩:=h
 unfold WS.num WS.numR WS.rel
 cases hn:wK n with
 | true=>simp [h1]
 | false=>simp [h1] at h2 ⊢;exact fun hg=>⟨(h2 hg).1,fun hf=>(h2 hg).2 hf⟩
theorem xm {w v:WS} (h:w.rel v) (t:qj):(w.txt t).rel (v.txtR t):=by
 unfold WS.txtR
 by_cases ht:1000 < t.length
 ·rw [if_pos ht]
  unfold WS.txt WS.rel
  simp [ht]
 ·rw [if_neg ht]
  have hf:wK t.length = false:=(J5 _).2 ⟨by omega,by omega⟩
  obtain ⟨h1,h2⟩:=h
  unfold WS.txt WS.numR WS.rel
  simp [ht,hf,h1,xI] at h2 ⊢
  exact h2
theorem Yi {w v:WS} (h:w.rel v) (b:Bool):(w.yes b).rel (v.yesR b):=yK h _
theorem KB {α:Type} {f g:WS → α → WS} (h : ∀ w v x,w.rel v → (f w x).rel (g v x)) (l:List α) : ∀ {w v:WS},w.rel v → (l.foldl f w).rel (l.foldl g v):=by
 induction l with
 | nil=>exact fun h=>h
 | cons x l ih=>exact fun hw=>ih (h _ _ x hw)
theorem Wv (w v:WS) (c:Chg) (h:w.rel v):(w.chg c).rel (v.chgR c):=yK (xm (xm (xm (yK h _) _) _) _) _
def zT {α:Type} (f:WS → α → WS):Prop := ∀ w x,w.g = true → (f w x).g = true
theorem xe:zT WS.numR:=fun w n h=>by unfold WS.numR;split<;>exact h
theorem xS:zT WS.txtR:=fun w n h=>by unfold WS.txtR;split; · rfl
                                     ·exact xe w _ h
theorem Jn {α:Type} {f:WS → α → WS} (h:zT f) (l:List α) : ∀ {w:WS},w.g = true → (l.foldl f w).g = true:=by
 induction l with
 | nil=>exact fun h=>h
 | cons x l ih=>exact fun hw=>ih (h _ x hw)
theorem Jm:zT WS.chgR:=fun w c h=>xe _ _ (xS _ _ (xS _ _ (xS _ _ (xe _ _ h))))
theorem XF:zT WS.chgsR:=fun w c h=>by unfold WS.chgsR;split; · rfl
                                      ·exact Jn Jm _ (xe _ _ h)
theorem V9:zT WS.entR:=fun w c h=>xe _ _ (xS _ _ (xe _ _ (xS _ _ h)))
theorem V8:zT WS.comR:=fun w c h=>XF _ _ (xS _ _ (xe _ _ h))
theorem Yh {α:Type} {f g:WS → α → WS} (h : ∀ w v x,w.rel v → (f w x).rel (g v x)) (hg:zT g) {w v:WS} (hw:w.rel v) (l:List α) {most:Nat} (hl:l.length ≤ most):(w.lst l most f).rel (l.foldl g (v.numR l.length)):=by
 unfold WS.lst
 rw [decide_eq_false (by omega),Bool.or_false]
 cases hwg:w.g with
 | true =>
   rw [if_pos rfl]
   exact ⟨(Jn hg l (xe _ _ (hw.1 ▸ hwg))).symm,fun h=>by cases h⟩
 | false =>
   rw [if_neg (by decide)]
   exact KB h l (yK hw _)
theorem Y7 (w v:WS) (l:List Chg) (h:w.rel v):(w.chgs l).rel (v.chgsR l):=by
 unfold WS.chgsR
 by_cases hl:20 < l.length
 ·rw [if_pos hl]
  unfold WS.chgs WS.lst
  rw [if_pos (by simp [hl])]
  exact ⟨rfl,fun h=>by cases h⟩
 ·rw [if_neg hl]
  exact Yh Wv Jm h l (by omega)
theorem Wx (w v:WS) (e:Ent) (h:w.rel v):(w.ent e).rel (v.entR e):=yK (xm (Yi (xm h _) _) _) _
theorem Ww (w v:WS) (c:Com) (h:w.rel v):(w.com c).rel (v.comR c):=Y7 _ _ _ (xm (yK h _) _)
theorem ZR (r:Rqt):qal r = vw r :=
 (Y8 (w:=ws0.rqt r) (Y7 _ _ _ (yK (yK (yK (xm (xm (xm (xm (xm (yK ⟨rfl,fun _=>⟨rfl,fun _=>rfl⟩⟩ _) _) _) _) _) _) _) _) _))).symm
theorem YQ {α:Type} {f:WS → α → WS} (h:zT f) {most:Nat}:zT (fun w (l:List α)=>w.lst l most f):=fun w l hw=>by
 show (WS.lst w l most f).g = true
 unfold WS.lst
 rw [hw]
 rfl
theorem Zu (a:Ans):Va a = xh a:=by
 unfold Va
 split
 ·rename_i h
  have hg:(ws0.ans a).g = true:=by
   unfold WS.ans
   have hd : ∀ (w:WS) (n:Int),(w.num n).g = w.g:=fun _ _=>rfl
   show (WS.lst (WS.lst _ a.page.tree 60 WS.ent) a.page.coms 10 WS.com).g = true
   by_cases h2:10 < a.page.coms.length
   ·unfold WS.lst
    rw [decide_eq_true h2,Bool.or_true]
    rfl
   ·refine YQ (f:=WS.com) (most:=10) ?_ _ a.page.coms ?_
    ·exact fun w c h=>YQ (f:=WS.chg) (most:=20) (fun w c h=>by show ((((w.g || _) || _) || _):Bool) = true;rw [h];rfl) _ _ (by show (w.g || _:Bool) = true;rw [h];rfl)
    ·unfold WS.lst
     rw [decide_eq_true (by omega:60 < a.page.tree.length),Bool.or_true]
     rfl
  unfold xh WS.done
  rw [hg]
  rfl
 ·rename_i h
  exact (Y8 (w:=ws0.ans a) (Yi (yK (Yh Ww V8 (Yh Wx V9 (Yi (yK (yK ⟨rfl,fun _=>⟨rfl,fun _=>rfl⟩⟩ _) _) _) _ (by omega)) _ (by omega)) _) _)).symm
structure SC where
 rest:qj
 bad:Bool
structure Sc {α:Type} (q:SC → α × SC) (p:qj → Option (α × qj)) (L:α → Prop):Prop where
 bad : ∀ s,(q ⟨s,true⟩).2.bad = true
 of : ∀ s,(q ⟨s,false⟩).2.bad = false → p s = some ((q ⟨s,false⟩).1,(q ⟨s,false⟩).2.rest)
 to : ∀ s x r,p s = some (x,r) → L x → q ⟨s,false⟩ = (x,⟨r,false⟩)
end Go.Proofs.YtahbbnfmbohmmaaDoor
