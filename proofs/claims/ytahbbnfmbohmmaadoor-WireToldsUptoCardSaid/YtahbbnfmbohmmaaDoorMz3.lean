import Derived.Test.YtahbbnfmbohmmaaDoorMz1
import Derived.Lib.AtoiAllCases
import Derived.Lib.ItoaNum
set_option linter.unusedVariables false
set_option linter.unusedSimpArgs false
namespace Go.Proofs.YtahbbnfmbohmmaaDoor
theorem kN {k:Nat} (h:k < 10):Lib.decDigits k = [UInt8.ofNat (48 + k)]:=by rw [Lib.decDigits,dif_pos h]
theorem Yc {k:Nat} (h:¬ k < 10):Lib.decDigits k = Lib.decDigits (k / 10) ++ [UInt8.ofNat (48 + k % 10)]:=by rw [Lib.decDigits,dif_neg h]
theorem zy (k:Nat) : ∀ c,c ∈ Lib.decDigits k → 48 ≤ c.toNat ∧ c.toNat ≤ 57:=by
 induction k using Nat.strongRecOn with
 | _ k ih =>
   intro c hc
   by_cases h:k < 10
   ·rw [kN h] at hc
    simp only [List.mem_singleton] at hc
    subst hc
    simp only [UInt8.toNat_ofNat']
    omega
   ·rw [Yc h] at hc
    rcases List.mem_append.1 hc with hc|hc
    ·exact ih (k / 10) (by omega) c hc
    ·simp only [List.mem_singleton] at hc
     subst hc
     simp only [UInt8.toNat_ofNat']
     omega
theorem KA (k:Nat):Lib.decDigits k ≠ []:=by
 by_cases h:k < 10
 ·rw [kN h];simp
 ·rw [Yc h];simp
theorem X6 : ∀ (l:qo) (acc v:Nat) (c:UInt8),Lib.parseUint10 acc l = .ok v → 48 ≤ c.toNat → c.toNat ≤ 57 → v * 10 + (c.toNat - 48) < 18446744073709551616 → Lib.parseUint10 acc (l ++ [c]) = .ok (v * 10 + (c.toNat - 48))
 | [],acc,v,c,h,h1,h2,h3=>by
   simp only [Lib.parseUint10] at h
   injection h with h
   subst h
   simp only [List.nil_append,Lib.parseUint10,h1,h2,and_self,if_true]
   rw [if_neg (by omega),if_neg (by omega)]
 | b :: r,acc,v,c,h,h1,h2,h3=>by
   simp only [Lib.parseUint10,List.cons_append] at h ⊢
   split at h
   ·rename_i hb
    rw [if_pos hb]
    split at h
    ·cases h
    ·rename_i hb1
     rw [if_neg hb1]
     split at h
     ·cases h
     ·rename_i hb2
      rw [if_neg hb2]
      exact X6 r _ v c h h1 h2 h3
   ·cases h
theorem qbv (u:Nat) (hu:u < 18446744073709551616):Lib.parseUint10 0 (Lib.decDigits u) = .ok u:=by
 induction u using Nat.strongRecOn with
 | _ u ih =>
   by_cases h:u < 10
   ·rw [kN h]
    have h1:(UInt8.ofNat (48 + u)).toNat = 48 + u:=by simp only [UInt8.toNat_ofNat'];omega
    have:=X6 [] 0 0 (UInt8.ofNat (48 + u)) rfl (by omega) (by omega) (by omega)
    rw [List.nil_append] at this
    rw [this,h1]
    congr 1
    omega
   ·rw [Yc h]
    have h1:(UInt8.ofNat (48 + u % 10)).toNat = 48 + u % 10:=by simp only [UInt8.toNat_ofNat'];omega
    rw [X6 _ 0 (u / 10) _ (ih (u / 10) (by omega) (by omega)) (by omega) (by omega) (by omega),h1]
    congr 1
    omega
def y7 (n:Int):Prop := -9223372036854775808 ≤ n ∧ n ≤ 9223372036854775807
theorem Zr {n:Int} (h:y7 n):Lib.atoiAll (Lib.itoa n) = .ok n:=by
 obtain ⟨h0,h1⟩:=h
 have pm : ∀ u,u < 18446744073709551616 → Lib.parseMag (Lib.decDigits u) = .ok u:=fun u hu=>by
  unfold Lib.parseMag
  rw [if_neg (KA u),qbv u hu]
 unfold Lib.itoa
 split
 ·rw [Lib.atoiAll_minus,pm _ (by omega)]
  simp only [Lib.signed]
  rw [if_neg (by omega)]
  congr 1
  omega
 ·have hpm:=pm n.toNat (by omega)
  have hd:=zy n.toNat
  cases hl:Lib.decDigits n.toNat with
  | nil=>exact absurd hl (KA _)
  | cons c r =>
    rw [hl] at hpm hd
    have:=hd c (by simp)
    rw [Lib.atoiAll_plain c r (by omega) (by omega),hpm]
    simp only [Lib.signless]
    rw [if_neg (by omega)]
    congr 1
    omega
theorem ZK (n:Int):(59:UInt8) ∉ Lib.itoa n:=by
 intro h
 unfold Lib.itoa at h
 have hd : ∀ k,(59:UInt8) ∉ Lib.decDigits k:=fun k hk=>by
  have:=(zy k _ hk).2
  simp at this
 split at h
 ·rcases List.mem_cons.1 h with h|h
  ·cases h
  ·exact hd _ h
 ·exact hd _ h
def j6 (n:Int):qo:=Lib.itoa n ++ [59]
def zp:qo → Option (qo × qo)
 | []=>none
 | c :: r=>if c = 59 then some ([],r) else match zp r with
   | none=>none
   | some (a,b)=>some (c :: a,b)
theorem Y4 : ∀ (t r:qo),(59:UInt8) ∉ t → zp (t ++ 59 :: r) = some (t,r)
 | [],r,_=>by simp [zp]
 | c :: t,r,h=>by
   simp only [List.mem_cons,not_or] at h
   show (if c = 59 then some ([],t ++ 59 :: r) else match zp (t ++ 59 :: r) with|none=>none|some (a,b)=>some (c :: a,b)) = _
   rw [if_neg (fun e=>h.1 e.symm),Y4 t r h.2]
theorem zR : ∀ {s t r:qo},zp s = some (t,r) → s = t ++ 59 :: r ∧ (59:UInt8) ∉ t
 | [],t,r,h=>by cases h
 | c :: s,t,r,h=>by
   unfold zp at h
   split at h
   ·rename_i hc
    injection h with h
    injection h with h1 h2
    subst h1 h2 hc
    exact ⟨rfl,by simp⟩
   ·rename_i hc
    split at h
    ·cases h
    ·rename_i a b hab
     injection h with h
     injection h with h1 h2
     subst h1 h2
     obtain ⟨e,hn⟩:=zR hab
     rw [e]
     refine ⟨rfl,?_⟩
     simp only [List.mem_cons,not_or]
     exact ⟨fun e=>hc e.symm,hn⟩
def qR (s:qo):Option (Int × qo) :=
 match zp s with
 | none=>none
 | some (t,r)=>match Lib.atoiAll t with
   | .ok n=>if Lib.itoa n = t then some (n,r) else none
   | _=>none
theorem Q1 {n:Int} (h:y7 n) (r:qo):qR (j6 n ++ r) = some (n,r):=by
 have e:j6 n ++ r = Lib.itoa n ++ 59 :: r:=by simp [j6]
 unfold qR
 rw [e,Y4 _ _ (ZK n)]
 simp only [Zr h,if_true]
theorem vM {s r:qo} {n:Int} (h:qR s = some (n,r)):s = j6 n ++ r ∧ y7 n:=by
 unfold qR at h
 split at h
 ·cases h
 ·rename_i t r' hc
  split at h
  ·rename_i m hm
   split at h
   ·rename_i he
    injection h with h
    injection h with h1 h2
    subst h1 h2
    exact ⟨by rw [(zR hc).1, ← he];simp [j6],Lib.atoiAll_bounds hm⟩
   ·cases h
  ·cases h
structure Rd {α:Type} (p:qo → Option (α × qo)) (T:α → qo) (L:α → Prop):Prop where
 to : ∀ x r,L x → p (T x ++ r) = some (x,r)
 of : ∀ s x r,p s = some (x,r) → s = T x ++ r ∧ L x
theorem rd_num:Rd qR j6 y7:=⟨fun _ r h=>Q1 h r,fun _ _ _ h=>vM h⟩
def y9 (most:Int) (s:qo):Option (Int × qo) :=
 match qR s with
 | none=>none
 | some (n,r)=>if n < 0 ∨ most < n then none else some (n,r)
theorem kL {n most:Int} (h0:0 ≤ n) (h1:n ≤ most) (h2:y7 n) (r:qo):y9 most (j6 n ++ r) = some (n,r):=by
 unfold y9
 rw [Q1 h2]
 simp only
 rw [if_neg (by omega)]
theorem xm {most n:Int} {s r:qo} (h:y9 most s = some (n,r)):s = j6 n ++ r ∧ y7 n ∧ 0 ≤ n ∧ n ≤ most:=by
 unfold y9 at h
 split at h
 ·cases h
 ·rename_i m r' hm
  split at h
  ·cases h
  ·rename_i hb
   injection h with h
   injection h with h1 h2
   subst h1 h2
   obtain ⟨e,hi⟩:=vM hm
   exact ⟨e,hi,by omega,by omega⟩
def xU (t:qo):qo:=j6 t.length ++ t
def ja (s:qo):Option (qo × qo) :=
 match y9 s.length s with
 | none=>none
 | some (n,r)=>if (r.length:Int) < n then none else some (r.take n.toNat,r.drop n.toNat)
def ke (t:qo):Prop:=t.length ≤ 9223372036854775807
theorem rd_txt:Rd ja xU ke where
 to t r h:=by
  unfold ja
  have e:xU t ++ r = j6 t.length ++ (t ++ r):=by simp [xU]
  rw [e,kL (by omega) (by simp;omega) ⟨by omega,by unfold ke at h;omega⟩]
  simp only
  rw [if_neg (by simp;omega)]
  simp
 of s t r h:=by
  unfold ja at h
  split at h
  ·cases h
  ·rename_i n r' hc
   split at h
   ·cases h
   ·rename_i hb
    injection h with h
    injection h with h1 h2
    subst h1 h2
    obtain ⟨e,hi,h0,_⟩:=xm hc
    have hl:(r'.take n.toNat).length = n.toNat:=by rw [List.length_take];omega
    refine ⟨?_,?_⟩
    ·unfold xU
     rw [hl,List.append_assoc,List.take_append_drop,e]
     congr 2
     omega
    ·unfold ke
     rw [hl]
     have:=hi.2
     omega
def XH (b:Bool):Int:=if b = true then 1 else 0
def VC (b:Bool):qo:=j6 (XH b)
def xl (s:qo):Option (Bool × qo) :=
 match y9 1 s with
 | none=>none
 | some (n,r)=>some (decide (n = 1),r)
theorem rd_yes:Rd xl VC (fun _=>True) where
 to b r _:=by
  unfold xl VC
  cases b
  ·rw [kL (by decide) (by decide) (by unfold y7 XH;simp)];rfl
  ·rw [kL (by decide) (by decide) (by unfold y7 XH;simp)];rfl
 of s b r h:=by
  unfold xl at h
  split at h
  ·cases h
  ·rename_i n r' hc
   injection h with h
   injection h with h1 h2
   subst h1 h2
   obtain ⟨e,_,h0,h1⟩:=xm hc
   refine ⟨?_,trivial⟩
   rw [e]
   unfold VC XH
   by_cases hn:n = 1
   ·subst hn;rfl
   ·have:n = 0:=by omega
    subst this;rfl
def jT {α:Type} (p:qo → Option (α × qo)) (s:qo):Nat → Option (List α × qo)
 | 0=>some ([],s)
 | i + 1=>match jT p s i with
   | none=>none
   | some (l,r)=>match p r with
     | none=>none
     | some (x,r')=>some (l ++ [x],r')
theorem V7 {α:Type} {p:qo → Option (α × qo)} {T:α → qo} {L:α → Prop} (h:Rd p T L) (l:List α) (hl : ∀ x,x ∈ l → L x) (rest:qo) : ∀ i,i ≤ l.length → jT p (l.flatMap T ++ rest) i = some (l.take i,(l.drop i).flatMap T ++ rest)
 | 0,_=>by simp [jT]
 | i + 1,hi=>by
   have hi' : i < l.length:=hi
   unfold jT
   rw [V7 h l hl rest i (by omega)]
   simp only
   rw [List.drop_eq_getElem_cons hi',List.flatMap_cons,List.append_assoc,h.to _ _ (hl _ (List.getElem_mem _))]
   simp only
   rw [List.take_succ_eq_append_getElem hi']
theorem V6 {α:Type} {p:qo → Option (α × qo)} {T:α → qo} {L:α → Prop} (h:Rd p T L) (s:qo) : ∀ i l r,jT p s i = some (l,r) → s = l.flatMap T ++ r ∧ l.length = i ∧ ∀ x,x ∈ l → L x
 | 0,l,r,hr=>by
   simp only [jT] at hr
   injection hr with hr
   injection hr with h1 h2
   subst h1 h2
   exact ⟨rfl,rfl,by simp⟩
 | i + 1,l,r,hr=>by
   unfold jT at hr
   split at hr
   ·cases hr
   ·rename_i l' r' hp
    split at hr
    ·cases hr
    ·rename_i x r'' hx
     injection hr with hr
     injection hr with h1 h2
     subst h1 h2
     obtain ⟨e,hl,ha⟩:=V6 h s i l' r' hp
     obtain ⟨e2,hx2⟩:=h.of _ _ _ hx
     refine ⟨?_,by simp [hl],?_⟩
     ·rw [e,e2];simp
     ·intro y hy
      rcases List.mem_append.1 hy with hy|hy
      ·exact ha y hy
      ·simp only [List.mem_singleton] at hy
       exact hy ▸ hx2
def wy {α:Type} (p:qo → Option (α × qo)) (most:Nat) (s:qo):Option (List α × qo) :=
 match y9 most s with
 | none=>none
 | some (n,r)=>jT p r n.toNat
def kY {α:Type} (T:α → qo) (l:List α):qo:=j6 l.length ++ l.flatMap T
def ka {α:Type} (L:α → Prop) (most:Nat) (l:List α):Prop:=l.length ≤ most ∧ ∀ x,x ∈ l → L x
theorem Vo {α:Type} {p:qo → Option (α × qo)} {T:α → qo} {L:α → Prop} (h:Rd p T L) {most:Nat} (hm:most ≤ 1000):Rd (wy p most) (kY T) (ka L most) where
 to l r hl:=by
  obtain ⟨h1,h2⟩:=hl
  unfold wy kY
  rw [List.append_assoc,kL (by omega) (by omega) ⟨by omega,by omega⟩]
  simp only
  rw [show ((l.length:Nat):Int).toNat = l.length by omega,V7 h l h2 r l.length (Nat.le_refl _)]
  simp
 of s l r hp:=by
  unfold wy at hp
  split at hp
  ·cases hp
  ·rename_i n r' hc
   obtain ⟨e,hi,h0,h1⟩:=xm hc
   obtain ⟨e2,hl,ha⟩:=V6 h r' n.toNat l r hp
   refine ⟨?_,by omega,ha⟩
   unfold kY
   rw [hl,List.append_assoc, ← e2,e]
   congr 2
   omega
def zn (s:qo):Option (Chg × qo) :=
 match qR s with
 | none=>none
 | some (a,s)=>match ja s with
   | none=>none
   | some (b,s)=>match ja s with
     | none=>none
     | some (c,s)=>match ja s with
       | none=>none
       | some (d,s)=>match qR s with
         | none=>none
         | some (e,s)=>some (⟨a,b,c,d,e⟩,s)
def J8 (c:Chg):qo:=j6 c.kind ++ (xU c.path ++ (xU c.to ++ (xU c.text ++ j6 c.base)))
def WG (c:Chg):Prop:=y7 c.kind ∧ ke c.path ∧ ke c.to ∧ ke c.text ∧ y7 c.base
theorem rd_chg:Rd zn J8 WG where
 to c r h:=by
  obtain ⟨h1,h2,h3,h4,h5⟩:=h
  unfold zn J8
  simp only [List.append_assoc,rd_num.to _ _ h1,rd_txt.to _ _ h2,rd_txt.to _ _ h3,rd_txt.to _ _ h4,rd_num.to _ _ h5]
 of s c r h:=by
  unfold zn at h
  repeat' (split at h)
  all_goals first
   | cases h;done
   | skip
  rename_i h1 _ _ _ h2 _ _ _ h3 _ _ _ h4 _ _ _ h5
  injection h with h
  injection h with e1 e2
  subst e1 e2
  obtain ⟨q1,l1⟩:=rd_num.of _ _ _ h1
  obtain ⟨q2,l2⟩:=rd_txt.of _ _ _ h2
  obtain ⟨q3,l3⟩:=rd_txt.of _ _ _ h3
  obtain ⟨q4,l4⟩:=rd_txt.of _ _ _ h4
  obtain ⟨q5,l5⟩:=rd_num.of _ _ _ h5
  refine ⟨?_,l1,l2,l3,l4,l5⟩
  rw [q1,q2,q3,q4,q5]
  simp [J8]
def xV (s:qo):Option (List Chg × qo):=wy zn 20 s
def Y2 (l:List Chg):qo:=kY J8 l
def VM (l:List Chg):Prop:=ka WG 20 l
theorem rd_chgs:Rd xV Y2 VM:=Vo rd_chg (by decide)
def zq (s:qo):Option (Ent × qo) :=
 match ja s with
 | none=>none
 | some (a,s)=>match xl s with
   | none=>none
   | some (b,s)=>match ja s with
     | none=>none
     | some (c,s)=>match qR s with
       | none=>none
       | some (d,s)=>some (⟨a,b,c,d⟩,s)
def zA (e:Ent):qo:=xU e.path ++ (VC e.fold ++ (xU e.text ++ j6 e.ver))
def WK (e:Ent):Prop:=ke e.path ∧ ke e.text ∧ y7 e.ver
theorem rd_ent:Rd zq zA WK where
 to c r h:=by
  obtain ⟨h1,h2,h3⟩:=h
  unfold zq zA
  simp only [List.append_assoc,rd_num.to _ _ h3,rd_txt.to _ _ h2,rd_txt.to _ _ h1,rd_yes.to _ _ trivial]
 of s c r h:=by
  unfold zq at h
  repeat' (split at h)
  all_goals first
   | cases h;done
   | skip
  rename_i h1 _ _ _ h2 _ _ _ h3 _ _ _ h4
  injection h with h
  injection h with e1 e2
  subst e1 e2
  obtain ⟨q1,l1⟩:=rd_txt.of _ _ _ h1
  obtain ⟨q2,l2⟩:=rd_yes.of _ _ _ h2
  obtain ⟨q3,l3⟩:=rd_txt.of _ _ _ h3
  obtain ⟨q4,l4⟩:=rd_num.of _ _ _ h4
  refine ⟨?_,l1,l3,l4⟩
  rw [q1,q2,q3,q4]
  simp [zA]
def zo (s:qo):Option (Com × qo) :=
 match qR s with
 | none=>none
 | some (a,s)=>match ja s with
   | none=>none
   | some (b,s)=>match xV s with
     | none=>none
     | some (c,s)=>some (⟨a,b,c⟩,s)
def QI (c:Com):qo:=j6 c.num ++ (xU c.key ++ Y2 c.chs)
def WH (c:Com):Prop:=y7 c.num ∧ ke c.key ∧ VM c.chs
theorem rd_com:Rd zo QI WH where
 to c r h:=by
  obtain ⟨h1,h2,h3⟩:=h
  unfold zo QI
  simp only [List.append_assoc,rd_num.to _ _ h1,rd_txt.to _ _ h2,rd_chgs.to _ _ h3]
 of s c r h:=by
  unfold zo at h
  repeat' (split at h)
  all_goals first
   | cases h;done
   | skip
  rename_i h1 _ _ _ h2 _ _ _ h3
  injection h with h
  injection h with e1 e2
  subst e1 e2
  obtain ⟨q1,l1⟩:=rd_num.of _ _ _ h1
  obtain ⟨q2,l2⟩:=rd_txt.of _ _ _ h2
  obtain ⟨q3,l3⟩:=rd_chgs.of _ _ _ h3
  refine ⟨?_,l1,l2,l3⟩
  rw [q1,q2,q3]
  simp [QI]
def kF (s:qo):Option (List Ent × qo):=wy zq 60 s
def vx (s:qo):Option (List Com × qo):=wy zo 10 s
theorem rd_tre:Rd kF (kY zA) (ka WK 60):=Vo rd_ent (by decide)
theorem rd_coms:Rd vx (kY QI) (ka WH 10):=Vo rd_com (by decide)
def Je (s:qo):Option (Rqt × qo) :=
 match qR s with
 | none=>none
 | some (a,s)=>match ja s with
   | none=>none
   | some (b,s)=>match ja s with
     | none=>none
     | some (c,s)=>match ja s with
       | none=>none
       | some (d,s)=>match ja s with
         | none=>none
         | some (e,s)=>match ja s with
           | none=>none
           | some (f,s)=>match qR s with
             | none=>none
             | some (g,s)=>match qR s with
               | none=>none
               | some (h,s)=>match qR s with
                 | none=>none
                 | some (i,s)=>match xV s with
                   | none=>none
                   | some (j,s)=>some (⟨a,b,c,d,e,f,g,h,i,j⟩,s)
def Xz (r:Rqt):qo:=j6 r.kind ++ (xU r.who ++ (xU r.folder ++ (xU r.name ++ (xU r.key ++ (xU r.text ++ (j6 r.number ++ (j6 r.offset ++ (j6 r.base ++ Y2 r.chs))))))))
def qaV (r:Rqt):Prop:=y7 r.kind ∧ ke r.who ∧ ke r.folder ∧ ke r.name ∧ ke r.key ∧ ke r.text ∧ y7 r.number ∧ y7 r.offset ∧ y7 r.base ∧ VM r.chs
theorem rd_rqt:Rd Je Xz qaV where
 to c r h:=by
  obtain ⟨h1,h2,h3,h4,h5,h6,h7,h8,h9,h10⟩:=h
  unfold Je Xz
  simp only [List.append_assoc,rd_num.to _ _ h1,rd_txt.to _ _ h2,rd_txt.to _ _ h3,rd_txt.to _ _ h4,rd_txt.to _ _ h5,rd_txt.to _ _ h6,rd_num.to _ _ h7,rd_num.to _ _ h8,rd_num.to _ _ h9,rd_chgs.to _ _ h10]
 of s c r h:=by
  unfold Je at h
  repeat' (split at h)
  all_goals first
   | cases h;done
   | skip
  rename_i h1 _ _ _ h2 _ _ _ h3 _ _ _ h4 _ _ _ h5 _ _ _ h6 _ _ _ h7 _ _ _ h8 _ _ _ h9 _ _ _ h10
  injection h with h
  injection h with e1 e2
  subst e1 e2
  obtain ⟨q1,l1⟩:=rd_num.of _ _ _ h1
  obtain ⟨q2,l2⟩:=rd_txt.of _ _ _ h2
  obtain ⟨q3,l3⟩:=rd_txt.of _ _ _ h3
  obtain ⟨q4,l4⟩:=rd_txt.of _ _ _ h4
  obtain ⟨q5,l5⟩:=rd_txt.of _ _ _ h5
  obtain ⟨q6,l6⟩:=rd_txt.of _ _ _ h6
  obtain ⟨q7,l7⟩:=rd_num.of _ _ _ h7
  obtain ⟨q8,l8⟩:=rd_num.of _ _ _ h8
  obtain ⟨q9,l9⟩:=rd_num.of _ _ _ h9
  obtain ⟨q10,l10⟩:=rd_chgs.of _ _ _ h10
  refine ⟨?_,l1,l2,l3,l4,l5,l6,l7,l8,l9,l10⟩
  rw [q1,q2,q3,q4,q5,q6,q7,q8,q9,q10]
  simp [Xz]
def z8 (s:qo):Option (Ans × qo) :=
 match qR s with
 | none=>none
 | some (a,s)=>match qR s with
   | none=>none
   | some (b,s)=>match xl s with
     | none=>none
     | some (c,s)=>match kF s with
       | none=>none
       | some (d,s)=>match vx s with
         | none=>none
         | some (e,s)=>match qR s with
           | none=>none
           | some (f,s)=>match xl s with
             | none=>none
             | some (g,s)=>some (⟨a,b,⟨c,d,e,f,g⟩⟩,s)
def Zp (a:Ans):qo:=j6 a.err ++ (j6 a.num ++ (VC a.page.reset ++ (kY zA a.page.tree ++ (kY QI a.page.coms ++ (j6 a.page.cur ++ VC a.page.more)))))
def qbL (a:Ans):Prop:=y7 a.err ∧ y7 a.num ∧ ka WK 60 a.page.tree ∧ ka WH 10 a.page.coms ∧ y7 a.page.cur
theorem rd_ans:Rd z8 Zp qbL where
 to c r h:=by
  obtain ⟨h1,h2,h3,h4,h5⟩:=h
  unfold z8 Zp
  simp only [List.append_assoc,rd_num.to _ _ h1,rd_num.to _ _ h2,rd_yes.to _ _ trivial,rd_tre.to _ _ h3,rd_coms.to _ _ h4,rd_num.to _ _ h5]
 of s c r h:=by
  unfold z8 at h
  repeat' (split at h)
  all_goals first
   | cases h;done
   | skip
  rename_i h1 _ _ _ h2 _ _ _ h3 _ _ _ h4 _ _ _ h5 _ _ _ h6 _ _ _ h7
  injection h with h
  injection h with e1 e2
  subst e1 e2
  obtain ⟨q1,l1⟩:=rd_num.of _ _ _ h1
  obtain ⟨q2,l2⟩:=rd_num.of _ _ _ h2
  obtain ⟨q3,l3⟩:=rd_yes.of _ _ _ h3
  obtain ⟨q4,l4⟩:=rd_tre.of _ _ _ h4
  obtain ⟨q5,l5⟩:=rd_coms.of _ _ _ h5
  obtain ⟨q6,l6⟩:=rd_num.of _ _ _ h6
  obtain ⟨q7,l7⟩:=rd_yes.of _ _ _ h7
  refine ⟨?_,l1,l2,l4,l5,l6⟩
  rw [q1,q2,q3,q4,q5,q6,q7]
  simp [Zp]
structure WS where
 s:qo
 g:Bool
 f:Bool
def kz (n:Int):Bool:=decide (n < -1099511627776) || decide (1099511627776 < n)
def WS.num (w:WS) (n:Int):WS:=⟨w.s ++ j6 n,w.g,w.f || kz n⟩
def WS.nums (w:WS) (l:List Int):WS:=l.foldl WS.num w
def WS.txt (w:WS) (t:qo):WS:=⟨w.s ++ xU t,w.g || decide (1000 < t.length),w.f || kz t.length⟩
def WS.txts (w:WS) (l:List qo):WS:=l.foldl WS.txt w
def WS.yes (w:WS) (b:Bool):WS:=w.num (XH b)
def WS.lst {α:Type} (w:WS) (l:List α) (most:Nat) (step:WS → α → WS):WS:=if (w.g || decide (most < l.length)) = true then ⟨w.s,true,w.f⟩ else l.foldl step (w.num l.length)
def WS.chg (w:WS) (c:Chg):WS:=((w.nums [c.kind]).txts [c.path,c.to,c.text]).nums [c.base]
def WS.chgs (w:WS) (l:List Chg):WS:=w.lst l 20 WS.chg
def WS.ent (w:WS) (e:Ent):WS:=(((w.txts [e.path]).yes e.fold).txts [e.text]).nums [e.ver]
def WS.com (w:WS) (c:Com):WS:=((w.nums [c.num]).txts [c.key]).chgs c.chs
def WS.done (w:WS):qo × Int:=if w.g = true then ([],2) else if w.f = true then ([],3) else (w.s,0)
def ws0:WS:=⟨[],false,false⟩
def WS.rqt (w:WS) (r:Rqt):WS:=(((w.nums [r.kind]).txts [r.who,r.folder,r.name,r.key,r.text]).nums [r.number,r.offset,r.base]).chgs r.chs
def WS.ans (w:WS) (a:Ans):WS:=(((((w.nums [a.err,a.num]).yes a.page.reset).lst a.page.tree 60 WS.ent).lst a.page.coms 10 WS.com).nums [a.page.cur]).yes a.page.more
def Qz (r:Rqt):qo × Int:=(ws0.rqt r).done
def xL (a:Ans):qo × Int:=(ws0.ans a).done
def WS.ok (w:WS):Prop:=w.g = false ∧ w.f = false
structure Wr {α:Type} (step:WS → α → WS) (T:α → qo) (L:α → Prop):Prop where
 ok : ∀ w x,(step w x).ok ↔ w.ok ∧ L x
 s : ∀ w x,w.ok → L x → (step w x).s = w.s ++ T x
def x0 (n:Int):Prop := -1099511627776 ≤ n ∧ n ≤ 1099511627776
def zP (t:qo):Prop:=t.length ≤ 1000
theorem Yr (n:Int):kz n = false ↔ x0 n:=by
 unfold kz x0
 rw [Bool.or_eq_false_iff,decide_eq_false_iff_not,decide_eq_false_iff_not]
 omega
theorem wr_num:Wr WS.num j6 x0 where
 ok w n:=by
  rw [← Yr]
  unfold WS.ok WS.num
  simp only [Bool.or_eq_false_iff,and_assoc]
 s w n _ _:=rfl
theorem vt:Wr WS.txt xU zP where
 ok w t:=by
  unfold WS.ok WS.txt zP
  simp only [Bool.or_eq_false_iff,Yr,x0,decide_eq_false_iff_not]
  constructor
  ·rintro ⟨⟨h1,h2⟩,h3,h4⟩
   exact ⟨⟨h1,h3⟩,by omega⟩
  ·rintro ⟨⟨h1,h2⟩,h3⟩
   exact ⟨⟨h1,by omega⟩,h2,by omega⟩
 s w t _ _:=rfl
theorem Zj {α:Type} {step:WS → α → WS} {T:α → qo} {L:α → Prop} (h:Wr step T L):Wr (fun w (l:List α)=>l.foldl step w) (fun l=>l.flatMap T) (fun l => ∀ x,x ∈ l → L x) where
 ok w l:=by
  induction l generalizing w with
  | nil=>simp
  | cons x l ih =>
    simp only [List.foldl_cons,List.mem_cons,forall_eq_or_imp]
    rw [ih,h.ok,and_assoc]
 s w l hw hl:=by
   induction l generalizing w with
   | nil=>simp
   | cons x l ih =>
     simp only [List.foldl_cons,List.flatMap_cons]
     rw [ih (step w x) ((h.ok w x).2 ⟨hw,hl x (by simp)⟩) (fun y hy=>hl y (by simp [hy])),h.s w x hw (hl x (by simp)),List.append_assoc]
theorem VA {α:Type} {step:WS → α → WS} {T:α → qo} {L:α → Prop} (h:Wr step T L) {most:Nat} (hm:most ≤ 1000):Wr (fun w (l:List α)=>w.lst l most step) (kY T) (ka L most) where
 ok w l:=by
  show (WS.lst w l most step).ok ↔ _
  unfold WS.lst ka
  by_cases hc:(w.g || decide (most < l.length)) = true
  ·rw [if_pos hc]
   unfold WS.ok
   simp only [Bool.or_eq_true,decide_eq_true_eq] at hc
   constructor
   ·rintro ⟨h1,_⟩;cases h1
   ·rintro ⟨⟨h1,_⟩,h2,_⟩
    rcases hc with hc|hc
    ·rw [h1] at hc;cases hc
    ·omega
  ·rw [if_neg hc]
   simp only [Bool.or_eq_true,decide_eq_true_eq,not_or] at hc
   rw [(Zj h).ok (w.num l.length) l,wr_num.ok,and_assoc]
   have:x0 l.length ↔ l.length ≤ most:=by unfold x0;omega
   rw [this]
 s w l hw hl:=by
   show (WS.lst w l most step).s = _
   unfold WS.lst kY
   obtain ⟨h1,h2⟩:=hl
   rw [if_neg (by rw [hw.1];simp;exact h1)]
   have hn:x0 l.length:=by unfold x0;omega
   rw [(Zj h).s (w.num l.length) l ((wr_num.ok w _).2 ⟨hw,hn⟩) h2,wr_num.s w _ hw hn,List.append_assoc]
theorem Wr.and {α β γ:Type} {f:WS → α → WS} {g:WS → β → WS} {T U:_} {L K:_} (hf:Wr f T L) (hg:Wr g U K) (p:γ → α) (q:γ → β):Wr (fun w z=>g (f w (p z)) (q z)) (fun z=>T (p z) ++ U (q z)) (fun z=>L (p z) ∧ K (q z)) where
 ok w z:=by rw [hg.ok,hf.ok,and_assoc]
 s w z hw hl:=by rw [hg.s _ _ ((hf.ok _ _).2 ⟨hw,hl.1⟩) hl.2,hf.s _ _ hw hl.1,List.append_assoc]
theorem Wr.of {α:Type} {f g:WS → α → WS} {T U:α → qo} {L K:α → Prop} (h:Wr f T L) (e : ∀ w x,g w x = f w x) (e2 : ∀ x,U x = T x) (e3 : ∀ x,K x ↔ L x):Wr g U K where
 ok w x:=by rw [e,h.ok,e3]
 s w x hw hx:=by rw [e,h.s w x hw ((e3 x).1 hx),e2]
def Kp (c:Chg):Prop:=x0 c.kind ∧ zP c.path ∧ zP c.to ∧ zP c.text ∧ x0 c.base
theorem qa5:Wr WS.chg J8 Kp :=
 Wr.of (Wr.and (Wr.and (Wr.and (Wr.and wr_num vt Chg.kind Chg.path) vt id Chg.to) vt id Chg.text) wr_num id Chg.base)
  (fun w c=>rfl) (fun c=>by simp [J8]) (fun c=>by simp [Kp,and_assoc])
def VN (l:List Chg):Prop:=ka Kp 20 l
theorem Zi:Wr WS.chgs Y2 VN:=VA qa5 (by decide)
theorem VB:Wr WS.yes VC (fun _=>True) where
 ok w b:=by
  unfold WS.yes
  rw [wr_num.ok]
  have:x0 (XH b):=by cases b<;>(unfold x0 XH;simp)
  simp [this]
 s w b _ _:=rfl
def KE (e:Ent):Prop:=zP e.path ∧ zP e.text ∧ x0 e.ver
theorem qa7:Wr WS.ent zA KE :=
 Wr.of (Wr.and (Wr.and (Wr.and vt VB Ent.path Ent.fold) vt id Ent.text) wr_num id Ent.ver)
  (fun w c=>rfl) (fun c=>by simp [zA]) (fun c=>by simp [KE,and_assoc])
def Kx (c:Com):Prop:=x0 c.num ∧ zP c.key ∧ VN c.chs
theorem qa6:Wr WS.com QI Kx :=
 Wr.of (Wr.and (Wr.and wr_num vt Com.num Com.key) Zi id Com.chs)
  (fun w c=>rfl) (fun c=>by simp [QI]) (fun c=>by simp [Kx,and_assoc])
def ZX (r:Rqt):Prop:=x0 r.kind ∧ zP r.who ∧ zP r.folder ∧ zP r.name ∧ zP r.key ∧ zP r.text ∧ x0 r.number ∧ x0 r.offset ∧ x0 r.base ∧ VN r.chs
theorem wr_rqt:Wr WS.rqt Xz ZX :=
 Wr.of (Wr.and (Wr.and (Wr.and (Wr.and (Wr.and (Wr.and (Wr.and (Wr.and (Wr.and wr_num vt Rqt.kind Rqt.who) vt id Rqt.folder) vt id Rqt.name) vt id Rqt.key) vt id Rqt.text) wr_num id Rqt.number) wr_num id Rqt.offset) wr_num id Rqt.base) Zi id Rqt.chs)
  (fun w c=>rfl) (fun c=>by simp [Xz]) (fun c=>by simp [ZX,and_assoc])
def Zn (a:Ans):Prop:=x0 a.err ∧ x0 a.num ∧ ka KE 60 a.page.tree ∧ ka Kx 10 a.page.coms ∧ x0 a.page.cur
theorem wr_ans:Wr WS.ans Zp Zn :=
 Wr.of (Wr.and (Wr.and (Wr.and (Wr.and (Wr.and (Wr.and wr_num wr_num Ans.err Ans.num) VB id (fun a=>a.page.reset)) (VA qa7 (by decide:60 ≤ 1000)) id (fun a=>a.page.tree)) (VA qa6 (by decide:10 ≤ 1000)) id (fun a=>a.page.coms)) wr_num id (fun a=>a.page.cur)) VB id (fun a=>a.page.more))
  (fun w c=>rfl) (fun c=>by simp [Zp]) (fun c=>by simp [Zn,and_assoc])
theorem Jm (w:WS):w.done.2 = 0 ↔ w.ok:=by
 unfold WS.done WS.ok
 cases hg:w.g<;>cases hf:w.f<;>simp
theorem KC {w:WS} (h:w.ok):w.done = (w.s,0):=by
 unfold WS.done
 rw [h.1,h.2]
 rfl
theorem YO:ws0.ok:=⟨rfl,rfl⟩
theorem qaC {r:Rqt} (h:ZX r):Qz r = (Xz r,0):=by
 unfold Qz
 rw [KC ((wr_rqt.ok _ _).2 ⟨YO,h⟩),wr_rqt.s _ _ YO h]
 rfl
theorem Kl {r:Rqt} (h:(Qz r).2 = 0):ZX r:=((wr_rqt.ok _ _).1 ((Jm _).1 h)).2
theorem qaf {r:Ans} (h:Zn r):xL r = (Zp r,0):=by
 unfold xL
 rw [KC ((wr_ans.ok _ _).2 ⟨YO,h⟩),wr_ans.s _ _ YO h]
 rfl
theorem JV {r:Ans} (h:(xL r).2 = 0):Zn r:=((wr_ans.ok _ _).1 ((Jm _).1 h)).2
theorem vN {n:Int} (h:x0 n):y7 n:=by unfold x0 at h;unfold y7;omega
theorem xN {t:qo} (h:zP t):ke t:=by unfold zP at h;unfold ke;omega
theorem KT {α:Type} {L K:α → Prop} (h : ∀ x,L x → K x) {m:Nat} {l:List α} (hl:ka L m l):ka K m l:=⟨hl.1,fun x hx=>h x (hl.2 x hx)⟩
theorem Ks {c:Chg} (h:Kp c):WG c:=⟨vN h.1,xN h.2.1,xN h.2.2.1,xN h.2.2.2.1,vN h.2.2.2.2⟩
theorem Wf {r:Rqt} (h:ZX r):qaV r:=by
 obtain ⟨h1,h2,h3,h4,h5,h6,h7,h8,h9,h10⟩:=h
 exact ⟨vN h1,xN h2,xN h3,xN h4,xN h5,xN h6,vN h7,vN h8,vN h9,KT (fun _=>Ks) h10⟩
def we (s:qo):Rqt × Int :=
 match Je s with
 | none=>(noRqt,1)
 | some (r,rest)=>if rest = [] ∧ Qz r = (s,0) then (r,0) else (noRqt,1)
def zl (s:qo):Ans × Int :=
 match z8 s with
 | none=>(noAns,1)
 | some (r,rest)=>if rest = [] ∧ xL r = (s,0) then (r,0) else (noAns,1)
theorem Zq {r:Rqt} {t:qo} (h:Qz r = (t,0)):we t = (r,0):=by
 have ho:ZX r:=Kl (by rw [h])
 have e:=qaC ho
 rw [h] at e
 injection e with e _
 have:=rd_rqt.to r [] (Wf ho)
 rw [List.append_nil, ← e] at this
 unfold we
 rw [this]
 simp [h]
end Go.Proofs.YtahbbnfmbohmmaaDoor
set_option linter.unusedVariables false
set_option linter.unusedSimpArgs false
namespace Go.Proofs.YtahbbnfmbohmmaaDoor
def WS.numR (w:WS) (n:Int):WS:=if kz n = true then ⟨w.s,w.g,true⟩ else ⟨w.s ++ j6 n,w.g,w.f⟩
def WS.txtR (w:WS) (t:qo):WS:=if 1000 < t.length then ⟨w.s,true,w.f⟩ else let v:=w.numR t.length; ⟨v.s ++ t,v.g,v.f⟩
def WS.yesR (w:WS) (b:Bool):WS:=w.numR (XH b)
def WS.chgR (w:WS) (c:Chg):WS:=((((w.numR c.kind).txtR c.path).txtR c.to).txtR c.text).numR c.base
def WS.chgsR (w:WS) (l:List Chg):WS:=if 20 < l.length then ⟨w.s,true,w.f⟩ else l.foldl WS.chgR (w.numR l.length)
def WS.entR (w:WS) (e:Ent):WS:=(((w.txtR e.path).yesR e.fold).txtR e.text).numR e.ver
def WS.comR (w:WS) (c:Com):WS:=((w.numR c.num).txtR c.key).chgsR c.chs
def WS.ansR (w:WS) (a:Ans):WS:=((a.page.coms.foldl WS.comR ((a.page.tree.foldl WS.entR ((((w.numR a.err).numR a.num).yesR a.page.reset).numR a.page.tree.length)).numR a.page.coms.length)).numR a.page.cur).yesR a.page.more
def Jj (a:Ans):qo × Int:=if 60 < a.page.tree.length ∨ 10 < a.page.coms.length then ([],2) else (ws0.ansR a).done
def WS.rel (w v:WS):Prop:=w.g = v.g ∧ (w.g = false → w.f = v.f ∧ (w.f = false → w.s = v.s))
theorem K9 {w v:WS} (h:w.rel v):w.done = v.done:=by
 obtain ⟨h1,h2⟩:=h
 unfold WS.done
 rw [← h1]
 cases hg:w.g with
 | true=>rfl
 | false =>
   obtain ⟨h3,h4⟩:=h2 hg
   rw [← h3]
   cases hf:w.f with
   | true=>rfl
   | false=>rw [h4 hf]
theorem x6 {w v:WS} (h:w.rel v) (n:Int):(w.num n).rel (v.numR n):=by
 obtain ⟨h1,h2⟩:=h
 unfold WS.num WS.numR WS.rel
 cases hn:kz n with
 | true=>simp [h1]
 | false=>simp [h1] at h2 ⊢;exact fun hg=>⟨(h2 hg).1,fun hf=>(h2 hg).2 hf⟩
theorem zX {w v:WS} (h:w.rel v) (t:qo):(w.txt t).rel (v.txtR t):=by
 unfold WS.txtR
 by_cases ht:1000 < t.length
 ·rw [if_pos ht]
  unfold WS.txt WS.rel
  simp [ht]
 ·rw [if_neg ht]
  have hf:kz t.length = false:=(Yr _).2 ⟨by omega,by omega⟩
  obtain ⟨h1,h2⟩:=h
  unfold WS.txt WS.numR WS.rel
  simp [ht,hf,h1,xU] at h2 ⊢
  exact h2
theorem YF {w v:WS} (h:w.rel v) (b:Bool):(w.yes b).rel (v.yesR b):=x6 h _
theorem Wa {α:Type} {f g:WS → α → WS} (h : ∀ w v x,w.rel v → (f w x).rel (g v x)) (l:List α) : ∀ {w v:WS},w.rel v → (l.foldl f w).rel (l.foldl g v):=by
 induction l with
 | nil=>exact fun h=>h
 | cons x l ih=>exact fun hw=>ih (h _ _ x hw)
theorem W8 (w v:WS) (c:Chg) (h:w.rel v):(w.chg c).rel (v.chgR c):=x6 (zX (zX (zX (x6 h _) _) _) _) _
def kh {α:Type} (f:WS → α → WS):Prop := ∀ w x,w.g = true → (f w x).g = true
theorem xp:kh WS.numR:=fun w n h=>by unfold WS.numR;split<;>exact h
theorem va:kh WS.txtR:=fun w n h=>by unfold WS.txtR;split; · rfl
                                     ·exact xp w _ h
theorem JJ {α:Type} {f:WS → α → WS} (h:kh f) (l:List α) : ∀ {w:WS},w.g = true → (l.foldl f w).g = true:=by
 induction l with
 | nil=>exact fun h=>h
 | cons x l ih=>exact fun hw=>ih (h _ x hw)
theorem JI:kh WS.chgR:=fun w c h=>xp _ _ (va _ _ (va _ _ (va _ _ (xp _ _ h))))
theorem XY:kh WS.chgsR:=fun w c h=>by unfold WS.chgsR;split; · rfl
                                      ·exact JJ JI _ (xp _ _ h)
theorem ZG:kh WS.entR:=fun w c h=>xp _ _ (va _ _ (xp _ _ (va _ _ h)))
theorem ZF:kh WS.comR:=fun w c h=>XY _ _ (va _ _ (xp _ _ h))
theorem YE {α:Type} {f g:WS → α → WS} (h : ∀ w v x,w.rel v → (f w x).rel (g v x)) (hg:kh g) {w v:WS} (hw:w.rel v) (l:List α) {most:Nat} (hl:l.length ≤ most):(w.lst l most f).rel (l.foldl g (v.numR l.length)):=by
 unfold WS.lst
 rw [decide_eq_false (by omega),Bool.or_false]
 cases hwg:w.g with
 | true =>
   rw [if_pos rfl]
   exact ⟨(JJ hg l (xp _ _ (hw.1 ▸ hwg))).symm,fun h=>by cases h⟩
 | false =>
   rw [if_neg (by decide)]
   exact Wa h l (x6 hw _)
theorem K8 (w v:WS) (l:List Chg) (h:w.rel v):(w.chgs l).rel (v.chgsR l):=by
 unfold WS.chgsR
 by_cases hl:20 < l.length
 ·rw [if_pos hl]
  unfold WS.chgs WS.lst
  rw [if_pos (by simp [hl])]
  exact ⟨rfl,fun h=>by cases h⟩
 ·rw [if_neg hl]
  exact YE W8 JI h l (by omega)
theorem qaa (w v:WS) (e:Ent) (h:w.rel v):(w.ent e).rel (v.entR e):=x6 (zX (YF (zX h _) _) _) _
theorem W9 (w v:WS) (c:Com) (h:w.rel v):(w.com c).rel (v.comR c):=K8 _ _ _ (zX (x6 h _) _)
theorem Xf {α:Type} {f:WS → α → WS} (h:kh f) {most:Nat}:kh (fun w (l:List α)=>w.lst l most f):=fun w l hw=>by
 show (WS.lst w l most f).g = true
 unfold WS.lst
 rw [hw]
 rfl
theorem z6 (a:Ans):Jj a = xL a:=by
 unfold Jj
 split
 ·rename_i h
  have hg:(ws0.ans a).g = true:=by
   unfold WS.ans
   have hd : ∀ (w:WS) (n:Int),(w.num n).g = w.g:=fun _ _=>rfl
   show (WS.lst (WS.lst _ a.page.tree 60 WS.ent) a.page.coms 10 WS.com).g = true
   by_cases h2:10 < a.page.coms.length
   ·unfold WS.lst
    rw [decide_eq_true h2,Bool.or_true]
    rfl
   ·refine Xf (f:=WS.com) (most:=10) ?_ _ a.page.coms ?_
    ·exact fun w c h=>Xf (f:=WS.chg) (most:=20) (fun w c h=>by show ((((w.g || _) || _) || _):Bool) = true;rw [h];rfl) _ _ (by show (w.g || _:Bool) = true;rw [h];rfl)
    ·unfold WS.lst
     rw [decide_eq_true (by omega:60 < a.page.tree.length),Bool.or_true]
     rfl
  unfold xL WS.done
  rw [hg]
  rfl
 ·rename_i h
  exact (K9 (w:=ws0.ans a) (YF (x6 (YE W9 ZF (YE qaa ZG (YF (x6 (x6 ⟨rfl,fun _=>⟨rfl,fun _=>rfl⟩⟩ _) _) _) _ (by omega)) _ (by omega)) _) _)).symm
structure SC where
 rest:qo
 bad:Bool
def xh:qo → Nat → Nat × Nat
 | [],n=>(n,0)
 | c :: r,n=>if 48 ≤ c.toNat ∧ c.toNat ≤ 57 ∧ n < 1125899906842624 then ((xh r (10 * n + (c.toNat - 48))).1,(xh r (10 * n + (c.toNat - 48))).2 + 1) else (n,0)
def X4:qo → Bool
 | []=>false
 | c :: _=>decide (c = 45)
def xu (s:qo):Nat:=if X4 s = true then 1 else 0
def zr (s:qo):Nat:=xu s + (xh (s.drop (xu s)) 0).2
def kG (s:qo):Int:=if X4 s = true then -((xh (s.drop (xu s)) 0).1:Int) else ((xh (s.drop (xu s)) 0).1:Int)
def y4 (x:SC):Int × SC :=
 if x.bad = true ∨ x.rest[zr x.rest]? ≠ some 59 ∨ x.rest.take (zr x.rest) ≠ Lib.itoa (kG x.rest) then (0,⟨x.rest.drop (zr x.rest),true⟩) else (kG x.rest,⟨x.rest.drop (zr x.rest + 1),false⟩)
theorem zS : ∀ (s:qo) (n:Nat),n ≤ 11258999068426240 → (xh s n).1 ≤ 11258999068426240
 | [],n,h=>h
 | c :: r,n,h=>by
   unfold xh
   split
   ·exact zS r _ (by omega)
   ·exact h
theorem qal (s:qo):y7 (kG s):=by
 have:=zS (s.drop (xu s)) 0 (by decide)
 unfold kG y7
 split<;>omega
def Ws (n:Nat) (l:qo):Nat:=l.foldl (fun a c=>10 * a + (c.toNat - 48)) n
theorem Zg : ∀ (l:qo) (n:Nat),n ≤ Ws n l
 | [],n=>Nat.le_refl _
 | c :: l,n=>Nat.le_trans (by omega) (Zg l (10 * n + (c.toNat - 48)))
theorem Qr (m:Nat):Ws 0 (Lib.decDigits m) = m:=by
 induction m using Nat.strongRecOn with
 | _ m ih =>
   by_cases h:m < 10
   ·rw [kN h]
    show 10 * 0 + ((UInt8.ofNat (48 + m)).toNat - 48) = m
    simp only [UInt8.toNat_ofNat']
    omega
   ·rw [Yc h]
    unfold Ws at ih ⊢
    rw [List.foldl_append,ih (m / 10) (by omega)]
    show 10 * (m / 10) + ((UInt8.ofNat (48 + m % 10)).toNat - 48) = m
    simp only [UInt8.toNat_ofNat']
    omega
theorem QJ : ∀ (l:qo) (n:Nat) (r:qo),(∀ c,c ∈ l → 48 ≤ c.toNat ∧ c.toNat ≤ 57) → Ws n l < 1125899906842624 → xh (l ++ 59 :: r) n = (Ws n l,l.length)
 | [],n,r,_,_=>by
   show xh (59 :: r) n = _
   unfold xh
   rw [if_neg (by simp)]
   rfl
 | c :: l,n,r,hd,hv=>by
   have hc:=hd c (by simp)
   have hn:n < 1125899906842624:=Nat.lt_of_le_of_lt (Zg (c :: l) n) hv
   show xh (c :: (l ++ 59 :: r)) n = _
   unfold xh
   rw [if_pos ⟨hc.1,hc.2,hn⟩,QJ l (10 * n + (c.toNat - 48)) r (fun x hx=>hd x (by simp [hx])) hv]
   rfl
structure Sc {α:Type} (q:SC → α × SC) (p:qo → Option (α × qo)) (L:α → Prop):Prop where
 bad : ∀ s,(q ⟨s,true⟩).2.bad = true
 of : ∀ s,(q ⟨s,false⟩).2.bad = false → p s = some ((q ⟨s,false⟩).1,(q ⟨s,false⟩).2.rest)
 to : ∀ s x r,p s = some (x,r) → L x → q ⟨s,false⟩ = (x,⟨r,false⟩)
theorem Sc.back {α:Type} {q:SC → α × SC} {p:qo → Option (α × qo)} {L:α → Prop} (h:Sc q p L) {y:SC} (hb:(q y).2.bad = false):y.bad = false ∧ p y.rest = some ((q y).1,(q y).2.rest):=by
 obtain ⟨s,b⟩:=y
 cases b with
 | true=>rw [h.bad] at hb;cases hb
 | false=>exact ⟨rfl,h.of s hb⟩
theorem sc_num:Sc y4 qR x0 where
 bad s:=by unfold y4;rw [if_pos (.inl rfl)]
 of s h:=by
  unfold y4 at h ⊢
  split at h
  ·cases h
  ·rename_i hc
   rw [if_neg hc]
   simp only [not_or,Decidable.not_not] at hc
   obtain ⟨_,h1,h2⟩:=hc
   have hk:=(List.getElem?_eq_some_iff.1 h1).1
   have e:s = j6 (kG s) ++ s.drop (zr s + 1):=by
    unfold j6
    rw [← h2,List.append_assoc]
    have h3:=List.drop_eq_getElem_cons hk
    rw [(List.getElem?_eq_some_iff.1 h1).2] at h3
    rw [List.singleton_append, ← h3,List.take_append_drop]
   have:=Q1 (qal s) (s.drop (zr s + 1))
   rw [← e] at this
   exact this
 to s n r hp hn:=by
  obtain ⟨e,_⟩:=vM hp
  obtain ⟨h0,h1⟩:=hn
  have e' : s = Lib.itoa n ++ 59 :: r:=by rw [e];simp [j6]
  have key:xu s + (xh (s.drop (xu s)) 0).2 = (Lib.itoa n).length ∧ kG s = n:=by
   by_cases hneg:n < 0
   ·have hi:Lib.itoa n = 45 :: Lib.decDigits n.natAbs:=by unfold Lib.itoa;rw [if_pos hneg]
    have hs:X4 s = true:=by rw [e',hi];rfl
    have hN:xu s = 1:=by unfold xu;rw [if_pos hs]
    have hd:s.drop 1 = Lib.decDigits n.natAbs ++ 59 :: r:=by rw [e',hi];rfl
    have:=QJ (Lib.decDigits n.natAbs) 0 r (zy _) (by rw [Qr];omega)
    rw [Qr] at this
    unfold kG
    rw [hs,hN,hd,this,hi]
    exact ⟨by simp;omega,by simp;omega⟩
   ·have hi:Lib.itoa n = Lib.decDigits n.toNat:=by unfold Lib.itoa;rw [if_neg hneg]
    have hs:X4 s = false:=by
     rw [e',hi]
     have hd:=zy n.toNat
     cases hl:Lib.decDigits n.toNat with
     | nil=>exact absurd hl (KA _)
     | cons c l =>
       rw [hl] at hd
       have:=(hd c (by simp)).1
       show decide (c = 45) = false
       rw [decide_eq_false_iff_not]
       rintro rfl
       simp at this
    have hN:xu s = 0:=by unfold xu;rw [hs];rfl
    have hd:s.drop 0 = Lib.decDigits n.toNat ++ 59 :: r:=by rw [List.drop_zero,e',hi]
    have:=QJ (Lib.decDigits n.toNat) 0 r (zy _) (by rw [Qr];omega)
    rw [Qr] at this
    unfold kG
    rw [hs,hN,hd,this,hi]
    exact ⟨by simp,by simp;omega⟩
  obtain ⟨hl,hv⟩:=key
  unfold y4
  have hl' : zr s = (Lib.itoa n).length:=hl
  simp only
  rw [hl',hv]
  rw [if_neg]
  ·congr 2
   rw [e',List.drop_append,List.drop_eq_nil_of_le (by omega)]
   simp
  ·simp only [not_or,Decidable.not_not]
   refine ⟨by simp,?_,?_⟩
   ·rw [e',List.getElem?_append_right (Nat.le_refl _)];simp
   ·rw [e',List.take_left]
def wS (x:SC):qo × SC:=if (y4 x).2.bad = true ∨ (y4 x).1 < 0 ∨ ((y4 x).2.rest.length:Int) < (y4 x).1 then ([],⟨(y4 x).2.rest,true⟩) else ((y4 x).2.rest.take (y4 x).1.toNat,⟨(y4 x).2.rest.drop (y4 x).1.toNat,false⟩)
theorem sc_txt:Sc wS ja zP where
 bad s:=by unfold wS;rw [if_pos (.inl (sc_num.bad s))]
 of s h:=by
  unfold wS at h ⊢
  split at h
  ·cases h
  ·rename_i hc
   rw [if_neg hc]
   simp only [not_or,Bool.not_eq_true,Int.not_lt] at hc
   obtain ⟨h1,h2,h3⟩:=hc
   have hn:=sc_num.of s h1
   have hs:=(vM hn).1
   have hl2:=congrArg List.length hs
   rw [List.length_append] at hl2
   unfold ja y9
   rw [hn]
   simp only
   rw [if_neg (by omega)]
   simp only
   rw [if_neg (by omega)]
 to s t r hp ht:=by
  unfold ja y9 at hp
  cases hn:qR s with
  | none=>rw [hn] at hp;cases hp
  | some z =>
    obtain ⟨n,r'⟩:=z
    rw [hn] at hp
    simp only at hp
    by_cases hb:n < 0 ∨ (s.length:Int) < n
    ·rw [if_pos hb] at hp;cases hp
    ·rw [if_neg hb] at hp
     simp only at hp
     split at hp
     ·cases hp
     ·rename_i hb2
      injection hp with hp
      injection hp with h1 h2
      subst h1 h2
      unfold zP at ht
      rw [List.length_take] at ht
      have:=sc_num.to s n r' hn ⟨by omega,by omega⟩
      unfold wS
      rw [this]
      simp only
      rw [if_neg (by simp;omega)]
def YP (x:SC):Bool × SC:=(decide ((y4 x).1 = 1),⟨(y4 x).2.rest,(y4 x).2.bad || decide ((y4 x).1 < 0) || decide (1 < (y4 x).1)⟩)
theorem sc_yes:Sc YP xl (fun _=>True) where
 bad s:=by unfold YP;simp [sc_num.bad s]
 of s h:=by
  unfold YP at h ⊢
  simp only [Bool.or_eq_false_iff,decide_eq_false_iff_not] at h
  obtain ⟨⟨h1,h2⟩,h3⟩:=h
  unfold xl y9
  rw [sc_num.of s h1]
  simp only
  rw [if_neg (by omega)]
 to s t r hp _:=by
  unfold xl y9 at hp
  cases hn:qR s with
  | none=>rw [hn] at hp;cases hp
  | some z =>
    obtain ⟨n,r'⟩:=z
    rw [hn] at hp
    simp only at hp
    by_cases hb:n < 0 ∨ 1 < n
    ·rw [if_pos hb] at hp;cases hp
    ·rw [if_neg hb] at hp
     injection hp with hp
     injection hp with h1 h2
     subst h1 h2
     have:=sc_num.to s n r' hn ⟨by omega,by omega⟩
     unfold YP
     rw [this]
     simp only [Prod.mk.injEq,SC.mk.injEq,true_and]
     simp
     omega
def Jq (most:Int) (x:SC):Int × SC:=if (y4 x).2.bad = true ∨ (y4 x).1 < 0 ∨ most < (y4 x).1 then (0,⟨(y4 x).2.rest,true⟩) else (y4 x)
theorem Vs {most:Int} (hm:most ≤ 1000):Sc (Jq most) (y9 most) (fun _=>True) where
 bad s:=by unfold Jq;rw [if_pos (.inl (sc_num.bad s))]
 of s h:=by
  unfold Jq at h ⊢
  split at h
  ·cases h
  ·rename_i hc
   rw [if_neg hc]
   simp only [not_or,Bool.not_eq_true,Int.not_lt] at hc
   unfold y9
   rw [sc_num.of s hc.1]
   simp only
   rw [if_neg (by omega)]
 to s n r hp _:=by
  unfold y9 at hp
  cases hn:qR s with
  | none=>rw [hn] at hp;cases hp
  | some z =>
    obtain ⟨m,r'⟩:=z
    rw [hn] at hp
    simp only at hp
    by_cases hb:m < 0 ∨ most < m
    ·rw [if_pos hb] at hp;cases hp
    ·rw [if_neg hb] at hp
     injection hp with hp
     injection hp with h1 h2
     subst h1 h2
     have:=sc_num.to s m r' hn ⟨by omega,by omega⟩
     unfold Jq
     rw [this]
     simp only
     rw [if_neg (by simp;omega)]
def xK {α:Type} (q:SC → α × SC) (y:SC):Nat → List α × SC
 | 0=>([],y)
 | i + 1=>if (xK q y i).2.bad = true then xK q y i else ((xK q y i).1 ++ [(q (xK q y i).2).1],(q (xK q y i).2).2)
theorem V8 {α:Type} {q:SC → α × SC} {p:qo → Option (α × qo)} {L:α → Prop} (h:Sc q p L) (y:SC) : ∀ i,(xK q y i).2.bad = false → y.bad = false ∧ jT p y.rest i = some ((xK q y i).1,(xK q y i).2.rest)
 | 0,hb=>⟨hb,rfl⟩
 | i + 1,hb=>by
   unfold xK at hb ⊢
   by_cases hc:(xK q y i).2.bad = true
   ·rw [if_pos hc] at hb;rw [hc] at hb;cases hb
   ·rw [if_neg hc] at hb ⊢
    simp only at hb ⊢
    obtain ⟨h1,h2⟩:=h.back hb
    obtain ⟨h3,h4⟩:=V8 h y i h1
    refine ⟨h3,?_⟩
    unfold jT
    rw [h4]
    simp only
    rw [h2]
theorem V9 {α:Type} {q:SC → α × SC} {p:qo → Option (α × qo)} {L:α → Prop} (h:Sc q p L) (s:qo) : ∀ i l r,jT p s i = some (l,r) → (∀ x,x ∈ l → L x) → xK q ⟨s,false⟩ i = (l,⟨r,false⟩)
 | 0,l,r,hr,_=>by
   simp only [jT] at hr
   injection hr with hr
   injection hr with h1 h2
   subst h1 h2
   rfl
 | i + 1,l,r,hr,hl=>by
   unfold jT at hr
   cases hp:jT p s i with
   | none=>rw [hp] at hr;cases hr
   | some z =>
     obtain ⟨l',r'⟩:=z
     rw [hp] at hr
     simp only at hr
     cases hx:p r' with
     | none=>rw [hx] at hr;cases hr
     | some z =>
       obtain ⟨x,r''⟩:=z
       rw [hx] at hr
       injection hr with hr
       injection hr with h1 h2
       subst h1 h2
       have:=V9 h s i l' r' hp (fun y hy=>hl y (by simp [hy]))
       unfold xK
       rw [this]
       simp only
       rw [if_neg (by decide),h.to _ _ _ hx (hl x (by simp))]
theorem Xy {α:Type} (q:SC → α × SC) (s:qo) : ∀ i,xK q ⟨s,true⟩ i = ([],⟨s,true⟩)
 | 0=>rfl
 | i + 1=>by
   unfold xK
   rw [Xy q s i]
   rfl
def vA {α:Type} (q:SC → α × SC) (most:Nat) (x:SC):List α × SC:=xK q (Jq most x).2 (Jq most x).1.toNat
theorem Vu {α:Type} {q:SC → α × SC} {p:qo → Option (α × qo)} {L:α → Prop} (h:Sc q p L) {most:Nat} (hm:most ≤ 1000):Sc (vA q most) (wy p most) (ka L most) where
 bad s:=by
  unfold vA
  have hb:=(Vs (most:=most) (by omega)).bad s
  cases hc:Jq most ⟨s,true⟩ with
  | mk n y =>
    obtain ⟨r,b⟩:=y
    rw [hc] at hb
    simp only at hb
    subst hb
    simp only
    rw [Xy]
 of s hb:=by
  unfold vA at hb ⊢
  obtain ⟨h1,h2⟩:=V8 h _ _ hb
  unfold wy
  rw [(Vs (most:=most) (by omega)).of s h1]
  exact h2
 to s l r hp hl:=by
  unfold wy at hp
  cases hn:y9 most s with
  | none=>rw [hn] at hp;cases hp
  | some z =>
    obtain ⟨n,r'⟩:=z
    rw [hn] at hp
    unfold vA
    rw [(Vs (most:=most) (by omega)).to s n r' hn trivial]
    exact V9 h r' _ _ _ hp hl.2
def Y1 (x:SC):Chg × SC :=
 let a:=y4 x
 let b:=wS a.2
 let c:=wS b.2
 let d:=wS c.2
 let e:=y4 d.2
 (⟨a.1,b.1,c.1,d.1,e.1⟩,e.2)
theorem qaW:Sc Y1 zn Kp where
 bad s:=by
  cases h:(Y1 ⟨s,true⟩).2.bad with
  | true=>rfl
  | false=>exact absurd ((sc_num.back (sc_txt.back (sc_txt.back (sc_txt.back (sc_num.back h).1).1).1).1).1) (by simp)
 of s h:=by
  obtain ⟨b5,p5⟩:=sc_num.back h
  obtain ⟨b4,p4⟩:=sc_txt.back b5
  obtain ⟨b3,p3⟩:=sc_txt.back b4
  obtain ⟨b2,p2⟩:=sc_txt.back b3
  obtain ⟨b1,p1⟩:=sc_num.back b2
  unfold zn
  rw [p1];simp only
  rw [p2];simp only
  rw [p3];simp only
  rw [p4];simp only
  rw [p5]
  rfl
 to s c r hp hl:=by
  unfold zn at hp
  repeat' (split at hp)
  all_goals first
   | cases hp;done
   | skip
  rename_i h1 _ _ _ h2 _ _ _ h3 _ _ _ h4 _ _ _ h5
  injection hp with hp
  injection hp with e1 e2
  subst e1 e2
  obtain ⟨l1,l2,l3,l4,l5⟩:=hl
  unfold Y1
  simp only [sc_num.to _ _ _ h1 l1,sc_txt.to _ _ _ h2 l2,sc_txt.to _ _ _ h3 l3,sc_txt.to _ _ _ h4 l4,sc_num.to _ _ _ h5 l5]
def VO (x:SC):List Chg × SC:=vA Y1 20 x
theorem sc_chgs:Sc VO xV VN:=Vu qaW (by decide)
def Js (x:SC):Ent × SC :=
 let a:=wS x
 let b:=YP a.2
 let c:=wS b.2
 let d:=y4 c.2
 (⟨a.1,b.1,c.1,d.1⟩,d.2)
theorem qaY:Sc Js zq KE where
 bad s:=by
  cases h:(Js ⟨s,true⟩).2.bad with
  | true=>rfl
  | false=>exact absurd ((sc_txt.back (sc_yes.back (sc_txt.back (sc_num.back h).1).1).1).1) (by simp)
 of s h:=by
  obtain ⟨b4,p4⟩:=sc_num.back h
  obtain ⟨b3,p3⟩:=sc_txt.back b4
  obtain ⟨b2,p2⟩:=sc_yes.back b3
  obtain ⟨b1,p1⟩:=sc_txt.back b2
  unfold zq
  rw [p1];simp only
  rw [p2];simp only
  rw [p3];simp only
  rw [p4]
  rfl
 to s c r hp hl:=by
  unfold zq at hp
  repeat' (split at hp)
  all_goals first
   | cases hp;done
   | skip
  rename_i h1 _ _ _ h2 _ _ _ h3 _ _ _ h4
  injection hp with hp
  injection hp with e1 e2
  subst e1 e2
  obtain ⟨l1,l3,l4⟩:=hl
  unfold Js
  simp only [sc_txt.to _ _ _ h1 l1,sc_yes.to _ _ _ h2 trivial,sc_txt.to _ _ _ h3 l3,sc_num.to _ _ _ h4 l4]
def Jr (x:SC):Com × SC :=
 let a:=y4 x
 let b:=wS a.2
 let c:=VO b.2
 (⟨a.1,b.1,c.1⟩,c.2)
theorem qaX:Sc Jr zo Kx where
 bad s:=by
  cases h:(Jr ⟨s,true⟩).2.bad with
  | true=>rfl
  | false=>exact absurd ((sc_num.back (sc_txt.back (sc_chgs.back h).1).1).1) (by simp)
 of s h:=by
  obtain ⟨b3,p3⟩:=sc_chgs.back h
  obtain ⟨b2,p2⟩:=sc_txt.back b3
  obtain ⟨b1,p1⟩:=sc_num.back b2
  unfold zo
  rw [p1];simp only
  rw [p2];simp only
  rw [p3]
  rfl
 to s c r hp hl:=by
  unfold zo at hp
  repeat' (split at hp)
  all_goals first
   | cases hp;done
   | skip
  rename_i h1 _ _ _ h2 _ _ _ h3
  injection hp with hp
  injection hp with e1 e2
  subst e1 e2
  obtain ⟨l1,l2,l3⟩:=hl
  unfold Jr
  simp only [sc_num.to _ _ _ h1 l1,sc_txt.to _ _ _ h2 l2,sc_chgs.to _ _ _ h3 l3]
def Qb (x:SC):Ans × SC :=
 let a:=y4 x
 let b:=y4 a.2
 let c:=YP b.2
 let d:=vA Js 60 c.2
 let e:=vA Jr 10 d.2
 let f:=y4 e.2
 let g:=YP f.2
 (⟨a.1,b.1,⟨c.1,d.1,e.1,f.1,g.1⟩⟩,g.2)
theorem sc_tre:Sc (vA Js 60) kF (ka KE 60):=Vu qaY (by decide)
theorem sc_coms:Sc (vA Jr 10) vx (ka Kx 10):=Vu qaX (by decide)
theorem sc_ans:Sc Qb z8 Zn where
 bad s:=by
  cases h:(Qb ⟨s,true⟩).2.bad with
  | true=>rfl
  | false=>exact absurd ((sc_num.back (sc_num.back (sc_yes.back (sc_tre.back (sc_coms.back (sc_num.back (sc_yes.back h).1).1).1).1).1).1).1) (by simp)
 of s h:=by
  obtain ⟨b7,p7⟩:=sc_yes.back h
  obtain ⟨b6,p6⟩:=sc_num.back b7
  obtain ⟨b5,p5⟩:=sc_coms.back b6
  obtain ⟨b4,p4⟩:=sc_tre.back b5
  obtain ⟨b3,p3⟩:=sc_yes.back b4
  obtain ⟨b2,p2⟩:=sc_num.back b3
  obtain ⟨b1,p1⟩:=sc_num.back b2
  unfold z8
  rw [p1];simp only
  rw [p2];simp only
  rw [p3];simp only
  rw [p4];simp only
  rw [p5];simp only
  rw [p6];simp only
  rw [p7]
  rfl
 to s c r hp hl:=by
  unfold z8 at hp
  repeat' (split at hp)
  all_goals first
   | cases hp;done
   | skip
  rename_i h1 _ _ _ h2 _ _ _ h3 _ _ _ h4 _ _ _ h5 _ _ _ h6 _ _ _ h7
  injection hp with hp
  injection hp with e1 e2
  subst e1 e2
  obtain ⟨l1,l2,l4,l5,l6⟩:=hl
  unfold Qb
  simp only [sc_num.to _ _ _ h1 l1,sc_num.to _ _ _ h2 l2,sc_yes.to _ _ _ h3 trivial,sc_tre.to _ _ _ h4 l4,sc_coms.to _ _ _ h5 l5,sc_num.to _ _ _ h6 l6,sc_yes.to _ _ _ h7 trivial]
def XF (s:qo):Ans × Int:=if (Qb ⟨s,false⟩).2.bad = true ∨ (Qb ⟨s,false⟩).2.rest ≠ [] ∨ (Jj (Qb ⟨s,false⟩).1).2 ≠ 0 then (noAns,1) else ((Qb ⟨s,false⟩).1,0)
theorem Z3 (s:qo):XF s = zl s:=by
 unfold XF
 by_cases hc:(Qb ⟨s,false⟩).2.bad = true ∨ (Qb ⟨s,false⟩).2.rest ≠ [] ∨ (Jj (Qb ⟨s,false⟩).1).2 ≠ 0
 ·rw [if_pos hc]
  unfold zl
  cases hp:z8 s with
  | none=>rfl
  | some z =>
    obtain ⟨r,rest⟩:=z
    simp only
    by_cases h2:rest = [] ∧ xL r = (s,0)
    ·obtain ⟨rfl,h2⟩:=h2
     have ho:Zn r:=JV (by rw [h2])
     rw [sc_ans.to s r [] hp ho,z6,h2] at hc
     simp at hc
    ·rw [if_neg h2]
 ·rw [if_neg hc]
  simp only [not_or,Bool.not_eq_true,Decidable.not_not] at hc
  obtain ⟨h1,h2,h3⟩:=hc
  have hp:=sc_ans.of s h1
  rw [h2] at hp
  have hs:=(rd_ans.of _ _ _ hp).1
  rw [List.append_nil] at hs
  rw [z6] at h3
  have ha:=qaf (JV h3)
  unfold zl
  rw [hp]
  simp only
  rw [if_pos ⟨by trivial,by rw [ha, ← hs]⟩]
end Go.Proofs.YtahbbnfmbohmmaaDoor
