import Derived.Test.YtahbbnfmbohmmaaDoorMz0
import Derived.Lib.AtoiAllCases
import Derived.Lib.ItoaNum
set_option linter.unusedVariables false
set_option linter.unusedSimpArgs false
namespace Go.Proofs.YtahbbnfmbohmmaaDoor
theorem zU {k:Nat} (h:k < 10):Lib.decDigits k = [UInt8.ofNat (48 + k)]:=by rw [Lib.decDigits,dif_pos h]
theorem QJ {k:Nat} (h:¬ k < 10):Lib.decDigits k = Lib.decDigits (k / 10) ++ [UInt8.ofNat (48 + k % 10)]:=by rw [Lib.decDigits,dif_neg h]
theorem wZ (k:Nat) : ∀ c,c ∈ Lib.decDigits k → 48 ≤ c.toNat ∧ c.toNat ≤ 57:=by
 induction k using Nat.strongRecOn with
 | _ k ih =>
   intro c hc
   by_cases h:k < 10
   ·rw [zU h] at hc
    simp only [List.mem_singleton] at hc
    subst hc
    simp only [UInt8.toNat_ofNat']
    omega
   ·rw [QJ h] at hc
    rcases List.mem_append.1 hc with hc|hc
    ·exact ih (k / 10) (by omega) c hc
    ·simp only [List.mem_singleton] at hc
     subst hc
     simp only [UInt8.toNat_ofNat']
     omega
theorem X0 (k:Nat):Lib.decDigits k ≠ []:=by
 by_cases h:k < 10
 ·rw [zU h];simp
 ·rw [QJ h];simp
theorem QT : ∀ (l:qh) (acc v:Nat) (c:UInt8),Lib.parseUint10 acc l = .ok v → 48 ≤ c.toNat → c.toNat ≤ 57 → v * 10 + (c.toNat - 48) < 18446744073709551616 → Lib.parseUint10 acc (l ++ [c]) = .ok (v * 10 + (c.toNat - 48))
 | [],acc,v,c,h,h1,h2,h3=>by
   simp only [Lib.parseUint10] at h
   injection h with h
   subst h
   simp only [List.nil_append,Lib.parseUint10,h1,h2,and_self,if_true]
   rw [if_neg (by omega),if_neg (by omega)]
 | b :: r,acc,v,c,h,h1,h2,h3=>by
   simp only [Lib.parseUint10,List.cons_append] at h ⊢
   split at h
   ·rename_i hb
    rw [if_pos hb]
    split at h
    ·cases h
    ·rename_i hb1
     rw [if_neg hb1]
     split at h
     ·cases h
     ·rename_i hb2
      rw [if_neg hb2]
      exact QT r _ v c h h1 h2 h3
   ·cases h
theorem VD (u:Nat) (hu:u < 18446744073709551616):Lib.parseUint10 0 (Lib.decDigits u) = .ok u:=by
 induction u using Nat.strongRecOn with
 | _ u ih =>
   by_cases h:u < 10
   ·rw [zU h]
    have h1:(UInt8.ofNat (48 + u)).toNat = 48 + u:=by simp only [UInt8.toNat_ofNat'];omega
    have:=QT [] 0 0 (UInt8.ofNat (48 + u)) rfl (by omega) (by omega) (by omega)
    rw [List.nil_append] at this
    rw [this,h1]
    congr 1
    omega
   ·rw [QJ h]
    have h1:(UInt8.ofNat (48 + u % 10)).toNat = 48 + u % 10:=by simp only [UInt8.toNat_ofNat'];omega
    rw [QT _ 0 (u / 10) _ (ih (u / 10) (by omega) (by omega)) (by omega) (by omega) (by omega),h1]
    congr 1
    omega
def xg (n:Int):Prop := -9223372036854775808 ≤ n ∧ n ≤ 9223372036854775807
theorem JK {n:Int} (h:xg n):Lib.atoiAll (Lib.itoa n) = .ok n:=by
 obtain ⟨h0,h1⟩:=h
 have pm : ∀ u,u < 18446744073709551616 → Lib.parseMag (Lib.decDigits u) = .ok u:=fun u hu=>by
  unfold Lib.parseMag
  rw [if_neg (X0 u),VD u hu]
 unfold Lib.itoa
 split
 ·rw [Lib.atoiAll_minus,pm _ (by omega)]
  simp only [Lib.signed]
  rw [if_neg (by omega)]
  congr 1
  omega
 ·have hpm:=pm n.toNat (by omega)
  have hd:=wZ n.toNat
  cases hl:Lib.decDigits n.toNat with
  | nil=>exact absurd hl (X0 _)
  | cons c r =>
    rw [hl] at hpm hd
    have:=hd c (by simp)
    rw [Lib.atoiAll_plain c r (by omega) (by omega),hpm]
    simp only [Lib.signless]
    rw [if_neg (by omega)]
    congr 1
    omega
theorem JZ (n:Int):(59:UInt8) ∉ Lib.itoa n:=by
 intro h
 unfold Lib.itoa at h
 have hd : ∀ k,(59:UInt8) ∉ Lib.decDigits k:=fun k hk=>by
  have:=(wZ k _ hk).2
  simp at this
 split at h
 ·rcases List.mem_cons.1 h with h|h
  ·cases h
  ·exact hd _ h
 ·exact hd _ h
def jx (n:Int):qh:=Lib.itoa n ++ [59]
def xJ:qh → Option (qh × qh)
 | []=>none
 | c :: r=>if c = 59 then some ([],r) else match xJ r with
   | none=>none
   | some (a,b)=>some (c :: a,b)
theorem wY : ∀ (t r:qh),(59:UInt8) ∉ t → xJ (t ++ 59 :: r) = some (t,r)
 | [],r,_=>by simp [xJ]
 | c :: t,r,h=>by
   simp only [List.mem_cons,not_or] at h
   show (if c = 59 then some ([],t ++ 59 :: r) else match xJ (t ++ 59 :: r) with|none=>none|some (a,b)=>some (c :: a,b)) = _
   rw [if_neg (fun e=>h.1 e.symm),wY t r h.2]
theorem vb : ∀ {s t r:qh},xJ s = some (t,r) → s = t ++ 59 :: r ∧ (59:UInt8) ∉ t
 | [],t,r,h=>by cases h
 | c :: s,t,r,h=>by
   unfold xJ at h
   split at h
   ·rename_i hc
    injection h with h
    injection h with h1 h2
    subst h1 h2 hc
    exact ⟨rfl,by simp⟩
   ·rename_i hc
    split at h
    ·cases h
    ·rename_i a b hab
     injection h with h
     injection h with h1 h2
     subst h1 h2
     obtain ⟨e,hn⟩:=vb hab
     rw [e]
     refine ⟨rfl,?_⟩
     simp only [List.mem_cons,not_or]
     exact ⟨fun e=>hc e.symm,hn⟩
def qW (s:qh):Option (Int × qh) :=
 match xJ s with
 | none=>none
 | some (t,r)=>match Lib.atoiAll t with
   | .ok n=>if Lib.itoa n = t then some (n,r) else none
   | _=>none
theorem Ql {n:Int} (h:xg n) (r:qh):qW (jx n ++ r) = some (n,r):=by
 have e:jx n ++ r = Lib.itoa n ++ 59 :: r:=by simp [jx]
 unfold qW
 rw [e,wY _ _ (JZ n)]
 simp only [JK h,if_true]
theorem zh {s r:qh} {n:Int} (h:qW s = some (n,r)):s = jx n ++ r ∧ xg n:=by
 unfold qW at h
 split at h
 ·cases h
 ·rename_i t r' hc
  split at h
  ·rename_i m hm
   split at h
   ·rename_i he
    injection h with h
    injection h with h1 h2
    subst h1 h2
    exact ⟨by rw [(vb hc).1, ← he];simp [jx],Lib.atoiAll_bounds hm⟩
   ·cases h
  ·cases h
structure Rd {α:Type} (p:qh → Option (α × qh)) (T:α → qh) (L:α → Prop):Prop where
 to : ∀ x r,L x → p (T x ++ r) = some (x,r)
 of : ∀ s x r,p s = some (x,r) → s = T x ++ r ∧ L x
theorem rd_num:Rd qW jx xg:=⟨fun _ r h=>Ql h r,fun _ _ _ h=>zh h⟩
def xe (most:Int) (s:qh):Option (Int × qh) :=
 match qW s with
 | none=>none
 | some (n,r)=>if n < 0 ∨ most < n then none else some (n,r)
theorem wX {n most:Int} (h0:0 ≤ n) (h1:n ≤ most) (h2:xg n) (r:qh):xe most (jx n ++ r) = some (n,r):=by
 unfold xe
 rw [Ql h2]
 simp only
 rw [if_neg (by omega)]
theorem yq {most n:Int} {s r:qh} (h:xe most s = some (n,r)):s = jx n ++ r ∧ xg n ∧ 0 ≤ n ∧ n ≤ most:=by
 unfold xe at h
 split at h
 ·cases h
 ·rename_i m r' hm
  split at h
  ·cases h
  ·rename_i hb
   injection h with h
   injection h with h1 h2
   subst h1 h2
   obtain ⟨e,hi⟩:=zh hm
   exact ⟨e,hi,by omega,by omega⟩
def y7 (t:qh):qh:=jx t.length ++ t
def qz (s:qh):Option (qh × qh) :=
 match xe s.length s with
 | none=>none
 | some (n,r)=>if (r.length:Int) < n then none else some (r.take n.toNat,r.drop n.toNat)
def zo (t:qh):Prop:=t.length ≤ 9223372036854775807
theorem rd_txt:Rd qz y7 zo where
 to t r h:=by
  unfold qz
  have e:y7 t ++ r = jx t.length ++ (t ++ r):=by simp [y7]
  rw [e,wX (by omega) (by simp;omega) ⟨by omega,by unfold zo at h;omega⟩]
  simp only
  rw [if_neg (by simp;omega)]
  simp
 of s t r h:=by
  unfold qz at h
  split at h
  ·cases h
  ·rename_i n r' hc
   split at h
   ·cases h
   ·rename_i hb
    injection h with h
    injection h with h1 h2
    subst h1 h2
    obtain ⟨e,hi,h0,_⟩:=yq hc
    have hl:(r'.take n.toNat).length = n.toNat:=by rw [List.length_take];omega
    refine ⟨?_,?_⟩
    ·unfold y7
     rw [hl,List.append_assoc,List.take_append_drop,e]
     congr 2
     omega
    ·unfold zo
     rw [hl]
     have:=hi.2
     omega
def jH {α:Type} (p:qh → Option (α × qh)) (s:qh):Nat → Option (List α × qh)
 | 0=>some ([],s)
 | i + 1=>match jH p s i with
   | none=>none
   | some (l,r)=>match p r with
     | none=>none
     | some (x,r')=>some (l ++ [x],r')
theorem Jz {α:Type} {p:qh → Option (α × qh)} {T:α → qh} {L:α → Prop} (h:Rd p T L) (l:List α) (hl : ∀ x,x ∈ l → L x) (rest:qh) : ∀ i,i ≤ l.length → jH p (l.flatMap T ++ rest) i = some (l.take i,(l.drop i).flatMap T ++ rest)
 | 0,_=>by simp [jH]
 | i + 1,hi=>by
   have hi' : i < l.length:=hi
   unfold jH
   rw [Jz h l hl rest i (by omega)]
   simp only
   rw [List.drop_eq_getElem_cons hi',List.flatMap_cons,List.append_assoc,h.to _ _ (hl _ (List.getElem_mem _))]
   simp only
   rw [List.take_succ_eq_append_getElem hi']
theorem Jy {α:Type} {p:qh → Option (α × qh)} {T:α → qh} {L:α → Prop} (h:Rd p T L) (s:qh) : ∀ i l r,jH p s i = some (l,r) → s = l.flatMap T ++ r ∧ l.length = i ∧ ∀ x,x ∈ l → L x
 | 0,l,r,hr=>by
   simp only [jH] at hr
   injection hr with hr
   injection hr with h1 h2
   subst h1 h2
   exact ⟨rfl,rfl,by simp⟩
 | i + 1,l,r,hr=>by
   unfold jH at hr
   split at hr
   ·cases hr
   ·rename_i l' r' hp
    split at hr
    ·cases hr
    ·rename_i x r'' hx
     injection hr with hr
     injection hr with h1 h2
     subst h1 h2
     obtain ⟨e,hl,ha⟩:=Jy h s i l' r' hp
     obtain ⟨e2,hx2⟩:=h.of _ _ _ hx
     refine ⟨?_,by simp [hl],?_⟩
     ·rw [e,e2];simp
     ·intro y hy
      rcases List.mem_append.1 hy with hy|hy
      ·exact ha y hy
      ·simp only [List.mem_singleton] at hy
       exact hy ▸ hx2
def Qj {α:Type} (p:qh → Option (α × qh)) (most:Nat) (s:qh):Option (List α × qh) :=
 match xe most s with
 | none=>none
 | some (n,r)=>jH p r n.toNat
def Qk {α:Type} (T:α → qh) (l:List α):qh:=jx l.length ++ l.flatMap T
def QR {α:Type} (L:α → Prop) (most:Nat) (l:List α):Prop:=l.length ≤ most ∧ ∀ x,x ∈ l → L x
theorem Vk {α:Type} {p:qh → Option (α × qh)} {T:α → qh} {L:α → Prop} (h:Rd p T L) {most:Nat} (hm:most ≤ 1000):Rd (Qj p most) (Qk T) (QR L most) where
 to l r hl:=by
  obtain ⟨h1,h2⟩:=hl
  unfold Qj Qk
  rw [List.append_assoc,wX (by omega) (by omega) ⟨by omega,by omega⟩]
  simp only
  rw [show ((l.length:Nat):Int).toNat = l.length by omega,Jz h l h2 r l.length (Nat.le_refl _)]
  simp
 of s l r hp:=by
  unfold Qj at hp
  split at hp
  ·cases hp
  ·rename_i n r' hc
   obtain ⟨e,hi,h0,h1⟩:=yq hc
   obtain ⟨e2,hl,ha⟩:=Jy h r' n.toNat l r hp
   refine ⟨?_,by omega,ha⟩
   unfold Qk
   rw [hl,List.append_assoc, ← e2,e]
   congr 2
   omega
def vy (s:qh):Option (Chg × qh) :=
 match qW s with
 | none=>none
 | some (a,s)=>match qz s with
   | none=>none
   | some (b,s)=>match qz s with
     | none=>none
     | some (c,s)=>match qz s with
       | none=>none
       | some (d,s)=>match qW s with
         | none=>none
         | some (e,s)=>some (⟨a,b,c,d,e⟩,s)
def wb (c:Chg):qh:=jx c.kind ++ (y7 c.path ++ (y7 c.to ++ (y7 c.text ++ jx c.base)))
def Xu (c:Chg):Prop:=xg c.kind ∧ zo c.path ∧ zo c.to ∧ zo c.text ∧ xg c.base
theorem rd_chg:Rd vy wb Xu where
 to c r h:=by
  obtain ⟨h1,h2,h3,h4,h5⟩:=h
  unfold vy wb
  simp only [List.append_assoc,rd_num.to _ _ h1,rd_txt.to _ _ h2,rd_txt.to _ _ h3,rd_txt.to _ _ h4,rd_num.to _ _ h5]
 of s c r h:=by
  unfold vy at h
  repeat' (split at h)
  all_goals first
   | cases h;done
   | skip
  rename_i h1 _ _ _ h2 _ _ _ h3 _ _ _ h4 _ _ _ h5
  injection h with h
  injection h with e1 e2
  subst e1 e2
  obtain ⟨q1,l1⟩:=rd_num.of _ _ _ h1
  obtain ⟨q2,l2⟩:=rd_txt.of _ _ _ h2
  obtain ⟨q3,l3⟩:=rd_txt.of _ _ _ h3
  obtain ⟨q4,l4⟩:=rd_txt.of _ _ _ h4
  obtain ⟨q5,l5⟩:=rd_num.of _ _ _ h5
  refine ⟨?_,l1,l2,l3,l4,l5⟩
  rw [q1,q2,q3,q4,q5]
  simp [wb]
def xP (s:qh):Option (List Chg × qh):=Qj vy 20 s
def Jk (l:List Chg):qh:=Qk wb l
def YA (l:List Chg):Prop:=QR Xu 20 l
theorem rd_chgs:Rd xP Jk YA:=Vk rd_chg (by decide)
def kr (s:qh):Option (Rqt × qh) :=
 match qW s with
 | none=>none
 | some (a,s)=>match qz s with
   | none=>none
   | some (b,s)=>match qz s with
     | none=>none
     | some (c,s)=>match qz s with
       | none=>none
       | some (d,s)=>match qz s with
         | none=>none
         | some (e,s)=>match qz s with
           | none=>none
           | some (f,s)=>match qW s with
             | none=>none
             | some (g,s)=>match qW s with
               | none=>none
               | some (h,s)=>match qW s with
                 | none=>none
                 | some (i,s)=>match xP s with
                   | none=>none
                   | some (j,s)=>some (⟨a,b,c,d,e,f,g,h,i,j⟩,s)
def Qx (r:Rqt):qh:=jx r.kind ++ (y7 r.who ++ (y7 r.folder ++ (y7 r.name ++ (y7 r.key ++ (y7 r.text ++ (jx r.number ++ (jx r.offset ++ (jx r.base ++ Jk r.chs))))))))
def Vm (r:Rqt):Prop:=xg r.kind ∧ zo r.who ∧ zo r.folder ∧ zo r.name ∧ zo r.key ∧ zo r.text ∧ xg r.number ∧ xg r.offset ∧ xg r.base ∧ YA r.chs
theorem rd_rqt:Rd kr Qx Vm where
 to c r h:=by
  obtain ⟨h1,h2,h3,h4,h5,h6,h7,h8,h9,h10⟩:=h
  unfold kr Qx
  simp only [List.append_assoc,rd_num.to _ _ h1,rd_txt.to _ _ h2,rd_txt.to _ _ h3,rd_txt.to _ _ h4,rd_txt.to _ _ h5,rd_txt.to _ _ h6,rd_num.to _ _ h7,rd_num.to _ _ h8,rd_num.to _ _ h9,rd_chgs.to _ _ h10]
 of s c r h:=by
  unfold kr at h
  repeat' (split at h)
  all_goals first
   | cases h;done
   | skip
  rename_i h1 _ _ _ h2 _ _ _ h3 _ _ _ h4 _ _ _ h5 _ _ _ h6 _ _ _ h7 _ _ _ h8 _ _ _ h9 _ _ _ h10
  injection h with h
  injection h with e1 e2
  subst e1 e2
  obtain ⟨q1,l1⟩:=rd_num.of _ _ _ h1
  obtain ⟨q2,l2⟩:=rd_txt.of _ _ _ h2
  obtain ⟨q3,l3⟩:=rd_txt.of _ _ _ h3
  obtain ⟨q4,l4⟩:=rd_txt.of _ _ _ h4
  obtain ⟨q5,l5⟩:=rd_txt.of _ _ _ h5
  obtain ⟨q6,l6⟩:=rd_txt.of _ _ _ h6
  obtain ⟨q7,l7⟩:=rd_num.of _ _ _ h7
  obtain ⟨q8,l8⟩:=rd_num.of _ _ _ h8
  obtain ⟨q9,l9⟩:=rd_num.of _ _ _ h9
  obtain ⟨q10,l10⟩:=rd_chgs.of _ _ _ h10
  refine ⟨?_,l1,l2,l3,l4,l5,l6,l7,l8,l9,l10⟩
  rw [q1,q2,q3,q4,q5,q6,q7,q8,q9,q10]
  simp [Qx]
structure WS where
 s:qh
 g:Bool
 f:Bool
def vD (n:Int):Bool:=decide (n < -1099511627776) || decide (1099511627776 < n)
def WS.num (w:WS) (n:Int):WS:=⟨w.s ++ jx n,w.g,w.f || vD n⟩
def WS.nums (w:WS) (l:List Int):WS:=l.foldl WS.num w
def WS.txt (w:WS) (t:qh):WS:=⟨w.s ++ y7 t,w.g || decide (1000 < t.length),w.f || vD t.length⟩
def WS.txts (w:WS) (l:List qh):WS:=l.foldl WS.txt w
def WS.lst {α:Type} (w:WS) (l:List α) (most:Nat) (step:WS → α → WS):WS:=if (w.g || decide (most < l.length)) = true then ⟨w.s,true,w.f⟩ else l.foldl step (w.num l.length)
def WS.chg (w:WS) (c:Chg):WS:=((w.nums [c.kind]).txts [c.path,c.to,c.text]).nums [c.base]
def WS.chgs (w:WS) (l:List Chg):WS:=w.lst l 20 WS.chg
def WS.done (w:WS):qh × Int:=if w.g = true then ([],2) else if w.f = true then ([],3) else (w.s,0)
def ws0:WS:=⟨[],false,false⟩
def WS.rqt (w:WS) (r:Rqt):WS:=(((w.nums [r.kind]).txts [r.who,r.folder,r.name,r.key,r.text]).nums [r.number,r.offset,r.base]).chgs r.chs
def yp (r:Rqt):qh × Int:=(ws0.rqt r).done
def WS.ok (w:WS):Prop:=w.g = false ∧ w.f = false
structure Wr {α:Type} (step:WS → α → WS) (T:α → qh) (L:α → Prop):Prop where
 ok : ∀ w x,(step w x).ok ↔ w.ok ∧ L x
 s : ∀ w x,w.ok → L x → (step w x).s = w.s ++ T x
def vn (n:Int):Prop := -1099511627776 ≤ n ∧ n ≤ 1099511627776
def zA (t:qh):Prop:=t.length ≤ 1000
theorem ww (n:Int):vD n = false ↔ vn n:=by
 unfold vD vn
 rw [Bool.or_eq_false_iff,decide_eq_false_iff_not,decide_eq_false_iff_not]
 omega
theorem wr_num:Wr WS.num jx vn where
 ok w n:=by
  rw [← ww]
  unfold WS.ok WS.num
  simp only [Bool.or_eq_false_iff,and_assoc]
 s w n _ _:=rfl
theorem va:Wr WS.txt y7 zA where
 ok w t:=by
  unfold WS.ok WS.txt zA
  simp only [Bool.or_eq_false_iff,ww,vn,decide_eq_false_iff_not]
  constructor
  ·rintro ⟨⟨h1,h2⟩,h3,h4⟩
   exact ⟨⟨h1,h3⟩,by omega⟩
  ·rintro ⟨⟨h1,h2⟩,h3⟩
   exact ⟨⟨h1,by omega⟩,h2,by omega⟩
 s w t _ _:=rfl
theorem JF {α:Type} {step:WS → α → WS} {T:α → qh} {L:α → Prop} (h:Wr step T L):Wr (fun w (l:List α)=>l.foldl step w) (fun l=>l.flatMap T) (fun l => ∀ x,x ∈ l → L x) where
 ok w l:=by
  induction l generalizing w with
  | nil=>simp
  | cons x l ih =>
    simp only [List.foldl_cons,List.mem_cons,forall_eq_or_imp]
    rw [ih,h.ok,and_assoc]
 s w l hw hl:=by
   induction l generalizing w with
   | nil=>simp
   | cons x l ih =>
     simp only [List.foldl_cons,List.flatMap_cons]
     rw [ih (step w x) ((h.ok w x).2 ⟨hw,hl x (by simp)⟩) (fun y hy=>hl y (by simp [hy])),h.s w x hw (hl x (by simp)),List.append_assoc]
theorem Vs {α:Type} {step:WS → α → WS} {T:α → qh} {L:α → Prop} (h:Wr step T L) {most:Nat} (hm:most ≤ 1000):Wr (fun w (l:List α)=>w.lst l most step) (Qk T) (QR L most) where
 ok w l:=by
  show (WS.lst w l most step).ok ↔ _
  unfold WS.lst QR
  by_cases hc:(w.g || decide (most < l.length)) = true
  ·rw [if_pos hc]
   unfold WS.ok
   simp only [Bool.or_eq_true,decide_eq_true_eq] at hc
   constructor
   ·rintro ⟨h1,_⟩;cases h1
   ·rintro ⟨⟨h1,_⟩,h2,_⟩
    rcases hc with hc|hc
    ·rw [h1] at hc;cases hc
    ·omega
  ·rw [if_neg hc]
   simp only [Bool.or_eq_true,decide_eq_true_eq,not_or] at hc
   rw [(JF h).ok (w.num l.length) l,wr_num.ok,and_assoc]
   have:vn l.length ↔ l.length ≤ most:=by unfold vn;omega
   rw [this]
 s w l hw hl:=by
   show (WS.lst w l most step).s = _
   unfold WS.lst Qk
   obtain ⟨h1,h2⟩:=hl
   rw [if_neg (by rw [hw.1];simp;exact h1)]
   have hn:vn l.length:=by unfold vn;omega
   rw [(JF h).s (w.num l.length) l ((wr_num.ok w _).2 ⟨hw,hn⟩) h2,wr_num.s w _ hw hn,List.append_assoc]
theorem Wr.and {α β γ:Type} {f:WS → α → WS} {g:WS → β → WS} {T U:_} {L K:_} (hf:Wr f T L) (hg:Wr g U K) (p:γ → α) (q:γ → β):Wr (fun w z=>g (f w (p z)) (q z)) (fun z=>T (p z) ++ U (q z)) (fun z=>L (p z) ∧ K (q z)) where
 ok w z:=by rw [hg.ok,hf.ok,and_assoc]
 s w z hw hl:=by rw [hg.s _ _ ((hf.ok _ _).2 ⟨hw,hl.1⟩) hl.2,hf.s _ _ hw hl.1,List.append_assoc]
theorem Wr.of {α:Type} {f g:WS → α → WS} {T U:α → qh} {L K:α → Prop} (h:Wr f T L) (e : ∀ w x,g w x = f w x) (e2 : ∀ x,U x = T x) (e3 : ∀ x,K x ↔ L x):Wr g U K where
 ok w x:=by rw [e,h.ok,e3]
 s w x hw hx:=by rw [e,h.s w x hw ((e3 x).1 hx),e2]
def Xv (c:Chg):Prop:=vn c.kind ∧ zA c.path ∧ zA c.to ∧ zA c.text ∧ vn c.base
theorem Vr:Wr WS.chg wb Xv :=
 Wr.of (Wr.and (Wr.and (Wr.and (Wr.and wr_num va Chg.kind Chg.path) va id Chg.to) va id Chg.text) wr_num id Chg.base)
  (fun w c=>rfl) (fun c=>by simp [wb]) (fun c=>by simp [Xv,and_assoc])
def XZ (l:List Chg):Prop:=QR Xv 20 l
theorem XW:Wr WS.chgs Jk XZ:=Vs Vr (by decide)
def J9 (r:Rqt):Prop:=vn r.kind ∧ zA r.who ∧ zA r.folder ∧ zA r.name ∧ zA r.key ∧ zA r.text ∧ vn r.number ∧ vn r.offset ∧ vn r.base ∧ XZ r.chs
theorem wr_rqt:Wr WS.rqt Qx J9 :=
 Wr.of (Wr.and (Wr.and (Wr.and (Wr.and (Wr.and (Wr.and (Wr.and (Wr.and (Wr.and wr_num va Rqt.kind Rqt.who) va id Rqt.folder) va id Rqt.name) va id Rqt.key) va id Rqt.text) wr_num id Rqt.number) wr_num id Rqt.offset) wr_num id Rqt.base) XW id Rqt.chs)
  (fun w c=>rfl) (fun c=>by simp [Qx]) (fun c=>by simp [J9,and_assoc])
theorem Jb (w:WS):w.done.2 = 0 ↔ w.ok:=by
 unfold WS.done WS.ok
 cases hg:w.g<;>cases hf:w.f<;>simp
theorem Vc {w:WS} (h:w.ok):w.done = (w.s,0):=by
 unfold WS.done
 rw [h.1,h.2]
 rfl
theorem Xj:ws0.ok:=⟨rfl,rfl⟩
theorem Vb {r:Rqt} (h:J9 r):yp r = (Qx r,0):=by
 unfold yp
 rw [Vc ((wr_rqt.ok _ _).2 ⟨Xj,h⟩),wr_rqt.s _ _ Xj h]
 rfl
theorem Yt {r:Rqt} (h:(yp r).2 = 0):J9 r:=((wr_rqt.ok _ _).1 ((Jb _).1 h)).2
theorem xi {n:Int} (h:vn n):xg n:=by unfold vn at h;unfold xg;omega
theorem yE {t:qh} (h:zA t):zo t:=by unfold zA at h;unfold zo;omega
theorem YP {α:Type} {L K:α → Prop} (h : ∀ x,L x → K x) {m:Nat} {l:List α} (hl:QR L m l):QR K m l:=⟨hl.1,fun x hx=>h x (hl.2 x hx)⟩
theorem Yz {c:Chg} (h:Xv c):Xu c:=⟨xi h.1,yE h.2.1,yE h.2.2.1,yE h.2.2.2.1,xi h.2.2.2.2⟩
theorem Y8 {r:Rqt} (h:J9 r):Vm r:=by
 obtain ⟨h1,h2,h3,h4,h5,h6,h7,h8,h9,h10⟩:=h
 exact ⟨xi h1,yE h2,yE h3,yE h4,yE h5,yE h6,xi h7,xi h8,xi h9,YP (fun _=>Yz) h10⟩
def vW (s:qh):Rqt × Int :=
 match kr s with
 | none=>(noRqt,1)
 | some (r,rest)=>if rest = [] ∧ yp r = (s,0) then (r,0) else (noRqt,1)
theorem JJ {r:Rqt} {t:qh} (h:yp r = (t,0)):vW t = (r,0):=by
 have ho:J9 r:=Yt (by rw [h])
 have e:=Vb ho
 rw [h] at e
 injection e with e _
 have:=rd_rqt.to r [] (Y8 ho)
 rw [List.append_nil, ← e] at this
 unfold vW
 rw [this]
 simp [h]
end Go.Proofs.YtahbbnfmbohmmaaDoor
set_option linter.unusedVariables false
set_option linter.unusedSimpArgs false
namespace Go.Proofs.YtahbbnfmbohmmaaDoor
def WS.numR (w:WS) (n:Int):WS:=if vD n = true then ⟨w.s,w.g,true⟩ else ⟨w.s ++ jx n,w.g,w.f⟩
def WS.txtR (w:WS) (t:qh):WS:=if 1000 < t.length then ⟨w.s,true,w.f⟩ else let v:=w.numR t.length; ⟨v.s ++ t,v.g,v.f⟩
def WS.chgR (w:WS) (c:Chg):WS:=((((w.numR c.kind).txtR c.path).txtR c.to).txtR c.text).numR c.base
def WS.chgsR (w:WS) (l:List Chg):WS:=if 20 < l.length then ⟨w.s,true,w.f⟩ else l.foldl WS.chgR (w.numR l.length)
def WS.rqtR (w:WS) (r:Rqt):WS:=(((((((((w.numR r.kind).txtR r.who).txtR r.folder).txtR r.name).txtR r.key).txtR r.text).numR r.number).numR r.offset).numR r.base).chgsR r.chs
def XY (r:Rqt):qh × Int:=(ws0.rqtR r).done
def WS.rel (w v:WS):Prop:=w.g = v.g ∧ (w.g = false → w.f = v.f ∧ (w.f = false → w.s = v.s))
theorem Y2 {w v:WS} (h:w.rel v):w.done = v.done:=by
 obtain ⟨h1,h2⟩:=h
 unfold WS.done
 rw [← h1]
 cases hg:w.g with
 | true=>rfl
 | false =>
   obtain ⟨h3,h4⟩:=h2 hg
   rw [← h3]
   cases hf:w.f with
   | true=>rfl
   | false=>rw [h4 hf]
theorem xD {w v:WS} (h:w.rel v) (n:Int):(w.num n).rel (v.numR n):=by
 obtain ⟨h1,h2⟩:=h
 unfold WS.num WS.numR WS.rel
 cases hn:vD n with
 | true=>simp [h1]
 | false=>simp [h1] at h2 ⊢;exact fun hg=>⟨(h2 hg).1,fun hf=>(h2 hg).2 hf⟩
theorem xb {w v:WS} (h:w.rel v) (t:qh):(w.txt t).rel (v.txtR t):=by
 unfold WS.txtR
 by_cases ht:1000 < t.length
 ·rw [if_pos ht]
  unfold WS.txt WS.rel
  simp [ht]
 ·rw [if_neg ht]
  have hf:vD t.length = false:=(ww _).2 ⟨by omega,by omega⟩
  obtain ⟨h1,h2⟩:=h
  unfold WS.txt WS.numR WS.rel
  simp [ht,hf,h1,y7] at h2 ⊢
  exact h2
theorem Y3 {α:Type} {f g:WS → α → WS} (h : ∀ w v x,w.rel v → (f w x).rel (g v x)) (l:List α) : ∀ {w v:WS},w.rel v → (l.foldl f w).rel (l.foldl g v):=by
 induction l with
 | nil=>exact fun h=>h
 | cons x l ih=>exact fun hw=>ih (h _ _ x hw)
theorem XN (w v:WS) (c:Chg) (h:w.rel v):(w.chg c).rel (v.chgR c):=xD (xb (xb (xb (xD h _) _) _) _) _
def Qg {α:Type} (f:WS → α → WS):Prop := ∀ w x,w.g = true → (f w x).g = true
theorem vg:Qg WS.numR:=fun w n h=>by unfold WS.numR;split<;>exact h
theorem zf:Qg WS.txtR:=fun w n h=>by unfold WS.txtR;split; · rfl
                                     ·exact vg w _ h
theorem JW {α:Type} {f:WS → α → WS} (h:Qg f) (l:List α) : ∀ {w:WS},w.g = true → (l.foldl f w).g = true:=by
 induction l with
 | nil=>exact fun h=>h
 | cons x l ih=>exact fun hw=>ih (h _ x hw)
theorem JV:Qg WS.chgR:=fun w c h=>vg _ _ (zf _ _ (zf _ _ (zf _ _ (vg _ _ h))))
theorem XO {α:Type} {f g:WS → α → WS} (h : ∀ w v x,w.rel v → (f w x).rel (g v x)) (hg:Qg g) {w v:WS} (hw:w.rel v) (l:List α) {most:Nat} (hl:l.length ≤ most):(w.lst l most f).rel (l.foldl g (v.numR l.length)):=by
 unfold WS.lst
 rw [decide_eq_false (by omega),Bool.or_false]
 cases hwg:w.g with
 | true =>
   rw [if_pos rfl]
   exact ⟨(JW hg l (vg _ _ (hw.1 ▸ hwg))).symm,fun h=>by cases h⟩
 | false =>
   rw [if_neg (by decide)]
   exact Y3 h l (xD hw _)
theorem Y1 (w v:WS) (l:List Chg) (h:w.rel v):(w.chgs l).rel (v.chgsR l):=by
 unfold WS.chgsR
 by_cases hl:20 < l.length
 ·rw [if_pos hl]
  unfold WS.chgs WS.lst
  rw [if_pos (by simp [hl])]
  exact ⟨rfl,fun h=>by cases h⟩
 ·rw [if_neg hl]
  exact XO XN JV h l (by omega)
theorem Ys (r:Rqt):XY r = yp r :=
 (Y2 (w:=ws0.rqt r) (Y1 _ _ _ (xD (xD (xD (xb (xb (xb (xb (xb (xD ⟨rfl,fun _=>⟨rfl,fun _=>rfl⟩⟩ _) _) _) _) _) _) _) _) _))).symm
structure SC where
 rest:qh
 bad:Bool
structure Sc {α:Type} (q:SC → α × SC) (p:qh → Option (α × qh)) (L:α → Prop):Prop where
 bad : ∀ s,(q ⟨s,true⟩).2.bad = true
 of : ∀ s,(q ⟨s,false⟩).2.bad = false → p s = some ((q ⟨s,false⟩).1,(q ⟨s,false⟩).2.rest)
 to : ∀ s x r,p s = some (x,r) → L x → q ⟨s,false⟩ = (x,⟨r,false⟩)
end Go.Proofs.YtahbbnfmbohmmaaDoor
