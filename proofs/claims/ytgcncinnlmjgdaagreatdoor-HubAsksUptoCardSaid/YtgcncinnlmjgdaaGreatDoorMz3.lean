import Derived.Test.YtgcncinnlmjgdaaGreatDoorMz0
import Derived.Lib.AtoiAllCases
import Derived.Lib.ItoaNum
set_option linter.unusedVariables false
set_option linter.unusedSimpArgs false
namespace Go.Proofs.YtgcncinnlmjgdaaGreatDoor
theorem WA {k:Nat} (h:k < 10):Lib.decDigits k = [UInt8.ofNat (48 + k)]:=by rw [Lib.decDigits,dif_pos h]
theorem qfs {k:Nat} (h:¬ k < 10):Lib.decDigits k = Lib.decDigits (k / 10) ++ [UInt8.ofNat (48 + k % 10)]:=by rw [Lib.decDigits,dif_neg h]
theorem qdB (k:Nat) : ∀ c,c ∈ Lib.decDigits k → 48 ≤ c.toNat ∧ c.toNat ≤ 57:=by
 induction k using Nat.strongRecOn with
 | _ k ih =>
   intro c hc;by_cases h:k < 10
   ·rw [WA h] at hc;simp only [List.mem_singleton] at hc;subst hc;simp only [UInt8.toNat_ofNat'];omega
   ·rw [qfs h] at hc;rcases List.mem_append.1 hc with hc|hc
    ·exact ih (k / 10) (by omega) c hc
    ·simp only [List.mem_singleton] at hc;subst hc;simp only [UInt8.toNat_ofNat'];omega
theorem qnM (k:Nat):Lib.decDigits k ≠ []:=by
 by_cases h:k < 10
 ·rw [WA h];simp
 ·rw [qfs h];simp
theorem qga : ∀ (l:qb) (acc v:Nat) (c:UInt8),Lib.parseUint10 acc l = .ok v → 48 ≤ c.toNat → c.toNat ≤ 57 → v * 10 + (c.toNat - 48) < 18446744073709551616 → Lib.parseUint10 acc (l ++ [c]) = .ok (v * 10 + (c.toNat - 48))
 | [],acc,v,c,h,h1,h2,h3=>by
   simp only [Lib.parseUint10] at h;injection h with h;subst h;simp only [List.nil_append,Lib.parseUint10,h1,h2,and_self,if_true];rw [if_neg (by omega),if_neg (by omega)]
 | b :: r,acc,v,c,h,h1,h2,h3=>by
   simp only [Lib.parseUint10,List.cons_append] at h ⊢;split at h
   ·rename_i hb;rw [if_pos hb];split at h
    ·cases h
    ·rename_i hb1;rw [if_neg hb1];split at h
     ·cases h
     ·rename_i hb2;rw [if_neg hb2];exact qga r _ v c h h1 h2 h3
   ·cases h
theorem qpA (u:Nat) (hu:u < 18446744073709551616):Lib.parseUint10 0 (Lib.decDigits u) = .ok u:=by
 induction u using Nat.strongRecOn with
 | _ u ih =>
   by_cases h:u < 10
   ·rw [WA h];have h1:(UInt8.ofNat (48 + u)).toNat = 48 + u:=by simp only [UInt8.toNat_ofNat'];omega
    have:=qga [] 0 0 (UInt8.ofNat (48 + u)) rfl (by omega) (by omega) (by omega);rw [List.nil_append] at this;rw [this,h1];congr 1;omega
   ·rw [qfs h];have h1:(UInt8.ofNat (48 + u % 10)).toNat = 48 + u % 10:=by simp only [UInt8.toNat_ofNat'];omega
    rw [qga _ 0 (u / 10) _ (ih (u / 10) (by omega) (by omega)) (by omega) (by omega) (by omega),h1];congr 1;omega
def kv (n:Int):Prop := -9223372036854775808 ≤ n ∧ n ≤ 9223372036854775807
theorem qiq {n:Int} (h:kv n):Lib.atoiAll (Lib.itoa n) = .ok n:=by
 obtain ⟨h0,h1⟩:=h
 have pm : ∀ u,u < 18446744073709551616 → Lib.parseMag (Lib.decDigits u) = .ok u:=fun u hu=>by
  unfold Lib.parseMag;rw [if_neg (qnM u),qpA u hu]
 unfold Lib.itoa;split
 ·rw [Lib.atoiAll_minus,pm _ (by omega)];simp only [Lib.signed];rw [if_neg (by omega)];congr 1;omega
 ·have hpm:=pm n.toNat (by omega);have hd:=qdB n.toNat
  cases hl:Lib.decDigits n.toNat with
  | nil=>exact absurd hl (qnM _)
  | cons c r =>
    rw [hl] at hpm hd;have:=hd c (by simp);rw [Lib.atoiAll_plain c r (by omega) (by omega),hpm];simp only [Lib.signless];rw [if_neg (by omega)];congr 1;omega
theorem qiP (n:Int):(59:UInt8) ∉ Lib.itoa n:=by
 intro h;unfold Lib.itoa at h
 have hd : ∀ k,(59:UInt8) ∉ Lib.decDigits k:=fun k hk=>by
  have:=(qdB k _ hk).2;simp at this
 split at h
 ·rcases List.mem_cons.1 h with h|h
  ·cases h
  ·exact hd _ h
 ·exact hd _ h
def xj (n:Int):qb:=Lib.itoa n ++ [59]
def Yn:qb → Option (qb × qb)
 | []=>none
 | c :: r=>if c = 59 then some ([],r) else match Yn r with
   | none=>none
   | some (a,b)=>some (c :: a,b)
theorem qdA : ∀ (t r:qb),(59:UInt8) ∉ t → Yn (t ++ 59 :: r) = some (t,r)
 | [],r,_=>by simp [Yn]
 | c :: t,r,h=>by
   simp only [List.mem_cons,not_or] at h;show (if c = 59 then some ([],t ++ 59 :: r) else match Yn (t ++ 59 :: r) with|none=>none|some (a,b)=>some (c :: a,b)) = _;rw [if_neg (fun e=>h.1 e.symm),qdA t r h.2]
theorem Y8 : ∀ {s t r:qb},Yn s = some (t,r) → s = t ++ 59 :: r ∧ (59:UInt8) ∉ t
 | [],t,r,h=>by cases h
 | c :: s,t,r,h=>by
   unfold Yn at h;split at h
   ·rename_i hc;injection h with h;injection h with h1 h2;subst h1 h2 hc;exact ⟨rfl,by simp⟩
   ·rename_i hc;split at h
    ·cases h
    ·rename_i a b hab;injection h with h;injection h with h1 h2;subst h1 h2;obtain ⟨e,hn⟩:=Y8 hab;rw [e];refine ⟨rfl,?_⟩;simp only [List.mem_cons,not_or];exact ⟨fun e=>hc e.symm,hn⟩
def je (s:qb):Option (Int × qb) :=
 match Yn s with
 | none=>none
 | some (t,r)=>match Lib.atoiAll t with
   | .ok n=>if Lib.itoa n = t then some (n,r) else none
   | _=>none
theorem qed {n:Int} (h:kv n) (r:qb):je (xj n ++ r) = some (n,r):=by
 have e:xj n ++ r = Lib.itoa n ++ 59 :: r:=by simp [xj]
 unfold je;rw [e,qdA _ _ (qiP n)];simp only [qiq h,if_true]
theorem ZT {s r:qb} {n:Int} (h:je s = some (n,r)):s = xj n ++ r ∧ kv n:=by
 unfold je at h;split at h
 ·cases h
 ·rename_i t r' hc;split at h
  ·rename_i m hm;split at h
   ·rename_i he;injection h with h;injection h with h1 h2;subst h1 h2;exact ⟨by rw [(Y8 hc).1, ← he];simp [xj],Lib.atoiAll_bounds hm⟩
   ·cases h
  ·cases h
structure Rd {α:Type} (p:qb → Option (α × qb)) (T:α → qb) (L:α → Prop):Prop where
 to : ∀ x r,L x → p (T x ++ r) = some (x,r)
 of : ∀ s x r,p s = some (x,r) → s = T x ++ r ∧ L x
theorem rd_num:Rd je xj kv:=⟨fun _ r h=>qed h r,fun _ _ _ h=>ZT h⟩
def wV (most:Int) (s:qb):Option (Int × qb) :=
 match je s with
 | none=>none
 | some (n,r)=>if n < 0 ∨ most < n then none else some (n,r)
theorem Vr {n most:Int} (h0:0 ≤ n) (h1:n ≤ most) (h2:kv n) (r:qb):wV most (xj n ++ r) = some (n,r):=by
 unfold wV;rw [qed h2];simp only;rw [if_neg (by omega)]
theorem zA {most n:Int} {s r:qb} (h:wV most s = some (n,r)):s = xj n ++ r ∧ kv n ∧ 0 ≤ n ∧ n ≤ most:=by
 unfold wV at h;split at h
 ·cases h
 ·rename_i m r' hm;split at h
  ·cases h
  ·rename_i hb;injection h with h;injection h with h1 h2;subst h1 h2;obtain ⟨e,hi⟩:=ZT hm;exact ⟨e,hi,by omega,by omega⟩
def wK (t:qb):qb:=xj t.length ++ t
def jm (s:qb):Option (qb × qb) :=
 match wV s.length s with
 | none=>none
 | some (n,r)=>if (r.length:Int) < n then none else some (r.take n.toNat,r.drop n.toNat)
def Xv (t:qb):Prop:=t.length ≤ 9223372036854775807
theorem rd_txt:Rd jm wK Xv where
 to t r h:=by
  unfold jm;have e:wK t ++ r = xj t.length ++ (t ++ r):=by simp [wK]
  rw [e,Vr (by omega) (by simp;omega) ⟨by omega,by unfold Xv at h;omega⟩];simp only;rw [if_neg (by simp;omega)];simp
 of s t r h:=by
  unfold jm at h;split at h
  ·cases h
  ·rename_i n r' hc;split at h
   ·cases h
   ·rename_i hb;injection h with h;injection h with h1 h2;subst h1 h2;obtain ⟨e,hi,h0,_⟩:=zA hc;have hl:(r'.take n.toNat).length = n.toNat:=by rw [List.length_take];omega
    refine ⟨?_,?_⟩
    ·unfold wK;rw [hl,List.append_assoc,List.take_append_drop,e];congr 2;omega
    ·unfold Xv;rw [hl];have:=hi.2;omega
def qe3 (b:Bool):Int:=if b = true then 1 else 0
def qgU (b:Bool):qb:=xj (qe3 b)
def ky (s:qb):Option (Bool × qb) :=
 match wV 1 s with
 | none=>none
 | some (n,r)=>some (decide (n = 1),r)
theorem rd_yes:Rd ky qgU (fun _=>True) where
 to b r _:=by
  unfold ky qgU;cases b
  ·rw [Vr (by decide) (by decide) (by unfold kv qe3;simp)];rfl
  ·rw [Vr (by decide) (by decide) (by unfold kv qe3;simp)];rfl
 of s b r h:=by
  unfold ky at h;split at h
  ·cases h
  ·rename_i n r' hc;injection h with h;injection h with h1 h2;subst h1 h2;obtain ⟨e,_,h0,h1⟩:=zA hc;refine ⟨?_,trivial⟩;rw [e];unfold qgU qe3;by_cases hn:n = 1
   ·subst hn;rfl
   ·have:n = 0:=by omega
    subst this;rfl
def yQ {α:Type} (p:qb → Option (α × qb)) (s:qb):Nat → Option (List α × qb)
 | 0=>some ([],s)
 | i + 1=>match yQ p s i with
   | none=>none
   | some (l,r)=>match p r with
     | none=>none
     | some (x,r')=>some (l ++ [x],r')
theorem qhN {α:Type} {p:qb → Option (α × qb)} {T:α → qb} {L:α → Prop} (h:Rd p T L) (l:List α) (hl : ∀ x,x ∈ l → L x) (rest:qb) : ∀ i,i ≤ l.length → yQ p (l.flatMap T ++ rest) i = some (l.take i,(l.drop i).flatMap T ++ rest)
 | 0,_=>by simp [yQ]
 | i + 1,hi=>by
   have hi' : i < l.length:=hi;unfold yQ;rw [qhN h l hl rest i (by omega)];simp only;rw [List.drop_eq_getElem_cons hi',List.flatMap_cons,List.append_assoc,h.to _ _ (hl _ (List.getElem_mem _))];simp only;rw [List.take_succ_eq_append_getElem hi']
theorem qhM {α:Type} {p:qb → Option (α × qb)} {T:α → qb} {L:α → Prop} (h:Rd p T L) (s:qb) : ∀ i l r,yQ p s i = some (l,r) → s = l.flatMap T ++ r ∧ l.length = i ∧ ∀ x,x ∈ l → L x
 | 0,l,r,hr=>by
   simp only [yQ] at hr;injection hr with hr;injection hr with h1 h2;subst h1 h2;exact ⟨rfl,rfl,by simp⟩
 | i + 1,l,r,hr=>by
   unfold yQ at hr;split at hr
   ·cases hr
   ·rename_i l' r' hp;split at hr
    ·cases hr
    ·rename_i x r'' hx;injection hr with hr;injection hr with h1 h2;subst h1 h2;obtain ⟨e,hl,ha⟩:=qhM h s i l' r' hp;obtain ⟨e2,hx2⟩:=h.of _ _ _ hx;refine ⟨?_,by simp [hl],?_⟩
     ·rw [e,e2];simp
     ·intro y hy;rcases List.mem_append.1 hy with hy|hy
      ·exact ha y hy
      ·simp only [List.mem_singleton] at hy;exact hy ▸ hx2
def qaS {α:Type} (p:qb → Option (α × qb)) (most:Nat) (s:qb):Option (List α × qb) :=
 match wV most s with
 | none=>none
 | some (n,r)=>yQ p r n.toNat
def VT {α:Type} (T:α → qb) (l:List α):qb:=xj l.length ++ l.flatMap T
def XX {α:Type} (L:α → Prop) (most:Nat) (l:List α):Prop:=l.length ≤ most ∧ ∀ x,x ∈ l → L x
theorem qgu {α:Type} {p:qb → Option (α × qb)} {T:α → qb} {L:α → Prop} (h:Rd p T L) {most:Nat} (hm:most ≤ 1000):Rd (qaS p most) (VT T) (XX L most) where
 to l r hl:=by
  obtain ⟨h1,h2⟩:=hl;unfold qaS VT;rw [List.append_assoc,Vr (by omega) (by omega) ⟨by omega,by omega⟩];simp only;rw [show ((l.length:Nat):Int).toNat = l.length by omega,qhN h l h2 r l.length (Nat.le_refl _)];simp
 of s l r hp:=by
  unfold qaS at hp;split at hp
  ·cases hp
  ·rename_i n r' hc;obtain ⟨e,hi,h0,h1⟩:=zA hc;obtain ⟨e2,hl,ha⟩:=qhM h r' n.toNat l r hp;refine ⟨?_,by omega,ha⟩;unfold VT;rw [hl,List.append_assoc, ← e2,e];congr 2;omega
def XN (s:qb):Option (Chg × qb) :=
 match je s with
 | none=>none
 | some (a,s)=>match jm s with
   | none=>none
   | some (b,s)=>match jm s with
     | none=>none
     | some (c,s)=>match jm s with
       | none=>none
       | some (d,s)=>match je s with
         | none=>none
         | some (e,s)=>some (⟨a,b,c,d,e⟩,s)
def qb7 (c:Chg):qb:=xj c.kind ++ (wK c.path ++ (wK c.to ++ (wK c.text ++ xj c.base)))
def qmy (c:Chg):Prop:=kv c.kind ∧ Xv c.path ∧ Xv c.to ∧ Xv c.text ∧ kv c.base
theorem rd_chg:Rd XN qb7 qmy where
 to c r h:=by
  obtain ⟨h1,h2,h3,h4,h5⟩:=h;unfold XN qb7;simp only [List.append_assoc,rd_num.to _ _ h1,rd_txt.to _ _ h2,rd_txt.to _ _ h3,rd_txt.to _ _ h4,rd_num.to _ _ h5]
 of s c r h:=by
  unfold XN at h
  repeat' (split at h)
  all_goals first
   | cases h;done
   | skip
  rename_i h1 _ _ _ h2 _ _ _ h3 _ _ _ h4 _ _ _ h5;injection h with h;injection h with e1 e2;subst e1 e2;obtain ⟨q1,l1⟩:=rd_num.of _ _ _ h1;obtain ⟨q2,l2⟩:=rd_txt.of _ _ _ h2;obtain ⟨q3,l3⟩:=rd_txt.of _ _ _ h3;obtain ⟨q4,l4⟩:=rd_txt.of _ _ _ h4;obtain ⟨q5,l5⟩:=rd_num.of _ _ _ h5;refine ⟨?_,l1,l2,l3,l4,l5⟩;rw [q1,q2,q3,q4,q5];simp [qb7]
def Qu (s:qb):Option (List Chg × qb):=qaS XN 20 s
def qdz (l:List Chg):qb:=VT qb7 l
def qhd (l:List Chg):Prop:=XX qmy 20 l
theorem rd_chgs:Rd Qu qdz qhd:=qgu rd_chg (by decide)
def XP (s:qb):Option (Ent × qb) :=
 match jm s with
 | none=>none
 | some (a,s)=>match ky s with
   | none=>none
   | some (b,s)=>match jm s with
     | none=>none
     | some (c,s)=>match je s with
       | none=>none
       | some (d,s)=>some (⟨a,b,c,d⟩,s)
def Yy (e:Ent):qb:=wK e.path ++ (qgU e.fold ++ (wK e.text ++ xj e.ver))
def qkD (e:Ent):Prop:=Xv e.path ∧ Xv e.text ∧ kv e.ver
theorem rd_ent:Rd XP Yy qkD where
 to c r h:=by
  obtain ⟨h1,h2,h3⟩:=h;unfold XP Yy;simp only [List.append_assoc,rd_num.to _ _ h3,rd_txt.to _ _ h2,rd_txt.to _ _ h1,rd_yes.to _ _ trivial]
 of s c r h:=by
  unfold XP at h
  repeat' (split at h)
  all_goals first
   | cases h;done
   | skip
  rename_i h1 _ _ _ h2 _ _ _ h3 _ _ _ h4;injection h with h;injection h with e1 e2;subst e1 e2;obtain ⟨q1,l1⟩:=rd_txt.of _ _ _ h1;obtain ⟨q2,l2⟩:=rd_yes.of _ _ _ h2;obtain ⟨q3,l3⟩:=rd_txt.of _ _ _ h3;obtain ⟨q4,l4⟩:=rd_num.of _ _ _ h4;refine ⟨?_,l1,l3,l4⟩;rw [q1,q2,q3,q4];simp [Yy]
def XO (s:qb):Option (Com × qb) :=
 match je s with
 | none=>none
 | some (a,s)=>match jm s with
   | none=>none
   | some (b,s)=>match Qu s with
     | none=>none
     | some (c,s)=>some (⟨a,b,c⟩,s)
def Ww (c:Com):qb:=xj c.num ++ (wK c.key ++ qdz c.chs)
def qks (c:Com):Prop:=kv c.num ∧ Xv c.key ∧ qhd c.chs
theorem rd_com:Rd XO Ww qks where
 to c r h:=by
  obtain ⟨h1,h2,h3⟩:=h;unfold XO Ww;simp only [List.append_assoc,rd_num.to _ _ h1,rd_txt.to _ _ h2,rd_chgs.to _ _ h3]
 of s c r h:=by
  unfold XO at h
  repeat' (split at h)
  all_goals first
   | cases h;done
   | skip
  rename_i h1 _ _ _ h2 _ _ _ h3;injection h with h;injection h with e1 e2;subst e1 e2;obtain ⟨q1,l1⟩:=rd_num.of _ _ _ h1;obtain ⟨q2,l2⟩:=rd_txt.of _ _ _ h2;obtain ⟨q3,l3⟩:=rd_chgs.of _ _ _ h3;refine ⟨?_,l1,l2,l3⟩;rw [q1,q2,q3];simp [Ww]
def Zk (s:qb):Option (List Ent × qb):=qaS XP 60 s
def Ji (s:qb):Option (List Com × qb):=qaS XO 10 s
theorem rd_tre:Rd Zk (VT Yy) (XX qkD 60):=qgu rd_ent (by decide)
theorem rd_coms:Rd Ji (VT Ww) (XX qks 10):=qgu rd_com (by decide)
def qai (s:qb):Option (Rqt × qb) :=
 match je s with
 | none=>none
 | some (a,s)=>match jm s with
   | none=>none
   | some (b,s)=>match jm s with
     | none=>none
     | some (c,s)=>match jm s with
       | none=>none
       | some (d,s)=>match jm s with
         | none=>none
         | some (e,s)=>match jm s with
           | none=>none
           | some (f,s)=>match je s with
             | none=>none
             | some (g,s)=>match je s with
               | none=>none
               | some (h,s)=>match je s with
                 | none=>none
                 | some (i,s)=>match Qu s with
                   | none=>none
                   | some (j,s)=>some (⟨a,b,c,d,e,f,g,h,i,j⟩,s)
def qeJ (r:Rqt):qb:=xj r.kind ++ (wK r.who ++ (wK r.folder ++ (wK r.name ++ (wK r.key ++ (wK r.text ++ (xj r.number ++ (xj r.offset ++ (xj r.base ++ qdz r.chs))))))))
def qoF (r:Rqt):Prop:=kv r.kind ∧ Xv r.who ∧ Xv r.folder ∧ Xv r.name ∧ Xv r.key ∧ Xv r.text ∧ kv r.number ∧ kv r.offset ∧ kv r.base ∧ qhd r.chs
theorem rd_rqt:Rd qai qeJ qoF where
 to c r h:=by
  obtain ⟨h1,h2,h3,h4,h5,h6,h7,h8,h9,h10⟩:=h;unfold qai qeJ;simp only [List.append_assoc,rd_num.to _ _ h1,rd_txt.to _ _ h2,rd_txt.to _ _ h3,rd_txt.to _ _ h4,rd_txt.to _ _ h5,rd_txt.to _ _ h6,rd_num.to _ _ h7,rd_num.to _ _ h8,rd_num.to _ _ h9,rd_chgs.to _ _ h10]
 of s c r h:=by
  unfold qai at h
  repeat' (split at h)
  all_goals first
   | cases h;done
   | skip
  rename_i h1 _ _ _ h2 _ _ _ h3 _ _ _ h4 _ _ _ h5 _ _ _ h6 _ _ _ h7 _ _ _ h8 _ _ _ h9 _ _ _ h10;injection h with h;injection h with e1 e2;subst e1 e2;obtain ⟨q1,l1⟩:=rd_num.of _ _ _ h1;obtain ⟨q2,l2⟩:=rd_txt.of _ _ _ h2;obtain ⟨q3,l3⟩:=rd_txt.of _ _ _ h3;obtain ⟨q4,l4⟩:=rd_txt.of _ _ _ h4;obtain ⟨q5,l5⟩:=rd_txt.of _ _ _ h5;obtain ⟨q6,l6⟩:=rd_txt.of _ _ _ h6;obtain ⟨q7,l7⟩:=rd_num.of _ _ _ h7;obtain ⟨q8,l8⟩:=rd_num.of _ _ _ h8;obtain ⟨q9,l9⟩:=rd_num.of _ _ _ h9;obtain ⟨q10,l10⟩:=rd_chgs.of _ _ _ h10;refine ⟨?_,l1,l2,l3,l4,l5,l6,l7,l8,l9,l10⟩;rw [q1,q2,q3,q4,q5,q6,q7,q8,q9,q10];simp [qeJ]
def KE (s:qb):Option (Ans × qb) :=
 match je s with
 | none=>none
 | some (a,s)=>match je s with
   | none=>none
   | some (b,s)=>match ky s with
     | none=>none
     | some (c,s)=>match Zk s with
       | none=>none
       | some (d,s)=>match Ji s with
         | none=>none
         | some (e,s)=>match je s with
           | none=>none
           | some (f,s)=>match ky s with
             | none=>none
             | some (g,s)=>some (⟨a,b,⟨c,d,e,f,g⟩⟩,s)
def Wn (a:Ans):qb:=xj a.err ++ (xj a.num ++ (qgU a.page.reset ++ (VT Yy a.page.tree ++ (VT Ww a.page.coms ++ (xj a.page.cur ++ qgU a.page.more)))))
def qpf (a:Ans):Prop:=kv a.err ∧ kv a.num ∧ XX qkD 60 a.page.tree ∧ XX qks 10 a.page.coms ∧ kv a.page.cur
theorem rd_ans:Rd KE Wn qpf where
 to c r h:=by
  obtain ⟨h1,h2,h3,h4,h5⟩:=h;unfold KE Wn;simp only [List.append_assoc,rd_num.to _ _ h1,rd_num.to _ _ h2,rd_yes.to _ _ trivial,rd_tre.to _ _ h3,rd_coms.to _ _ h4,rd_num.to _ _ h5]
 of s c r h:=by
  unfold KE at h
  repeat' (split at h)
  all_goals first
   | cases h;done
   | skip
  rename_i h1 _ _ _ h2 _ _ _ h3 _ _ _ h4 _ _ _ h5 _ _ _ h6 _ _ _ h7;injection h with h;injection h with e1 e2;subst e1 e2;obtain ⟨q1,l1⟩:=rd_num.of _ _ _ h1;obtain ⟨q2,l2⟩:=rd_num.of _ _ _ h2;obtain ⟨q3,l3⟩:=rd_yes.of _ _ _ h3;obtain ⟨q4,l4⟩:=rd_tre.of _ _ _ h4;obtain ⟨q5,l5⟩:=rd_coms.of _ _ _ h5;obtain ⟨q6,l6⟩:=rd_num.of _ _ _ h6;obtain ⟨q7,l7⟩:=rd_yes.of _ _ _ h7;refine ⟨?_,l1,l2,l4,l5,l6⟩;rw [q1,q2,q3,q4,q5,q6,q7];simp [Wn]
structure WS where
 s:qb
 g:Bool
 f:Bool
def WG (n:Int):Bool:=decide (n < -1099511627776) || decide (1099511627776 < n)
def WS.num (w:WS) (n:Int):WS:=⟨w.s ++ xj n,w.g,w.f || WG n⟩
def WS.nums (w:WS) (l:List Int):WS:=l.foldl WS.num w
def WS.txt (w:WS) (t:qb):WS:=⟨w.s ++ wK t,w.g || decide (1000 < t.length),w.f || WG t.length⟩
def WS.txts (w:WS) (l:List qb):WS:=l.foldl WS.txt w
def WS.yes (w:WS) (b:Bool):WS:=w.num (qe3 b)
def WS.lst {α:Type} (w:WS) (l:List α) (most:Nat) (step:WS → α → WS):WS:=if (w.g || decide (most < l.length)) = true then ⟨w.s,true,w.f⟩ else l.foldl step (w.num l.length)
def WS.chg (w:WS) (c:Chg):WS:=((w.nums [c.kind]).txts [c.path,c.to,c.text]).nums [c.base]
def WS.chgs (w:WS) (l:List Chg):WS:=w.lst l 20 WS.chg
def WS.ent (w:WS) (e:Ent):WS:=(((w.txts [e.path]).yes e.fold).txts [e.text]).nums [e.ver]
def WS.com (w:WS) (c:Com):WS:=((w.nums [c.num]).txts [c.key]).chgs c.chs
def WS.done (w:WS):qb × Int:=if w.g = true then ([],2) else if w.f = true then ([],3) else (w.s,0)
def ws0:WS:=⟨[],false,false⟩
def WS.rqt (w:WS) (r:Rqt):WS:=(((w.nums [r.kind]).txts [r.who,r.folder,r.name,r.key,r.text]).nums [r.number,r.offset,r.base]).chgs r.chs
def WS.ans (w:WS) (a:Ans):WS:=(((((w.nums [a.err,a.num]).yes a.page.reset).lst a.page.tree 60 WS.ent).lst a.page.coms 10 WS.com).nums [a.page.cur]).yes a.page.more
def JM (r:Rqt):qb × Int:=(ws0.rqt r).done
def Yl (a:Ans):qb × Int:=(ws0.ans a).done
def WS.ok (w:WS):Prop:=w.g = false ∧ w.f = false
structure Wr {α:Type} (step:WS → α → WS) (T:α → qb) (L:α → Prop):Prop where
 ok : ∀ w x,(step w x).ok ↔ w.ok ∧ L x
 s : ∀ w x,w.ok → L x → (step w x).s = w.s ++ T x
def zV (n:Int):Prop := -1099511627776 ≤ n ∧ n ≤ 1099511627776
def X9 (t:qb):Prop:=t.length ≤ 1000
theorem qcl (n:Int):WG n = false ↔ zV n:=by
 unfold WG zV;rw [Bool.or_eq_false_iff,decide_eq_false_iff_not,decide_eq_false_iff_not];omega
theorem wr_num:Wr WS.num xj zV where
 ok w n:=by
  rw [← qcl];unfold WS.ok WS.num;simp only [Bool.or_eq_false_iff,and_assoc]
 s w n _ _:=rfl
theorem QV:Wr WS.txt wK X9 where
 ok w t:=by
  unfold WS.ok WS.txt X9;simp only [Bool.or_eq_false_iff,qcl,zV,decide_eq_false_iff_not];constructor
  ·rintro ⟨⟨h1,h2⟩,h3,h4⟩;exact ⟨⟨h1,h3⟩,by omega⟩
  ·rintro ⟨⟨h1,h2⟩,h3⟩;exact ⟨⟨h1,by omega⟩,h2,by omega⟩
 s w t _ _:=rfl
theorem qhY {α:Type} {step:WS → α → WS} {T:α → qb} {L:α → Prop} (h:Wr step T L):Wr (fun w (l:List α)=>l.foldl step w) (fun l=>l.flatMap T) (fun l => ∀ x,x ∈ l → L x) where
 ok w l:=by
  induction l generalizing w with
  | nil=>simp
  | cons x l ih =>
    simp only [List.foldl_cons,List.mem_cons,forall_eq_or_imp];rw [ih,h.ok,and_assoc]
 s w l hw hl:=by
   induction l generalizing w with
   | nil=>simp
   | cons x l ih =>
     simp only [List.foldl_cons,List.flatMap_cons];rw [ih (step w x) ((h.ok w x).2 ⟨hw,hl x (by simp)⟩) (fun y hy=>hl y (by simp [hy])),h.s w x hw (hl x (by simp)),List.append_assoc]
theorem qgS {α:Type} {step:WS → α → WS} {T:α → qb} {L:α → Prop} (h:Wr step T L) {most:Nat} (hm:most ≤ 1000):Wr (fun w (l:List α)=>w.lst l most step) (VT T) (XX L most) where
 ok w l:=by
  show (WS.lst w l most step).ok ↔ _;unfold WS.lst XX;by_cases hc:(w.g || decide (most < l.length)) = true
  ·rw [if_pos hc];unfold WS.ok;simp only [Bool.or_eq_true,decide_eq_true_eq] at hc;constructor
   ·rintro ⟨h1,_⟩;cases h1
   ·rintro ⟨⟨h1,_⟩,h2,_⟩;rcases hc with hc|hc
    ·rw [h1] at hc;cases hc
    ·omega
  ·rw [if_neg hc];simp only [Bool.or_eq_true,decide_eq_true_eq,not_or] at hc;rw [(qhY h).ok (w.num l.length) l,wr_num.ok,and_assoc];have:zV l.length ↔ l.length ≤ most:=by unfold zV;omega
   rw [this]
 s w l hw hl:=by
   show (WS.lst w l most step).s = _;unfold WS.lst VT;obtain ⟨h1,h2⟩:=hl;rw [if_neg (by rw [hw.1];simp;exact h1)];have hn:zV l.length:=by unfold zV;omega
   rw [(qhY h).s (w.num l.length) l ((wr_num.ok w _).2 ⟨hw,hn⟩) h2,wr_num.s w _ hw hn,List.append_assoc]
theorem Wr.and {α β γ:Type} {f:WS → α → WS} {g:WS → β → WS} {T U:_} {L K:_} (hf:Wr f T L) (hg:Wr g U K) (p:γ → α) (q:γ → β):Wr (fun w z=>g (f w (p z)) (q z)) (fun z=>T (p z) ++ U (q z)) (fun z=>L (p z) ∧ K (q z)) where
 ok w z:=by rw [hg.ok,hf.ok,and_assoc]
 s w z hw hl:=by rw [hg.s _ _ ((hf.ok _ _).2 ⟨hw,hl.1⟩) hl.2,hf.s _ _ hw hl.1,List.append_assoc]
theorem Wr.of {α:Type} {f g:WS → α → WS} {T U:α → qb} {L K:α → Prop} (h:Wr f T L) (e : ∀ w x,g w x = f w x) (e2 : ∀ x,U x = T x) (e3 : ∀ x,K x ↔ L x):Wr g U K where
 ok w x:=by rw [e,h.ok,e3]
 s w x hw hx:=by rw [e,h.s w x hw ((e3 x).1 hx),e2]
def qiv (c:Chg):Prop:=zV c.kind ∧ X9 c.path ∧ X9 c.to ∧ X9 c.text ∧ zV c.base
theorem qo3:Wr WS.chg qb7 qiv :=
 Wr.of (Wr.and (Wr.and (Wr.and (Wr.and wr_num QV Chg.kind Chg.path) QV id Chg.to) QV id Chg.text) wr_num id Chg.base)
  (fun w c=>rfl) (fun c=>by simp [qb7]) (fun c=>by simp [qiv,and_assoc])
def qkn (l:List Chg):Prop:=XX qiv 20 l
theorem qhX:Wr WS.chgs qdz qkn:=qgS qo3 (by decide)
theorem qgT:Wr WS.yes qgU (fun _=>True) where
 ok w b:=by
  unfold WS.yes;rw [wr_num.ok]
  have:zV (qe3 b):=by cases b<;>(unfold zV qe3;simp)
  simp [this]
 s w b _ _:=rfl
def qfu (e:Ent):Prop:=X9 e.path ∧ X9 e.text ∧ zV e.ver
theorem qo5:Wr WS.ent Yy qfu :=
 Wr.of (Wr.and (Wr.and (Wr.and QV qgT Ent.path Ent.fold) QV id Ent.text) wr_num id Ent.ver)
  (fun w c=>rfl) (fun c=>by simp [Yy]) (fun c=>by simp [qfu,and_assoc])
def qb9 (c:Com):Prop:=zV c.num ∧ X9 c.key ∧ qkn c.chs
theorem qo4:Wr WS.com Ww qb9 :=
 Wr.of (Wr.and (Wr.and wr_num QV Com.num Com.key) qhX id Com.chs)
  (fun w c=>rfl) (fun c=>by simp [Ww]) (fun c=>by simp [qb9,and_assoc])
def qjh (r:Rqt):Prop:=zV r.kind ∧ X9 r.who ∧ X9 r.folder ∧ X9 r.name ∧ X9 r.key ∧ X9 r.text ∧ zV r.number ∧ zV r.offset ∧ zV r.base ∧ qkn r.chs
theorem wr_rqt:Wr WS.rqt qeJ qjh :=
 Wr.of (Wr.and (Wr.and (Wr.and (Wr.and (Wr.and (Wr.and (Wr.and (Wr.and (Wr.and wr_num QV Rqt.kind Rqt.who) QV id Rqt.folder) QV id Rqt.name) QV id Rqt.key) QV id Rqt.text) wr_num id Rqt.number) wr_num id Rqt.offset) wr_num id Rqt.base) qhX id Rqt.chs)
  (fun w c=>rfl) (fun c=>by simp [qeJ]) (fun c=>by simp [qjh,and_assoc])
def XH (a:Ans):Prop:=zV a.err ∧ zV a.num ∧ XX qfu 60 a.page.tree ∧ XX qb9 10 a.page.coms ∧ zV a.page.cur
theorem wr_ans:Wr WS.ans Wn XH :=
 Wr.of (Wr.and (Wr.and (Wr.and (Wr.and (Wr.and (Wr.and wr_num wr_num Ans.err Ans.num) qgT id (fun a=>a.page.reset)) (qgS qo5 (by decide:60 ≤ 1000)) id (fun a=>a.page.tree)) (qgS qo4 (by decide:10 ≤ 1000)) id (fun a=>a.page.coms)) wr_num id (fun a=>a.page.cur)) qgT id (fun a=>a.page.more))
  (fun w c=>rfl) (fun c=>by simp [Wn]) (fun c=>by simp [XH,and_assoc])
theorem qaB (w:WS):w.done.2 = 0 ↔ w.ok:=by
 unfold WS.done WS.ok;cases hg:w.g<;>cases hf:w.f<;>simp
theorem qkB {w:WS} (h:w.ok):w.done = (w.s,0):=by
 unfold WS.done;rw [h.1,h.2];rfl
theorem qc4:ws0.ok:=⟨rfl,rfl⟩
theorem qob {r:Rqt} (h:qjh r):JM r = (qeJ r,0):=by
 unfold JM;rw [qkB ((wr_rqt.ok _ _).2 ⟨qc4,h⟩),wr_rqt.s _ _ qc4 h];rfl
theorem qkd {r:Rqt} (h:(JM r).2 = 0):qjh r:=((wr_rqt.ok _ _).1 ((qaB _).1 h)).2
theorem Zi {r:Ans} (h:XH r):Yl r = (Wn r,0):=by
 unfold Yl;rw [qkB ((wr_ans.ok _ _).2 ⟨qc4,h⟩),wr_ans.s _ _ qc4 h];rfl
theorem qjo {r:Ans} (h:(Yl r).2 = 0):XH r:=((wr_ans.ok _ _).1 ((qaB _).1 h)).2
theorem vE {n:Int} (h:zV n):kv n:=by unfold zV at h;unfold kv;omega
theorem vK {t:qb} (h:X9 t):Xv t:=by unfold X9 at h;unfold Xv;omega
theorem VU {α:Type} {L K:α → Prop} (h : ∀ x,L x → K x) {m:Nat} {l:List α} (hl:XX L m l):XX K m l:=⟨hl.1,fun x hx=>h x (hl.2 x hx)⟩
theorem qdy {c:Chg} (h:qiv c):qmy c:=⟨vE h.1,vK h.2.1,vK h.2.2.1,vK h.2.2.2.1,vE h.2.2.2.2⟩
theorem qkH {c:Ent} (h:qfu c):qkD c:=⟨vK h.1,vK h.2.1,vE h.2.2⟩
theorem qkw {c:Com} (h:qb9 c):qks c:=⟨vE h.1,vK h.2.1,VU (fun _=>qdy) h.2.2⟩
theorem qlz {r:Rqt} (h:qjh r):qoF r:=by
 obtain ⟨h1,h2,h3,h4,h5,h6,h7,h8,h9,h10⟩:=h;exact ⟨vE h1,vK h2,vK h3,vK h4,vK h5,vK h6,vE h7,vE h8,vE h9,VU (fun _=>qdy) h10⟩
theorem qj7 {r:Ans} (h:XH r):qpf r:=by
 obtain ⟨h1,h2,h3,h4,h5⟩:=h;exact ⟨vE h1,vE h2,VU (fun _=>qkH) h3,VU (fun _=>qkw) h4,vE h5⟩
def vU (s:qb):Rqt × Int :=
 match qai s with
 | none=>(noRqt,1)
 | some (r,rest)=>if rest = [] ∧ JM r = (s,0) then (r,0) else (noRqt,1)
def qbM (s:qb):Ans × Int :=
 match KE s with
 | none=>(noAns,1)
 | some (r,rest)=>if rest = [] ∧ Yl r = (s,0) then (r,0) else (noAns,1)
theorem qa9 {r:Rqt} {t:qb} (h:JM r = (t,0)):vU t = (r,0):=by
 have ho:qjh r:=qkd (by rw [h]);have e:=qob ho;rw [h] at e;injection e with e _;have:=rd_rqt.to r [] (qlz ho);rw [List.append_nil, ← e] at this;unfold vU;rw [this];simp [h]
theorem qjq {r:Ans} {t:qb} (h:Yl r = (t,0)):qbM t = (r,0):=by
 have ho:XH r:=qjo (by rw [h]);have e:=Zi ho;rw [h] at e;injection e with e _;have:=rd_ans.to r [] (qj7 ho);rw [List.append_nil, ← e] at this;unfold qbM;rw [this];simp [h]
def WS.numR (w:WS) (n:Int):WS:=if WG n = true then ⟨w.s,w.g,true⟩ else ⟨w.s ++ xj n,w.g,w.f⟩
def WS.txtR (w:WS) (t:qb):WS:=if 1000 < t.length then ⟨w.s,true,w.f⟩ else let v:=w.numR t.length; ⟨v.s ++ t,v.g,v.f⟩
def WS.yesR (w:WS) (b:Bool):WS:=w.numR (qe3 b)
def WS.chgR (w:WS) (c:Chg):WS:=((((w.numR c.kind).txtR c.path).txtR c.to).txtR c.text).numR c.base
def WS.chgsR (w:WS) (l:List Chg):WS:=if 20 < l.length then ⟨w.s,true,w.f⟩ else l.foldl WS.chgR (w.numR l.length)
def WS.entR (w:WS) (e:Ent):WS:=(((w.txtR e.path).yesR e.fold).txtR e.text).numR e.ver
def WS.comR (w:WS) (c:Com):WS:=((w.numR c.num).txtR c.key).chgsR c.chs
def WS.rqtR (w:WS) (r:Rqt):WS:=(((((((((w.numR r.kind).txtR r.who).txtR r.folder).txtR r.name).txtR r.key).txtR r.text).numR r.number).numR r.offset).numR r.base).chgsR r.chs
def qpj (r:Rqt):qb × Int:=(ws0.rqtR r).done
def WS.ansR (w:WS) (a:Ans):WS:=((a.page.coms.foldl WS.comR ((a.page.tree.foldl WS.entR ((((w.numR a.err).numR a.num).yesR a.page.reset).numR a.page.tree.length)).numR a.page.coms.length)).numR a.page.cur).yesR a.page.more
def qgN (a:Ans):qb × Int:=if 60 < a.page.tree.length ∨ 10 < a.page.coms.length then ([],2) else (ws0.ansR a).done
def WS.rel (w v:WS):Prop:=w.g = v.g ∧ (w.g = false → w.f = v.f ∧ (w.f = false → w.s = v.s))
theorem qeA {w v:WS} (h:w.rel v):w.done = v.done:=by
 obtain ⟨h1,h2⟩:=h;unfold WS.done;rw [← h1]
 cases hg:w.g with
 | true=>rfl
 | false =>
   obtain ⟨h3,h4⟩:=h2 hg;rw [← h3]
   cases hf:w.f with
   | true=>rfl
   | false=>rw [h4 hf]
theorem vP {w v:WS} (h:w.rel v) (n:Int):(w.num n).rel (v.numR n):=by
 obtain ⟨h1,h2⟩:=h;unfold WS.num WS.numR WS.rel
 cases hn:WG n with
 | true=>simp [h1]
 | false=>simp [h1] at h2 ⊢;exact fun hg=>⟨(h2 hg).1,fun hf=>(h2 hg).2 hf⟩
theorem ko {w v:WS} (h:w.rel v) (t:qb):(w.txt t).rel (v.txtR t):=by
 unfold WS.txtR;by_cases ht:1000 < t.length
 ·rw [if_pos ht];unfold WS.txt WS.rel;simp [ht]
 ·rw [if_neg ht];have hf:WG t.length = false:=(qcl _).2 ⟨by omega,by omega⟩;obtain ⟨h1,h2⟩:=h;unfold WS.txt WS.numR WS.rel;simp [ht,hf,h1,wK] at h2 ⊢;exact h2
theorem qcO {w v:WS} (h:w.rel v) (b:Bool):(w.yes b).rel (v.yesR b):=vP h _
theorem qlv {α:Type} {f g:WS → α → WS} (h : ∀ w v x,w.rel v → (f w x).rel (g v x)) (l:List α) : ∀ {w v:WS},w.rel v → (l.foldl f w).rel (l.foldl g v):=by
 induction l with
 | nil=>exact fun h=>h
 | cons x l ih=>exact fun hw=>ih (h _ _ x hw)
theorem qni (w v:WS) (c:Chg) (h:w.rel v):(w.chg c).rel (v.chgR c):=vP (ko (ko (ko (vP h _) _) _) _) _
def XA {α:Type} (f:WS → α → WS):Prop := ∀ w x,w.g = true → (f w x).g = true
theorem zG:XA WS.numR:=fun w n h=>by unfold WS.numR;split<;>exact h
theorem Qk:XA WS.txtR:=fun w n h=>by unfold WS.txtR;split; · rfl
                                     ·exact zG w _ h
theorem qbp {α:Type} {f:WS → α → WS} (h:XA f) (l:List α) : ∀ {w:WS},w.g = true → (l.foldl f w).g = true:=by
 induction l with
 | nil=>exact fun h=>h
 | cons x l ih=>exact fun hw=>ih (h _ x hw)
theorem qbo:XA WS.chgR:=fun w c h=>zG _ _ (Qk _ _ (Qk _ _ (Qk _ _ (zG _ _ h))))
theorem qfK:XA WS.chgsR:=fun w c h=>by unfold WS.chgsR;split; · rfl
                                       ·exact qbp qbo _ (zG _ _ h)
theorem qiN:XA WS.entR:=fun w c h=>zG _ _ (Qk _ _ (zG _ _ (Qk _ _ h)))
theorem qiM:XA WS.comR:=fun w c h=>qfK _ _ (Qk _ _ (zG _ _ h))
theorem qcN {α:Type} {f g:WS → α → WS} (h : ∀ w v x,w.rel v → (f w x).rel (g v x)) (hg:XA g) {w v:WS} (hw:w.rel v) (l:List α) {most:Nat} (hl:l.length ≤ most):(w.lst l most f).rel (l.foldl g (v.numR l.length)):=by
 unfold WS.lst;rw [decide_eq_false (by omega),Bool.or_false]
 cases hwg:w.g with
 | true =>
   rw [if_pos rfl];exact ⟨(qbp hg l (zG _ _ (hw.1 ▸ hwg))).symm,fun h=>by cases h⟩
 | false =>
   rw [if_neg (by decide)];exact qlv h l (vP hw _)
theorem qez (w v:WS) (l:List Chg) (h:w.rel v):(w.chgs l).rel (v.chgsR l):=by
 unfold WS.chgsR;by_cases hl:20 < l.length
 ·rw [if_pos hl];unfold WS.chgs WS.lst;rw [if_pos (by simp [hl])];exact ⟨rfl,fun h=>by cases h⟩
 ·rw [if_neg hl];exact qcN qni qbo h l (by omega)
theorem qnk (w v:WS) (e:Ent) (h:w.rel v):(w.ent e).rel (v.entR e):=vP (ko (qcO (ko h _) _) _) _
theorem qnj (w v:WS) (c:Com) (h:w.rel v):(w.com c).rel (v.comR c):=qez _ _ _ (ko (vP h _) _)
theorem qkc (r:Rqt):qpj r = JM r :=
 (qeA (w:=ws0.rqt r) (qez _ _ _ (vP (vP (vP (ko (ko (ko (ko (ko (vP ⟨rfl,fun _=>⟨rfl,fun _=>rfl⟩⟩ _) _) _) _) _) _) _) _) _))).symm
theorem qdS {α:Type} {f:WS → α → WS} (h:XA f) {most:Nat}:XA (fun w (l:List α)=>w.lst l most f):=fun w l hw=>by
 show (WS.lst w l most f).g = true;unfold WS.lst;rw [hw];rfl
theorem qjn (a:Ans):qgN a = Yl a:=by
 unfold qgN;split
 ·rename_i h
  have hg:(ws0.ans a).g = true:=by
   unfold WS.ans;have hd : ∀ (w:WS) (n:Int),(w.num n).g = w.g:=fun _ _=>rfl
   show (WS.lst (WS.lst _ a.page.tree 60 WS.ent) a.page.coms 10 WS.com).g = true;by_cases h2:10 < a.page.coms.length
   ·unfold WS.lst;rw [decide_eq_true h2,Bool.or_true];rfl
   ·refine qdS (f:=WS.com) (most:=10) ?_ _ a.page.coms ?_
    ·exact fun w c h=>qdS (f:=WS.chg) (most:=20) (fun w c h=>by show ((((w.g || _) || _) || _):Bool) = true;rw [h];rfl) _ _ (by show (w.g || _:Bool) = true;rw [h];rfl)
    ·unfold WS.lst;rw [decide_eq_true (by omega:60 < a.page.tree.length),Bool.or_true];rfl
  unfold Yl WS.done;rw [hg];rfl
 ·rename_i h;exact (qeA (w:=ws0.ans a) (qcO (vP (qcN qnj qiM (qcN qnk qiN (qcO (vP (vP ⟨rfl,fun _=>⟨rfl,fun _=>rfl⟩⟩ _) _) _) _ (by omega)) _ (by omega)) _) _)).symm
structure SC where
 rest:qb
 bad:Bool
structure Sc {α:Type} (q:SC → α × SC) (p:qb → Option (α × qb)) (L:α → Prop):Prop where
 bad : ∀ s,(q ⟨s,true⟩).2.bad = true
 of : ∀ s,(q ⟨s,false⟩).2.bad = false → p s = some ((q ⟨s,false⟩).1,(q ⟨s,false⟩).2.rest)
 to : ∀ s x r,p s = some (x,r) → L x → q ⟨s,false⟩ = (x,⟨r,false⟩)
end Go.Proofs.YtgcncinnlmjgdaaGreatDoor
