import Derived.Test.YtahbbnfmbohmmaaDoorMz0
import Derived.Lib.AtoiAllCases
import Derived.Lib.ItoaNum
set_option linter.unusedVariables false
set_option linter.unusedSimpArgs false
namespace Go.Proofs.YtahbbnfmbohmmaaDoor
theorem kv {k:Nat} (h:k < 10):Lib.decDigits k = [UInt8.ofNat (48 + k)]:=by rw [Lib.decDigits,dif_pos h]
theorem Jn {k:Nat} (h:¬ k < 10):Lib.decDigits k = Lib.decDigits (k / 10) ++ [UInt8.ofNat (48 + k % 10)]:=by rw [Lib.decDigits,dif_neg h]
theorem QM (k:Nat) : ∀ c,c ∈ Lib.decDigits k → 48 ≤ c.toNat ∧ c.toNat ≤ 57:=by
 induction k using Nat.strongRecOn with
 | _ k ih =>
   intro c hc
   by_cases h:k < 10
   ·rw [kv h] at hc
    simp only [List.mem_singleton] at hc
    subst hc
    simp only [UInt8.toNat_ofNat']
    omega
   ·rw [Jn h] at hc
    rcases List.mem_append.1 hc with hc|hc
    ·exact ih (k / 10) (by omega) c hc
    ·simp only [List.mem_singleton] at hc
     subst hc
     simp only [UInt8.toNat_ofNat']
     omega
theorem VR (k:Nat):Lib.decDigits k ≠ []:=by
 by_cases h:k < 10
 ·rw [kv h];simp
 ·rw [Jn h];simp
theorem JA : ∀ (l:qp) (acc v:Nat) (c:UInt8),Lib.parseUint10 acc l = .ok v → 48 ≤ c.toNat → c.toNat ≤ 57 → v * 10 + (c.toNat - 48) < 18446744073709551616 → Lib.parseUint10 acc (l ++ [c]) = .ok (v * 10 + (c.toNat - 48))
 | [],acc,v,c,h,h1,h2,h3=>by
   simp only [Lib.parseUint10] at h
   injection h with h
   subst h
   simp only [List.nil_append,Lib.parseUint10,h1,h2,and_self,if_true]
   rw [if_neg (by omega),if_neg (by omega)]
 | b :: r,acc,v,c,h,h1,h2,h3=>by
   simp only [Lib.parseUint10,List.cons_append] at h ⊢
   split at h
   ·rename_i hb
    rw [if_pos hb]
    split at h
    ·cases h
    ·rename_i hb1
     rw [if_neg hb1]
     split at h
     ·cases h
     ·rename_i hb2
      rw [if_neg hb2]
      exact JA r _ v c h h1 h2 h3
   ·cases h
theorem Zw (u:Nat) (hu:u < 18446744073709551616):Lib.parseUint10 0 (Lib.decDigits u) = .ok u:=by
 induction u using Nat.strongRecOn with
 | _ u ih =>
   by_cases h:u < 10
   ·rw [kv h]
    have h1:(UInt8.ofNat (48 + u)).toNat = 48 + u:=by simp only [UInt8.toNat_ofNat'];omega
    have:=JA [] 0 0 (UInt8.ofNat (48 + u)) rfl (by omega) (by omega) (by omega)
    rw [List.nil_append] at this
    rw [this,h1]
    congr 1
    omega
   ·rw [Jn h]
    have h1:(UInt8.ofNat (48 + u % 10)).toNat = 48 + u % 10:=by simp only [UInt8.toNat_ofNat'];omega
    rw [JA _ 0 (u / 10) _ (ih (u / 10) (by omega) (by omega)) (by omega) (by omega) (by omega),h1]
    congr 1
    omega
def yL (n:Int):Prop := -9223372036854775808 ≤ n ∧ n ≤ 9223372036854775807
theorem Yr {n:Int} (h:yL n):Lib.atoiAll (Lib.itoa n) = .ok n:=by
 obtain ⟨h0,h1⟩:=h
 have pm : ∀ u,u < 18446744073709551616 → Lib.parseMag (Lib.decDigits u) = .ok u:=fun u hu=>by
  unfold Lib.parseMag
  rw [if_neg (VR u),Zw u hu]
 unfold Lib.itoa
 split
 ·rw [Lib.atoiAll_minus,pm _ (by omega)]
  simp only [Lib.signed]
  rw [if_neg (by omega)]
  congr 1
  omega
 ·have hpm:=pm n.toNat (by omega)
  have hd:=QM n.toNat
  cases hl:Lib.decDigits n.toNat with
  | nil=>exact absurd hl (VR _)
  | cons c r =>
    rw [hl] at hpm hd
    have:=hd c (by simp)
    rw [Lib.atoiAll_plain c r (by omega) (by omega),hpm]
    simp only [Lib.signless]
    rw [if_neg (by omega)]
    congr 1
    omega
theorem YF (n:Int):(59:UInt8) ∉ Lib.itoa n:=by
 intro h
 unfold Lib.itoa at h
 have hd : ∀ k,(59:UInt8) ∉ Lib.decDigits k:=fun k hk=>by
  have:=(QM k _ hk).2
  simp at this
 split at h
 ·rcases List.mem_cons.1 h with h|h
  ·cases h
  ·exact hd _ h
 ·exact hd _ h
def jR (n:Int):qp:=Lib.itoa n ++ [59]
def vb:qp → Option (qp × qp)
 | []=>none
 | c :: r=>if c = 59 then some ([],r) else match vb r with
   | none=>none
   | some (a,b)=>some (c :: a,b)
theorem QL : ∀ (t r:qp),(59:UInt8) ∉ t → vb (t ++ 59 :: r) = some (t,r)
 | [],r,_=>by simp [vb]
 | c :: t,r,h=>by
   simp only [List.mem_cons,not_or] at h
   show (if c = 59 then some ([],t ++ 59 :: r) else match vb (t ++ 59 :: r) with|none=>none|some (a,b)=>some (c :: a,b)) = _
   rw [if_neg (fun e=>h.1 e.symm),QL t r h.2]
theorem vw : ∀ {s t r:qp},vb s = some (t,r) → s = t ++ 59 :: r ∧ (59:UInt8) ∉ t
 | [],t,r,h=>by cases h
 | c :: s,t,r,h=>by
   unfold vb at h
   split at h
   ·rename_i hc
    injection h with h
    injection h with h1 h2
    subst h1 h2 hc
    exact ⟨rfl,by simp⟩
   ·rename_i hc
    split at h
    ·cases h
    ·rename_i a b hab
     injection h with h
     injection h with h1 h2
     subst h1 h2
     obtain ⟨e,hn⟩:=vw hab
     rw [e]
     refine ⟨rfl,?_⟩
     simp only [List.mem_cons,not_or]
     exact ⟨fun e=>hc e.symm,hn⟩
def ji (s:qp):Option (Int × qp) :=
 match vb s with
 | none=>none
 | some (t,r)=>match Lib.atoiAll t with
   | .ok n=>if Lib.itoa n = t then some (n,r) else none
   | _=>none
theorem QZ {n:Int} (h:yL n) (r:qp):ji (jR n ++ r) = some (n,r):=by
 have e:jR n ++ r = Lib.itoa n ++ 59 :: r:=by simp [jR]
 unfold ji
 rw [e,QL _ _ (YF n)]
 simp only [Yr h,if_true]
theorem zG {s r:qp} {n:Int} (h:ji s = some (n,r)):s = jR n ++ r ∧ yL n:=by
 unfold ji at h
 split at h
 ·cases h
 ·rename_i t r' hc
  split at h
  ·rename_i m hm
   split at h
   ·rename_i he
    injection h with h
    injection h with h1 h2
    subst h1 h2
    exact ⟨by rw [(vw hc).1, ← he];simp [jR],Lib.atoiAll_bounds hm⟩
   ·cases h
  ·cases h
structure Rd {α:Type} (p:qp → Option (α × qp)) (T:α → qp) (L:α → Prop):Prop where
 to : ∀ x r,L x → p (T x ++ r) = some (x,r)
 of : ∀ s x r,p s = some (x,r) → s = T x ++ r ∧ L x
theorem rd_num:Rd ji jR yL:=⟨fun _ r h=>QZ h r,fun _ _ _ h=>zG h⟩
def xx (most:Int) (s:qp):Option (Int × qp) :=
 match ji s with
 | none=>none
 | some (n,r)=>if n < 0 ∨ most < n then none else some (n,r)
theorem QJ {n most:Int} (h0:0 ≤ n) (h1:n ≤ most) (h2:yL n) (r:qp):xx most (jR n ++ r) = some (n,r):=by
 unfold xx
 rw [QZ h2]
 simp only
 rw [if_neg (by omega)]
theorem yM {most n:Int} {s r:qp} (h:xx most s = some (n,r)):s = jR n ++ r ∧ yL n ∧ 0 ≤ n ∧ n ≤ most:=by
 unfold xx at h
 split at h
 ·cases h
 ·rename_i m r' hm
  split at h
  ·cases h
  ·rename_i hb
   injection h with h
   injection h with h1 h2
   subst h1 h2
   obtain ⟨e,hi⟩:=zG hm
   exact ⟨e,hi,by omega,by omega⟩
def xq (t:qp):qp:=jR t.length ++ t
def qG (s:qp):Option (qp × qp) :=
 match xx s.length s with
 | none=>none
 | some (n,r)=>if (r.length:Int) < n then none else some (r.take n.toNat,r.drop n.toNat)
def zN (t:qp):Prop:=t.length ≤ 9223372036854775807
theorem rd_txt:Rd qG xq zN where
 to t r h:=by
  unfold qG
  have e:xq t ++ r = jR t.length ++ (t ++ r):=by simp [xq]
  rw [e,QJ (by omega) (by simp;omega) ⟨by omega,by unfold zN at h;omega⟩]
  simp only
  rw [if_neg (by simp;omega)]
  simp
 of s t r h:=by
  unfold qG at h
  split at h
  ·cases h
  ·rename_i n r' hc
   split at h
   ·cases h
   ·rename_i hb
    injection h with h
    injection h with h1 h2
    subst h1 h2
    obtain ⟨e,hi,h0,_⟩:=yM hc
    have hl:(r'.take n.toNat).length = n.toNat:=by rw [List.length_take];omega
    refine ⟨?_,?_⟩
    ·unfold xq
     rw [hl,List.append_assoc,List.take_append_drop,e]
     congr 2
     omega
    ·unfold zN
     rw [hl]
     have:=hi.2
     omega
def ZF (b:Bool):Int:=if b = true then 1 else 0
def j0 {α:Type} (p:qp → Option (α × qp)) (s:qp):Nat → Option (List α × qp)
 | 0=>some ([],s)
 | i + 1=>match j0 p s i with
   | none=>none
   | some (l,r)=>match p r with
     | none=>none
     | some (x,r')=>some (l ++ [x],r')
theorem Yf {α:Type} {p:qp → Option (α × qp)} {T:α → qp} {L:α → Prop} (h:Rd p T L) (l:List α) (hl : ∀ x,x ∈ l → L x) (rest:qp) : ∀ i,i ≤ l.length → j0 p (l.flatMap T ++ rest) i = some (l.take i,(l.drop i).flatMap T ++ rest)
 | 0,_=>by simp [j0]
 | i + 1,hi=>by
   have hi' : i < l.length:=hi
   unfold j0
   rw [Yf h l hl rest i (by omega)]
   simp only
   rw [List.drop_eq_getElem_cons hi',List.flatMap_cons,List.append_assoc,h.to _ _ (hl _ (List.getElem_mem _))]
   simp only
   rw [List.take_succ_eq_append_getElem hi']
theorem Ye {α:Type} {p:qp → Option (α × qp)} {T:α → qp} {L:α → Prop} (h:Rd p T L) (s:qp) : ∀ i l r,j0 p s i = some (l,r) → s = l.flatMap T ++ r ∧ l.length = i ∧ ∀ x,x ∈ l → L x
 | 0,l,r,hr=>by
   simp only [j0] at hr
   injection hr with hr
   injection hr with h1 h2
   subst h1 h2
   exact ⟨rfl,rfl,by simp⟩
 | i + 1,l,r,hr=>by
   unfold j0 at hr
   split at hr
   ·cases hr
   ·rename_i l' r' hp
    split at hr
    ·cases hr
    ·rename_i x r'' hx
     injection hr with hr
     injection hr with h1 h2
     subst h1 h2
     obtain ⟨e,hl,ha⟩:=Ye h s i l' r' hp
     obtain ⟨e2,hx2⟩:=h.of _ _ _ hx
     refine ⟨?_,by simp [hl],?_⟩
     ·rw [e,e2];simp
     ·intro y hy
      rcases List.mem_append.1 hy with hy|hy
      ·exact ha y hy
      ·simp only [List.mem_singleton] at hy
       exact hy ▸ hx2
def QX {α:Type} (p:qp → Option (α × qp)) (most:Nat) (s:qp):Option (List α × qp) :=
 match xx most s with
 | none=>none
 | some (n,r)=>j0 p r n.toNat
def QY {α:Type} (T:α → qp) (l:List α):qp:=jR l.length ++ l.flatMap T
def Jx {α:Type} (L:α → Prop) (most:Nat) (l:List α):Prop:=l.length ≤ most ∧ ∀ x,x ∈ l → L x
theorem V7 {α:Type} {p:qp → Option (α × qp)} {T:α → qp} {L:α → Prop} (h:Rd p T L) {most:Nat} (hm:most ≤ 1000):Rd (QX p most) (QY T) (Jx L most) where
 to l r hl:=by
  obtain ⟨h1,h2⟩:=hl
  unfold QX QY
  rw [List.append_assoc,QJ (by omega) (by omega) ⟨by omega,by omega⟩]
  simp only
  rw [show ((l.length:Nat):Int).toNat = l.length by omega,Yf h l h2 r l.length (Nat.le_refl _)]
  simp
 of s l r hp:=by
  unfold QX at hp
  split at hp
  ·cases hp
  ·rename_i n r' hc
   obtain ⟨e,hi,h0,h1⟩:=yM hc
   obtain ⟨e2,hl,ha⟩:=Ye h r' n.toNat l r hp
   refine ⟨?_,by omega,ha⟩
   unfold QY
   rw [hl,List.append_assoc, ← e2,e]
   congr 2
   omega
def vT (s:qp):Option (Chg × qp) :=
 match ji s with
 | none=>none
 | some (a,s)=>match qG s with
   | none=>none
   | some (b,s)=>match qG s with
     | none=>none
     | some (c,s)=>match qG s with
       | none=>none
       | some (d,s)=>match ji s with
         | none=>none
         | some (e,s)=>some (⟨a,b,c,d,e⟩,s)
def wW (c:Chg):qp:=jR c.kind ++ (xq c.path ++ (xq c.to ++ (xq c.text ++ jR c.base)))
def Vm (c:Chg):Prop:=yL c.kind ∧ zN c.path ∧ zN c.to ∧ zN c.text ∧ yL c.base
theorem rd_chg:Rd vT wW Vm where
 to c r h:=by
  obtain ⟨h1,h2,h3,h4,h5⟩:=h
  unfold vT wW
  simp only [List.append_assoc,rd_num.to _ _ h1,rd_txt.to _ _ h2,rd_txt.to _ _ h3,rd_txt.to _ _ h4,rd_num.to _ _ h5]
 of s c r h:=by
  unfold vT at h
  repeat' (split at h)
  all_goals first
   | cases h;done
   | skip
  rename_i h1 _ _ _ h2 _ _ _ h3 _ _ _ h4 _ _ _ h5
  injection h with h
  injection h with e1 e2
  subst e1 e2
  obtain ⟨q1,l1⟩:=rd_num.of _ _ _ h1
  obtain ⟨q2,l2⟩:=rd_txt.of _ _ _ h2
  obtain ⟨q3,l3⟩:=rd_txt.of _ _ _ h3
  obtain ⟨q4,l4⟩:=rd_txt.of _ _ _ h4
  obtain ⟨q5,l5⟩:=rd_num.of _ _ _ h5
  refine ⟨?_,l1,l2,l3,l4,l5⟩
  rw [q1,q2,q3,q4,q5]
  simp [wW]
def vg (s:qp):Option (List Chg × qp):=QX vT 20 s
def JY (l:List Chg):qp:=QY wW l
def Xi (l:List Chg):Prop:=Jx Vm 20 l
theorem rd_chgs:Rd vg JY Xi:=V7 rd_chg (by decide)
def kU (s:qp):Option (Rqt × qp) :=
 match ji s with
 | none=>none
 | some (a,s)=>match qG s with
   | none=>none
   | some (b,s)=>match qG s with
     | none=>none
     | some (c,s)=>match qG s with
       | none=>none
       | some (d,s)=>match qG s with
         | none=>none
         | some (e,s)=>match qG s with
           | none=>none
           | some (f,s)=>match ji s with
             | none=>none
             | some (g,s)=>match ji s with
               | none=>none
               | some (h,s)=>match ji s with
                 | none=>none
                 | some (i,s)=>match vg s with
                   | none=>none
                   | some (j,s)=>some (⟨a,b,c,d,e,f,g,h,i,j⟩,s)
def Jb (r:Rqt):qp:=jR r.kind ++ (xq r.who ++ (xq r.folder ++ (xq r.name ++ (xq r.key ++ (xq r.text ++ (jR r.number ++ (jR r.offset ++ (jR r.base ++ JY r.chs))))))))
def Za (r:Rqt):Prop:=yL r.kind ∧ zN r.who ∧ zN r.folder ∧ zN r.name ∧ zN r.key ∧ zN r.text ∧ yL r.number ∧ yL r.offset ∧ yL r.base ∧ Xi r.chs
theorem rd_rqt:Rd kU Jb Za where
 to c r h:=by
  obtain ⟨h1,h2,h3,h4,h5,h6,h7,h8,h9,h10⟩:=h
  unfold kU Jb
  simp only [List.append_assoc,rd_num.to _ _ h1,rd_txt.to _ _ h2,rd_txt.to _ _ h3,rd_txt.to _ _ h4,rd_txt.to _ _ h5,rd_txt.to _ _ h6,rd_num.to _ _ h7,rd_num.to _ _ h8,rd_num.to _ _ h9,rd_chgs.to _ _ h10]
 of s c r h:=by
  unfold kU at h
  repeat' (split at h)
  all_goals first
   | cases h;done
   | skip
  rename_i h1 _ _ _ h2 _ _ _ h3 _ _ _ h4 _ _ _ h5 _ _ _ h6 _ _ _ h7 _ _ _ h8 _ _ _ h9 _ _ _ h10
  injection h with h
  injection h with e1 e2
  subst e1 e2
  obtain ⟨q1,l1⟩:=rd_num.of _ _ _ h1
  obtain ⟨q2,l2⟩:=rd_txt.of _ _ _ h2
  obtain ⟨q3,l3⟩:=rd_txt.of _ _ _ h3
  obtain ⟨q4,l4⟩:=rd_txt.of _ _ _ h4
  obtain ⟨q5,l5⟩:=rd_txt.of _ _ _ h5
  obtain ⟨q6,l6⟩:=rd_txt.of _ _ _ h6
  obtain ⟨q7,l7⟩:=rd_num.of _ _ _ h7
  obtain ⟨q8,l8⟩:=rd_num.of _ _ _ h8
  obtain ⟨q9,l9⟩:=rd_num.of _ _ _ h9
  obtain ⟨q10,l10⟩:=rd_chgs.of _ _ _ h10
  refine ⟨?_,l1,l2,l3,l4,l5,l6,l7,l8,l9,l10⟩
  rw [q1,q2,q3,q4,q5,q6,q7,q8,q9,q10]
  simp [Jb]
structure WS where
 s:qp
 g:Bool
 f:Bool
def vY (n:Int):Bool:=decide (n < -1099511627776) || decide (1099511627776 < n)
def WS.num (w:WS) (n:Int):WS:=⟨w.s ++ jR n,w.g,w.f || vY n⟩
def WS.nums (w:WS) (l:List Int):WS:=l.foldl WS.num w
def WS.txt (w:WS) (t:qp):WS:=⟨w.s ++ xq t,w.g || decide (1000 < t.length),w.f || vY t.length⟩
def WS.txts (w:WS) (l:List qp):WS:=l.foldl WS.txt w
def WS.yes (w:WS) (b:Bool):WS:=w.num (ZF b)
def WS.lst {α:Type} (w:WS) (l:List α) (most:Nat) (step:WS → α → WS):WS:=if (w.g || decide (most < l.length)) = true then ⟨w.s,true,w.f⟩ else l.foldl step (w.num l.length)
def WS.chg (w:WS) (c:Chg):WS:=((w.nums [c.kind]).txts [c.path,c.to,c.text]).nums [c.base]
def WS.chgs (w:WS) (l:List Chg):WS:=w.lst l 20 WS.chg
def WS.ent (w:WS) (e:Ent):WS:=(((w.txts [e.path]).yes e.fold).txts [e.text]).nums [e.ver]
def WS.com (w:WS) (c:Com):WS:=((w.nums [c.num]).txts [c.key]).chgs c.chs
def WS.done (w:WS):qp × Int:=if w.g = true then ([],2) else if w.f = true then ([],3) else (w.s,0)
def ws0:WS:=⟨[],false,false⟩
def WS.rqt (w:WS) (r:Rqt):WS:=(((w.nums [r.kind]).txts [r.who,r.folder,r.name,r.key,r.text]).nums [r.number,r.offset,r.base]).chgs r.chs
def WS.ans (w:WS) (a:Ans):WS:=(((((w.nums [a.err,a.num]).yes a.page.reset).lst a.page.tree 60 WS.ent).lst a.page.coms 10 WS.com).nums [a.page.cur]).yes a.page.more
def kl (r:Rqt):qp × Int:=(ws0.rqt r).done
def yx (a:Ans):qp × Int:=(ws0.ans a).done
def WS.ok (w:WS):Prop:=w.g = false ∧ w.f = false
structure Wr {α:Type} (step:WS → α → WS) (T:α → qp) (L:α → Prop):Prop where
 ok : ∀ w x,(step w x).ok ↔ w.ok ∧ L x
 s : ∀ w x,w.ok → L x → (step w x).s = w.s ++ T x
def vG (n:Int):Prop := -1099511627776 ≤ n ∧ n ≤ 1099511627776
def zW (t:qp):Prop:=t.length ≤ 1000
theorem Qi (n:Int):vY n = false ↔ vG n:=by
 unfold vY vG
 rw [Bool.or_eq_false_iff,decide_eq_false_iff_not,decide_eq_false_iff_not]
 omega
theorem wr_num:Wr WS.num jR vG where
 ok w n:=by
  rw [← Qi]
  unfold WS.ok WS.num
  simp only [Bool.or_eq_false_iff,and_assoc]
 s w n _ _:=rfl
theorem vv:Wr WS.txt xq zW where
 ok w t:=by
  unfold WS.ok WS.txt zW
  simp only [Bool.or_eq_false_iff,Qi,vG,decide_eq_false_iff_not]
  constructor
  ·rintro ⟨⟨h1,h2⟩,h3,h4⟩
   exact ⟨⟨h1,h3⟩,by omega⟩
  ·rintro ⟨⟨h1,h2⟩,h3⟩
   exact ⟨⟨h1,by omega⟩,h2,by omega⟩
 s w t _ _:=rfl
theorem Ym {α:Type} {step:WS → α → WS} {T:α → qp} {L:α → Prop} (h:Wr step T L):Wr (fun w (l:List α)=>l.foldl step w) (fun l=>l.flatMap T) (fun l => ∀ x,x ∈ l → L x) where
 ok w l:=by
  induction l generalizing w with
  | nil=>simp
  | cons x l ih =>
    simp only [List.foldl_cons,List.mem_cons,forall_eq_or_imp]
    rw [ih,h.ok,and_assoc]
 s w l hw hl:=by
   induction l generalizing w with
   | nil=>simp
   | cons x l ih =>
     simp only [List.foldl_cons,List.flatMap_cons]
     rw [ih (step w x) ((h.ok w x).2 ⟨hw,hl x (by simp)⟩) (fun y hy=>hl y (by simp [hy])),h.s w x hw (hl x (by simp)),List.append_assoc]
theorem Zj {α:Type} {step:WS → α → WS} {T:α → qp} {L:α → Prop} (h:Wr step T L) {most:Nat} (hm:most ≤ 1000):Wr (fun w (l:List α)=>w.lst l most step) (QY T) (Jx L most) where
 ok w l:=by
  show (WS.lst w l most step).ok ↔ _
  unfold WS.lst Jx
  by_cases hc:(w.g || decide (most < l.length)) = true
  ·rw [if_pos hc]
   unfold WS.ok
   simp only [Bool.or_eq_true,decide_eq_true_eq] at hc
   constructor
   ·rintro ⟨h1,_⟩;cases h1
   ·rintro ⟨⟨h1,_⟩,h2,_⟩
    rcases hc with hc|hc
    ·rw [h1] at hc;cases hc
    ·omega
  ·rw [if_neg hc]
   simp only [Bool.or_eq_true,decide_eq_true_eq,not_or] at hc
   rw [(Ym h).ok (w.num l.length) l,wr_num.ok,and_assoc]
   have:vG l.length ↔ l.length ≤ most:=by unfold vG;omega
   rw [this]
 s w l hw hl:=by
   show (WS.lst w l most step).s = _
   unfold WS.lst QY
   obtain ⟨h1,h2⟩:=hl
   rw [if_neg (by rw [hw.1];simp;exact h1)]
   have hn:vG l.length:=by unfold vG;omega
   rw [(Ym h).s (w.num l.length) l ((wr_num.ok w _).2 ⟨hw,hn⟩) h2,wr_num.s w _ hw hn,List.append_assoc]
theorem Wr.and {α β γ:Type} {f:WS → α → WS} {g:WS → β → WS} {T U:_} {L K:_} (hf:Wr f T L) (hg:Wr g U K) (p:γ → α) (q:γ → β):Wr (fun w z=>g (f w (p z)) (q z)) (fun z=>T (p z) ++ U (q z)) (fun z=>L (p z) ∧ K (q z)) where
 ok w z:=by rw [hg.ok,hf.ok,and_assoc]
 s w z hw hl:=by rw [hg.s _ _ ((hf.ok _ _).2 ⟨hw,hl.1⟩) hl.2,hf.s _ _ hw hl.1,List.append_assoc]
theorem Wr.of {α:Type} {f g:WS → α → WS} {T U:α → qp} {L K:α → Prop} (h:Wr f T L) (e : ∀ w x,g w x = f w x) (e2 : ∀ x,U x = T x) (e3 : ∀ x,K x ↔ L x):Wr g U K where
 ok w x:=by rw [e,h.ok,e3]
 s w x hw hx:=by rw [e,h.s w x hw ((e3 x).1 hx),e2]
def Vn (c:Chg):Prop:=vG c.kind ∧ zW c.path ∧ zW c.to ∧ zW c.text ∧ vG c.base
theorem Zi:Wr WS.chg wW Vn :=
 Wr.of (Wr.and (Wr.and (Wr.and (Wr.and wr_num vv Chg.kind Chg.path) vv id Chg.to) vv id Chg.text) wr_num id Chg.base)
  (fun w c=>rfl) (fun c=>by simp [wW]) (fun c=>by simp [Vn,and_assoc])
def VQ (l:List Chg):Prop:=Jx Vn 20 l
theorem VO:Wr WS.chgs JY VQ:=Zj Zi (by decide)
def YO (r:Rqt):Prop:=vG r.kind ∧ zW r.who ∧ zW r.folder ∧ zW r.name ∧ zW r.key ∧ zW r.text ∧ vG r.number ∧ vG r.offset ∧ vG r.base ∧ VQ r.chs
theorem wr_rqt:Wr WS.rqt Jb YO :=
 Wr.of (Wr.and (Wr.and (Wr.and (Wr.and (Wr.and (Wr.and (Wr.and (Wr.and (Wr.and wr_num vv Rqt.kind Rqt.who) vv id Rqt.folder) vv id Rqt.name) vv id Rqt.key) vv id Rqt.text) wr_num id Rqt.number) wr_num id Rqt.offset) wr_num id Rqt.base) VO id Rqt.chs)
  (fun w c=>rfl) (fun c=>by simp [Jb]) (fun c=>by simp [YO,and_assoc])
theorem JS (w:WS):w.done.2 = 0 ↔ w.ok:=by
 unfold WS.done WS.ok
 cases hg:w.g<;>cases hf:w.f<;>simp
theorem V0 {w:WS} (h:w.ok):w.done = (w.s,0):=by
 unfold WS.done
 rw [h.1,h.2]
 rfl
theorem X9:ws0.ok:=⟨rfl,rfl⟩
theorem VZ {r:Rqt} (h:YO r):kl r = (Jb r,0):=by
 unfold kl
 rw [V0 ((wr_rqt.ok _ _).2 ⟨X9,h⟩),wr_rqt.s _ _ X9 h]
 rfl
theorem Xb {r:Rqt} (h:(kl r).2 = 0):YO r:=((wr_rqt.ok _ _).1 ((JS _).1 h)).2
theorem xC {n:Int} (h:vG n):yL n:=by unfold vG at h;unfold yL;omega
theorem yY {t:qp} (h:zW t):zN t:=by unfold zW at h;unfold zN;omega
theorem Xz {α:Type} {L K:α → Prop} (h : ∀ x,L x → K x) {m:Nat} {l:List α} (hl:Jx L m l):Jx K m l:=⟨hl.1,fun x hx=>h x (hl.2 x hx)⟩
theorem Xh {c:Chg} (h:Vn c):Vm c:=⟨xC h.1,yY h.2.1,yY h.2.2.1,yY h.2.2.2.1,xC h.2.2.2.2⟩
theorem XU {r:Rqt} (h:YO r):Za r:=by
 obtain ⟨h1,h2,h3,h4,h5,h6,h7,h8,h9,h10⟩:=h
 exact ⟨xC h1,yY h2,yY h3,yY h4,yY h5,yY h6,xC h7,xC h8,xC h9,Xz (fun _=>Xh) h10⟩
def zv (s:qp):Rqt × Int :=
 match kU s with
 | none=>(noRqt,1)
 | some (r,rest)=>if rest = [] ∧ kl r = (s,0) then (r,0) else (noRqt,1)
theorem Yq {r:Rqt} {t:qp} (h:kl r = (t,0)):zv t = (r,0):=by
 have ho:YO r:=Xb (by rw [h])
 have e:=VZ ho
 rw [h] at e
 injection e with e _
 have:=rd_rqt.to r [] (XU ho)
 rw [List.append_nil, ← e] at this
 unfold zv
 rw [this]
 simp [h]
end Go.Proofs.YtahbbnfmbohmmaaDoor
set_option linter.unusedVariables false
set_option linter.unusedSimpArgs false
namespace Go.Proofs.YtahbbnfmbohmmaaDoor
def WS.numR (w:WS) (n:Int):WS:=if vY n = true then ⟨w.s,w.g,true⟩ else ⟨w.s ++ jR n,w.g,w.f⟩
def WS.txtR (w:WS) (t:qp):WS:=if 1000 < t.length then ⟨w.s,true,w.f⟩ else let v:=w.numR t.length; ⟨v.s ++ t,v.g,v.f⟩
def WS.yesR (w:WS) (b:Bool):WS:=w.numR (ZF b)
def WS.chgR (w:WS) (c:Chg):WS:=((((w.numR c.kind).txtR c.path).txtR c.to).txtR c.text).numR c.base
def WS.chgsR (w:WS) (l:List Chg):WS:=if 20 < l.length then ⟨w.s,true,w.f⟩ else l.foldl WS.chgR (w.numR l.length)
def WS.entR (w:WS) (e:Ent):WS:=(((w.txtR e.path).yesR e.fold).txtR e.text).numR e.ver
def WS.comR (w:WS) (c:Com):WS:=((w.numR c.num).txtR c.key).chgsR c.chs
def WS.ansR (w:WS) (a:Ans):WS:=((a.page.coms.foldl WS.comR ((a.page.tree.foldl WS.entR ((((w.numR a.err).numR a.num).yesR a.page.reset).numR a.page.tree.length)).numR a.page.coms.length)).numR a.page.cur).yesR a.page.more
def JN (a:Ans):qp × Int:=if 60 < a.page.tree.length ∨ 10 < a.page.coms.length then ([],2) else (ws0.ansR a).done
def WS.rel (w v:WS):Prop:=w.g = v.g ∧ (w.g = false → w.f = v.f ∧ (w.f = false → w.s = v.s))
theorem XO {w v:WS} (h:w.rel v):w.done = v.done:=by
 obtain ⟨h1,h2⟩:=h
 unfold WS.done
 rw [← h1]
 cases hg:w.g with
 | true=>rfl
 | false =>
   obtain ⟨h3,h4⟩:=h2 hg
   rw [← h3]
   cases hf:w.f with
   | true=>rfl
   | false=>rw [h4 hf]
theorem y5 {w v:WS} (h:w.rel v) (n:Int):(w.num n).rel (v.numR n):=by
 obtain ⟨h1,h2⟩:=h
 unfold WS.num WS.numR WS.rel
 cases hn:vY n with
 | true=>simp [h1]
 | false=>simp [h1] at h2 ⊢;exact fun hg=>⟨(h2 hg).1,fun hf=>(h2 hg).2 hf⟩
theorem vA {w v:WS} (h:w.rel v) (t:qp):(w.txt t).rel (v.txtR t):=by
 unfold WS.txtR
 by_cases ht:1000 < t.length
 ·rw [if_pos ht]
  unfold WS.txt WS.rel
  simp [ht]
 ·rw [if_neg ht]
  have hf:vY t.length = false:=(Qi _).2 ⟨by omega,by omega⟩
  obtain ⟨h1,h2⟩:=h
  unfold WS.txt WS.numR WS.rel
  simp [ht,hf,h1,xq] at h2 ⊢
  exact h2
theorem Qr {w v:WS} (h:w.rel v) (b:Bool):(w.yes b).rel (v.yesR b):=y5 h _
theorem XP {α:Type} {f g:WS → α → WS} (h : ∀ w v x,w.rel v → (f w x).rel (g v x)) (l:List α) : ∀ {w v:WS},w.rel v → (l.foldl f w).rel (l.foldl g v):=by
 induction l with
 | nil=>exact fun h=>h
 | cons x l ih=>exact fun hw=>ih (h _ _ x hw)
theorem VE (w v:WS) (c:Chg) (h:w.rel v):(w.chg c).rel (v.chgR c):=y5 (vA (vA (vA (y5 h _) _) _) _) _
def vK {α:Type} (f:WS → α → WS):Prop := ∀ w x,w.g = true → (f w x).g = true
theorem yD:vK WS.numR:=fun w n h=>by unfold WS.numR;split<;>exact h
theorem xa:vK WS.txtR:=fun w n h=>by unfold WS.txtR;split; · rfl
                                     ·exact yD w _ h
theorem wq {α:Type} {f:WS → α → WS} (h:vK f) (l:List α) : ∀ {w:WS},w.g = true → (l.foldl f w).g = true:=by
 induction l with
 | nil=>exact fun h=>h
 | cons x l ih=>exact fun hw=>ih (h _ x hw)
theorem wo:vK WS.chgR:=fun w c h=>yD _ _ (xa _ _ (xa _ _ (xa _ _ (yD _ _ h))))
theorem Jt:vK WS.chgsR:=fun w c h=>by unfold WS.chgsR;split; · rfl
                                      ·exact wq wo _ (yD _ _ h)
theorem YC:vK WS.entR:=fun w c h=>yD _ _ (xa _ _ (yD _ _ (xa _ _ h)))
theorem YB:vK WS.comR:=fun w c h=>Jt _ _ (xa _ _ (yD _ _ h))
theorem Qq {α:Type} {f g:WS → α → WS} (h : ∀ w v x,w.rel v → (f w x).rel (g v x)) (hg:vK g) {w v:WS} (hw:w.rel v) (l:List α) {most:Nat} (hl:l.length ≤ most):(w.lst l most f).rel (l.foldl g (v.numR l.length)):=by
 unfold WS.lst
 rw [decide_eq_false (by omega),Bool.or_false]
 cases hwg:w.g with
 | true =>
   rw [if_pos rfl]
   exact ⟨(wq hg l (yD _ _ (hw.1 ▸ hwg))).symm,fun h=>by cases h⟩
 | false =>
   rw [if_neg (by decide)]
   exact XP h l (y5 hw _)
theorem XN (w v:WS) (l:List Chg) (h:w.rel v):(w.chgs l).rel (v.chgsR l):=by
 unfold WS.chgsR
 by_cases hl:20 < l.length
 ·rw [if_pos hl]
  unfold WS.chgs WS.lst
  rw [if_pos (by simp [hl])]
  exact ⟨rfl,fun h=>by cases h⟩
 ·rw [if_neg hl]
  exact Qq VE wo h l (by omega)
theorem VG (w v:WS) (e:Ent) (h:w.rel v):(w.ent e).rel (v.entR e):=y5 (vA (Qr (vA h _) _) _) _
theorem VF (w v:WS) (c:Com) (h:w.rel v):(w.com c).rel (v.comR c):=XN _ _ _ (vA (y5 h _) _)
theorem QU {α:Type} {f:WS → α → WS} (h:vK f) {most:Nat}:vK (fun w (l:List α)=>w.lst l most f):=fun w l hw=>by
 show (WS.lst w l most f).g = true
 unfold WS.lst
 rw [hw]
 rfl
theorem YR (a:Ans):JN a = yx a:=by
 unfold JN
 split
 ·rename_i h
  have hg:(ws0.ans a).g = true:=by
   unfold WS.ans
   have hd : ∀ (w:WS) (n:Int),(w.num n).g = w.g:=fun _ _=>rfl
   show (WS.lst (WS.lst _ a.page.tree 60 WS.ent) a.page.coms 10 WS.com).g = true
   by_cases h2:10 < a.page.coms.length
   ·unfold WS.lst
    rw [decide_eq_true h2,Bool.or_true]
    rfl
   ·refine QU (f:=WS.com) (most:=10) ?_ _ a.page.coms ?_
    ·exact fun w c h=>QU (f:=WS.chg) (most:=20) (fun w c h=>by show ((((w.g || _) || _) || _):Bool) = true;rw [h];rfl) _ _ (by show (w.g || _:Bool) = true;rw [h];rfl)
    ·unfold WS.lst
     rw [decide_eq_true (by omega:60 < a.page.tree.length),Bool.or_true]
     rfl
  unfold yx WS.done
  rw [hg]
  rfl
 ·rename_i h
  exact (XO (w:=ws0.ans a) (Qr (y5 (Qq VF YB (Qq VG YC (Qr (y5 (y5 ⟨rfl,fun _=>⟨rfl,fun _=>rfl⟩⟩ _) _) _) _ (by omega)) _ (by omega)) _) _)).symm
structure SC where
 rest:qp
 bad:Bool
structure Sc {α:Type} (q:SC → α × SC) (p:qp → Option (α × qp)) (L:α → Prop):Prop where
 bad : ∀ s,(q ⟨s,true⟩).2.bad = true
 of : ∀ s,(q ⟨s,false⟩).2.bad = false → p s = some ((q ⟨s,false⟩).1,(q ⟨s,false⟩).2.rest)
 to : ∀ s x r,p s = some (x,r) → L x → q ⟨s,false⟩ = (x,⟨r,false⟩)
end Go.Proofs.YtahbbnfmbohmmaaDoor
