import Derived.WalkKit
namespace Go.Proofs.YtnhpclmbhbblbaaGreatDoor
open Go.RowKit
abbrev qx:=List UInt8
structure Sess where
 number:Int
 who:qx
 text:qx
 size:Int
 till:Int
 deriving DecidableEq
def Sess.cells (s:Sess):List Value:=[.int .i64 s.number,.string ⟨s.who.toArray⟩,.string ⟨s.text.toArray⟩,.int .i64 s.size,.int .i64 s.till]
structure Upl where
 sess:List Sess
 next:Int
 lasts:Int
 room:Int
 deriving DecidableEq
structure Gra where
 folder:qx
 who:qx
 right:Int
 deriving DecidableEq
def Gra.cells (s:Gra):List Value:=[.string ⟨s.folder.toArray⟩,.string ⟨s.who.toArray⟩,.int .i64 s.right]
def KH (c:UInt8):Bool :=
 (97 ≤ c.toNat && c.toNat ≤ 122) || (65 ≤ c.toNat && c.toNat ≤ 90) || (48 ≤ c.toNat && c.toNat ≤ 57) || c.toNat == 45 || c.toNat == 95 || c.toNat == 46 || c.toNat == 40 || c.toNat == 41 || c.toNat == 32
def yb (s:qx):Bool := !s.isEmpty && decide (s.length ≤ 20) && s != [46] && s != [46,46] && s.head? != some 32 && s.getLast? != some 32 && s.all KH
def Sl {α:Type} (c:α → List Value) (sz:Nat) (w:World) (B:Nat) (v:Value) (l:List α):Prop :=
 ∃ A cap,v = .slice A l.length cap ∧ l.length ≤ cap ∧ cap ≤ maxLen ∧ ∀ k (h:k < l.length), ∃ b off,A = some ⟨b,off,none⟩ ∧ b < B ∧
   ∀ j u,(c l[k])[j]? = some u → w.cell? ⟨b,off + k * sz + j,none⟩ = some u
section
variable {α:Type} {c:α → List Value} {sz:Nat} {w w' : World} {B B' : Nat} {v:Value} {l:List α}
theorem Sl.nil:Sl c sz w B (.slice none 0 0) []:=⟨none,0,rfl,Nat.le_refl _,Nat.zero_le _,fun k h=>absurd h (Nat.not_lt_zero k)⟩
theorem Sl.keep (h:Sl c sz w B v l) (hk : ∀ p:Addr,p.block < B → w'.cell? p = w.cell? p):Sl c sz w' B v l:=by
 obtain ⟨A,cap,hv,h1,h2,h3⟩:=h
 refine ⟨A,cap,hv,h1,h2,fun k hkl=>?_⟩
 obtain ⟨b,off,hA,hB,hc⟩:=h3 k hkl
 exact ⟨b,off,hA,hB,fun j u hu=>(hk ⟨b,off + k * sz + j,none⟩ hB).trans (hc j u hu)⟩
theorem Sl.more (h:Sl c sz w B v l) (hB:B ≤ B'):Sl c sz w B' v l:=by
 obtain ⟨A,cap,hv,h1,h2,h3⟩:=h
 refine ⟨A,cap,hv,h1,h2,fun k hkl=>?_⟩
 obtain ⟨b,off,hA,hb,hc⟩:=h3 k hkl
 exact ⟨b,off,hA,by omega,hc⟩
theorem Sl.below (h:Sl c sz w B v l) (hb:Below B w w'):Sl c sz w' B v l:=h.keep fun _ hp=>hb.cell hp
theorem Sl.at (h:Sl c sz w B v l) {A:Option Addr} {n cap:Nat} (hv:v = .slice A n cap) {k:Nat} (hk:k < l.length) :
  ∃ b off,A = some ⟨b,off,none⟩ ∧ b < B ∧ ∀ j u,(c l[k])[j]? = some u → w.cell? ⟨b,off + k * sz + j,none⟩ = some u:=by
 obtain ⟨A',cap',hv',_,_,h3⟩:=h
 rw [hv] at hv'
 injection hv' with e1 e2 e3
 subst e1
 exact h3 k hk
end
theorem Sl.sess {w:World} {B:Nat} {A:Option Addr} {n cap:Nat} {l:List Sess} (h:Sl Sess.cells 5 w B (.slice A n cap) l) {k:Nat} (hk:k < l.length) :
  ∃ b off,A = some ⟨b,off,none⟩ ∧ b < B ∧ w.cell? ⟨b,off + k * 5,none⟩ = some (.int .i64 l[k].number) ∧ w.cell? ⟨b,off + k * 5 + 1,none⟩ = some (.string ⟨l[k].who.toArray⟩) ∧
    w.cell? ⟨b,off + k * 5 + 2,none⟩ = some (.string ⟨l[k].text.toArray⟩) ∧ w.cell? ⟨b,off + k * 5 + 3,none⟩ = some (.int .i64 l[k].size) ∧ w.cell? ⟨b,off + k * 5 + 4,none⟩ = some (.int .i64 l[k].till):=by
 obtain ⟨b,off,hA,hB,hc⟩:=h.at rfl hk
 exact ⟨b,off,hA,hB,hc 0 _ rfl,hc 1 _ rfl,hc 2 _ rfl,hc 3 _ rfl,hc 4 _ rfl⟩
theorem ZI {α:Type} {l:List α} {k:Nat} (h:k < l.length):l.take (k + 1) = l.take k ++ [l[k]]:=by
 rw [List.take_succ_eq_append_getElem h]
end Go.Proofs.YtnhpclmbhbblbaaGreatDoor
set_option linter.unusedSimpArgs false
set_option linter.unnecessarySimpa false
namespace Go.Proofs.YtnhpclmbhbblbaaGreatDoor
def qg:qx → List qx
 | [] => [[]]
 | c :: s=>if c = 47 then [] :: qg s else match qg s with | [] => [[c]]|n :: l=>(c :: n) :: l
def xi:List qx → qx
 | [] => []
 | [n]=>n
 | n :: l=>n ++ 47 :: xi l
theorem yc (p:qx):qg p ≠ []:=by
 cases p with
 | nil=>simp [qg]
 | cons c s=>simp only [qg];split<;>(try split)<;>simp
theorem jO : ∀ {a:qx},(47:UInt8) ∉ a → qg a = [a]
 | [],_=>rfl
 | c :: s,h=>by
   have hc:c ≠ 47:=fun e=>h (by simp [e])
   have hs:(47:UInt8) ∉ s:=fun e=>h (by simp [e])
   simp [qg,hc,jO hs]
theorem vI : ∀ {a:qx} (b:qx),(47:UInt8) ∉ a → qg (a ++ 47 :: b) = a :: qg b
 | [],b,_=>by simp [qg]
 | c :: s,b,h=>by
   have hc:c ≠ 47:=fun e=>h (by simp [e])
   have hs:(47:UInt8) ∉ s:=fun e=>h (by simp [e])
   simp [qg,hc,vI b hs]
theorem ki : ∀ (p:qx), ∀ n,n ∈ qg p → (47:UInt8) ∉ n
 | [],n,h=>by simp [qg] at h;subst h;simp
 | c :: s,n,h=>by
   have ih:=ki s
   simp only [qg] at h
   split at h
   ·rcases List.mem_cons.1 h with rfl|h
    ·simp
    ·exact ih n h
   ·rename_i hc
    split at h
    ·simp at h;subst h;simpa using fun e=>hc e.symm
    ·rename_i m l hm
     rcases List.mem_cons.1 h with rfl|h
     ·have:=ih m (by rw [hm];simp)
      simp only [List.mem_cons,not_or];exact ⟨fun e=>hc e.symm,this⟩
     ·exact ih n (by rw [hm];simp [h])
theorem xJ {n:qx} {l:List qx} (h:l ≠ []):xi (n :: l) = n ++ 47 :: xi l:=by
 cases l with
 | nil=>exact absurd rfl h
 | cons m l=>rfl
theorem jL : ∀ (p:qx),xi (qg p) = p
 | []=>rfl
 | c :: s=>by
   have ih:=jL s
   have hne:=yc s
   simp only [qg]
   split
   ·rename_i hc;subst hc
    rw [xJ hne,ih];rfl
   ·split
    ·rename_i h;exact absurd h hne
    ·rename_i n l h
     rw [h] at ih
     cases l with
     | nil=>simp only [xi] at ih ⊢;rw [ih]
     | cons m l=>rw [xJ (by simp)] at ih ⊢;rw [← ih];rfl
theorem kj : ∀ {l:List qx},l ≠ [] → (∀ n,n ∈ l → (47:UInt8) ∉ n) → qg (xi l) = l
 | [],h,_=>absurd rfl h
 | [n],_,hf=>jO (hf n (by simp))
 | n :: m :: l,_,hf=>by
   rw [xJ (by simp),vI _ (hf n (by simp)),kj (by simp) fun x hx=>hf x (by simp [hx])]
theorem kI (p:qx):(qg p).length = p.count 47 + 1:=by
 induction p with
 | nil=>rfl
 | cons c s ih =>
   have hne:=yc s
   simp only [qg]
   split
   ·rename_i hc;subst hc;simp [ih]
   ·rename_i hc
    rw [List.count_cons_of_ne (fun e=>hc e)]
    split
    ·rename_i h;exact absurd h hne
    ·rename_i n l h;rw [h] at ih;exact ih
theorem y6 (a b:qx):qg (a ++ 47 :: b) = qg a ++ qg b:=by
 induction a with
 | nil=>simp [qg]
 | cons c s ih =>
   have hne:=yc s
   simp only [List.cons_append,qg,ih]
   split
   ·rfl
   ·split
    ·rename_i h;exact absurd (List.append_eq_nil_iff.1 h).1 hne
    ·rename_i n l h
     split
     ·rename_i h';exact absurd h' hne
     ·rename_i n' l' h'
      rw [h'] at h
      simp only [List.cons_append,List.cons.injEq] at h
      obtain ⟨rfl,rfl⟩:=h;rfl
theorem Yi {a b:List qx} (ha:a ≠ []) (hb:b ≠ []):xi (a ++ b) = xi a ++ 47 :: xi b:=by
 induction a with
 | nil=>exact absurd rfl ha
 | cons n l ih =>
   cases l with
   | nil=>rw [List.singleton_append,xJ hb];rfl
   | cons m l=>rw [List.cons_append,xJ (l:=m :: l ++ b) (by simp),ih (by simp),xJ (n:=n) (l:=m :: l) (by simp)];simp
theorem XF (p q:qx):qg q <+: qg p ↔ p = q ∨ (q ++ [47]) <+: p:=by
 constructor
 ·rintro ⟨t,ht⟩
  cases t with
  | nil =>
    left
    rw [List.append_nil] at ht
    rw [← jL p, ← ht,jL]
  | cons n t =>
    right
    have h:=jL p
    rw [← ht,Yi (yc q) (by simp),jL] at h
    exact ⟨xi (n :: t),by rw [List.append_assoc];exact h⟩
 ·rintro (rfl|⟨t,ht⟩)
  ·exact List.prefix_refl _
  ·rw [← ht,List.append_assoc]
   exact ⟨qg t,by rw [← y6];rfl⟩
def jN (c:UInt8):qx → Int
 | [] => -1
 | x :: l=>if 0 ≤ jN c l then jN c l + 1 else if x = c then 0 else -1
theorem xb {c:UInt8} : ∀ {p:qx},c ∉ p → jN c p = -1
 | [],_=>rfl
 | x :: l,h=>by
   have h1:¬ x = c:=fun e=>h (by simp [e])
   have h2:=xb (c:=c) (p:=l) fun e=>h (by simp [e])
   simp [jN,h2,h1]
theorem vZ {c:UInt8} : ∀ {a b:qx},c ∉ b → jN c (a ++ c :: b) = a.length
 | [],b,h=>by simp [jN,xb h]
 | x :: a,b,h=>by
   have h2:=vZ (a:=a) h
   simp only [List.cons_append,jN,h2,List.length_cons]
   rw [if_pos (by omega)];omega
theorem kY {c:UInt8} : ∀ (p:qx),c ∉ p ∨ ∃ a b,p = a ++ c :: b ∧ c ∉ b
 | [] => .inl (by simp)
 | x :: l=>by
   rcases kY (c:=c) l with h|⟨a,b,h1,h2⟩
   ·by_cases e:x = c
    ·exact .inr ⟨[],l,by simp [e],h⟩
    ·exact .inl (by simp only [List.mem_cons,not_or];exact ⟨fun h=>e h.symm,h⟩)
   ·exact .inr ⟨x :: a,b,by simp [h1],h2⟩
theorem Zr {c:UInt8} {p:qx} {k:Nat} (hk:k < p.length) (he:p[k] = c) (h:c ∉ p.drop (k + 1)):jN c p = k:=by
 have h1:p = p.take k ++ c :: p.drop (k + 1):=by rw [← he, ← List.drop_eq_getElem_cons hk,List.take_append_drop]
 rw [h1,vZ h,List.length_take,Nat.min_eq_left (by omega)]
theorem J5 (c:UInt8) (p:qx) : -1 ≤ jN c p ∧ jN c p < p.length:=by
 rcases kY (c:=c) p with h|⟨a,b,h1,h2⟩
 ·rw [xb h];omega
 ·rw [h1,vZ h2];simp;omega
def qy (p:qx):qx:=p.take (jN 47 p).toNat
def qY (p:qx):qx:=p.drop (jN 47 p + 1).toNat
theorem vR (p:qx):qg p = (qg p).dropLast ++ [qY p] ∧ xi (qg p).dropLast = qy p:=by
 rcases kY (c:=47) p with h|⟨a,b,h1,h2⟩
 ·rw [jO h,qY,qy,xb h]
  exact ⟨by simp,rfl⟩
 ·have h3:=vZ (a:=a) h2
  have h4:qY p = b:=by
   rw [qY,h1,h3,show ((a.length:Int) + 1).toNat = a.length + 1 from by omega]
   rw [List.drop_append,List.drop_of_length_le (by omega),List.nil_append,show a.length + 1 - a.length = 1 from by omega];rfl
  have h5:qy p = a:=by
   rw [qy,h1,h3,show (a.length:Int).toNat = a.length from by omega,List.take_left]
  have h6:qg p = qg a ++ [b]:=by rw [h1,y6,jO h2]
  rw [h4,h5,h6]
  exact ⟨by simp,by simp [jL]⟩
def jF (p:qx):Bool:=decide (6 < (qg p).length) || decide (80 < p.length)
def qn (p:qx):Int:=if (qg p).all yb then (if jF p then 2 else 0) else 1
theorem k8 (p:qx):jF p = (decide (6 ≤ p.count 47) || decide (80 < p.length)):=by
 unfold jF
 rw [kI]
 congr 1
 simp only [decide_eq_decide];omega
def jX:List qx → Int
 | []=>0
 | p :: l=>if qn p = 0 then jX l else qn p
def zx (p n:qx):qx:=if p = [] then n else p ++ 47 :: n
def inB (p q:qx):Bool:=decide (p = q) || (q ++ [47]).isPrefixOf p
theorem ZY (p q:qx):inB p q = (qg q).isPrefixOf (qg p):=by
 rw [Bool.eq_iff_iff,List.isPrefixOf_iff_prefix,XF]
 simp [inB]
theorem KG {p f t:qx} (h:inB p f = true):xi (qg t ++ (qg p).drop (qg f).length) = t ++ p.drop f.length:=by
 simp only [inB,Bool.or_eq_true,decide_eq_true_eq,List.isPrefixOf_iff_prefix] at h
 rcases h with rfl|⟨s,rfl⟩
 ·rw [List.drop_of_length_le (Nat.le_refl _),List.drop_of_length_le (Nat.le_refl _),List.append_nil,List.append_nil,jL]
 ·rw [List.append_assoc]
  show xi (qg t ++ (qg (f ++ 47 :: s)).drop (qg f).length) = _
  rw [y6,List.drop_left,Yi (yc _) (yc _),jL,jL]
  congr 1
  rw [List.drop_left];rfl
def vC (s:qx):qx:=(s.reverse.dropWhile (· == 32)).reverse
theorem ZK (s:qx) (c:UInt8):vC (s ++ [c]) = if c = 32 then vC s else s ++ [c]:=by
 unfold vC
 rw [List.reverse_append]
 by_cases h:c = 32
 ·simp [h]
 ·simp [h,List.dropWhile_cons]
def ku (n:Int):qx:=if n < 10 then [UInt8.ofNat (48 + n.toNat)] else [UInt8.ofNat (48 + n.toNat / 10),UInt8.ofNat (48 + n.toNat % 10)]
def xI (n:Int):qx:=[32,40] ++ ku n ++ [41]
def xl (s:qx):qx:=if 0 < jN 46 s then s.take (jN 46 s).toNat else s
def x9 (s:qx):qx:=if 0 < jN 46 s then s.drop (jN 46 s).toNat else []
def zc (s:qx) (n:Int):Int:=20 - (xI n).length - (x9 s).length
def xE (s:qx) (n:Int):qx:=if zc s n < (xl s).length then vC ((xl s).take (zc s n).toNat) else xl s
def xD (p:qx) (n:Int):qx:=zx (qy p) (xE (qY p) n ++ xI n ++ x9 (qY p))
def x7 (p:qx) (n:Int):Int:=if xE (qY p) n = [] then 2 else if jF (xD p n) then 2 else 0
theorem YF (s:qx):qg (s ++ [47]) = qg s ++ [[]]:=y6 s []
theorem XE {c:UInt8} (h:¬ c = 47) (s:qx):qg (s ++ [c]) = (qg s).dropLast ++ [qY s ++ [c]]:=by
 rcases kY (c:=47) s with hs|⟨a,b,h1,h2⟩
 ·have h3:(47:UInt8) ∉ s ++ [c]:=by simp only [List.mem_append,List.mem_singleton,not_or];exact ⟨hs,fun e=>h e.symm⟩
  rw [jO h3,jO hs,qY,xb hs];rfl
 ·have h3:(47:UInt8) ∉ b ++ [c]:=by simp only [List.mem_append,List.mem_singleton,not_or];exact ⟨h2,fun e=>h e.symm⟩
  have h4:=(vR s).1
  have h5:qg s = qg a ++ [b]:=by rw [h1,y6,jO h2]
  have h6:qY s = b:=by
   rw [h5] at h4
   simp only [List.dropLast_concat] at h4
   have:=List.append_cancel_left h4
   simpa using this.symm
  rw [h6,h5,h1,List.append_assoc]
  show qg (a ++ 47 :: (b ++ [c])) = _
  rw [y6,jO h3,List.dropLast_concat]
end Go.Proofs.YtnhpclmbhbblbaaGreatDoor
set_option linter.unusedSimpArgs false
namespace Go.Proofs.YtnhpclmbhbblbaaGreatDoor
def xn {α:Type} (p:α → Bool):List α → Int
 | [] => -1
 | x :: l=>if p x then 0 else if xn p l < 0 then -1 else xn p l + 1
theorem w9 {α:Type} {p:α → Bool} : ∀ {l:List α} {k:Nat} (hk:k < l.length),(∀ x,x ∈ l.take k → p x = false) → p l[k] = true → xn p l = k
 | x :: l,0,hk,_,hp=>by simp only [List.getElem_cons_zero] at hp;simp [xn,hp]
 | x :: l,k + 1,hk,h,hp=>by
   have hx:p x = false:=h x (by simp)
   have:=w9 (l:=l) (k:=k) (by simpa using hk) (fun y hy=>h y (by simp [hy])) (by simpa using hp)
   simp only [xn,hx,Bool.false_eq_true,if_false,this]
   rw [if_neg (by omega)];omega
theorem kb {α:Type} {p:α → Bool} : ∀ {l:List α},(∀ x,x ∈ l → p x = false) → xn p l = -1
 | [],_=>rfl
 | x :: l,h=>by
   have:=kb (l:=l) fun y hy=>h y (by simp [hy])
   simp [xn,h x (by simp),this]
theorem vw {α:Type} (p:α → Bool) : ∀ (l:List α),(xn p l = -1 ∧ ∀ x,x ∈ l → p x = false) ∨ ∃ (k:Nat) (h:k < l.length),xn p l = k ∧ (∀ x,x ∈ l.take k → p x = false) ∧ p l[k] = true
 | [] => .inl ⟨rfl,by simp⟩
 | x :: l=>by
   by_cases hx:p x = true
   ·exact .inr ⟨0,by simp,by simp [xn,hx],by simp,by simpa using hx⟩
   ·have hx:p x = false:=by simpa using hx
    rcases vw p l with ⟨h1,h2⟩|⟨k,hk,h1,h2,h3⟩
    ·exact .inl ⟨by simp [xn,hx,h1],by simpa [hx] using h2⟩
    ·refine .inr ⟨k + 1,by simpa using hk,?_,?_,by simpa using h3⟩
     ·simp only [xn,hx,Bool.false_eq_true,if_false,h1]
      rw [if_neg (by omega)];omega
     ·intro y hy
      simp only [List.take_succ_cons,List.mem_cons] at hy
      rcases hy with rfl|hy
      ·exact hx
      ·exact h2 y hy
theorem Ky {α:Type} (p:α → Bool) (l:List α):decide (0 ≤ xn p l) = l.any p:=by
 rcases vw p l with ⟨h1,h2⟩|⟨k,hk,h1,h2,h3⟩
 ·rw [h1,eq_comm,show decide ((0:Int) ≤ -1) = false from rfl,List.any_eq_false]
  intro x hx
  simp [h2 x hx]
 ·rw [h1,eq_comm,show decide ((0:Int) ≤ (k:Int)) = true from decide_eq_true (by omega),List.any_eq_true]
  exact ⟨l[k],List.getElem_mem _,h3⟩
theorem xw {α:Type} {l:List α} {k:Nat} (hk:k < l.length) {p:α → Prop} (h : ∀ x,x ∈ l.take k → p x) (hx:p l[k]) : ∀ x,x ∈ l.take (k + 1) → p x:=by
 intro x hm
 rw [List.take_succ_eq_append_getElem hk] at hm
 rcases List.mem_append.1 hm with hm|hm
 ·exact h x hm
 ·simp at hm;exact hm ▸ hx
end Go.Proofs.YtnhpclmbhbblbaaGreatDoor
set_option linter.unusedSimpArgs false
set_option linter.unnecessarySimpa false
namespace Go.Proofs.YtnhpclmbhbblbaaGreatDoor
open Go.Op
def zD (a b:qx):Int:=if Op.bytesLess a b = true then -1 else if (!(Op.bytesLess a b || decide (a = b))) = true then 1 else 0
theorem zw : ∀ (a b:List UInt8),(bytesLess a b = true ∧ bytesLess b a = false ∧ a ≠ b) ∨ (a = b ∧ bytesLess a b = false ∧ bytesLess b a = false) ∨ (bytesLess b a = true ∧ bytesLess a b = false ∧ a ≠ b)
 | [],[] => .inr (.inl ⟨rfl,rfl,rfl⟩)
 | [],b :: y => .inl ⟨rfl,rfl,by simp⟩
 | a :: x,[] => .inr (.inr ⟨rfl,rfl,by simp⟩)
 | a :: x,b :: y=>by
   simp only [bytesLess]
   by_cases h1:a < b
   ·have h2:¬ b < a:=by rw [UInt8.lt_iff_toNat_lt] at *;omega
    have h3:a ≠ b:=by rintro rfl;exact h2 h1
    have h4:b ≠ a:=fun h=>h3 h.symm
    exact .inl (by simp [h1,h2,h3,h4])
   ·by_cases h2:b < a
    ·have h3:a ≠ b:=by rintro rfl;exact h1 h2
     have h4:b ≠ a:=fun h=>h3 h.symm
     exact .inr (.inr (by simp [h1,h2,h3,h4]))
    ·have h3:a = b:=by
      have:a.toNat = b.toNat:=by rw [UInt8.lt_iff_toNat_lt] at *;omega
      exact UInt8.toNat.inj this
     subst h3
     simp only [h1,decide_false,Bool.false_or,beq_self_eq_true,Bool.true_and,List.cons.injEq,true_and,ne_eq]
     exact zw x y
theorem vr : ∀ {a b c:List UInt8},bytesLess a b = true → bytesLess b c = true → bytesLess a c = true
 | _,_,[],_,h=>by cases ‹List UInt8›<;>simp [bytesLess] at h
 | a,[],_ :: _,h,_=>by cases a<;>simp [bytesLess] at h
 | [],_ :: _,_ :: _,_,_=>rfl
 | a :: x,b :: y,c :: z,h1,h2=>by
   simp only [bytesLess,Bool.or_eq_true,Bool.and_eq_true,decide_eq_true_eq,beq_iff_eq,UInt8.lt_iff_toNat_lt] at *
   rcases h1 with h1|⟨rfl,h1⟩
   ·rcases h2 with h2|⟨rfl,h2⟩
    ·exact .inl (by omega)
    ·exact .inl h1
   ·rcases h2 with h2|⟨rfl,h2⟩
    ·exact .inl h2
    ·exact .inr ⟨rfl,vr h1 h2⟩
theorem vV (a:List UInt8):bytesLess a a = false:=by
 rcases zw a a with h|h|h
 ·exact absurd rfl h.2.2
 ·exact h.2.1
 ·exact absurd rfl h.2.2
theorem Yq (a b:qx):zD a b < 0 ↔ bytesLess a b = true:=by
 unfold zD;rcases zw a b with ⟨h1,h2,h3⟩|⟨rfl,h2,h3⟩|⟨h1,h2,h3⟩<;>simp [*]
theorem Jb (a b:qx):zD a b = 0 ↔ a = b:=by
 unfold zD;rcases zw a b with ⟨h1,h2,h3⟩|⟨rfl,h2,h3⟩|⟨h1,h2,h3⟩<;>simp [*]
theorem V1 (a:qx):zD a a = 0:=(Jb a a).2 rfl
def jB {α:Type} (f:α → Int):List α → Int
 | []=>0
 | x :: l=>if f x = 0 then jB f l else f x
def qS {α:Type} (lt:α → α → Bool):List α → Bool
 | []=>true
 | x :: l=>(match l with | []=>true|y :: _=>lt x y) && qS lt l
theorem xR {α:Type} {f:α → Int} : ∀ {l:List α},jB f l = 0 ↔ ∀ x,x ∈ l → f x = 0
 | []=>by simp [jB]
 | x :: l=>by
   simp only [jB,List.mem_cons,forall_eq_or_imp]
   by_cases h:f x = 0
   ·simp [h,xR (l:=l)]
   ·simp [h]
theorem Q0 {α:Type} {f:α → Int} {l:List α} {k:Nat} (hk:k < l.length) (h : ∀ x,x ∈ l.take k → f x = 0) (he:f l[k] ≠ 0):jB f l = f l[k]:=by
 induction l generalizing k with
 | nil=>simp at hk
 | cons x l ih =>
   cases k with
   | zero=>simp only [jB,List.getElem_cons_zero] at he ⊢;rw [if_neg he]
   | succ k =>
     have hx:f x = 0:=h x (by simp)
     simp only [jB,hx,if_true,List.getElem_cons_succ]
     exact ih (by simpa using hk) (fun y hy=>h y (by simp [hy])) (by simpa using he)
theorem zb {α:Type} {lt:α → α → Bool} : ∀ {l:List α},qS lt l = true ↔ ∀ (k:Nat) (h:k + 1 < l.length),lt (l[k]'(by omega)) l[k + 1] = true
 | []=>by simp [qS]
 | [x]=>by simp [qS]
 | x :: y :: l=>by
   have ih:=zb (lt:=lt) (l:=y :: l)
   simp only [qS,Bool.and_eq_true] at ih ⊢
   constructor
   ·rintro ⟨h1,h2⟩ k hk
    cases k with
    | zero=>exact h1
    | succ k=>exact ih.1 h2 k (by simpa using hk)
   ·intro h
    exact ⟨h 0 (by simp),ih.2 fun k hk=>h (k + 1) (by simpa using hk)⟩
structure Ent where
 path:qx
 fold:Bool
 text:qx
 ver:Int
 deriving DecidableEq
structure Chg where
 kind:Int
 path:qx
 to:qx
 text:qx
 base:Int
 deriving DecidableEq
def jj (a b:Ent):Bool:=bytesLess a.path b.path
def atP (p:qx) (x:Ent):Bool:=decide (x.path = p)
def yx (t:List Ent) (p:qx):Nat:=(t.takeWhile (fun x=>bytesLess x.path p)).length
def j9 (t:List Ent) (p:qx):Bool:=t.any (atP p)
def vF (n:Int):Bool:=decide (1 ≤ n) && decide (n ≤ 1000000)
def yP (e:Ent):Int:=if qn e.path = 0 then (if e.fold = true ∧ ¬ e.text = [] then 1 else if 300 < e.text.length then 2 else if vF e.ver = true then 0 else 3) else qn e.path
def yZ (t:List Ent) (q:qx):Int:=if q = [] then 0 else match t.find? (atP q) with|none=>5|some x=>if x.fold = true then 0 else 4
def y2 (t:List Ent) (x:Ent):Int:=yZ t (qy x.path)
def qA (t:List Ent):Int :=
 if 60 < t.length then 2
 else if jB yP t = 0 then
  if qS jj t = true then
   if t.any (fun x=>decide (y2 t x = 5)) = true then 5
   else if t.any (fun x=>decide (¬ y2 t x = 0)) = true then 4 else 0
  else 4
 else jB yP t
theorem x0 {t:List Ent} (h:qS jj t = true) : ∀ (j k:Nat) (hj:j < t.length) (hk:k < t.length),j < k → bytesLess t[j].path t[k].path = true:=by
 intro j k hj hk hjk
 induction k with
 | zero=>omega
 | succ k ih =>
   have h1:bytesLess t[k].path t[k + 1].path = true:=zb.1 h k hk
   by_cases e:j = k
   ·subst e;exact h1
   ·exact vr (ih (by omega) (by omega)) h1
theorem yB {t:List Ent}:qS jj t = true ↔ t.Pairwise (fun a b=>bytesLess a.path b.path = true):=by
 rw [List.pairwise_iff_getElem]
 constructor
 ·intro h i j hi hj hij
  exact x0 h i j hi hj hij
 ·intro h
  exact zb.2 fun k hk=>h k (k + 1) (by omega) hk (by omega)
theorem XM {p:qx} : ∀ {t:List Ent} {k:Nat},k ≤ t.length → (∀ (j:Nat) (h:j < t.length),j < k → bytesLess t[j].path p = true) → (∀ (h:k < t.length),bytesLess t[k].path p = false) → yx t p = k
 | [],k,hk,_,_=>by simp at hk;simp [yx,hk]
 | x :: l,0,hk,_,h2=>by
   have:=h2 (by simp)
   simp only [List.getElem_cons_zero] at this
   simp [yx,List.takeWhile_cons,this]
 | x :: l,k + 1,hk,h1,h2=>by
   have hx:bytesLess x.path p = true:=h1 0 (by simp) (by omega)
   have:=XM (t:=l) (k:=k) (by simpa using hk) (fun j h hj=>h1 (j + 1) (by simpa using h) (by omega)) (fun h=>h2 (by simpa using h))
   simp only [yx] at this
   simp [yx,List.takeWhile_cons,hx,this]
theorem qa1 (t:List Ent) (p:qx):yx t p ≤ t.length:=by
 induction t with
 | nil=>simp [yx]
 | cons x l ih=>simp only [yx,List.takeWhile_cons] at *;split<;>simp<;>omega
theorem Z3 {t:List Ent} {p:qx} (hs:qS jj t = true) {k:Nat} (hk:k < t.length) (he:t[k].path = p):yx t p = k:=by
 refine XM (by omega) (fun j hj hjk=>?_) (fun _=>?_)
 ·rw [← he];exact x0 hs j k hj hk hjk
 ·rw [← he];exact vV _
theorem Vu {t:List Ent} {p:qx} (hs:qS jj t = true):j9 t p = (match t[yx t p]? with|some x=>decide (zD x.path p = 0)|none=>false):=by
 rcases vw (atP p) t with ⟨_,h2⟩|⟨k,hk,_,_,h3⟩
 ·have:j9 t p = false:=List.any_eq_false.2 (fun x hx=>by rw [h2 x hx];simp)
  rw [this]
  split
  ·rename_i x hx
   have hm:=List.mem_of_getElem? hx
   have:=h2 x hm
   rw [eq_comm,decide_eq_false_iff_not,Jb]
   simpa [atP] using this
  ·rfl
 ·have he:t[k].path = p:=by simpa [atP] using h3
  have:j9 t p = true:=List.any_eq_true.2 ⟨t[k],List.getElem_mem _,h3⟩
  rw [this,Z3 hs hk he,List.getElem?_eq_getElem hk]
  simp [he,V1]
theorem Jn {t:List Ent} {p:qx} (hs:qS jj t = true) (h:j9 t p = true) : ∃ hk:yx t p < t.length,t[yx t p].path = p ∧ t.find? (atP p) = some t[yx t p] ∧ xn (atP p) t = yx t p:=by
 obtain ⟨x,hx,hk⟩:=List.any_eq_true.1 h
 obtain ⟨k,hkl,rfl⟩:=List.getElem_of_mem hx
 have he:t[k].path = p:=by simpa [atP] using hk
 have hp:=Z3 hs hkl he
 have hbef : ∀ j (hj:j < k),atP p (t[j]'(by omega)) = false:=fun j hj=>by
  have h1:=x0 hs j k (by omega) hkl hj
  have:¬ t[j].path = p:=fun e=>by rw [e,he,vV] at h1;cases h1
  simp [atP,this]
 refine ⟨by omega,by simp only [hp];exact he,?_,?_⟩
 ·simp only [hp]
  rw [List.find?_eq_some_iff_getElem]
  exact ⟨hk,k,hkl,rfl,fun j hj=>by rw [hbef j hj];rfl⟩
 ·rw [hp]
  refine w9 hkl (fun x hx=>?_) hk
  obtain ⟨j,hj,rfl⟩:=List.getElem_of_mem hx
  rw [List.getElem_take]
  exact hbef j (by simp at hj;omega)
theorem QF {t:List Ent} {p:qx} (h:j9 t p = false):t.find? (atP p) = none ∧ xn (atP p) t = -1:=by
 have h1:=List.any_eq_false.1 h
 exact ⟨List.find?_eq_none.2 h1,kb fun x hx=>by simpa using h1 x hx⟩
theorem Zp {α:Type} (p:α → Bool) (l:List α):(xn p l = -1 ∧ l.find? p = none) ∨ ∃ (k:Nat) (h:k < l.length),xn p l = k ∧ l.find? p = some l[k]:=by
 rcases vw p l with ⟨h1,h2⟩|⟨k,hk,h1,h2,h3⟩
 ·exact .inl ⟨h1,List.find?_eq_none.2 fun x hx=>by rw [h2 x hx];simp⟩
 ·refine .inr ⟨k,hk,h1,?_⟩
  rw [List.find?_eq_some_iff_getElem]
  refine ⟨h3,k,hk,rfl,fun j hj=>?_⟩
  rw [h2 _ (List.mem_take_iff_getElem.2 ⟨j,by omega,rfl⟩)];rfl
end Go.Proofs.YtnhpclmbhbblbaaGreatDoor
