import Derived.WalkKit
namespace Go.Proofs.YtamejbkifpjhiaaGreatDoor
open Go.RowKit
abbrev qP:=List UInt8
structure Sess where
 number:Int
 who:qP
 text:qP
 size:Int
 till:Int
 deriving DecidableEq
def Sess.cells (s:Sess):List Value:=[.int .i64 s.number,.string ⟨s.who.toArray⟩,.string ⟨s.text.toArray⟩,.int .i64 s.size,.int .i64 s.till]
structure Upl where
 sess:List Sess
 next:Int
 lasts:Int
 room:Int
 deriving DecidableEq
structure Gra where
 folder:qP
 who:qP
 right:Int
 deriving DecidableEq
def Gra.cells (s:Gra):List Value:=[.string ⟨s.folder.toArray⟩,.string ⟨s.who.toArray⟩,.int .i64 s.right]
def Zl (c:UInt8):Bool :=
 (97 ≤ c.toNat && c.toNat ≤ 122) || (65 ≤ c.toNat && c.toNat ≤ 90) || (48 ≤ c.toNat && c.toNat ≤ 57) || c.toNat == 45 || c.toNat == 95 || c.toNat == 46 || c.toNat == 40 || c.toNat == 41 || c.toNat == 32
def yq (s:qP):Bool := !s.isEmpty && decide (s.length ≤ 20) && s != [46] && s != [46,46] && s.head? != some 32 && s.getLast? != some 32 && s.all Zl
def Sl {α:Type} (c:α → List Value) (sz:Nat) (w:World) (B:Nat) (v:Value) (l:List α):Prop :=
 ∃ A cap,v = .slice A l.length cap ∧ l.length ≤ cap ∧ cap ≤ maxLen ∧ ∀ k (h:k < l.length), ∃ b off,A = some ⟨b,off,none⟩ ∧ b < B ∧
   ∀ j u,(c l[k])[j]? = some u → w.cell? ⟨b,off + k * sz + j,none⟩ = some u
section
variable {α:Type} {c:α → List Value} {sz:Nat} {w w' : World} {B B' : Nat} {v:Value} {l:List α}
theorem Sl.nil:Sl c sz w B (.slice none 0 0) []:=⟨none,0,rfl,Nat.le_refl _,Nat.zero_le _,fun k h=>absurd h (Nat.not_lt_zero k)⟩
theorem Sl.keep (h:Sl c sz w B v l) (hk : ∀ p:Addr,p.block < B → w'.cell? p = w.cell? p):Sl c sz w' B v l:=by
 obtain ⟨A,cap,hv,h1,h2,h3⟩:=h
 refine ⟨A,cap,hv,h1,h2,fun k hkl=>?_⟩
 obtain ⟨b,off,hA,hB,hc⟩:=h3 k hkl
 exact ⟨b,off,hA,hB,fun j u hu=>(hk ⟨b,off + k * sz + j,none⟩ hB).trans (hc j u hu)⟩
theorem Sl.more (h:Sl c sz w B v l) (hB:B ≤ B'):Sl c sz w B' v l:=by
 obtain ⟨A,cap,hv,h1,h2,h3⟩:=h
 refine ⟨A,cap,hv,h1,h2,fun k hkl=>?_⟩
 obtain ⟨b,off,hA,hb,hc⟩:=h3 k hkl
 exact ⟨b,off,hA,by omega,hc⟩
theorem Sl.below (h:Sl c sz w B v l) (hb:Below B w w'):Sl c sz w' B v l:=h.keep fun _ hp=>hb.cell hp
theorem Sl.at (h:Sl c sz w B v l) {A:Option Addr} {n cap:Nat} (hv:v = .slice A n cap) {k:Nat} (hk:k < l.length) :
  ∃ b off,A = some ⟨b,off,none⟩ ∧ b < B ∧ ∀ j u,(c l[k])[j]? = some u → w.cell? ⟨b,off + k * sz + j,none⟩ = some u:=by
 obtain ⟨A',cap',hv',_,_,h3⟩:=h
 rw [hv] at hv'
 injection hv' with e1 e2 e3
 subst e1
 exact h3 k hk
end
theorem Sl.sess {w:World} {B:Nat} {A:Option Addr} {n cap:Nat} {l:List Sess} (h:Sl Sess.cells 5 w B (.slice A n cap) l) {k:Nat} (hk:k < l.length) :
  ∃ b off,A = some ⟨b,off,none⟩ ∧ b < B ∧ w.cell? ⟨b,off + k * 5,none⟩ = some (.int .i64 l[k].number) ∧ w.cell? ⟨b,off + k * 5 + 1,none⟩ = some (.string ⟨l[k].who.toArray⟩) ∧
    w.cell? ⟨b,off + k * 5 + 2,none⟩ = some (.string ⟨l[k].text.toArray⟩) ∧ w.cell? ⟨b,off + k * 5 + 3,none⟩ = some (.int .i64 l[k].size) ∧ w.cell? ⟨b,off + k * 5 + 4,none⟩ = some (.int .i64 l[k].till):=by
 obtain ⟨b,off,hA,hB,hc⟩:=h.at rfl hk
 exact ⟨b,off,hA,hB,hc 0 _ rfl,hc 1 _ rfl,hc 2 _ rfl,hc 3 _ rfl,hc 4 _ rfl⟩
theorem Zh {α:Type} {l:List α} {k:Nat} (h:k < l.length):l.take (k + 1) = l.take k ++ [l[k]]:=by
 rw [List.take_succ_eq_append_getElem h]
end Go.Proofs.YtamejbkifpjhiaaGreatDoor
set_option linter.unusedSimpArgs false
set_option linter.unnecessarySimpa false
namespace Go.Proofs.YtamejbkifpjhiaaGreatDoor
def qu:qP → List qP
 | [] => [[]]
 | c :: s=>if c = 47 then [] :: qu s else match qu s with | [] => [[c]]|n :: l=>(c :: n) :: l
def yV:List qP → qP
 | [] => []
 | [n]=>n
 | n :: l=>n ++ 47 :: yV l
theorem xB (p:qP):qu p ≠ []:=by
 cases p with
 | nil=>simp [qu]
 | cons c s=>simp only [qu];split<;>(try split)<;>simp
theorem y7 : ∀ {a:qP},(47:UInt8) ∉ a → qu a = [a]
 | [],_=>rfl
 | c :: s,h=>by
   have hc:c ≠ 47:=fun e=>h (by simp [e])
   have hs:(47:UInt8) ∉ s:=fun e=>h (by simp [e])
   simp [qu,hc,y7 hs]
theorem kV : ∀ {a:qP} (b:qP),(47:UInt8) ∉ a → qu (a ++ 47 :: b) = a :: qu b
 | [],b,_=>by simp [qu]
 | c :: s,b,h=>by
   have hc:c ≠ 47:=fun e=>h (by simp [e])
   have hs:(47:UInt8) ∉ s:=fun e=>h (by simp [e])
   simp [qu,hc,kV b hs]
theorem QA : ∀ (p:qP), ∀ n,n ∈ qu p → (47:UInt8) ∉ n
 | [],n,h=>by simp [qu] at h;subst h;simp
 | c :: s,n,h=>by
   have ih:=QA s
   simp only [qu] at h
   split at h
   ·rcases List.mem_cons.1 h with rfl|h
    ·simp
    ·exact ih n h
   ·rename_i hc
    split at h
    ·simp at h;subst h;simpa using fun e=>hc e.symm
    ·rename_i m l hm
     rcases List.mem_cons.1 h with rfl|h
     ·have:=ih m (by rw [hm];simp)
      simp only [List.mem_cons,not_or];exact ⟨fun e=>hc e.symm,this⟩
     ·exact ih n (by rw [hm];simp [h])
theorem zn {n:qP} {l:List qP} (h:l ≠ []):yV (n :: l) = n ++ 47 :: yV l:=by
 cases l with
 | nil=>exact absurd rfl h
 | cons m l=>rfl
theorem y2 : ∀ (p:qP),yV (qu p) = p
 | []=>rfl
 | c :: s=>by
   have ih:=y2 s
   have hne:=xB s
   simp only [qu]
   split
   ·rename_i hc;subst hc
    rw [zn hne,ih];rfl
   ·split
    ·rename_i h;exact absurd h hne
    ·rename_i n l h
     rw [h] at ih
     cases l with
     | nil=>simp only [yV] at ih ⊢;rw [ih]
     | cons m l=>rw [zn (by simp)] at ih ⊢;rw [← ih];rfl
theorem QB : ∀ {l:List qP},l ≠ [] → (∀ n,n ∈ l → (47:UInt8) ∉ n) → qu (yV l) = l
 | [],h,_=>absurd rfl h
 | [n],_,hf=>y7 (hf n (by simp))
 | n :: m :: l,_,hf=>by
   rw [zn (by simp),kV _ (hf n (by simp)),QB (by simp) fun x hx=>hf x (by simp [hx])]
theorem wK (p:qP):(qu p).length = p.count 47 + 1:=by
 induction p with
 | nil=>rfl
 | cons c s ih =>
   have hne:=xB s
   simp only [qu]
   split
   ·rename_i hc;subst hc;simp [ih]
   ·rename_i hc
    rw [List.count_cons_of_ne (fun e=>hc e)]
    split
    ·rename_i h;exact absurd h hne
    ·rename_i n l h;rw [h] at ih;exact ih
theorem vP (a b:qP):qu (a ++ 47 :: b) = qu a ++ qu b:=by
 induction a with
 | nil=>simp [qu]
 | cons c s ih =>
   have hne:=xB s
   simp only [List.cons_append,qu,ih]
   split
   ·rfl
   ·split
    ·rename_i h;exact absurd (List.append_eq_nil_iff.1 h).1 hne
    ·rename_i n l h
     split
     ·rename_i h';exact absurd h' hne
     ·rename_i n' l' h'
      rw [h'] at h
      simp only [List.cons_append,List.cons.injEq] at h
      obtain ⟨rfl,rfl⟩:=h;rfl
theorem QE {a b:List qP} (ha:a ≠ []) (hb:b ≠ []):yV (a ++ b) = yV a ++ 47 :: yV b:=by
 induction a with
 | nil=>exact absurd rfl ha
 | cons n l ih =>
   cases l with
   | nil=>rw [List.singleton_append,zn hb];rfl
   | cons m l=>rw [List.cons_append,zn (l:=m :: l ++ b) (by simp),ih (by simp),zn (n:=n) (l:=m :: l) (by simp)];simp
theorem Ku (p q:qP):qu q <+: qu p ↔ p = q ∨ (q ++ [47]) <+: p:=by
 constructor
 ·rintro ⟨t,ht⟩
  cases t with
  | nil =>
    left
    rw [List.append_nil] at ht
    rw [← y2 p, ← ht,y2]
  | cons n t =>
    right
    have h:=y2 p
    rw [← ht,QE (xB q) (by simp),y2] at h
    exact ⟨yV (n :: t),by rw [List.append_assoc];exact h⟩
 ·rintro (rfl|⟨t,ht⟩)
  ·exact List.prefix_refl _
  ·rw [← ht,List.append_assoc]
   exact ⟨qu t,by rw [← vP];rfl⟩
def yn (c:UInt8):qP → Int
 | [] => -1
 | x :: l=>if 0 ≤ yn c l then yn c l + 1 else if x = c then 0 else -1
theorem vX {c:UInt8} : ∀ {p:qP},c ∉ p → yn c p = -1
 | [],_=>rfl
 | x :: l,h=>by
   have h1:¬ x = c:=fun e=>h (by simp [e])
   have h2:=vX (c:=c) (p:=l) fun e=>h (by simp [e])
   simp [yn,h2,h1]
theorem wm {c:UInt8} : ∀ {a b:qP},c ∉ b → yn c (a ++ c :: b) = a.length
 | [],b,h=>by simp [yn,vX h]
 | x :: a,b,h=>by
   have h2:=wm (a:=a) h
   simp only [List.cons_append,yn,h2,List.length_cons]
   rw [if_pos (by omega)];omega
theorem Qd {c:UInt8} : ∀ (p:qP),c ∉ p ∨ ∃ a b,p = a ++ c :: b ∧ c ∉ b
 | [] => .inl (by simp)
 | x :: l=>by
   rcases Qd (c:=c) l with h|⟨a,b,h1,h2⟩
   ·by_cases e:x = c
    ·exact .inr ⟨[],l,by simp [e],h⟩
    ·exact .inl (by simp only [List.mem_cons,not_or];exact ⟨fun h=>e h.symm,h⟩)
   ·exact .inr ⟨x :: a,b,by simp [h1],h2⟩
theorem qaO {c:UInt8} {p:qP} {k:Nat} (hk:k < p.length) (he:p[k] = c) (h:c ∉ p.drop (k + 1)):yn c p = k:=by
 have h1:p = p.take k ++ c :: p.drop (k + 1):=by rw [← he, ← List.drop_eq_getElem_cons hk,List.take_append_drop]
 rw [h1,wm h,List.length_take,Nat.min_eq_left (by omega)]
theorem wn (c:UInt8) (p:qP) : -1 ≤ yn c p ∧ yn c p < p.length:=by
 rcases Qd (c:=c) p with h|⟨a,b,h1,h2⟩
 ·rw [vX h];omega
 ·rw [h1,wm h2];simp;omega
def qJ (p:qP):qP:=p.take (yn 47 p).toNat
def jb (p:qP):qP:=p.drop (yn 47 p + 1).toNat
theorem vN (p:qP):qu p = (qu p).dropLast ++ [jb p] ∧ yV (qu p).dropLast = qJ p:=by
 rcases Qd (c:=47) p with h|⟨a,b,h1,h2⟩
 ·rw [y7 h,jb,qJ,vX h]
  exact ⟨by simp,rfl⟩
 ·have h3:=wm (a:=a) h2
  have h4:jb p = b:=by
   rw [jb,h1,h3,show ((a.length:Int) + 1).toNat = a.length + 1 from by omega]
   rw [List.drop_append,List.drop_of_length_le (by omega),List.nil_append,show a.length + 1 - a.length = 1 from by omega];rfl
  have h5:qJ p = a:=by
   rw [qJ,h1,h3,show (a.length:Int).toNat = a.length from by omega,List.take_left]
  have h6:qu p = qu a ++ [b]:=by rw [h1,vP,y7 h2]
  rw [h4,h5,h6]
  exact ⟨by simp,by simp [y2]⟩
def j8 (p:qP):Bool:=decide (6 < (qu p).length) || decide (80 < p.length)
def qH (p:qP):Int:=if (qu p).all yq then (if j8 p then 2 else 0) else 1
theorem Jp (p:qP):j8 p = (decide (6 ≤ p.count 47) || decide (80 < p.length)):=by
 unfold j8
 rw [wK]
 congr 1
 simp only [decide_eq_decide];omega
def xo:List qP → Int
 | []=>0
 | p :: l=>if qH p = 0 then xo l else qH p
def zK (p n:qP):qP:=if p = [] then n else p ++ 47 :: n
def inB (p q:qP):Bool:=decide (p = q) || (q ++ [47]).isPrefixOf p
theorem Ve (p q:qP):inB p q = (qu q).isPrefixOf (qu p):=by
 rw [Bool.eq_iff_iff,List.isPrefixOf_iff_prefix,Ku]
 simp [inB]
theorem ZP {p f t:qP} (h:inB p f = true):yV (qu t ++ (qu p).drop (qu f).length) = t ++ p.drop f.length:=by
 simp only [inB,Bool.or_eq_true,decide_eq_true_eq,List.isPrefixOf_iff_prefix] at h
 rcases h with rfl|⟨s,rfl⟩
 ·rw [List.drop_of_length_le (Nat.le_refl _),List.drop_of_length_le (Nat.le_refl _),List.append_nil,List.append_nil,y2]
 ·rw [List.append_assoc]
  show yV (qu t ++ (qu (f ++ 47 :: s)).drop (qu f).length) = _
  rw [vP,List.drop_left,QE (xB _) (xB _),y2,y2]
  congr 1
  rw [List.drop_left];rfl
def zm (s:qP):qP:=(s.reverse.dropWhile (· == 32)).reverse
theorem Yc (s:qP) (c:UInt8):zm (s ++ [c]) = if c = 32 then zm s else s ++ [c]:=by
 unfold zm
 rw [List.reverse_append]
 by_cases h:c = 32
 ·simp [h]
 ·simp [h,List.dropWhile_cons]
def ko (n:Int):qP:=if n < 10 then [UInt8.ofNat (48 + n.toNat)] else [UInt8.ofNat (48 + n.toNat / 10),UInt8.ofNat (48 + n.toNat % 10)]
def vo (n:Int):qP:=[32,40] ++ ko n ++ [41]
def vc (s:qP):qP:=if 0 < yn 46 s then s.take (yn 46 s).toNat else s
def zk (s:qP):qP:=if 0 < yn 46 s then s.drop (yn 46 s).toNat else []
def zM (s:qP) (n:Int):Int:=20 - (vo n).length - (zk s).length
def vI (s:qP) (n:Int):qP:=if zM s n < (vc s).length then zm ((vc s).take (zM s n).toNat) else vc s
def yI (p:qP) (n:Int):qP:=zK (qJ p) (vI (jb p) n ++ vo n ++ zk (jb p))
def vC (p:qP) (n:Int):Int:=if vI (jb p) n = [] then 2 else if j8 (yI p n) then 2 else 0
theorem JS (s:qP):qu (s ++ [47]) = qu s ++ [[]]:=vP s []
theorem YK {c:UInt8} (h:¬ c = 47) (s:qP):qu (s ++ [c]) = (qu s).dropLast ++ [jb s ++ [c]]:=by
 rcases Qd (c:=47) s with hs|⟨a,b,h1,h2⟩
 ·have h3:(47:UInt8) ∉ s ++ [c]:=by simp only [List.mem_append,List.mem_singleton,not_or];exact ⟨hs,fun e=>h e.symm⟩
  rw [y7 h3,y7 hs,jb,vX hs];rfl
 ·have h3:(47:UInt8) ∉ b ++ [c]:=by simp only [List.mem_append,List.mem_singleton,not_or];exact ⟨h2,fun e=>h e.symm⟩
  have h4:=(vN s).1
  have h5:qu s = qu a ++ [b]:=by rw [h1,vP,y7 h2]
  have h6:jb s = b:=by
   rw [h5] at h4
   simp only [List.dropLast_concat] at h4
   have:=List.append_cancel_left h4
   simpa using this.symm
  rw [h6,h5,h1,List.append_assoc]
  show qu (a ++ 47 :: (b ++ [c])) = _
  rw [vP,y7 h3,List.dropLast_concat]
theorem Zs (s:qP):(jb s).length ≤ s.length ∧ s.drop (s.length - (jb s).length) = jb s:=by
 unfold jb
 refine ⟨by simp,?_⟩
 rw [List.length_drop]
 by_cases h:(yn 47 s + 1).toNat ≤ s.length
 ·congr 1;omega
 ·have:=wn 47 s;omega
theorem XX {l:List qP} {i:Nat} (h:i < l.length) (h0:0 < i):yV (l.take (i + 1)) = yV (l.take i) ++ [47] ++ l[i]:=by
 rw [List.take_succ_eq_append_getElem h,QE (by intro e;rw [List.take_eq_nil_iff] at e;rcases e with e|e<;>simp_all) (by simp)]
 simp [yV]
theorem YS {l:List qP} (h:0 < l.length):yV (l.take 1) = l[0]:=by
 cases l with
 | nil=>simp at h
 | cons x l=>simp [yV]
theorem qa6 {a b:List qP} (hl:b.length ≤ a.length) (h : ∀ k (hk:k < b.length),a[k] = b[k]):b.isPrefixOf a = true:=by
 rw [List.isPrefixOf_iff_prefix,List.prefix_iff_eq_take]
 refine List.ext_getElem (by simp;omega) fun i h1 h2=>?_
 rw [List.getElem_take];exact (h i h1).symm
theorem qa8 {a b:List qP} (hl:¬ b.length ≤ a.length):b.isPrefixOf a = false:=by
 cases h:b.isPrefixOf a
 ·rfl
 ·exact absurd (List.isPrefixOf_iff_prefix.1 h).length_le hl
theorem qa7 {a b:List qP} {k:Nat} (hl:b.length ≤ a.length) (hk:k < b.length) (h:¬ a[k] = b[k]):b.isPrefixOf a = false:=by
 cases e:b.isPrefixOf a
 ·rfl
 ·obtain ⟨t,rfl⟩:=List.isPrefixOf_iff_prefix.1 e
  exact absurd (List.getElem_append_left hk) h
end Go.Proofs.YtamejbkifpjhiaaGreatDoor
set_option linter.unusedSimpArgs false
namespace Go.Proofs.YtamejbkifpjhiaaGreatDoor
def xj {α:Type} (p:α → Bool):List α → Int
 | [] => -1
 | x :: l=>if p x then 0 else if xj p l < 0 then -1 else xj p l + 1
theorem Q6 {α:Type} {p:α → Bool} : ∀ {l:List α} {k:Nat} (hk:k < l.length),(∀ x,x ∈ l.take k → p x = false) → p l[k] = true → xj p l = k
 | x :: l,0,hk,_,hp=>by simp only [List.getElem_cons_zero] at hp;simp [xj,hp]
 | x :: l,k + 1,hk,h,hp=>by
   have hx:p x = false:=h x (by simp)
   have:=Q6 (l:=l) (k:=k) (by simpa using hk) (fun y hy=>h y (by simp [hy])) (by simpa using hp)
   simp only [xj,hx,Bool.false_eq_true,if_false,this]
   rw [if_neg (by omega)];omega
theorem wk {α:Type} {p:α → Bool} : ∀ {l:List α},(∀ x,x ∈ l → p x = false) → xj p l = -1
 | [],_=>rfl
 | x :: l,h=>by
   have:=wk (l:=l) fun y hy=>h y (by simp [hy])
   simp [xj,h x (by simp),this]
theorem kC {α:Type} (p:α → Bool) : ∀ (l:List α),(xj p l = -1 ∧ ∀ x,x ∈ l → p x = false) ∨ ∃ (k:Nat) (h:k < l.length),xj p l = k ∧ (∀ x,x ∈ l.take k → p x = false) ∧ p l[k] = true
 | [] => .inl ⟨rfl,by simp⟩
 | x :: l=>by
   by_cases hx:p x = true
   ·exact .inr ⟨0,by simp,by simp [xj,hx],by simp,by simpa using hx⟩
   ·have hx:p x = false:=by simpa using hx
    rcases kC p l with ⟨h1,h2⟩|⟨k,hk,h1,h2,h3⟩
    ·exact .inl ⟨by simp [xj,hx,h1],by simpa [hx] using h2⟩
    ·refine .inr ⟨k + 1,by simpa using hk,?_,?_,by simpa using h3⟩
     ·simp only [xj,hx,Bool.false_eq_true,if_false,h1]
      rw [if_neg (by omega)];omega
     ·intro y hy
      simp only [List.take_succ_cons,List.mem_cons] at hy
      rcases hy with rfl|hy
      ·exact hx
      ·exact h2 y hy
theorem Xh {α:Type} (p:α → Bool) (l:List α):decide (0 ≤ xj p l) = l.any p:=by
 rcases kC p l with ⟨h1,h2⟩|⟨k,hk,h1,h2,h3⟩
 ·rw [h1,eq_comm,show decide ((0:Int) ≤ -1) = false from rfl,List.any_eq_false]
  intro x hx
  simp [h2 x hx]
 ·rw [h1,eq_comm,show decide ((0:Int) ≤ (k:Int)) = true from decide_eq_true (by omega),List.any_eq_true]
  exact ⟨l[k],List.getElem_mem _,h3⟩
theorem ya {α:Type} {l:List α} {k:Nat} (hk:k < l.length) {p:α → Prop} (h : ∀ x,x ∈ l.take k → p x) (hx:p l[k]) : ∀ x,x ∈ l.take (k + 1) → p x:=by
 intro x hm
 rw [List.take_succ_eq_append_getElem hk] at hm
 rcases List.mem_append.1 hm with hm|hm
 ·exact h x hm
 ·simp at hm;exact hm ▸ hx
end Go.Proofs.YtamejbkifpjhiaaGreatDoor
set_option linter.unusedSimpArgs false
set_option linter.unnecessarySimpa false
namespace Go.Proofs.YtamejbkifpjhiaaGreatDoor
open Go.Op
def wS (a b:qP):Int:=if Op.bytesLess a b = true then -1 else if (!(Op.bytesLess a b || decide (a = b))) = true then 1 else 0
theorem wN : ∀ (a b:List UInt8),(bytesLess a b = true ∧ bytesLess b a = false ∧ a ≠ b) ∨ (a = b ∧ bytesLess a b = false ∧ bytesLess b a = false) ∨ (bytesLess b a = true ∧ bytesLess a b = false ∧ a ≠ b)
 | [],[] => .inr (.inl ⟨rfl,rfl,rfl⟩)
 | [],b :: y => .inl ⟨rfl,rfl,by simp⟩
 | a :: x,[] => .inr (.inr ⟨rfl,rfl,by simp⟩)
 | a :: x,b :: y=>by
   simp only [bytesLess]
   by_cases h1:a < b
   ·have h2:¬ b < a:=by rw [UInt8.lt_iff_toNat_lt] at *;omega
    have h3:a ≠ b:=by rintro rfl;exact h2 h1
    have h4:b ≠ a:=fun h=>h3 h.symm
    exact .inl (by simp [h1,h2,h3,h4])
   ·by_cases h2:b < a
    ·have h3:a ≠ b:=by rintro rfl;exact h1 h2
     have h4:b ≠ a:=fun h=>h3 h.symm
     exact .inr (.inr (by simp [h1,h2,h3,h4]))
    ·have h3:a = b:=by
      have:a.toNat = b.toNat:=by rw [UInt8.lt_iff_toNat_lt] at *;omega
      exact UInt8.toNat.inj this
     subst h3
     simp only [h1,decide_false,Bool.false_or,beq_self_eq_true,Bool.true_and,List.cons.injEq,true_and,ne_eq]
     exact wN x y
theorem kw : ∀ {a b c:List UInt8},bytesLess a b = true → bytesLess b c = true → bytesLess a c = true
 | _,_,[],_,h=>by cases ‹List UInt8›<;>simp [bytesLess] at h
 | a,[],_ :: _,h,_=>by cases a<;>simp [bytesLess] at h
 | [],_ :: _,_ :: _,_,_=>rfl
 | a :: x,b :: y,c :: z,h1,h2=>by
   simp only [bytesLess,Bool.or_eq_true,Bool.and_eq_true,decide_eq_true_eq,beq_iff_eq,UInt8.lt_iff_toNat_lt] at *
   rcases h1 with h1|⟨rfl,h1⟩
   ·rcases h2 with h2|⟨rfl,h2⟩
    ·exact .inl (by omega)
    ·exact .inl h1
   ·rcases h2 with h2|⟨rfl,h2⟩
    ·exact .inl h2
    ·exact .inr ⟨rfl,kw h1 h2⟩
theorem vD (a:List UInt8):bytesLess a a = false:=by
 rcases wN a a with h|h|h
 ·exact absurd rfl h.2.2
 ·exact h.2.1
 ·exact absurd rfl h.2.2
theorem Zg (a b:qP):wS a b < 0 ↔ bytesLess a b = true:=by
 unfold wS;rcases wN a b with ⟨h1,h2,h3⟩|⟨rfl,h2,h3⟩|⟨h1,h2,h3⟩<;>simp [*]
theorem X0 (a b:qP):wS a b = 0 ↔ a = b:=by
 unfold wS;rcases wN a b with ⟨h1,h2,h3⟩|⟨rfl,h2,h3⟩|⟨h1,h2,h3⟩<;>simp [*]
theorem qam (a:qP):wS a a = 0:=(X0 a a).2 rfl
def jK {α:Type} (f:α → Int):List α → Int
 | []=>0
 | x :: l=>if f x = 0 then jK f l else f x
def qU {α:Type} (lt:α → α → Bool):List α → Bool
 | []=>true
 | x :: l=>(match l with | []=>true|y :: _=>lt x y) && qU lt l
theorem xU {α:Type} {f:α → Int} : ∀ {l:List α},jK f l = 0 ↔ ∀ x,x ∈ l → f x = 0
 | []=>by simp [jK]
 | x :: l=>by
   simp only [jK,List.mem_cons,forall_eq_or_imp]
   by_cases h:f x = 0
   ·simp [h,xU (l:=l)]
   ·simp [h]
theorem XN {α:Type} {f:α → Int} {l:List α} {k:Nat} (hk:k < l.length) (h : ∀ x,x ∈ l.take k → f x = 0) (he:f l[k] ≠ 0):jK f l = f l[k]:=by
 induction l generalizing k with
 | nil=>simp at hk
 | cons x l ih =>
   cases k with
   | zero=>simp only [jK,List.getElem_cons_zero] at he ⊢;rw [if_neg he]
   | succ k =>
     have hx:f x = 0:=h x (by simp)
     simp only [jK,hx,if_true,List.getElem_cons_succ]
     exact ih (by simpa using hk) (fun y hy=>h y (by simp [hy])) (by simpa using he)
theorem zL {α:Type} {lt:α → α → Bool} : ∀ {l:List α},qU lt l = true ↔ ∀ (k:Nat) (h:k + 1 < l.length),lt (l[k]'(by omega)) l[k + 1] = true
 | []=>by simp [qU]
 | [x]=>by simp [qU]
 | x :: y :: l=>by
   have ih:=zL (lt:=lt) (l:=y :: l)
   simp only [qU,Bool.and_eq_true] at ih ⊢
   constructor
   ·rintro ⟨h1,h2⟩ k hk
    cases k with
    | zero=>exact h1
    | succ k=>exact ih.1 h2 k (by simpa using hk)
   ·intro h
    exact ⟨h 0 (by simp),ih.2 fun k hk=>h (k + 1) (by simpa using hk)⟩
structure Ent where
 path:qP
 fold:Bool
 text:qP
 ver:Int
 deriving DecidableEq
structure Chg where
 kind:Int
 path:qP
 to:qP
 text:qP
 base:Int
 deriving DecidableEq
def jf (a b:Ent):Bool:=bytesLess a.path b.path
def atP (p:qP) (x:Ent):Bool:=decide (x.path = p)
def xg (t:List Ent) (p:qP):Nat:=(t.takeWhile (fun x=>bytesLess x.path p)).length
def j0 (t:List Ent) (p:qP):Bool:=t.any (atP p)
def vj (n:Int):Bool:=decide (1 ≤ n) && decide (n ≤ 1000000)
def y9 (e:Ent):Int:=if qH e.path = 0 then (if e.fold = true ∧ ¬ e.text = [] then 1 else if 300 < e.text.length then 2 else if vj e.ver = true then 0 else 3) else qH e.path
def ym (t:List Ent) (q:qP):Int:=if q = [] then 0 else match t.find? (atP q) with|none=>5|some x=>if x.fold = true then 0 else 4
def yN (t:List Ent) (x:Ent):Int:=ym t (qJ x.path)
def qC (t:List Ent):Int :=
 if 60 < t.length then 2
 else if jK y9 t = 0 then
  if qU jf t = true then
   if t.any (fun x=>decide (yN t x = 5)) = true then 5
   else if t.any (fun x=>decide (¬ yN t x = 0)) = true then 4 else 0
  else 4
 else jK y9 t
theorem vZ {t:List Ent} (h:qU jf t = true) : ∀ (j k:Nat) (hj:j < t.length) (hk:k < t.length),j < k → bytesLess t[j].path t[k].path = true:=by
 intro j k hj hk hjk
 induction k with
 | zero=>omega
 | succ k ih =>
   have h1:bytesLess t[k].path t[k + 1].path = true:=zL.1 h k hk
   by_cases e:j = k
   ·subst e;exact h1
   ·exact kw (ih (by omega) (by omega)) h1
theorem jJ {t:List Ent}:qU jf t = true ↔ t.Pairwise (fun a b=>bytesLess a.path b.path = true):=by
 rw [List.pairwise_iff_getElem]
 constructor
 ·intro h i j hi hj hij
  exact vZ h i j hi hj hij
 ·intro h
  exact zL.2 fun k hk=>h k (k + 1) (by omega) hk (by omega)
theorem KD {p:qP} : ∀ {t:List Ent} {k:Nat},k ≤ t.length → (∀ (j:Nat) (h:j < t.length),j < k → bytesLess t[j].path p = true) → (∀ (h:k < t.length),bytesLess t[k].path p = false) → xg t p = k
 | [],k,hk,_,_=>by simp at hk;simp [xg,hk]
 | x :: l,0,hk,_,h2=>by
   have:=h2 (by simp)
   simp only [List.getElem_cons_zero] at this
   simp [xg,List.takeWhile_cons,this]
 | x :: l,k + 1,hk,h1,h2=>by
   have hx:bytesLess x.path p = true:=h1 0 (by simp) (by omega)
   have:=KD (t:=l) (k:=k) (by simpa using hk) (fun j h hj=>h1 (j + 1) (by simpa using h) (by omega)) (fun h=>h2 (by simpa using h))
   simp only [xg] at this
   simp [xg,List.takeWhile_cons,hx,this]
theorem qfz (t:List Ent) (p:qP):xg t p ≤ t.length:=by
 induction t with
 | nil=>simp [xg]
 | cons x l ih=>simp only [xg,List.takeWhile_cons] at *;split<;>simp<;>omega
theorem qb0 {t:List Ent} {p:qP} (hs:qU jf t = true) {k:Nat} (hk:k < t.length) (he:t[k].path = p):xg t p = k:=by
 refine KD (by omega) (fun j hj hjk=>?_) (fun _=>?_)
 ·rw [← he];exact vZ hs j k hj hk hjk
 ·rw [← he];exact vD _
theorem WA {t:List Ent} {p:qP} (hs:qU jf t = true):j0 t p = (match t[xg t p]? with|some x=>decide (wS x.path p = 0)|none=>false):=by
 rcases kC (atP p) t with ⟨_,h2⟩|⟨k,hk,_,_,h3⟩
 ·have:j0 t p = false:=List.any_eq_false.2 (fun x hx=>by rw [h2 x hx];simp)
  rw [this]
  split
  ·rename_i x hx
   have hm:=List.mem_of_getElem? hx
   have:=h2 x hm
   rw [eq_comm,decide_eq_false_iff_not,X0]
   simpa [atP] using this
  ·rfl
 ·have he:t[k].path = p:=by simpa [atP] using h3
  have:j0 t p = true:=List.any_eq_true.2 ⟨t[k],List.getElem_mem _,h3⟩
  rw [this,qb0 hs hk he,List.getElem?_eq_getElem hk]
  simp [he,qam]
theorem zw {t:List Ent} {p:qP} (hs:qU jf t = true) (h:j0 t p = true) : ∃ hk:xg t p < t.length,t[xg t p].path = p ∧ t.find? (atP p) = some t[xg t p] ∧ xj (atP p) t = xg t p:=by
 obtain ⟨x,hx,hk⟩:=List.any_eq_true.1 h
 obtain ⟨k,hkl,rfl⟩:=List.getElem_of_mem hx
 have he:t[k].path = p:=by simpa [atP] using hk
 have hp:=qb0 hs hkl he
 have hbef : ∀ j (hj:j < k),atP p (t[j]'(by omega)) = false:=fun j hj=>by
  have h1:=vZ hs j k (by omega) hkl hj
  have:¬ t[j].path = p:=fun e=>by rw [e,he,vD] at h1;cases h1
  simp [atP,this]
 refine ⟨by omega,by simp only [hp];exact he,?_,?_⟩
 ·simp only [hp]
  rw [List.find?_eq_some_iff_getElem]
  exact ⟨hk,k,hkl,rfl,fun j hj=>by rw [hbef j hj];rfl⟩
 ·rw [hp]
  refine Q6 hkl (fun x hx=>?_) hk
  obtain ⟨j,hj,rfl⟩:=List.getElem_of_mem hx
  rw [List.getElem_take]
  exact hbef j (by simp at hj;omega)
theorem xO {t:List Ent} {p:qP} (h:j0 t p = false):t.find? (atP p) = none ∧ xj (atP p) t = -1:=by
 have h1:=List.any_eq_false.1 h
 exact ⟨List.find?_eq_none.2 h1,wk fun x hx=>by simpa using h1 x hx⟩
theorem J4 {α:Type} (p:α → Bool) (l:List α):(xj p l = -1 ∧ l.find? p = none) ∨ ∃ (k:Nat) (h:k < l.length),xj p l = k ∧ l.find? p = some l[k]:=by
 rcases kC p l with ⟨h1,h2⟩|⟨k,hk,h1,h2,h3⟩
 ·exact .inl ⟨h1,List.find?_eq_none.2 fun x hx=>by rw [h2 x hx];simp⟩
 ·refine .inr ⟨k,hk,h1,?_⟩
  rw [List.find?_eq_some_iff_getElem]
  refine ⟨h3,k,hk,rfl,fun j hj=>?_⟩
  rw [h2 _ (List.mem_take_iff_getElem.2 ⟨j,by omega,rfl⟩)];rfl
end Go.Proofs.YtamejbkifpjhiaaGreatDoor
