import Derived.WalkKit
namespace Go.Proofs.YtnhpclmbhbblbaaGreatDoor
open Go.RowKit
abbrev qJ:=List UInt8
structure Sess where
 number:Int
 who:qJ
 text:qJ
 size:Int
 till:Int
 deriving DecidableEq
def Sess.cells (s:Sess):List Value:=[.int .i64 s.number,.string ⟨s.who.toArray⟩,.string ⟨s.text.toArray⟩,.int .i64 s.size,.int .i64 s.till]
structure Upl where
 sess:List Sess
 next:Int
 lasts:Int
 room:Int
 deriving DecidableEq
structure Gra where
 folder:qJ
 who:qJ
 right:Int
 deriving DecidableEq
def Gra.cells (s:Gra):List Value:=[.string ⟨s.folder.toArray⟩,.string ⟨s.who.toArray⟩,.int .i64 s.right]
def YC (c:UInt8):Bool :=
 (97 ≤ c.toNat && c.toNat ≤ 122) || (65 ≤ c.toNat && c.toNat ≤ 90) || (48 ≤ c.toNat && c.toNat ≤ 57) || c.toNat == 45 || c.toNat == 95 || c.toNat == 46 || c.toNat == 40 || c.toNat == 41 || c.toNat == 32
def jF (s:qJ):Bool := !s.isEmpty && decide (s.length ≤ 20) && s != [46] && s != [46,46] && s.head? != some 32 && s.getLast? != some 32 && s.all YC
def Sl {α:Type} (c:α → List Value) (sz:Nat) (w:World) (B:Nat) (v:Value) (l:List α):Prop :=
 ∃ A cap,v = .slice A l.length cap ∧ l.length ≤ cap ∧ cap ≤ maxLen ∧ ∀ k (h:k < l.length), ∃ b off,A = some ⟨b,off,none⟩ ∧ b < B ∧
   ∀ j u,(c l[k])[j]? = some u → w.cell? ⟨b,off + k * sz + j,none⟩ = some u
section
variable {α:Type} {c:α → List Value} {sz:Nat} {w w' : World} {B B' : Nat} {v:Value} {l:List α}
theorem Sl.nil:Sl c sz w B (.slice none 0 0) []:=⟨none,0,rfl,Nat.le_refl _,Nat.zero_le _,fun k h=>absurd h (Nat.not_lt_zero k)⟩
theorem Sl.keep (h:Sl c sz w B v l) (hk : ∀ p:Addr,p.block < B → w'.cell? p = w.cell? p):Sl c sz w' B v l:=by
 obtain ⟨A,cap,hv,h1,h2,h3⟩:=h
 refine ⟨A,cap,hv,h1,h2,fun k hkl=>?_⟩
 obtain ⟨b,off,hA,hB,hc⟩:=h3 k hkl
 exact ⟨b,off,hA,hB,fun j u hu=>(hk ⟨b,off + k * sz + j,none⟩ hB).trans (hc j u hu)⟩
theorem Sl.more (h:Sl c sz w B v l) (hB:B ≤ B'):Sl c sz w B' v l:=by
 obtain ⟨A,cap,hv,h1,h2,h3⟩:=h
 refine ⟨A,cap,hv,h1,h2,fun k hkl=>?_⟩
 obtain ⟨b,off,hA,hb,hc⟩:=h3 k hkl
 exact ⟨b,off,hA,by omega,hc⟩
theorem Sl.below (h:Sl c sz w B v l) (hb:Below B w w'):Sl c sz w' B v l:=h.keep fun _ hp=>hb.cell hp
theorem Sl.at (h:Sl c sz w B v l) {A:Option Addr} {n cap:Nat} (hv:v = .slice A n cap) {k:Nat} (hk:k < l.length) :
  ∃ b off,A = some ⟨b,off,none⟩ ∧ b < B ∧ ∀ j u,(c l[k])[j]? = some u → w.cell? ⟨b,off + k * sz + j,none⟩ = some u:=by
 obtain ⟨A',cap',hv',_,_,h3⟩:=h
 rw [hv] at hv'
 injection hv' with e1 e2 e3
 subst e1
 exact h3 k hk
end
theorem Sl.sess {w:World} {B:Nat} {A:Option Addr} {n cap:Nat} {l:List Sess} (h:Sl Sess.cells 5 w B (.slice A n cap) l) {k:Nat} (hk:k < l.length) :
  ∃ b off,A = some ⟨b,off,none⟩ ∧ b < B ∧ w.cell? ⟨b,off + k * 5,none⟩ = some (.int .i64 l[k].number) ∧ w.cell? ⟨b,off + k * 5 + 1,none⟩ = some (.string ⟨l[k].who.toArray⟩) ∧
    w.cell? ⟨b,off + k * 5 + 2,none⟩ = some (.string ⟨l[k].text.toArray⟩) ∧ w.cell? ⟨b,off + k * 5 + 3,none⟩ = some (.int .i64 l[k].size) ∧ w.cell? ⟨b,off + k * 5 + 4,none⟩ = some (.int .i64 l[k].till):=by
 obtain ⟨b,off,hA,hB,hc⟩:=h.at rfl hk
 exact ⟨b,off,hA,hB,hc 0 _ rfl,hc 1 _ rfl,hc 2 _ rfl,hc 3 _ rfl,hc 4 _ rfl⟩
theorem JT {α:Type} {l:List α} {k:Nat} (h:k < l.length):l.take (k + 1) = l.take k ++ [l[k]]:=by
 rw [List.take_succ_eq_append_getElem h]
end Go.Proofs.YtnhpclmbhbblbaaGreatDoor
set_option linter.unusedSimpArgs false
set_option linter.unnecessarySimpa false
namespace Go.Proofs.YtnhpclmbhbblbaaGreatDoor
def qn:qJ → List qJ
 | [] => [[]]
 | c :: s=>if c = 47 then [] :: qn s else match qn s with | [] => [[c]]|n :: l=>(c :: n) :: l
def jQ:List qJ → qJ
 | [] => []
 | [n]=>n
 | n :: l=>n ++ 47 :: jQ l
theorem yI (p:qJ):qn p ≠ []:=by
 cases p with
 | nil=>simp [qn]
 | cons c s=>simp only [qn];split<;>(try split)<;>simp
theorem j5 : ∀ {a:qJ},(47:UInt8) ∉ a → qn a = [a]
 | [],_=>rfl
 | c :: s,h=>by
   have hc:c ≠ 47:=fun e=>h (by simp [e])
   have hs:(47:UInt8) ∉ s:=fun e=>h (by simp [e])
   simp [qn,hc,j5 hs]
theorem zc : ∀ {a:qJ} (b:qJ),(47:UInt8) ∉ a → qn (a ++ 47 :: b) = a :: qn b
 | [],b,_=>by simp [qn]
 | c :: s,b,h=>by
   have hc:c ≠ 47:=fun e=>h (by simp [e])
   have hs:(47:UInt8) ∉ s:=fun e=>h (by simp [e])
   simp [qn,hc,zc b hs]
theorem zY : ∀ (p:qJ), ∀ n,n ∈ qn p → (47:UInt8) ∉ n
 | [],n,h=>by simp [qn] at h;subst h;simp
 | c :: s,n,h=>by
   have ih:=zY s
   simp only [qn] at h
   split at h
   ·rcases List.mem_cons.1 h with rfl|h
    ·simp
    ·exact ih n h
   ·rename_i hc
    split at h
    ·simp at h;subst h;simpa using fun e=>hc e.symm
    ·rename_i m l hm
     rcases List.mem_cons.1 h with rfl|h
     ·have:=ih m (by rw [hm];simp)
      simp only [List.mem_cons,not_or];exact ⟨fun e=>hc e.symm,this⟩
     ·exact ih n (by rw [hm];simp [h])
theorem x5 {n:qJ} {l:List qJ} (h:l ≠ []):jQ (n :: l) = n ++ 47 :: jQ l:=by
 cases l with
 | nil=>exact absurd rfl h
 | cons m l=>rfl
theorem yl : ∀ (p:qJ),jQ (qn p) = p
 | []=>rfl
 | c :: s=>by
   have ih:=yl s
   have hne:=yI s
   simp only [qn]
   split
   ·rename_i hc;subst hc
    rw [x5 hne,ih];rfl
   ·split
    ·rename_i h;exact absurd h hne
    ·rename_i n l h
     rw [h] at ih
     cases l with
     | nil=>simp only [jQ] at ih ⊢;rw [ih]
     | cons m l=>rw [x5 (by simp)] at ih ⊢;rw [← ih];rfl
theorem kf : ∀ {l:List qJ},l ≠ [] → (∀ n,n ∈ l → (47:UInt8) ∉ n) → qn (jQ l) = l
 | [],h,_=>absurd rfl h
 | [n],_,hf=>j5 (hf n (by simp))
 | n :: m :: l,_,hf=>by
   rw [x5 (by simp),zc _ (hf n (by simp)),kf (by simp) fun x hx=>hf x (by simp [hx])]
theorem zx (p:qJ):(qn p).length = p.count 47 + 1:=by
 induction p with
 | nil=>rfl
 | cons c s ih =>
   have hne:=yI s
   simp only [qn]
   split
   ·rename_i hc;subst hc;simp [ih]
   ·rename_i hc
    rw [List.count_cons_of_ne (fun e=>hc e)]
    split
    ·rename_i h;exact absurd h hne
    ·rename_i n l h;rw [h] at ih;exact ih
theorem xL (a b:qJ):qn (a ++ 47 :: b) = qn a ++ qn b:=by
 induction a with
 | nil=>simp [qn]
 | cons c s ih =>
   have hne:=yI s
   simp only [List.cons_append,qn,ih]
   split
   ·rfl
   ·split
    ·rename_i h;exact absurd (List.append_eq_nil_iff.1 h).1 hne
    ·rename_i n l h
     split
     ·rename_i h';exact absurd h' hne
     ·rename_i n' l' h'
      rw [h'] at h
      simp only [List.cons_append,List.cons.injEq] at h
      obtain ⟨rfl,rfl⟩:=h;rfl
theorem kx {a b:List qJ} (ha:a ≠ []) (hb:b ≠ []):jQ (a ++ b) = jQ a ++ 47 :: jQ b:=by
 induction a with
 | nil=>exact absurd rfl ha
 | cons n l ih =>
   cases l with
   | nil=>rw [List.singleton_append,x5 hb];rfl
   | cons m l=>rw [List.cons_append,x5 (l:=m :: l ++ b) (by simp),ih (by simp),x5 (n:=n) (l:=m :: l) (by simp)];simp
theorem XL (p q:qJ):qn q <+: qn p ↔ p = q ∨ (q ++ [47]) <+: p:=by
 constructor
 ·rintro ⟨t,ht⟩
  cases t with
  | nil =>
    left
    rw [List.append_nil] at ht
    rw [← yl p, ← ht,yl]
  | cons n t =>
    right
    have h:=yl p
    rw [← ht,kx (yI q) (by simp),yl] at h
    exact ⟨jQ (n :: t),by rw [List.append_assoc];exact h⟩
 ·rintro (rfl|⟨t,ht⟩)
  ·exact List.prefix_refl _
  ·rw [← ht,List.append_assoc]
   exact ⟨qn t,by rw [← xL];rfl⟩
def jE (c:UInt8):qJ → Int
 | [] => -1
 | x :: l=>if 0 ≤ jE c l then jE c l + 1 else if x = c then 0 else -1
theorem xN {c:UInt8} : ∀ {p:qJ},c ∉ p → jE c p = -1
 | [],_=>rfl
 | x :: l,h=>by
   have h1:¬ x = c:=fun e=>h (by simp [e])
   have h2:=xN (c:=c) (p:=l) fun e=>h (by simp [e])
   simp [jE,h2,h1]
theorem zj {c:UInt8} : ∀ {a b:qJ},c ∉ b → jE c (a ++ c :: b) = a.length
 | [],b,h=>by simp [jE,xN h]
 | x :: a,b,h=>by
   have h2:=zj (a:=a) h
   simp only [List.cons_append,jE,h2,List.length_cons]
   rw [if_pos (by omega)];omega
theorem kC {c:UInt8} : ∀ (p:qJ),c ∉ p ∨ ∃ a b,p = a ++ c :: b ∧ c ∉ b
 | [] => .inl (by simp)
 | x :: l=>by
   rcases kC (c:=c) l with h|⟨a,b,h1,h2⟩
   ·by_cases e:x = c
    ·exact .inr ⟨[],l,by simp [e],h⟩
    ·exact .inl (by simp only [List.mem_cons,not_or];exact ⟨fun h=>e h.symm,h⟩)
   ·exact .inr ⟨x :: a,b,by simp [h1],h2⟩
theorem ZF {c:UInt8} {p:qJ} {k:Nat} (hk:k < p.length) (he:p[k] = c) (h:c ∉ p.drop (k + 1)):jE c p = k:=by
 have h1:p = p.take k ++ c :: p.drop (k + 1):=by rw [← he, ← List.drop_eq_getElem_cons hk,List.take_append_drop]
 rw [h1,zj h,List.length_take,Nat.min_eq_left (by omega)]
theorem zh (c:UInt8) (p:qJ) : -1 ≤ jE c p ∧ jE c p < p.length:=by
 rcases kC (c:=c) p with h|⟨a,b,h1,h2⟩
 ·rw [xN h];omega
 ·rw [h1,zj h2];simp;omega
def qO (p:qJ):qJ:=p.take (jE 47 p).toNat
def qK (p:qJ):qJ:=p.drop (jE 47 p + 1).toNat
theorem xH (p:qJ):qn p = (qn p).dropLast ++ [qK p] ∧ jQ (qn p).dropLast = qO p:=by
 rcases kC (c:=47) p with h|⟨a,b,h1,h2⟩
 ·rw [j5 h,qK,qO,xN h]
  exact ⟨by simp,rfl⟩
 ·have h3:=zj (a:=a) h2
  have h4:qK p = b:=by
   rw [qK,h1,h3,show ((a.length:Int) + 1).toNat = a.length + 1 from by omega]
   rw [List.drop_append,List.drop_of_length_le (by omega),List.nil_append,show a.length + 1 - a.length = 1 from by omega];rfl
  have h5:qO p = a:=by
   rw [qO,h1,h3,show (a.length:Int).toNat = a.length from by omega,List.take_left]
  have h6:qn p = qn a ++ [b]:=by rw [h1,xL,j5 h2]
  rw [h4,h5,h6]
  exact ⟨by simp,by simp [yl]⟩
def jT (p:qJ):Bool:=decide (6 < (qn p).length) || decide (80 < p.length)
def qE (p:qJ):Int:=if (qn p).all jF then (if jT p then 2 else 0) else 1
theorem kP (p:qJ):jT p = (decide (6 ≤ p.count 47) || decide (80 < p.length)):=by
 unfold jT
 rw [zx]
 congr 1
 simp only [decide_eq_decide];omega
def yz:List qJ → Int
 | []=>0
 | p :: l=>if qE p = 0 then yz l else qE p
def vn (p n:qJ):qJ:=if p = [] then n else p ++ 47 :: n
def X5 (p q:qJ):Bool:=decide (p = q) || (q ++ [47]).isPrefixOf p
theorem ZV (p q:qJ):X5 p q = (qn q).isPrefixOf (qn p):=by
 rw [Bool.eq_iff_iff,List.isPrefixOf_iff_prefix,XL]
 simp [X5]
theorem Kz {p f t:qJ} (h:X5 p f = true):jQ (qn t ++ (qn p).drop (qn f).length) = t ++ p.drop f.length:=by
 simp only [X5,Bool.or_eq_true,decide_eq_true_eq,List.isPrefixOf_iff_prefix] at h
 rcases h with rfl|⟨s,rfl⟩
 ·rw [List.drop_of_length_le (Nat.le_refl _),List.drop_of_length_le (Nat.le_refl _),List.append_nil,List.append_nil,yl]
 ·rw [List.append_assoc]
  show jQ (qn t ++ (qn (f ++ 47 :: s)).drop (qn f).length) = _
  rw [xL,List.drop_left,kx (yI _) (yI _),yl,yl]
  congr 1
  rw [List.drop_left];rfl
def x3 (s:qJ):qJ:=(s.reverse.dropWhile (· == 32)).reverse
theorem wN (s:qJ) (c:UInt8):x3 (s ++ [c]) = if c = 32 then x3 s else s ++ [c]:=by
 unfold x3
 rw [List.reverse_append]
 by_cases h:c = 32
 ·simp [h]
 ·simp [h,List.dropWhile_cons]
def vJ (n:Int):qJ:=if n < 10 then [UInt8.ofNat (48 + n.toNat)] else [UInt8.ofNat (48 + n.toNat / 10),UInt8.ofNat (48 + n.toNat % 10)]
def xj (n:Int):qJ:=[32,40] ++ vJ n ++ [41]
def y3 (s:qJ):qJ:=if 0 < jE 46 s then s.take (jE 46 s).toNat else s
def x2 (s:qJ):qJ:=if 0 < jE 46 s then s.drop (jE 46 s).toNat else []
def vm (s:qJ) (n:Int):Int:=20 - (xj n).length - (x2 s).length
def xD (s:qJ) (n:Int):qJ:=if vm s n < (y3 s).length then x3 ((y3 s).take (vm s n).toNat) else y3 s
def jK (p:qJ) (n:Int):qJ:=vn (qO p) (xD (qK p) n ++ xj n ++ x2 (qK p))
def xw (p:qJ) (n:Int):Int:=if xD (qK p) n = [] then 2 else if jT (jK p n) then 2 else 0
theorem wu (s:qJ):qn (s ++ [47]) = qn s ++ [[]]:=xL s []
theorem Qd {c:UInt8} (h:¬ c = 47) (s:qJ):qn (s ++ [c]) = (qn s).dropLast ++ [qK s ++ [c]]:=by
 rcases kC (c:=47) s with hs|⟨a,b,h1,h2⟩
 ·have h3:(47:UInt8) ∉ s ++ [c]:=by simp only [List.mem_append,List.mem_singleton,not_or];exact ⟨hs,fun e=>h e.symm⟩
  rw [j5 h3,j5 hs,qK,xN hs];rfl
 ·have h3:(47:UInt8) ∉ b ++ [c]:=by simp only [List.mem_append,List.mem_singleton,not_or];exact ⟨h2,fun e=>h e.symm⟩
  have h4:=(xH s).1
  have h5:qn s = qn a ++ [b]:=by rw [h1,xL,j5 h2]
  have h6:qK s = b:=by
   rw [h5] at h4
   simp only [List.dropLast_concat] at h4
   have:=List.append_cancel_left h4
   simpa using this.symm
  rw [h6,h5,h1,List.append_assoc]
  show qn (a ++ 47 :: (b ++ [c])) = _
  rw [xL,j5 h3,List.dropLast_concat]
theorem YD (s:qJ):(qK s).length ≤ s.length ∧ s.drop (s.length - (qK s).length) = qK s:=by
 unfold qK
 refine ⟨by simp,?_⟩
 rw [List.length_drop]
 by_cases h:(jE 47 s + 1).toNat ≤ s.length
 ·congr 1;omega
 ·have:=zh 47 s;omega
theorem Jb {l:List qJ} {i:Nat} (h:i < l.length) (h0:0 < i):jQ (l.take (i + 1)) = jQ (l.take i) ++ [47] ++ l[i]:=by
 rw [List.take_succ_eq_append_getElem h,kx (by intro e;rw [List.take_eq_nil_iff] at e;rcases e with e|e<;>simp_all) (by simp)]
 simp [jQ]
theorem Qt {l:List qJ} (h:0 < l.length):jQ (l.take 1) = l[0]:=by
 cases l with
 | nil=>simp at h
 | cons x l=>simp [jQ]
end Go.Proofs.YtnhpclmbhbblbaaGreatDoor
set_option linter.unusedSimpArgs false
namespace Go.Proofs.YtnhpclmbhbblbaaGreatDoor
def xh {α:Type} (p:α → Bool):List α → Int
 | [] => -1
 | x :: l=>if p x then 0 else if xh p l < 0 then -1 else xh p l + 1
theorem Yt {α:Type} {p:α → Bool} : ∀ {l:List α} {k:Nat} (hk:k < l.length),(∀ x,x ∈ l.take k → p x = false) → p l[k] = true → xh p l = k
 | x :: l,0,hk,_,hp=>by simp only [List.getElem_cons_zero] at hp;simp [xh,hp]
 | x :: l,k + 1,hk,h,hp=>by
   have hx:p x = false:=h x (by simp)
   have:=Yt (l:=l) (k:=k) (by simpa using hk) (fun y hy=>h y (by simp [hy])) (by simpa using hp)
   simp only [xh,hx,Bool.false_eq_true,if_false,this]
   rw [if_neg (by omega)];omega
theorem wU {α:Type} {p:α → Bool} : ∀ {l:List α},(∀ x,x ∈ l → p x = false) → xh p l = -1
 | [],_=>rfl
 | x :: l,h=>by
   have:=wU (l:=l) fun y hy=>h y (by simp [hy])
   simp [xh,h x (by simp),this]
theorem zE {α:Type} (p:α → Bool) : ∀ (l:List α),(xh p l = -1 ∧ ∀ x,x ∈ l → p x = false) ∨ ∃ (k:Nat) (h:k < l.length),xh p l = k ∧ (∀ x,x ∈ l.take k → p x = false) ∧ p l[k] = true
 | [] => .inl ⟨rfl,by simp⟩
 | x :: l=>by
   by_cases hx:p x = true
   ·exact .inr ⟨0,by simp,by simp [xh,hx],by simp,by simpa using hx⟩
   ·have hx:p x = false:=by simpa using hx
    rcases zE p l with ⟨h1,h2⟩|⟨k,hk,h1,h2,h3⟩
    ·exact .inl ⟨by simp [xh,hx,h1],by simpa [hx] using h2⟩
    ·refine .inr ⟨k + 1,by simpa using hk,?_,?_,by simpa using h3⟩
     ·simp only [xh,hx,Bool.false_eq_true,if_false,h1]
      rw [if_neg (by omega)];omega
     ·intro y hy
      simp only [List.take_succ_cons,List.mem_cons] at hy
      rcases hy with rfl|hy
      ·exact hx
      ·exact h2 y hy
theorem Wj {α:Type} (p:α → Bool) (l:List α):decide (0 ≤ xh p l) = l.any p:=by
 rcases zE p l with ⟨h1,h2⟩|⟨k,hk,h1,h2,h3⟩
 ·rw [h1,eq_comm,show decide ((0:Int) ≤ -1) = false from rfl,List.any_eq_false]
  intro x hx
  simp [h2 x hx]
 ·rw [h1,eq_comm,show decide ((0:Int) ≤ (k:Int)) = true from decide_eq_true (by omega),List.any_eq_true]
  exact ⟨l[k],List.getElem_mem _,h3⟩
theorem ya {α:Type} {l:List α} {k:Nat} (hk:k < l.length) {p:α → Prop} (h : ∀ x,x ∈ l.take k → p x) (hx:p l[k]) : ∀ x,x ∈ l.take (k + 1) → p x:=by
 intro x hm
 rw [List.take_succ_eq_append_getElem hk] at hm
 rcases List.mem_append.1 hm with hm|hm
 ·exact h x hm
 ·simp at hm;exact hm ▸ hx
end Go.Proofs.YtnhpclmbhbblbaaGreatDoor
set_option linter.unusedSimpArgs false
set_option linter.unnecessarySimpa false
namespace Go.Proofs.YtnhpclmbhbblbaaGreatDoor
open Go.Op
def zH (a b:qJ):Int:=if Op.bytesLess a b = true then -1 else if (!(Op.bytesLess a b || decide (a = b))) = true then 1 else 0
theorem zG : ∀ (a b:List UInt8),(bytesLess a b = true ∧ bytesLess b a = false ∧ a ≠ b) ∨ (a = b ∧ bytesLess a b = false ∧ bytesLess b a = false) ∨ (bytesLess b a = true ∧ bytesLess a b = false ∧ a ≠ b)
 | [],[] => .inr (.inl ⟨rfl,rfl,rfl⟩)
 | [],b :: y => .inl ⟨rfl,rfl,by simp⟩
 | a :: x,[] => .inr (.inr ⟨rfl,rfl,by simp⟩)
 | a :: x,b :: y=>by
   simp only [bytesLess]
   by_cases h1:a < b
   ·have h2:¬ b < a:=by rw [UInt8.lt_iff_toNat_lt] at *;omega
    have h3:a ≠ b:=by rintro rfl;exact h2 h1
    have h4:b ≠ a:=fun h=>h3 h.symm
    exact .inl (by simp [h1,h2,h3,h4])
   ·by_cases h2:b < a
    ·have h3:a ≠ b:=by rintro rfl;exact h1 h2
     have h4:b ≠ a:=fun h=>h3 h.symm
     exact .inr (.inr (by simp [h1,h2,h3,h4]))
    ·have h3:a = b:=by
      have:a.toNat = b.toNat:=by rw [UInt8.lt_iff_toNat_lt] at *;omega
      exact UInt8.toNat.inj this
     subst h3
     simp only [h1,decide_false,Bool.false_or,beq_self_eq_true,Bool.true_and,List.cons.injEq,true_and,ne_eq]
     exact zG x y
theorem vX : ∀ {a b c:List UInt8},bytesLess a b = true → bytesLess b c = true → bytesLess a c = true
 | _,_,[],_,h=>by cases ‹List UInt8›<;>simp [bytesLess] at h
 | a,[],_ :: _,h,_=>by cases a<;>simp [bytesLess] at h
 | [],_ :: _,_ :: _,_,_=>rfl
 | a :: x,b :: y,c :: z,h1,h2=>by
   simp only [bytesLess,Bool.or_eq_true,Bool.and_eq_true,decide_eq_true_eq,beq_iff_eq,UInt8.lt_iff_toNat_lt] at *
   rcases h1 with h1|⟨rfl,h1⟩
   ·rcases h2 with h2|⟨rfl,h2⟩
    ·exact .inl (by omega)
    ·exact .inl h1
   ·rcases h2 with h2|⟨rfl,h2⟩
    ·exact .inl h2
    ·exact .inr ⟨rfl,vX h1 h2⟩
theorem vG (a:List UInt8):bytesLess a a = false:=by
 rcases zG a a with h|h|h
 ·exact absurd rfl h.2.2
 ·exact h.2.1
 ·exact absurd rfl h.2.2
theorem Yn (a b:qJ):zH a b < 0 ↔ bytesLess a b = true:=by
 unfold zH;rcases zG a b with ⟨h1,h2,h3⟩|⟨rfl,h2,h3⟩|⟨h1,h2,h3⟩<;>simp [*]
theorem Q0 (a b:qJ):zH a b = 0 ↔ a = b:=by
 unfold zH;rcases zG a b with ⟨h1,h2,h3⟩|⟨rfl,h2,h3⟩|⟨h1,h2,h3⟩<;>simp [*]
theorem VO (a:qJ):zH a a = 0:=(Q0 a a).2 rfl
def jd {α:Type} (f:α → Int):List α → Int
 | []=>0
 | x :: l=>if f x = 0 then jd f l else f x
def qY {α:Type} (lt:α → α → Bool):List α → Bool
 | []=>true
 | x :: l=>(match l with | []=>true|y :: _=>lt x y) && qY lt l
theorem xA {α:Type} {f:α → Int} : ∀ {l:List α},jd f l = 0 ↔ ∀ x,x ∈ l → f x = 0
 | []=>by simp [jd]
 | x :: l=>by
   simp only [jd,List.mem_cons,forall_eq_or_imp]
   by_cases h:f x = 0
   ·simp [h,xA (l:=l)]
   ·simp [h]
theorem Je {α:Type} {f:α → Int} {l:List α} {k:Nat} (hk:k < l.length) (h : ∀ x,x ∈ l.take k → f x = 0) (he:f l[k] ≠ 0):jd f l = f l[k]:=by
 induction l generalizing k with
 | nil=>simp at hk
 | cons x l ih =>
   cases k with
   | zero=>simp only [jd,List.getElem_cons_zero] at he ⊢;rw [if_neg he]
   | succ k =>
     have hx:f x = 0:=h x (by simp)
     simp only [jd,hx,if_true,List.getElem_cons_succ]
     exact ih (by simpa using hk) (fun y hy=>h y (by simp [hy])) (by simpa using he)
theorem vo {α:Type} {lt:α → α → Bool} : ∀ {l:List α},qY lt l = true ↔ ∀ (k:Nat) (h:k + 1 < l.length),lt (l[k]'(by omega)) l[k + 1] = true
 | []=>by simp [qY]
 | [x]=>by simp [qY]
 | x :: y :: l=>by
   have ih:=vo (lt:=lt) (l:=y :: l)
   simp only [qY,Bool.and_eq_true] at ih ⊢
   constructor
   ·rintro ⟨h1,h2⟩ k hk
    cases k with
    | zero=>exact h1
    | succ k=>exact ih.1 h2 k (by simpa using hk)
   ·intro h
    exact ⟨h 0 (by simp),ih.2 fun k hk=>h (k + 1) (by simpa using hk)⟩
structure Ent where
 path:qJ
 fold:Bool
 text:qJ
 ver:Int
 deriving DecidableEq
structure Chg where
 kind:Int
 path:qJ
 to:qJ
 text:qJ
 base:Int
 deriving DecidableEq
def jn (a b:Ent):Bool:=bytesLess a.path b.path
def atP (p:qJ) (x:Ent):Bool:=decide (x.path = p)
def x1 (t:List Ent) (p:qJ):Nat:=(t.takeWhile (fun x=>bytesLess x.path p)).length
def yJ (t:List Ent) (p:qJ):Bool:=t.any (atP p)
def zW (n:Int):Bool:=decide (1 ≤ n) && decide (n ≤ 1000000)
def yi (e:Ent):Int:=if qE e.path = 0 then (if e.fold = true ∧ ¬ e.text = [] then 1 else if 300 < e.text.length then 2 else if zW e.ver = true then 0 else 3) else qE e.path
def xI (t:List Ent) (q:qJ):Int:=if q = [] then 0 else match t.find? (atP q) with|none=>5|some x=>if x.fold = true then 0 else 4
def jU (t:List Ent) (x:Ent):Int:=xI t (qO x.path)
def qI (t:List Ent):Int :=
 if 60 < t.length then 2
 else if jd yi t = 0 then
  if qY jn t = true then
   if t.any (fun x=>decide (jU t x = 5)) = true then 5
   else if t.any (fun x=>decide (¬ jU t x = 0)) = true then 4 else 0
  else 4
 else jd yi t
theorem vp {t:List Ent} (h:qY jn t = true) : ∀ (j k:Nat) (hj:j < t.length) (hk:k < t.length),j < k → bytesLess t[j].path t[k].path = true:=by
 intro j k hj hk hjk
 induction k with
 | zero=>omega
 | succ k ih =>
   have h1:bytesLess t[k].path t[k + 1].path = true:=vo.1 h k hk
   by_cases e:j = k
   ·subst e;exact h1
   ·exact vX (ih (by omega) (by omega)) h1
theorem yP {t:List Ent}:qY jn t = true ↔ t.Pairwise (fun a b=>bytesLess a.path b.path = true):=by
 rw [List.pairwise_iff_getElem]
 constructor
 ·intro h i j hi hj hij
  exact vp h i j hi hj hij
 ·intro h
  exact vo.2 fun k hk=>h k (k + 1) (by omega) hk (by omega)
theorem Xt {p:qJ} : ∀ {t:List Ent} {k:Nat},k ≤ t.length → (∀ (j:Nat) (h:j < t.length),j < k → bytesLess t[j].path p = true) → (∀ (h:k < t.length),bytesLess t[k].path p = false) → x1 t p = k
 | [],k,hk,_,_=>by simp at hk;simp [x1,hk]
 | x :: l,0,hk,_,h2=>by
   have:=h2 (by simp)
   simp only [List.getElem_cons_zero] at this
   simp [x1,List.takeWhile_cons,this]
 | x :: l,k + 1,hk,h1,h2=>by
   have hx:bytesLess x.path p = true:=h1 0 (by simp) (by omega)
   have:=Xt (t:=l) (k:=k) (by simpa using hk) (fun j h hj=>h1 (j + 1) (by simpa using h) (by omega)) (fun h=>h2 (by simpa using h))
   simp only [x1] at this
   simp [x1,List.takeWhile_cons,hx,this]
theorem Kg {t:List Ent} {p:qJ} (hs:qY jn t = true) {k:Nat} (hk:k < t.length) (he:t[k].path = p):x1 t p = k:=by
 refine Xt (by omega) (fun j hj hjk=>?_) (fun _=>?_)
 ·rw [← he];exact vp hs j k hj hk hjk
 ·rw [← he];exact vG _
theorem Vo {t:List Ent} {p:qJ} (hs:qY jn t = true):yJ t p = (match t[x1 t p]? with|some x=>decide (zH x.path p = 0)|none=>false):=by
 rcases zE (atP p) t with ⟨_,h2⟩|⟨k,hk,_,_,h3⟩
 ·have:yJ t p = false:=List.any_eq_false.2 (fun x hx=>by rw [h2 x hx];simp)
  rw [this]
  split
  ·rename_i x hx
   have hm:=List.mem_of_getElem? hx
   have:=h2 x hm
   rw [eq_comm,decide_eq_false_iff_not,Q0]
   simpa [atP] using this
  ·rfl
 ·have he:t[k].path = p:=by simpa [atP] using h3
  have:yJ t p = true:=List.any_eq_true.2 ⟨t[k],List.getElem_mem _,h3⟩
  rw [this,Kg hs hk he,List.getElem?_eq_getElem hk]
  simp [he,VO]
theorem Z4 {t:List Ent} {p:qJ} (hs:qY jn t = true) (h:yJ t p = true) : ∃ hk:x1 t p < t.length,t[x1 t p].path = p ∧ t.find? (atP p) = some t[x1 t p] ∧ xh (atP p) t = x1 t p:=by
 obtain ⟨x,hx,hk⟩:=List.any_eq_true.1 h
 obtain ⟨k,hkl,rfl⟩:=List.getElem_of_mem hx
 have he:t[k].path = p:=by simpa [atP] using hk
 have hp:=Kg hs hkl he
 have hbef : ∀ j (hj:j < k),atP p (t[j]'(by omega)) = false:=fun j hj=>by
  have h1:=vp hs j k (by omega) hkl hj
  have:¬ t[j].path = p:=fun e=>by rw [e,he,vG] at h1;cases h1
  simp [atP,this]
 refine ⟨by omega,by simp only [hp];exact he,?_,?_⟩
 ·simp only [hp]
  rw [List.find?_eq_some_iff_getElem]
  exact ⟨hk,k,hkl,rfl,fun j hj=>by rw [hbef j hj];rfl⟩
 ·rw [hp]
  refine Yt hkl (fun x hx=>?_) hk
  obtain ⟨j,hj,rfl⟩:=List.getElem_of_mem hx
  rw [List.getElem_take]
  exact hbef j (by simp at hj;omega)
theorem Y6 {t:List Ent} {p:qJ} (h:yJ t p = false):t.find? (atP p) = none ∧ xh (atP p) t = -1:=by
 have h1:=List.any_eq_false.1 h
 exact ⟨List.find?_eq_none.2 h1,wU fun x hx=>by simpa using h1 x hx⟩
theorem wP {α:Type} (p:α → Bool) (l:List α):(xh p l = -1 ∧ l.find? p = none) ∨ ∃ (k:Nat) (h:k < l.length),xh p l = k ∧ l.find? p = some l[k]:=by
 rcases zE p l with ⟨h1,h2⟩|⟨k,hk,h1,h2,h3⟩
 ·exact .inl ⟨h1,List.find?_eq_none.2 fun x hx=>by rw [h2 x hx];simp⟩
 ·refine .inr ⟨k,hk,h1,?_⟩
  rw [List.find?_eq_some_iff_getElem]
  refine ⟨h3,k,hk,rfl,fun j hj=>?_⟩
  rw [h2 _ (List.mem_take_iff_getElem.2 ⟨j,by omega,rfl⟩)];rfl
end Go.Proofs.YtnhpclmbhbblbaaGreatDoor
