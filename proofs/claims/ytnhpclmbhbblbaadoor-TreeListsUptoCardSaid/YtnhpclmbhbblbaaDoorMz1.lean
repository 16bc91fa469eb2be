import Derived.WalkKit
namespace Go.Proofs.YtnhpclmbhbblbaaDoor
open Go.RowKit
abbrev qv:=List UInt8
structure Sess where
 number:Int
 who:qv
 text:qv
 size:Int
 till:Int
 deriving DecidableEq
def Sess.cells (s:Sess):List Value:=[.int .i64 s.number,.string ⟨s.who.toArray⟩,.string ⟨s.text.toArray⟩,.int .i64 s.size,.int .i64 s.till]
structure Upl where
 sess:List Sess
 next:Int
 lasts:Int
 room:Int
 deriving DecidableEq
structure Gra where
 folder:qv
 who:qv
 right:Int
 deriving DecidableEq
def Gra.cells (s:Gra):List Value:=[.string ⟨s.folder.toArray⟩,.string ⟨s.who.toArray⟩,.int .i64 s.right]
def Qt (c:UInt8):Bool :=
 (97 ≤ c.toNat && c.toNat ≤ 122) || (65 ≤ c.toNat && c.toNat ≤ 90) || (48 ≤ c.toNat && c.toNat ≤ 57) || c.toNat == 45 || c.toNat == 95 || c.toNat == 46 || c.toNat == 40 || c.toNat == 41 || c.toNat == 32
def qH (s:qv):Bool := !s.isEmpty && decide (s.length ≤ 20) && s != [46] && s != [46,46] && s.head? != some 32 && s.getLast? != some 32 && s.all Qt
def Sl {α:Type} (c:α → List Value) (sz:Nat) (w:World) (B:Nat) (v:Value) (l:List α):Prop :=
 ∃ A cap,v = .slice A l.length cap ∧ l.length ≤ cap ∧ cap ≤ maxLen ∧ ∀ k (h:k < l.length), ∃ b off,A = some ⟨b,off,none⟩ ∧ b < B ∧
   ∀ j u,(c l[k])[j]? = some u → w.cell? ⟨b,off + k * sz + j,none⟩ = some u
section
variable {α:Type} {c:α → List Value} {sz:Nat} {w w' : World} {B B' : Nat} {v:Value} {l:List α}
theorem Sl.nil:Sl c sz w B (.slice none 0 0) []:=⟨none,0,rfl,Nat.le_refl _,Nat.zero_le _,fun k h=>absurd h (Nat.not_lt_zero k)⟩
theorem Sl.keep (h:Sl c sz w B v l) (hk : ∀ p:Addr,p.block < B → w'.cell? p = w.cell? p):Sl c sz w' B v l:=by
 obtain ⟨A,cap,hv,h1,h2,h3⟩:=h
 refine ⟨A,cap,hv,h1,h2,fun k hkl=>?_⟩
 obtain ⟨b,off,hA,hB,hc⟩:=h3 k hkl
 exact ⟨b,off,hA,hB,fun j u hu=>(hk ⟨b,off + k * sz + j,none⟩ hB).trans (hc j u hu)⟩
theorem Sl.more (h:Sl c sz w B v l) (hB:B ≤ B'):Sl c sz w B' v l:=by
 obtain ⟨A,cap,hv,h1,h2,h3⟩:=h
 refine ⟨A,cap,hv,h1,h2,fun k hkl=>?_⟩
 obtain ⟨b,off,hA,hb,hc⟩:=h3 k hkl
 exact ⟨b,off,hA,by omega,hc⟩
theorem Sl.below (h:Sl c sz w B v l) (hb:Below B w w'):Sl c sz w' B v l:=h.keep fun _ hp=>hb.cell hp
theorem Sl.at (h:Sl c sz w B v l) {A:Option Addr} {n cap:Nat} (hv:v = .slice A n cap) {k:Nat} (hk:k < l.length) :
  ∃ b off,A = some ⟨b,off,none⟩ ∧ b < B ∧ ∀ j u,(c l[k])[j]? = some u → w.cell? ⟨b,off + k * sz + j,none⟩ = some u:=by
 obtain ⟨A',cap',hv',_,_,h3⟩:=h
 rw [hv] at hv'
 injection hv' with e1 e2 e3
 subst e1
 exact h3 k hk
end
theorem Sl.sess {w:World} {B:Nat} {A:Option Addr} {n cap:Nat} {l:List Sess} (h:Sl Sess.cells 5 w B (.slice A n cap) l) {k:Nat} (hk:k < l.length) :
  ∃ b off,A = some ⟨b,off,none⟩ ∧ b < B ∧ w.cell? ⟨b,off + k * 5,none⟩ = some (.int .i64 l[k].number) ∧ w.cell? ⟨b,off + k * 5 + 1,none⟩ = some (.string ⟨l[k].who.toArray⟩) ∧
    w.cell? ⟨b,off + k * 5 + 2,none⟩ = some (.string ⟨l[k].text.toArray⟩) ∧ w.cell? ⟨b,off + k * 5 + 3,none⟩ = some (.int .i64 l[k].size) ∧ w.cell? ⟨b,off + k * 5 + 4,none⟩ = some (.int .i64 l[k].till):=by
 obtain ⟨b,off,hA,hB,hc⟩:=h.at rfl hk
 exact ⟨b,off,hA,hB,hc 0 _ rfl,hc 1 _ rfl,hc 2 _ rfl,hc 3 _ rfl,hc 4 _ rfl⟩
theorem kn {α:Type} {l:List α} {k:Nat} (h:k < l.length):l.take (k + 1) = l.take k ++ [l[k]]:=by
 rw [List.take_succ_eq_append_getElem h]
end Go.Proofs.YtnhpclmbhbblbaaDoor
set_option linter.unusedSimpArgs false
set_option linter.unnecessarySimpa false
namespace Go.Proofs.YtnhpclmbhbblbaaDoor
def qc:qv → List qv
 | [] => [[]]
 | c :: s=>if c = 47 then [] :: qc s else match qc s with | [] => [[c]]|n :: l=>(c :: n) :: l
def jg:List qv → qv
 | [] => []
 | [n]=>n
 | n :: l=>n ++ 47 :: jg l
theorem jL (p:qv):qc p ≠ []:=by
 cases p with
 | nil=>simp [qc]
 | cons c s=>simp only [qc];split<;>(try split)<;>simp
theorem ji : ∀ {a:qv},(47:UInt8) ∉ a → qc a = [a]
 | [],_=>rfl
 | c :: s,h=>by
   have hc:c ≠ 47:=fun e=>h (by simp [e])
   have hs:(47:UInt8) ∉ s:=fun e=>h (by simp [e])
   simp [qc,hc,ji hs]
theorem yW : ∀ {a:qv} (b:qv),(47:UInt8) ∉ a → qc (a ++ 47 :: b) = a :: qc b
 | [],b,_=>by simp [qc]
 | c :: s,b,h=>by
   have hc:c ≠ 47:=fun e=>h (by simp [e])
   have hs:(47:UInt8) ∉ s:=fun e=>h (by simp [e])
   simp [qc,hc,yW b hs]
theorem yg {n:qv} {l:List qv} (h:l ≠ []):jg (n :: l) = n ++ 47 :: jg l:=by
 cases l with
 | nil=>exact absurd rfl h
 | cons m l=>rfl
theorem jM : ∀ (p:qv),jg (qc p) = p
 | []=>rfl
 | c :: s=>by
   have ih:=jM s
   have hne:=jL s
   simp only [qc]
   split
   ·rename_i hc;subst hc
    rw [yg hne,ih];rfl
   ·split
    ·rename_i h;exact absurd h hne
    ·rename_i n l h
     rw [h] at ih
     cases l with
     | nil=>simp only [jg] at ih ⊢;rw [ih]
     | cons m l=>rw [yg (by simp)] at ih ⊢;rw [← ih];rfl
theorem kX : ∀ {l:List qv},l ≠ [] → (∀ n,n ∈ l → (47:UInt8) ∉ n) → qc (jg l) = l
 | [],h,_=>absurd rfl h
 | [n],_,hf=>ji (hf n (by simp))
 | n :: m :: l,_,hf=>by
   rw [yg (by simp),yW _ (hf n (by simp)),kX (by simp) fun x hx=>hf x (by simp [hx])]
theorem vo (p:qv):(qc p).length = p.count 47 + 1:=by
 induction p with
 | nil=>rfl
 | cons c s ih =>
   have hne:=jL s
   simp only [qc]
   split
   ·rename_i hc;subst hc;simp [ih]
   ·rename_i hc
    rw [List.count_cons_of_ne (fun e=>hc e)]
    split
    ·rename_i h;exact absurd h hne
    ·rename_i n l h;rw [h] at ih;exact ih
theorem jX (a b:qv):qc (a ++ 47 :: b) = qc a ++ qc b:=by
 induction a with
 | nil=>simp [qc]
 | cons c s ih =>
   have hne:=jL s
   simp only [List.cons_append,qc,ih]
   split
   ·rfl
   ·split
    ·rename_i h;exact absurd (List.append_eq_nil_iff.1 h).1 hne
    ·rename_i n l h
     split
     ·rename_i h';exact absurd h' hne
     ·rename_i n' l' h'
      rw [h'] at h
      simp only [List.cons_append,List.cons.injEq] at h
      obtain ⟨rfl,rfl⟩:=h;rfl
theorem x3 {a b:List qv} (ha:a ≠ []) (hb:b ≠ []):jg (a ++ b) = jg a ++ 47 :: jg b:=by
 induction a with
 | nil=>exact absurd rfl ha
 | cons n l ih =>
   cases l with
   | nil=>rw [List.singleton_append,yg hb];rfl
   | cons m l=>rw [List.cons_append,yg (l:=m :: l ++ b) (by simp),ih (by simp),yg (n:=n) (l:=m :: l) (by simp)];simp
theorem QA (p q:qv):qc q <+: qc p ↔ p = q ∨ (q ++ [47]) <+: p:=by
 constructor
 ·rintro ⟨t,ht⟩
  cases t with
  | nil =>
    left
    rw [List.append_nil] at ht
    rw [← jM p, ← ht,jM]
  | cons n t =>
    right
    have h:=jM p
    rw [← ht,x3 (jL q) (by simp),jM] at h
    exact ⟨jg (n :: t),by rw [List.append_assoc];exact h⟩
 ·rintro (rfl|⟨t,ht⟩)
  ·exact List.prefix_refl _
  ·rw [← ht,List.append_assoc]
   exact ⟨qc t,by rw [← jX];rfl⟩
def jy (c:UInt8):qv → Int
 | [] => -1
 | x :: l=>if 0 ≤ jy c l then jy c l + 1 else if x = c then 0 else -1
theorem jK {c:UInt8} : ∀ {p:qv},c ∉ p → jy c p = -1
 | [],_=>rfl
 | x :: l,h=>by
   have h1:¬ x = c:=fun e=>h (by simp [e])
   have h2:=jK (c:=c) (p:=l) fun e=>h (by simp [e])
   simp [jy,h2,h1]
theorem xb {c:UInt8} : ∀ {a b:qv},c ∉ b → jy c (a ++ c :: b) = a.length
 | [],b,h=>by simp [jy,jK h]
 | x :: a,b,h=>by
   have h2:=xb (a:=a) h
   simp only [List.cons_append,jy,h2,List.length_cons]
   rw [if_pos (by omega)];omega
theorem va {c:UInt8} : ∀ (p:qv),c ∉ p ∨ ∃ a b,p = a ++ c :: b ∧ c ∉ b
 | [] => .inl (by simp)
 | x :: l=>by
   rcases va (c:=c) l with h|⟨a,b,h1,h2⟩
   ·by_cases e:x = c
    ·exact .inr ⟨[],l,by simp [e],h⟩
    ·exact .inl (by simp only [List.mem_cons,not_or];exact ⟨fun h=>e h.symm,h⟩)
   ·exact .inr ⟨x :: a,b,by simp [h1],h2⟩
theorem Jv {c:UInt8} {p:qv} {k:Nat} (hk:k < p.length) (he:p[k] = c) (h:c ∉ p.drop (k + 1)):jy c p = k:=by
 have h1:p = p.take k ++ c :: p.drop (k + 1):=by rw [← he, ← List.drop_eq_getElem_cons hk,List.take_append_drop]
 rw [h1,xb h,List.length_take,Nat.min_eq_left (by omega)]
theorem kO (c:UInt8) (p:qv) : -1 ≤ jy c p ∧ jy c p < p.length:=by
 rcases va (c:=c) p with h|⟨a,b,h1,h2⟩
 ·rw [jK h];omega
 ·rw [h1,xb h2];simp;omega
def qm (p:qv):qv:=p.take (jy 47 p).toNat
def qP (p:qv):qv:=p.drop (jy 47 p + 1).toNat
theorem yX (p:qv):qc p = (qc p).dropLast ++ [qP p] ∧ jg (qc p).dropLast = qm p:=by
 rcases va (c:=47) p with h|⟨a,b,h1,h2⟩
 ·rw [ji h,qP,qm,jK h]
  exact ⟨by simp,rfl⟩
 ·have h3:=xb (a:=a) h2
  have h4:qP p = b:=by
   rw [qP,h1,h3,show ((a.length:Int) + 1).toNat = a.length + 1 from by omega]
   rw [List.drop_append,List.drop_of_length_le (by omega),List.nil_append,show a.length + 1 - a.length = 1 from by omega];rfl
  have h5:qm p = a:=by
   rw [qm,h1,h3,show (a.length:Int).toNat = a.length from by omega,List.take_left]
  have h6:qc p = qc a ++ [b]:=by rw [h1,jX,ji h2]
  rw [h4,h5,h6]
  exact ⟨by simp,by simp [jM]⟩
def qN (p:qv):Bool:=decide (6 < (qc p).length) || decide (80 < p.length)
def qg (p:qv):Int:=if (qc p).all qH then (if qN p then 2 else 0) else 1
theorem vf (p:qv):qN p = (decide (6 ≤ p.count 47) || decide (80 < p.length)):=by
 unfold qN
 rw [vo]
 congr 1
 simp only [decide_eq_decide];omega
def jc:List qv → Int
 | []=>0
 | p :: l=>if qg p = 0 then jc l else qg p
def YW (p n:qv):qv:=if p = [] then n else p ++ 47 :: n
def inB (p q:qv):Bool:=decide (p = q) || (q ++ [47]).isPrefixOf p
theorem Vd (p q:qv):inB p q = (qc q).isPrefixOf (qc p):=by
 rw [Bool.eq_iff_iff,List.isPrefixOf_iff_prefix,QA]
 simp [inB]
theorem YN {p f t:qv} (h:inB p f = true):jg (qc t ++ (qc p).drop (qc f).length) = t ++ p.drop f.length:=by
 simp only [inB,Bool.or_eq_true,decide_eq_true_eq,List.isPrefixOf_iff_prefix] at h
 rcases h with rfl|⟨s,rfl⟩
 ·rw [List.drop_of_length_le (Nat.le_refl _),List.drop_of_length_le (Nat.le_refl _),List.append_nil,List.append_nil,jM]
 ·rw [List.append_assoc]
  show jg (qc t ++ (qc (f ++ 47 :: s)).drop (qc f).length) = _
  rw [jX,List.drop_left,x3 (jL _) (jL _),jM,jM]
  congr 1
  rw [List.drop_left];rfl
theorem wc (s:qv):qc (s ++ [47]) = qc s ++ [[]]:=jX s []
theorem w7 {c:UInt8} (h:¬ c = 47) (s:qv):qc (s ++ [c]) = (qc s).dropLast ++ [qP s ++ [c]]:=by
 rcases va (c:=47) s with hs|⟨a,b,h1,h2⟩
 ·have h3:(47:UInt8) ∉ s ++ [c]:=by simp only [List.mem_append,List.mem_singleton,not_or];exact ⟨hs,fun e=>h e.symm⟩
  rw [ji h3,ji hs,qP,jK hs];rfl
 ·have h3:(47:UInt8) ∉ b ++ [c]:=by simp only [List.mem_append,List.mem_singleton,not_or];exact ⟨h2,fun e=>h e.symm⟩
  have h4:=(yX s).1
  have h5:qc s = qc a ++ [b]:=by rw [h1,jX,ji h2]
  have h6:qP s = b:=by
   rw [h5] at h4
   simp only [List.dropLast_concat] at h4
   have:=List.append_cancel_left h4
   simpa using this.symm
  rw [h6,h5,h1,List.append_assoc]
  show qc (a ++ 47 :: (b ++ [c])) = _
  rw [jX,ji h3,List.dropLast_concat]
theorem wb (s:qv):(qP s).length ≤ s.length ∧ s.drop (s.length - (qP s).length) = qP s:=by
 unfold qP
 refine ⟨by simp,?_⟩
 rw [List.length_drop]
 by_cases h:(jy 47 s + 1).toNat ≤ s.length
 ·congr 1;omega
 ·have:=kO 47 s;omega
theorem zT {l:List qv} {i:Nat} (h:i < l.length) (h0:0 < i):jg (l.take (i + 1)) = jg (l.take i) ++ [47] ++ l[i]:=by
 rw [List.take_succ_eq_append_getElem h,x3 (by intro e;rw [List.take_eq_nil_iff] at e;rcases e with e|e<;>simp_all) (by simp)]
 simp [jg]
theorem zj {l:List qv} (h:0 < l.length):jg (l.take 1) = l[0]:=by
 cases l with
 | nil=>simp at h
 | cons x l=>simp [jg]
end Go.Proofs.YtnhpclmbhbblbaaDoor
set_option linter.unusedSimpArgs false
namespace Go.Proofs.YtnhpclmbhbblbaaDoor
def ym {α:Type} (p:α → Bool):List α → Int
 | [] => -1
 | x :: l=>if p x then 0 else if ym p l < 0 then -1 else ym p l + 1
theorem zi {α:Type} {p:α → Bool} : ∀ {l:List α} {k:Nat} (hk:k < l.length),(∀ x,x ∈ l.take k → p x = false) → p l[k] = true → ym p l = k
 | x :: l,0,hk,_,hp=>by simp only [List.getElem_cons_zero] at hp;simp [ym,hp]
 | x :: l,k + 1,hk,h,hp=>by
   have hx:p x = false:=h x (by simp)
   have:=zi (l:=l) (k:=k) (by simpa using hk) (fun y hy=>h y (by simp [hy])) (by simpa using hp)
   simp only [ym,hx,Bool.false_eq_true,if_false,this]
   rw [if_neg (by omega)];omega
theorem xN {α:Type} {p:α → Bool} : ∀ {l:List α},(∀ x,x ∈ l → p x = false) → ym p l = -1
 | [],_=>rfl
 | x :: l,h=>by
   have:=xN (l:=l) fun y hy=>h y (by simp [hy])
   simp [ym,h x (by simp),this]
theorem yF {α:Type} (p:α → Bool) : ∀ (l:List α),(ym p l = -1 ∧ ∀ x,x ∈ l → p x = false) ∨ ∃ (k:Nat) (h:k < l.length),ym p l = k ∧ (∀ x,x ∈ l.take k → p x = false) ∧ p l[k] = true
 | [] => .inl ⟨rfl,by simp⟩
 | x :: l=>by
   by_cases hx:p x = true
   ·exact .inr ⟨0,by simp,by simp [ym,hx],by simp,by simpa using hx⟩
   ·have hx:p x = false:=by simpa using hx
    rcases yF p l with ⟨h1,h2⟩|⟨k,hk,h1,h2,h3⟩
    ·exact .inl ⟨by simp [ym,hx,h1],by simpa [hx] using h2⟩
    ·refine .inr ⟨k + 1,by simpa using hk,?_,?_,by simpa using h3⟩
     ·simp only [ym,hx,Bool.false_eq_true,if_false,h1]
      rw [if_neg (by omega)];omega
     ·intro y hy
      simp only [List.take_succ_cons,List.mem_cons] at hy
      rcases hy with rfl|hy
      ·exact hx
      ·exact h2 y hy
theorem YC {α:Type} (p:α → Bool) (l:List α):decide (0 ≤ ym p l) = l.any p:=by
 rcases yF p l with ⟨h1,h2⟩|⟨k,hk,h1,h2,h3⟩
 ·rw [h1,eq_comm,show decide ((0:Int) ≤ -1) = false from rfl,List.any_eq_false]
  intro x hx
  simp [h2 x hx]
 ·rw [h1,eq_comm,show decide ((0:Int) ≤ (k:Int)) = true from decide_eq_true (by omega),List.any_eq_true]
  exact ⟨l[k],List.getElem_mem _,h3⟩
theorem qY {α:Type} {l:List α} {k:Nat} (hk:k < l.length) {p:α → Prop} (h : ∀ x,x ∈ l.take k → p x) (hx:p l[k]) : ∀ x,x ∈ l.take (k + 1) → p x:=by
 intro x hm
 rw [List.take_succ_eq_append_getElem hk] at hm
 rcases List.mem_append.1 hm with hm|hm
 ·exact h x hm
 ·simp at hm;exact hm ▸ hx
end Go.Proofs.YtnhpclmbhbblbaaDoor
set_option linter.unusedSimpArgs false
set_option linter.unnecessarySimpa false
namespace Go.Proofs.YtnhpclmbhbblbaaDoor
open Go.Op
def xn (a b:qv):Int:=if Op.bytesLess a b = true then -1 else if (!(Op.bytesLess a b || decide (a = b))) = true then 1 else 0
theorem xv : ∀ (a b:List UInt8),(bytesLess a b = true ∧ bytesLess b a = false ∧ a ≠ b) ∨ (a = b ∧ bytesLess a b = false ∧ bytesLess b a = false) ∨ (bytesLess b a = true ∧ bytesLess a b = false ∧ a ≠ b)
 | [],[] => .inr (.inl ⟨rfl,rfl,rfl⟩)
 | [],b :: y => .inl ⟨rfl,rfl,by simp⟩
 | a :: x,[] => .inr (.inr ⟨rfl,rfl,by simp⟩)
 | a :: x,b :: y=>by
   simp only [bytesLess]
   by_cases h1:a < b
   ·have h2:¬ b < a:=by rw [UInt8.lt_iff_toNat_lt] at *;omega
    have h3:a ≠ b:=by rintro rfl;exact h2 h1
    have h4:b ≠ a:=fun h=>h3 h.symm
    exact .inl (by simp [h1,h2,h3,h4])
   ·by_cases h2:b < a
    ·have h3:a ≠ b:=by rintro rfl;exact h1 h2
     have h4:b ≠ a:=fun h=>h3 h.symm
     exact .inr (.inr (by simp [h1,h2,h3,h4]))
    ·have h3:a = b:=by
      have:a.toNat = b.toNat:=by rw [UInt8.lt_iff_toNat_lt] at *;omega
      exact UInt8.toNat.inj this
     subst h3
     simp only [h1,decide_false,Bool.false_or,beq_self_eq_true,Bool.true_and,List.cons.injEq,true_and,ne_eq]
     exact xv x y
theorem yB : ∀ {a b c:List UInt8},bytesLess a b = true → bytesLess b c = true → bytesLess a c = true
 | _,_,[],_,h=>by cases ‹List UInt8›<;>simp [bytesLess] at h
 | a,[],_ :: _,h,_=>by cases a<;>simp [bytesLess] at h
 | [],_ :: _,_ :: _,_,_=>rfl
 | a :: x,b :: y,c :: z,h1,h2=>by
   simp only [bytesLess,Bool.or_eq_true,Bool.and_eq_true,decide_eq_true_eq,beq_iff_eq,UInt8.lt_iff_toNat_lt] at *
   rcases h1 with h1|⟨rfl,h1⟩
   ·rcases h2 with h2|⟨rfl,h2⟩
    ·exact .inl (by omega)
    ·exact .inl h1
   ·rcases h2 with h2|⟨rfl,h2⟩
    ·exact .inl h2
    ·exact .inr ⟨rfl,yB h1 h2⟩
theorem vl (a:List UInt8):bytesLess a a = false:=by
 rcases xv a a with h|h|h
 ·exact absurd rfl h.2.2
 ·exact h.2.1
 ·exact absurd rfl h.2.2
theorem kL (a b:qv):xn a b < 0 ↔ bytesLess a b = true:=by
 unfold xn;rcases xv a b with ⟨h1,h2,h3⟩|⟨rfl,h2,h3⟩|⟨h1,h2,h3⟩<;>simp [*]
theorem zL (a b:qv):xn a b = 0 ↔ a = b:=by
 unfold xn;rcases xv a b with ⟨h1,h2,h3⟩|⟨rfl,h2,h3⟩|⟨h1,h2,h3⟩<;>simp [*]
theorem Q0 (a:qv):xn a a = 0:=(zL a a).2 rfl
def jt {α:Type} (f:α → Int):List α → Int
 | []=>0
 | x :: l=>if f x = 0 then jt f l else f x
def qV {α:Type} (lt:α → α → Bool):List α → Bool
 | []=>true
 | x :: l=>(match l with | []=>true|y :: _=>lt x y) && qV lt l
theorem jR {α:Type} {f:α → Int} : ∀ {l:List α},jt f l = 0 ↔ ∀ x,x ∈ l → f x = 0
 | []=>by simp [jt]
 | x :: l=>by
   simp only [jt,List.mem_cons,forall_eq_or_imp]
   by_cases h:f x = 0
   ·simp [h,jR (l:=l)]
   ·simp [h]
theorem zR {α:Type} {f:α → Int} {l:List α} {k:Nat} (hk:k < l.length) (h : ∀ x,x ∈ l.take k → f x = 0) (he:f l[k] ≠ 0):jt f l = f l[k]:=by
 induction l generalizing k with
 | nil=>simp at hk
 | cons x l ih =>
   cases k with
   | zero=>simp only [jt,List.getElem_cons_zero] at he ⊢;rw [if_neg he]
   | succ k =>
     have hx:f x = 0:=h x (by simp)
     simp only [jt,hx,if_true,List.getElem_cons_succ]
     exact ih (by simpa using hk) (fun y hy=>h y (by simp [hy])) (by simpa using he)
theorem ye {α:Type} {lt:α → α → Bool} : ∀ {l:List α},qV lt l = true ↔ ∀ (k:Nat) (h:k + 1 < l.length),lt (l[k]'(by omega)) l[k + 1] = true
 | []=>by simp [qV]
 | [x]=>by simp [qV]
 | x :: y :: l=>by
   have ih:=ye (lt:=lt) (l:=y :: l)
   simp only [qV,Bool.and_eq_true] at ih ⊢
   constructor
   ·rintro ⟨h1,h2⟩ k hk
    cases k with
    | zero=>exact h1
    | succ k=>exact ih.1 h2 k (by simpa using hk)
   ·intro h
    exact ⟨h 0 (by simp),ih.2 fun k hk=>h (k + 1) (by simpa using hk)⟩
structure Ent where
 path:qv
 fold:Bool
 text:qv
 ver:Int
 deriving DecidableEq
structure Chg where
 kind:Int
 path:qv
 to:qv
 text:qv
 base:Int
 deriving DecidableEq
def jm (a b:Ent):Bool:=bytesLess a.path b.path
def atP (p:qv) (x:Ent):Bool:=decide (x.path = p)
def jC (t:List Ent) (p:qv):Nat:=(t.takeWhile (fun x=>bytesLess x.path p)).length
def jY (t:List Ent) (p:qv):Bool:=t.any (atP p)
def yD (n:Int):Bool:=decide (1 ≤ n) && decide (n ≤ 1000000)
def ju (e:Ent):Int:=if qg e.path = 0 then (if e.fold = true ∧ ¬ e.text = [] then 1 else if 300 < e.text.length then 2 else if yD e.ver = true then 0 else 3) else qg e.path
def q0 (t:List Ent) (q:qv):Int:=if q = [] then 0 else match t.find? (atP q) with|none=>5|some x=>if x.fold = true then 0 else 4
def qW (t:List Ent) (x:Ent):Int:=q0 t (qm x.path)
def qu (t:List Ent):Int :=
 if 60 < t.length then 2
 else if jt ju t = 0 then
  if qV jm t = true then
   if t.any (fun x=>decide (qW t x = 5)) = true then 5
   else if t.any (fun x=>decide (¬ qW t x = 0)) = true then 4 else 0
  else 4
 else jt ju t
theorem y2 {t:List Ent} (h:qV jm t = true) : ∀ (j k:Nat) (hj:j < t.length) (hk:k < t.length),j < k → bytesLess t[j].path t[k].path = true:=by
 intro j k hj hk hjk
 induction k with
 | zero=>omega
 | succ k ih =>
   have h1:bytesLess t[k].path t[k + 1].path = true:=ye.1 h k hk
   by_cases e:j = k
   ·subst e;exact h1
   ·exact yB (ih (by omega) (by omega)) h1
theorem yn {t:List Ent}:qV jm t = true ↔ t.Pairwise (fun a b=>bytesLess a.path b.path = true):=by
 rw [List.pairwise_iff_getElem]
 constructor
 ·intro h i j hi hj hij
  exact y2 h i j hi hj hij
 ·intro h
  exact ye.2 fun k hk=>h k (k + 1) (by omega) hk (by omega)
theorem wW {p:qv} : ∀ {t:List Ent} {k:Nat},k ≤ t.length → (∀ (j:Nat) (h:j < t.length),j < k → bytesLess t[j].path p = true) → (∀ (h:k < t.length),bytesLess t[k].path p = false) → jC t p = k
 | [],k,hk,_,_=>by simp at hk;simp [jC,hk]
 | x :: l,0,hk,_,h2=>by
   have:=h2 (by simp)
   simp only [List.getElem_cons_zero] at this
   simp [jC,List.takeWhile_cons,this]
 | x :: l,k + 1,hk,h1,h2=>by
   have hx:bytesLess x.path p = true:=h1 0 (by simp) (by omega)
   have:=wW (t:=l) (k:=k) (by simpa using hk) (fun j h hj=>h1 (j + 1) (by simpa using h) (by omega)) (fun h=>h2 (by simpa using h))
   simp only [jC] at this
   simp [jC,List.takeWhile_cons,hx,this]
theorem X5 (t:List Ent) (p:qv):jC t p ≤ t.length:=by
 induction t with
 | nil=>simp [jC]
 | cons x l ih=>simp only [jC,List.takeWhile_cons] at *;split<;>simp<;>omega
theorem Yc {t:List Ent} {p:qv} (hs:qV jm t = true) {k:Nat} (hk:k < t.length) (he:t[k].path = p):jC t p = k:=by
 refine wW (by omega) (fun j hj hjk=>?_) (fun _=>?_)
 ·rw [← he];exact y2 hs j k hj hk hjk
 ·rw [← he];exact vl _
theorem QO {t:List Ent} {p:qv} (hs:qV jm t = true):jY t p = (match t[jC t p]? with|some x=>decide (xn x.path p = 0)|none=>false):=by
 rcases yF (atP p) t with ⟨_,h2⟩|⟨k,hk,_,_,h3⟩
 ·have:jY t p = false:=List.any_eq_false.2 (fun x hx=>by rw [h2 x hx];simp)
  rw [this]
  split
  ·rename_i x hx
   have hm:=List.mem_of_getElem? hx
   have:=h2 x hm
   rw [eq_comm,decide_eq_false_iff_not,zL]
   simpa [atP] using this
  ·rfl
 ·have he:t[k].path = p:=by simpa [atP] using h3
  have:jY t p = true:=List.any_eq_true.2 ⟨t[k],List.getElem_mem _,h3⟩
  rw [this,Yc hs hk he,List.getElem?_eq_getElem hk]
  simp [he,Q0]
theorem z1 {t:List Ent} {p:qv} (hs:qV jm t = true) (h:jY t p = true) : ∃ hk:jC t p < t.length,t[jC t p].path = p ∧ t.find? (atP p) = some t[jC t p] ∧ ym (atP p) t = jC t p:=by
 obtain ⟨x,hx,hk⟩:=List.any_eq_true.1 h
 obtain ⟨k,hkl,rfl⟩:=List.getElem_of_mem hx
 have he:t[k].path = p:=by simpa [atP] using hk
 have hp:=Yc hs hkl he
 have hbef : ∀ j (hj:j < k),atP p (t[j]'(by omega)) = false:=fun j hj=>by
  have h1:=y2 hs j k (by omega) hkl hj
  have:¬ t[j].path = p:=fun e=>by rw [e,he,vl] at h1;cases h1
  simp [atP,this]
 refine ⟨by omega,by simp only [hp];exact he,?_,?_⟩
 ·simp only [hp]
  rw [List.find?_eq_some_iff_getElem]
  exact ⟨hk,k,hkl,rfl,fun j hj=>by rw [hbef j hj];rfl⟩
 ·rw [hp]
  refine zi hkl (fun x hx=>?_) hk
  obtain ⟨j,hj,rfl⟩:=List.getElem_of_mem hx
  rw [List.getElem_take]
  exact hbef j (by simp at hj;omega)
theorem zu {t:List Ent} {p:qv} (h:jY t p = false):t.find? (atP p) = none ∧ ym (atP p) t = -1:=by
 have h1:=List.any_eq_false.1 h
 exact ⟨List.find?_eq_none.2 h1,xN fun x hx=>by simpa using h1 x hx⟩
theorem JM {α:Type} (p:α → Bool) (l:List α):(ym p l = -1 ∧ l.find? p = none) ∨ ∃ (k:Nat) (h:k < l.length),ym p l = k ∧ l.find? p = some l[k]:=by
 rcases yF p l with ⟨h1,h2⟩|⟨k,hk,h1,h2,h3⟩
 ·exact .inl ⟨h1,List.find?_eq_none.2 fun x hx=>by rw [h2 x hx];simp⟩
 ·refine .inr ⟨k,hk,h1,?_⟩
  rw [List.find?_eq_some_iff_getElem]
  refine ⟨h3,k,hk,rfl,fun j hj=>?_⟩
  rw [h2 _ (List.mem_take_iff_getElem.2 ⟨j,by omega,rfl⟩)];rfl
end Go.Proofs.YtnhpclmbhbblbaaDoor
