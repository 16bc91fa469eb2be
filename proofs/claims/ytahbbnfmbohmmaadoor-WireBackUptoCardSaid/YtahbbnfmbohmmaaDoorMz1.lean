import Derived.WalkKit
namespace Go.Proofs.YtahbbnfmbohmmaaDoor
open Go.RowKit
abbrev qj:=List UInt8
structure Sess where
 number:Int
 who:qj
 text:qj
 size:Int
 till:Int
 deriving DecidableEq
def Sess.cells (s:Sess):List Value:=[.int .i64 s.number,.string ⟨s.who.toArray⟩,.string ⟨s.text.toArray⟩,.int .i64 s.size,.int .i64 s.till]
structure Upl where
 sess:List Sess
 next:Int
 lasts:Int
 room:Int
 deriving DecidableEq
structure Gra where
 folder:qj
 who:qj
 right:Int
 deriving DecidableEq
def Gra.cells (s:Gra):List Value:=[.string ⟨s.folder.toArray⟩,.string ⟨s.who.toArray⟩,.int .i64 s.right]
def okB (c:UInt8):Bool :=
 (97 ≤ c.toNat && c.toNat ≤ 122) || (65 ≤ c.toNat && c.toNat ≤ 90) || (48 ≤ c.toNat && c.toNat ≤ 57) || c.toNat == 45 || c.toNat == 95 || c.toNat == 46 || c.toNat == 40 || c.toNat == 41 || c.toNat == 32
def k7 (s:qj):Bool := !s.isEmpty && decide (s.length ≤ 20) && s != [46] && s != [46,46] && s.head? != some 32 && s.getLast? != some 32 && s.all okB
def Sl {α:Type} (c:α → List Value) (sz:Nat) (w:World) (B:Nat) (v:Value) (l:List α):Prop :=
 ∃ A cap,v = .slice A l.length cap ∧ l.length ≤ cap ∧ cap ≤ maxLen ∧ ∀ k (h:k < l.length), ∃ b off,A = some ⟨b,off,none⟩ ∧ b < B ∧
   ∀ j u,(c l[k])[j]? = some u → w.cell? ⟨b,off + k * sz + j,none⟩ = some u
section
variable {α:Type} {c:α → List Value} {sz:Nat} {w w' : World} {B B' : Nat} {v:Value} {l:List α}
theorem Sl.nil:Sl c sz w B (.slice none 0 0) []:=⟨none,0,rfl,Nat.le_refl _,Nat.zero_le _,fun k h=>absurd h (Nat.not_lt_zero k)⟩
theorem Sl.keep (h:Sl c sz w B v l) (hk : ∀ p:Addr,p.block < B → w'.cell? p = w.cell? p):Sl c sz w' B v l:=by
 obtain ⟨A,cap,hv,h1,h2,h3⟩:=h
 refine ⟨A,cap,hv,h1,h2,fun k hkl=>?_⟩
 obtain ⟨b,off,hA,hB,hc⟩:=h3 k hkl
 exact ⟨b,off,hA,hB,fun j u hu=>(hk ⟨b,off + k * sz + j,none⟩ hB).trans (hc j u hu)⟩
theorem Sl.more (h:Sl c sz w B v l) (hB:B ≤ B'):Sl c sz w B' v l:=by
 obtain ⟨A,cap,hv,h1,h2,h3⟩:=h
 refine ⟨A,cap,hv,h1,h2,fun k hkl=>?_⟩
 obtain ⟨b,off,hA,hb,hc⟩:=h3 k hkl
 exact ⟨b,off,hA,by omega,hc⟩
theorem Sl.below (h:Sl c sz w B v l) (hb:Below B w w'):Sl c sz w' B v l:=h.keep fun _ hp=>hb.cell hp
theorem Sl.at (h:Sl c sz w B v l) {A:Option Addr} {n cap:Nat} (hv:v = .slice A n cap) {k:Nat} (hk:k < l.length) :
  ∃ b off,A = some ⟨b,off,none⟩ ∧ b < B ∧ ∀ j u,(c l[k])[j]? = some u → w.cell? ⟨b,off + k * sz + j,none⟩ = some u:=by
 obtain ⟨A',cap',hv',_,_,h3⟩:=h
 rw [hv] at hv'
 injection hv' with e1 e2 e3
 subst e1
 exact h3 k hk
end
theorem Sl.sess {w:World} {B:Nat} {A:Option Addr} {n cap:Nat} {l:List Sess} (h:Sl Sess.cells 5 w B (.slice A n cap) l) {k:Nat} (hk:k < l.length) :
  ∃ b off,A = some ⟨b,off,none⟩ ∧ b < B ∧ w.cell? ⟨b,off + k * 5,none⟩ = some (.int .i64 l[k].number) ∧ w.cell? ⟨b,off + k * 5 + 1,none⟩ = some (.string ⟨l[k].who.toArray⟩) ∧
    w.cell? ⟨b,off + k * 5 + 2,none⟩ = some (.string ⟨l[k].text.toArray⟩) ∧ w.cell? ⟨b,off + k * 5 + 3,none⟩ = some (.int .i64 l[k].size) ∧ w.cell? ⟨b,off + k * 5 + 4,none⟩ = some (.int .i64 l[k].till):=by
 obtain ⟨b,off,hA,hB,hc⟩:=h.at rfl hk
 exact ⟨b,off,hA,hB,hc 0 _ rfl,hc 1 _ rfl,hc 2 _ rfl,hc 3 _ rfl,hc 4 _ rfl⟩
end Go.Proofs.YtahbbnfmbohmmaaDoor
set_option linter.unusedSimpArgs false
set_option linter.unnecessarySimpa false
namespace Go.Proofs.YtahbbnfmbohmmaaDoor
def qN:qj → List qj
 | [] => [[]]
 | c :: s=>if c = 47 then [] :: qN s else match qN s with | [] => [[c]]|n :: l=>(c :: n) :: l
def xH:List qj → qj
 | [] => []
 | [n]=>n
 | n :: l=>n ++ 47 :: xH l
theorem xt (p:qj):qN p ≠ []:=by
 cases p with
 | nil=>simp [qN]
 | cons c s=>simp only [qN];split<;>(try split)<;>simp
theorem wG : ∀ {a:qj},(47:UInt8) ∉ a → qN a = [a]
 | [],_=>rfl
 | c :: s,h=>by
   have hc:c ≠ 47:=fun e=>h (by simp [e])
   have hs:(47:UInt8) ∉ s:=fun e=>h (by simp [e])
   simp [qN,hc,wG hs]
theorem kL : ∀ {a:qj} (b:qj),(47:UInt8) ∉ a → qN (a ++ 47 :: b) = a :: qN b
 | [],b,_=>by simp [qN]
 | c :: s,b,h=>by
   have hc:c ≠ 47:=fun e=>h (by simp [e])
   have hs:(47:UInt8) ∉ s:=fun e=>h (by simp [e])
   simp [qN,hc,kL b hs]
theorem xg {n:qj} {l:List qj} (h:l ≠ []):xH (n :: l) = n ++ 47 :: xH l:=by
 cases l with
 | nil=>exact absurd rfl h
 | cons m l=>rfl
theorem yA : ∀ (p:qj),xH (qN p) = p
 | []=>rfl
 | c :: s=>by
   have ih:=yA s
   have hne:=xt s
   simp only [qN]
   split
   ·rename_i hc;subst hc
    rw [xg hne,ih];rfl
   ·split
    ·rename_i h;exact absurd h hne
    ·rename_i n l h
     rw [h] at ih
     cases l with
     | nil=>simp only [xH] at ih ⊢;rw [ih]
     | cons m l=>rw [xg (by simp)] at ih ⊢;rw [← ih];rfl
theorem QG : ∀ {l:List qj},l ≠ [] → (∀ n,n ∈ l → (47:UInt8) ∉ n) → qN (xH l) = l
 | [],h,_=>absurd rfl h
 | [n],_,hf=>wG (hf n (by simp))
 | n :: m :: l,_,hf=>by
   rw [xg (by simp),kL _ (hf n (by simp)),QG (by simp) fun x hx=>hf x (by simp [hx])]
theorem wz (a b:qj):qN (a ++ 47 :: b) = qN a ++ qN b:=by
 induction a with
 | nil=>simp [qN]
 | cons c s ih =>
   have hne:=xt s
   simp only [List.cons_append,qN,ih]
   split
   ·rfl
   ·split
    ·rename_i h;exact absurd (List.append_eq_nil_iff.1 h).1 hne
    ·rename_i n l h
     split
     ·rename_i h';exact absurd h' hne
     ·rename_i n' l' h'
      rw [h'] at h
      simp only [List.cons_append,List.cons.injEq] at h
      obtain ⟨rfl,rfl⟩:=h;rfl
theorem QO {a b:List qj} (ha:a ≠ []) (hb:b ≠ []):xH (a ++ b) = xH a ++ 47 :: xH b:=by
 induction a with
 | nil=>exact absurd rfl ha
 | cons n l ih =>
   cases l with
   | nil=>rw [List.singleton_append,xg hb];rfl
   | cons m l=>rw [List.cons_append,xg (l:=m :: l ++ b) (by simp),ih (by simp),xg (n:=n) (l:=m :: l) (by simp)];simp
theorem Yc (p q:qj):qN q <+: qN p ↔ p = q ∨ (q ++ [47]) <+: p:=by
 constructor
 ·rintro ⟨t,ht⟩
  cases t with
  | nil =>
    left
    rw [List.append_nil] at ht
    rw [← yA p, ← ht,yA]
  | cons n t =>
    right
    have h:=yA p
    rw [← ht,QO (xt q) (by simp),yA] at h
    exact ⟨xH (n :: t),by rw [List.append_assoc];exact h⟩
 ·rintro (rfl|⟨t,ht⟩)
  ·exact List.prefix_refl _
  ·rw [← ht,List.append_assoc]
   exact ⟨qN t,by rw [← wz];rfl⟩
def wV (c:UInt8):qj → Int
 | [] => -1
 | x :: l=>if 0 ≤ wV c l then wV c l + 1 else if x = c then 0 else -1
def Y1 (p:qj):qj:=p.take (wV 47 p).toNat
def W2 (p:qj):qj:=p.drop (wV 47 p + 1).toNat
def vI (p:qj):Bool:=decide (6 < (qN p).length) || decide (80 < p.length)
def jB (p:qj):Int:=if (qN p).all k7 then (if vI p then 2 else 0) else 1
def xz:List qj → Int
 | []=>0
 | p :: l=>if jB p = 0 then xz l else jB p
def Zb (p q:qj):Bool:=decide (p = q) || (q ++ [47]).isPrefixOf p
theorem Wi (p q:qj):Zb p q = (qN q).isPrefixOf (qN p):=by
 rw [Bool.eq_iff_iff,List.isPrefixOf_iff_prefix,Yc]
 simp [Zb]
theorem Zi {p f t:qj} (h:Zb p f = true):xH (qN t ++ (qN p).drop (qN f).length) = t ++ p.drop f.length:=by
 simp only [Zb,Bool.or_eq_true,decide_eq_true_eq,List.isPrefixOf_iff_prefix] at h
 rcases h with rfl|⟨s,rfl⟩
 ·rw [List.drop_of_length_le (Nat.le_refl _),List.drop_of_length_le (Nat.le_refl _),List.append_nil,List.append_nil,yA]
 ·rw [List.append_assoc]
  show xH (qN t ++ (qN (f ++ 47 :: s)).drop (qN f).length) = _
  rw [wz,List.drop_left,QO (xt _) (xt _),yA,yA]
  congr 1
  rw [List.drop_left];rfl
end Go.Proofs.YtahbbnfmbohmmaaDoor
set_option linter.unusedSimpArgs false
namespace Go.Proofs.YtahbbnfmbohmmaaDoor
end Go.Proofs.YtahbbnfmbohmmaaDoor
set_option linter.unusedSimpArgs false
set_option linter.unnecessarySimpa false
namespace Go.Proofs.YtahbbnfmbohmmaaDoor
open Go.Op
theorem Xt : ∀ (a b:List UInt8),(bytesLess a b = true ∧ bytesLess b a = false ∧ a ≠ b) ∨ (a = b ∧ bytesLess a b = false ∧ bytesLess b a = false) ∨ (bytesLess b a = true ∧ bytesLess a b = false ∧ a ≠ b)
 | [],[] => .inr (.inl ⟨rfl,rfl,rfl⟩)
 | [],b :: y => .inl ⟨rfl,rfl,by simp⟩
 | a :: x,[] => .inr (.inr ⟨rfl,rfl,by simp⟩)
 | a :: x,b :: y=>by
   simp only [bytesLess]
   by_cases h1:a < b
   ·have h2:¬ b < a:=by rw [UInt8.lt_iff_toNat_lt] at *;omega
    have h3:a ≠ b:=by rintro rfl;exact h2 h1
    have h4:b ≠ a:=fun h=>h3 h.symm
    exact .inl (by simp [h1,h2,h3,h4])
   ·by_cases h2:b < a
    ·have h3:a ≠ b:=by rintro rfl;exact h1 h2
     have h4:b ≠ a:=fun h=>h3 h.symm
     exact .inr (.inr (by simp [h1,h2,h3,h4]))
    ·have h3:a = b:=by
      have:a.toNat = b.toNat:=by rw [UInt8.lt_iff_toNat_lt] at *;omega
      exact UInt8.toNat.inj this
     subst h3
     simp only [h1,decide_false,Bool.false_or,beq_self_eq_true,Bool.true_and,List.cons.injEq,true_and,ne_eq]
     exact Xt x y
theorem Qk : ∀ {a b c:List UInt8},bytesLess a b = true → bytesLess b c = true → bytesLess a c = true
 | _,_,[],_,h=>by cases ‹List UInt8›<;>simp [bytesLess] at h
 | a,[],_ :: _,h,_=>by cases a<;>simp [bytesLess] at h
 | [],_ :: _,_ :: _,_,_=>rfl
 | a :: x,b :: y,c :: z,h1,h2=>by
   simp only [bytesLess,Bool.or_eq_true,Bool.and_eq_true,decide_eq_true_eq,beq_iff_eq,UInt8.lt_iff_toNat_lt] at *
   rcases h1 with h1|⟨rfl,h1⟩
   ·rcases h2 with h2|⟨rfl,h2⟩
    ·exact .inl (by omega)
    ·exact .inl h1
   ·rcases h2 with h2|⟨rfl,h2⟩
    ·exact .inl h2
    ·exact .inr ⟨rfl,Qk h1 h2⟩
theorem WV (a:List UInt8):bytesLess a a = false:=by
 rcases Xt a a with h|h|h
 ·exact absurd rfl h.2.2
 ·exact h.2.1
 ·exact absurd rfl h.2.2
def yP {α:Type} (lt:α → α → Bool):List α → Bool
 | []=>true
 | x :: l=>(match l with | []=>true|y :: _=>lt x y) && yP lt l
theorem kn {α:Type} {lt:α → α → Bool} : ∀ {l:List α},yP lt l = true ↔ ∀ (k:Nat) (h:k + 1 < l.length),lt (l[k]'(by omega)) l[k + 1] = true
 | []=>by simp [yP]
 | [x]=>by simp [yP]
 | x :: y :: l=>by
   have ih:=kn (lt:=lt) (l:=y :: l)
   simp only [yP,Bool.and_eq_true] at ih ⊢
   constructor
   ·rintro ⟨h1,h2⟩ k hk
    cases k with
    | zero=>exact h1
    | succ k=>exact ih.1 h2 k (by simpa using hk)
   ·intro h
    exact ⟨h 0 (by simp),ih.2 fun k hk=>h (k + 1) (by simpa using hk)⟩
structure Ent where
 path:qj
 fold:Bool
 text:qj
 ver:Int
 deriving DecidableEq
structure Chg where
 kind:Int
 path:qj
 to:qj
 text:qj
 base:Int
 deriving DecidableEq
def zo (a b:Ent):Bool:=bytesLess a.path b.path
def atP (p:qj) (x:Ent):Bool:=decide (x.path = p)
def Q8 (t:List Ent) (p:qj):Nat:=(t.takeWhile (fun x=>bytesLess x.path p)).length
def wL (t:List Ent) (p:qj):Bool:=t.any (atP p)
def Jk (t:List Ent) (q:qj):Int:=if q = [] then 0 else match t.find? (atP q) with|none=>5|some x=>if x.fold = true then 0 else 4
theorem X6 {t:List Ent} (h:yP zo t = true) : ∀ (j k:Nat) (hj:j < t.length) (hk:k < t.length),j < k → bytesLess t[j].path t[k].path = true:=by
 intro j k hj hk hjk
 induction k with
 | zero=>omega
 | succ k ih =>
   have h1:bytesLess t[k].path t[k + 1].path = true:=kn.1 h k hk
   by_cases e:j = k
   ·subst e;exact h1
   ·exact Qk (ih (by omega) (by omega)) h1
theorem xO {t:List Ent}:yP zo t = true ↔ t.Pairwise (fun a b=>bytesLess a.path b.path = true):=by
 rw [List.pairwise_iff_getElem]
 constructor
 ·intro h i j hi hj hij
  exact X6 h i j hi hj hij
 ·intro h
  exact kn.2 fun k hk=>h k (k + 1) (by omega) hk (by omega)
end Go.Proofs.YtahbbnfmbohmmaaDoor
namespace Go.Proofs.YtahbbnfmbohmmaaDoor
open Go.Op
structure Com where
 num:Int
 key:qj
 chs:List Chg
 deriving DecidableEq
structure Pag where
 reset:Bool
 tree:List Ent
 coms:List Com
 cur:Int
 more:Bool
 deriving DecidableEq
def YW:Pag:=⟨false,[],[],0,false⟩
structure Rqt where
 kind:Int
 who:qj
 folder:qj
 name:qj
 key:qj
 text:qj
 number:Int
 offset:Int
 base:Int
 chs:List Chg
 deriving DecidableEq
def noRqt:Rqt:=⟨0,[],[],[],[],[],0,0,0,[]⟩
structure Ans where
 err:Int
 num:Int
 page:Pag
def noAns:Ans:=⟨0,0,YW⟩
end Go.Proofs.YtahbbnfmbohmmaaDoor
