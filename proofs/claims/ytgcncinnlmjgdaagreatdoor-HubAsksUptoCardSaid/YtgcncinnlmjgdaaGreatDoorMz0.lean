import Derived.WalkKit
set_option linter.unusedSimpArgs false
set_option linter.unnecessarySimpa false
namespace Go.Proofs.YtgcncinnlmjgdaaGreatDoor
open Go.RowKit
abbrev qb:=List UInt8
structure Sess where
 number:Int
 who:qb
 text:qb
 size:Int
 till:Int
 deriving DecidableEq
def Sess.cells (s:Sess):List Value:=[.int .i64 s.number,.string ⟨s.who.toArray⟩,.string ⟨s.text.toArray⟩,.int .i64 s.size,.int .i64 s.till]
structure Upl where
 sess:List Sess
 next:Int
 lasts:Int
 room:Int
 deriving DecidableEq
structure Gra where
 folder:qb
 who:qb
 right:Int
 deriving DecidableEq
def Gra.cells (s:Gra):List Value:=[.string ⟨s.folder.toArray⟩,.string ⟨s.who.toArray⟩,.int .i64 s.right]
def okB (c:UInt8):Bool :=
 (97 ≤ c.toNat && c.toNat ≤ 122) || (65 ≤ c.toNat && c.toNat ≤ 90) || (48 ≤ c.toNat && c.toNat ≤ 57) || c.toNat == 45 || c.toNat == 95 || c.toNat == 46 || c.toNat == 40 || c.toNat == 41 || c.toNat == 32
def qj (s:qb):Bool := !s.isEmpty && decide (s.length ≤ 20) && s != [46] && s != [46,46] && s.head? != some 32 && s.getLast? != some 32 && s.all okB
def Sl {α:Type} (c:α → List Value) (sz:Nat) (w:World) (B:Nat) (v:Value) (l:List α):Prop :=
 ∃ A cap,v = .slice A l.length cap ∧ l.length ≤ cap ∧ cap ≤ maxLen ∧ ∀ k (h:k < l.length), ∃ b off,A = some ⟨b,off,none⟩ ∧ b < B ∧
   ∀ j u,(c l[k])[j]? = some u → w.cell? ⟨b,off + k * sz + j,none⟩ = some u
section
variable {α:Type} {c:α → List Value} {sz:Nat} {w w' : World} {B B' : Nat} {v:Value} {l:List α}
theorem Sl.nil:Sl c sz w B (.slice none 0 0) []:=⟨none,0,rfl,Nat.le_refl _,Nat.zero_le _,fun k h=>absurd h (Nat.not_lt_zero k)⟩
theorem Sl.keep (h:Sl c sz w B v l) (hk : ∀ p:Addr,p.block < B → w'.cell? p = w.cell? p):Sl c sz w' B v l:=by
 obtain ⟨A,cap,hv,h1,h2,h3⟩:=h;refine ⟨A,cap,hv,h1,h2,fun k hkl=>?_⟩;obtain ⟨b,off,hA,hB,hc⟩:=h3 k hkl;exact ⟨b,off,hA,hB,fun j u hu=>(hk ⟨b,off + k * sz + j,none⟩ hB).trans (hc j u hu)⟩
theorem Sl.more (h:Sl c sz w B v l) (hB:B ≤ B'):Sl c sz w B' v l:=by
 obtain ⟨A,cap,hv,h1,h2,h3⟩:=h;refine ⟨A,cap,hv,h1,h2,fun k hkl=>?_⟩;obtain ⟨b,off,hA,hb,hc⟩:=h3 k hkl;exact ⟨b,off,hA,by omega,hc⟩
theorem Sl.below (h:Sl c sz w B v l) (hb:Below B w w'):Sl c sz w' B v l:=h.keep fun _ hp=>hb.cell hp
theorem Sl.at (h:Sl c sz w B v l) {A:Option Addr} {n cap:Nat} (hv:v = .slice A n cap) {k:Nat} (hk:k < l.length) :
  ∃ b off,A = some ⟨b,off,none⟩ ∧ b < B ∧ ∀ j u,(c l[k])[j]? = some u → w.cell? ⟨b,off + k * sz + j,none⟩ = some u:=by
 obtain ⟨A',cap',hv',_,_,h3⟩:=h;rw [hv] at hv';injection hv' with e1 e2 e3;subst e1;exact h3 k hk
end
theorem Sl.sess {w:World} {B:Nat} {A:Option Addr} {n cap:Nat} {l:List Sess} (h:Sl Sess.cells 5 w B (.slice A n cap) l) {k:Nat} (hk:k < l.length) :
  ∃ b off,A = some ⟨b,off,none⟩ ∧ b < B ∧ w.cell? ⟨b,off + k * 5,none⟩ = some (.int .i64 l[k].number) ∧ w.cell? ⟨b,off + k * 5 + 1,none⟩ = some (.string ⟨l[k].who.toArray⟩) ∧
    w.cell? ⟨b,off + k * 5 + 2,none⟩ = some (.string ⟨l[k].text.toArray⟩) ∧ w.cell? ⟨b,off + k * 5 + 3,none⟩ = some (.int .i64 l[k].size) ∧ w.cell? ⟨b,off + k * 5 + 4,none⟩ = some (.int .i64 l[k].till):=by
 obtain ⟨b,off,hA,hB,hc⟩:=h.at rfl hk;exact ⟨b,off,hA,hB,hc 0 _ rfl,hc 1 _ rfl,hc 2 _ rfl,hc 3 _ rfl,hc 4 _ rfl⟩
theorem Sl.gra {w:World} {B:Nat} {A:Option Addr} {n cap:Nat} {l:List Gra} (h:Sl Gra.cells 3 w B (.slice A n cap) l) {k:Nat} (hk:k < l.length) :
  ∃ b off,A = some ⟨b,off,none⟩ ∧ b < B ∧ w.cell? ⟨b,off + k * 3,none⟩ = some (.string ⟨l[k].folder.toArray⟩) ∧ w.cell? ⟨b,off + k * 3 + 1,none⟩ = some (.string ⟨l[k].who.toArray⟩) ∧
    w.cell? ⟨b,off + k * 3 + 2,none⟩ = some (.int .i64 l[k].right):=by
 obtain ⟨b,off,hA,hB,hc⟩:=h.at rfl hk;exact ⟨b,off,hA,hB,hc 0 _ rfl,hc 1 _ rfl,hc 2 _ rfl⟩
theorem qgM {α:Type} {l:List α} {k:Nat} (h:k < l.length):l.take (k + 1) = l.take k ++ [l[k]]:=by
 rw [List.take_succ_eq_append_getElem h]
end Go.Proofs.YtgcncinnlmjgdaaGreatDoor
namespace Go.Proofs.YtgcncinnlmjgdaaGreatDoor
def qk:qb → List qb
 | [] => [[]]
 | c :: s=>if c = 47 then [] :: qk s else match qk s with | [] => [[c]]|n :: l=>(c :: n) :: l
def kK:List qb → qb
 | [] => []
 | [n]=>n
 | n :: l=>n ++ 47 :: kK l
theorem xS (p:qb):qk p ≠ []:=by
 cases p with
 | nil=>simp [qk]
 | cons c s=>simp only [qk];split<;>(try split)<;>simp
theorem zJ : ∀ {a:qb},(47:UInt8) ∉ a → qk a = [a]
 | [],_=>rfl
 | c :: s,h=>by
   have hc:c ≠ 47:=fun e=>h (by simp [e])
   have hs:(47:UInt8) ∉ s:=fun e=>h (by simp [e])
   simp [qk,hc,zJ hs]
theorem wY : ∀ {a:qb} (b:qb),(47:UInt8) ∉ a → qk (a ++ 47 :: b) = a :: qk b
 | [],b,_=>by simp [qk]
 | c :: s,b,h=>by
   have hc:c ≠ 47:=fun e=>h (by simp [e])
   have hs:(47:UInt8) ∉ s:=fun e=>h (by simp [e])
   simp [qk,hc,wY b hs]
theorem VW : ∀ (p:qb), ∀ n,n ∈ qk p → (47:UInt8) ∉ n
 | [],n,h=>by simp [qk] at h;subst h;simp
 | c :: s,n,h=>by
   have ih:=VW s;simp only [qk] at h;split at h
   ·rcases List.mem_cons.1 h with rfl|h
    ·simp
    ·exact ih n h
   ·rename_i hc;split at h
    ·simp at h;subst h;simpa using fun e=>hc e.symm
    ·rename_i m l hm;rcases List.mem_cons.1 h with rfl|h
     ·have:=ih m (by rw [hm];simp);simp only [List.mem_cons,not_or];exact ⟨fun e=>hc e.symm,this⟩
     ·exact ih n (by rw [hm];simp [h])
theorem zL {n:qb} {l:List qb} (h:l ≠ []):kK (n :: l) = n ++ 47 :: kK l:=by
 cases l with
 | nil=>exact absurd rfl h
 | cons m l=>rfl
theorem xq : ∀ (p:qb),kK (qk p) = p
 | []=>rfl
 | c :: s=>by
   have ih:=xq s;have hne:=xS s;simp only [qk];split
   ·rename_i hc;subst hc;rw [zL hne,ih];rfl
   ·split
    ·rename_i h;exact absurd h hne
    ·rename_i n l h;rw [h] at ih
     cases l with
     | nil=>simp only [kK] at ih ⊢;rw [ih]
     | cons m l=>rw [zL (by simp)] at ih ⊢;rw [← ih];rfl
theorem XZ : ∀ {l:List qb},l ≠ [] → (∀ n,n ∈ l → (47:UInt8) ∉ n) → qk (kK l) = l
 | [],h,_=>absurd rfl h
 | [n],_,hf=>zJ (hf n (by simp))
 | n :: m :: l,_,hf=>by
   rw [zL (by simp),wY _ (hf n (by simp)),XZ (by simp) fun x hx=>hf x (by simp [hx])]
theorem qeb (p:qb):(qk p).length = p.count 47 + 1:=by
 induction p with
 | nil=>rfl
 | cons c s ih =>
   have hne:=xS s;simp only [qk];split
   ·rename_i hc;subst hc;simp [ih]
   ·rename_i hc;rw [List.count_cons_of_ne (fun e=>hc e)];split
    ·rename_i h;exact absurd h hne
    ·rename_i n l h;rw [h] at ih;exact ih
theorem YJ (a b:qb):qk (a ++ 47 :: b) = qk a ++ qk b:=by
 induction a with
 | nil=>simp [qk]
 | cons c s ih =>
   have hne:=xS s;simp only [List.cons_append,qk,ih];split
   ·rfl
   ·split
    ·rename_i h;exact absurd (List.append_eq_nil_iff.1 h).1 hne
    ·rename_i n l h;split
     ·rename_i h';exact absurd h' hne
     ·rename_i n' l' h';rw [h'] at h;simp only [List.cons_append,List.cons.injEq] at h;obtain ⟨rfl,rfl⟩:=h;rfl
theorem qad {a b:List qb} (ha:a ≠ []) (hb:b ≠ []):kK (a ++ b) = kK a ++ 47 :: kK b:=by
 induction a with
 | nil=>exact absurd rfl ha
 | cons n l ih =>
   cases l with
   | nil=>rw [List.singleton_append,zL hb];rfl
   | cons m l=>rw [List.cons_append,zL (l:=m :: l ++ b) (by simp),ih (by simp),zL (n:=n) (l:=m :: l) (by simp)];simp
theorem qcx (p q:qb):qk q <+: qk p ↔ p = q ∨ (q ++ [47]) <+: p:=by
 constructor
 ·rintro ⟨t,ht⟩
  cases t with
  | nil =>
    left;rw [List.append_nil] at ht;rw [← xq p, ← ht,xq]
  | cons n t =>
    right;have h:=xq p;rw [← ht,qad (xS q) (by simp),xq] at h;exact ⟨kK (n :: t),by rw [List.append_assoc];exact h⟩
 ·rintro (rfl|⟨t,ht⟩)
  ·exact List.prefix_refl _
  ·rw [← ht,List.append_assoc];exact ⟨qk t,by rw [← YJ];rfl⟩
def xN (c:UInt8):qb → Int
 | [] => -1
 | x :: l=>if 0 ≤ xN c l then xN c l + 1 else if x = c then 0 else -1
theorem kj {c:UInt8} : ∀ {p:qb},c ∉ p → xN c p = -1
 | [],_=>rfl
 | x :: l,h=>by
   have h1:¬ x = c:=fun e=>h (by simp [e])
   have h2:=kj (c:=c) (p:=l) fun e=>h (by simp [e])
   simp [xN,h2,h1]
theorem QG {c:UInt8} : ∀ {a b:qb},c ∉ b → xN c (a ++ c :: b) = a.length
 | [],b,h=>by simp [xN,kj h]
 | x :: a,b,h=>by
   have h2:=QG (a:=a) h;simp only [List.cons_append,xN,h2,List.length_cons];rw [if_pos (by omega)];omega
theorem Zg {c:UInt8} : ∀ (p:qb),c ∉ p ∨ ∃ a b,p = a ++ c :: b ∧ c ∉ b
 | [] => .inl (by simp)
 | x :: l=>by
   rcases Zg (c:=c) l with h|⟨a,b,h1,h2⟩
   ·by_cases e:x = c
    ·exact .inr ⟨[],l,by simp [e],h⟩
    ·exact .inl (by simp only [List.mem_cons,not_or];exact ⟨fun h=>e h.symm,h⟩)
   ·exact .inr ⟨x :: a,b,by simp [h1],h2⟩
theorem qfV {c:UInt8} {p:qb} {k:Nat} (hk:k < p.length) (he:p[k] = c) (h:c ∉ p.drop (k + 1)):xN c p = k:=by
 have h1:p = p.take k ++ c :: p.drop (k + 1):=by rw [← he, ← List.drop_eq_getElem_cons hk,List.take_append_drop]
 rw [h1,QG h,List.length_take,Nat.min_eq_left (by omega)]
theorem qfU (c:UInt8) (p:qb) : -1 ≤ xN c p ∧ xN c p < p.length:=by
 rcases Zg (c:=c) p with h|⟨a,b,h1,h2⟩
 ·rw [kj h];omega
 ·rw [h1,QG h2];simp;omega
def qM (p:qb):qb:=p.take (xN 47 p).toNat
def J0 (p:qb):qb:=p.drop (xN 47 p + 1).toNat
theorem Z6 (p:qb):qk p = (qk p).dropLast ++ [J0 p] ∧ kK (qk p).dropLast = qM p:=by
 rcases Zg (c:=47) p with h|⟨a,b,h1,h2⟩
 ·rw [zJ h,J0,qM,kj h];exact ⟨by simp,rfl⟩
 ·have h3:=QG (a:=a) h2
  have h4:J0 p = b:=by
   rw [J0,h1,h3,show ((a.length:Int) + 1).toNat = a.length + 1 from by omega];rw [List.drop_append,List.drop_of_length_le (by omega),List.nil_append,show a.length + 1 - a.length = 1 from by omega];rfl
  have h5:qM p = a:=by
   rw [qM,h1,h3,show (a.length:Int).toNat = a.length from by omega,List.take_left]
  have h6:qk p = qk a ++ [b]:=by rw [h1,YJ,zJ h2]
  rw [h4,h5,h6];exact ⟨by simp,by simp [xq]⟩
def yD (p:qb):Bool:=decide (6 < (qk p).length) || decide (80 < p.length)
def qA (p:qb):Int:=if (qk p).all qj then (if yD p then 2 else 0) else 1
theorem QS (p:qb):yD p = (decide (6 ≤ p.count 47) || decide (80 < p.length)):=by
 unfold yD;rw [qeb];congr 1;simp only [decide_eq_decide];omega
def yl:List qb → Int
 | []=>0
 | p :: l=>if qA p = 0 then yl l else qA p
def inB (p q:qb):Bool:=decide (p = q) || (q ++ [47]).isPrefixOf p
theorem qhu (p q:qb):inB p q = (qk q).isPrefixOf (qk p):=by
 rw [Bool.eq_iff_iff,List.isPrefixOf_iff_prefix,qcx];simp [inB]
theorem qiZ {p f t:qb} (h:inB p f = true):kK (qk t ++ (qk p).drop (qk f).length) = t ++ p.drop f.length:=by
 simp only [inB,Bool.or_eq_true,decide_eq_true_eq,List.isPrefixOf_iff_prefix] at h
 rcases h with rfl|⟨s,rfl⟩
 ·rw [List.drop_of_length_le (Nat.le_refl _),List.drop_of_length_le (Nat.le_refl _),List.append_nil,List.append_nil,xq]
 ·rw [List.append_assoc];show kK (qk t ++ (qk (f ++ 47 :: s)).drop (qk f).length) = _;rw [YJ,List.drop_left,qad (xS _) (xS _),xq,xq];congr 1;rw [List.drop_left];rfl
def yN {α:Type} (p:α → Bool):List α → Int
 | [] => -1
 | x :: l=>if p x then 0 else if yN p l < 0 then -1 else yN p l + 1
theorem wb {α:Type} {p:α → Bool} : ∀ {l:List α} {k:Nat} (hk:k < l.length),(∀ x,x ∈ l.take k → p x = false) → p l[k] = true → yN p l = k
 | x :: l,0,hk,_,hp=>by simp only [List.getElem_cons_zero] at hp;simp [yN,hp]
 | x :: l,k + 1,hk,h,hp=>by
   have hx:p x = false:=h x (by simp);have:=wb (l:=l) (k:=k) (by simpa using hk) (fun y hy=>h y (by simp [hy])) (by simpa using hp);simp only [yN,hx,Bool.false_eq_true,if_false,this];rw [if_neg (by omega)];omega
theorem zt {α:Type} {p:α → Bool} : ∀ {l:List α},(∀ x,x ∈ l → p x = false) → yN p l = -1
 | [],_=>rfl
 | x :: l,h=>by
   have:=zt (l:=l) fun y hy=>h y (by simp [hy])
   simp [yN,h x (by simp),this]
theorem xM {α:Type} (p:α → Bool) : ∀ (l:List α),(yN p l = -1 ∧ ∀ x,x ∈ l → p x = false) ∨ ∃ (k:Nat) (h:k < l.length),yN p l = k ∧ (∀ x,x ∈ l.take k → p x = false) ∧ p l[k] = true
 | [] => .inl ⟨rfl,by simp⟩
 | x :: l=>by
   by_cases hx:p x = true
   ·exact .inr ⟨0,by simp,by simp [yN,hx],by simp,by simpa using hx⟩
   ·have hx:p x = false:=by simpa using hx
    rcases xM p l with ⟨h1,h2⟩|⟨k,hk,h1,h2,h3⟩
    ·exact .inl ⟨by simp [yN,hx,h1],by simpa [hx] using h2⟩
    ·refine .inr ⟨k + 1,by simpa using hk,?_,?_,by simpa using h3⟩
     ·simp only [yN,hx,Bool.false_eq_true,if_false,h1];rw [if_neg (by omega)];omega
     ·intro y hy;simp only [List.take_succ_cons,List.mem_cons] at hy;rcases hy with rfl|hy
      ·exact hx
      ·exact h2 y hy
theorem ZK {α:Type} (p:α → Bool) (l:List α):decide (0 ≤ yN p l) = l.any p:=by
 rcases xM p l with ⟨h1,h2⟩|⟨k,hk,h1,h2,h3⟩
 ·rw [h1,eq_comm,show decide ((0:Int) ≤ -1) = false from rfl,List.any_eq_false];intro x hx;simp [h2 x hx]
 ·rw [h1,eq_comm,show decide ((0:Int) ≤ (k:Int)) = true from decide_eq_true (by omega),List.any_eq_true];exact ⟨l[k],List.getElem_mem _,h3⟩
theorem jJ {α:Type} {l:List α} {k:Nat} (hk:k < l.length) {p:α → Prop} (h : ∀ x,x ∈ l.take k → p x) (hx:p l[k]) : ∀ x,x ∈ l.take (k + 1) → p x:=by
 intro x hm;rw [List.take_succ_eq_append_getElem hk] at hm;rcases List.mem_append.1 hm with hm|hm
 ·exact h x hm
 ·simp at hm;exact hm ▸ hx
end Go.Proofs.YtgcncinnlmjgdaaGreatDoor
namespace Go.Proofs.YtgcncinnlmjgdaaGreatDoor
open Go.Op
def vp (a b:qb):Int:=if Op.bytesLess a b = true then -1 else if (!(Op.bytesLess a b || decide (a = b))) = true then 1 else 0
theorem JQ : ∀ (a b:List UInt8),(bytesLess a b = true ∧ bytesLess b a = false ∧ a ≠ b) ∨ (a = b ∧ bytesLess a b = false ∧ bytesLess b a = false) ∨ (bytesLess b a = true ∧ bytesLess a b = false ∧ a ≠ b)
 | [],[] => .inr (.inl ⟨rfl,rfl,rfl⟩)
 | [],b :: y => .inl ⟨rfl,rfl,by simp⟩
 | a :: x,[] => .inr (.inr ⟨rfl,rfl,by simp⟩)
 | a :: x,b :: y=>by
   simp only [bytesLess];by_cases h1:a < b
   ·have h2:¬ b < a:=by rw [UInt8.lt_iff_toNat_lt] at *;omega
    have h3:a ≠ b:=by rintro rfl;exact h2 h1
    have h4:b ≠ a:=fun h=>h3 h.symm
    exact .inl (by simp [h1,h2,h3,h4])
   ·by_cases h2:b < a
    ·have h3:a ≠ b:=by rintro rfl;exact h1 h2
     have h4:b ≠ a:=fun h=>h3 h.symm
     exact .inr (.inr (by simp [h1,h2,h3,h4]))
    ·have h3:a = b:=by
      have:a.toNat = b.toNat:=by rw [UInt8.lt_iff_toNat_lt] at *;omega
      exact UInt8.toNat.inj this
     subst h3;simp only [h1,decide_false,Bool.false_or,beq_self_eq_true,Bool.true_and,List.cons.injEq,true_and,ne_eq];exact JQ x y
theorem vf : ∀ {a b c:List UInt8},bytesLess a b = true → bytesLess b c = true → bytesLess a c = true
 | _,_,[],_,h=>by cases ‹List UInt8›<;>simp [bytesLess] at h
 | a,[],_ :: _,h,_=>by cases a<;>simp [bytesLess] at h
 | [],_ :: _,_ :: _,_,_=>rfl
 | a :: x,b :: y,c :: z,h1,h2=>by
   simp only [bytesLess,Bool.or_eq_true,Bool.and_eq_true,decide_eq_true_eq,beq_iff_eq,UInt8.lt_iff_toNat_lt] at *
   rcases h1 with h1|⟨rfl,h1⟩
   ·rcases h2 with h2|⟨rfl,h2⟩
    ·exact .inl (by omega)
    ·exact .inl h1
   ·rcases h2 with h2|⟨rfl,h2⟩
    ·exact .inl h2
    ·exact .inr ⟨rfl,vf h1 h2⟩
theorem zp (a:List UInt8):bytesLess a a = false:=by
 rcases JQ a a with h|h|h
 ·exact absurd rfl h.2.2
 ·exact h.2.1
 ·exact absurd rfl h.2.2
theorem kQ (a b:qb):vp a b < 0 ↔ bytesLess a b = true:=by
 unfold vp;rcases JQ a b with ⟨h1,h2,h3⟩|⟨rfl,h2,h3⟩|⟨h1,h2,h3⟩<;>simp [*]
theorem yR (a b:qb):vp a b = 0 ↔ a = b:=by
 unfold vp;rcases JQ a b with ⟨h1,h2,h3⟩|⟨rfl,h2,h3⟩|⟨h1,h2,h3⟩<;>simp [*]
theorem qas (a b:qb):0 < vp a b ↔ bytesLess b a = true:=by
 unfold vp;rcases JQ a b with ⟨h1,h2,h3⟩|⟨rfl,h2,h3⟩|⟨h1,h2,h3⟩<;>simp [*]
theorem KC (a:qb):vp a a = 0:=(yR a a).2 rfl
def jp {α:Type} (f:α → Int):List α → Int
 | []=>0
 | x :: l=>if f x = 0 then jp f l else f x
def ql {α:Type} (lt:α → α → Bool):List α → Bool
 | []=>true
 | x :: l=>(match l with | []=>true|y :: _=>lt x y) && ql lt l
theorem jA {α:Type} {f:α → Int} : ∀ {l:List α},jp f l = 0 ↔ ∀ x,x ∈ l → f x = 0
 | []=>by simp [jp]
 | x :: l=>by
   simp only [jp,List.mem_cons,forall_eq_or_imp];by_cases h:f x = 0
   ·simp [h,jA (l:=l)]
   ·simp [h]
theorem kY {α:Type} {f:α → Int} {l:List α} {k:Nat} (hk:k < l.length) (h : ∀ x,x ∈ l.take k → f x = 0) (he:f l[k] ≠ 0):jp f l = f l[k]:=by
 induction l generalizing k with
 | nil=>simp at hk
 | cons x l ih =>
   cases k with
   | zero=>simp only [jp,List.getElem_cons_zero] at he ⊢;rw [if_neg he]
   | succ k =>
     have hx:f x = 0:=h x (by simp);simp only [jp,hx,if_true,List.getElem_cons_succ];exact ih (by simpa using hk) (fun y hy=>h y (by simp [hy])) (by simpa using he)
theorem yt {α:Type} {lt:α → α → Bool} : ∀ {l:List α},ql lt l = true ↔ ∀ (k:Nat) (h:k + 1 < l.length),lt (l[k]'(by omega)) l[k + 1] = true
 | []=>by simp [ql]
 | [x]=>by simp [ql]
 | x :: y :: l=>by
   have ih:=yt (lt:=lt) (l:=y :: l);simp only [ql,Bool.and_eq_true] at ih ⊢;constructor
   ·rintro ⟨h1,h2⟩ k hk
    cases k with
    | zero=>exact h1
    | succ k=>exact ih.1 h2 k (by simpa using hk)
   ·intro h;exact ⟨h 0 (by simp),ih.2 fun k hk=>h (k + 1) (by simpa using hk)⟩
structure Ent where
 path:qb
 fold:Bool
 text:qb
 ver:Int
 deriving DecidableEq
structure Chg where
 kind:Int
 path:qb
 to:qb
 text:qb
 base:Int
 deriving DecidableEq
def yq (a b:Ent):Bool:=bytesLess a.path b.path
def atP (p:qb) (x:Ent):Bool:=decide (x.path = p)
def x7 (t:List Ent) (p:qb):Nat:=(t.takeWhile (fun x=>bytesLess x.path p)).length
def vB (t:List Ent) (p:qb):Bool:=t.any (atP p)
def wN (n:Int):Bool:=decide (1 ≤ n) && decide (n ≤ 1000000)
def xA (e:Ent):Int:=if qA e.path = 0 then (if e.fold = true ∧ ¬ e.text = [] then 1 else if 300 < e.text.length then 2 else if wN e.ver = true then 0 else 3) else qA e.path
def yX (t:List Ent) (q:qb):Int:=if q = [] then 0 else match t.find? (atP q) with|none=>5|some x=>if x.fold = true then 0 else 4
def xW (t:List Ent) (x:Ent):Int:=yX t (qM x.path)
def jv (t:List Ent):Int :=
 if 60 < t.length then 2
 else if jp xA t = 0 then
  if ql yq t = true then
   if t.any (fun x=>decide (xW t x = 5)) = true then 5
   else if t.any (fun x=>decide (¬ xW t x = 0)) = true then 4 else 0
  else 4
 else jp xA t
theorem zx {t:List Ent} (h:ql yq t = true) : ∀ (j k:Nat) (hj:j < t.length) (hk:k < t.length),j < k → bytesLess t[j].path t[k].path = true:=by
 intro j k hj hk hjk
 induction k with
 | zero=>omega
 | succ k ih =>
   have h1:bytesLess t[k].path t[k + 1].path = true:=yt.1 h k hk;by_cases e:j = k
   ·subst e;exact h1
   ·exact vf (ih (by omega) (by omega)) h1
theorem vQ {t:List Ent}:ql yq t = true ↔ t.Pairwise (fun a b=>bytesLess a.path b.path = true):=by
 rw [List.pairwise_iff_getElem];constructor
 ·intro h i j hi hj hij;exact zx h i j hi hj hij
 ·intro h;exact yt.2 fun k hk=>h k (k + 1) (by omega) hk (by omega)
theorem qcF {p:qb} : ∀ {t:List Ent} {k:Nat},k ≤ t.length → (∀ (j:Nat) (h:j < t.length),j < k → bytesLess t[j].path p = true) → (∀ (h:k < t.length),bytesLess t[k].path p = false) → x7 t p = k
 | [],k,hk,_,_=>by simp at hk;simp [x7,hk]
 | x :: l,0,hk,_,h2=>by
   have:=h2 (by simp);simp only [List.getElem_cons_zero] at this;simp [x7,List.takeWhile_cons,this]
 | x :: l,k + 1,hk,h1,h2=>by
   have hx:bytesLess x.path p = true:=h1 0 (by simp) (by omega);have:=qcF (t:=l) (k:=k) (by simpa using hk) (fun j h hj=>h1 (j + 1) (by simpa using h) (by omega)) (fun h=>h2 (by simpa using h));simp only [x7] at this;simp [x7,List.takeWhile_cons,hx,this]
theorem qna (t:List Ent) (p:qb):x7 t p ≤ t.length:=by
 induction t with
 | nil=>simp [x7]
 | cons x l ih=>simp only [x7,List.takeWhile_cons] at *;split<;>simp<;>omega
theorem qhH {t:List Ent} {p:qb} (hs:ql yq t = true) {k:Nat} (hk:k < t.length) (he:t[k].path = p):x7 t p = k:=by
 refine qcF (by omega) (fun j hj hjk=>?_) (fun _=>?_)
 ·rw [← he];exact zx hs j k hj hk hjk
 ·rw [← he];exact zp _
theorem qdV {t:List Ent} {p:qb} (hs:ql yq t = true):vB t p = (match t[x7 t p]? with|some x=>decide (vp x.path p = 0)|none=>false):=by
 rcases xM (atP p) t with ⟨_,h2⟩|⟨k,hk,_,_,h3⟩
 ·have:vB t p = false:=List.any_eq_false.2 (fun x hx=>by rw [h2 x hx];simp);rw [this];split
  ·rename_i x hx;have hm:=List.mem_of_getElem? hx;have:=h2 x hm;rw [eq_comm,decide_eq_false_iff_not,yR];simpa [atP] using this
  ·rfl
 ·have he:t[k].path = p:=by simpa [atP] using h3
  have:vB t p = true:=List.any_eq_true.2 ⟨t[k],List.getElem_mem _,h3⟩;rw [this,qhH hs hk he,List.getElem?_eq_getElem hk];simp [he,KC]
theorem qcq {t:List Ent} {p:qb} (hs:ql yq t = true) (h:vB t p = true) : ∃ hk:x7 t p < t.length,t[x7 t p].path = p ∧ t.find? (atP p) = some t[x7 t p] ∧ yN (atP p) t = x7 t p:=by
 obtain ⟨x,hx,hk⟩:=List.any_eq_true.1 h;obtain ⟨k,hkl,rfl⟩:=List.getElem_of_mem hx;have he:t[k].path = p:=by simpa [atP] using hk
 have hp:=qhH hs hkl he
 have hbef : ∀ j (hj:j < k),atP p (t[j]'(by omega)) = false:=fun j hj=>by
  have h1:=zx hs j k (by omega) hkl hj;have:¬ t[j].path = p:=fun e=>by rw [e,he,zp] at h1;cases h1
  simp [atP,this]
 refine ⟨by omega,by simp only [hp];exact he,?_,?_⟩
 ·simp only [hp];rw [List.find?_eq_some_iff_getElem];exact ⟨hk,k,hkl,rfl,fun j hj=>by rw [hbef j hj];rfl⟩
 ·rw [hp];refine wb hkl (fun x hx=>?_) hk;obtain ⟨j,hj,rfl⟩:=List.getElem_of_mem hx;rw [List.getElem_take];exact hbef j (by simp at hj;omega)
theorem Xc {t:List Ent} {p:qb} (h:vB t p = false):t.find? (atP p) = none ∧ yN (atP p) t = -1:=by
 have h1:=List.any_eq_false.1 h;exact ⟨List.find?_eq_none.2 h1,zt fun x hx=>by simpa using h1 x hx⟩
theorem XT {α:Type} (p:α → Bool) (l:List α):(yN p l = -1 ∧ l.find? p = none) ∨ ∃ (k:Nat) (h:k < l.length),yN p l = k ∧ l.find? p = some l[k]:=by
 rcases xM p l with ⟨h1,h2⟩|⟨k,hk,h1,h2,h3⟩
 ·exact .inl ⟨h1,List.find?_eq_none.2 fun x hx=>by rw [h2 x hx];simp⟩
 ·refine .inr ⟨k,hk,h1,?_⟩;rw [List.find?_eq_some_iff_getElem];refine ⟨h3,k,hk,rfl,fun j hj=>?_⟩;rw [h2 _ (List.mem_take_iff_getElem.2 ⟨j,by omega,rfl⟩)];rfl
structure Com where
 num:Int
 key:qb
 chs:List Chg
 deriving DecidableEq
structure Pag where
 reset:Bool
 tree:List Ent
 coms:List Com
 cur:Int
 more:Bool
 deriving DecidableEq
def ze:Pag:=⟨false,[],[],0,false⟩
structure Rqt where
 kind:Int
 who:qb
 folder:qb
 name:qb
 key:qb
 text:qb
 number:Int
 offset:Int
 base:Int
 chs:List Chg
 deriving DecidableEq
def noRqt:Rqt:=⟨0,[],[],[],[],[],0,0,0,[]⟩
structure Ans where
 err:Int
 num:Int
 page:Pag
def noAns:Ans:=⟨0,0,ze⟩
end Go.Proofs.YtgcncinnlmjgdaaGreatDoor
namespace Go.Proofs.YtgcncinnlmjgdaaGreatDoor
def qq (n a b:Int):Bool:=decide (a ≤ n) && decide (n ≤ b)
def jQ (l:List Sess) (who:qb):Int:=(l.map fun s=>if s.who = who then s.size else 0).sum
def yj (next:Int) (s:Sess):Int :=
 if qq s.number 1 (next - 1) && qq s.size 0 300 && qq s.till 0 2199023255552 then
  if qj s.who then if s.size < s.text.length then 2 else 0 else 1
 else 3
def wL (u:Upl):Bool:=qq u.lasts 1 1000000 && qq u.room 0 100000 && qq u.next 1 1099511627776
def qeF (u:Upl):Bool:=u.sess.all fun s=>decide (jQ u.sess s.who ≤ u.room)
def yu (u:Upl):Int :=
 if wL u then
  if 20 < u.sess.length then 2
  else if jp (yj u.next) u.sess = 0 then
   if ql (fun a b=>decide (a.number < b.number)) u.sess then
    if qeF u then 0 else 10
   else 4
  else jp (yj u.next) u.sess
 else 3
theorem vS {next:Int} {s:Sess} (h:yj next s = 0):0 ≤ s.size ∧ s.size ≤ 300:=by
 unfold yj at h;split at h
 ·rename_i h1;simp [qq] at h1;omega
 ·cases h
theorem Ku (l:List Sess) (s:Sess) (who:qb):jQ (l ++ [s]) who = jQ l who + (if s.who = who then s.size else 0):=by simp [jQ]
theorem qei {l:List Sess} {k:Nat} (h:k < l.length) (who:qb):jQ (l.take (k + 1)) who = jQ (l.take k) who + (if l[k].who = who then l[k].size else 0):=by
 rw [List.take_succ_eq_append_getElem h,Ku]
theorem qbx {l:List Sess} (who:qb) (h : ∀ s,s ∈ l → 0 ≤ s.size ∧ s.size ≤ 300):0 ≤ jQ l who ∧ jQ l who ≤ 300 * l.length:=by
 induction l with
 | nil=>simp [jQ]
 | cons s l ih =>
   obtain ⟨h1,h2⟩:=ih fun s hs=>h s (List.mem_cons_of_mem _ hs)
   obtain ⟨h3,h4⟩:=h s (List.mem_cons_self ..);have:jQ (s :: l) who = (if s.who = who then s.size else 0) + jQ l who:=by simp [jQ]
   rw [this];split<;>simp<;>omega
theorem qej {l:List Sess} (who:qb) (h : ∀ s,s ∈ l → 0 ≤ s.size ∧ s.size ≤ 300) (k:Nat):0 ≤ jQ (l.take k) who ∧ jQ (l.take k) who ≤ 300 * k:=by
 obtain ⟨h1,h2⟩:=qbx (l:=l.take k) who (fun s hs=>h s (List.mem_of_mem_take hs));exact ⟨h1,by have:(l.take k).length ≤ k:=List.length_take_le _ _;omega⟩
theorem qfz {α:Type} {p:α → Bool} {l:List α} {k:Nat} (hk:k < l.length) (hp:p l[k] = true):(l.take (k + 1)).filter p = (l.take k).filter p ++ [l[k]]:=by
 rw [List.take_succ_eq_append_getElem hk,List.filter_append];simp [hp]
theorem Km {α:Type} {p:α → Bool} {l:List α} {k:Nat} (hk:k < l.length) (hp:p l[k] = false):(l.take (k + 1)).filter p = (l.take k).filter p:=by
 rw [List.take_succ_eq_append_getElem hk,List.filter_append];simp [hp]
structure Del {α:Type} (p:α → Bool) (l:List α) (i j:Nat) (R:List α):Prop where
 len:R.length = l.length
 le:i ≤ j
 jn:j ≤ l.length
 head:R.take i = (l.take j).filter p
 tail:R.drop j = l.drop j
theorem Del.start {α:Type} {p:α → Bool} {l:List α} {i:Nat} (hi:i < l.length) (ha:(l.take i).all p = true) (hp:p l[i] = false):Del p l i (i + 1) l where
 len:=rfl
 le:=by omega
 jn:=by omega
 head:=by
  rw [Km hi hp];symm;rw [List.filter_eq_self];intro a hm;rw [List.all_eq_true] at ha;exact ha a hm
 tail:=rfl
theorem Del.at {α:Type} {p:α → Bool} {l:List α} {i j:Nat} {R:List α} (h:Del p l i j R) (hj:j < l.length):R[j]'(by rw [h.len];exact hj) = l[j]:=by
 have h1:=congrArg (fun x=>x[0]?) h.tail;simp only [List.getElem?_drop,Nat.add_zero] at h1;rw [List.getElem?_eq_getElem (by rw [h.len];exact hj),List.getElem?_eq_getElem hj] at h1;injection h1
theorem Del.drop {α:Type} {p:α → Bool} {l:List α} {i j:Nat} {R:List α} (h:Del p l i j R) (hj:j < l.length) (hp:p l[j] = false):Del p l i (j + 1) R where
 len:=h.len
 le:=by have:=h.le;omega
 jn:=by omega
 head:=by rw [Km hj hp,h.head]
 tail:=by
  have:=congrArg (List.drop 1) h.tail
  rwa [List.drop_drop,List.drop_drop] at this
theorem Del.keep {α:Type} {p:α → Bool} {l:List α} {i j:Nat} {R:List α} (h:Del p l i j R) (hj:j < l.length) (hp:p l[j] = true):Del p l (i + 1) (j + 1) (R.set i l[j]) where
 len:=by rw [List.length_set,h.len]
 le:=by have:=h.le;omega
 jn:=by omega
 head:=by
  have hi:i < R.length:=by have:=h.le;rw [h.len];omega
  rw [qfz hj hp, ← h.head,List.take_succ_eq_append_getElem (by simpa using hi),List.take_set_of_le (Nat.le_refl _)];simp
 tail:=by
  have:=congrArg (List.drop 1) h.tail;rw [List.drop_drop,List.drop_drop] at this;rw [List.drop_set_of_lt (by have:=h.le;omega)];exact this
theorem Del.end_ {α:Type} {p:α → Bool} {l:List α} {i j:Nat} {R:List α} (h:Del p l i j R) (hj:¬ j < l.length):R.take i = l.filter p:=by
 have:=h.head
 rwa [List.take_of_length_le (l:=l) (by omega)] at this
end Go.Proofs.YtgcncinnlmjgdaaGreatDoor
