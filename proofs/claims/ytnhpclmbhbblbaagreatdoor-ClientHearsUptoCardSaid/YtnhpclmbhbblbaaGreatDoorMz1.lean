import Derived.WalkKit
namespace Go.Proofs.YtnhpclmbhbblbaaGreatDoor
open Go.RowKit
abbrev qQ:=List UInt8
structure Sess where
 number:Int
 who:qQ
 text:qQ
 size:Int
 till:Int
 deriving DecidableEq
def Sess.cells (s:Sess):List Value:=[.int .i64 s.number,.string ⟨s.who.toArray⟩,.string ⟨s.text.toArray⟩,.int .i64 s.size,.int .i64 s.till]
structure Upl where
 sess:List Sess
 next:Int
 lasts:Int
 room:Int
 deriving DecidableEq
structure Gra where
 folder:qQ
 who:qQ
 right:Int
 deriving DecidableEq
def Gra.cells (s:Gra):List Value:=[.string ⟨s.folder.toArray⟩,.string ⟨s.who.toArray⟩,.int .i64 s.right]
def Zs (c:UInt8):Bool :=
 (97 ≤ c.toNat && c.toNat ≤ 122) || (65 ≤ c.toNat && c.toNat ≤ 90) || (48 ≤ c.toNat && c.toNat ≤ 57) || c.toNat == 45 || c.toNat == 95 || c.toNat == 46 || c.toNat == 40 || c.toNat == 41 || c.toNat == 32
def jP (s:qQ):Bool := !s.isEmpty && decide (s.length ≤ 20) && s != [46] && s != [46,46] && s.head? != some 32 && s.getLast? != some 32 && s.all Zs
def Sl {α:Type} (c:α → List Value) (sz:Nat) (w:World) (B:Nat) (v:Value) (l:List α):Prop :=
 ∃ A cap,v = .slice A l.length cap ∧ l.length ≤ cap ∧ cap ≤ maxLen ∧ ∀ k (h:k < l.length), ∃ b off,A = some ⟨b,off,none⟩ ∧ b < B ∧
   ∀ j u,(c l[k])[j]? = some u → w.cell? ⟨b,off + k * sz + j,none⟩ = some u
section
variable {α:Type} {c:α → List Value} {sz:Nat} {w w' : World} {B B' : Nat} {v:Value} {l:List α}
theorem Sl.nil:Sl c sz w B (.slice none 0 0) []:=⟨none,0,rfl,Nat.le_refl _,Nat.zero_le _,fun k h=>absurd h (Nat.not_lt_zero k)⟩
theorem Sl.keep (h:Sl c sz w B v l) (hk : ∀ p:Addr,p.block < B → w'.cell? p = w.cell? p):Sl c sz w' B v l:=by
 obtain ⟨A,cap,hv,h1,h2,h3⟩:=h
 refine ⟨A,cap,hv,h1,h2,fun k hkl=>?_⟩
 obtain ⟨b,off,hA,hB,hc⟩:=h3 k hkl
 exact ⟨b,off,hA,hB,fun j u hu=>(hk ⟨b,off + k * sz + j,none⟩ hB).trans (hc j u hu)⟩
theorem Sl.more (h:Sl c sz w B v l) (hB:B ≤ B'):Sl c sz w B' v l:=by
 obtain ⟨A,cap,hv,h1,h2,h3⟩:=h
 refine ⟨A,cap,hv,h1,h2,fun k hkl=>?_⟩
 obtain ⟨b,off,hA,hb,hc⟩:=h3 k hkl
 exact ⟨b,off,hA,by omega,hc⟩
theorem Sl.below (h:Sl c sz w B v l) (hb:Below B w w'):Sl c sz w' B v l:=h.keep fun _ hp=>hb.cell hp
theorem Sl.at (h:Sl c sz w B v l) {A:Option Addr} {n cap:Nat} (hv:v = .slice A n cap) {k:Nat} (hk:k < l.length) :
  ∃ b off,A = some ⟨b,off,none⟩ ∧ b < B ∧ ∀ j u,(c l[k])[j]? = some u → w.cell? ⟨b,off + k * sz + j,none⟩ = some u:=by
 obtain ⟨A',cap',hv',_,_,h3⟩:=h
 rw [hv] at hv'
 injection hv' with e1 e2 e3
 subst e1
 exact h3 k hk
end
theorem Sl.sess {w:World} {B:Nat} {A:Option Addr} {n cap:Nat} {l:List Sess} (h:Sl Sess.cells 5 w B (.slice A n cap) l) {k:Nat} (hk:k < l.length) :
  ∃ b off,A = some ⟨b,off,none⟩ ∧ b < B ∧ w.cell? ⟨b,off + k * 5,none⟩ = some (.int .i64 l[k].number) ∧ w.cell? ⟨b,off + k * 5 + 1,none⟩ = some (.string ⟨l[k].who.toArray⟩) ∧
    w.cell? ⟨b,off + k * 5 + 2,none⟩ = some (.string ⟨l[k].text.toArray⟩) ∧ w.cell? ⟨b,off + k * 5 + 3,none⟩ = some (.int .i64 l[k].size) ∧ w.cell? ⟨b,off + k * 5 + 4,none⟩ = some (.int .i64 l[k].till):=by
 obtain ⟨b,off,hA,hB,hc⟩:=h.at rfl hk
 exact ⟨b,off,hA,hB,hc 0 _ rfl,hc 1 _ rfl,hc 2 _ rfl,hc 3 _ rfl,hc 4 _ rfl⟩
theorem Zm {α:Type} {l:List α} {k:Nat} (h:k < l.length):l.take (k + 1) = l.take k ++ [l[k]]:=by
 rw [List.take_succ_eq_append_getElem h]
end Go.Proofs.YtnhpclmbhbblbaaGreatDoor
set_option linter.unusedSimpArgs false
set_option linter.unnecessarySimpa false
namespace Go.Proofs.YtnhpclmbhbblbaaGreatDoor
def qo:qQ → List qQ
 | [] => [[]]
 | c :: s=>if c = 47 then [] :: qo s else match qo s with | [] => [[c]]|n :: l=>(c :: n) :: l
def yF:List qQ → qQ
 | [] => []
 | [n]=>n
 | n :: l=>n ++ 47 :: yF l
theorem xo (p:qQ):qo p ≠ []:=by
 cases p with
 | nil=>simp [qo]
 | cons c s=>simp only [qo];split<;>(try split)<;>simp
theorem yU : ∀ {a:qQ},(47:UInt8) ∉ a → qo a = [a]
 | [],_=>rfl
 | c :: s,h=>by
   have hc:c ≠ 47:=fun e=>h (by simp [e])
   have hs:(47:UInt8) ∉ s:=fun e=>h (by simp [e])
   simp [qo,hc,yU hs]
theorem k8 : ∀ {a:qQ} (b:qQ),(47:UInt8) ∉ a → qo (a ++ 47 :: b) = a :: qo b
 | [],b,_=>by simp [qo]
 | c :: s,b,h=>by
   have hc:c ≠ 47:=fun e=>h (by simp [e])
   have hs:(47:UInt8) ∉ s:=fun e=>h (by simp [e])
   simp [qo,hc,k8 b hs]
theorem QL : ∀ (p:qQ), ∀ n,n ∈ qo p → (47:UInt8) ∉ n
 | [],n,h=>by simp [qo] at h;subst h;simp
 | c :: s,n,h=>by
   have ih:=QL s
   simp only [qo] at h
   split at h
   ·rcases List.mem_cons.1 h with rfl|h
    ·simp
    ·exact ih n h
   ·rename_i hc
    split at h
    ·simp at h;subst h;simpa using fun e=>hc e.symm
    ·rename_i m l hm
     rcases List.mem_cons.1 h with rfl|h
     ·have:=ih m (by rw [hm];simp)
      simp only [List.mem_cons,not_or];exact ⟨fun e=>hc e.symm,this⟩
     ·exact ih n (by rw [hm];simp [h])
theorem zm {n:qQ} {l:List qQ} (h:l ≠ []):yF (n :: l) = n ++ 47 :: yF l:=by
 cases l with
 | nil=>exact absurd rfl h
 | cons m l=>rfl
theorem yQ : ∀ (p:qQ),yF (qo p) = p
 | []=>rfl
 | c :: s=>by
   have ih:=yQ s
   have hne:=xo s
   simp only [qo]
   split
   ·rename_i hc;subst hc
    rw [zm hne,ih];rfl
   ·split
    ·rename_i h;exact absurd h hne
    ·rename_i n l h
     rw [h] at ih
     cases l with
     | nil=>simp only [yF] at ih ⊢;rw [ih]
     | cons m l=>rw [zm (by simp)] at ih ⊢;rw [← ih];rfl
theorem QM : ∀ {l:List qQ},l ≠ [] → (∀ n,n ∈ l → (47:UInt8) ∉ n) → qo (yF l) = l
 | [],h,_=>absurd rfl h
 | [n],_,hf=>yU (hf n (by simp))
 | n :: m :: l,_,hf=>by
   rw [zm (by simp),k8 _ (hf n (by simp)),QM (by simp) fun x hx=>hf x (by simp [hx])]
theorem wW (p:qQ):(qo p).length = p.count 47 + 1:=by
 induction p with
 | nil=>rfl
 | cons c s ih =>
   have hne:=xo s
   simp only [qo]
   split
   ·rename_i hc;subst hc;simp [ih]
   ·rename_i hc
    rw [List.count_cons_of_ne (fun e=>hc e)]
    split
    ·rename_i h;exact absurd h hne
    ·rename_i n l h;rw [h] at ih;exact ih
theorem vO (a b:qQ):qo (a ++ 47 :: b) = qo a ++ qo b:=by
 induction a with
 | nil=>simp [qo]
 | cons c s ih =>
   have hne:=xo s
   simp only [List.cons_append,qo,ih]
   split
   ·rfl
   ·split
    ·rename_i h;exact absurd (List.append_eq_nil_iff.1 h).1 hne
    ·rename_i n l h
     split
     ·rename_i h';exact absurd h' hne
     ·rename_i n' l' h'
      rw [h'] at h
      simp only [List.cons_append,List.cons.injEq] at h
      obtain ⟨rfl,rfl⟩:=h;rfl
theorem QP {a b:List qQ} (ha:a ≠ []) (hb:b ≠ []):yF (a ++ b) = yF a ++ 47 :: yF b:=by
 induction a with
 | nil=>exact absurd rfl ha
 | cons n l ih =>
   cases l with
   | nil=>rw [List.singleton_append,zm hb];rfl
   | cons m l=>rw [List.cons_append,zm (l:=m :: l ++ b) (by simp),ih (by simp),zm (n:=n) (l:=m :: l) (by simp)];simp
theorem KH (p q:qQ):qo q <+: qo p ↔ p = q ∨ (q ++ [47]) <+: p:=by
 constructor
 ·rintro ⟨t,ht⟩
  cases t with
  | nil =>
    left
    rw [List.append_nil] at ht
    rw [← yQ p, ← ht,yQ]
  | cons n t =>
    right
    have h:=yQ p
    rw [← ht,QP (xo q) (by simp),yQ] at h
    exact ⟨yF (n :: t),by rw [List.append_assoc];exact h⟩
 ·rintro (rfl|⟨t,ht⟩)
  ·exact List.prefix_refl _
  ·rw [← ht,List.append_assoc]
   exact ⟨qo t,by rw [← vO];rfl⟩
def j9 (c:UInt8):qQ → Int
 | [] => -1
 | x :: l=>if 0 ≤ j9 c l then j9 c l + 1 else if x = c then 0 else -1
theorem vV {c:UInt8} : ∀ {p:qQ},c ∉ p → j9 c p = -1
 | [],_=>rfl
 | x :: l,h=>by
   have h1:¬ x = c:=fun e=>h (by simp [e])
   have h2:=vV (c:=c) (p:=l) fun e=>h (by simp [e])
   simp [j9,h2,h1]
theorem wz {c:UInt8} : ∀ {a b:qQ},c ∉ b → j9 c (a ++ c :: b) = a.length
 | [],b,h=>by simp [j9,vV h]
 | x :: a,b,h=>by
   have h2:=wz (a:=a) h
   simp only [List.cons_append,j9,h2,List.length_cons]
   rw [if_pos (by omega)];omega
theorem Qp {c:UInt8} : ∀ (p:qQ),c ∉ p ∨ ∃ a b,p = a ++ c :: b ∧ c ∉ b
 | [] => .inl (by simp)
 | x :: l=>by
   rcases Qp (c:=c) l with h|⟨a,b,h1,h2⟩
   ·by_cases e:x = c
    ·exact .inr ⟨[],l,by simp [e],h⟩
    ·exact .inl (by simp only [List.mem_cons,not_or];exact ⟨fun h=>e h.symm,h⟩)
   ·exact .inr ⟨x :: a,b,by simp [h1],h2⟩
theorem qa2 {c:UInt8} {p:qQ} {k:Nat} (hk:k < p.length) (he:p[k] = c) (h:c ∉ p.drop (k + 1)):j9 c p = k:=by
 have h1:p = p.take k ++ c :: p.drop (k + 1):=by rw [← he, ← List.drop_eq_getElem_cons hk,List.take_append_drop]
 rw [h1,wz h,List.length_take,Nat.min_eq_left (by omega)]
theorem wA (c:UInt8) (p:qQ) : -1 ≤ j9 c p ∧ j9 c p < p.length:=by
 rcases Qp (c:=c) p with h|⟨a,b,h1,h2⟩
 ·rw [vV h];omega
 ·rw [h1,wz h2];simp;omega
def qG (p:qQ):qQ:=p.take (j9 47 p).toNat
def qY (p:qQ):qQ:=p.drop (j9 47 p + 1).toNat
theorem vL (p:qQ):qo p = (qo p).dropLast ++ [qY p] ∧ yF (qo p).dropLast = qG p:=by
 rcases Qp (c:=47) p with h|⟨a,b,h1,h2⟩
 ·rw [yU h,qY,qG,vV h]
  exact ⟨by simp,rfl⟩
 ·have h3:=wz (a:=a) h2
  have h4:qY p = b:=by
   rw [qY,h1,h3,show ((a.length:Int) + 1).toNat = a.length + 1 from by omega]
   rw [List.drop_append,List.drop_of_length_le (by omega),List.nil_append,show a.length + 1 - a.length = 1 from by omega];rfl
  have h5:qG p = a:=by
   rw [qG,h1,h3,show (a.length:Int).toNat = a.length from by omega,List.take_left]
  have h6:qo p = qo a ++ [b]:=by rw [h1,vO,yU h2]
  rw [h4,h5,h6]
  exact ⟨by simp,by simp [yQ]⟩
def jZ (p:qQ):Bool:=decide (6 < (qo p).length) || decide (80 < p.length)
def qy (p:qQ):Int:=if (qo p).all jP then (if jZ p then 2 else 0) else 1
theorem Jq (p:qQ):jZ p = (decide (6 ≤ p.count 47) || decide (80 < p.length)):=by
 unfold jZ
 rw [wW]
 congr 1
 simp only [decide_eq_decide];omega
def xb:List qQ → Int
 | []=>0
 | p :: l=>if qy p = 0 then xb l else qy p
def zM (p n:qQ):qQ:=if p = [] then n else p ++ 47 :: n
def inB (p q:qQ):Bool:=decide (p = q) || (q ++ [47]).isPrefixOf p
theorem Vh (p q:qQ):inB p q = (qo q).isPrefixOf (qo p):=by
 rw [Bool.eq_iff_iff,List.isPrefixOf_iff_prefix,KH]
 simp [inB]
theorem Z5 {p f t:qQ} (h:inB p f = true):yF (qo t ++ (qo p).drop (qo f).length) = t ++ p.drop f.length:=by
 simp only [inB,Bool.or_eq_true,decide_eq_true_eq,List.isPrefixOf_iff_prefix] at h
 rcases h with rfl|⟨s,rfl⟩
 ·rw [List.drop_of_length_le (Nat.le_refl _),List.drop_of_length_le (Nat.le_refl _),List.append_nil,List.append_nil,yQ]
 ·rw [List.append_assoc]
  show yF (qo t ++ (qo (f ++ 47 :: s)).drop (qo f).length) = _
  rw [vO,List.drop_left,QP (xo _) (xo _),yQ,yQ]
  congr 1
  rw [List.drop_left];rfl
def zh (s:qQ):qQ:=(s.reverse.dropWhile (· == 32)).reverse
theorem Yk (s:qQ) (c:UInt8):zh (s ++ [c]) = if c = 32 then zh s else s ++ [c]:=by
 unfold zh
 rw [List.reverse_append]
 by_cases h:c = 32
 ·simp [h]
 ·simp [h,List.dropWhile_cons]
def ko (n:Int):qQ:=if n < 10 then [UInt8.ofNat (48 + n.toNat)] else [UInt8.ofNat (48 + n.toNat / 10),UInt8.ofNat (48 + n.toNat % 10)]
def vo (n:Int):qQ:=[32,40] ++ ko n ++ [41]
def vd (s:qQ):qQ:=if 0 < j9 46 s then s.take (j9 46 s).toNat else s
def zg (s:qQ):qQ:=if 0 < j9 46 s then s.drop (j9 46 s).toNat else []
def zQ (s:qQ) (n:Int):Int:=20 - (vo n).length - (zg s).length
def vE (s:qQ) (n:Int):qQ:=if zQ s n < (vd s).length then zh ((vd s).take (zQ s n).toNat) else vd s
def yr (p:qQ) (n:Int):qQ:=zM (qG p) (vE (qY p) n ++ vo n ++ zg (qY p))
def vz (p:qQ) (n:Int):Int:=if vE (qY p) n = [] then 2 else if jZ (yr p n) then 2 else 0
theorem JY (s:qQ):qo (s ++ [47]) = qo s ++ [[]]:=vO s []
theorem YQ {c:UInt8} (h:¬ c = 47) (s:qQ):qo (s ++ [c]) = (qo s).dropLast ++ [qY s ++ [c]]:=by
 rcases Qp (c:=47) s with hs|⟨a,b,h1,h2⟩
 ·have h3:(47:UInt8) ∉ s ++ [c]:=by simp only [List.mem_append,List.mem_singleton,not_or];exact ⟨hs,fun e=>h e.symm⟩
  rw [yU h3,yU hs,qY,vV hs];rfl
 ·have h3:(47:UInt8) ∉ b ++ [c]:=by simp only [List.mem_append,List.mem_singleton,not_or];exact ⟨h2,fun e=>h e.symm⟩
  have h4:=(vL s).1
  have h5:qo s = qo a ++ [b]:=by rw [h1,vO,yU h2]
  have h6:qY s = b:=by
   rw [h5] at h4
   simp only [List.dropLast_concat] at h4
   have:=List.append_cancel_left h4
   simpa using this.symm
  rw [h6,h5,h1,List.append_assoc]
  show qo (a ++ 47 :: (b ++ [c])) = _
  rw [vO,yU h3,List.dropLast_concat]
theorem Zx (s:qQ):(qY s).length ≤ s.length ∧ s.drop (s.length - (qY s).length) = qY s:=by
 unfold qY
 refine ⟨by simp,?_⟩
 rw [List.length_drop]
 by_cases h:(j9 47 s + 1).toNat ≤ s.length
 ·congr 1;omega
 ·have:=wA 47 s;omega
theorem XW {l:List qQ} {i:Nat} (h:i < l.length) (h0:0 < i):yF (l.take (i + 1)) = yF (l.take i) ++ [47] ++ l[i]:=by
 rw [List.take_succ_eq_append_getElem h,QP (by intro e;rw [List.take_eq_nil_iff] at e;rcases e with e|e<;>simp_all) (by simp)]
 simp [yF]
theorem Y0 {l:List qQ} (h:0 < l.length):yF (l.take 1) = l[0]:=by
 cases l with
 | nil=>simp at h
 | cons x l=>simp [yF]
theorem qbd {a b:List qQ} (hl:b.length ≤ a.length) (h : ∀ k (hk:k < b.length),a[k] = b[k]):b.isPrefixOf a = true:=by
 rw [List.isPrefixOf_iff_prefix,List.prefix_iff_eq_take]
 refine List.ext_getElem (by simp;omega) fun i h1 h2=>?_
 rw [List.getElem_take];exact (h i h1).symm
theorem qbf {a b:List qQ} (hl:¬ b.length ≤ a.length):b.isPrefixOf a = false:=by
 cases h:b.isPrefixOf a
 ·rfl
 ·exact absurd (List.isPrefixOf_iff_prefix.1 h).length_le hl
theorem qbe {a b:List qQ} {k:Nat} (hl:b.length ≤ a.length) (hk:k < b.length) (h:¬ a[k] = b[k]):b.isPrefixOf a = false:=by
 cases e:b.isPrefixOf a
 ·rfl
 ·obtain ⟨t,rfl⟩:=List.isPrefixOf_iff_prefix.1 e
  exact absurd (List.getElem_append_left hk) h
end Go.Proofs.YtnhpclmbhbblbaaGreatDoor
set_option linter.unusedSimpArgs false
namespace Go.Proofs.YtnhpclmbhbblbaaGreatDoor
def xa {α:Type} (p:α → Bool):List α → Int
 | [] => -1
 | x :: l=>if p x then 0 else if xa p l < 0 then -1 else xa p l + 1
theorem Jd {α:Type} {p:α → Bool} : ∀ {l:List α} {k:Nat} (hk:k < l.length),(∀ x,x ∈ l.take k → p x = false) → p l[k] = true → xa p l = k
 | x :: l,0,hk,_,hp=>by simp only [List.getElem_cons_zero] at hp;simp [xa,hp]
 | x :: l,k + 1,hk,h,hp=>by
   have hx:p x = false:=h x (by simp)
   have:=Jd (l:=l) (k:=k) (by simpa using hk) (fun y hy=>h y (by simp [hy])) (by simpa using hp)
   simp only [xa,hx,Bool.false_eq_true,if_false,this]
   rw [if_neg (by omega)];omega
theorem wy {α:Type} {p:α → Bool} : ∀ {l:List α},(∀ x,x ∈ l → p x = false) → xa p l = -1
 | [],_=>rfl
 | x :: l,h=>by
   have:=wy (l:=l) fun y hy=>h y (by simp [hy])
   simp [xa,h x (by simp),this]
theorem kD {α:Type} (p:α → Bool) : ∀ (l:List α),(xa p l = -1 ∧ ∀ x,x ∈ l → p x = false) ∨ ∃ (k:Nat) (h:k < l.length),xa p l = k ∧ (∀ x,x ∈ l.take k → p x = false) ∧ p l[k] = true
 | [] => .inl ⟨rfl,by simp⟩
 | x :: l=>by
   by_cases hx:p x = true
   ·exact .inr ⟨0,by simp,by simp [xa,hx],by simp,by simpa using hx⟩
   ·have hx:p x = false:=by simpa using hx
    rcases kD p l with ⟨h1,h2⟩|⟨k,hk,h1,h2,h3⟩
    ·exact .inl ⟨by simp [xa,hx,h1],by simpa [hx] using h2⟩
    ·refine .inr ⟨k + 1,by simpa using hk,?_,?_,by simpa using h3⟩
     ·simp only [xa,hx,Bool.false_eq_true,if_false,h1]
      rw [if_neg (by omega)];omega
     ·intro y hy
      simp only [List.take_succ_cons,List.mem_cons] at hy
      rcases hy with rfl|hy
      ·exact hx
      ·exact h2 y hy
theorem Xr {α:Type} (p:α → Bool) (l:List α):decide (0 ≤ xa p l) = l.any p:=by
 rcases kD p l with ⟨h1,h2⟩|⟨k,hk,h1,h2,h3⟩
 ·rw [h1,eq_comm,show decide ((0:Int) ≤ -1) = false from rfl,List.any_eq_false]
  intro x hx
  simp [h2 x hx]
 ·rw [h1,eq_comm,show decide ((0:Int) ≤ (k:Int)) = true from decide_eq_true (by omega),List.any_eq_true]
  exact ⟨l[k],List.getElem_mem _,h3⟩
theorem jU {α:Type} {l:List α} {k:Nat} (hk:k < l.length) {p:α → Prop} (h : ∀ x,x ∈ l.take k → p x) (hx:p l[k]) : ∀ x,x ∈ l.take (k + 1) → p x:=by
 intro x hm
 rw [List.take_succ_eq_append_getElem hk] at hm
 rcases List.mem_append.1 hm with hm|hm
 ·exact h x hm
 ·simp at hm;exact hm ▸ hx
end Go.Proofs.YtnhpclmbhbblbaaGreatDoor
set_option linter.unusedSimpArgs false
set_option linter.unnecessarySimpa false
namespace Go.Proofs.YtnhpclmbhbblbaaGreatDoor
open Go.Op
def w9 (a b:qQ):Int:=if Op.bytesLess a b = true then -1 else if (!(Op.bytesLess a b || decide (a = b))) = true then 1 else 0
theorem w4 : ∀ (a b:List UInt8),(bytesLess a b = true ∧ bytesLess b a = false ∧ a ≠ b) ∨ (a = b ∧ bytesLess a b = false ∧ bytesLess b a = false) ∨ (bytesLess b a = true ∧ bytesLess a b = false ∧ a ≠ b)
 | [],[] => .inr (.inl ⟨rfl,rfl,rfl⟩)
 | [],b :: y => .inl ⟨rfl,rfl,by simp⟩
 | a :: x,[] => .inr (.inr ⟨rfl,rfl,by simp⟩)
 | a :: x,b :: y=>by
   simp only [bytesLess]
   by_cases h1:a < b
   ·have h2:¬ b < a:=by rw [UInt8.lt_iff_toNat_lt] at *;omega
    have h3:a ≠ b:=by rintro rfl;exact h2 h1
    have h4:b ≠ a:=fun h=>h3 h.symm
    exact .inl (by simp [h1,h2,h3,h4])
   ·by_cases h2:b < a
    ·have h3:a ≠ b:=by rintro rfl;exact h1 h2
     have h4:b ≠ a:=fun h=>h3 h.symm
     exact .inr (.inr (by simp [h1,h2,h3,h4]))
    ·have h3:a = b:=by
      have:a.toNat = b.toNat:=by rw [UInt8.lt_iff_toNat_lt] at *;omega
      exact UInt8.toNat.inj this
     subst h3
     simp only [h1,decide_false,Bool.false_or,beq_self_eq_true,Bool.true_and,List.cons.injEq,true_and,ne_eq]
     exact w4 x y
theorem ky : ∀ {a b c:List UInt8},bytesLess a b = true → bytesLess b c = true → bytesLess a c = true
 | _,_,[],_,h=>by cases ‹List UInt8›<;>simp [bytesLess] at h
 | a,[],_ :: _,h,_=>by cases a<;>simp [bytesLess] at h
 | [],_ :: _,_ :: _,_,_=>rfl
 | a :: x,b :: y,c :: z,h1,h2=>by
   simp only [bytesLess,Bool.or_eq_true,Bool.and_eq_true,decide_eq_true_eq,beq_iff_eq,UInt8.lt_iff_toNat_lt] at *
   rcases h1 with h1|⟨rfl,h1⟩
   ·rcases h2 with h2|⟨rfl,h2⟩
    ·exact .inl (by omega)
    ·exact .inl h1
   ·rcases h2 with h2|⟨rfl,h2⟩
    ·exact .inl h2
    ·exact .inr ⟨rfl,ky h1 h2⟩
theorem zj (a:List UInt8):bytesLess a a = false:=by
 rcases w4 a a with h|h|h
 ·exact absurd rfl h.2.2
 ·exact h.2.1
 ·exact absurd rfl h.2.2
theorem Zl (a b:qQ):w9 a b < 0 ↔ bytesLess a b = true:=by
 unfold w9;rcases w4 a b with ⟨h1,h2,h3⟩|⟨rfl,h2,h3⟩|⟨h1,h2,h3⟩<;>simp [*]
theorem X0 (a b:qQ):w9 a b = 0 ↔ a = b:=by
 unfold w9;rcases w4 a b with ⟨h1,h2,h3⟩|⟨rfl,h2,h3⟩|⟨h1,h2,h3⟩<;>simp [*]
theorem qaw (a:qQ):w9 a a = 0:=(X0 a a).2 rfl
def j3 {α:Type} (f:α → Int):List α → Int
 | []=>0
 | x :: l=>if f x = 0 then j3 f l else f x
def q4 {α:Type} (lt:α → α → Bool):List α → Bool
 | []=>true
 | x :: l=>(match l with | []=>true|y :: _=>lt x y) && q4 lt l
theorem vA {α:Type} {f:α → Int} : ∀ {l:List α},j3 f l = 0 ↔ ∀ x,x ∈ l → f x = 0
 | []=>by simp [j3]
 | x :: l=>by
   simp only [j3,List.mem_cons,forall_eq_or_imp]
   by_cases h:f x = 0
   ·simp [h,vA (l:=l)]
   ·simp [h]
theorem Jc {α:Type} {f:α → Int} {l:List α} {k:Nat} (hk:k < l.length) (h : ∀ x,x ∈ l.take k → f x = 0) (he:f l[k] ≠ 0):j3 f l = f l[k]:=by
 induction l generalizing k with
 | nil=>simp at hk
 | cons x l ih =>
   cases k with
   | zero=>simp only [j3,List.getElem_cons_zero] at he ⊢;rw [if_neg he]
   | succ k =>
     have hx:f x = 0:=h x (by simp)
     simp only [j3,hx,if_true,List.getElem_cons_succ]
     exact ih (by simpa using hk) (fun y hy=>h y (by simp [hy])) (by simpa using he)
theorem zO {α:Type} {lt:α → α → Bool} : ∀ {l:List α},q4 lt l = true ↔ ∀ (k:Nat) (h:k + 1 < l.length),lt (l[k]'(by omega)) l[k + 1] = true
 | []=>by simp [q4]
 | [x]=>by simp [q4]
 | x :: y :: l=>by
   have ih:=zO (lt:=lt) (l:=y :: l)
   simp only [q4,Bool.and_eq_true] at ih ⊢
   constructor
   ·rintro ⟨h1,h2⟩ k hk
    cases k with
    | zero=>exact h1
    | succ k=>exact ih.1 h2 k (by simpa using hk)
   ·intro h
    exact ⟨h 0 (by simp),ih.2 fun k hk=>h (k + 1) (by simpa using hk)⟩
structure Ent where
 path:qQ
 fold:Bool
 text:qQ
 ver:Int
 deriving DecidableEq
structure Chg where
 kind:Int
 path:qQ
 to:qQ
 text:qQ
 base:Int
 deriving DecidableEq
def jr (a b:Ent):Bool:=bytesLess a.path b.path
def atP (p:qQ) (x:Ent):Bool:=decide (x.path = p)
def y0 (t:List Ent) (p:qQ):Nat:=(t.takeWhile (fun x=>bytesLess x.path p)).length
def jW (t:List Ent) (p:qQ):Bool:=t.any (atP p)
def vH (n:Int):Bool:=decide (1 ≤ n) && decide (n ≤ 1000000)
def xg (e:Ent):Int:=if qy e.path = 0 then (if e.fold = true ∧ ¬ e.text = [] then 1 else if 300 < e.text.length then 2 else if vH e.ver = true then 0 else 3) else qy e.path
def yw (t:List Ent) (q:qQ):Int:=if q = [] then 0 else match t.find? (atP q) with|none=>5|some x=>if x.fold = true then 0 else 4
def yE (t:List Ent) (x:Ent):Int:=yw t (qG x.path)
def qD (t:List Ent):Int :=
 if 60 < t.length then 2
 else if j3 xg t = 0 then
  if q4 jr t = true then
   if t.any (fun x=>decide (yE t x = 5)) = true then 5
   else if t.any (fun x=>decide (¬ yE t x = 0)) = true then 4 else 0
  else 4
 else j3 xg t
theorem zP {t:List Ent} (h:q4 jr t = true) : ∀ (j k:Nat) (hj:j < t.length) (hk:k < t.length),j < k → bytesLess t[j].path t[k].path = true:=by
 intro j k hj hk hjk
 induction k with
 | zero=>omega
 | succ k ih =>
   have h1:bytesLess t[k].path t[k + 1].path = true:=zO.1 h k hk
   by_cases e:j = k
   ·subst e;exact h1
   ·exact ky (ih (by omega) (by omega)) h1
theorem xB {t:List Ent}:q4 jr t = true ↔ t.Pairwise (fun a b=>bytesLess a.path b.path = true):=by
 rw [List.pairwise_iff_getElem]
 constructor
 ·intro h i j hi hj hij
  exact zP h i j hi hj hij
 ·intro h
  exact zO.2 fun k hk=>h k (k + 1) (by omega) hk (by omega)
theorem KQ {p:qQ} : ∀ {t:List Ent} {k:Nat},k ≤ t.length → (∀ (j:Nat) (h:j < t.length),j < k → bytesLess t[j].path p = true) → (∀ (h:k < t.length),bytesLess t[k].path p = false) → y0 t p = k
 | [],k,hk,_,_=>by simp at hk;simp [y0,hk]
 | x :: l,0,hk,_,h2=>by
   have:=h2 (by simp)
   simp only [List.getElem_cons_zero] at this
   simp [y0,List.takeWhile_cons,this]
 | x :: l,k + 1,hk,h1,h2=>by
   have hx:bytesLess x.path p = true:=h1 0 (by simp) (by omega)
   have:=KQ (t:=l) (k:=k) (by simpa using hk) (fun j h hj=>h1 (j + 1) (by simpa using h) (by omega)) (fun h=>h2 (by simpa using h))
   simp only [y0] at this
   simp [y0,List.takeWhile_cons,hx,this]
theorem qfL (t:List Ent) (p:qQ):y0 t p ≤ t.length:=by
 induction t with
 | nil=>simp [y0]
 | cons x l ih=>simp only [y0,List.takeWhile_cons] at *;split<;>simp<;>omega
theorem qbU {t:List Ent} {p:qQ} (hs:q4 jr t = true) {k:Nat} (hk:k < t.length) (he:t[k].path = p):y0 t p = k:=by
 refine KQ (by omega) (fun j hj hjk=>?_) (fun _=>?_)
 ·rw [← he];exact zP hs j k hj hk hjk
 ·rw [← he];exact zj _
theorem WN {t:List Ent} {p:qQ} (hs:q4 jr t = true):jW t p = (match t[y0 t p]? with|some x=>decide (w9 x.path p = 0)|none=>false):=by
 rcases kD (atP p) t with ⟨_,h2⟩|⟨k,hk,_,_,h3⟩
 ·have:jW t p = false:=List.any_eq_false.2 (fun x hx=>by rw [h2 x hx];simp)
  rw [this]
  split
  ·rename_i x hx
   have hm:=List.mem_of_getElem? hx
   have:=h2 x hm
   rw [eq_comm,decide_eq_false_iff_not,X0]
   simpa [atP] using this
  ·rfl
 ·have he:t[k].path = p:=by simpa [atP] using h3
  have:jW t p = true:=List.any_eq_true.2 ⟨t[k],List.getElem_mem _,h3⟩
  rw [this,qbU hs hk he,List.getElem?_eq_getElem hk]
  simp [he,qaw]
theorem zu {t:List Ent} {p:qQ} (hs:q4 jr t = true) (h:jW t p = true) : ∃ hk:y0 t p < t.length,t[y0 t p].path = p ∧ t.find? (atP p) = some t[y0 t p] ∧ xa (atP p) t = y0 t p:=by
 obtain ⟨x,hx,hk⟩:=List.any_eq_true.1 h
 obtain ⟨k,hkl,rfl⟩:=List.getElem_of_mem hx
 have he:t[k].path = p:=by simpa [atP] using hk
 have hp:=qbU hs hkl he
 have hbef : ∀ j (hj:j < k),atP p (t[j]'(by omega)) = false:=fun j hj=>by
  have h1:=zP hs j k (by omega) hkl hj
  have:¬ t[j].path = p:=fun e=>by rw [e,he,zj] at h1;cases h1
  simp [atP,this]
 refine ⟨by omega,by simp only [hp];exact he,?_,?_⟩
 ·simp only [hp]
  rw [List.find?_eq_some_iff_getElem]
  exact ⟨hk,k,hkl,rfl,fun j hj=>by rw [hbef j hj];rfl⟩
 ·rw [hp]
  refine Jd hkl (fun x hx=>?_) hk
  obtain ⟨j,hj,rfl⟩:=List.getElem_of_mem hx
  rw [List.getElem_take]
  exact hbef j (by simp at hj;omega)
theorem xK {t:List Ent} {p:qQ} (h:jW t p = false):t.find? (atP p) = none ∧ xa (atP p) t = -1:=by
 have h1:=List.any_eq_false.1 h
 exact ⟨List.find?_eq_none.2 h1,wy fun x hx=>by simpa using h1 x hx⟩
theorem Yb {α:Type} (p:α → Bool) (l:List α):(xa p l = -1 ∧ l.find? p = none) ∨ ∃ (k:Nat) (h:k < l.length),xa p l = k ∧ l.find? p = some l[k]:=by
 rcases kD p l with ⟨h1,h2⟩|⟨k,hk,h1,h2,h3⟩
 ·exact .inl ⟨h1,List.find?_eq_none.2 fun x hx=>by rw [h2 x hx];simp⟩
 ·refine .inr ⟨k,hk,h1,?_⟩
  rw [List.find?_eq_some_iff_getElem]
  refine ⟨h3,k,hk,rfl,fun j hj=>?_⟩
  rw [h2 _ (List.mem_take_iff_getElem.2 ⟨j,by omega,rfl⟩)];rfl
end Go.Proofs.YtnhpclmbhbblbaaGreatDoor
